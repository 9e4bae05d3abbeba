/- Part. Conditions: none. -/
import Derived.Test.YtgdjbbnicgfohacGreatDoorUw
import Derived.Test.YtgdjbbnicgfohacGreatDoorTd
namespace Go.Proofs.YtgdjbbnicgfohacGreatDoor
set_option linter.unusedSimpArgs false
set_option linter.unusedVariables false
set_option maxRecDepth 4000
variable {G:aF}{bb:Bool}
open Go.Sort
theorem Kh:∀l:L Int,aT l=P4 l
 |[]=>rfl
 | x::l=>by
  by_cases h:x=0
  ·rw[h,aX,Kh l];rfl
  ·rw[aZ _ _ h,P4,if_neg h]
theorem D3(a b:L Int):Bi a b=Hv (dB a).toList (dB b).toList:=by
 unfold Bi Hv ltS gtS;cases d:Op.bytesLess (dB a).toList (dB b).toList with
 |true=>rw[if_pos rfl,if_pos rfl]
 |false=>
  rw[if_neg Bool.false_ne_true,if_neg Bool.false_ne_true];by_cases c:(dB a).toList=(dB b).toList;rw[c,P3];simp;have h3:=Ke _ _ c;rw[d] at h3;have h4:Op.bytesLess (dB b).toList (dB a).toList=true:=by
   rcases h3 with h3|h3;cases h3;exact h3
  rw[if_pos h4];have h5:((dB a).toList==(dB b).toList)=false:=by rw[beq_eq_false_iff_ne];exact c
  rw[h5];rfl
theorem aHg(a b:aJ):pZ a b=cmD a.e b.e:=by
 unfold pZ cmD;rw[Kh,D3];rfl
theorem aAS:Cm (fun _=>True) pZ:=by
 have h:=X6.map (P:=fun _=>True) (fun a:aJ=>a.e) (fun _ _=>trivial)
 have e:pZ=fun a b=>cmD a.e b.e:=by funext a b;exact aHg a b
 rw[e];exact h
theorem T9{α d:Type}(f:α->d)(c:d->d->Int)(p:L α)(x:α):∀k,uY c (p.map f) (f x) k=uY (fun a b=>c (f a) (f b)) p x k
 |0=>rfl
 | k+1=>by
  rw[uY,uY,aZi];cases h:p[k]? with
  | none=>rfl
  | some y=>
   simp only[aZg];rw[T9 f c p x k]
theorem aHh{α d:Type}(f:α->d)(c:d->d->Int)(p:L α)(x:α):Fg c (p.map f) (f x)=(Fg (fun a b=>c (f a) (f b)) p x).map f:=by
 unfold Fg;rw[aZa,T9,aZR,aZZ,aZl,bAq]
theorem aHi{α e:Type}(f:α->e)(c:e->e->Int)(l:L α):G3 c (l.map f)=(G3 (fun a b=>c (f a) (f b)) l).map f:=by
 unfold G3;have d:∀ (l p:L α),(l.map f).foldl (Fg c) (p.map f)=(l.foldl (Fg fun a b=>c (f a) (f b)) p).map f:=by
  intro l
  induction l with
  | nil=>intro p;rfl
  | cons x l g=>intro p;rw[aZl,bAu,bAu,aHh,g]
 exact d l []
def fA(l:L aJ):L aJ:=G3 pZ l
theorem aQs(l:L aJ):G3 cmD (l.map aJ.e)=(fA l).map aJ.e:=by
 have e:pZ=fun a b=>cmD a.e b.e:=by funext a b;exact aHg a b
 unfold fA;rw[e];exact aHi (fun a:aJ=>a.e) cmD l
theorem rQ(l:L aJ):(fA l).Perm l:=Nn pZ l
theorem uZ(l:L aJ):(fA l).length=l.length:=(rQ l).length_eq
theorem Kj{l:L aJ}{a:aJ}:a∈fA l↔a∈l:=(rQ l).mem_iff
theorem A1(l:L aJ):(∀k,k<l.length->kR l k=0)↔(∀a∈l,gE a=0)/\(l.map aJ.id).Nodup:=by
 have g:∀ k (b:k < l.length),kR l k=0↔gE l[k]=0/\Xy l k=false:=fun k b=>by
  unfold kR;rw[eY l k b];by_cases c:gE l[k]=0
  ·rw[c,aX];cases Xy l k with
   | true=>simp[un,aT]
   | false=>simp[un,aT]
  ·rw[aZ _ _ c];simp[c]
 have n:∀ k (b:k < l.length),Xy l k=false↔∀ j (d:j < k),l[j].id≠l[k].id:=fun k b=>by
  unfold Xy;rw[eY l k b,bAm];constructor
  ·intro h j d e;have:=h l[j] (by rw[List.mem_take_iff_getElem];exact⟨j,by omega,rfl⟩);simp[e] at this
  ·intro h x o;rw[List.mem_take_iff_getElem] at o;obtain⟨j,d,rfl⟩:=o;simpa using h j (by omega)
 constructor;intro h;refine⟨fun a q=>?_,?_⟩
 obtain⟨k,b,rfl⟩:=List.getElem_of_mem q;exact ((g k b).1 (h k b)).1;rw[List.Nodup,List.pairwise_map,bAO];intro i j r d f;exact (n j d).1 ((g j d).1 (h j d)).2 i f;rintro⟨p,m⟩ k b;rw[List.Nodup,List.pairwise_map,bAO] at m;exact (g k b).2 ⟨p _ (aZk b),(n k b).2 (fun j d=>m j k (by omega) b d)⟩
theorem aHj{l:L aJ}(h:∀k,k<l.length->kR l k=0):∀k,k<(fA l).length->kR (fA l) k=0:=by
 rw[A1] at h ⊢;refine⟨fun a b=>h.1 a (Kj.1 b),?_⟩
 exact ((rQ l).map aJ.id).nodup_iff.2 h.2
theorem aLS(l:L aJ)(k:Nat)(a:k<(fA l).length)(h0:k≠0):pZ (fA l)[k-1] (fA l)[k]<=0:=by
 have h:=Gd aAS (l:=l) (fun _ _=>trivial)
 exact (bAO.1 h) (k-1) k (by have:(fA l).length=(G3 pZ l).length:=rfl;omega) a (by omega)
noncomputable def Ua(l:L aJ):Int:=if l.length > 32 then 8 else if ix (fun k=>kR l k≠0) l.length<l.length then kR l (ix (fun k=>kR l k≠0) l.length) else 0
theorem aQt{l:L aJ}(h:Ua l=0):l.length<=32/\∀k,k<l.length->kR l k=0:=by
 unfold Ua at h;split at h;cases h;rename_i c;refine⟨by omega,fun k e=>?_⟩
 obtain⟨b,a,h3⟩:=bE (fun k=>kR l k≠0) l.length
 generalize ix (fun k=>kR l k≠0) l.length=i at *
 split at h;rename_i d;rcases a with a|⟨_,a⟩
 omega;exact absurd h a;exact Classical.not_not.1 (h3 k (by omega))
theorem aLT{l:L aJ}(b:l.length<=32)(h:∀k,k<l.length->kR l k=0):Ua l=0:=by
 unfold Ua;rw[if_neg (by omega)];split;rename_i a;exact h _ a;rfl
def Lv(l:L aJ)(k:Nat):Prop:=k≠0/\nR (l.getD (k-1) aJ.nil) (l.getD k aJ.nil)=true/\(l.getD k aJ.nil).ty≠48
theorem Kk{l:L aJ}(h:∀k,k<l.length->kR l k=0){k:Nat}(b:k<(fA l).length):(¬ Lv (fA l) k->lL (fA l) k=0)/\(Lv (fA l) k->lL (fA l) k=5):=by
 have d:=aHj h k b;by_cases h0:k=0;subst h0;unfold lL;rw[if_pos rfl];exact⟨fun _=>d,fun q=>absurd rfl q.1⟩
 have c:=aLS l k b h0;unfold lL;rw[if_neg h0,d,aX];unfold Lv;rw[eY _ (k-1) (by omega),eY _ k b,decide_eq_true c,gA,aX];cases e:nR (fA l)[k-1] (fA l)[k] with
 |false=>exact⟨fun _=>rfl,fun q=>by cases q.2.1⟩
 |true=>
  by_cases a:(fA l)[k].ty=48;rw[decide_eq_true a];exact⟨fun _=>rfl,fun q=>absurd a q.2.2⟩
  rw[decide_eq_false a];exact⟨fun q=>absurd ⟨h0,rfl,a⟩ q,fun _=>rfl⟩
theorem aHk{l:L aJ}(p:l.length<=32)(h:∀k,k<l.length->kR l k=0):(nN (fA l)).2=if ix (fun k=>Lv (fA l) (k+1)) ((fA l).length-1)<(fA l).length-1 then 5 else 0:=by
 have r:=uZ l;unfold nN;rw[if_neg (by omega)];obtain⟨n,d,f⟩:=bE (fun k=>lL (fA l) k≠0) (fA l).length
 obtain⟨o,e,g⟩:=bE (fun k=>Lv (fA l) (k+1)) ((fA l).length-1)
 generalize ix (fun k=>lL (fA l) k≠0) (fA l).length=i at *
 generalize ix (fun k=>Lv (fA l) (k+1)) ((fA l).length-1)=j at *
 by_cases c:i<(fA l).length;rw[if_pos c];have m:lL (fA l) i≠0:=by
  rcases d with d|⟨_,d⟩;omega;exact d
 have b:Lv (fA l) i:=Classical.byContradiction fun q=>m ((Kk h c).1 q)
 rw[(Kk h c).2 b];have a:j<(fA l).length-1:=by
  have h0:=b.1;refine Classical.byContradiction fun q=>?_
  have:=g (i-1) (by omega);rw[show i-1+1=i by omega] at this;exact this b
 rw[if_pos a]
 rw[if_neg c];have a:¬ j < (fA l).length - 1:=fun q=>by
  have b:Lv (fA l) (j+1):=by
   rcases e with e | ⟨_,e⟩
   ·omega
   ·exact e
  have h5:=(Kk h (k:=j+1) (by omega)).2 b;have:=f (j+1) (by omega);rw[h5] at this;exact this (by decide)
 rw[if_neg a]
