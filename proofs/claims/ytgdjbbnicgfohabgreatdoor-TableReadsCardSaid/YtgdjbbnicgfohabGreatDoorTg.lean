/- Part. Conditions: none. -/
import Derived.Test.YtgdjbbnicgfohabGreatDoorVo
import Derived.Test.YtgdjbbnicgfohabGreatDoorTd
namespace Go.Proofs.YtgdjbbnicgfohabGreatDoor
set_option linter.unusedSimpArgs false
set_option linter.unusedVariables false
set_option maxRecDepth 4000
variable {G:aF}{bb:Bool}
open Go.Sort
theorem Kl:∀l:L Int,aT l=P8 l
 |[]=>rfl
 | x::l=>by
  by_cases h:x=0
  ·rw[h,aV,Kl l];rfl
  ·rw[aY _ _ h,P8,if_neg h]
theorem D6(a b:L Int):Bn a b=H3 (dO a).toList (dO b).toList:=by
 unfold Bn H3 ltS gtS;cases d:Op.bytesLess (dO a).toList (dO b).toList with
 |true=>rw[if_pos rfl,if_pos rfl]
 |false=>
  rw[if_neg Bool.false_ne_true,if_neg Bool.false_ne_true];by_cases c:(dO a).toList=(dO b).toList;rw[c,P7];simp;have h3:=Kh _ _ c;rw[d] at h3;have h4:Op.bytesLess (dO b).toList (dO a).toList=true:=by
   rcases h3 with h3|h3;cases h3;exact h3
  rw[if_pos h4];have h5:((dO a).toList==(dO b).toList)=false:=by rw[beq_eq_false_iff_ne];exact c
  rw[h5];rfl
theorem aHd(a b:aJ):qE a b=cmD a.e b.e:=by
 unfold qE cmD;rw[Kl,D6];rfl
theorem aA2:Cm (fun _=>True) qE:=by
 have h:=Yh.map (P:=fun _=>True) (fun a:aJ=>a.e) (fun _ _=>trivial)
 have e:qE=fun a b=>cmD a.e b.e:=by funext a b;exact aHd a b
 rw[e];exact h
theorem Uj{α d:Type}(f:α->d)(c:d->d->Int)(p:L α)(x:α):∀k,uW c (p.map f) (f x) k=uW (fun a b=>c (f a) (f b)) p x k
 |0=>rfl
 | k+1=>by
  rw[uW,uW,aZH];cases h:p[k]? with
  | none=>rfl
  | some y=>
   simp only[aZG];rw[Uj f c p x k]
theorem aHe{α d:Type}(f:α->d)(c:d->d->Int)(p:L α)(x:α):Fg c (p.map f) (f x)=(Fg (fun a b=>c (f a) (f b)) p x).map f:=by
 unfold Fg;rw[aZA,Uj,bAh,bAp,aZM,bAR]
theorem aHf{α e:Type}(f:α->e)(c:e->e->Int)(l:L α):Ha c (l.map f)=(Ha (fun a b=>c (f a) (f b)) l).map f:=by
 unfold Ha;have d:∀ (l p:L α),(l.map f).foldl (Fg c) (p.map f)=(l.foldl (Fg fun a b=>c (f a) (f b)) p).map f:=by
  intro l
  induction l with
  | nil=>intro p;rfl
  | cons x l g=>intro p;rw[aZM,bAU,bAU,aHe,g]
 exact d l []
def fK(l:L aJ):L aJ:=Ha qE l
theorem aQQ(l:L aJ):Ha cmD (l.map aJ.e)=(fK l).map aJ.e:=by
 have e:qE=fun a b=>cmD a.e b.e:=by funext a b;exact aHd a b
 unfold fK;rw[e];exact aHf (fun a:aJ=>a.e) cmD l
theorem rT(l:L aJ):(fK l).Perm l:=Ns qE l
theorem uX(l:L aJ):(fK l).length=l.length:=(rT l).length_eq
theorem Km{l:L aJ}{a:aJ}:a∈fK l↔a∈l:=(rT l).mem_iff
theorem Az(l:L aJ):(∀k,k<l.length->kU l k=0)↔(∀a∈l,gI a=0)/\(l.map aJ.id).Nodup:=by
 have g:∀ k (b:k < l.length),kU l k=0↔gI l[k]=0/\Yb l k=false:=fun k b=>by
  unfold kU;rw[fJ l k b];by_cases c:gI l[k]=0
  ·rw[c,aV];cases Yb l k with
   | true=>simp[un,aT]
   | false=>simp[un,aT]
  ·rw[aY _ _ c];simp[c]
 have n:∀ k (b:k < l.length),Yb l k=false↔∀ j (d:j < k),l[j].id≠l[k].id:=fun k b=>by
  unfold Yb;rw[fJ l k b,bAM];constructor
  ·intro h j d e;have:=h l[j] (by rw[List.mem_take_iff_getElem];exact⟨j,by omega,rfl⟩);simp[e] at this
  ·intro h x o;rw[List.mem_take_iff_getElem] at o;obtain⟨j,d,rfl⟩:=o;simpa using h j (by omega)
 constructor;intro h;refine⟨fun a q=>?_,?_⟩
 obtain⟨k,b,rfl⟩:=List.getElem_of_mem q;exact ((g k b).1 (h k b)).1;rw[List.Nodup,List.pairwise_map,bBe];intro i j r d f;exact (n j d).1 ((g j d).1 (h j d)).2 i f;rintro⟨p,m⟩ k b;rw[List.Nodup,List.pairwise_map,bBe] at m;exact (g k b).2 ⟨p _ (aZK b),(n k b).2 (fun j d=>m j k (by omega) b d)⟩
theorem aHg{l:L aJ}(h:∀k,k<l.length->kU l k=0):∀k,k<(fK l).length->kU (fK l) k=0:=by
 rw[Az] at h ⊢;refine⟨fun a b=>h.1 a (Km.1 b),?_⟩
 exact ((rT l).map aJ.id).nodup_iff.2 h.2
theorem aL6(l:L aJ)(k:Nat)(a:k<(fK l).length)(b:k≠0):qE (fK l)[k-1] (fK l)[k]<=0:=by
 have h:=Gj aA2 (l:=l) (fun _ _=>trivial)
 exact (bBe.1 h) (k-1) k (by have:(fK l).length=(Ha qE l).length:=rfl;omega) a (by omega)
noncomputable def Ul(l:L aJ):Int:=if l.length > 32 then 8 else if ix (fun k=>kU l k≠0) l.length<l.length then kU l (ix (fun k=>kU l k≠0) l.length) else 0
theorem aQR{l:L aJ}(h:Ul l=0):l.length<=32/\∀k,k<l.length->kU l k=0:=by
 unfold Ul at h;split at h;cases h;rename_i c;refine⟨by omega,fun k e=>?_⟩
 obtain⟨b,a,h3⟩:=bD (fun k=>kU l k≠0) l.length
 generalize ix (fun k=>kU l k≠0) l.length=i at *
 split at h;rename_i d;rcases a with a|⟨_,a⟩
 omega;exact absurd h a;exact Classical.not_not.1 (h3 k (by omega))
theorem aL7{l:L aJ}(b:l.length<=32)(h:∀k,k<l.length->kU l k=0):Ul l=0:=by
 unfold Ul;rw[if_neg (by omega)];split;rename_i a;exact h _ a;rfl
def L8(l:L aJ)(k:Nat):Prop:=k≠0/\nU (l.getD (k-1) aJ.nil) (l.getD k aJ.nil)=true/\(l.getD k aJ.nil).ty≠48
theorem Kn{l:L aJ}(h:∀k,k<l.length->kU l k=0){k:Nat}(c:k<(fK l).length):(¬ L8 (fK l) k->lO (fK l) k=0)/\(L8 (fK l) k->lO (fK l) k=5):=by
 have e:=aHg h k c;by_cases b:k=0;subst b;unfold lO;rw[if_pos rfl];exact⟨fun _=>e,fun q=>absurd rfl q.1⟩
 have d:=aL6 l k c b;unfold lO;rw[if_neg b,e,aV];unfold L8;rw[fJ _ (k-1) (by omega),fJ _ k c,decide_eq_true d,gE,aV];cases f:nU (fK l)[k-1] (fK l)[k] with
 |false=>exact⟨fun _=>rfl,fun q=>by cases q.2.1⟩
 |true=>
  by_cases a:(fK l)[k].ty=48;rw[decide_eq_true a];exact⟨fun _=>rfl,fun q=>absurd a q.2.2⟩
  rw[decide_eq_false a];exact⟨fun q=>absurd ⟨b,rfl,a⟩ q,fun _=>rfl⟩
theorem aHh{l:L aJ}(r:l.length<=32)(h:∀k,k<l.length->kU l k=0):(nO (fK l)).2=if ix (fun k=>L8 (fK l) (k+1)) ((fK l).length-1)<(fK l).length-1 then 5 else 0:=by
 have s:=uX l;unfold nO;rw[if_neg (by omega)];obtain⟨n,d,f⟩:=bD (fun k=>lO (fK l) k≠0) (fK l).length
 obtain⟨o,e,g⟩:=bD (fun k=>L8 (fK l) (k+1)) ((fK l).length-1)
 generalize ix (fun k=>lO (fK l) k≠0) (fK l).length=i at *
 generalize ix (fun k=>L8 (fK l) (k+1)) ((fK l).length-1)=j at *
 by_cases c:i<(fK l).length;rw[if_pos c];have m:lO (fK l) i≠0:=by
  rcases d with d|⟨_,d⟩;omega;exact d
 have b:L8 (fK l) i:=Classical.byContradiction fun q=>m ((Kn h c).1 q)
 rw[(Kn h c).2 b];have a:j<(fK l).length-1:=by
  have p:=b.1;refine Classical.byContradiction fun q=>?_
  have:=g (i-1) (by omega);rw[show i-1+1=i by omega] at this;exact this b
 rw[if_pos a]
 rw[if_neg c];have a:¬ j < (fK l).length - 1:=fun q=>by
  have b:L8 (fK l) (j+1):=by
   rcases e with e | ⟨_,e⟩
   ·omega
   ·exact e
  have h5:=(Kn h (k:=j+1) (by omega)).2 b;have:=f (j+1) (by omega);rw[h5] at this;exact this (by decide)
 rw[if_neg a]
