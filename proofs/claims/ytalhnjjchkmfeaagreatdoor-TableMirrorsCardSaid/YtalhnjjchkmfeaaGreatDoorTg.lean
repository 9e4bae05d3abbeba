/- Part. Conditions: none. -/
import Derived.Test.YtalhnjjchkmfeaaGreatDoorVo
import Derived.Test.YtalhnjjchkmfeaaGreatDoorTd
namespace Go.Proofs.YtalhnjjchkmfeaaGreatDoor
set_option linter.unusedSimpArgs false
set_option linter.unusedVariables false
set_option maxRecDepth 4000
variable {G:aF}{bb:Bool}
open Go.Sort
theorem Kk:∀l:L Int,aU l=Qb l
 |[]=>rfl
 | x::l=>by
  by_cases h:x=0
  ·rw[h,aW,Kk l];rfl
  ·rw[aZ _ _ h,Qb,if_neg h]
theorem Ea(a b:L Int):Bq a b=H5 (dI a).toList (dI b).toList:=by
 unfold Bq H5 ltS gtS;cases d:Op.bytesLess (dI a).toList (dI b).toList with
 |true=>rw[if_pos rfl,if_pos rfl]
 |false=>
  rw[if_neg Bool.false_ne_true,if_neg Bool.false_ne_true];by_cases c:(dI a).toList=(dI b).toList;rw[c,Qa];simp;have h3:=Kg _ _ c;rw[d] at h3;have h4:Op.bytesLess (dI b).toList (dI a).toList=true:=by
   rcases h3 with h3|h3;cases h3;exact h3
  rw[if_pos h4];have h5:((dI a).toList==(dI b).toList)=false:=by rw[beq_eq_false_iff_ne];exact c
  rw[h5];rfl
theorem aHj(a b:aI):qE a b=cmD a.e b.e:=by
 unfold qE cmD;rw[Kk,Ea];rfl
theorem aA0:Cm (fun _=>True) qE:=by
 have h:=Yg.map (P:=fun _=>True) (fun a:aI=>a.e) (fun _ _=>trivial)
 have e:qE=fun a b=>cmD a.e b.e:=by funext a b;exact aHj a b
 rw[e];exact h
theorem Uh{α d:Type}(f:α->d)(c:d->d->Int)(p:L α)(x:α):∀k,Ac c (p.map f) (f x) k=Ac (fun a b=>c (f a) (f b)) p x k
 |0=>rfl
 | k+1=>by
  rw[Ac,Ac,aZI];cases h:p[k]? with
  | none=>rfl
  | some y=>
   simp only[aZF];rw[Uh f c p x k]
theorem aHk{α d:Type}(f:α->d)(c:d->d->Int)(p:L α)(x:α):Fn c (p.map f) (f x)=(Fn (fun a b=>c (f a) (f b)) p x).map f:=by
 unfold Fn;rw[aZz,Uh,bAg,bAo,aZL,bAV]
theorem aHl{α e:Type}(f:α->e)(c:e->e->Int)(l:L α):Hf c (l.map f)=(Hf (fun a b=>c (f a) (f b)) l).map f:=by
 unfold Hf;have d:∀ (l p:L α),(l.map f).foldl (Fn c) (p.map f)=(l.foldl (Fn fun a b=>c (f a) (f b)) p).map f:=by
  intro l
  induction l with
  | nil=>intro p;rfl
  | cons x l g=>intro p;rw[aZL,bAN,bAN,aHk,g]
 exact d l []
def fJ(l:L aI):L aI:=Hf qE l
theorem aQP(l:L aI):Hf cmD (l.map aI.e)=(fJ l).map aI.e:=by
 have e:qE=fun a b=>cmD a.e b.e:=by funext a b;exact aHj a b
 unfold fJ;rw[e];exact aHl (fun a:aI=>a.e) cmD l
theorem rT(l:L aI):(fJ l).Perm l:=Nt qE l
theorem Ad(l:L aI):(fJ l).length=l.length:=(rT l).length_eq
theorem Kl{l:L aI}{a:aI}:a∈fJ l↔a∈l:=(rT l).mem_iff
theorem A7(l:L aI):(∀k,k<l.length->kT l k=0)↔(∀a∈l,gI a=0)/\(l.map aI.id).Nodup:=by
 have g:∀ k (b:k < l.length),kT l k=0↔gI l[k]=0/\Ya l k=false:=fun k b=>by
  unfold kT;rw[fH l k b];by_cases c:gI l[k]=0
  ·rw[c,aW];cases Ya l k with
   | true=>simp[un,aU]
   | false=>simp[un,aU]
  ·rw[aZ _ _ c];simp[c]
 have n:∀ k (b:k < l.length),Ya l k=false↔∀ j (d:j < k),l[j].id≠l[k].id:=fun k b=>by
  unfold Ya;rw[fH l k b,bAR];constructor
  ·intro h j d e;have:=h l[j] (by rw[List.mem_take_iff_getElem];exact⟨j,by omega,rfl⟩);simp[e] at this
  ·intro h x o;rw[List.mem_take_iff_getElem] at o;obtain⟨j,d,rfl⟩:=o;simpa using h j (by omega)
 constructor;intro h;refine⟨fun a q=>?_,?_⟩
 obtain⟨k,b,rfl⟩:=List.getElem_of_mem q;exact ((g k b).1 (h k b)).1;rw[List.Nodup,List.pairwise_map,bBj];intro i j r d f;exact (n j d).1 ((g j d).1 (h j d)).2 i f;rintro⟨p,m⟩ k b;rw[List.Nodup,List.pairwise_map,bBj] at m;exact (g k b).2 ⟨p _ (aZG b),(n k b).2 (fun j d=>m j k (by omega) b d)⟩
theorem aHm{l:L aI}(h:∀k,k<l.length->kT l k=0):∀k,k<(fJ l).length->kT (fJ l) k=0:=by
 rw[A7] at h ⊢;refine⟨fun a b=>h.1 a (Kl.1 b),?_⟩
 exact ((rT l).map aI.id).nodup_iff.2 h.2
theorem aMa(l:L aI)(k:Nat)(a:k<(fJ l).length)(b:k≠0):qE (fJ l)[k-1] (fJ l)[k]<=0:=by
 have h:=Gp aA0 (l:=l) (fun _ _=>trivial)
 exact (bBj.1 h) (k-1) k (by have:(fJ l).length=(Hf qE l).length:=rfl;omega) a (by omega)
noncomputable def Ui(l:L aI):Int:=if l.length > 32 then 8 else if ix (fun k=>kT l k≠0) l.length<l.length then kT l (ix (fun k=>kT l k≠0) l.length) else 0
theorem aQQ{l:L aI}(h:Ui l=0):l.length<=32/\∀k,k<l.length->kT l k=0:=by
 unfold Ui at h;split at h;cases h;rename_i c;refine⟨by omega,fun k e=>?_⟩
 obtain⟨b,a,h3⟩:=bF (fun k=>kT l k≠0) l.length
 generalize ix (fun k=>kT l k≠0) l.length=i at *
 split at h;rename_i d;rcases a with a|⟨_,a⟩
 omega;exact absurd h a;exact Classical.not_not.1 (h3 k (by omega))
theorem aMb{l:L aI}(b:l.length<=32)(h:∀k,k<l.length->kT l k=0):Ui l=0:=by
 unfold Ui;rw[if_neg (by omega)];split;rename_i a;exact h _ a;rfl
def L9(l:L aI)(k:Nat):Prop:=k≠0/\nV (l.getD (k-1) aI.nil) (l.getD k aI.nil)=true/\(l.getD k aI.nil).ty≠48
theorem Km{l:L aI}(h:∀k,k<l.length->kT l k=0){k:Nat}(c:k<(fJ l).length):(¬ L9 (fJ l) k->lN (fJ l) k=0)/\(L9 (fJ l) k->lN (fJ l) k=5):=by
 have e:=aHm h k c;by_cases b:k=0;subst b;unfold lN;rw[if_pos rfl];exact⟨fun _=>e,fun q=>absurd rfl q.1⟩
 have d:=aMa l k c b;unfold lN;rw[if_neg b,e,aW];unfold L9;rw[fH _ (k-1) (by omega),fH _ k c,decide_eq_true d,gE,aW];cases f:nV (fJ l)[k-1] (fJ l)[k] with
 |false=>exact⟨fun _=>rfl,fun q=>by cases q.2.1⟩
 |true=>
  by_cases a:(fJ l)[k].ty=48;rw[decide_eq_true a];exact⟨fun _=>rfl,fun q=>absurd a q.2.2⟩
  rw[decide_eq_false a];exact⟨fun q=>absurd ⟨b,rfl,a⟩ q,fun _=>rfl⟩
theorem aHn{l:L aI}(r:l.length<=32)(h:∀k,k<l.length->kT l k=0):(nP (fJ l)).2=if ix (fun k=>L9 (fJ l) (k+1)) ((fJ l).length-1)<(fJ l).length-1 then 5 else 0:=by
 have s:=Ad l;unfold nP;rw[if_neg (by omega)];obtain⟨n,d,f⟩:=bF (fun k=>lN (fJ l) k≠0) (fJ l).length
 obtain⟨o,e,g⟩:=bF (fun k=>L9 (fJ l) (k+1)) ((fJ l).length-1)
 generalize ix (fun k=>lN (fJ l) k≠0) (fJ l).length=i at *
 generalize ix (fun k=>L9 (fJ l) (k+1)) ((fJ l).length-1)=j at *
 by_cases c:i<(fJ l).length;rw[if_pos c];have m:lN (fJ l) i≠0:=by
  rcases d with d|⟨_,d⟩;omega;exact d
 have b:L9 (fJ l) i:=Classical.byContradiction fun q=>m ((Km h c).1 q)
 rw[(Km h c).2 b];have a:j<(fJ l).length-1:=by
  have p:=b.1;refine Classical.byContradiction fun q=>?_
  have:=g (i-1) (by omega);rw[show i-1+1=i by omega] at this;exact this b
 rw[if_pos a]
 rw[if_neg c];have a:¬ j < (fJ l).length - 1:=fun q=>by
  have b:L9 (fJ l) (j+1):=by
   rcases e with e | ⟨_,e⟩
   ·omega
   ·exact e
  have h5:=(Km h (k:=j+1) (by omega)).2 b;have:=f (j+1) (by omega);rw[h5] at this;exact this (by decide)
 rw[if_neg a]
