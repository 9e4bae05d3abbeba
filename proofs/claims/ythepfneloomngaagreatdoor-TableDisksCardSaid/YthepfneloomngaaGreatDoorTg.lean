/- Attributes in order: mathematics. Conditions: none. -/
import Derived.Test.YthepfneloomngaaGreatDoorUw
import Derived.Test.YthepfneloomngaaGreatDoorTd
namespace Go.Proofs.YthepfneloomngaaGreatDoor
set_option linter.unusedSimpArgs false
set_option linter.unusedVariables false
set_option maxRecDepth 4000
variable {G:aF} {bb:Bool}
open Go.Sort
theorem G8:∀ l:List Int,aQ l=Lx l
 | []=>rfl
 | x::l=>by
  by_cases h:x=0
  ·rw[h,aX,G8 l];rfl
  ·rw[aZ _ _ h,Lx,if_neg h]
theorem As(a b:List Int):tV a b=En (dO a).toList (dO b).toList:=by
 unfold tV En ltS gtS;cases h1:Op.bytesLess (dO a).toList (dO b).toList with
 | true=>rw[if_pos rfl,if_pos rfl]
 | false=>
  rw[if_neg Bool.false_ne_true,if_neg Bool.false_ne_true];by_cases h2:(dO a).toList=(dO b).toList
  ·rw[h2,Lu];simp
  ·have h3:=G5 _ _ h2;rw[h1] at h3;have h4:Op.bytesLess (dO b).toList (dO a).toList=true:=by
    rcases h3 with h3 | h3
    ·cases h3
    ·exact h3
   rw[if_pos h4];have h5:((dO a).toList==(dO b).toList)=false:=by rw[beq_eq_false_iff_ne];exact h2
   rw[h5];rfl
theorem aEn(a b:aK):iQ a b=Wu a.e b.e:=by
 unfold iQ Wu;rw[G8,As];rfl
theorem Wv:Cm (fun _=>True) iQ:=by
 have h:=Tm.map (P:=fun _=>True) (fun a:aK=>a.e) (fun _ _=>trivial)
 have e:iQ=fun a b=>Wu a.e b.e:=by funext a b;exact aEn a b
 rw[e];exact h
theorem Pt{α β:Type}(f:α->β)(c:β->β->Int)(p:List α)(x:α):∀ k,qK c (p.map f) (f x) k=qK (fun a b=>c (f a) (f b)) p x k
 | 0=>rfl
 | k+1=>by
  rw[qK,qK,aWl];cases h:p[k]? with
  | none=>rfl
  | some y=>
   simp only[aWi];rw[Pt f c p x k]
theorem aEo{α β:Type}(f:α->β)(c:β->β->Int)(p:List α)(x:α):tW c (p.map f) (f x)=(tW (fun a b=>c (f a) (f b)) p x).map f:=by
 unfold tW;rw[aWf,Pt,aWW,aW2,aWp,aXt]
theorem aEp{α β:Type}(f:α->β)(c:β->β->Int)(l:List α):pR c (l.map f)=(pR (fun a b=>c (f a) (f b)) l).map f:=by
 unfold pR;have key:∀ (l p:List α),(l.map f).foldl (tW c) (p.map f)=(l.foldl (tW fun a b=>c (f a) (f b)) p).map f:=by
  intro l
  induction l with
  | nil=>intro p;rfl
  | cons x l ih=>intro p;rw[aWp,aXp,aXp,aEo,ih]
 exact key l []
def dL(l:List aK):List aK:=pR iQ l
theorem aEq(l:List aK):pR Wu (l.map aK.e)=(dL l).map aK.e:=by
 have e:iQ=fun a b=>Wu a.e b.e:=by funext a b;exact aEn a b
 unfold dL;rw[e];exact aEp (fun a:aK=>a.e) Wu l
theorem pS(l:List aK):(dL l).Perm l:=B9 iQ l
theorem pT(l:List aK):(dL l).length=l.length:=(pS l).length_eq
theorem Ha{l:List aK}{a:aK}:a∈dL l↔a∈l:=(pS l).mem_iff
theorem At(l:List aK):(∀ k,k < l.length->lU l k=0)↔(∀ a∈l,gU a=0)/\(l.map aK.id).Nodup:=by
 have hs:∀ k (hk:k < l.length),lU l k=0↔gU l[k]=0/\aAv l k=false:=fun k hk=>by
  unfold lU;rw[gZ l k hk];by_cases c:gU l[k]=0
  ·rw[c,aX];cases aAv l k with
   | true=>simp[un,aQ]
   | false=>simp[un,aQ]
  ·rw[aZ _ _ c];simp[c]
 have hd:∀ k (hk:k < l.length),aAv l k=false↔∀ j (hj:j < k),l[j].id≠l[k].id:=fun k hk=>by
  unfold aAv;rw[gZ l k hk,aXE];constructor
  ·intro h j hj e;have:=h l[j] (by rw[List.mem_take_iff_getElem];exact⟨j,by omega,rfl⟩);simp[e] at this
  ·intro h x hx;rw[List.mem_take_iff_getElem] at hx;obtain⟨j,hj,rfl⟩:=hx;simpa using h j (by omega)
 constructor
 ·intro h;refine⟨fun a ha=>?_, ?_⟩
  ·obtain⟨k,hk,rfl⟩:=List.getElem_of_mem ha;exact ((hs k hk).1 (h k hk)).1
  ·rw[List.Nodup,List.pairwise_map,aXR];intro i j hi hj hij;exact (hd j hj).1 ((hs j hj).1 (h j hj)).2 i hij
 ·rintro⟨h1,h2⟩ k hk;rw[List.Nodup,List.pairwise_map,aXR] at h2;exact (hs k hk).2 ⟨h1 _ (aWq hk),(hd k hk).2 (fun j hj=>h2 j k (by omega) hk hj)⟩
theorem aEr{l:List aK}(h:∀ k,k < l.length->lU l k=0):∀ k,k < (dL l).length->lU (dL l) k=0:=by
 rw[At] at h ⊢;refine⟨fun a ha=>h.1 a (Ha.1 ha), ?_⟩
 exact ((pS l).map aK.id).nodup_iff.2 h.2
theorem aIU(l:List aK)(k:Nat)(hk:k < (dL l).length)(h0:k≠0):iQ (dL l)[k - 1] (dL l)[k]<=0:=by
 have h:=C7 Wv (l:=l) (fun _ _=>trivial)
 exact (aXR.1 h) (k - 1) k (by have:(dL l).length=(pR iQ l).length:=rfl;omega) hk (by omega)
noncomputable def Pu(l:List aK):Int:=if l.length > 32 then 8 else if ix (fun k=>lU l k≠0) l.length < l.length then lU l (ix (fun k=>lU l k≠0) l.length) else 0
theorem aNB{l:List aK}(h:Pu l=0):l.length<=32/\∀ k,k < l.length->lU l k=0:=by
 unfold Pu at h;split at h
 ·cases h
 ·rename_i c;refine⟨by omega,fun k hk=>?_⟩
  obtain⟨h1,h2,h3⟩:=bZ (fun k=>lU l k≠0) l.length
  generalize ix (fun k=>lU l k≠0) l.length=i at *
  split at h
  ·rename_i hi;rcases h2 with h2 | ⟨_,h2⟩
   ·omega
   ·exact absurd h h2
  ·exact Classical.not_not.1 (h3 k (by omega))
theorem aIV{l:List aK}(h1:l.length<=32)(h:∀ k,k < l.length->lU l k=0):Pu l=0:=by
 unfold Pu;rw[if_neg (by omega)];split
 ·rename_i hi;exact h _ hi
 ·rfl
def Ij(l:List aK)(k:Nat):Prop:=k≠0/\mN (l.getD (k - 1) aK.nil) (l.getD k aK.nil)=true/\(l.getD k aK.nil).ty≠48
theorem Hb{l:List aK}(h:∀ k,k < l.length->lU l k=0){k:Nat}(hk:k < (dL l).length):(¬ Ij (dL l) k->mO (dL l) k=0)/\(Ij (dL l) k->mO (dL l) k=5):=by
 have hs:=aEr h k hk;by_cases h0:k=0
 ·subst h0;unfold mO;rw[if_pos rfl];exact⟨fun _=>hs,fun q=>absurd rfl q.1⟩
 ·have hle:=aIU l k hk h0;unfold mO;rw[if_neg h0,hs,aX];unfold Ij;rw[gZ _ (k - 1) (by omega),gZ _ k hk,decide_eq_true hle,fY,aX];cases c1:mN (dL l)[k - 1] (dL l)[k] with
  | false=>exact⟨fun _=>rfl,fun q=>by cases q.2.1⟩
  | true=>
   by_cases c2:(dL l)[k].ty=48
   ·rw[decide_eq_true c2];exact⟨fun _=>rfl,fun q=>absurd c2 q.2.2⟩
   ·rw[decide_eq_false c2];exact⟨fun q=>absurd ⟨h0,rfl,c2⟩ q,fun _=>rfl⟩
theorem aEs{l:List aK}(hl:l.length<=32)(h:∀ k,k < l.length->lU l k=0):(sF (dL l)).2=if ix (fun k=>Ij (dL l) (k+1)) ((dL l).length - 1) < (dL l).length - 1 then 5 else 0:=by
 have hn:=pT l;unfold sF;rw[if_neg (by omega)];obtain⟨a1,a2,a3⟩:=bZ (fun k=>mO (dL l) k≠0) (dL l).length
 obtain⟨b1,b2,b3⟩:=bZ (fun k=>Ij (dL l) (k+1)) ((dL l).length - 1)
 generalize ix (fun k=>mO (dL l) k≠0) (dL l).length=i at *
 generalize ix (fun k=>Ij (dL l) (k+1)) ((dL l).length - 1)=j at *
 by_cases c:i < (dL l).length
 ·rw[if_pos c];have hz:mO (dL l) i≠0:=by
   rcases a2 with a2 | ⟨_,a2⟩
   ·omega
   ·exact a2
  have hd:Ij (dL l) i:=Classical.byContradiction fun q=>hz ((Hb h c).1 q)
  rw[(Hb h c).2 hd];have hij:j < (dL l).length - 1:=by
   have h0:=hd.1;refine Classical.byContradiction fun q=>?_
   have:=b3 (i - 1) (by omega);rw[show i - 1+1=i by omega] at this;exact this hd
  rw[if_pos hij]
 ·rw[if_neg c];have hij:¬ j < (dL l).length - 1:=fun q=>by
   have hd:Ij (dL l) (j+1):=by
    rcases b2 with b2 | ⟨_,b2⟩
    ·omega
    ·exact b2
   have h5:=(Hb h (k:=j+1) (by omega)).2 hd;have:=a3 (j+1) (by omega);rw[h5] at this;exact this (by decide)
  rw[if_neg hij]
end Go.Proofs.YthepfneloomngaaGreatDoor
