/- Attributes in order: mathematics. Conditions: none. -/
import Derived.Test.YthepfneloomngaaGreatDoorUw
import Derived.Test.YthepfneloomngaaGreatDoorTd
namespace Go.Proofs.YthepfneloomngaaGreatDoor
set_option linter.unusedSimpArgs false
set_option linter.unusedVariables false
set_option maxRecDepth 4000
variable {G:aE}{bb:Bool}
open Go.Sort
theorem Ix:∀l:List Int,aS l=Ny l
 |[]=>rfl
 | x::l=>by
  by_cases h:x=0
  ·rw[h,aV,Ix l];rfl
  ·rw[aX _ _ h,Ny,if_neg h]
theorem Cb(a b:List Int):zI a b=F7 (dL a).toList (dL b).toList:=by
 unfold zI F7 ltS gtS;cases h1:Op.bytesLess (dL a).toList (dL b).toList with
 |true=>rw[if_pos rfl,if_pos rfl]
 |false=>
  rw[if_neg Bool.false_ne_true,if_neg Bool.false_ne_true];by_cases h2:(dL a).toList=(dL b).toList;rw[h2,Nv];simp;have h3:=Iu _ _ h2;rw[h1] at h3;have h4:Op.bytesLess (dL b).toList (dL a).toList=true:=by
   rcases h3 with h3|h3;cases h3;exact h3
  rw[if_pos h4];have h5:((dL a).toList==(dL b).toList)=false:=by rw[beq_eq_false_iff_ne];exact h2
  rw[h5];rfl
theorem aFu(a b:aJ):jK a b=Yl a.e b.e:=by
 unfold jK Yl;rw[Ix,Cb];rfl
theorem Ym:Cm (fun _=>True) jK:=by
 have h:=Vb.map (P:=fun _=>True) (fun a:aJ=>a.e) (fun _ _=>trivial)
 have e:jK=fun a b=>Yl a.e b.e:=by funext a b;exact aFu a b
 rw[e];exact h
theorem Rw{α β:Type}(f:α->β)(c:β->β->Int)(p:List α)(x:α):∀k,rF c (p.map f) (f x) k=rF (fun a b=>c (f a) (f b)) p x k
 |0=>rfl
 | k+1=>by
  rw[rF,rF,aXI];cases h:p[k]? with
  | none=>rfl
  | some y=>
   simp only[aXG];rw[Rw f c p x k]
theorem aFv{α β:Type}(f:α->β)(c:β->β->Int)(p:List α)(x:α):zJ c (p.map f) (f x)=(zJ (fun a b=>c (f a) (f b)) p x).map f:=by
 unfold zJ;rw[aXC,Rw,aYg,aYr,aXL,aYS]
theorem aFw{α β:Type}(f:α->β)(c:β->β->Int)(l:List α):qJ c (l.map f)=(qJ (fun a b=>c (f a) (f b)) l).map f:=by
 unfold qJ;have key:∀ (l p:List α),(l.map f).foldl (zJ c) (p.map f)=(l.foldl (zJ fun a b=>c (f a) (f b)) p).map f:=by
  intro l
  induction l with
  | nil=>intro p;rfl
  | cons x l ih=>intro p;rw[aXL,aYO,aYO,aFv,ih]
 exact key l []
def dD(l:List aJ):List aJ:=qJ jK l
theorem Vc(l:List aJ):qJ Yl (l.map aJ.e)=(dD l).map aJ.e:=by
 have e:jK=fun a b=>Yl a.e b.e:=by funext a b;exact aFu a b
 unfold dD;rw[e];exact aFw (fun a:aJ=>a.e) Yl l
theorem qK(l:List aJ):(dD l).Perm l:=Dq jK l
theorem oR(l:List aJ):(dD l).length=l.length:=(qK l).length_eq
theorem tO{l:List aJ}{a:aJ}:a∈dD l↔a∈l:=(qK l).mem_iff
theorem Cc(l:List aJ):(∀k,k<l.length->mL l k=0)↔(∀a∈l,fK a=0)/\(l.map aJ.id).Nodup:=by
 have hs:∀ k (hk:k < l.length),mL l k=0↔fK l[k]=0/\aBA l k=false:=fun k hk=>by
  unfold mL;rw[gT l k hk];by_cases c:fK l[k]=0
  ·rw[c,aV];cases aBA l k with
   | true=>simp[un,aS]
   | false=>simp[un,aS]
  ·rw[aX _ _ c];simp[c]
 have hd:∀ k (hk:k < l.length),aBA l k=false↔∀ j (hj:j < k),l[j].id≠l[k].id:=fun k hk=>by
  unfold aBA;rw[gT l k hk,aYW];constructor
  ·intro h j hj e;have:=h l[j] (by rw[List.mem_take_iff_getElem];exact⟨j,by omega,rfl⟩);simp[e] at this
  ·intro h x hx;rw[List.mem_take_iff_getElem] at hx;obtain⟨j,hj,rfl⟩:=hx;simpa using h j (by omega)
 constructor;intro h;refine⟨fun a ha=>?_,?_⟩
 obtain⟨k,hk,rfl⟩:=List.getElem_of_mem ha;exact ((hs k hk).1 (h k hk)).1;rw[List.Nodup,List.pairwise_map,aZe];intro i j hi hj hij;exact (hd j hj).1 ((hs j hj).1 (h j hj)).2 i hij;rintro⟨h1,h2⟩ k hk;rw[List.Nodup,List.pairwise_map,aZe] at h2;exact (hs k hk).2 ⟨h1 _ (aXM hk),(hd k hk).2 (fun j hj=>h2 j k (by omega) hk hj)⟩
theorem aFx{l:List aJ}(h:∀k,k<l.length->mL l k=0):∀k,k<(dD l).length->mL (dD l) k=0:=by
 rw[Cc] at h ⊢;refine⟨fun a ha=>h.1 a (tO.1 ha),?_⟩
 exact ((qK l).map aJ.id).nodup_iff.2 h.2
theorem aJ7(l:List aJ)(k:Nat)(hk:k<(dD l).length)(h0:k≠0):jK (dD l)[k-1] (dD l)[k]<=0:=by
 have h:=Ej Ym (l:=l) (fun _ _=>trivial)
 exact (aZe.1 h) (k-1) k (by have:(dD l).length=(qJ jK l).length:=rfl;omega) hk (by omega)
noncomputable def Rz(l:List aJ):Int:=if l.length > 32 then 8 else if ix (fun k=>mL l k≠0) l.length<l.length then mL l (ix (fun k=>mL l k≠0) l.length) else 0
theorem aO8{l:List aJ}(h:Rz l=0):l.length<=32/\∀k,k<l.length->mL l k=0:=by
 unfold Rz at h;split at h;cases h;rename_i c;refine⟨by omega,fun k hk=>?_⟩
 obtain⟨h1,h2,h3⟩:=bT (fun k=>mL l k≠0) l.length
 generalize ix (fun k=>mL l k≠0) l.length=i at *
 split at h;rename_i hi;rcases h2 with h2|⟨_,h2⟩
 omega;exact absurd h h2;exact Classical.not_not.1 (h3 k (by omega))
theorem aJ8{l:List aJ}(h1:l.length<=32)(h:∀k,k<l.length->mL l k=0):Rz l=0:=by
 unfold Rz;rw[if_neg (by omega)];split;rename_i hi;exact h _ hi;rfl
def J7(l:List aJ)(k:Nat):Prop:=k≠0/\nF (l.getD (k-1) aJ.nil) (l.getD k aJ.nil)=true/\(l.getD k aJ.nil).ty≠48
theorem Iy{l:List aJ}(h:∀k,k<l.length->mL l k=0){k:Nat}(hk:k<(dD l).length):(¬ J7 (dD l) k->nG (dD l) k=0)/\(J7 (dD l) k->nG (dD l) k=5):=by
 have hs:=aFx h k hk;by_cases h0:k=0;subst h0;unfold nG;rw[if_pos rfl];exact⟨fun _=>hs,fun q=>absurd rfl q.1⟩
 have hle:=aJ7 l k hk h0;unfold nG;rw[if_neg h0,hs,aV];unfold J7;rw[gT _ (k-1) (by omega),gT _ k hk,decide_eq_true hle,fR,aV];cases c1:nF (dD l)[k-1] (dD l)[k] with
 |false=>exact⟨fun _=>rfl,fun q=>by cases q.2.1⟩
 |true=>
  by_cases c2:(dD l)[k].ty=48;rw[decide_eq_true c2];exact⟨fun _=>rfl,fun q=>absurd c2 q.2.2⟩
  rw[decide_eq_false c2];exact⟨fun q=>absurd ⟨h0,rfl,c2⟩ q,fun _=>rfl⟩
theorem aFy{l:List aJ}(hl:l.length<=32)(h:∀k,k<l.length->mL l k=0):(tN (dD l)).2=if ix (fun k=>J7 (dD l) (k+1)) ((dD l).length-1)<(dD l).length-1 then 5 else 0:=by
 have hn:=oR l;unfold tN;rw[if_neg (by omega)];obtain⟨a1,a2,a3⟩:=bT (fun k=>nG (dD l) k≠0) (dD l).length
 obtain⟨b1,b2,b3⟩:=bT (fun k=>J7 (dD l) (k+1)) ((dD l).length-1)
 generalize ix (fun k=>nG (dD l) k≠0) (dD l).length=i at *
 generalize ix (fun k=>J7 (dD l) (k+1)) ((dD l).length-1)=j at *
 by_cases c:i<(dD l).length;rw[if_pos c];have hz:nG (dD l) i≠0:=by
  rcases a2 with a2|⟨_,a2⟩;omega;exact a2
 have hd:J7 (dD l) i:=Classical.byContradiction fun q=>hz ((Iy h c).1 q)
 rw[(Iy h c).2 hd];have hij:j<(dD l).length-1:=by
  have h0:=hd.1;refine Classical.byContradiction fun q=>?_
  have:=b3 (i-1) (by omega);rw[show i-1+1=i by omega] at this;exact this hd
 rw[if_pos hij]
 rw[if_neg c];have hij:¬ j < (dD l).length - 1:=fun q=>by
  have hd:J7 (dD l) (j+1):=by
   rcases b2 with b2 | ⟨_,b2⟩
   ·omega
   ·exact b2
  have h5:=(Iy h (k:=j+1) (by omega)).2 hd;have:=a3 (j+1) (by omega);rw[h5] at this;exact this (by decide)
 rw[if_neg hij]
end Go.Proofs.YthepfneloomngaaGreatDoor
