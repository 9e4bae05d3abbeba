/- Attributes in order: mathematics. Conditions: none. -/
import Derived.Test.YtcplecjhmnblpaaGreatDoorUw
import Derived.Test.YtcplecjhmnblpaaGreatDoorTd
namespace Go.Proofs.YtcplecjhmnblpaaGreatDoor
set_option linter.unusedSimpArgs false
set_option linter.unusedVariables false
set_option maxRecDepth 4000
variable {G:aH} {bb:Bool}
open Go.Sort
theorem Cj:∀ l:List Int,aS l=Hb l
 | []=>rfl
 | x::l=>by
  by_cases h:x=0
  ·rw[h,aP,Cj l];rfl
  ·rw[aQ _ _ h,Hb,if_neg h]
theorem wD(a b:List Int):tC a b=Af (eG a).toList (eG b).toList:=by
 unfold tC Af ltS gtS;cases h1:Op.bytesLess (eG a).toList (eG b).toList with
 | true=>rw[if_pos rfl,if_pos rfl]
 | false=>
  rw[if_neg Bool.false_ne_true,if_neg Bool.false_ne_true];by_cases h2:(eG a).toList=(eG b).toList
  ·rw[h2,G7];simp
  ·have h3:=Cg _ _ h2;rw[h1] at h3;have h4:Op.bytesLess (eG b).toList (eG a).toList=true:=by
    rcases h3 with h3 | h3
    ·cases h3
    ·exact h3
   rw[if_pos h4];have h5:((eG a).toList==(eG b).toList)=false:=by rw[beq_eq_false_iff_ne];exact h2
   rw[h5];rfl
theorem aAZ(a b:aE):iF a b=Re a.e b.e:=by
 unfold iF Re;rw[Cj,wD];rfl
theorem Rf:Cm (fun _=>True) iF:=by
 have h:=N4.map (P:=fun _=>True) (fun a:aE=>a.e) (fun _ _=>trivial)
 have e:iF=fun a b=>Re a.e b.e:=by funext a b;exact aAZ a b
 rw[e];exact h
theorem Ky{α β:Type}(f:α->β)(c:β->β->Int)(p:List α)(x:α):∀ k,qE c (p.map f) (f x) k=qE (fun a b=>c (f a) (f b)) p x k
 | 0=>rfl
 | k+1=>by
  rw[qE,qE,aQh];cases h:p[k]? with
  | none=>rfl
  | some y=>
   simp only[aQg];rw[Ky f c p x k]
theorem aA0{α β:Type}(f:α->β)(c:β->β->Int)(p:List α)(x:α):tD c (p.map f) (f x)=(tD (fun a b=>c (f a) (f b)) p x).map f:=by
 unfold tD;rw[aQb,Ky,aQL,aQY,aQo,List.map_drop]
theorem aA1{α β:Type}(f:α->β)(c:β->β->Int)(l:List α):pM c (l.map f)=(pM (fun a b=>c (f a) (f b)) l).map f:=by
 unfold pM;have key:∀ (l p:List α),(l.map f).foldl (tD c) (p.map f)=(l.foldl (tD fun a b=>c (f a) (f b)) p).map f:=by
  intro l
  induction l with
  | nil=>intro p;rfl
  | cons x l ih=>intro p;rw[aQo,aRj,aRj,aA0,ih]
 exact key l []
def dL(l:List aE):List aE:=pM iF l
theorem aA2(l:List aE):pM Re (l.map aE.e)=(dL l).map aE.e:=by
 have e:iF=fun a b=>Re a.e b.e:=by funext a b;exact aAZ a b
 unfold dL;rw[e];exact aA1 (fun a:aE=>a.e) Re l
theorem sQ(l:List aE):(dL l).Perm l:=xP iF l
theorem wE(l:List aE):(dL l).length=l.length:=(sQ l).length_eq
theorem Ck{l:List aE}{a:aE}:a∈dL l↔a∈l:=(sQ l).mem_iff
theorem sS(l:List aE):(∀ k,k < l.length->jO l k=0)↔(∀ a∈l,hZ a=0)/\(l.map aE.id).Nodup:=by
 have hs:∀ k (hk:k < l.length),jO l k=0↔hZ l[k]=0/\Nx l k=false:=fun k hk=>by
  unfold jO;rw[fE l k hk];by_cases c:hZ l[k]=0
  ·rw[c,aP];cases Nx l k with
   | true=>simp[un,aS]
   | false=>simp[un,aS]
  ·rw[aQ _ _ c];simp[c]
 have hd:∀ k (hk:k < l.length),Nx l k=false↔∀ j (hj:j < k),l[j].id≠l[k].id:=fun k hk=>by
  unfold Nx;rw[fE l k hk,aRD];constructor
  ·intro h j hj e;have:=h l[j] (by rw[List.mem_take_iff_getElem];exact⟨j,by omega,rfl⟩);simp[e] at this
  ·intro h x hx;rw[List.mem_take_iff_getElem] at hx;obtain⟨j,hj,rfl⟩:=hx;simpa using h j (by omega)
 constructor
 ·intro h;refine⟨fun a ha=>?_, ?_⟩
  ·obtain⟨k,hk,rfl⟩:=List.getElem_of_mem ha;exact ((hs k hk).1 (h k hk)).1
  ·rw[List.Nodup,List.pairwise_map,List.pairwise_iff_getElem];intro i j hi hj hij;exact (hd j hj).1 ((hs j hj).1 (h j hj)).2 i hij
 ·rintro⟨h1,h2⟩ k hk;rw[List.Nodup,List.pairwise_map,List.pairwise_iff_getElem] at h2;exact (hs k hk).2 ⟨h1 _ (aQm hk),(hd k hk).2 (fun j hj=>h2 j k (by omega) hk hj)⟩
theorem aA3{l:List aE}(h:∀ k,k < l.length->jO l k=0):∀ k,k < (dL l).length->jO (dL l) k=0:=by
 rw[sS] at h ⊢;refine⟨fun a ha=>h.1 a (Ck.1 ha), ?_⟩
 exact ((sQ l).map aE.id).nodup_iff.2 h.2
theorem aE7(l:List aE)(k:Nat)(hk:k < (dL l).length)(h0:k≠0):iF (dL l)[k - 1] (dL l)[k]<=0:=by
 have h:=yP Rf (l:=l) (fun _ _=>trivial)
 exact (List.pairwise_iff_getElem.1 h) (k - 1) k (by have:(dL l).length=(pM iF l).length:=rfl;omega) hk (by omega)
noncomputable def Kz(l:List aE):Int:=if l.length > 32 then 8 else if ix (fun k=>jO l k≠0) l.length < l.length then jO l (ix (fun k=>jO l k≠0) l.length) else 0
theorem aJh{l:List aE}(h:Kz l=0):l.length<=32/\∀ k,k < l.length->jO l k=0:=by
 unfold Kz at h;split at h
 ·cases h
 ·rename_i c;refine⟨by omega,fun k hk=>?_⟩
  obtain⟨h1,h2,h3⟩:=bW (fun k=>jO l k≠0) l.length
  generalize ix (fun k=>jO l k≠0) l.length=i at *
  split at h
  ·rename_i hi;rcases h2 with h2 | ⟨_,h2⟩
   ·omega
   ·exact absurd h h2
  ·exact Classical.not_not.1 (h3 k (by omega))
theorem aE8{l:List aE}(h1:l.length<=32)(h:∀ k,k < l.length->jO l k=0):Kz l=0:=by
 unfold Kz;rw[if_neg (by omega)];split
 ·rename_i hi;exact h _ hi
 ·rfl
def Dz(l:List aE)(k:Nat):Prop:=k≠0/\nL (l.getD (k - 1) aE.nil) (l.getD k aE.nil)=true/\(l.getD k aE.nil).ty≠48
theorem Cl{l:List aE}(h:∀ k,k < l.length->jO l k=0){k:Nat}(hk:k < (dL l).length):(¬ Dz (dL l) k->kA (dL l) k=0)/\(Dz (dL l) k->kA (dL l) k=5):=by
 have hs:=aA3 h k hk;by_cases h0:k=0
 ·subst h0;unfold kA;rw[if_pos rfl];exact⟨fun _=>hs,fun q=>absurd rfl q.1⟩
 ·have hle:=aE7 l k hk h0;unfold kA;rw[if_neg h0,hs,aP];unfold Dz;rw[fE _ (k - 1) (by omega),fE _ k hk,decide_eq_true hle,eI,aP];cases c1:nL (dL l)[k - 1] (dL l)[k] with
  | false=>exact⟨fun _=>rfl,fun q=>by cases q.2.1⟩
  | true=>
   by_cases c2:(dL l)[k].ty=48
   ·rw[decide_eq_true c2];exact⟨fun _=>rfl,fun q=>absurd c2 q.2.2⟩
   ·rw[decide_eq_false c2];exact⟨fun q=>absurd ⟨h0,rfl,c2⟩ q,fun _=>rfl⟩
theorem aA4{l:List aE}(hl:l.length<=32)(h:∀ k,k < l.length->jO l k=0):(kV (dL l)).2=if ix (fun k=>Dz (dL l) (k+1)) ((dL l).length - 1) < (dL l).length - 1 then 5 else 0:=by
 have hn:=wE l;unfold kV;rw[if_neg (by omega)];obtain⟨a1,a2,a3⟩:=bW (fun k=>kA (dL l) k≠0) (dL l).length
 obtain⟨b1,b2,b3⟩:=bW (fun k=>Dz (dL l) (k+1)) ((dL l).length - 1)
 generalize ix (fun k=>kA (dL l) k≠0) (dL l).length=i at *
 generalize ix (fun k=>Dz (dL l) (k+1)) ((dL l).length - 1)=j at *
 by_cases c:i < (dL l).length
 ·rw[if_pos c];have hz:kA (dL l) i≠0:=by
   rcases a2 with a2 | ⟨_,a2⟩
   ·omega
   ·exact a2
  have hd:Dz (dL l) i:=Classical.byContradiction fun q=>hz ((Cl h c).1 q)
  rw[(Cl h c).2 hd];have hij:j < (dL l).length - 1:=by
   have h0:=hd.1;refine Classical.byContradiction fun q=>?_
   have:=b3 (i - 1) (by omega);rw[show i - 1+1=i by omega] at this;exact this hd
  rw[if_pos hij]
 ·rw[if_neg c];have hij:¬ j < (dL l).length - 1:=fun q=>by
   have hd:Dz (dL l) (j+1):=by
    rcases b2 with b2 | ⟨_,b2⟩
    ·omega
    ·exact b2
   have h5:=(Cl h (k:=j+1) (by omega)).2 hd;have:=a3 (j+1) (by omega);rw[h5] at this;exact this (by decide)
  rw[if_neg hij]
end Go.Proofs.YtcplecjhmnblpaaGreatDoor
