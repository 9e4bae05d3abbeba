/- Lists of attributes: few, copied; the attribute that has some parts, by the reference. Conditions: none. -/
import Derived.Test.YtcplecjhmnblpaaGreatDoorUy
namespace Go.Proofs.YtcplecjhmnblpaaGreatDoor
set_option linter.unusedSimpArgs false
set_option linter.unusedVariables false
set_option maxRecDepth 4000
section
variable {G:aH} {bb:Bool}
def kA(l:List aE)(k:Nat):Int:=if k=0 then jO l 0 else
 aS [jO l k,un (decide (iF (l.getD (k - 1) aE.nil) (l.getD k aE.nil)<=0)) 9,un (!nL (l.getD (k - 1) aE.nil) (l.getD k aE.nil)||decide ((l.getD k aE.nil).ty=48)) 5]
noncomputable def kV(l:List aE):Int × Int:=if l.length > 32 then (0,8) else
 if ix (fun k=>kA l k≠0) l.length < l.length then ((ix (fun k=>kA l k≠0) l.length:Nat),kA l (ix (fun k=>kA l k≠0) l.length)) else (0,0)
abbrev iiv(p:Int × Int):AV:=.tup [.one (.dc (ci p.1)),.one (.dc (ci p.2))]
theorem ixP(l:List aE)(k:Nat)(hk:k < l.length)(h0:0 < k):(l.map aE.e)[((k:Int) - 1).toNat]?=some l[k - 1].e:=by
 rw[show ((k:Int) - 1).toNat=k - 1 by omega];exact ixA l (k - 1) (by omega)
set_option maxHeartbeats 4000000 in
theorem aE4(l:List aE)(hW:∀ a∈l,a.W)(hl:l.length<=1000):EV G (Tb (bs bb)) 63 [vl (l.map aE.e)] []=some (iiv (kV l),[]):=by
 refine aB rfl ?_;unfold kV;by_cases c1:l.length > 32
 ·rw[if_pos c1];have d2:32 < (l.length:Int):=by omega
  simp (disch:=omega) only[go_sem,h63c,aQb,eq_true d2]
 rw[if_neg c1];have d2:¬ 32 < (l.length:Int):=by omega
 simp (disch:=omega) only[go_sem,h63c,aQb,d2];rw[gA (fun k=>⟨(vl (l.map aE.e)::jk 10 (vl (l.map aE.e)::vi l.length::vi k::jk 37 [])),[]⟩) (fun k=>kA l k≠0) l.length ?_ ?_]
 rotate_left
 ·rfl
 ·intro k hk hn;have hz:=Classical.not_not.1 (hn k (aQf _));have q:=wC (G:=G) (bb:=bb) l hW hl k hk;by_cases h0:k=0
  ·subst h0;simp only[kA,if_true] at hz;rw[hz] at q;have q0:EV G (Tb (bs bb)) 116 [vl (l.map aE.e),vi 0] []=some (vi 0,[]):=q;have i0:(l.map aE.e)[(0:Nat)]?=some l[0].e:=ixA l 0 hk;simp (disch:=omega) only[go_sem,h63l0,aQb,ixA,i0,aE.e,aF,q0,aRr,Int.lt_irrefl,decide_false,Int.toNat_zero];rfl
  ·have d0:0 < (k:Int):=by omega
   unfold kA at hz;rw[if_neg h0,fE l (k - 1) (by omega),fE l k hk] at hz;have iP:=ixP l k hk (by omega);have q1:=E3 (G:=G) (bb:=bb) l[k - 1] l[k];have q2:=E4 (G:=G) (bb:=bb) l[k - 1] l[k] (hW _ (aQm _)).nm (hW _ (aQm _)).nm;cases hb:nL l[k - 1] l[k] with
   | false=>
    rw[hb] at hz q2;simp only[aRm,aRa] at hz;simp (disch:=omega) only[go_sem,h63l0,aQb,ixA,iP,aE.e,aF,q,eq_true d0,q1,q2,aU,bX,hz]
   | true=>
    rw[hb] at hz q2;simp only[aQV,aQT] at hz;simp (disch:=omega) only[go_sem,h63l0,aQb,ixA,iP,aE.e,aF,q,eq_true d0,q1,q2,aU,bX,hz]
 obtain⟨hk,hp,hn⟩:=bW (fun k=>kA l k≠0) l.length
 generalize ix (fun k=>kA l k≠0) l.length=k at *
 rcases hp with rfl | ⟨hk',hz⟩
 ·rw[if_neg (Nat.lt_irrefl _)];simp (disch:=omega) only[go_sem,h63l0,aQb]
 ·rw[if_pos hk'];have q:=wC (G:=G) (bb:=bb) l hW hl k hk';by_cases h0:k=0
  ·subst h0;simp only[kA,if_true] at hz ⊢;have q0:EV G (Tb (bs bb)) 116 [vl (l.map aE.e),vi 0] []=some (vi (jO l 0),[]):=q;have i0:(l.map aE.e)[(0:Nat)]?=some l[0].e:=ixA l 0 hk';simp (disch:=omega) only[go_sem,h63l0,aQb,ixA,i0,aE.e,aF,q0,aRr,Int.lt_irrefl,decide_false,Int.toNat_zero,hz]
  ·have d0:0 < (k:Int):=by omega
   unfold kA at hz ⊢;rw[if_neg h0,fE l (k - 1) (by omega),fE l k hk'] at hz ⊢;have iP:=ixP l k hk' (by omega);have q1:=E3 (G:=G) (bb:=bb) l[k - 1] l[k];have q2:=E4 (G:=G) (bb:=bb) l[k - 1] l[k] (hW _ (aQm _)).nm (hW _ (aQm _)).nm;cases hb:nL l[k - 1] l[k] with
   | false=>
    rw[hb] at hz q2;simp only[aRm,aRa] at hz ⊢;simp (disch:=omega) only[go_sem,h63l0,aQb,ixA,iP,aE.e,aF,q,eq_true d0,q1,q2,aU,bX,hz]
   | true=>
    rw[hb] at hz q2;simp only[aQV,aQT] at hz ⊢;simp (disch:=omega) only[go_sem,h63l0,aQb,ixA,iP,aE.e,aF,q,eq_true d0,q1,q2,aU,bX,hz]
end
section
variable {G:aH} {bb:Bool}
theorem aAP(l:List aE)(hW:∀ a∈l,a.W)(hl:l.length<=1000)(i:Nat)(hi:i < l.length):EV G (Tb (bs bb)) 122 [vl (l.map aE.e),vi i] []=some (vi (jO l i),[]):=by
 refine aB rfl ?_;have q:=Nt (G:=G) (bb:=bb) l[i] (hW _ (aQm hi));unfold jO Nx;rw[fE l i hi];by_cases c:hZ l[i]=0
 ·rw[c] at q;rw[c,aP];simp (disch:=omega) only[go_sem,h122c,aQb,ixA,aE.e,q];rw[gA (fun k=>⟨(vl (l.map aE.e)::vi i::jk 4 (vi k::jk 24 [])),[]⟩) (fun k=>(l.getD k aE.nil).id=l[i].id) i ?_ ?_]
  rotate_left
  ·rfl
  ·intro k hk hn;have h1:=hn k (aQf _);rw[fE l k (by omega)] at h1;simp (disch:=omega) only[go_sem,h122l0,aQb,ixA,aE.e,h1]
  obtain⟨hk,hp,hn⟩:=bW (fun k=>(l.getD k aE.nil).id=l[i].id) i
  generalize ix (fun k=>(l.getD k aE.nil).id=l[i].id) i=k at *
  rcases hp with rfl | ⟨hk',hp⟩
  ·have e:((l.take k).any fun a=>decide (a.id=l[k].id))=false:=by
    rw[aRD];intro x hx;obtain⟨j,hj,rfl⟩:=List.getElem_of_mem hx;rw[aQj] at hj;have:=hn j (by omega);rw[fE l j (by omega)] at this;simpa using this
   rw[e];simp (disch:=omega) only[go_sem,h122l0,aQb];rfl
  ·rw[fE l k (by omega)] at hp;have e:((l.take i).any fun a=>decide (a.id=l[i].id))=true:=by
    rw[List.any_eq_true];refine⟨l[k], ?_,decide_eq_true hp⟩;rw[List.mem_take_iff_getElem];exact⟨k,by omega,rfl⟩
   rw[e];simp (disch:=omega) only[go_sem,h122l0,aQb,ixA,aE.e,eq_true hp];rfl
 ·rw[aQ _ _ c];simp (disch:=omega) only[go_sem,h122c,aQb,ixA,aE.e,q,c]
theorem Ce{l:List aE}{k:Nat}(h0:k≠0)(hk:k < l.length)(h:kA l k=0):jO l k=0/\iF l[k - 1] l[k]<=0/\(nL l[k - 1] l[k]=true->l[k].ty=48):=by
 unfold kA at h;rw[if_neg h0,fE l (k - 1) (by omega),fE l k hk] at h;by_cases c1:jO l k=0
 ·rw[c1,aP] at h;by_cases c2:iF l[k - 1] l[k]<=0
  ·rw[decide_eq_true c2,eI,aP] at h;refine⟨c1,c2,fun hb=>?_⟩
   rw[hb] at h;by_cases c3:l[k].ty=48
   ·exact c3
   ·rw[decide_eq_false c3] at h;exact absurd h (by simp[un,aS])
  ·rw[decide_eq_false c2] at h;exact absurd h (by simp[un,aS])
 ·rw[aQ _ _ c1] at h;exact absurd h c1
theorem xM{a b:aE}:nL a b=true↔a.ty=b.ty/\a.nm=b.nm/\a.fi=b.fi:=by simp[nL]
set_option maxHeartbeats 4000000 in
theorem aAQ(l:List aE)(hW:∀ a∈l,a.W)(hl:l.length<=1000):EV G (Tb (bs bb)) 70 [vl (l.map aE.e)] []=some (iiv (kV l),[]):=by
 refine aB rfl ?_;unfold kV;by_cases c1:l.length > 32
 ·rw[if_pos c1];have d2:32 < (l.length:Int):=by omega
  simp (disch:=omega) only[go_sem,h70c,aQb,eq_true d2]
 rw[if_neg c1];have d2:¬ 32 < (l.length:Int):=by omega
 simp (disch:=omega) only[go_sem,h70c,aQb,d2];rw[gA (fun k=>⟨(vl (l.map aE.e)::jk 3 (vi k::jk 58 [])),[]⟩) (fun k=>kA l k≠0) l.length ?_ ?_]
 rotate_left
 ·rfl
 ·intro k hk hn;have hz:=Classical.not_not.1 (hn k (aQf _));have q:=aAP (G:=G) (bb:=bb) l hW hl k hk;by_cases h0:k=0
  ·subst h0;simp only[kA,if_true] at hz;rw[hz] at q;have q0:EV G (Tb (bs bb)) 122 [vl (l.map aE.e),vi 0] []=some (vi 0,[]):=q;simp (disch:=omega) only[go_sem,h70l0,aQb,aE.e,aF,q0,aRr,Int.lt_irrefl,decide_false,Int.toNat_zero];rfl
  ·have d0:0 < (k:Int):=by omega
   obtain⟨z1,z2,z3⟩:=Ce h0 hk hz;rw[z1] at q;have iP:=ixP l k hk (by omega);have z4:¬ 0 < iF l[k - 1] l[k]:=by omega
   have q1:=qD (G:=G) (bb:=bb) l[k - 1] l[k];have q2:=E2 (G:=G) (bb:=bb) l[k - 1];have q3:=E2 (G:=G) (bb:=bb) l[k];have e:=cW (hW _ (aQm (show k - 1 < l.length by omega))).nm (hW _ (aQm hk)).nm;by_cases k1:l[k - 1].ty=l[k].ty
   ·by_cases k2:l[k - 1].nm=l[k].nm
    ·rw[eq_true k2] at e;by_cases k3:l[k - 1].fi=l[k].fi
     ·have z5:=z3 (xM.2 ⟨k1,k2,k3⟩);simp (disch:=omega) only[go_sem,h70l0,zB,aQb,ixA,iP,aE.e,aF,q,eq_true d0,q1,q2,q3,z4,eq_true k1,e,eq_true k3,eq_true z5]
     ·simp (disch:=omega) only[go_sem,h70l0,zB,aQb,ixA,iP,aE.e,aF,q,eq_true d0,q1,q2,q3,z4,eq_true k1,e,k3]
    ·rw[eq_false k2] at e;simp (disch:=omega) only[go_sem,h70l0,zB,aQb,ixA,iP,aE.e,aF,q,eq_true d0,q1,q2,q3,z4,eq_true k1,e]
   ·simp (disch:=omega) only[go_sem,h70l0,zB,aQb,ixA,iP,aE.e,aF,q,eq_true d0,q1,q2,q3,z4,k1]
 obtain⟨hk,hp,hn⟩:=bW (fun k=>kA l k≠0) l.length
 generalize ix (fun k=>kA l k≠0) l.length=k at *
 rcases hp with rfl | ⟨hk',hz⟩
 ·rw[if_neg (Nat.lt_irrefl _)];simp (disch:=omega) only[go_sem,h70l0,aQb]
 ·rw[if_pos hk'];have q:=aAP (G:=G) (bb:=bb) l hW hl k hk';by_cases h0:k=0
  ·subst h0;simp only[kA,if_true] at hz ⊢;have q0:EV G (Tb (bs bb)) 122 [vl (l.map aE.e),vi 0] []=some (vi (jO l 0),[]):=q;generalize jO l 0=e at hz q0;simp (disch:=omega) only[go_sem,h70l0,aQb,aE.e,aF,q0,aRr,Int.lt_irrefl,decide_false,Int.toNat_zero,hz]
  ·have d0:0 < (k:Int):=by omega
   unfold kA at hz ⊢;rw[if_neg h0,fE l (k - 1) (by omega),fE l k hk'] at hz ⊢;have iP:=ixP l k hk' (by omega);have q1:=qD (G:=G) (bb:=bb) l[k - 1] l[k];have q2:=E2 (G:=G) (bb:=bb) l[k - 1];have q3:=E2 (G:=G) (bb:=bb) l[k];have e:=cW (hW _ (aQm (show k - 1 < l.length by omega))).nm (hW _ (aQm hk')).nm;by_cases c2:jO l k=0
   ·rw[c2] at q hz ⊢;rw[aP] at hz ⊢;by_cases c3:iF l[k - 1] l[k]<=0
    ·have z4:¬ 0 < iF l[k - 1] l[k]:=by omega
     rw[decide_eq_true c3,eI,aP] at hz ⊢;cases hb:nL l[k - 1] l[k] with
     | false=>
      rw[hb] at hz;exact absurd (by simp[un,aS]) hz
     | true=>
      rw[hb] at hz;obtain⟨k1,k2,k3⟩:=xM.1 hb;rw[eq_true k2] at e;by_cases c4:l[k].ty=48
      ·rw[decide_eq_true c4] at hz;exact absurd (by simp[un,aS]) hz
      ·rw[decide_eq_false c4];simp (disch:=omega) only[go_sem,h70l0,zB,aQb,ixA,iP,aE.e,aF,q,eq_true d0,q1,q2,q3,z4,eq_true k1,e,eq_true k3,c4];rfl
    ·have z4:0 < iF l[k - 1] l[k]:=by omega
     rw[decide_eq_false c3];simp (disch:=omega) only[go_sem,h70l0,zB,aQb,ixA,iP,aE.e,aF,q,eq_true d0,q1,eq_true z4];rfl
   ·rw[aQ _ _ c2];generalize jO l k=x at c2 q;simp (disch:=omega) only[go_sem,h70l0,aQb,ixA,aE.e,aF,q,c2]
end
section
variable {G:aH} {bb:Bool}
end
section
variable {G:aH} {B:aW}
end
section
variable {G:aH} {bb:Bool}
end
section
variable {G:aH} {bb:Bool}
end
section
variable {G:aH} {bb:Bool}
def Cf(a:aE):Bool:=decide (a.rs.length<=80)&&(decide (a.va.length<=500)&&decide (a.nm.length<=60))
theorem Rb{α:Type}(l:List α)(d:α)(k:Nat)(h:k < l.length):l.getD k d=l[k]:=by
 rw[aQl,aQi h];rfl
theorem aJd{α:Type}(l:List α)(d:α)(p:α->Bool):(ix (fun k=>p (l.getD k d)=false) l.length=l.length)↔l.all p=true:=by
 obtain⟨h1,h2,h3⟩:=bW (fun k=>p (l.getD k d)=false) l.length
 constructor
 ·intro e;rw[aRl];intro x hx;obtain⟨k,hk,rfl⟩:=List.getElem_of_mem hx;have:=h3 k (by omega);have e1:=Rb l d k hk;rw[e1] at this;simpa using this
 ·intro h;rcases h2 with h2 | ⟨h2,h4⟩
  ·exact h2
  ·have e1:=Rb l d _ h2;rw[e1] at h4;rw[aRl.1 h _ (aQm h2)] at h4;cases h4
theorem aAR(l:List aE)(k:Nat)(hk:k < l.length):(l.take (k+1)).map aE.e=(l.take k).map aE.e++[l[k].e]:=by
 rw[aRb hk,aQL];rfl
theorem aAS(l:List aE)(hl:l.length<=1000)(hr:∀ a∈l,a.rs.length<=1000000):EV G (Tb (bs bb)) 67 [vl (l.map aE.e)] []=some (vl (l.map aE.e),[]):=by
 refine aB rfl ?_;simp (disch:=omega) only[go_sem,h67c];rw[bG (fun k=>⟨(vl (l.map aE.e)::jk 2 (.one (.bld 0 ((l.take k).map aE.e).length)::vi k::jk 15 [])),[.arr 0 11 ((l.take k).map aE.e)]⟩) l.length ?_ ?_]
 ·simp (disch:=omega) only[go_sem,h67l0,aQb,aQR]
 ·rfl
 ·intro k hk;have q:=Ra (G:=G) (bb:=bb) l[k] (hr _ (aQm hk));have hb:((l.take k).map aE.e).length<=1000:=by rw[aQb,aQj];omega
  have hall:=Ae (l.take k);rw[aAR l k hk];generalize (l.take k).map aE.e=C at hb hall ⊢;simp (disch:=omega) only[go_sem,h67l0,aQb,ixA,aE.e,q,hall];rw[aQc];rfl
end
end Go.Proofs.YtcplecjhmnblpaaGreatDoor
