/- Lists of attributes: few, copied; the attribute that has some parts, by the reference. Conditions: none. -/
import Derived.Test.YthepfneloomngaaGreatDoorUn
namespace Go.Proofs.YthepfneloomngaaGreatDoor
set_option linter.unusedSimpArgs false
set_option linter.unusedVariables false
set_option maxRecDepth 4000
section
variable {G:aF} {bb:Bool}
def jC(a b:Int):Int:=if a < b then -1 else if a > b then 1 else 0
theorem Tf(a:Int):EV G (Tb (bs bb)) 329 [vi a] []=some (vb false,[]):=by
 refine aA rfl ?_;simp (disch:=omega) only[go_sem,h329c]
theorem aNt(a b:Int):EV G (Tb (bs bb)) 292 [vi a,vi b] []=some (vi (jC a b),[]):=by
 refine aA rfl ?_;unfold jC;by_cases c1:a < b
 ·rw[if_pos c1];simp (disch:=omega) only[go_sem,h292c,Tf,eq_true c1]
 ·rw[if_neg c1];by_cases c2:b < a
  ·rw[if_pos c2];simp (disch:=omega) only[go_sem,h292c,Tf,c1,eq_true c2]
  ·rw[if_neg c2];simp (disch:=omega) only[go_sem,h292c,Tf,c1,c2]
theorem B6(a b:Int):EV G (Tb (bs bb)) 297 [vi a,vi b] []=some (vi (jC a b),[]):=by
 refine aA rfl ?_;unfold jC;by_cases c1:a < b
 ·rw[if_pos c1];simp (disch:=omega) only[go_sem,h297c,eq_true c1]
 ·rw[if_neg c1];by_cases c2:b < a
  ·rw[if_pos c2];simp (disch:=omega) only[go_sem,h297c,c1,eq_true c2]
  ·rw[if_neg c2];simp (disch:=omega) only[go_sem,h297c,c1,c2]
theorem Tg(s:ByteArray):EV G (Tb (bs bb)) 330 [.one (.dc (.raw (.string s)))] []=some (vb false,[]):=by
 refine aA rfl ?_;simp (disch:=omega) only[go_sem,h330c]
def ltS(a b:List Int):Bool:=Op.bytesLess (dO a).toList (dO b).toList
def gtS(a b:List Int):Bool:=!(Op.bytesLess (dO a).toList (dO b).toList||(dO a).toList==(dO b).toList)
theorem pQ(a b:List Int):eC .lss (sv a) (sv b)=some (vb (ltS a b)):=rfl
theorem Aq(a b:List Int):eC .gtr (sv a) (sv b)=some (vb (gtS a b)):=rfl
def tV(a b:List Int):Int:=if ltS a b=true then -1 else if gtS a b=true then 1 else 0
theorem aNu(a b:List Int):EV G (Tb (bs bb)) 293 [sv a,sv b] []=some (vi (tV a b),[]):=by
 refine aA rfl ?_;unfold tV;cases c1:ltS a b with
 | true=>
  rw[if_pos rfl];simp (disch:=omega) only[go_sem,h293c,Tg,pQ,c1]
 | false=>
  rw[if_neg (by decide)];cases c2:gtS a b with
  | true=>
   rw[if_pos rfl];simp (disch:=omega) only[go_sem,h293c,Tg,pQ,Aq,c1,c2]
  | false=>
   rw[if_neg (by decide)];simp (disch:=omega) only[go_sem,h293c,Tg,pQ,Aq,c1,c2]
theorem aUz(l:List Int)(hl:l.length<=1000):EV G (Tb (bs bb)) 291 [vl (el l)] []=some (vi (aQ l),[]):=by
 refine aA rfl ?_;simp (disch:=omega) only[go_sem,h291c,aWf];have round:∀ k (hk:k < l.length),¬ l.getD k 0≠0->K1 [3,2,0,0] 0 (EC (EV G (Tb (bs bb))) G h291l0 ⟨(jk 3 (vi 0::jk 2 (vl (el l)::vi l.length::vi k::jk 9 []))),[]⟩)=some ⟨(jk 3 (vi 0::jk 2 (vl (el l)::vi l.length::vi (k+1:Nat)::jk 9 []))),[]⟩:=fun k hk hz=>by
  rw[cY l k hk] at hz;simp (disch:=omega) only[go_sem,h291l0,aWf,Gc]
 rcases La (fun k=>l.getD k 0≠0) l.length with h | ⟨j,hj,h1,h2⟩
 ·rw[aU (fun k=>⟨(jk 3 (vi 0::jk 2 (vl (el l)::vi l.length::vi k::jk 9 []))),[]⟩) l.length ?_ ?_]
  ·rw[fX l h];simp (disch:=omega) only[go_sem,h291l0]
  ·rfl
  ·exact fun k hk=>round k hk (h k hk)
 ·rw[aU (fun k=>⟨(jk 3 (vi 0::jk 2 (vl (el l)::vi l.length::vi k::jk 9 []))),[]⟩) j ?_ ?_]
  ·rw[iY l j hj h2 h1];rw[cY l j hj] at h1;simp (disch:=omega) only[go_sem,h291l0,aWf,Gc]
  ·rfl
  ·exact fun k hk=>round k (by omega) (h2 k hk)
def iQ(a b:aK):Int:=aQ [jC a.ty b.ty,tV a.nm b.nm,jC a.fi b.fi,jC a.id b.id]
theorem Jo(a b:aK):EV G (Tb (bs bb)) 245 [a.v,b.v] []=some (vi (iQ a b),[]):=by
 refine aA rfl ?_;have q:=aUz (G:=G) (bb:=bb) [jC a.ty b.ty,tV a.nm b.nm,jC a.fi b.fi,jC a.id b.id] (by simp);simp only[el,aWp,aWw,Gc] at q;simp (disch:=omega) only[go_sem,h245c,aNt,aNu,q];rfl
def mN(a b:aK):Bool:=decide (a.ty=b.ty)&&(decide (a.nm=b.nm)&&decide (a.fi=b.fi))
theorem Jp(a b:aK)(ha:aL a.nm)(hb:aL b.nm):EV G (Tb (bs bb)) 256 [a.v,b.v] []=some (vb (mN a b),[]):=by
 refine aA rfl ?_;have e:=gJ ha hb;unfold mN;by_cases c1:a.ty=b.ty
 ·by_cases c2:a.nm=b.nm
  ·simp (disch:=omega) only[go_sem,h256c,e,eq_true c1,eq_true c2]
  ·simp (disch:=omega) only[go_sem,h256c,e,eq_true c1,c2]
 ·simp (disch:=omega) only[go_sem,h256c,e,c1]
abbrev aRQ(ty:Int)(nm:List Int)(fi:Int):List aR:=[.dc (ci ty),.dc (.raw (.string (dO nm))),.dc (ci fi)]
theorem aNv(a b:aK):EV G (Tb (bs bb)) 296 [.agg (aRQ a.ty a.nm a.fi),.agg (aRQ b.ty b.nm b.fi)] []=some (vi (aQ [jC a.ty b.ty,tV a.nm b.nm,jC a.fi b.fi]),[]):=by
 refine aA rfl ?_;have q1:=B6 (G:=G) (bb:=bb) a.ty b.ty;have q2:=B6 (G:=G) (bb:=bb) a.fi b.fi;by_cases c1:jC a.ty b.ty=0
 ·rw[c1] at q1;rw[c1,aX];unfold tV;cases c2:ltS a.nm b.nm with
  | true=>
   rw[if_pos rfl];simp (disch:=omega) only[go_sem,h296c,q1,pQ,c2];rfl
  | false=>
   rw[if_neg (by decide)];cases c3:gtS a.nm b.nm with
   | true=>
    rw[if_pos rfl];simp (disch:=omega) only[go_sem,h296c,q1,pQ,Aq,c2,c3];rfl
   | false=>
    rw[if_neg (by decide)];have e:aQ [0,jC a.fi b.fi]=jC a.fi b.fi:=by
     rw[aX];by_cases h:jC a.fi b.fi=0
     ·rw[h];rfl
     ·rw[aZ _ _ h]
    rw[e];simp (disch:=omega) only[go_sem,h296c,q1,q2,pQ,Aq,c2,c3]
 ·rw[aZ _ _ c1];generalize jC a.ty b.ty=e at c1 q1;simp (disch:=omega) only[go_sem,h296c,q1,c1]
theorem Th(l:List Int)(e:Int):aQ (l++[e])=if aQ l≠0 then aQ l else e:=by
 induction l with
 | nil=>
  show aQ [e]=if (0:Int)≠0 then 0 else e
  rw[if_neg (by decide)];by_cases h:e=0
  ·rw[h];rfl
  ·rw[aZ _ _ h]
 | cons x l ih=>
  by_cases h:x=0
  ·rw[h,aWR,aX,aX,ih]
  ·rw[aWR,aZ _ _ h,aZ _ _ h,if_pos h]
theorem G4(a b:aK):EV G (Tb (bs bb)) 251 [a.v,b.v] []=some (vi (iQ a b),[]):=by
 refine aA rfl ?_;have q1:=aKN (G:=G) (bb:=bb) a;have q2:=aKN (G:=G) (bb:=bb) b;have q3:=aNv (G:=G) (bb:=bb) a b;have q4:=B6 (G:=G) (bb:=bb) a.id b.id;have e:=Th [jC a.ty b.ty,tV a.nm b.nm,jC a.fi b.fi] (jC a.id b.id);unfold iQ;rw[show [jC a.ty b.ty,tV a.nm b.nm,jC a.fi b.fi,jC a.id b.id]=[jC a.ty b.ty,tV a.nm b.nm,jC a.fi b.fi]++[jC a.id b.id] from rfl,e]
 generalize aQ [jC a.ty b.ty,tV a.nm b.nm,jC a.fi b.fi]=x at q3 ⊢;by_cases c:x=0
 ·rw[if_neg (fun h=>h c)]
  simp (disch:=omega) only[go_sem,h251c,q1,q2,q3,q4,eq_true c]
 ·rw[if_pos c];simp (disch:=omega) only[go_sem,h251c,q1,q2,q3,c]
end
section
variable {G:aF} {bb:Bool}
theorem gZ(l:List aK)(k:Nat)(hk:k < l.length):l.getD k aK.nil=l[k]:=by simp[List.getD,hk]
theorem Lr(l:List aK):((l.map aK.e).all fun e=>decide (e.length=11))=true:=by simp[aK.e]
end
section
variable {G:aF} {bb:Bool}
theorem ixA(l:List aK)(k:Nat)(hk:k < l.length):(l.map aK.e)[k]?=some l[k].e:=by
 rw[aWl,aWo hk];rfl
noncomputable def lI(p:aK->Bool)(l:List aK):Int:=if ix (fun k=>p (l.getD k aK.nil)=true) l.length=l.length then -1 else (ix (fun k=>p (l.getD k aK.nil)=true) l.length:Nat)
theorem aEg(l:List aK)(i:Nat)(hi:i < l.length)(a:aK):
  EV G (Tb (bs bb)) 288 [a.v,.one (.ptr 0 0),.one (.ptr 1 0)] [.box [.dc (.slc (l.map aK.e))],.box [.dc (ci i)]]=some (vb (decide (a.id=l[i].id)),[.box [.dc (.slc (l.map aK.e))],.box [.dc (ci i)]]):=by
 refine aA rfl ?_;simp (disch:=omega) only[go_sem,h288c,aWf,ixA,aK.e]
theorem aNw(l:List aK)(i:Nat)(hi:i < l.length)(m:List aK)(hm:m.length<=1000000):
  EV G (Tb (bs bb)) 150 [vl (m.map aK.e),.one (.fn 288 [.ptr 0 0,.ptr 1 0])] [.box [.dc (.slc (l.map aK.e))],.box [.dc (ci i)]]=some (vi (lI (fun a=>decide (a.id=l[i].id)) m),[.box [.dc (.slc (l.map aK.e))],.box [.dc (ci i)]]):=by
 refine aA rfl ?_;simp (disch:=omega) only[go_sem,h150c,aWf];unfold lI;rw[jH (fun k=>⟨(vl (m.map aK.e)::.one (.fn 288 [.ptr 0 0,.ptr 1 0])::jk 5 (vi m.length::vi k::jk 10 [])),[.box [.dc (.slc (l.map aK.e))],.box [.dc (ci i)]]⟩) (fun k=>decide ((m.getD k aK.nil).id=l[i].id)=true) m.length ?_ ?_]
 rotate_left
 ·rfl
 ·intro k hk hn;have h3:=hn k (aWj _);rw[gZ m k hk] at h3;have h4:decide (m[k].id=l[i].id)=false:=by simpa using h3
  have q:=aEg (G:=G) (bb:=bb) l i hi m[k];rw[h4] at q;simp (disch:=omega) only[go_sem,h150l0,aWf,ixA,aK.e,q]
 obtain⟨hk,hp,hn⟩:=bZ (fun k=>decide ((m.getD k aK.nil).id=l[i].id)=true) m.length
 generalize ix (fun k=>decide ((m.getD k aK.nil).id=l[i].id)=true) m.length=k at *
 rcases hp with rfl | ⟨hk',hp⟩
 ·rw[if_pos rfl];simp (disch:=omega) only[go_sem,h150l0,aWf]
 ·rw[if_neg (by omega)];rw[gZ m k hk'] at hp;have q:=aEg (G:=G) (bb:=bb) l i hi m[k];rw[hp] at q;simp (disch:=omega) only[go_sem,h150l0,aWf,ixA,aK.e,q]
theorem Po(p:aK->Bool)(l:List aK):decide (0<=lI p l)=l.any p:=by
 unfold lI;obtain⟨hk,hp,hn⟩:=bZ (fun k=>p (l.getD k aK.nil)=true) l.length
 generalize ix (fun k=>p (l.getD k aK.nil)=true) l.length=k at *
 rcases hp with rfl | ⟨hk',hp⟩
 ·rw[if_pos rfl]
  symm
  rw[show decide ((0:Int)<=-1)=false from rfl,aXE]
  intro x hx;obtain⟨j,hj,rfl⟩:=List.getElem_of_mem hx;have:=hn j hj;rw[gZ l j hj] at this;exact this
 ·rw[if_neg (by omega),decide_eq_true (by omega)]
  symm
  rw[List.any_eq_true];rw[gZ l k hk'] at hp;exact⟨l[k],aWq hk',hp⟩
theorem aIQ(l:List aK)(i:Nat)(hi:i < l.length)(m:List aK)(hm:m.length<=1000000):
  EV G (Tb (bs bb)) 239 [vl (m.map aK.e),.one (.fn 288 [.ptr 0 0,.ptr 1 0])] [.box [.dc (.slc (l.map aK.e))],.box [.dc (ci i)]]=some (vb (m.any fun a=>decide (a.id=l[i].id)),[.box [.dc (.slc (l.map aK.e))],.box [.dc (ci i)]]):=by
 refine aA rfl ?_;have q:=aNw (G:=G) (bb:=bb) l i hi m hm;rw[<- Po];simp (disch:=omega) only[go_sem,h239c,q]
theorem aRR{α β:Type}(f:α->Option β)(x y:α):[x,y].mapM f=(f x).bind fun a=>(f y).map fun b=>[a,b]:=by
 simp only[aW9,List.mapM_nil];cases f x with
 | none=>rfl
 | some a=>cases f y<;>rfl
def aAv(l:List aK)(i:Nat):Bool:=(l.take i).any fun a=>decide (a.id=(l.getD i aK.nil).id)
def lU(l:List aK)(i:Nat):Int:=aQ [gU (l.getD i aK.nil),un (!aAv l i) 23]
theorem Ar(l:List aK)(hW:∀ a∈l,a.W)(hl:l.length<=1000)(i:Nat)(hi:i < l.length):EV G (Tb (bs bb)) 242 [vl (l.map aK.e),vi i] []=some (vi (lU l i),[]):=by
 refine aA rfl ?_;have q:=aIQ (G:=G) (bb:=bb) l i hi (l.take i) (by rw[aWm];omega);have q1:=Am (G:=G) (bb:=bb) l[i] (hW _ (aWq hi));rw[aW2] at q;unfold lU aAv;rw[gZ l i hi];simp (disch:=omega) only[go_sem,h242c,aWf,ixA,aK.e,q,q1,Lr,aV,lR,aRR,aWi,aWr]
end
section
variable {G:aF} {bb:Bool}
def mO(l:List aK)(k:Nat):Int:=if k=0 then lU l 0 else
 aQ [lU l k,un (decide (iQ (l.getD (k - 1) aK.nil) (l.getD k aK.nil)<=0)) 9,un (!mN (l.getD (k - 1) aK.nil) (l.getD k aK.nil)||decide ((l.getD k aK.nil).ty=48)) 5]
noncomputable def sF(l:List aK):Int × Int:=if l.length > 32 then (0,8) else
 if ix (fun k=>mO l k≠0) l.length < l.length then ((ix (fun k=>mO l k≠0) l.length:Nat),mO l (ix (fun k=>mO l k≠0) l.length)) else (0,0)
abbrev iiv(p:Int × Int):AV:=.tup [.one (.dc (ci p.1)),.one (.dc (ci p.2))]
theorem ixP(l:List aK)(k:Nat)(hk:k < l.length)(h0:0 < k):(l.map aK.e)[((k:Int) - 1).toNat]?=some l[k - 1].e:=by
 rw[show ((k:Int) - 1).toNat=k - 1 by omega];exact ixA l (k - 1) (by omega)
set_option maxHeartbeats 4000000 in
theorem aIR(l:List aK)(hW:∀ a∈l,a.W)(hl:l.length<=1000):EV G (Tb (bs bb)) 205 [vl (l.map aK.e)] []=some (iiv (sF l),[]):=by
 refine aA rfl ?_;unfold sF;by_cases c1:l.length > 32
 ·rw[if_pos c1];have d2:32 < (l.length:Int):=by omega
  simp (disch:=omega) only[go_sem,h205c,aWf,eq_true d2]
 rw[if_neg c1];have d2:¬ 32 < (l.length:Int):=by omega
 simp (disch:=omega) only[go_sem,h205c,aWf,d2];rw[jH (fun k=>⟨(vl (l.map aK.e)::jk 10 (vl (l.map aK.e)::vi l.length::vi k::jk 37 [])),[]⟩) (fun k=>mO l k≠0) l.length ?_ ?_]
 rotate_left
 ·rfl
 ·intro k hk hn;have hz:=Classical.not_not.1 (hn k (aWj _));have q:=Ar (G:=G) (bb:=bb) l hW hl k hk;by_cases h0:k=0
  ·subst h0;simp only[mO,if_true] at hz;rw[hz] at q;have q0:EV G (Tb (bs bb)) 242 [vl (l.map aK.e),vi 0] []=some (vi 0,[]):=q;have i0:(l.map aK.e)[(0:Nat)]?=some l[0].e:=ixA l 0 hk;simp (disch:=omega) only[go_sem,h205l0,aWf,ixA,i0,aK.e,bD,q0,Int.natCast_zero,Int.lt_irrefl,decide_false,Int.toNat_zero];rfl
  ·have d0:0 < (k:Int):=by omega
   unfold mO at hz;rw[if_neg h0,gZ l (k - 1) (by omega),gZ l k hk] at hz;have iP:=ixP l k hk (by omega);have q1:=Jo (G:=G) (bb:=bb) l[k - 1] l[k];have q2:=Jp (G:=G) (bb:=bb) l[k - 1] l[k] (hW _ (aWq _)).nm (hW _ (aWq _)).nm;cases hb:mN l[k - 1] l[k] with
   | false=>
    rw[hb] at hz q2;simp only[aWO,aXj] at hz;simp (disch:=omega) only[go_sem,h205l0,aWf,ixA,iP,aK.e,bD,q,eq_true d0,q1,q2,aV,bV,hz]
   | true=>
    rw[hb] at hz q2;simp only[aWS,aW4] at hz;simp (disch:=omega) only[go_sem,h205l0,aWf,ixA,iP,aK.e,bD,q,eq_true d0,q1,q2,aV,bV,hz]
 obtain⟨hk,hp,hn⟩:=bZ (fun k=>mO l k≠0) l.length
 generalize ix (fun k=>mO l k≠0) l.length=k at *
 rcases hp with rfl | ⟨hk',hz⟩
 ·rw[if_neg (Nat.lt_irrefl _)];simp (disch:=omega) only[go_sem,h205l0,aWf]
 ·rw[if_pos hk'];have q:=Ar (G:=G) (bb:=bb) l hW hl k hk';by_cases h0:k=0
  ·subst h0;simp only[mO,if_true] at hz ⊢;have q0:EV G (Tb (bs bb)) 242 [vl (l.map aK.e),vi 0] []=some (vi (lU l 0),[]):=q;have i0:(l.map aK.e)[(0:Nat)]?=some l[0].e:=ixA l 0 hk';simp (disch:=omega) only[go_sem,h205l0,aWf,ixA,i0,aK.e,bD,q0,Int.natCast_zero,Int.lt_irrefl,decide_false,Int.toNat_zero,hz]
  ·have d0:0 < (k:Int):=by omega
   unfold mO at hz ⊢;rw[if_neg h0,gZ l (k - 1) (by omega),gZ l k hk'] at hz ⊢;have iP:=ixP l k hk' (by omega);have q1:=Jo (G:=G) (bb:=bb) l[k - 1] l[k];have q2:=Jp (G:=G) (bb:=bb) l[k - 1] l[k] (hW _ (aWq _)).nm (hW _ (aWq _)).nm;cases hb:mN l[k - 1] l[k] with
   | false=>
    rw[hb] at hz q2;simp only[aWO,aXj] at hz ⊢;simp (disch:=omega) only[go_sem,h205l0,aWf,ixA,iP,aK.e,bD,q,eq_true d0,q1,q2,aV,bV,hz]
   | true=>
    rw[hb] at hz q2;simp only[aWS,aW4] at hz ⊢;simp (disch:=omega) only[go_sem,h205l0,aWf,ixA,iP,aK.e,bD,q,eq_true d0,q1,q2,aV,bV,hz]
end
section
variable {G:aF} {bb:Bool}
theorem Ls{l:List aK}{k:Nat}(h0:k≠0)(hk:k < l.length)(h:mO l k=0):lU l k=0/\iQ l[k - 1] l[k]<=0/\(mN l[k - 1] l[k]=true->l[k].ty=48):=by
 unfold mO at h;rw[if_neg h0,gZ l (k - 1) (by omega),gZ l k hk] at h;by_cases c1:lU l k=0
 ·rw[c1,aX] at h;by_cases c2:iQ l[k - 1] l[k]<=0
  ·rw[decide_eq_true c2,fY,aX] at h;refine⟨c1,c2,fun hb=>?_⟩
   rw[hb] at h;by_cases c3:l[k].ty=48
   ·exact c3
   ·rw[decide_eq_false c3] at h;exact absurd h (by simp[un,aQ])
  ·rw[decide_eq_false c2] at h;exact absurd h (by simp[un,aQ])
 ·rw[aZ _ _ c1] at h;exact absurd h c1
theorem Lt{a b:aK}:mN a b=true↔a.ty=b.ty/\a.nm=b.nm/\a.fi=b.fi:=by simp[mN]
end
section
variable {G:aF} {bb:Bool}
end
section
variable {G:aF} {B:aO}
end
section
variable {G:aF} {bb:Bool}
theorem aNx{l:List bF}(h:(oQ l).2=0):jO l=cD l:=by
 have hF:=Ah h;exact Eh l (fun r hr=>(hF.el r hr).2.2) (by have:=hF.sum;omega)
end
section
variable {G:aF} {bb:Bool}
end
section
variable {G:aF} {bb:Bool}
theorem aKO(l:List aK)(k:Nat)(hk:k < l.length):(l.take (k+1)).map aK.e=(l.take k).map aK.e++[l[k].e]:=by
 rw[aXe hk,aWW];rfl
end
end Go.Proofs.YthepfneloomngaaGreatDoor
