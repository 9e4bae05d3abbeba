/- Lists of attributes: few, copied; the attribute that has some parts, by the reference. Conditions: none. -/
import Derived.Test.YthepfneloomngaaGreatDoorUm
import Derived.Test.YthepfneloomngaaGreatDoorMb
import Derived.KernelRfl
namespace Go.Proofs.YthepfneloomngaaGreatDoor
set_option linter.unusedSimpArgs false
set_option linter.unusedVariables false
set_option maxRecDepth 4000
section
variable {G:aE}{bb:Bool}
theorem Rr(a:aJ):EV G (Tb (bs bb)) 195 [a.v] []=some (.agg [.dc (ci a.ty),.dc (.raw (.string (dL a.nm))),.dc (ci a.fi)],[]):=by
 refine aA rfl ?_;simp (disch:=omega) only[go_sem,h195c,aL]
end
section
variable {G:aE}{bb:Bool}
def jR(a b:Int):Int:=if a<b then -1 else if a > b then 1 else 0
theorem U4(a:Int):EV G (Tb (bs bb)) 329 [vi a] []=some (vb false,[]):=by
 refine aA rfl ?_;simp (disch:=omega) only[go_sem,h329c]
theorem aO0(a b:Int):EV G (Tb (bs bb)) 292 [vi a,vi b] []=some (vi (jR a b),[]):=by
 refine aA rfl ?_;unfold jR;by_cases c1:a<b;rw[if_pos c1];simp (disch:=omega) only[go_sem,h292c,U4,eq_true c1];rw[if_neg c1];by_cases c2:b<a;rw[if_pos c2];simp (disch:=omega) only[go_sem,h292c,U4,c1,eq_true c2];rw[if_neg c2];simp (disch:=omega) only[go_sem,h292c,U4,c1,c2]
theorem Dm(a b:Int):EV G (Tb (bs bb)) 297 [vi a,vi b] []=some (vi (jR a b),[]):=by
 refine aA rfl ?_;unfold jR;by_cases c1:a<b;rw[if_pos c1];simp (disch:=omega) only[go_sem,h297c,eq_true c1];rw[if_neg c1];by_cases c2:b<a;rw[if_pos c2];simp (disch:=omega) only[go_sem,h297c,c1,eq_true c2];rw[if_neg c2];simp (disch:=omega) only[go_sem,h297c,c1,c2]
theorem U5(s:ByteArray):EV G (Tb (bs bb)) 330 [.one (.dc (.raw (.string s)))] []=some (vb false,[]):=by
 refine aA rfl ?_;simp (disch:=omega) only[go_sem,h330c]
def ltS(a b:List Int):Bool:=Op.bytesLess (dL a).toList (dL b).toList
def gtS(a b:List Int):Bool:=!(Op.bytesLess (dL a).toList (dL b).toList||(dL a).toList==(dL b).toList)
theorem qI(a b:List Int):eP .lss (sv a) (sv b)=some (vb (ltS a b)):=rfl
theorem B9(a b:List Int):eP .gtr (sv a) (sv b)=some (vb (gtS a b)):=rfl
def zI(a b:List Int):Int:=if ltS a b=true then -1 else if gtS a b=true then 1 else 0
theorem aO1(a b:List Int):EV G (Tb (bs bb)) 293 [sv a,sv b] []=some (vi (zI a b),[]):=by
 refine aA rfl ?_;unfold zI;cases c1:ltS a b with
 |true=>
  rw[if_pos rfl];simp (disch:=omega) only[go_sem,h293c,U5,qI,c1]
 |false=>
  rw[if_neg (by decide)];cases c2:gtS a b with
  |true=>
   rw[if_pos rfl];simp (disch:=omega) only[go_sem,h293c,U5,qI,B9,c1,c2]
  |false=>
   rw[if_neg (by decide)];simp (disch:=omega) only[go_sem,h293c,U5,qI,B9,c1,c2]
theorem aV1(l:List Int)(hl:l.length<=1000):EV G (Tb (bs bb)) 291 [vl (el l)] []=some (vi (aS l),[]):=by
 refine aA rfl ?_;simp (disch:=omega) only[go_sem,h291c,aXC];have round:∀ k (hk:k < l.length),¬ l.getD k 0≠0->K6 [3,2,0,0] 0 (EC (EV G (Tb (bs bb))) G h291l0 ⟨(jk 3 (vi 0::jk 2 (vl (el l)::vi l.length::vi k::jk 9 []))),[]⟩)=some ⟨(jk 3 (vi 0::jk 2 (vl (el l)::vi l.length::vi (k+1:Nat)::jk 9 []))),[]⟩:=fun k hk hz=>by
  rw[cL l k hk] at hz;simp (disch:=omega) only[go_sem,h291l0,aXC,E4]
 rcases M8 (fun k=>l.getD k 0≠0) l.length with h|⟨j,hj,h1,h2⟩
 rw[aR (fun k=>⟨(jk 3 (vi 0::jk 2 (vl (el l)::vi l.length::vi k::jk 9 []))),[]⟩) l.length ?_ ?_]
 rw[gR l h];simp (disch:=omega) only[go_sem,h291l0];rfl;exact fun k hk=>round k hk (h k hk)
 rw[aR (fun k=>⟨(jk 3 (vi 0::jk 2 (vl (el l)::vi l.length::vi k::jk 9 []))),[]⟩) j ?_ ?_]
 rw[jQ l j hj h2 h1];rw[cL l j hj] at h1;simp (disch:=omega) only[go_sem,h291l0,aXC,E4];rfl;exact fun k hk=>round k (by omega) (h2 k hk)
def jK(a b:aJ):Int:=aS [jR a.ty b.ty,zI a.nm b.nm,jR a.fi b.fi,jR a.id b.id]
theorem Lh(a b:aJ):EV G (Tb (bs bb)) 245 [a.v,b.v] []=some (vi (jK a b),[]):=by
 refine aA rfl ?_;have q:=aV1 (G:=G) (bb:=bb) [jR a.ty b.ty,zI a.nm b.nm,jR a.fi b.fi,jR a.id b.id] (by simp);simp only[el,aXL,aXT,E4] at q;simp (disch:=omega) only[go_sem,h245c,aO0,aO1,q];rfl
def nF(a b:aJ):Bool:=decide (a.ty=b.ty)&&(decide (a.nm=b.nm)&&decide (a.fi=b.fi))
theorem Li(a b:aJ)(ha:aM a.nm)(hb:aM b.nm):EV G (Tb (bs bb)) 256 [a.v,b.v] []=some (vb (nF a b),[]):=by
 refine aA rfl ?_;have e:=dR ha hb;unfold nF;by_cases c1:a.ty=b.ty;by_cases c2:a.nm=b.nm;simp (disch:=omega) only[go_sem,h256c,e,eq_true c1,eq_true c2];simp (disch:=omega) only[go_sem,h256c,e,eq_true c1,c2];simp (disch:=omega) only[go_sem,h256c,e,c1]
abbrev aJ2(ty:Int)(nm:List Int)(fi:Int):List aT:=[.dc (ci ty),.dc (.raw (.string (dL nm))),.dc (ci fi)]
theorem aO2(a b:aJ):EV G (Tb (bs bb)) 296 [.agg (aJ2 a.ty a.nm a.fi),.agg (aJ2 b.ty b.nm b.fi)] []=some (vi (aS [jR a.ty b.ty,zI a.nm b.nm,jR a.fi b.fi]),[]):=by
 refine aA rfl ?_;have q1:=Dm (G:=G) (bb:=bb) a.ty b.ty;have q2:=Dm (G:=G) (bb:=bb) a.fi b.fi;by_cases c1:jR a.ty b.ty=0;rw[c1] at q1;rw[c1,aV];unfold zI;cases c2:ltS a.nm b.nm with
 |true=>
  rw[if_pos rfl];simp (disch:=omega) only[go_sem,h296c,q1,qI,c2];rfl
 |false=>
  rw[if_neg (by decide)];cases c3:gtS a.nm b.nm with
  |true=>
   rw[if_pos rfl];simp (disch:=omega) only[go_sem,h296c,q1,qI,B9,c2,c3];rfl
  |false=>
   rw[if_neg (by decide)];have e:aS [0,jR a.fi b.fi]=jR a.fi b.fi:=by
    rw[aV];by_cases h:jR a.fi b.fi=0;rw[h];rfl;rw[aX _ _ h]
   rw[e];simp (disch:=omega) only[go_sem,h296c,q1,q2,qI,B9,c2,c3]
 rw[aX _ _ c1];generalize jR a.ty b.ty=e at c1 q1;simp (disch:=omega) only[go_sem,h296c,q1,c1]
theorem U6(l:List Int)(e:Int):aS (l++[e])=if aS l≠0 then aS l else e:=by
 induction l with
 |nil=>
  show aS [e]=if (0:Int)≠0 then 0 else e
  rw[if_neg (by decide)];by_cases h:e=0;rw[h];rfl;rw[aX _ _ h]
 |cons x l ih=>
  by_cases h:x=0;rw[h,aYd,aV,aV,ih];rw[aYd,aX _ _ h,aX _ _ h,if_pos h]
theorem It(a b:aJ):EV G (Tb (bs bb)) 251 [a.v,b.v] []=some (vi (jK a b),[]):=by
 refine aA rfl ?_;have q1:=Rr (G:=G) (bb:=bb) a;have q2:=Rr (G:=G) (bb:=bb) b;have q3:=aO2 (G:=G) (bb:=bb) a b;have q4:=Dm (G:=G) (bb:=bb) a.id b.id;have e:=U6 [jR a.ty b.ty,zI a.nm b.nm,jR a.fi b.fi] (jR a.id b.id);unfold jK;rw[show [jR a.ty b.ty,zI a.nm b.nm,jR a.fi b.fi,jR a.id b.id]=[jR a.ty b.ty,zI a.nm b.nm,jR a.fi b.fi]++[jR a.id b.id] from rfl,e]
 generalize aS [jR a.ty b.ty,zI a.nm b.nm,jR a.fi b.fi]=x at q3 ⊢;by_cases c:x=0;rw[if_neg (fun h=>h c)]
 simp (disch:=omega) only[go_sem,h251c,q1,q2,q3,q4,eq_true c];rw[if_pos c];simp (disch:=omega) only[go_sem,h251c,q1,q2,q3,c]
end
section
variable {G:aE}{bb:Bool}
theorem gT(l:List aJ)(k:Nat)(hk:k<l.length):l.getD k aJ.nil=l[k]:=by simp[List.getD,hk]
theorem F6(l:List aJ):((l.map aJ.e).all fun e=>decide (e.length=11))=true:=by simp[aJ.e]
end
section
variable {G:aE}{bb:Bool}
theorem ixA(l:List aJ)(k:Nat)(hk:k<l.length):(l.map aJ.e)[k]?=some l[k].e:=by
 rw[aXI,aXJ hk];rfl
def oQ(ty:Int)(nm:List Int)(fi:Int)(a:aJ):Bool:=decide (a.ty=ty)&&(decide (a.nm=nm)&&decide (a.fi=fi))
noncomputable def iH(p:aJ->Bool)(l:List aJ):Int:=if ix (fun k=>p (l.getD k aJ.nil)=true) l.length=l.length then -1 else (ix (fun k=>p (l.getD k aJ.nil)=true) l.length:Nat)
theorem aFm(l:List aJ)(i:Nat)(hi:i<l.length)(a:aJ):
  EV G (Tb (bs bb)) 288 [a.v,.one (.ptr 0 0),.one (.ptr 1 0)] [.box [.dc (.slc (l.map aJ.e))],.box [.dc (ci i)]]=some (vb (decide (a.id=l[i].id)),[.box [.dc (.slc (l.map aJ.e))],.box [.dc (ci i)]]):=by
 refine aA rfl ?_;simp (disch:=omega) only[go_sem,h288c,aXC,ixA,aJ.e]
theorem aO3(l:List aJ)(i:Nat)(hi:i<l.length)(m:List aJ)(hm:m.length<=1000000):
  EV G (Tb (bs bb)) 150 [vl (m.map aJ.e),.one (.fn 288 [.ptr 0 0,.ptr 1 0])] [.box [.dc (.slc (l.map aJ.e))],.box [.dc (ci i)]]=some (vi (iH (fun a=>decide (a.id=l[i].id)) m),[.box [.dc (.slc (l.map aJ.e))],.box [.dc (ci i)]]):=by
 refine aA rfl ?_;simp (disch:=omega) only[go_sem,h150c,aXC];unfold iH;rw[gF (fun k=>⟨(vl (m.map aJ.e)::.one (.fn 288 [.ptr 0 0,.ptr 1 0])::jk 5 (vi m.length::vi k::jk 10 [])),[.box [.dc (.slc (l.map aJ.e))],.box [.dc (ci i)]]⟩) (fun k=>decide ((m.getD k aJ.nil).id=l[i].id)=true) m.length ?_ ?_]
 rotate_left
 rfl;intro k hk hn;have h3:=hn k (aXF _);rw[gT m k hk] at h3;have h4:decide (m[k].id=l[i].id)=false:=by simpa using h3
 have q:=aFm (G:=G) (bb:=bb) l i hi m[k];rw[h4] at q;simp (disch:=omega) only[go_sem,h150l0,aXC,ixA,aJ.e,q];obtain⟨hk,hp,hn⟩:=bT (fun k=>decide ((m.getD k aJ.nil).id=l[i].id)=true) m.length
 generalize ix (fun k=>decide ((m.getD k aJ.nil).id=l[i].id)=true) m.length=k at *
 rcases hp with rfl|⟨hk',hp⟩;rw[if_pos rfl];simp (disch:=omega) only[go_sem,h150l0,aXC];rw[if_neg (by omega)];rw[gT m k hk'] at hp;have q:=aFm (G:=G) (bb:=bb) l i hi m[k];rw[hp] at q;simp (disch:=omega) only[go_sem,h150l0,aXC,ixA,aJ.e,q]
theorem Rs(p:aJ->Bool)(l:List aJ):decide (0<=iH p l)=l.any p:=by
 unfold iH;obtain⟨hk,hp,hn⟩:=bT (fun k=>p (l.getD k aJ.nil)=true) l.length
 generalize ix (fun k=>p (l.getD k aJ.nil)=true) l.length=k at *
 rcases hp with rfl|⟨hk',hp⟩;rw[if_pos rfl]
 symm
 rw[show decide ((0:Int)<=-1)=false from rfl,aYW]
 intro x hx;obtain⟨j,hj,rfl⟩:=List.getElem_of_mem hx;have:=hn j hj;rw[gT l j hj] at this;exact this;rw[if_neg (by omega),decide_eq_true (by omega)]
 symm
 rw[List.any_eq_true];rw[gT l k hk'] at hp;exact⟨l[k],aXM hk',hp⟩
theorem aJ3(l:List aJ)(i:Nat)(hi:i<l.length)(m:List aJ)(hm:m.length<=1000000):
  EV G (Tb (bs bb)) 239 [vl (m.map aJ.e),.one (.fn 288 [.ptr 0 0,.ptr 1 0])] [.box [.dc (.slc (l.map aJ.e))],.box [.dc (ci i)]]=some (vb (m.any fun a=>decide (a.id=l[i].id)),[.box [.dc (.slc (l.map aJ.e))],.box [.dc (ci i)]]):=by
 refine aA rfl ?_;have q:=aO3 (G:=G) (bb:=bb) l i hi m hm;rw[<- Rs];simp (disch:=omega) only[go_sem,h239c,q]
theorem aTA{α β:Type}(f:α->Option β)(x y:α):[x,y].mapM f=(f x).bind fun a=>(f y).map fun b=>[a,b]:=by
 simp only[aYw,List.mapM_nil];cases f x with
 |none=>rfl
 |some a=>cases f y<;>rfl
def aBA(l:List aJ)(i:Nat):Bool:=(l.take i).any fun a=>decide (a.id=(l.getD i aJ.nil).id)
def mL(l:List aJ)(i:Nat):Int:=aS [fK (l.getD i aJ.nil),un (!aBA l i) 23]
theorem Ca(l:List aJ)(hW:∀a∈l,a.W)(hl:l.length<=1000)(i:Nat)(hi:i<l.length):EV G (Tb (bs bb)) 242 [vl (l.map aJ.e),vi i] []=some (vi (mL l i),[]):=by
 refine aA rfl ?_;have q:=aJ3 (G:=G) (bb:=bb) l i hi (l.take i) (by rw[aXK];omega);have q1:=B4 (G:=G) (bb:=bb) l[i] (hW _ (aXM hi));rw[aYr] at q;unfold mL aBA;rw[gT l i hi];simp (disch:=omega) only[go_sem,h242c,aXC,ixA,aJ.e,q,q1,F6,aZ,mG,aTA,aXG,aXP]
end
section
variable {G:aE}{bb:Bool}
def nG(l:List aJ)(k:Nat):Int:=if k=0 then mL l 0 else
 aS [mL l k,un (decide (jK (l.getD (k-1) aJ.nil) (l.getD k aJ.nil)<=0)) 9,un (!nF (l.getD (k-1) aJ.nil) (l.getD k aJ.nil)||decide ((l.getD k aJ.nil).ty=48)) 5]
noncomputable def tN(l:List aJ):Int×Int:=if l.length > 32 then (0,8) else
 if ix (fun k=>nG l k≠0) l.length<l.length then ((ix (fun k=>nG l k≠0) l.length:Nat),nG l (ix (fun k=>nG l k≠0) l.length)) else (0,0)
abbrev iiv(p:Int×Int):AV:=.tup [.one (.dc (ci p.1)),.one (.dc (ci p.2))]
theorem ixP(l:List aJ)(k:Nat)(hk:k<l.length)(h0:0<k):(l.map aJ.e)[((k:Int)-1).toNat]?=some l[k-1].e:=by
 rw[show ((k:Int)-1).toNat=k-1 by omega];exact ixA l (k-1) (by omega)
set_option maxHeartbeats 4000000 in
theorem aJ4(l:List aJ)(hW:∀a∈l,a.W)(hl:l.length<=1000):EV G (Tb (bs bb)) 205 [vl (l.map aJ.e)] []=some (iiv (tN l),[]):=by
 refine aA rfl ?_;unfold tN;by_cases c1:l.length > 32;rw[if_pos c1];have d2:32<(l.length:Int):=by omega
 simp (disch:=omega) only[go_sem,h205c,aXC,eq_true d2];rw[if_neg c1];have d2:¬ 32<(l.length:Int):=by omega
 simp (disch:=omega) only[go_sem,h205c,aXC,d2];rw[gF (fun k=>⟨(vl (l.map aJ.e)::jk 10 (vl (l.map aJ.e)::vi l.length::vi k::jk 37 [])),[]⟩) (fun k=>nG l k≠0) l.length ?_ ?_]
 rotate_left
 rfl;intro k hk hn;have hz:=Classical.not_not.1 (hn k (aXF _));have q:=Ca (G:=G) (bb:=bb) l hW hl k hk;by_cases h0:k=0;subst h0;simp only[nG,if_true] at hz;rw[hz] at q;have q0:EV G (Tb (bs bb)) 242 [vl (l.map aJ.e),vi 0] []=some (vi 0,[]):=q;have i0:(l.map aJ.e)[(0:Nat)]?=some l[0].e:=ixA l 0 hk;simp (disch:=omega) only[go_sem,h205l0,aXC,ixA,i0,aJ.e,aL,q0,Int.natCast_zero,Int.lt_irrefl,decide_false,Int.toNat_zero];rfl;have d0:0<(k:Int):=by omega
 unfold nG at hz;rw[if_neg h0,gT l (k-1) (by omega),gT l k hk] at hz;have iP:=ixP l k hk (by omega);have q1:=Lh (G:=G) (bb:=bb) l[k-1] l[k];have q2:=Li (G:=G) (bb:=bb) l[k-1] l[k] (hW _ (aXM _)).nm (hW _ (aXM _)).nm;cases hb:nF l[k-1] l[k] with
 |false=>
  rw[hb] at hz q2;simp only[aX5,aYK] at hz;simp (disch:=omega) only[go_sem,h205l0,aXC,ixA,iP,aJ.e,aL,q,eq_true d0,q1,q2,aZ,bY,hz]
 |true=>
  rw[hb] at hz q2;simp only[aYc,aYt] at hz;simp (disch:=omega) only[go_sem,h205l0,aXC,ixA,iP,aJ.e,aL,q,eq_true d0,q1,q2,aZ,bY,hz]
 obtain⟨hk,hp,hn⟩:=bT (fun k=>nG l k≠0) l.length
 generalize ix (fun k=>nG l k≠0) l.length=k at *
 rcases hp with rfl|⟨hk',hz⟩;rw[if_neg (Nat.lt_irrefl _)];simp (disch:=omega) only[go_sem,h205l0,aXC];rw[if_pos hk'];have q:=Ca (G:=G) (bb:=bb) l hW hl k hk';by_cases h0:k=0;subst h0;simp only[nG,if_true] at hz ⊢;have q0:EV G (Tb (bs bb)) 242 [vl (l.map aJ.e),vi 0] []=some (vi (mL l 0),[]):=q;have i0:(l.map aJ.e)[(0:Nat)]?=some l[0].e:=ixA l 0 hk';simp (disch:=omega) only[go_sem,h205l0,aXC,ixA,i0,aJ.e,aL,q0,Int.natCast_zero,Int.lt_irrefl,decide_false,Int.toNat_zero,hz];have d0:0<(k:Int):=by omega
 unfold nG at hz ⊢;rw[if_neg h0,gT l (k-1) (by omega),gT l k hk'] at hz ⊢;have iP:=ixP l k hk' (by omega);have q1:=Lh (G:=G) (bb:=bb) l[k-1] l[k];have q2:=Li (G:=G) (bb:=bb) l[k-1] l[k] (hW _ (aXM _)).nm (hW _ (aXM _)).nm;cases hb:nF l[k-1] l[k] with
 |false=>
  rw[hb] at hz q2;simp only[aX5,aYK] at hz ⊢;simp (disch:=omega) only[go_sem,h205l0,aXC,ixA,iP,aJ.e,aL,q,eq_true d0,q1,q2,aZ,bY,hz]
 |true=>
  rw[hb] at hz q2;simp only[aYc,aYt] at hz ⊢;simp (disch:=omega) only[go_sem,h205l0,aXC,ixA,iP,aJ.e,aL,q,eq_true d0,q1,q2,aZ,bY,hz]
end
section
variable {G:aE}{bb:Bool}
theorem Nu{l:List aJ}{k:Nat}(h0:k≠0)(hk:k<l.length)(h:nG l k=0):mL l k=0/\jK l[k-1] l[k]<=0/\(nF l[k-1] l[k]=true->l[k].ty=48):=by
 unfold nG at h;rw[if_neg h0,gT l (k-1) (by omega),gT l k hk] at h;by_cases c1:mL l k=0;rw[c1,aV] at h;by_cases c2:jK l[k-1] l[k]<=0;rw[decide_eq_true c2,fR,aV] at h;refine⟨c1,c2,fun hb=>?_⟩
 rw[hb] at h;by_cases c3:l[k].ty=48;exact c3;rw[decide_eq_false c3] at h;exact absurd h (by simp[un,aS]);rw[decide_eq_false c2] at h;exact absurd h (by simp[un,aS]);rw[aX _ _ c1] at h;exact absurd h c1
theorem Dn{a b:aJ}:nF a b=true↔a.ty=b.ty/\a.nm=b.nm/\a.fi=b.fi:=by simp[nF]
end
section
variable {G:aE}{bb:Bool}
end
section
variable {G:aE}{B:aO}
end
section
variable {G:aE}{bb:Bool}
theorem aO4{l:List aY}(h:(nA l).2=0):iF l=cA l:=by
 have hF:=Bv h;exact Bs l (fun r hr=>(hF.el r hr).2.2) (by have:=hF.sum;omega)
end
section
variable {G:aE}{bb:Bool}
end
section
variable {G:aE}{bb:Bool}
theorem aFn(l:List aJ)(k:Nat)(hk:k<l.length):(l.take (k+1)).map aJ.e=(l.take k).map aJ.e++[l[k].e]:=by
 rw[aYx hk,aYg];rfl
end
end Go.Proofs.YthepfneloomngaaGreatDoor
