/- Arguments of some types, opened. Conditions: none. -/
import Derived.Test.YthepfneloomngaaGreatDoorQp
import Derived.Test.YthepfneloomngaaGreatDoorSg
import Derived.Test.YthepfneloomngaaGreatDoorPa
import Derived.Test.YthepfneloomngaaGreatDoorMb
import Derived.OpenShut
namespace Go.Proofs.YthepfneloomngaaGreatDoor
set_option linter.unusedSimpArgs false
set_option linter.unusedVariables false
set_option maxRecDepth 4000
section
variable {G:aE}{bb:Bool}
theorem Ze{q:aY}(h:0<=q.s/\1<=q.n/\q.s+q.n<=512):(nA [q]).2=0:=by
 have r:bO q.s q.n=0:=by
  unfold bO;rw[if_neg (by omega),if_pos (by omega),if_pos (by omega)]
 have f:q.fresh U0=true:=by
  have:=Br [] q (fun _ h=>(by cases h)) r
  exact this
 have e:mE none U0 q=0:=by
  unfold mE;rw[r,if_neg (by decide),if_neg (by simp),if_pos f]
 unfold nA;rw[if_neg (by simp)];unfold rY;rw[e,if_neg (by decide)];unfold rY;show (if cA [q]<=4096 then (0:Int) else 8)=0
 rw[if_pos];simp[cA];omega
def uW:aJ:=⟨16,[],0,0,true,zl 16,0,[],0,0,0⟩
def pE(l:List aY):aJ:=⟨128,[],0,0,false,[],0,l,cA l*256,cA l*256,cA l*256⟩
theorem Zf:uW.W:=⟨fun x h=>(by cases h),uS 16,by decide,by decide,by decide⟩
theorem L2{l:List aY}(h:l.length<=100000):(pE l).W:=⟨fun x h=>(by cases h),fun x h=>(by cases h),aXX _,aXX _,h⟩
theorem aGz:Nd []=true:=by unfold Nd;exact decide_eq_true (.inl rfl)
theorem aLe:(dX uW).length<=40:=by
 unfold dX;split;rename_i h;rw[mI uW (lA Zf h).bd];decide;exact aXX _
theorem aP5{i:Int}(h:0<=i/\i<=100):fK (bG uW i)=0:=by
 unfold fK;rw[if_neg (by simp[bG,uW,Lb]),if_neg (by show ¬ Nd []=false;rw[aGz];decide),if_neg (by simp only[bG,uW];omega)];have e:rZ (bG uW i)=0:=rfl;have z:fQ (bG uW i)=40:=by unfold fQ eC tJ rU;simp[bG,uW,zl]
 rw[e,if_neg (by decide),z,if_neg (by decide)]
theorem aGA{q:aY}(h:(nA [q]).2=0)(i:Int):fQ (bG (pE [q]) i)<=48:=by
 have hb:(rU (bG (pE [q]) i)).length<=6:=by
  show (if false=true then _ else (Al [q]).1).length<=6
  rw[if_neg (by decide)];unfold Al;rw[K8,h,if_neg (by decide)];show ((lF [q]).1++[0]).length<=6;have:=Q4 0 q;rw[Ik,fM,fM,aYE,aXD];show _+1<=6;omega
 unfold fQ;have ha:eC (bG (pE [q]) i)=40:=by unfold eC tJ;simp[bG,pE]
 rw[ha];omega
theorem aGB{q:aY}(h:0<=q.s/\1<=q.n/\q.s+q.n<=512){i:Int}(hi:0<=i/\i<=100):fK (bG (pE [q]) i)=0:=by
 have hc:=Ze h;have hl:cA [q]=q.n:=by simp[cA]
 have hw:iF [q]=q.n:=by rw[aO4 hc,hl]
 have hz:=aGA hc i;unfold fK;rw[if_neg (by simp[bG,pE,Lb]),if_neg (by show ¬ Nd []=false;rw[aGz];decide),if_neg (by simp only[bG,pE];omega)];have e:rZ (bG (pE [q]) i)=0:=by
  show (if false=true then _ else Ig (bG (pE [q]) i))=0
  rw[if_neg (by decide)];have k1:(bG (pE [q]) i).al=q.n*256:=by show cA [q]*256=_;rw[hl]
  have k2:(bG (pE [q]) i).sz=q.n*256:=k1;have k3:(bG (pE [q]) i).vd=q.n*256:=k1;have k4:(bG (pE [q]) i).fi=0:=rfl;have k5:iF (bG (pE [q]) i).rs=q.n:=hw;unfold Ig;rw[if_neg (by simp[bG,pE,E7]),if_neg (by simp[bG,pE]),if_neg (by rw[k4];decide),if_neg (not_not_intro (show (nA (bG (pE [q]) i).rs).2=0 from hc)),if_neg (by rw[k4];simp),if_neg (by rw[k4,k5];omega),if_neg (by rw[k4];simp),if_neg (by rw[k1,k2,k3];omega),if_neg (by rw[k2,k3];omega)]
 rw[e,if_neg (by decide),if_neg (by omega)]
theorem aLf{q:aY}(h:0<=q.s/\1<=q.n/\q.s+q.n<=512){i:Int}(hi:0<=i/\i<=100):(dX (bG (pE [q]) i)).length<=48:=by
 have h1:=aGB h hi;unfold dX;rw[if_pos h1,mI _ (lA (Gb (L2 (by simp))) h1).bd];exact aGA (Ze h) i
theorem S2{r:cI}(h:r.ats=[]):gG r=hdE r:=by
 unfold gG Vf;have h1:(tN r.ats).2=0:=by
  unfold tN;rw[h];rw[if_neg (by decide)];rw[if_neg (by simp)]
 have h2:¬ 0<=gtI r:=by
  have:gtI r<0:=qL.2 (fun a ha=>by rw[h] at ha;cases ha)
  omega
 have h3:dS r.ats=0:=by rw[h];rfl
 by_cases q:hdE r=0;rw[if_neg (not_not_intro q),if_neg (not_not_intro h1),if_neg h2,h3,q];rfl;rw[if_pos q]
def r00(fl:Int):cI:=⟨1,1,fl,0,0,0,0,[]⟩
theorem aGC{fl:Int}(h:fl=1\/fl=3):gG (r00 fl)=0:=by
 rw[S2 rfl];rcases h with rfl|rfl<;>rfl
theorem Zg(fl:Int):(r00 fl).W:=⟨fun a h=>(by cases h),aXX _⟩
noncomputable def mP(fl:Int):cI:=nH (r00 fl) uW
theorem Zh{r:cI}{a:aJ}(h0:gG r=0)(hu:dU r.fl=true)(hn:r.nx<65535)(he:fK (bG a r.nx)=0)(hs:rG r a=false)(hl:r.ats.length<32)(hd:dS (nH r a).ats<=440):Put r a/\J8 r a=(nH r a,0):=by
 refine⟨⟨rH h0,hu,hn,he,hs,hl,hd⟩,?_⟩;have e1:I5 r=0:=by unfold I5;rw[h0,hu,decide_eq_true hn];rfl
 have e2:I6 r a=0:=by unfold I6;rw[he,hs,decide_eq_true hl];rfl
 unfold J8;rw[if_neg (not_not_intro e1),if_neg (not_not_intro e2),if_pos hd]
theorem aGD{r:cI}{a:aJ}(hW:r.W)(haW:a.W)(hl:r.ats.length<32):(nH r a).W:=by
 refine⟨fun x hx=>?_,?_⟩
 rcases Ch.1 hx with h|h;exact hW.at' x h;rw[h];exact Gb haW;show (dD (r.ats++[bG a r.nx])).length<=900;rw[oR,aXD,List.length_singleton];omega
theorem rP{fl:Int}(h:fl=1\/fl=3):J8 (r00 fl) uW=(mP fl,0)/\gG (mP fl)=0/\(mP fl).W/\dS (mP fl).ats<=40:=by
 have n:dS (mP fl).ats<=40:=by
  show dS (nH (r00 fl) uW).ats<=40;rw[Se];have:=aLe;show dS []+_<=40;have e:bG uW (r00 fl).nx=uW:=rfl;rw[e];simp only[dS,aXT,List.sum_nil];omega
 have hu:dU (r00 fl).fl=true:=by rcases h with rfl|rfl<;>rfl
 obtain⟨h1,h2⟩:=Zh (aGC h) hu (by show (0:Int)<65535;decide) (aP5 (by simp[r00]):fK (bG uW (r00 fl).nx)=0) rfl (by show (0:Nat)<32;decide) (by have:dS (nH (r00 fl) uW).ats<=40:=n;omega);exact⟨h2,Yz (Zg fl) (fun x h=>(by cases h)) h1,aGD (Zg fl) Zf (by show (0:Nat)<32;decide),n⟩
theorem Zj{fl:Int}{b:aJ}:b∈(mP fl).ats↔b=uW:=by
 unfold mP;rw[Ch];show b∈[]\/b=uW↔b=uW;simp
theorem Zk(fl:Int):(mP fl).ats.length=1:=by
 show (dD ([]++[bG uW 0])).length=1;rw[oR];rfl
noncomputable def nI(fl:Int)(q:aY):cI:=nH (mP fl) (pE [q])
theorem lV{fl:Int}(h:fl=1\/fl=3){q:aY}(hq:0<=q.s/\1<=q.n/\q.s+q.n<=512):J8 (mP fl) (pE [q])=(nI fl q,0)/\gG (nI fl q)=0/\(nI fl q).W:=by
 obtain⟨_,k2,k3,k4⟩:=rP h;have hu:dU (mP fl).fl=true:=by rcases h with rfl|rfl<;>rfl
 have hW:=L2 (l:=[q]) (by simp);have hn:(mP fl).nx=1:=rfl;have n:dS (nH (mP fl) (pE [q])).ats<=440:=by
  rw[Se,hn];have:=aLf hq (i:=1) (by decide);omega
 have hs:rG (mP fl) (pE [q])=false:=by
  unfold rG;have:((mP fl).ats.any fun b=>nF (pE [q]) b)=false:=by
   rw[aYW];intro b hb;rw[Zj.1 hb];simp[nF,pE,uW]
  rw[this,Bool.and_false]
 obtain⟨h1,h2⟩:=Zh k2 hu (by rw[hn];decide) (by rw[hn];exact aGB hq (by decide)) hs (by rw[Zk];decide) n;exact⟨h2,Yz k3 (fun x h=>(by cases h)) h1,aGD k3 hW (by rw[Zk];decide)⟩
theorem Zl{fl:Int}{q:aY}{b:aJ}:b∈(nI fl q).ats↔b=uW\/b=bG (pE [q]) 1:=by
 unfold nI;rw[Ch,Zj];rfl
def Aa(n:Int):Int:=if n=5 then 3 else 1
noncomputable def Ab(n:Int)(al mi lg:aY):cI:=if n=0 then nI (Aa n) al else if n=1 then nI (Aa n) mi else if n=2 then nI (Aa n) lg else mP (Aa n)
theorem lD(n:Int):Aa n=1\/Aa n=3:=by unfold Aa;split<;>simp
def VR(q:aY):Prop:=0<=q.s/\1<=q.n/\q.s+q.n<=512
theorem Vx(n:Int){al mi lg:aY}(h1:VR al)(h2:VR mi)(h3:VR lg):gG (Ab n al mi lg)=0/\(Ab n al mi lg).W:=by
 unfold Ab;split;exact (lV (lD n) h1).2;split;exact (lV (lD n) h2).2;split;exact (lV (lD n) h3).2;exact⟨(rP (lD n)).2.1,(rP (lD n)).2.2.1⟩
def Gi:cI:=⟨1,0,0,0,0,0,0,[]⟩
theorem tY:gG Gi=0/\Gi.W:=⟨by rw[S2 rfl];rfl,⟨fun a h=>(by cases h),by decide⟩⟩
theorem aGE{r:cI}(h:gG r=0):Ek r 1=(cN r 1,0):=by
 unfold Ek aKn;rw[h];rfl
end
section
variable {G:aE}{bb:Bool}
theorem Vy:EV G (Tb (dN G bb)) 142 [] []=some (uW.v,[]):=by
 have r:=aPA (G:=G) (bb:=bb) (n:=16) (by decide);have q:EV G (Tb (dN G bb)) 170 [.one (.dc (.raw (.string ⟨#[0]⟩))),vi 16] []=some (sv (zl 16),[]):=gP rfl r;refine aA rfl ?_;simp (maxSteps:=2000000) (disch:=omega) only[go_sem,h142c,q,uW,aJ.v];try rfl
theorem aLg(l:List aY)(k:Nat)(hk:k<l.length):cA (l.take (k+1))=cA (l.take k)+l[k].n:=uJ l k hk
set_option maxHeartbeats 1000000 in
theorem Vz{B:aO}(l:List aY)(hl:∀q∈l,0<=q.n/\q.n<=100000)(hs:cA l<=100000)(hn:l.length<=100000):EV G (Tb B) 143 [eB l] []=some ((pE l).v,[]):=by
 refine aA rfl ?_;simp (maxSteps:=2000000) (disch:=omega) only[go_sem,h143c,aXC];rw[aR (fun k=>⟨(eB l::jk 1 (.one (.ptr 0 0)::vi (cA (l.take k)*256)::jk 2 (eB l::vi l.length::vi k::jk 14 []))),[.box [.dc (.raw (Zi 0)),.dc (.raw (.string ⟨#[]⟩)),.dc (.raw (Zi 0)),.dc (.raw (Zi 0)),.dc (.raw (.bool false)),.dc (.raw (.string ⟨#[]⟩)),.dc (.raw (Zi 0)),.dc (.raw (.slice none 0 0)),.dc (.raw (Zi 0)),.dc (.raw (Zi 0)),.dc (.raw (Zi 0))]]⟩) l.length ?_ ?_]
 ·rw[aYh];simp (maxSteps:=2000000) (disch:=omega) only[go_sem,h143l0,aXC,pE,aJ.v,aL];try rfl
 rfl;intro k hk;have h1:=hl _ (aXM hk);have h2:=aLg l k hk;have h3:=iI l k (fun r hr=>(hl r hr).1)
 have h4:=gQ (l.take k) (fun r hr=>(hl r (aX6 hr)).1)
 have e:cA (l.take k)*256+l[k].n*256=cA (l.take (k+1))*256:=by omega
 have h5:=iI l (k+1) (fun r hr=>(hl r hr).1)
 simp (maxSteps:=2000000) (disch:=omega) only[go_sem,h143l0,aXC,aY.e,e]
theorem Eo(hG:G9 G)(r:cI)(hW:r.W):EV G (Tb (dN G bb)) 141 [r.v] []=some (bkv (Ek r 1),[]):=by
 have q:EV G (Tb (dN G bb)) 181 [.agg (rc9 r 1)] []=some (bkv (Ek r 1),[]):=upS (aGr (bb:=bb) hG r hW 1);generalize Ek r 1=E at *;obtain⟨b,e⟩:=E;refine aA rfl ?_;simp (maxSteps:=2000000) (disch:=omega) only[go_sem,h141c,q,aYd,aX4]
theorem aP6(hG:G9 G):EV G (Tb (dN G bb)) 97 [] []=some (sv (cN Gi 1),[]):=by
 have q:EV G (Tb (dN G bb)) 141 [.agg [.dc (ci 1),.dc (ci 0),.dc (ci 0),.dc (ci 0),.dc (ci 0),.dc (ci 0),.dc (ci 0),.dc (.slc [])]] []=some (bkv (Ek Gi 1),[]):=Eo (bb:=bb) hG Gi tY.2;rw[aGE tY.1] at q;generalize cN Gi 1=b at *;refine aA rfl ?_;simp (maxSteps:=2000000) (disch:=omega) only[go_sem,h97c,q]
abbrev rL(f:Int):List aT:=[.dc (ci 1),.dc (ci 1),.dc (ci f),.dc (ci 0),.dc (ci 0),.dc (ci 0),.dc (ci 0),.dc (.slc [])]
set_option maxHeartbeats 8000000 in
theorem aUb(hG:G9 G)(n:Int)(al mi lg:aY)(h1:VR al)(h2:VR mi)(h3:VR lg):EV G (Tb (dN G bb)) 98 [vi n,al.v,mi.v,lg.v] []=some (sv (cN (Ab n al mi lg) 1),[]):=by
 have qs:=Vy (G:=G) (bb:=bb);have d1:EV G (Tb (dN G bb)) 143 [vl [[ci al.s,ci al.n]]] []=some ((pE [al]).v,[]):=Vz (G:=G) (B:=dN G bb) [al] (by simp;unfold VR at h1;omega) (by simp[cA];unfold VR at h1;omega) (by simp);have d2:EV G (Tb (dN G bb)) 143 [vl [[ci mi.s,ci mi.n]]] []=some ((pE [mi]).v,[]):=Vz (G:=G) (B:=dN G bb) [mi] (by simp;unfold VR at h2;omega) (by simp[cA];unfold VR at h2;omega) (by simp);have d3:EV G (Tb (dN G bb)) 143 [vl [[ci lg.s,ci lg.n]]] []=some ((pE [lg]).v,[]):=Vz (G:=G) (B:=dN G bb) [lg] (by simp;unfold VR at h3;omega) (by simp[cA];unfold VR at h3;omega) (by simp);have qn:EV G (Tb (dN G bb)) 144 [vi 1,vi (Aa n),rfv 0 0] []=some (.tup [.agg [.dc (ci 1),.dc (ci 0),.dc (ci (Aa n)),.dc (ci 0),.dc (ci 0),.dc (ci 0),.dc (ci 0),.dc (.slc [])],tE 0],[]):=by
  have q:=upS (aTQ (G:=G) (bb:=bb) 1 (Aa n) 0 0);rcases lD n with e|e
  rw[e] at q ⊢;exact q;rw[e] at q ⊢;exact q
 obtain⟨k1,_,k3,_⟩:=rP (lD n);have p1:EV G (Tb (dN G bb)) 145 [.agg (rL (Aa n)),uW.v] []=some (rcv (J8 (r00 (Aa n)) uW),[]):=upS (Gc (G:=G) (bb:=bb) (r00 (Aa n)) (Zg _) uW Zf);rw[k1] at p1;obtain⟨ho,hW⟩:=Vx n h1 h2 h3;have pr:=Eo (bb:=bb) hG (Ab n al mi lg) hW;rw[aGE ho] at pr;refine aA rfl ?_;by_cases c0:n=0;subst c0;have p2:=upS (Gc (G:=G) (bb:=bb) (mP (Aa 0)) k3 (pE [al]) (L2 (by simp)));rw[(lV (lD 0) h1).1] at p2;have eo:Ab 0 al mi lg=nI (Aa 0) al:=by unfold Ab;simp
 rw[eo] at pr ⊢;have ef:Aa 0=1:=rfl;rw[ef] at qn p1 p2 pr ⊢;clear k1 k3;generalize nI 1 al=X2 at *;generalize mP 1=X1 at *;generalize pE [al]=D at *;generalize uW=A at *;simp (maxSteps:=2000000) (disch:=omega) only[go_sem,h98c,qs,d1,qn,aY.e,Int.reduceEq,decide_false,decide_true,Int.reduceNeg];rw[aR (fun k=>⟨(jk 11 (.one (.ptr 4 0)::jk 43 (.one (.bld 3 2)::vi 2::vi k::jk 16 []))),[.box [.dc (ci al.s),.dc (ci al.n)],.box [.dc (ci mi.s),.dc (ci mi.n)],.box [.dc (ci lg.s),.dc (ci lg.n)],.arr 0 11 [A.e,D.e],.box (match k with|0=>rL 1|1=>X1.c|_=>X2.c)]⟩) 2 ?_ ?_]
 simp (maxSteps:=2000000) (disch:=omega) only[go_sem,h98l0,pr];rfl;intro k hk;rcases (show k=0\/k=1 by omega) with rfl|rfl
 simp (maxSteps:=2000000) (disch:=omega) only[go_sem,h98l0,p1,aJ.e];rfl;simp (maxSteps:=2000000) (disch:=omega) only[go_sem,h98l0,p2,aJ.e];rfl;by_cases c1:n=1;subst c1;have p2:=upS (Gc (G:=G) (bb:=bb) (mP (Aa 1)) k3 (pE [mi]) (L2 (by simp)));rw[(lV (lD 1) h2).1] at p2;have eo:Ab 1 al mi lg=nI (Aa 1) mi:=by unfold Ab;simp
 rw[eo] at pr ⊢;have ef:Aa 1=1:=rfl;rw[ef] at qn p1 p2 pr ⊢;clear k1 k3;generalize nI 1 mi=X2 at *;generalize mP 1=X1 at *;generalize pE [mi]=D at *;generalize uW=A at *;simp (maxSteps:=2000000) (disch:=omega) only[go_sem,h98c,qs,d2,qn,aY.e,Int.reduceEq,decide_false,decide_true,Int.reduceNeg];rw[aR (fun k=>⟨(jk 11 (.one (.ptr 4 0)::jk 43 (.one (.bld 3 2)::vi 2::vi k::jk 16 []))),[.box [.dc (ci al.s),.dc (ci al.n)],.box [.dc (ci mi.s),.dc (ci mi.n)],.box [.dc (ci lg.s),.dc (ci lg.n)],.arr 0 11 [A.e,D.e],.box (match k with|0=>rL 1|1=>X1.c|_=>X2.c)]⟩) 2 ?_ ?_]
 simp (maxSteps:=2000000) (disch:=omega) only[go_sem,h98l0,pr];rfl;intro k hk;rcases (show k=0\/k=1 by omega) with rfl|rfl
 simp (maxSteps:=2000000) (disch:=omega) only[go_sem,h98l0,p1,aJ.e];rfl;simp (maxSteps:=2000000) (disch:=omega) only[go_sem,h98l0,p2,aJ.e];rfl;by_cases c2:n=2;subst c2;have p2:=upS (Gc (G:=G) (bb:=bb) (mP (Aa 2)) k3 (pE [lg]) (L2 (by simp)));rw[(lV (lD 2) h3).1] at p2;have eo:Ab 2 al mi lg=nI (Aa 2) lg:=by unfold Ab;simp
 rw[eo] at pr ⊢;have ef:Aa 2=1:=rfl;rw[ef] at qn p1 p2 pr ⊢;clear k1 k3;generalize nI 1 lg=X2 at *;generalize mP 1=X1 at *;generalize pE [lg]=D at *;generalize uW=A at *;simp (maxSteps:=2000000) (disch:=omega) only[go_sem,h98c,qs,d3,qn,aY.e,Int.reduceEq,decide_false,decide_true,Int.reduceNeg];rw[aR (fun k=>⟨(jk 11 (.one (.ptr 4 0)::jk 43 (.one (.bld 3 2)::vi 2::vi k::jk 16 []))),[.box [.dc (ci al.s),.dc (ci al.n)],.box [.dc (ci mi.s),.dc (ci mi.n)],.box [.dc (ci lg.s),.dc (ci lg.n)],.arr 0 11 [A.e,D.e],.box (match k with|0=>rL 1|1=>X1.c|_=>X2.c)]⟩) 2 ?_ ?_]
 simp (maxSteps:=2000000) (disch:=omega) only[go_sem,h98l0,pr];rfl;intro k hk;rcases (show k=0\/k=1 by omega) with rfl|rfl
 simp (maxSteps:=2000000) (disch:=omega) only[go_sem,h98l0,p1,aJ.e];rfl;simp (maxSteps:=2000000) (disch:=omega) only[go_sem,h98l0,p2,aJ.e];rfl;have eo:Ab n al mi lg=mP (Aa n):=by unfold Ab;rw[if_neg c0,if_neg c1,if_neg c2]
 rw[eo] at pr ⊢;by_cases c5:n=5;subst c5;have ef:Aa 5=3:=rfl;have e2:Ui .i64 1 2=3:=by decide
 rw[ef] at qn p1 pr ⊢;clear k1 k3;generalize mP 3=X1 at *;generalize uW=A at *;simp (maxSteps:=2000000) (disch:=omega) only[go_sem,h98c,qs,qn,aY.e,Int.reduceEq,decide_false,decide_true,Int.reduceNeg,e2];rw[aR (fun k=>⟨(jk 11 (.one (.ptr 4 0)::jk 43 (.one (.bld 3 1)::vi 1::vi k::jk 16 []))),[.box [.dc (ci al.s),.dc (ci al.n)],.box [.dc (ci mi.s),.dc (ci mi.n)],.box [.dc (ci lg.s),.dc (ci lg.n)],.arr 0 11 [A.e],.box (match k with|0=>rL 3|_=>X1.c)]⟩) 1 ?_ ?_]
 simp (maxSteps:=2000000) (disch:=omega) only[go_sem,h98l0,pr];rfl;intro k hk;rw[show k=0 by omega];simp (maxSteps:=2000000) (disch:=omega) only[go_sem,h98l0,p1,aJ.e];rfl;have ef:Aa n=1:=by unfold Aa;rw[if_neg c5]
 rw[ef] at qn p1 pr ⊢;clear k1 k3;generalize mP 1=X1 at *;generalize uW=A at *;simp (maxSteps:=2000000) (disch:=omega) only[go_sem,h98c,qs,qn,aY.e,Int.reduceEq,c0,c1,c2,c5,decide_false,decide_true,Int.reduceNeg];rw[aR (fun k=>⟨(jk 11 (.one (.ptr 4 0)::jk 43 (.one (.bld 3 1)::vi 1::vi k::jk 16 []))),[.box [.dc (ci al.s),.dc (ci al.n)],.box [.dc (ci mi.s),.dc (ci mi.n)],.box [.dc (ci lg.s),.dc (ci lg.n)],.arr 0 11 [A.e],.box (match k with|0=>rL 1|_=>X1.c)]⟩) 1 ?_ ?_]
 simp (maxSteps:=2000000) (disch:=omega) only[go_sem,h98l0,pr];rfl;intro k hk;rw[show k=0 by omega];simp (maxSteps:=2000000) (disch:=omega) only[go_sem,h98l0,p1,aJ.e];rfl
end
section
variable {G:aE}{bb:Bool}
abbrev sF(x:Bt)(n:Int):aY:=⟨x.tb,2*n⟩
abbrev Fe(x:Bt):aY:=⟨x.mi,8⟩
abbrev Ff(x:Bt):aY:=⟨x.lg,x.lc⟩
noncomputable def iK(x:Bt)(m:Int)(n:Nat):List Int:=if n<16 then cN (Ab n (sF x m) (Fe x) (Ff x)) 1 else cN Gi 1
noncomputable def fZ(x:Bt)(m:Int):Nat->List Int
 |0=>Dw (zl (x.cl.toNat*256)) x
 |n+1=>if n<4 then mT (mT (fZ x m n) (iK x m n) (x.tb.toNat+2*n) (x.tb.toNat+2*n+1)) (iK x m n) (x.mi.toNat+2*n) (x.mi.toNat+2*n+1) else mT (fZ x m n) (iK x m n) (x.tb.toNat+2*n) (x.tb.toNat+2*n+1)
theorem V0(x:Bt)(m:Int)(n:Nat):fZ x m (n+1)=if n<4 then mT (mT (fZ x m n) (iK x m n) (x.tb.toNat+2*n) (x.tb.toNat+2*n+1)) (iK x m n) (x.mi.toNat+2*n) (x.mi.toNat+2*n+1) else mT (fZ x m n) (iK x m n) (x.tb.toNat+2*n) (x.tb.toNat+2*n+1):=rfl
noncomputable def eO(x:Bt)(m:Int):List Int:=fZ x m m.toNat
structure Ep (x:Bt) (m:Int):Prop where
 ck:jA x=0
 cl:64<=x.cl/\x.cl<=512
 tb:1<=x.tb/\x.tb+2*m<x.cl
 mi:1<=x.mi/\x.mi+8<x.cl
 lg:1<=x.lg/\x.lg+x.lc<x.cl/\8<=x.lc
 nn:16<=m/\m<=96
 c1:As x.tb (2*m) x.mi 8=false
 c2:As x.tb (2*m) x.lg x.lc=false
theorem Oj{x:Bt}{m:Int}(h:Kc x m=0):Ep x m:=by
 unfold Kc at h;by_cases h1:jA x=0;rw[if_pos h1] at h;by_cases h2:16<=m/\m<=96;rw[if_pos h2] at h;by_cases h3:x.tb+2*m<x.cl;rw[if_pos h3] at h;by_cases h4:As x.tb (2*m) x.mi 8=true\/As x.tb (2*m) x.lg x.lc=true;rw[if_pos h4] at h;cases h;obtain⟨a,b,c,d⟩:=aBS h1;obtain⟨n1,n2,n3,n4⟩:=jS.1 a;obtain⟨i1,i2,i3⟩:=mA.1 b;have f:=Cj.1 c;exact⟨h1,n1,⟨i1.1,h3⟩,⟨i2.1,f.1⟩,⟨i3.1,f.2,n3.1⟩,h2,by simpa using fun q=>h4 (.inl q),by simpa using fun q=>h4 (.inr q)⟩
 rw[if_neg h3] at h;cases h;rw[if_neg h2] at h;cases h;rw[if_neg h1] at h;exact absurd h h1
theorem Ep.rs{x:Bt}{m:Int}(h:Ep x m):VR (sF x m)/\VR (Fe x)/\VR (Ff x):=by
 have:=h.cl;have:=h.tb;have:=h.mi;have:=h.lg;have:=h.nn;refine⟨⟨?_,?_,?_⟩,⟨?_,?_,?_⟩,⟨?_,?_,?_⟩⟩<;>simp only<;>omega
theorem Gj{x:Bt}{m:Int}(h:Ep x m)(n:Nat):(iK x m n).length=512/\aM (iK x m n):=by
 obtain⟨h1,h2,h3⟩:=h.rs;unfold iK;split;obtain⟨a,b⟩:=Vx n h1 h2 h3;exact (Cg b a (by decide)).2;exact (Cg tY.2 tY.1 (by decide)).2
theorem pB{l b:List Int}{n0 n1:Nat}(hb:b.length=512)(h0:n0*256+256<=l.length)(h1:n1*256+256<=l.length):(mT l b n0 n1).length=l.length:=by
 unfold mT;have e:(fG l (n0*256) (b.take 256)).length=l.length:=cP (by rw[aXK];omega);rw[cP (by rw[e,aXS];omega),e]
theorem Dy{l b:List Int}{n0 n1:Nat}(hl:aM l)(hb:aM b):aM (mT l b n0 n1):=aKZ (aKZ hl (fun x hx=>hb x (aX6 hx))) (fun x hx=>hb x (aYl hx))
theorem nJ{x:Bt}{m:Int}(h:Ep x m):∀n:Nat,(n:Int)<=m->(fZ x m n).length=x.cl.toNat*256/\aM (fZ x m n)
 | 0,_=>by
  have:=h.cl;refine⟨?_,aKZ (aKZ (uS _) (Co x)) (Co x)⟩;show (Dw (zl (x.cl.toNat * 256)) x).length=_;rw[aK0 _ _ (by rw[bF];omega),bF]
 | n+1,hn=>by
  obtain⟨i1,i2⟩:=nJ h n (by omega);obtain⟨b1,b2⟩:=Gj h n;have:=h.cl;have:=h.tb;have:=h.mi;unfold fZ;split
  ·rw[pB b1 (by rw[pB b1 (by omega) (by omega)];omega) (by rw[pB b1 (by omega) (by omega)];omega),pB b1 (by omega) (by omega)];exact⟨i1,Dy (Dy i2 b2) b2⟩
  ·rw[pB b1 (by omega) (by omega)];exact⟨i1,Dy i2 b2⟩
set_option maxHeartbeats 8000000 in
theorem aGF(x:Bt)(n:Int)(h:Kc x n≠0):EV G (Tb (dN G bb)) 42 [x.v,vi n] []=some (.tup [tS [],tE (Kc x n)],[]):=by
 have ck:=pH (G:=G) (B:=dN G bb) x;have w:=iU (G:=G) (B:=dN G bb) n 16 96;have u:=gI (G:=G) (B:=dN G bb);have f:=mM (G:=G) (B:=dN G bb);unfold Kc at h ⊢;by_cases h1:jA x=0;rw[if_pos h1] at h ⊢;rw[h1] at ck;by_cases h2:16<=n/\n<=96;rw[if_pos h2] at h ⊢;rw[decide_eq_true h2] at w;obtain⟨a,b,c,d⟩:=aBS h1;obtain⟨n1,n2,n3,n4⟩:=jS.1 a;obtain⟨i1,i2,i3⟩:=mA.1 b;have cm:=qO (G:=G) (B:=dN G bb) x;have cl:=N7 (G:=G) (B:=dN G bb) x;have b1:=mN (G:=G) (B:=dN G bb) x.tb (2*n) (by omega) (by omega);have m1:=rJ (G:=G) (B:=dN G bb) x.tb (2*n) x.mi 8 (by omega) (by omega) (by omega) (by omega);have m2:=rJ (G:=G) (B:=dN G bb) x.tb (2*n) x.lg x.lc (by omega) (by omega) (by omega) (by omega);generalize As x.tb (2*n) x.mi 8=M1 at *;generalize As x.tb (2*n) x.lg x.lc=M2 at *;refine aA rfl ?_;by_cases h3:x.tb+2*n<x.cl;rw[if_pos h3] at h ⊢;cases M1;cases M2;exact absurd rfl h;simp (maxSteps:=2000000) (disch:=omega) only[go_sem,h42c,ck,w,u,f,cm,cl,b1,m1,m2,h3,bL,dV,eK,aYc,aX5,aL];simp (maxSteps:=2000000) (disch:=omega) only[go_sem,h42c,ck,w,u,f,cm,cl,b1,m1,m2,h3,bL,dV,eK,aYc,aX5,aL];rw[if_neg h3];cases M1;cases M2;simp (maxSteps:=2000000) (disch:=omega) only[go_sem,h42c,ck,w,u,f,cm,cl,b1,m1,m2,h3,bL,dV,eK,aYc,aX5,aL];simp (maxSteps:=2000000) (disch:=omega) only[go_sem,h42c,ck,w,u,f,cm,cl,b1,m1,m2,h3,bL,dV,eK,aYc,aX5,aL];simp (maxSteps:=2000000) (disch:=omega) only[go_sem,h42c,ck,w,u,f,cm,cl,b1,m1,m2,h3,bL,dV,eK,aYc,aX5,aL];rw[if_neg h2];rw[decide_eq_false h2] at w;refine aA rfl ?_;simp (maxSteps:=2000000) (disch:=omega) only[go_sem,h42c,ck,w,u,f,bL,eK,aL];rw[if_neg h1];refine aA rfl ?_;simp (maxSteps:=2000000) (disch:=omega) only[go_sem,h42c,ck,w,u,f,h1,bL,aL]
theorem aUc(n:Nat):List.replicate n (dA (.int .u8 0))=(zl n).map yC:=by rw[zl,List.map_replicate];rfl
set_option maxHeartbeats 8000000 in
theorem aGG(hG:G9 G){x:Bt}{m:Int}(h:Ep x m)(N:Nat)(hN:x.cl.toNat*256=N)(k:Nat)(hk:(k:Int)<m):
  K6 [2,4,1,48,0] 4 (EC (EV G (Tb (dN G bb))) G h42l0 ⟨(jk 2 (.one (.ptr 0 0)::jk 4 (.one (.ptr 1 0)::jk 1 (.one (.bls 3 0 N 1)::jk 48 (vi m::vi k::jk 35 []))))),[x.o,.box [.dc (ci x.tb),.dc (ci (2*m))],.arr 0 1 [[ci 0],[ci 0]],yb (fZ x m k)]⟩)=
   some ⟨(jk 2 (.one (.ptr 0 0)::jk 4 (.one (.ptr 1 0)::jk 1 (.one (.bls 3 0 N 1)::jk 48 (vi m::vi (k+1:Nat)::jk 35 []))))),[x.o,.box [.dc (ci x.tb),.dc (ci (2*m))],.arr 0 1 [[ci 0],[ci 0]],yb (fZ x m (k+1))]⟩:=by
 obtain⟨v1,v2,v3⟩:=h.rs;have fr:=aP6 (bb:=bb) hG;have ow:=aUb (bb:=bb) hG k (sF x m) (Fe x) (Ff x) v1 v2 v3;have cm:=qO (G:=G) (B:=dN G bb) x;have cl:=N7 (G:=G) (B:=dN G bb) x;obtain⟨b1,b2⟩:=Gj h k;obtain⟨e1,e2⟩:=nJ h k (by omega);have g1:=h.cl;have g2:=h.tb;have g3:=h.mi;have g4:=h.nn;have nT:=Ji (G:=G) (B:=dN G bb) (x.tb+2*k) (by omega);have nM:=Ji (G:=G) (B:=dN G bb) (x.mi+2*k) (by omega);have p1:=Sv (G:=G) (B:=dN G bb) (fZ x m k) (iK x m k) N (x.tb.toNat+2*k) (x.tb.toNat+2*k+1) (by omega) b1 b2 (by omega) (by omega) (by omega);have q1:(mT (fZ x m k) (iK x m k) (x.tb.toNat+2*k) (x.tb.toNat+2*k+1)).length=N:=by rw[pB b1 (by omega) (by omega)];omega
 have tT:((x.tb.toNat+2*k:Nat):Int)=x.tb+2*k:=by omega
 have tT':((x.tb.toNat+2*k+1:Nat):Int)=x.tb+2*k+1:=by omega
 rw[tT,tT'] at p1;have hk':(k:Int)<m:=hk;rw[V0];by_cases h4:k<4;rw[if_pos h4];have h4':(k:Int)<4:=by omega
 have h16':(k:Int)<16:=by omega
 have p2:=Sv (G:=G) (B:=dN G bb) (mT (fZ x m k) (iK x m k) (x.tb.toNat+2*k) (x.tb.toNat+2*k+1)) (iK x m k) N (x.mi.toNat+2*k) (x.mi.toNat+2*k+1) q1 b1 b2 (by omega) (by omega) (by omega);have tM:((x.mi.toNat+2*k:Nat):Int)=x.mi+2*k:=by omega
 have tM':((x.mi.toNat+2*k+1:Nat):Int)=x.mi+2*k+1:=by omega
 rw[tM,tM'] at p2;generalize mT (fZ x m k) (iK x m k) (x.tb.toNat+2*k) (x.tb.toNat+2*k+1)=D1 at *;generalize mT D1 (iK x m k) (x.mi.toNat+2*k) (x.mi.toNat+2*k+1)=D2 at *;unfold iK at p1 p2;rw[if_pos (by omega)] at p1 p2;generalize cN (Ab k (sF x m) (Fe x) (Ff x)) 1=Q at *;generalize cN Gi 1=F at *;generalize fZ x m k=D at *;simp (maxSteps:=2000000) (disch:=omega) only[go_sem,h42l0,hk',fr,ow,cm,cl,nT,nM,p1,p2,h4',h16',iQ];rw[if_neg h4];have h4':¬ (k:Int)<4:=by omega
 generalize mT (fZ x m k) (iK x m k) (x.tb.toNat+2*k) (x.tb.toNat+2*k+1)=D1 at *;unfold iK at p1;generalize fZ x m k=D at *;by_cases h16:k<16;rw[if_pos h16] at p1;have h16':(k:Int)<16:=by omega
 generalize cN (Ab k (sF x m) (Fe x) (Ff x)) 1=Q at *;generalize cN Gi 1=F at *;simp (maxSteps:=2000000) (disch:=omega) only[go_sem,h42l0,hk',fr,ow,cm,cl,nT,nM,p1,h4',h16',iQ];rw[if_neg h16] at p1;have h16':¬ (k:Int)<16:=by omega
 generalize cN Gi 1=F at *;simp (maxSteps:=2000000) (disch:=omega) only[go_sem,h42l0,hk',fr,ow,cm,cl,nT,nM,p1,h4',h16',iQ]
set_option maxHeartbeats 8000000 in
theorem L3(hG:G9 G)(x:Bt)(n:Int)(h:Kc x n=0):EV G (Tb (dN G bb)) 42 [x.v,vi n] []=some (.tup [tS (eO x n),tE 0],[]):=by
 have hE:=Oj h;have ck:=pH (G:=G) (B:=dN G bb) x;have w:=iU (G:=G) (B:=dN G bb) n 16 96;have u:=gI (G:=G) (B:=dN G bb);have f:=mM (G:=G) (B:=dN G bb);have cm:=qO (G:=G) (B:=dN G bb) x;have cl:=N7 (G:=G) (B:=dN G bb) x;have g0:=hE.cl;have g1:=hE.tb;have g2:=hE.mi;have g3:=hE.lg;have g4:=hE.nn;obtain⟨_,_,hf,_⟩:=aBS hE.ck;have lc:x.lc<=1000:=by omega
 have b1:=mN (G:=G) (B:=dN G bb) x.tb (2*n) (by omega) (by omega);have m1:=rJ (G:=G) (B:=dN G bb) x.tb (2*n) x.mi 8 (by omega) (by omega) (by omega) (by omega);have m2:=rJ (G:=G) (B:=dN G bb) x.tb (2*n) x.lg x.lc (by omega) (by omega) (by omega) (by omega);rw[hE.ck] at ck;rw[decide_eq_true g4] at w;rw[hE.c1] at m1;rw[hE.c2] at m2;have h3:=g1.2;obtain⟨N,hN⟩:∃N:Nat,x.cl.toNat*256=N:=⟨_,rfl⟩;have zN:x.cl*256=(N:Int):=by omega
 have pb:=aPN (G:=G) (B:=dN G bb) (zl N) x N (bF N) (aPA (by decide)) (fun y hy=>by have:=Ge hE.ck y hy;omega) (by omega)
 have e0:fZ x n 0=Dw (zl N) x:=by rw[<- hN];rfl
 have zy:=aUc N;obtain⟨el,eb⟩:=nJ hE n.toNat (by omega);have eD:iV (List.take N (List.map yC (fZ x n n.toNat)))=some ((fZ x n n.toNat).map u8):=by
  rw[aYe (by rw[aXC,el];omega),kN]
 have nn:((n.toNat:Nat):Int)=n:=by omega
 refine aA rfl ?_;simp (maxSteps:=2000000) (disch:=omega) only[go_sem,h42c,ck,w,u,f,cm,cl,b1,m1,m2,h3,bL,dV,eK,aYc,aX5,zN,zy,pb,aYm];rw[aR (fun k=>⟨(jk 2 (.one (.ptr 0 0)::jk 4 (.one (.ptr 1 0)::jk 1 (.one (.bls 3 0 N 1)::jk 48 (vi n::vi k::jk 35 []))))),[x.o,.box [.dc (ci x.tb),.dc (ci (2*n))],.arr 0 1 [[ci 0],[ci 0]],yb (fZ x n k)]⟩) n.toNat ?_ ?_]
 unfold eO;have dz:List.drop 0 (List.map yC (fZ x n n.toNat))=List.map yC (fZ x n n.toNat):=aYq;generalize fZ x n n.toNat=D at *;simp (maxSteps:=2000000) (disch:=omega) only[go_sem,h42l0,nn,aXC,el,hN,eD,Q2];rw[e0];rfl;exact fun k hk=>aGG hG hE N hN k (by omega)
end
section
variable {G:aE}{bb:Bool}
theorem Zm{l t:List Int}(ht:t.length=256)(n c:Nat)(hn:n*256+256<=l.length):Oa (fG l (n*256) t) c=if c=n then t else Oa l c:=by
 have hl:(l.take (n*256)).length=n*256:=by rw[aXK];omega
 unfold Oa fG;rw[aXR];by_cases h:c=n;rw[if_pos h,h,List.drop_append_of_le_length (by omega),List.drop_eq_nil_of_le (by omega),aX4,aY3 (by omega),aYe (by omega)];rw[if_neg h];rcases Nat.lt_or_gt_of_ne h with q|q
 rw[List.drop_append_of_le_length (by omega),aY3 (by rw[aXS];omega),List.drop_take,List.take_take,aY1 (by omega)];have e:(l.take (n*256)++(t++l.drop (n*256+t.length))).drop (c*256)=(l.drop (n*256+t.length)).drop (c*256-(n*256+t.length)):=by
  rw[<- aXR,List.drop_append,List.drop_eq_nil_of_le (by rw[aXD];omega),aX4,aXD,hl]
 rw[e,List.drop_drop];congr 2;omega
theorem pC{l b:List Int}(hb:b.length=512)(n0 n1 c:Nat)(h0:n0*256+256<=l.length)(h1:n1*256+256<=l.length):Oa (mT l b n0 n1) c=if c=n1 then b.drop 256 else if c=n0 then b.take 256 else Oa l c:=by
 unfold mT;rw[Zm (by rw[aXS];omega) n1 c (by rw[cP (by rw[aXK];omega)];omega),Zm (by rw[aXK];omega) n0 c h0]
theorem Ol{l b:List Int}(hb:b.length=512)(n:Nat)(h0:n*256+512<=l.length):Dx (mT l b n (n+1)) n (n+1)=b:=by
 unfold Dx;rw[pC hb n (n+1) n (by omega) (by omega),pC hb n (n+1) (n+1) (by omega) (by omega),if_neg (by omega),if_pos rfl,if_pos rfl,aYI]
theorem nS{l b:List Int}(hb:b.length=512)(n a c:Nat)(h0:n*256+512<=l.length)(h1:a≠n/\a≠n+1)(h2:c≠n/\c≠n+1):Dx (mT l b n (n+1)) a c=Dx l a c:=by
 unfold Dx;rw[pC hb n (n+1) a (by omega) (by omega),pC hb n (n+1) c (by omega) (by omega),if_neg h1.2,if_neg h1.1,if_neg h2.2,if_neg h2.1]
theorem aGH{a m b n:Int}(h:As a m b n=false):¬ (a<b+n/\b<a+m):=of_decide_eq_false h
theorem Ct{x:Bt}{m:Int}(h:Ep x m):∀n:Nat,(n:Int)<=m->(Oa (fZ x m n) 0=Oa (fZ x m 0) 0)/\(∀k,k<n->Dx (fZ x m n) (x.tb.toNat+2*k) (x.tb.toNat+2*k+1)=iK x m k)/\(∀k,k<n->k<4->Dx (fZ x m n) (x.mi.toNat+2*k) (x.mi.toNat+2*k+1)=iK x m k)
 |0,_=>⟨rfl,fun k hk=>absurd hk (Nat.not_lt_zero k),fun k hk=>absurd hk (Nat.not_lt_zero k)⟩
 | n+1,hn=>by
  obtain⟨i1,i2,i3⟩:=Ct h n (by omega);obtain⟨l1,_⟩:=nJ h n (by omega);obtain⟨b1,_⟩:=Gj h n;have g0:=h.cl;have g1:=h.tb;have g2:=h.mi;have g4:=h.nn;have no:=aGH h.c1;have l2:(mT (fZ x m n) (iK x m n) (x.tb.toNat+2 * n) (x.tb.toNat+2 * n+1)).length=x.cl.toNat * 256:=by rw[pB b1 (by omega) (by omega),l1]
  rw[V0];by_cases h4:n < 4
  ·rw[if_pos h4];refine⟨?_,fun k hk=>?_,fun k hk hk4=>?_⟩
   ·rw[pC b1 _ _ _ (by omega) (by omega),if_neg (by omega),if_neg (by omega),pC b1 _ _ _ (by omega) (by omega),if_neg (by omega),if_neg (by omega),i1]
   ·rw[nS b1 _ _ _ (by omega) ⟨by omega,by omega⟩ ⟨by omega,by omega⟩];by_cases e:k=n
    ·rw[e,Ol b1 _ (by omega)]
    ·rw[nS b1 _ _ _ (by omega) ⟨by omega,by omega⟩ ⟨by omega,by omega⟩,i2 k (by omega)]
   ·by_cases e:k=n
    ·rw[e,Ol b1 _ (by omega)]
    ·rw[nS b1 _ _ _ (by omega) ⟨by omega,by omega⟩ ⟨by omega,by omega⟩,nS b1 _ _ _ (by omega) ⟨by omega,by omega⟩ ⟨by omega,by omega⟩,i3 k (by omega) hk4]
  ·rw[if_neg h4];refine⟨?_,fun k hk=>?_,fun k hk hk4=>?_⟩
   ·rw[pC b1 _ _ _ (by omega) (by omega),if_neg (by omega),if_neg (by omega),i1]
   ·by_cases e:k=n
    ·rw[e,Ol b1 _ (by omega)]
    ·rw[nS b1 _ _ _ (by omega) ⟨by omega,by omega⟩ ⟨by omega,by omega⟩,i2 k (by omega)]
   ·rw[nS b1 _ _ _ (by omega) ⟨by omega,by omega⟩ ⟨by omega,by omega⟩,i3 k (by omega) hk4]
noncomputable def V1(x:Bt)(m:Int)(n:Nat):cI:=if n<16 then Ab n (sF x m) (Fe x) (Ff x) else Gi
theorem Zn{x:Bt}{m:Int}(h:Ep x m)(n:Nat):kA (iK x m n)=(V1 x m n,1,0):=by
 obtain⟨h1,h2,h3⟩:=h.rs;unfold iK V1;split;obtain⟨a,b⟩:=Vx n h1 h2 h3;exact (Cg b a (by decide)).1;exact (Cg tY.2 tY.1 (by decide)).1
theorem aGI(l:List Int)(h:256<=l.length):l.take 64=(Oa l 0).take 64:=by
 unfold Oa;rw[Nat.zero_mul,aYq,List.take_take,aY1 (by decide)]
theorem rQ{x:Bt}{m:Int}(h:Ep x m):bW (eO x m)=(x,0,0):=by
 have g0:=h.cl;have g4:=h.nn;obtain⟨l1,_⟩:=nJ h m.toNat (by omega);obtain⟨l0,_⟩:=nJ h 0 (by omega);obtain⟨i1,_⟩:=Ct h m.toNat (by omega);have e:(eO x m).take 64=x.bs:=by
  unfold eO;rw[aGI _ (by omega),i1,<- aGI _ (by omega)];exact aGo _ x (by rw[bF];omega)
 have ln:(eO x m).length=x.cl.toNat*256:=l1;have dk:dkE (eO x m).length=0:=by
  rw[ln];unfold dkE Y3;rw[if_neg (show ¬ (x.cl.toNat*256=0\/x.cl.toNat*256 % 64≠0) by omega),if_neg (show ¬ 131072<x.cl.toNat*256 by omega),if_neg (by decide),if_pos (by omega)]
 unfold bW;rw[if_pos dk];unfold zY;rw[e,aPK x h.ck,if_pos ⟨rfl,by rw[ln];show x.cl=_;omega⟩];rfl
theorem Zo{x:Bt}{m:Int}(h:Ep x m):lU (eO x m)=(nI 1 (sF x m),1,0):=by
 have g4:=h.nn;obtain⟨_,i2,_⟩:=Ct h m.toNat (by omega);unfold lU;rw[rQ h];have e:blT (eO x m) x=iK x m 0:=i2 0 (by omega);unfold Vq;dsimp only;rw[e,Zn h 0,if_pos rfl];rfl
theorem Zp{x:Bt}{m:Int}:¬ iH pA (nI 1 (sF x m)).ats<0:=by
 rw[qL];intro q;have:=q (bG (pE [sF x m]) 1) (Zl.2 (.inr rfl));simp[pA,bG,pE] at this
theorem Om{x:Bt}{m:Int}(h:Ep x m):zZ (eO x m)=bG (pE [sF x m]) 1:=by
 have e:=Zo h;have hi:¬ iH pA (lU (eO x m)).1.ats<0:=by rw[e];exact Zp
 obtain⟨K,hK,_,h3,h4,_⟩:=Za hi;rw[h3];have hm:=aXM hK;generalize (lU (eO x m)).1.ats[K]=A at *;rw[e] at hm;rcases Zl.1 hm with q|q;rw[q] at h4;simp[pA,uW] at h4;exact q
theorem aLh(q:aY):H3 [q]=H0 q q.n.toNat:=by simp[H3]
theorem aP7{q:aY}(hs:q.s≠-1){n k:Nat}(hk:k<n):(H0 q n).getD k 0=q.s+k:=by
 unfold H0;rw[aXN,aXI,aYU hk];simp[hs]
theorem aP8(q:aY)(n:Nat):(H0 q n).length=n:=by simp[H0]
noncomputable def pQ(x:Bt)(m:Int):List Int:=H0 (sF x m) (2*m).toNat
theorem uX{x:Bt}{m:Int}(h:Ep x m):iD (eO x m)=pQ x m:=by
 unfold iD;rw[Om h];exact aLh _
theorem nK{x:Bt}{m:Int}(h:Ep x m){k:Nat}(hk:(k:Int)<2*m):(pQ x m).getD k 0=x.tb+k:=aP7 (by have:=h.tb;show x.tb≠-1;omega) (by omega)
theorem Jn{x:Bt}{m:Int}:(pQ x m).length=(2*m).toNat:=aP8 _ _
theorem aLi{x:Bt}{m:Int}(h:Ep x m):clE x (pQ x m)=0:=by
 have g1:=h.tb;have g2:=h.mi;have g4:=h.nn;have no:=aGH h.c1;have ln:=Jn (x:=x) (m:=m);have c0:Ck x (pQ x m)=false:=by
  refine decide_eq_false ?_;rintro⟨k,hk,q⟩;rw[nK h (by omega)] at q;rcases q with q|q
  simp only[aYR] at q;rcases q with q|q|q
  omega;omega;obtain⟨j,hj,e⟩:=List.mem_take_iff_getElem.1 q;have:(pQ x m).getD j 0=(pQ x m)[j]'(by omega):=by simp[show j<(pQ x m).length by omega]
  rw[nK h (by omega)] at this;omega;omega
 unfold clE;rw[c0,nK h (by omega),nK h (by omega),ln,decide_eq_true (show (2*m).toNat % 2=0 by omega),decide_eq_true (show 16<=(2*m).toNat / 2/\(2*m).toNat / 2<=96 by omega),decide_eq_true (show 2<=(2*m).toNat by omega),decide_eq_true (by omega)];rfl
theorem Gk{x:Bt}{m:Int}(h:Ep x m):sD (eO x m)=0/\Ap (eO x m)=0:=by
 have g1:=h.tb;have g4:=h.nn;have e1:sD (eO x m)=0:=by
  unfold sD;rw[rQ h,Zo h,Om h];dsimp only;rw[if_neg (by decide),if_neg (by decide),if_neg Zp];unfold Oc;have k:(bG (pE [sF x m]) 1).rs=[sF x m]:=rfl;have k2:(!(bG (pE [sF x m]) 1).res&&decide ((bG (pE [sF x m]) 1).fi=0))=true:=rfl;rw[k,k2];have k3:([sF x m].any fun r=>decide (r.s=-1))=false:=by simp;omega
  have k4:([sF x m].any fun r=>decide (r.s+r.n > x.cl))=false:=by simp;omega
  rw[k3,k4];rfl
 refine⟨e1,?_⟩;unfold Ap S1;rw[e1,if_neg (by decide),rQ h,uX h];exact aLi h
theorem V2{x:Bt}{m:Int}(h:Ep x m){k:Nat}(hk:(k:Int)<m):Vv (eO x m) x (pQ x m) k=(V1 x m k,1,0):=by
 have g1:=h.tb;have g4:=h.nn;obtain⟨_,i2,_⟩:=Ct h m.toNat (by omega);unfold Vv;rw[nK h (by omega),nK h (by omega)];have e1:(x.tb+((2*k:Nat):Int)).toNat=x.tb.toNat+2*k:=by omega
 have e2:(x.tb+((2*k+1:Nat):Int)).toNat=x.tb.toNat+2*k+1:=by omega
 rw[e1,e2];have e:Dx (eO x m) (x.tb.toNat+2*k) (x.tb.toNat+2*k+1)=iK x m k:=i2 k (by omega);unfold Vq;rw[e,Zn h k,if_pos rfl]
end
section
variable {G:aE}{bb:Bool}
theorem aGJ{x:Bt}{m:Int}(h:Ep x m):Ot (eO x m)=m.toNat:=by
 have:=h.nn;unfold Ot;rw[uX h,Jn];omega
theorem aLj(p:Nat->Prop)(n:Nat)(h:∀k,k<n->¬ p k):ix p n=n:=by
 obtain⟨h1,h2,_⟩:=bT p n;rcases h2 with q|⟨q,r⟩;exact q;exact absurd r (h _ q)
theorem aP9{x:Bt}{m:Int}(h:Ep x m):Zd (eO x m)=(Vw (eO x m) x (pQ x m) m.toNat,0):=by
 have g:=h.nn;have e:usI (eO x m) x (pQ x m)=m.toNat:=by
  unfold usI;rw[Jn];rw[show (2*m).toNat / 2=m.toNat by omega];exact aLj _ _ (fun k hk q=>q (by rw[V2 h (by omega)]))
 unfold Zd;rw[(Gk h).2,if_neg (by decide),rQ h,uX h,aGJ h];dsimp only;rw[e,if_pos rfl]
theorem aGK(n:Int)(al mi lg:aY):dU (Ab n al mi lg).fl=true:=by
 have h1:∀f,f=1\/f=3->dU (mP f).fl=true:=fun f h=>by rcases h with rfl|rfl<;>rfl
 have h2:∀f q,f=1\/f=3->dU (nI f q).fl=true:=fun f q h=>by rcases h with rfl|rfl<;>rfl
 unfold Ab;split;exact h2 _ _ (lD n);split;exact h2 _ _ (lD n);split;exact h2 _ _ (lD n);exact h1 _ (lD n)
theorem aLk{x:Bt}{m:Int}(h:Ep x m){k:Nat}(hk:(k:Int)<m):usB (eO x m) x (pQ x m) k=decide (k<16):=by
 unfold usB;rw[V2 h hk];unfold V1;by_cases q:k<16;rw[if_pos q,decide_eq_true q];exact aGK _ _ _ _;rw[if_neg q,decide_eq_false q];rfl
theorem aGL{x:Bt}{m:Int}(h:Ep x m):frV (eO x m)=if 16<m then (16,0) else (0,16):=by
 have g:=h.nn;have ln:=Gg (eO x m) x (pQ x m) m.toNat;have at':∀ k,16+k < m.toNat->((Vw (eO x m) x (pQ x m) m.toNat).drop 16).getD k true=false:=fun k hk=>by
  rw[aXN,aX9,Vw,aXI,aYU hk];show usB (eO x m) x (pQ x m) (16+k)=false;rw[aLk h (by omega)];exact decide_eq_false (by omega)
 unfold frV;rw[aP9 h];dsimp only;rw[if_neg (by decide)];have lnd:((Vw (eO x m) x (pQ x m) m.toNat).drop 16).length=m.toNat-16:=by rw[aXS,ln]
 generalize (Vw (eO x m) x (pQ x m) m.toNat).drop 16=U at *;unfold ixB;obtain⟨h1,h2,h3⟩:=bT (fun k=>U.getD k true=false) U.length
 generalize ix (fun k=>U.getD k true=false) U.length=K at *
 by_cases c:16<m;have hK:K=0:=by
  rcases Nat.eq_zero_or_pos K with q|q;exact q;exact absurd (at' 0 (by omega)) (h3 0 q)
 rw[if_pos c,hK];rw[if_neg (show ¬ 0=U.length by omega),if_neg (by decide)];rfl;rw[if_neg c,if_pos (show K=U.length by omega),if_pos (by decide)]
theorem aGM{x:Bt}{m:Int}(h:Ep x m){n:Int}(hn:0<=n/\n<m):Zc (eO x m) n=0:=by
 unfold Zc;rw[(Gk h).2,if_neg (by decide),aGJ h,decide_eq_true (by omega)];rfl
theorem aQa{x:Bt}{m:Int}(h:Ep x m)(hm:16<m):aLb (eO x m) 16 1=(.nil,32):=by
 have e:rrV (eO x m) 16=(V1 x m 16,1,0):=by
  unfold rrV;rw[aGM h ⟨by decide,hm⟩,if_pos rfl,rQ h,uX h];exact V2 h (by omega)
 unfold aLb;rw[e];dsimp only;rw[if_neg (by decide)];have r:V1 x m 16=Gi:=by unfold V1;rw[if_neg (by decide)]
 rw[r,if_neg (by rintro⟨q,_⟩;cases q)]
def Ou:Bt:=⟨64,4,44,52,8,7⟩
theorem aUd:jA Ou=0:=by decide
theorem aGN:Kc Ou 18=0:=by decide
def tbV:FuncId->Option HF:=fun f=>if f=11 then some h11 else none
noncomputable def T3(G:aE):HT:=⟨tbV,EV G (Tb (dN G false))⟩
theorem aUe{G:aE}:Ud Tryz.prog (T3 G):=by
 intro f h hf;change tbV f=some h at hf;unfold tbV at hf;split at hf;rename_i e;subst e;injection hf with hf;subst hf;exact⟨by kernel_rfl,_,Tryz.func11,Tryz.ntmps11,h11_ok,aNp⟩
 cases hf
theorem t3{f:FuncId}{args:List AV}{hp:List aC}{r:AV×List aC}(h:EV G (Tb (dN G false)) f args hp=some r)(h1:f≠11:=by decide):EV G (T3 G) f args hp=some r:=
 gP (by show tbV f=none;exact if_neg h1) h
theorem aLl{B:aO}:EV G (Tb B) 58 [] []=some (.agg [.dc (ci 64),.dc (ci 4),.dc (ci 44),.dc (ci 52),.dc (ci 8),.dc (ci 7)],[]):=by
 exact aA rfl rfl
set_option maxHeartbeats 4000000 in
theorem aB1(hG:G9 G):EV G (T3 G) 11 [] []=some (vb true,[]):=by
 have hE:=Oj aGN;obtain⟨ln,hB⟩:=nJ hE 18 (by decide);have ln:(eO Ou 18).length=16384:=ln;have hB:aM (eO Ou 18):=hB;have a0:=t3 (aLl (G:=G) (B:=dN G false));have a1:EV G (T3 G) 13 [.agg [.dc (ci 64),.dc (ci 4),.dc (ci 44),.dc (ci 52),.dc (ci 8),.dc (ci 7)]] []=some (.tup [tS Ou.bs,tE 0],[]):=by
  have q:=t3 (aBT (G:=G) (B:=dN G false) Ou (Cp Ou) (aPA (by decide)));rw[aUd,if_pos rfl] at q;exact q
 have a2:EV G (T3 G) 42 [.agg [.dc (ci 64),.dc (ci 4),.dc (ci 44),.dc (ci 52),.dc (ci 8),.dc (ci 7)],vi 18] []=some (.tup [tS (eO Ou 18),tE 0],[]):=t3 (L3 (bb:=false) hG Ou 18 aGN);have a3:=t3 (En (bb:=false) hG (eO Ou 18) hB (by omega));rw[aGL hE,if_pos (by decide)] at a3;have a4:=t3 (aBX (bb:=false) hG (eO Ou 18) hB (by omega) 3);rw[aGM hE (by decide),if_pos rfl,uX hE] at a4;have e4:(pQ Ou 18).getD (2*(3:Int).toNat) 0=10:=by rw[nK hE (by decide)];rfl
 rw[e4] at a4;have a5:EV G (T3 G) 31 [sv (eO Ou 18),rfv 16 1] []=some (.tup [.agg [.dc (ci 0),.dc (ci 0),.dc (ci 0),.dc (ci 0),.dc (ci 0),.dc (ci 0),.dc (ci 0),.dc (.slc [])],tE 32],[]):=by
  have q:=t3 (aBZ (bb:=false) hG (eO Ou 18) hB (by omega) 16 1);rw[aQa hE (by decide)] at q;exact q
 have ls:=Dv Ou;have e12:Ou.bs.take (12:Int).toNat=[68,69,80,79,83,73,84,49,64,0,0,0]:=by decide
 have y1:(dL [68,69,80,79,83,73,84,49,64,0,0,0]=(⟨#[68,69,80,79,83,73,84,49,64,0,0,0]⟩:ByteArray))=True:=eq_true (by kernel_rfl);generalize eO Ou 18=D at *;generalize Ou.bs=S at *;have ls':(S.length:Int)=64:=by omega
 have ln':(D.length:Int)=16384:=by omega
 refine aA (h:=h11) rfl ?_;simp (maxSteps:=2000000) (disch:=omega) only[go_sem,h11c,a0,a1,a2,a3,a4,a5,aF,ls',ln',e12,y1]
theorem aB2(hG:G9 G):QC Tryz.prog G 11 [] (vb true):=Qn aUe (fun f args hp av o' h hp0 hh=>by
 obtain⟨n,hn⟩:=iN h;exact qA (K5 (dN G false)) (aGb (fun h=>by cases h)) n f args hp av o' hn hp0 hh) (aB1 hG)
end
section
open Go.ChangeShapes Go.WideShapes Go.ChangeAt Go.RowKit
def tZ(P:Program):Nat->TypeId->List DC->Prop
 |0,_,_=>False
 |n+1,t,ds=>
  match P.underlying t with
  |some .bool=>∃b,ds=[.raw (.bool b)]
  |some (.int k)=>∃i,ds=[.raw (.int k i)]/\k.min<=i/\i<=k.max
  |some .string=>∃s:ByteArray,ds=[.raw (.string s)]/\s.size<=maxLen
  |some (.slice e)=>∃es:List (List DC),ds=[.slc es]/\es.length<=maxLen/\∀d∈es,tZ P n e d
  |some (.struct fs)=>ds.length=P.cellsOf t/\∀(i:Nat) f,fs[i]?=some f->tZ P n f.type ((ds.drop f.offset).take (P.cellsOf f.type))
  |some (.array m e)=>ds.length=P.cellsOf t/\∀i,i<m->tZ P n e ((ds.drop (i*P.cellsOf e)).take (P.cellsOf e))
  |_=>False
def Jo:List (Nat×Nat)->Nat->Nat->Bool
 |[],off,tot=>decide (off=tot)
 |p::l,off,tot=>decide (p.1=off)&&Jo l (off+p.2) tot
def Jp(P:Program):Nat->TypeId->Bool
 |0,_=>false
 |n+1,t=>
  match P.underlying t with
  |some .bool=>true
  |some (.int _)=>true
  |some .string=>true
  |some (.slice e)=>Jp P n e&&decide (0<P.cellsOf e)
  |some (.struct fs)=>fs.toList.all (fun f=>Jp P n f.type)&&Jo (fs.toList.map fun f=>(f.offset,P.cellsOf f.type)) 0 (P.cellsOf t)
  |some (.array m e)=>Jp P n e&&decide (P.cellsOf t=m*P.cellsOf e)
  |_=>false
def RDs(F:Fz)(ds:List DC)(cs:List Value):Prop:=ds.length=cs.length/\∀(i:Nat) d v,ds[i]?=some d->cs[i]?=some v->RD F d v
theorem Zq:∀(l:List (Nat×Nat)) (off tot:Nat),Jo l off tot=true->off<=tot
 |[],off,tot,h=>by simp[Jo] at h;omega
 | p::l,off,tot,h=>by
  simp only[Jo,aXQ,decide_eq_true_eq] at h;have:=Zq l _ _ h.2;omega
theorem aQb{F:Fz}{cs:List Value}:∀(l:List (Nat×Nat×(List DC->Prop))) (off:Nat),Jo (l.map fun p=>(p.1,p.2.1)) off cs.length=true->(∀p∈l,∃ds,RDs F ds ((cs.drop p.1).take p.2.1)/\p.2.2 ds)->
  ∃ds,RDs F ds (cs.drop off)/\∀p∈l,off<=p.1/\p.2.2 ((ds.drop (p.1-off)).take p.2.1)
 | [],off,h,_=>by
  simp only[aXT,Jo,decide_eq_true_eq] at h;exact⟨[],⟨by simp[h],fun i d v h1=>by simp at h1⟩,fun p hp=>by cases hp⟩
 | p::l,off,h,hp=>by
  simp only[aXL,Jo,aXQ,decide_eq_true_eq] at h;obtain⟨h0,h1⟩:=h;have hle:=Zq _ _ _ h1;obtain⟨ds1,a1,a2⟩:=hp p aXV;obtain⟨ds2,b1,b2⟩:=aQb l (off+p.2.1) h1 (fun q hq=>hp q (aX3 _ hq))
  have hl1:ds1.length=p.2.1:=by rw[a1.1,aXK,aXS];omega
  have hcat:cs.drop off=(cs.drop p.1).take p.2.1++cs.drop (off+p.2.1):=by
   rw[h0,<- List.drop_drop,aYI]
  refine⟨ds1++ds2,⟨by rw[hcat,aXD,aXD,a1.1,b1.1],fun i d v h3 h4=>?_⟩,fun q hq=>?_⟩
  ·rw[hcat] at h4;by_cases hi:i < ds1.length
   ·rw[aXU hi] at h3;rw[aXU (by rw[<- a1.1];exact hi)] at h4;exact a1.2 i d v h3 h4
   ·rw[aXY (by omega)] at h3;rw[aXY (by rw[<- a1.1];omega),<- a1.1] at h4;exact b1.2 _ d v h3 h4
  ·rcases aYR.1 hq with rfl | hq
   ·refine⟨by omega, ?_⟩;rw[h0,aYs,aYq,aY3 (by omega),aYe (by omega)];exact a2
   ·obtain⟨c1,c2⟩:=b2 q hq;refine⟨by omega, ?_⟩;have:(ds1++ds2).drop (q.1 - off)=ds2.drop (q.1 - (off+p.2.1)):=by
     rw[List.drop_append,aZc (by omega),aX4,hl1];congr 1;omega
    rw[this];exact c2
theorem Er{α:Type}{Pr:Nat->α->Prop}:∀n,(∀i,i<n->∃x,Pr i x)->∃l:List α,l.length=n/\∀(i:Nat) x,l[i]?=some x->Pr i x
 |0,_=>⟨[],rfl,fun i x h=>by simp at h⟩
 | n+1,h=>by
  obtain⟨l,hl,hp⟩:=Er n (fun i hi=>h i (by omega))
  obtain⟨x,hx⟩:=h n (by omega);refine⟨l++[x],by simp[hl],fun i y hy=>?_⟩
  rcases gW hy with h1 | ⟨h1,rfl⟩
  ·exact hp i y h1
  ·rw[h1,hl];exact hx
section
variable {H:Type}{enc:TypeId×Value->H}{P:Program}{w:World}{base:Nat}{spare:Nat->Bool}{held:Bool}
theorem aB3{a:Addr}{v:Value}(h:w.cell? a=some v):a.spot=none:=by
 unfold World.cell? at h;split at h;split at h;cases h;rename_i h1;cases hs:a.spot with
 |none=>rfl
 |some x=>simp[hs] at h1
 cases h
theorem aGO{a:Addr}(h:a.spot=none)(i:Nat):a.add i=⟨a.block,a.off+i,none⟩:=by
 unfold Addr.add;split;rename_i h0;subst h0;cases a;simp_all;rfl
theorem aGP{a:Addr}{v:Value}(h:w.cell? a=some v):(iB w).cell? a=some v:=by
 unfold World.cell? at h;unfold Fz.cell? iB;exact h
theorem uY:∀(n:Nat) (t:TypeId) (cs:List Value) (x:DataW H×List MemPlace) (m:Nat),Jp P m t=true->DataW.trod enc P w base spare held n t cs=some x->∃ds,RDs (iB w) ds cs/\tZ P m t ds
 |0,t,cs,x,m,hd,h=>by simp[DataW.trod] at h
 |n+1,t,cs,x,0,hd,h=>by simp[Jp] at hd
 | n+1,t,cs,x,m+1,hd,h=>by
  rw[Jp] at hd;cases hu:P.underlying t with
  | none=>simp[hu] at hd
  | some u=>
   simp only[hu] at hd;cases u<;>try (simp at hd;done)
   case bool=>
    obtain⟨b,rfl,rfl⟩:=DataW.trod_bool hu h;exact⟨[.raw (.bool b)],⟨rfl,fun i d v h1 h2=>by
     cases i with
     | zero=>simp at h1 h2;subst h1;subst h2;exact .raw _ rfl
     | succ i=>simp at h1⟩,by rw[tZ,hu];exact⟨b,rfl⟩⟩
   case int k=>
    obtain⟨i,rfl,rfl,hw⟩:=DataW.trod_int hu h;refine⟨[.raw (.int k i)],⟨rfl,fun j d v h1 h2=>?_⟩,by rw[tZ,hu];exact⟨i,rfl,by simpa[Lit.wf] using hw⟩⟩
    cases j with
    | zero=>simp at h1 h2;subst h1;subst h2;exact .raw _ rfl
    | succ j=>simp at h1
   case string=>
    obtain⟨s,rfl,rfl,hw⟩:=DataW.trod_string hu h;refine⟨[.raw (.string s)],⟨rfl,fun j d v h1 h2=>?_⟩,by rw[tZ,hu];exact⟨s,rfl,hw⟩⟩
    cases j with
    | zero=>simp at h1 h2;subst h1;subst h2;exact .raw _ rfl
    | succ j=>simp at h1
   case slice e=>
    simp only[aXQ,decide_eq_true_eq] at hd;rcases DataW.trod_slice hu h with⟨rfl,_⟩ | ⟨a,len,cap,elems,rest,n',hn,rfl,_,hb,hl,hcm,hel,hat,_,_⟩
    ·refine⟨[.slc []],⟨rfl,fun j d v h1 h2=>?_⟩,by rw[tZ,hu];exact⟨[],rfl,aXX _,by simp⟩⟩
     cases j with
     | zero=>simp at h1 h2;subst h1;subst h2;exact .nil _ _
     | succ j=>simp at h1
    ·have hn':n'=n:=by omega
     subst hn';have key:∀ i,i < len->∃ e':List DC × List Value,w.cells? base (a.add (i * P.cellsOf e)) (P.cellsOf e)=some e'.2/\RDs (iB w) e'.1 e'.2/\tZ P m e e'.1:=by
      intro i hi;have h1:=hat i hi;have hi2:i < elems.length:=by omega
      rw[aXJ hi2] at h1;obtain⟨cs',h2,h3⟩:=aYu.1 h1;obtain⟨ds,h4,h5⟩:=uY n' e cs' _ m hd.1 h3;exact⟨(ds,cs'),h2,h4,h5⟩
     obtain⟨L,hL,hLp⟩:=Er len key;refine⟨[.slc (L.map (·.1))],⟨rfl,fun j d v h1 h2=>?_⟩, ?_⟩
     ·cases j with
      | succ j=>simp at h1
      | zero=>
       simp at h1 h2;subst h1;subst h2;by_cases h0:len=0
       ·have:L=[]:=aYL (by omega);subst this;rw[h0];exact .nil _ _
       ·have hcells:∀ (i j:Nat) e' d,L[i]?=some e'->e'.1[j]?=some d->∃ u,e'.2[j]?=some u/\w.cell? ((a.add (i * P.cellsOf e)).add j)=some u/\j < P.cellsOf e:=by
         intro i j e' d g1 g2;obtain⟨g3,g4,_⟩:=hLp i e' g1;obtain⟨_,g5,g6⟩:=World.cells?_some g3;have hj:j < e'.2.length:=by rw[<- g4.1];exact aG g2
         exact⟨_,aXJ hj,by rw[g6 j (by omega),aXJ hj],by omega⟩
        have hsp:a.spot=none:=by
         have hL0:0 < L.length:=by omega
         obtain⟨g3,g4,_⟩:=hLp 0 _ (aXJ hL0);obtain⟨_,g5,g6⟩:=World.cells?_some g3;have hj:0 < (L[0]).2.length:=by rw[g5];exact hd.2
         have g7:=g6 0 hd.2;rw[aXJ hj] at g7;have:=aB3 g7;simp only[Nat.zero_mul] at this;simpa[Addr.add] using this
        have haddr:∀ i j,(a.add (i * P.cellsOf e)).add j=⟨a.block,a.off+(i * P.cellsOf e+j),none⟩:=by
         intro i j;rw[aGO hsp,aGO rfl,Nat.add_assoc]
        have ha:(some a:Option Addr)=some ⟨a.block,a.off,none⟩:=by cases a;simp_all
        rw[ha];have hmap:(L.map (·.1)).length=len:=by simp[hL]
        have hgoal:=RD.slc (F:=iB w) a.block a.off cap (P.cellsOf e) (L.map (·.1)) (fun i j=>((L.getD i ([],[])).2).getD j undef) (fun e' he'=>by
          obtain⟨p,hp,rfl⟩:=List.mem_map.1 he';obtain⟨i,hi⟩:=List.mem_iff_getElem?.1 hp;obtain⟨g3,g4,_⟩:=hLp i p hi;rw[g4.1,(World.cells?_some g3).2.1]) (fun i j e' d g1 g2=>by
          rw[aXI] at g1;obtain⟨p,hp,rfl⟩:=Option.map_eq_some_iff.1 g1;obtain⟨u,hu1,hu2,hu3⟩:=hcells i j p d hp g2;simp only[aXN,hp,aYn,hu1];exact (hLp i p hp).2.1.2 j d u g2 hu1) (fun i j e' d g1 g2=>by
          rw[aXI] at g1;obtain⟨p,hp,rfl⟩:=Option.map_eq_some_iff.1 g1;obtain⟨u,hu1,hu2,hu3⟩:=hcells i j p d hp g2;simp only[aXN,hp,aYn,hu1];rw[haddr] at hu2;exact aGP hu2) (by rw[hmap];exact hl)
        rw[hmap] at hgoal;exact hgoal
     ·rw[tZ,hu];refine⟨_,rfl,by simp[hL];omega,fun d hdm=>?_⟩
      obtain⟨p,hp,rfl⟩:=List.mem_map.1 hdm;obtain⟨i,hi⟩:=List.mem_iff_getElem?.1 hp;exact (hLp i p hi).2.2
   case struct fs=>
    simp only[aXQ,aY2] at hd;obtain⟨xs,n',hn,_,hlen,hxl,hf⟩:=DataW.trod_struct hu h;have hn':n'=n:=by omega
    subst hn';obtain⟨ds,h1,h2⟩:=aQb (F:=iB w) (cs:=cs) (fs.toList.map fun f=>(f.offset,P.cellsOf f.type,tZ P m f.type)) 0 (by
     rw[hlen,aX1];exact hd.2) (fun p hp=>by
     obtain⟨f,hfm,rfl⟩:=List.mem_map.1 hp;obtain⟨i,hi⟩:=List.mem_iff_getElem?.1 hfm;have hi':fs[i]?=some f:=by simpa using hi
     have h3:=hf i f hi';have hix:i < xs.length:=by rw[hxl];exact (Array.getElem?_eq_some_iff.1 hi').1
     rw[aXJ hix] at h3;exact uY n' f.type _ _ m (hd.1 f hfm) h3)
    simp only[aYq] at h1;refine⟨ds,h1, ?_⟩;rw[tZ,hu];refine⟨by rw[h1.1,hlen],fun i f hi=>?_⟩
    have:=(h2 _ (List.mem_map.2 ⟨f,by exact List.mem_iff_getElem?.2 ⟨i,by simpa using hi⟩,rfl⟩)).2;simpa using this
   case array m' e=>
    simp only[aXQ,decide_eq_true_eq] at hd;obtain⟨xs,n',hn,_,hlen,hxl,hf⟩:=DataW.trod_array hu h;have hn':n'=n:=by omega
    subst hn';have hcon:∀ (k s:Nat),Jo ((List.range' s k).map fun i=>(i * P.cellsOf e,P.cellsOf e)) (s * P.cellsOf e) ((s+k) * P.cellsOf e)=true:=by
     intro k
     induction k with
     | zero=>intro s;simp[Jo]
     | succ k ih=>
      intro s;have:=ih (s+1);rw[List.range'_succ,aXL,Jo];simp only[decide_true,aYb];rw[<- Nat.succ_mul,show s+(k+1)=s+1+k by omega];exact this
    obtain⟨ds,h1,h2⟩:=aQb (F:=iB w) (cs:=cs) ((List.range m').map fun i=>(i * P.cellsOf e,P.cellsOf e,tZ P m e)) 0 (by
     rw[hlen,aX1,hd.2,List.range_eq_range'];have:=hcon m' 0;simpa[Function.comp_def] using this) (fun p hp=>by
     obtain⟨i,him,rfl⟩:=List.mem_map.1 hp;have hi:=List.mem_range.1 him;have h3:=hf i hi;rw[aXJ (by omega)] at h3;exact uY n' e _ _ m hd.1 h3)
    simp only[aYq] at h1;refine⟨ds,h1, ?_⟩;rw[tZ,hu];refine⟨by rw[h1.1,hlen],fun i hi=>?_⟩
    have:=(h2 _ (List.mem_map.2 ⟨i,List.mem_range.2 hi,rfl⟩)).2;simpa using this
def Fg(P:Program)(t:TypeId):Bool:=
 match P.underlying t with
 |some (.struct _)=>true
 |some (.array _ _)=>true
 |_=>false
def okA(P:Program)(m:Nat)(t:TypeId):AV->Prop
 |.one (.dc d)=>Fg P t=false/\tZ P m t [d]
 |.agg cs=>Fg P t=true/\∃ds,cs=mD ds/\tZ P m t ds
 |_=>False
theorem aGQ{r:Reach}{b0 m:Nat}{t:TypeId}{v:Value}{d:DataW H}{ps:List MemPlace}(hval:Value.okWide P w r b0 t v)(hd:DataW.Trod enc P w base spare held t v d ps)(hdat:Jp P m t=true):
  ∃av,RV (iB w) [] av v/\okA P m t av:=by
 obtain⟨n,h⟩:=hd;obtain⟨ds,h1,h2⟩:=uY n t _ _ m hdat h;have one:∀x:Value,v=x->Fg P t=false->(∀cs,x≠.agg cs)->∃av,RV (iB w) [] av v/\okA P m t av:=by
  intro x hx h3 h4;subst hx;have hc:v.cells.toList=[v]:=by cases v<;>first|rfl|(exact absurd rfl (h4 _))
  rw[hc] at h1
  match ds,h1,h2 with
  |[d0],h1,h2=>exact⟨.one (.dc d0),.one _ _ (.dc _ _ (h1.2 0 d0 v rfl rfl)),h3,h2⟩
  |[],h1,_=>simp[RDs] at h1
  |_::_::_,h1,_=>simp[RDs] at h1
 have many:∀cs,v=.agg cs->Fg P t=true->∃av,RV (iB w) [] av v/\okA P m t av:=by
  intro cs hv h0;subst hv;have hc:(Value.agg cs).cells.toList=cs.toList:=rfl;rw[hc] at h1;refine⟨.agg (mD ds),.agg _ _ (by rw[mD,aXC,h1.1,aY4]) (fun i c u h3 h4=>?_),h0,ds,rfl,h2⟩
  rw[mD,aXI] at h3;obtain⟨d0,h5,rfl⟩:=Option.map_eq_some_iff.1 h3;exact .dc _ _ (h1.2 i d0 u h5 (by simpa using h4))
 cases m with
 |zero=>simp[Jp] at hdat
 |succ m=>
  rw[Jp] at hdat;cases hu:P.underlying t with
  |none=>simp[hu] at hdat
  |some u=>
   simp only[hu] at hdat;cases u<;>try (simp at hdat;done)
   case bool=>obtain⟨b,hv⟩:=okWide_bool hu hval;exact one _ hv (by rw[Fg,hu]) (fun cs h=>by cases h)
   case int k=>obtain⟨b,hv⟩:=okWide_int hu hval;exact one _ hv (by rw[Fg,hu]) (fun cs h=>by cases h)
   case string=>obtain⟨b,hv⟩:=okWide_string hu hval;exact one _ hv (by rw[Fg,hu]) (fun cs h=>by cases h)
   case slice e=>obtain⟨a,l,c,hv⟩:=okWide_slice hu hval;exact one _ hv (by rw[Fg,hu]) (fun cs h=>by cases h)
   case struct fs=>obtain⟨cs,hv,_⟩:=okWide_struct hu hval;exact many cs hv (by rw[Fg,hu])
   case array k e=>
    unfold Value.okWide at hval;rw[hu] at hval;obtain⟨cs,hv,_⟩:=hval;exact many cs hv (by rw[Fg,hu])
def aUf(P:Program)(m:Nat):List TypeId->List AV->Prop
 |[],[]=>True
 |t::ts,a::avs=>okA P m t a/\aUf P m ts avs
 |_,_=>False
theorem L4{r:Reach}{b0 m:Nat}:∀{ts:List TypeId}{vs:List Value}{ds:List (DataW H)}{ps:List MemPlace},DataW.TrodAll enc P w base spare held ts vs ds ps->
  (∀(j:Nat) t v,ts[j]?=some t->vs[j]?=some v->Value.okWide P w r b0 t v)->(∀t∈ts,Jp P m t=true)->∃avs:List AV,vs.length=avs.length/\(∀(i:Nat) av v,avs[i]?=some av->vs[i]?=some v->RV (iB w) [] av v)/\aUf P m ts avs/\ds.length=ts.length
 | [],vs,ds,ps,h,_,_=>by
  obtain⟨rfl,rfl,rfl⟩:=trodAll_nil h;exact⟨[],rfl,fun i av v h=>by simp at h,trivial,rfl⟩
 | t::ts,vs,ds,ps,h,hval,hdat=>by
  obtain⟨v,vs',d,ds',p,q,rfl,rfl,rfl,h1,h2⟩:=trodAll_cons h;obtain⟨av,a1,a2⟩:=aGQ (hval 0 t v rfl rfl) h1 (hdat t aXV);obtain⟨avs,b1,b2,b3,b4⟩:=L4 h2 (fun j t v h3 h4=>hval (j+1) t v (by simpa using h3) (by simpa using h4)) (fun t ht=>hdat t (aX3 _ ht))
  refine⟨av::avs,by simp[b1],fun i x y h3 h4=>?_,⟨a2,b3⟩,by simp[b4]⟩
  cases i with
  | zero=>simp at h3 h4;subst h3;subst h4;exact a1
  | succ i=>exact b2 i x y (by simpa using h3) (by simpa using h4)
end
end
section
section
variable {P:Program}{m:Nat}{t:TypeId}{av:AV}
theorem aLm(ha:Fg P t=false)(h:okA P m t av):∃d,av=.one (.dc d)/\tZ P m t [d]:=by
 cases av with
 | one c=>cases c with
  | dc d=>exact⟨d,rfl,h.2⟩
  | _=>exact h.elim
 |agg cs=>rw[h.1] at ha;cases ha
 |tup l=>exact h.elim
 |junk=>exact h.elim
theorem aGR(ha:Fg P t=true)(h:okA P m t av):∃ds,av=.agg (mD ds)/\tZ P m t ds:=by
 cases av with
 | one c=>cases c with
  | dc d=>rw[h.1] at ha;cases ha
  | _=>exact h.elim
 |agg cs=>obtain⟨_,ds,rfl,h2⟩:=h;exact⟨ds,rfl,h2⟩
 |tup l=>exact h.elim
 |junk=>exact h.elim
theorem V3{i:Int}(h:IntKind.i64.min<=i/\i<=IntKind.i64.max):-9223372036854775808<=i/\i<=9223372036854775807:=by
 have e1:IntKind.i64.min=-9223372036854775808:=by decide
 have e2:IntKind.i64.max=9223372036854775807:=by decide
 omega
theorem aGS{k:IntKind}{ds:List DC}(hu:P.underlying t=some (.int k))(h:tZ P (m+1) t ds):∃i,ds=[.raw (.int k i)]/\k.min<=i/\i<=k.max:=by
 rw[tZ,hu] at h;exact h
end
end
end Go.Proofs.YthepfneloomngaaGreatDoor
