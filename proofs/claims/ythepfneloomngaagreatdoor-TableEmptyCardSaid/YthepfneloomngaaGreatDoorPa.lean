/- Boot records: which are valid, by the program and by the reference. Conditions: none. -/
import Derived.Test.YthepfneloomngaaGreatDoorSg
import Derived.Test.YthepfneloomngaaGreatDoorUw
import Derived.Test.YthepfneloomngaaGreatDoorSz
import Derived.Test.YthepfneloomngaaGreatDoorRk
import Derived.Test.YthepfneloomngaaGreatDoorTf
import Derived.Test.YthepfneloomngaaGreatDoorCb
import Derived.Test.YthepfneloomngaaGreatDoorVf
namespace Go.Proofs.YthepfneloomngaaGreatDoor
set_option linter.unusedSimpArgs false
set_option linter.unusedVariables false
set_option maxRecDepth 4000
section
variable {G:aE}{bb:Bool}
theorem tU(r:cI)(hW:r.W):EV G (Tb (kD bb)) 186 [r.v] []=some (vi (gG r),[]):=by
 refine aA rfl ?_;have q:=aFZ (G:=G) (bb:=bb) r hW;unfold gG;generalize Vf r=o at *;obtain⟨o1,o2⟩:=o;simp (disch:=omega) only[go_sem,h186c,q]
theorem aTQ(q f a b:Int):EV G (Tb (kD bb)) 144 [vi q,vi f,rfv a b] []=some (rcv (aTK q f a b),[]):=by
 have w:=qM (G:=G) (bb:=bb) q 1 65535;have u:=qN (G:=G) (bb:=bb);have q1:=Ls (G:=G) (bb:=bb) a b;have q3:=Sg (G:=G) (bb:=bb);unfold aTK;have h0:aKm q f a b=aS [un (decide (1<=q/\q<=65535)&&(decide (f=1)||decide (f=3))) 2,I4 a b]:=rfl
 generalize aKm q f a b=e at *;generalize I4 a b=z at *;have fin:∀ c2:Bool,EV G (Tb (kD bb)) 144 [vi q,vi f,rfv a b] []=some (rcv (if e≠0 then (.nil,e) else (⟨q,0,f,a,b,0,0,[]⟩,0)),[]):=fun _=>by
  refine aA rfl ?_;cases c1:decide (1<=q/\q<=65535)
  all_goals rw[c1] at w h0
  all_goals by_cases c2:f=1
  all_goals by_cases c4:e=0
  all_goals first | rw[if_neg (not_not_intro c4)] | rw[if_pos c4]
  all_goals first | rw[decide_eq_true c2] at h0 | rw[decide_eq_false c2] at h0
  all_goals simp only[aYb,aYj,aYK,aYt] at h0
  ·simp (disch:=omega) only[go_sem,h144c,w,u,q1,q3,<- h0,eq_true c2,eq_true c4,cI.nil];rfl
  ·simp (disch:=omega) only[go_sem,h144c,w,u,q1,q3,<- h0,eq_true c2,c4,cI.nil];rfl
  ·by_cases c3:f=3
   all_goals simp (disch:=omega) only[go_sem,h144c,w,u,q1,q3,<- h0,c2,eq_true c4,cI.nil]
   all_goals rfl
  ·by_cases c3:f=3
   all_goals simp (disch:=omega) only[go_sem,h144c,w,u,q1,q3,<- h0,c2,c4,cI.nil]
   all_goals rfl
  ·simp (disch:=omega) only[go_sem,h144c,w,u,q1,q3,<- h0,eq_true c2,eq_true c4,cI.nil];rfl
  ·simp (disch:=omega) only[go_sem,h144c,w,u,q1,q3,<- h0,eq_true c2,c4,cI.nil];rfl
  ·by_cases c3:f=3
   ·rw[decide_eq_true c3] at h0;simp (disch:=omega) only[go_sem,h144c,w,u,q1,q3,<- h0,c2,eq_true c3,eq_true c4,cI.nil];rfl
   ·rw[decide_eq_false c3] at h0;simp (disch:=omega) only[go_sem,h144c,w,u,q1,q3,<- h0,c2,c3,eq_true c4,cI.nil];rfl
  ·by_cases c3:f=3
   ·rw[decide_eq_true c3] at h0;simp (disch:=omega) only[go_sem,h144c,w,u,q1,q3,<- h0,c2,eq_true c3,c4,cI.nil];rfl
   ·rw[decide_eq_false c3] at h0;simp (disch:=omega) only[go_sem,h144c,w,u,q1,q3,<- h0,c2,c3,c4,cI.nil];rfl
 exact fin true
end
section
variable {G:aE}{bb:Bool}
end
section
variable {G:aE}{bb:Bool}
abbrev cI.c2(r:cI):List aT:=[.dc (ci r.sq),.dc (ci r.li),.dc (ci r.fl),.dc (ci r.br),.dc (ci r.bq),.dc (ci r.nx),.dc (ci r.ls),.bld 2 r.ats.length]
theorem aF1{α:Type}(l:List α)(k:Nat)(h:k<l.length):l.set k l[k]=l:=List.set_getElem_self h
set_option maxHeartbeats 4000000 in
theorem aBJ(r:cI)(hW:r.W):EV G (Tb (kD bb)) 190 [r.v] []=some (.agg r.c2,[.box r.c2,.box r.c2,.arr 0 11 (r.ats.map aJ.e)]):=by
 refine aA rfl ?_;have hl:=hW.ln;have q:=aFC (G:=G) (bb:=bb) r.ats (by omega);simp (disch:=omega) only[go_sem,h190c,q];rw[aR (fun k=>⟨(jk 1 (.one (.ptr 0 0)::.one (.ptr 1 0)::jk 7 (vi r.ats.length::vi k::jk 16 []))),[.box [.dc (ci r.sq),.dc (ci r.li),.dc (ci r.fl),.dc (ci r.br),.dc (ci r.bq),.dc (ci r.nx),.dc (ci r.ls),.bld 2 r.ats.length],.box [.dc (ci 0),.dc (ci 0),.dc (ci 0),.dc (ci 0),.dc (ci 0),.dc (ci 0),.dc (ci 0),.dc (.raw (.slice none 0 0))],.arr 0 11 (r.ats.map aJ.e)]⟩) r.ats.length ?_ ?_]
 simp (disch:=omega) only[go_sem,h190l0,aXC];rfl;intro k hk;have q2:=up (Yi (G:=G) (bb:=bb) r.ats[k].rs (by have:=(hW.at' _ (aXM hk)).rl;omega));have e:=ixA r.ats k hk;have hs:(r.ats.map aJ.e).set k r.ats[k].e=r.ats.map aJ.e:=by
  have:=aF1 (r.ats.map aJ.e) k (by rw[aXC];exact hk);rwa[aYo] at this
 simp (disch:=omega) only[go_sem,h190l0,aXC,e,aJ.e,q2];rw[hs]
theorem aPs(a b:aJ)(ha:aM a.nm)(hb:aM b.nm):EV G (Tb (kD bb)) 240 [b.v,.one (.ptr 0 0)] [.box a.c]=some (vb (nF a b),[.box a.c]):=by
 refine aA rfl ?_;have e:=dR ha hb;unfold nF;by_cases c1:a.ty=b.ty;by_cases c2:a.nm=b.nm
 ·rw[eq_true c2] at e;simp (disch:=omega) only[go_sem,h240c,eq_true c1,e];all_goals simp[c1,c2]
 ·rw[eq_false c2] at e;simp (disch:=omega) only[go_sem,h240c,eq_true c1,e];all_goals simp[c1,c2]
 ·simp (disch:=omega) only[go_sem,h240c,c1];all_goals simp[c1]
abbrev aJ.dd(a:aJ):List DC:=[ci a.ty,.raw (.string (dL a.nm)),ci a.id,ci a.fl,.raw (.bool a.res),.raw (.string (dL a.va)),ci a.fi,.slc (a.rs.map aY.e),ci a.al,ci a.sz,ci a.vd]
theorem aPt(r:cI)(a:aJ)(hW:r.W)(ha:aM a.nm):EV G (Tb (kD bb)) 189 [r.v,a.v] []=some (vb (rG r a),[]):=by
 refine aA rfl ?_;have hl:=hW.ln;have q:EV G (Tb (kD bb)) 239 [vl (r.ats.map aJ.e),.one (.fn 240 [.ptr 0 0])] [.box a.c]=some (vb (r.ats.any fun b=>nF a b),[.box a.c]):=
  aPm 240 a.dd (fun b=>nF a b) r.ats (by omega) (fun b hb=>aPs a b ha (hW.at' b hb).nm)
 unfold rG;by_cases c:a.ty=48
 ·simp (disch:=omega) only[go_sem,h189c,eq_true c];all_goals simp[c]
 ·simp (disch:=omega) only[go_sem,h189c,c,q];all_goals simp[c]
end
section
variable {G:aE}{bb:Bool}
theorem Gb{a:aJ}{i:Int}(h:a.W):(bG a i).W:=⟨h.nm,h.va,h.nl,h.vl,h.rl⟩
theorem aTR(l:List aJ):((l.length:Int)<32)=(l.length<32):=by apply propext;omega
set_option maxHeartbeats 8000000 in
theorem Gc(r:cI)(hW:r.W)(a:aJ)(haW:a.W):EV G (Tb (kD bb)) 145 [r.v,a.v] []=some (rcv (J8 r a),[]):=by
 refine aA rfl ?_;have q1:=tU (G:=G) (bb:=bb) r hW;have q2:=Si (G:=G) (bb:=bb) r;have u:=qN (G:=G) (bb:=bb);have q3:=Sh (G:=G) (bb:=bb);have hok:gG r=0->r.Ok:=rH;have hb:=Gb (i:=r.nx) haW;have q4:=up (B4 (G:=G) (bb:=bb) (bG a r.nx) hb);have q5:=aPt (G:=G) (bb:=bb) r (bG a r.nx) hW hb.nm;have e5:rG r (bG a r.nx)=rG r a:=rfl;rw[e5] at q5;unfold J8 I5 I6;by_cases c1:aS [gG r,un (dU r.fl) 20,un (decide (r.nx<65535)) 16]=0;rw[if_neg (not_not_intro c1)];obtain⟨z1,z2,z3⟩:=uR c1;have hO:=hok z1;have hn:=hO.num.2.2.2.1;have hln:=hO.ln;clear hok;have e3:=aTR r.ats;by_cases c2:aS [fK (bG a r.nx),un (!rG r a) 5,un (decide (r.ats.length<32)) 8]=0;rw[if_neg (not_not_intro c2)];obtain⟨y1,y2,y3⟩:=uR c2;have hl:r.ats.length<32:=by
  have:=aFR (by decide) y3;simpa using this
 have q6:=aBJ (G:=G) (bb:=bb) r hW;have hs:=Yx hO y1 hl;have hWn:∀ x∈r.ats++[bG a r.nx],x.W:=fun x hx=>by
  rcases aYV.1 hx with hx | hx
  ·exact hW.at' x hx
  ·rw[List.mem_singleton.1 hx];exact hb
 have hll:(r.ats++[bG a r.nx]).length=r.ats.length+1:=by simp
 have q7:=aFE (G:=G) (bb:=bb) (r.ats++[bG a r.nx]) hWn (by omega);rw[if_pos hs,hs] at q7;have q8:=Sj (G:=G) (bb:=bb) (dD (r.ats++[bG a r.nx])) (fun x hx=>hWn x (tO.1 hx)) (by rw[oR];omega)
 have tk:∀x:List DC,List.take (r.ats.length+1) (List.map aJ.e r.ats++[x])=List.map aJ.e r.ats++[x]:=fun x=>aYe (by rw[aXD,aXC];exact aXF _)
 unfold nH;simp only[aYg,aXL,aXT] at q7;generalize dD (r.ats++[bG a r.nx])=m at *;generalize fK (bG a r.nx)=ea at *;generalize rG r a=hb' at *;generalize gG r=re at *;generalize dU r.fl=ub at *;simp only[bG] at q4 q5 q7 ⊢;generalize dS m=z at *;by_cases c3:z<=440
 ·have d3:¬ 440<z:=by omega
  rw[if_pos c3];simp (disch:=omega) only[go_sem,h145c,q1,q2,u,q3,q4,q5,q6,q7,q8,eq_true c1,eq_true c2,d3,e3,aXC,aXD,aXE,aXH,aYi,aXF,tk];all_goals rfl
 have d3:440<z:=by omega
 rw[if_neg c3];simp (disch:=omega) only[go_sem,h145c,q1,q2,u,q3,q4,q5,q6,q7,q8,eq_true c1,eq_true c2,eq_true d3,e3,aXC,aXD,aXE,aXH,aYi,aXF,tk,cI.nil];rfl;rw[if_pos c2];generalize fK (bG a r.nx)=ea at *;generalize rG r a=hb' at *;generalize gG r=re at *;generalize dU r.fl=ub at *;simp only[bG] at q4 q5;simp (disch:=omega) only[go_sem,h145c,q1,q2,u,q3,q4,q5,eq_true c1,c2,e3,aXC,cI.nil];rfl;rw[if_pos c1];generalize gG r=re at *;generalize dU r.fl=ub at *;simp (disch:=omega) only[go_sem,h145c,q1,q2,u,q3,c1,cI.nil];rfl
end
section
variable {G:aE}{bb:Bool}
end
section
variable {G:aE}{bb:Bool}
end
section
variable {G:aE}{bb:Bool}
def Jd:List (List DC)->Option (List ByteArray)
 |[]=>some []
 |[.raw (.string s)]::es=>(Jd es).map (s::·)
 |_::_=>none
theorem Lt:∀{es:List (List DC)}{xs:List ByteArray},Jd es=some xs->es=xs.map Fd
 |[],xs,h=>by simp[Jd] at h;subst h;rfl
 | e::es,xs,h=>by
  unfold Jd at h;split at h
  ·rename_i h0;cases h0
  ·rename_i s es' h0;injection h0 with h1 h2
   subst h1;subst h2;obtain⟨ys,h3,h4⟩:=Option.map_eq_some_iff.1 h;subst h4;rw[Lt h3];rfl
  ·cases h
theorem aF2(xs:List ByteArray):Jd (xs.map Fd)=some xs:=by
 induction xs with
 |nil=>rfl
 |cons x xs ih=>rw[aXL,Fd,Jd,ih];rfl
def aF3(sep:ByteArray):Option (List ByteArray)->Option (AV×List aC)
 |some xs=>if xs.length<=1000/\(Lib.join (xs.map (·.data.toList)) sep.data.toList).length<=1000000 then some (.one (.dc (.raw (.string (Sl xs sep)))),[]) else none
 |none=>none
def Y1:List AV->List aC->Option (AV×List aC)
 |[.one (.dc (.slc es)),.one (.dc (.raw (.string sep)))],[]=>aF3 sep (Jd es)
 |_,_=>none
noncomputable def Cw(_:aE)(b:Bool):aO:=fun f args hp=>if f=212 then Y1 args hp else kD b f args hp
theorem aPu{b:Bool}(hA:b=true->QC Tryz.prog G 11 [] (.one (.dc (.raw (.bool true))))):cE Tryz.prog G (Cw G b):=by
 intro f args hp av o' h hp0 hh;unfold Cw at h;split at h;rename_i hf;subst hf;refine⟨by kernel_rfl,?_⟩;unfold Y1 at h;split at h;rename_i es sep;unfold aF3 at h;split at h;rename_i xs hxs;split at h;rename_i hc;injection h with h;injection h with h1 h2;subst h1;subst h2
 have:hp0=[]:=by simpa using hh
 subst this;rw[Lt hxs];exact (aKz (G:=G) (by omega) (by omega)).gh (fun a o ⟨h1,h2⟩ _=>⟨a,o,Gh.refl,aXX _,h1,by rw[h2];rfl⟩)
 cases h;cases h;cases h;exact aFB hA f args hp av o' h hp0 hh
theorem aKA{b:Bool}(f:FuncId)(args:List AV)(hp:List aC)(r:AV×List aC)(h:kD b f args hp=some r):Cw G b f args hp=some r:=by
 have hn:kD b 212 args hp=none:=rfl;unfold Cw;split;rename_i hf;subst hf;rw[hn] at h;cases h;exact h
theorem up2{b:Bool}{f:FuncId}{a:List AV}{hp:List aC}{r:AV×List aC}(h:EV G (Tb (kD b)) f a hp=some r):EV G (Tb (Cw G b)) f a hp=some r:=
 Yo (T:=Tb (kD b)) (T':=Tb (Cw G b)) (fun _=>rfl) (fun f a hp r _ h=>aKA (G:=G) f a hp r h) h
theorem Lu:∀L:List (List UInt8),([]:List UInt8).intercalate L=L.flatten
 |[]=>rfl
 |[x]=>by simp[List.intercalate]
 | x::y::l=>by
  have:=Lu (y::l);simp[List.intercalate,List.intersperse] at this ⊢;exact this
theorem aF4(ps:List (List Int)):Sl (ps.map dL) ⟨#[]⟩=dL ps.flatten:=by
 have key:Lib.join ((ps.map dL).map (·.data.toList)) []=ps.flatten.map u8:=by
  unfold Lib.join;rw[Lu,aX1,List.map_flatten];congr 1
 unfold Sl;show (⟨(Lib.join ((ps.map dL).map (·.data.toList)) []).toArray⟩:ByteArray)=_;rw[key];rfl
theorem aKB(ps:List (List Int))(h1:ps.length<=1000)(h2:ps.flatten.length<=1000000):EV G (Tb (Cw G bb)) 212 [vl (ps.map Ci),.one (.dc (.raw (.string ⟨#[]⟩)))] []=some (sv ps.flatten,[]):=by
 refine gP rfl ?_;show Cw G bb 212 [vl (ps.map Ci),.one (.dc (.raw (.string ⟨#[]⟩)))] []=_;unfold Cw;rw[if_pos rfl];have e:ps.map Ci=(ps.map dL).map Fd:=by rw[aX1];rfl
 have e2:(Lib.join ((ps.map dL).map (·.data.toList)) (⟨#[]⟩:ByteArray).data.toList).length=ps.flatten.length:=by
  have:=congrArg ByteArray.size (aF4 ps);rw[aF] at this;simpa[Sl,ByteArray.size] using this
 show Y1 [vl (ps.map Ci),.one (.dc (.raw (.string ⟨#[]⟩)))] []=_;unfold Y1;simp only;rw[e,aF2];unfold aF3;simp only;rw[if_pos ⟨by rw[aXC];exact h1,by rw[e2];exact h2⟩,aF4]
end
section
variable {G:aE}{B:aO}
structure Bt where
 (cl tb mi lg lc se:Int)
deriving DecidableEq
abbrev Bt.cs(x:Bt):List aT:=[.dc (ci x.cl),.dc (ci x.tb),.dc (ci x.mi),.dc (ci x.lg),.dc (ci x.lc),.dc (ci x.se)]
abbrev Bt.v(x:Bt):AV:=.agg x.cs
abbrev Bt.o(x:Bt):aC:=.box x.cs
def pD(b:Bool)(e:Int):Int:=if b=true then 0 else e
def Bt.num(x:Bt):Bool:=decide (64<=x.cl/\x.cl<=512)&&decide (x.lc.tmod 2=0)&&decide (8<=x.lc/\x.lc<=64)&&decide (0<=x.se/\x.se<=2147483647)
def Bt.inn(x:Bt)(n:Int):Bool:=decide (1<=n/\n<=x.cl-2)
def Bt.ins(x:Bt):Bool:=x.inn x.tb&&x.inn x.mi&&x.inn x.lg
def Bt.fit(x:Bt):Bool:=decide (x.mi+8<x.cl)&&decide (x.lg+x.lc<x.cl)
def As(a m b n:Int):Bool:=decide (a<b+n/\b<a+m)
def Bt.cla(x:Bt):Bool:=!As x.tb 2 x.mi 8&&!As x.tb 2 x.lg x.lc&&!As x.mi 8 x.lg x.lc
def jA(x:Bt):Int:=if x.num=true then if x.ins=true then if x.fit=true then if x.cla=true then 0 else 13 else 37 else 2 else 2
theorem iU(n lo hi:Int):EV G (Tb B) 60 [vi n,vi lo,vi hi] []=some (vb (decide (lo<=n/\n<=hi)),[]):=by
 refine aA rfl ?_;by_cases h:lo<=n;all_goals simp (disch:=omega) only[go_sem,h60c]
 all_goals simp[h]
theorem gI(b:Bool)(e:Int):EV G (Tb B) 62 [vb b,vi e] []=some (vi (pD b e),[]):=by
 refine aA rfl ?_;cases b;all_goals simp (disch:=omega) only[go_sem,h62c]
 all_goals rfl
theorem Sm(l:List Int)(hl:l.length<=1000):EV G (Tb B) 61 [vl (el l)] []=some (vi (aS l),[]):=by
 refine aA rfl ?_;simp (disch:=omega) only[go_sem,h61c,aXC];have round:∀ k (hk:k < l.length),¬ l.getD k 0≠0->K6 [5,0,0] 0 (EC (EV G (Tb B)) G h61l0 ⟨(jk 5 (vl (el l)::vi l.length::vi k::jk 7 [])),[]⟩)=some ⟨(jk 5 (vl (el l)::vi l.length::vi (k+1:Nat)::jk 7 [])),[]⟩:=fun k hk hz=>by
  rw[cL l k hk] at hz;simp (disch:=omega) only[go_sem,h61l0,aXC,E4]
 rcases M8 (fun k=>l.getD k 0≠0) l.length with h|⟨j,hj,h1,h2⟩
 rw[aR (fun k=>⟨(jk 5 (vl (el l)::vi l.length::vi k::jk 7 [])),[]⟩) l.length ?_ ?_]
 rw[gR l h];simp (disch:=omega) only[go_sem,h61l0];rfl;exact fun k hk=>round k hk (h k hk)
 rw[aR (fun k=>⟨(jk 5 (vl (el l)::vi l.length::vi k::jk 7 [])),[]⟩) j ?_ ?_]
 rw[jQ l j hj h2 h1];rw[cL l j hj] at h1;simp (disch:=omega) only[go_sem,h61l0,aXC,E4];rfl;exact fun k hk=>round k (by omega) (h2 k hk)
theorem mM(a b:Int):EV G (Tb B) 61 [vl [[ci a],[ci b]]] []=some (vi (aS [a,b]),[]):=Sm [a,b] (by simp)
theorem Je(x:Bt)(n:Int):EV G (Tb B) 59 [vi n,.one (.ptr 0 0)] [x.o]=some (vb (decide (1<=n/\n<=IntKind.i64.wrap (x.cl-2))),[x.o]):=by
 refine aA rfl ?_;have w:=fun n lo hi=>iU (G:=G) (B:=B) n lo hi
 simp (disch:=omega) only[go_sem,h59c,w]
theorem aKC(x:Bt):EV G (Tb B) 63 [x.v] []=some (rn x.tb 2,[]):=by
 refine aA rfl ?_;simp (disch:=omega) only[go_sem,h63c]
theorem qO(x:Bt):EV G (Tb B) 64 [x.v] []=some (rn x.mi 8,[]):=by
 refine aA rfl ?_;simp (disch:=omega) only[go_sem,h64c]
theorem N7(x:Bt):EV G (Tb B) 65 [x.v] []=some (rn x.lg x.lc,[]):=by
 refine aA rfl ?_;simp (disch:=omega) only[go_sem,h65c]
theorem mN(s n:Int)(h:-1000000<=s/\s<=1000000)(h':-1000000<=n/\n<=1000000):EV G (Tb B) 66 [rn s n] []=some (vi (s+n),[]):=by
 refine aA rfl ?_;simp (disch:=omega) only[go_sem,h66c]
theorem rJ(a m b n:Int)(h:-1000000<=a/\a<=1000000)(h':-1000000<=m/\m<=1000000)(h1:-1000000<=b/\b<=1000000)(h1':-1000000<=n/\n<=1000000):EV G (Tb B) 67 [rn a m,rn b n] []=some (vb (As a m b n),[]):=by
 refine aA rfl ?_;have q1:=mN (G:=G) (B:=B) a m h h';have q2:=mN (G:=G) (B:=B) b n h1 h1';by_cases h:a<b+n;all_goals simp (disch:=omega) only[go_sem,h67c,q1,q2]
 all_goals simp[h,As]
theorem dV(e:Int):pD true e=0:=rfl
theorem eK(e:Int):pD false e=e:=rfl
theorem bL(a b:Int):aS [a,b]=if a=0 then b else a:=by
 by_cases h:a=0;subst h;by_cases hb:b=0;subst hb;rfl;simp[aS,hb];simp[aS,h]
theorem zM{α β:Type}(f:α->Option β)(x:α):[x].mapM f=(f x).map fun c=>[c]:=by
 cases h:f x<;>simp[aYw,h]
theorem rK{id:Nat}{a b c d:aT}{st:AS}:fvT 2 id 0 [a,b] st (some (.box [c,d]))=some (⟨st.sl,st.hp.set id (.box [a,b])⟩,[id],[id]):=aLT rfl (by simp)
theorem qP{x:Bt}(h:x.num=false):jA x=2:=by simp[jA,h]
theorem tV{x:Bt}(h:x.ins=false):jA x=2:=by simp[jA,h]
theorem Jf{x:Bt}(h:x.num=true)(h':x.ins=true)(h2:x.fit=false):jA x=37:=by simp[jA,h,h',h2]
theorem Sn{x:Bt}(h:x.num=true)(h':x.ins=true)(h2:x.fit=true):jA x=pD x.cla 13:=by simp[jA,h,h',h2,pD]
theorem jS{x:Bt}:x.num=true↔(64<=x.cl/\x.cl<=512)/\x.lc.tmod 2=0/\(8<=x.lc/\x.lc<=64)/\(0<=x.se/\x.se<=2147483647):=by
 simp[Bt.num,and_assoc]
theorem mA{x:Bt}:x.ins=true↔(1<=x.tb/\x.tb<=x.cl-2)/\(1<=x.mi/\x.mi<=x.cl-2)/\(1<=x.lg/\x.lg<=x.cl-2):=by
 simp[Bt.ins,Bt.inn,and_assoc]
theorem Cj{x:Bt}:x.fit=true↔x.mi+8<x.cl/\x.lg+x.lc<x.cl:=by simp[Bt.fit]
set_option maxHeartbeats 1000000 in
theorem Vj(x:Bt)(hn:x.num=false):EV G (Tb B) 12 [x.v] []=some (vi 2,[]):=by
 have w:=fun n lo hi=>iU (G:=G) (B:=B) n lo hi
 have u:=gI (G:=G) (B:=B);have f:=mM (G:=G) (B:=B);obtain⟨I,c⟩:∃I:Int->Bool,∀n,EV G (Tb B) 59 [vi n,.one (.ptr 0 0)] [x.o]=some (vb (I n),[x.o]):=⟨_,Je x⟩;have e:¬ ((64<=x.cl/\x.cl<=512)/\x.lc.tmod 2=0/\(8<=x.lc/\x.lc<=64)/\(0<=x.se/\x.se<=2147483647)):=fun h=>by rw[<- jS,hn] at h;cases h
 refine aA rfl ?_;by_cases h1:64<=x.cl/\x.cl<=512;by_cases h2:x.lc.tmod 2=0;by_cases h3:8<=x.lc/\x.lc<=64
 ·have h4:¬ (0<=x.se/\x.se<=2147483647):=fun h4=>e ⟨h1,h2,h3,h4⟩
  cases i1:I x.tb;all_goals cases i2:I x.mi
  all_goals simp (disch:=omega) only[go_sem,h12c,w,u,f,c,h1,h2,h3,h4,i1,i2,zM,hP,aXG,bL,dV,eK]
 ·cases i1:I x.tb;all_goals cases i2:I x.mi
  all_goals simp (disch:=omega) only[go_sem,h12c,w,u,f,c,h1,h2,h3,i1,i2,zM,hP,aXG,bL,dV,eK]
 ·cases i1:I x.tb;all_goals cases i2:I x.mi
  all_goals simp (disch:=omega) only[go_sem,h12c,w,u,f,c,h1,h2,i1,i2,zM,hP,aXG,bL,dV,eK]
 ·cases i1:I x.tb;all_goals cases i2:I x.mi
  all_goals simp (disch:=omega) only[go_sem,h12c,w,u,f,c,h1,i1,i2,zM,hP,aXG,bL,dV,eK]
set_option maxHeartbeats 1000000 in
theorem Vk(x:Bt)(hn:x.num=true)(hi:x.ins=false):EV G (Tb B) 12 [x.v] []=some (vi 2,[]):=by
 have w:=fun n lo hi=>iU (G:=G) (B:=B) n lo hi
 have u:=gI (G:=G) (B:=B);have f:=mM (G:=G) (B:=B);obtain⟨h1,h2,h3,h4⟩:=jS.1 hn;have c:∀ n,EV G (Tb B) 59 [vi n,.one (.ptr 0 0)] [x.o]=some (vb (x.inn n),[x.o]):=fun n=>by
  rw[Je,C1 (by omega)];rfl
 have e:x.inn x.tb=true->x.inn x.mi=true->x.inn x.lg=false:=fun a b=>by
  cases d:x.inn x.lg
  ·rfl
  ·rw[Bt.ins,a,b,d] at hi;cases hi
 refine aA rfl ?_;cases i1:x.inn x.tb;simp (disch:=omega) only[go_sem,h12c,w,u,f,c,h1,h2,h3,h4,zM,hP,aXG,bL,dV,eK,i1];cases i2:x.inn x.mi;simp (disch:=omega) only[go_sem,h12c,w,u,f,c,h1,h2,h3,h4,zM,hP,aXG,bL,dV,eK,i1,i2];have i3:=e i1 i2;simp (disch:=omega) only[go_sem,h12c,w,u,f,c,h1,h2,h3,h4,zM,hP,aXG,bL,dV,eK,i1,i2,i3]
set_option maxHeartbeats 2000000 in
theorem aBL(x:Bt)(hn:x.num=true)(hi:x.ins=true):EV G (Tb B) 12 [x.v] []=some (vi (jA x),[]):=by
 have w:=fun n lo hi=>iU (G:=G) (B:=B) n lo hi
 have u:=gI (G:=G) (B:=B);have f:=mM (G:=G) (B:=B);have cb:=aKC (G:=G) (B:=B) x;have cm:=qO (G:=G) (B:=B) x;have cl:=N7 (G:=G) (B:=B) x;obtain⟨h1,h2,h3,h4⟩:=jS.1 hn;obtain⟨k1,k2,k3⟩:=mA.1 hi;have c:∀ n,EV G (Tb B) 59 [vi n,.one (.ptr 0 0)] [x.o]=some (vb (x.inn n),[x.o]):=fun n=>by
  rw[Je,C1 (by omega)];rfl
 have i1:x.inn x.tb=true:=by simp[Bt.inn,k1]
 have i2:x.inn x.mi=true:=by simp[Bt.inn,k2]
 have i3:x.inn x.lg=true:=by simp[Bt.inn,k3]
 have b1:=mN (G:=G) (B:=B) x.mi 8 (by omega) (by omega);have b2:=mN (G:=G) (B:=B) x.lg x.lc (by omega) (by omega);have m1:=rJ (G:=G) (B:=B) x.tb 2 x.mi 8 (by omega) (by omega) (by omega) (by omega);have m2:=rJ (G:=G) (B:=B) x.tb 2 x.lg x.lc (by omega) (by omega) (by omega) (by omega);have m3:=rJ (G:=G) (B:=B) x.mi 8 x.lg x.lc (by omega) (by omega) (by omega) (by omega);have e:jA x=if pD x.fit 37=0 then pD x.cla 13 else pD x.fit 37:=by
  cases hf:x.fit<;>simp[jA,hn,hi,hf,pD]
 rw[e];have d:x.fit=(decide (x.mi+8<x.cl)&&decide (x.lg+x.lc<x.cl)):=rfl;have d':x.cla=(!As x.tb 2 x.mi 8&&!As x.tb 2 x.lg x.lc&&!As x.mi 8 x.lg x.lc):=rfl;generalize As x.tb 2 x.mi 8=M1 at m1 d';generalize As x.tb 2 x.lg x.lc=M2 at m2 d';generalize As x.mi 8 x.lg x.lc=M3 at m3 d';rw[d,d'];have fin:∀J:Bool,(decide (x.mi+8<x.cl)&&decide (x.lg+x.lc<x.cl))=J->C8 h12.own h12.rs 0 (EC (EV G (Tb B)) G h12.code ⟨[x.v]++rS (h12.nt-1),[]⟩)=some (vi (if pD J 37=0 then pD (!M1&&!M2&&!M3) 13 else pD J 37),[]):=by
  intro J hJ;by_cases j1:x.mi+8<x.cl;by_cases j2:x.lg+x.lc<x.cl;have j:J=true:=by rw[<- hJ];simp[j1,j2]
  subst j;cases M1;cases M2;simp (disch:=omega) only[go_sem,h12c,w,u,f,c,h1,h2,h3,h4,zM,hP,aXG,bL,dV,eK,i1,i2,i3,cb,cm,cl,b1,b2,rK,m1,m2,m3,j1,j2,aYc,aX5,aYb,aYj];simp (disch:=omega) only[go_sem,h12c,w,u,f,c,h1,h2,h3,h4,zM,hP,aXG,bL,dV,eK,i1,i2,i3,cb,cm,cl,b1,b2,rK,m1,m2,m3,j1,j2,aYc,aX5,aYb,aYj];simp (disch:=omega) only[go_sem,h12c,w,u,f,c,h1,h2,h3,h4,zM,hP,aXG,bL,dV,eK,i1,i2,i3,cb,cm,cl,b1,b2,rK,m1,m2,m3,j1,j2,aYc,aX5,aYb,aYj];have j:J=false:=by rw[<- hJ];simp[j2]
  subst j;cases M1;cases M2;simp (disch:=omega) only[go_sem,h12c,w,u,f,c,h1,h2,h3,h4,zM,hP,aXG,bL,dV,eK,i1,i2,i3,cb,cm,cl,b1,b2,rK,m1,m2,m3,j1,j2,aYc,aX5];simp (disch:=omega) only[go_sem,h12c,w,u,f,c,h1,h2,h3,h4,zM,hP,aXG,bL,dV,eK,i1,i2,i3,cb,cm,cl,b1,b2,rK,m1,m2,m3,j1,j2,aYc,aX5];simp (disch:=omega) only[go_sem,h12c,w,u,f,c,h1,h2,h3,h4,zM,hP,aXG,bL,dV,eK,i1,i2,i3,cb,cm,cl,b1,b2,rK,m1,m2,m3,j1,j2,aYc,aX5];have j:J=false:=by rw[<- hJ];simp[j1]
  subst j;cases M1;cases M2;simp (disch:=omega) only[go_sem,h12c,w,u,f,c,h1,h2,h3,h4,zM,hP,aXG,bL,dV,eK,i1,i2,i3,cb,cm,cl,b1,b2,rK,m1,m2,m3,j1,aYc,aX5];simp (disch:=omega) only[go_sem,h12c,w,u,f,c,h1,h2,h3,h4,zM,hP,aXG,bL,dV,eK,i1,i2,i3,cb,cm,cl,b1,b2,rK,m1,m2,m3,j1,aYc,aX5];simp (disch:=omega) only[go_sem,h12c,w,u,f,c,h1,h2,h3,h4,zM,hP,aXG,bL,dV,eK,i1,i2,i3,cb,cm,cl,b1,b2,rK,m1,m2,m3,j1,aYc,aX5]
 exact aA rfl (fin _ rfl)
theorem pH(x:Bt):EV G (Tb B) 12 [x.v] []=some (vi (jA x),[]):=by
 cases hn:x.num with
 |false=>rw[qP hn];exact Vj x hn
 | true=>cases hi:x.ins with
  | false=>rw[tV hi];exact Vk x hn hi
  | true=>exact aBL x hn hi
end
end Go.Proofs.YthepfneloomngaaGreatDoor
