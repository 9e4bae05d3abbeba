/- Boot records: which are valid, by the program and by the reference. Conditions: none. -/
import Derived.Test.YthepfneloomngaaGreatDoorSg
import Derived.Test.YthepfneloomngaaGreatDoorUw
import Derived.Test.YthepfneloomngaaGreatDoorSz
import Derived.Test.YthepfneloomngaaGreatDoorRk
import Derived.Test.YthepfneloomngaaGreatDoorTf
import Derived.Test.YthepfneloomngaaGreatDoorCb
import Derived.Test.YthepfneloomngaaGreatDoorVh
namespace Go.Proofs.YthepfneloomngaaGreatDoor
set_option linter.unusedSimpArgs false
set_option linter.unusedVariables false
set_option maxRecDepth 4000
section
variable {G:aF} {bb:Bool}
theorem sK(r:cR)(hW:r.W):EV G (Tb (mE bb)) 186 [r.v] []=some (vi (gW r),[]):=by
 refine aA rfl ?_;have q:=aES (G:=G) (bb:=bb) r hW;unfold gW;generalize Tp r=o at *;obtain⟨o1,o2⟩:=o;simp (disch:=omega) only[go_sem,h186c,q]
theorem aR8(q f a b:Int):EV G (Tb (mE bb)) 144 [vi q,vi f,rfv a b] []=some (rcv (aR2 q f a b),[]):=by
 have w:=pU (G:=G) (bb:=bb) q 1 65535;have u:=pV (G:=G) (bb:=bb);have q1:=Jx (G:=G) (bb:=bb) a b;have q3:=Qf (G:=G) (bb:=bb);unfold aR2;have h0:aI8 q f a b=aQ [un (decide (1<=q/\q<=65535)&&(decide (f=1)||decide (f=3))) 2,Hh a b]:=rfl
 generalize aI8 q f a b=e at *;generalize Hh a b=z at *;have fin:∀ c2:Bool,EV G (Tb (mE bb)) 144 [vi q,vi f,rfv a b] []=some (rcv (if e≠0 then (.nil,e) else (⟨q,0,f,a,b,0,0,[]⟩,0)),[]):=fun _=>by
  refine aA rfl ?_;cases c1:decide (1<=q/\q<=65535)
  all_goals rw[c1] at w h0
  all_goals by_cases c2:f=1
  all_goals by_cases c4:e=0
  all_goals first | rw[if_neg (not_not_intro c4)] | rw[if_pos c4]
  all_goals first | rw[decide_eq_true c2] at h0 | rw[decide_eq_false c2] at h0
  all_goals simp only[aWN,aWU,aXj,aW4] at h0
  ·simp (disch:=omega) only[go_sem,h144c,w,u,q1,q3,<- h0,eq_true c2,eq_true c4,cR.nil];rfl
  ·simp (disch:=omega) only[go_sem,h144c,w,u,q1,q3,<- h0,eq_true c2,c4,cR.nil];rfl
  ·by_cases c3:f=3
   all_goals simp (disch:=omega) only[go_sem,h144c,w,u,q1,q3,<- h0,c2,eq_true c4,cR.nil]
   all_goals rfl
  ·by_cases c3:f=3
   all_goals simp (disch:=omega) only[go_sem,h144c,w,u,q1,q3,<- h0,c2,c4,cR.nil]
   all_goals rfl
  ·simp (disch:=omega) only[go_sem,h144c,w,u,q1,q3,<- h0,eq_true c2,eq_true c4,cR.nil];rfl
  ·simp (disch:=omega) only[go_sem,h144c,w,u,q1,q3,<- h0,eq_true c2,c4,cR.nil];rfl
  ·by_cases c3:f=3
   ·rw[decide_eq_true c3] at h0;simp (disch:=omega) only[go_sem,h144c,w,u,q1,q3,<- h0,c2,eq_true c3,eq_true c4,cR.nil];rfl
   ·rw[decide_eq_false c3] at h0;simp (disch:=omega) only[go_sem,h144c,w,u,q1,q3,<- h0,c2,c3,eq_true c4,cR.nil];rfl
  ·by_cases c3:f=3
   ·rw[decide_eq_true c3] at h0;simp (disch:=omega) only[go_sem,h144c,w,u,q1,q3,<- h0,c2,eq_true c3,c4,cR.nil];rfl
   ·rw[decide_eq_false c3] at h0;simp (disch:=omega) only[go_sem,h144c,w,u,q1,q3,<- h0,c2,c3,c4,cR.nil];rfl
 exact fin true
end
section
variable {G:aF} {bb:Bool}
end
section
variable {G:aF} {bb:Bool}
abbrev cR.c2(r:cR):List aR:=[.dc (ci r.sq),.dc (ci r.li),.dc (ci r.fl),.dc (ci r.br),.dc (ci r.bq),.dc (ci r.nx),.dc (ci r.ls),.bld 2 r.ats.length]
theorem aEU{α:Type}(l:List α)(k:Nat)(h:k < l.length):l.set k l[k]=l:=List.set_getElem_self h
set_option maxHeartbeats 4000000 in
theorem aAD(r:cR)(hW:r.W):EV G (Tb (mE bb)) 190 [r.v] []=some (.agg r.c2,[.box r.c2,.box r.c2,.arr 0 11 (r.ats.map aK.e)]):=by
 refine aA rfl ?_;have hl:=hW.ln;have q:=aEw (G:=G) (bb:=bb) r.ats (by omega);simp (disch:=omega) only[go_sem,h190c,q];rw[aU (fun k=>⟨(jk 1 (.one (.ptr 0 0)::.one (.ptr 1 0)::jk 7 (vi r.ats.length::vi k::jk 16 []))),[.box [.dc (ci r.sq),.dc (ci r.li),.dc (ci r.fl),.dc (ci r.br),.dc (ci r.bq),.dc (ci r.nx),.dc (ci r.ls),.bld 2 r.ats.length],.box [.dc (ci 0),.dc (ci 0),.dc (ci 0),.dc (ci 0),.dc (ci 0),.dc (ci 0),.dc (ci 0),.dc (.raw (.slice none 0 0))],.arr 0 11 (r.ats.map aK.e)]⟩) r.ats.length ?_ ?_]
 ·simp (disch:=omega) only[go_sem,h190l0,aWf]
 ·rfl
 ·intro k hk;have q2:=up (Wr (G:=G) (bb:=bb) r.ats[k].rs (by have:=(hW.at' _ (aWq hk)).rl;omega));have e:=ixA r.ats k hk;have hs:(r.ats.map aK.e).set k r.ats[k].e=r.ats.map aK.e:=by
   have:=aEU (r.ats.map aK.e) k (by rw[aWf];exact hk);rwa[aW0] at this
  simp (disch:=omega) only[go_sem,h190l0,aWf,e,aK.e,q2];rw[hs]
theorem aNV(a b:aK)(ha:aL a.nm)(hb:aL b.nm):EV G (Tb (mE bb)) 240 [b.v,.one (.ptr 0 0)] [.box a.c]=some (vb (mN a b),[.box a.c]):=by
 refine aA rfl ?_;have e:=gJ ha hb;unfold mN;by_cases c1:a.ty=b.ty
 ·by_cases c2:a.nm=b.nm
  ·rw[eq_true c2] at e;simp (disch:=omega) only[go_sem,h240c,eq_true c1,e]
   all_goals simp[c1,c2]
  ·rw[eq_false c2] at e;simp (disch:=omega) only[go_sem,h240c,eq_true c1,e]
   all_goals simp[c1,c2]
 ·simp (disch:=omega) only[go_sem,h240c,c1]
  all_goals simp[c1]
abbrev aK.dd(a:aK):List DC:=[ci a.ty,.raw (.string (dO a.nm)),ci a.id,ci a.fl,.raw (.bool a.res),.raw (.string (dO a.va)),ci a.fi,.slc (a.rs.map bF.e),ci a.al,ci a.sz,ci a.vd]
theorem aNW(r:cR)(a:aK)(hW:r.W)(ha:aL a.nm):EV G (Tb (mE bb)) 189 [r.v,a.v] []=some (vb (Ca r a),[]):=by
 refine aA rfl ?_;have hl:=hW.ln;have q:EV G (Tb (mE bb)) 239 [vl (r.ats.map aK.e),.one (.fn 240 [.ptr 0 0])] [.box a.c]=some (vb (r.ats.any fun b=>mN a b),[.box a.c]):=
  aNR 240 a.dd (fun b=>mN a b) r.ats (by omega) (fun b hb=>aNV a b ha (hW.at' b hb).nm)
 unfold Ca;by_cases c:a.ty=48
 ·simp (disch:=omega) only[go_sem,h189c,eq_true c]
  all_goals simp[c]
 ·simp (disch:=omega) only[go_sem,h189c,c,q]
  all_goals simp[c]
end
section
variable {G:aF} {bb:Bool}
theorem L6{a:aK}{i:Int}(h:a.W):(bP a i).W:=⟨h.nm,h.va,h.nl,h.vl,h.rl⟩
theorem aR9(l:List aK):((l.length:Int) < 32)=(l.length < 32):=by apply propext;omega
set_option maxHeartbeats 8000000 in
theorem Er(r:cR)(hW:r.W)(a:aK)(haW:a.W):EV G (Tb (mE bb)) 145 [r.v,a.v] []=some (rcv (Tq r a),[]):=by
 refine aA rfl ?_;have q1:=sK (G:=G) (bb:=bb) r hW;have q2:=Qh (G:=G) (bb:=bb) r;have u:=pV (G:=G) (bb:=bb);have q3:=Qg (G:=G) (bb:=bb);have hok:gW r=0->r.Ok:=Aw;have hb:=L6 (i:=r.nx) haW;have q4:=up (Am (G:=G) (bb:=bb) (bP a r.nx) hb);have q5:=aNW (G:=G) (bb:=bb) r (bP a r.nx) hW hb.nm;have e5:Ca r (bP a r.nx)=Ca r a:=rfl;rw[e5] at q5;unfold Tq P0 P1;by_cases c1:aQ [gW r,un (fJ r.fl) 20,un (decide (r.nx < 65535)) 16]=0
 ·rw[if_neg (not_not_intro c1)];obtain⟨z1,z2,z3⟩:=tF c1;have hO:=hok z1;have hn:=hO.num.2.2.2.1;have hln:=hO.ln;clear hok;have e3:=aR9 r.ats;by_cases c2:aQ [gU (bP a r.nx),un (!Ca r a) 5,un (decide (r.ats.length < 32)) 8]=0
  ·rw[if_neg (not_not_intro c2)];obtain⟨y1,y2,y3⟩:=tF c2;have hl:r.ats.length < 32:=by
    have:=aEL (by decide) y3;simpa using this
   have q6:=aAD (G:=G) (bb:=bb) r hW;have hs:=W9 hO y1 hl;have hWn:∀ x∈r.ats++[bP a r.nx],x.W:=fun x hx=>by
    rcases aXy.1 hx with hx | hx
    ·exact hW.at' x hx
    ·rw[List.mem_singleton.1 hx];exact hb
   have hll:(r.ats++[bP a r.nx]).length=r.ats.length+1:=by simp
   have q7:=aEy (G:=G) (bb:=bb) (r.ats++[bP a r.nx]) hWn (by omega);rw[if_pos hs,hs] at q7;have q8:=Qj (G:=G) (bb:=bb) (dL (r.ats++[bP a r.nx])) (fun x hx=>hWn x (Ha.1 hx)) (by rw[pT];omega)
   have tk:∀ x:List DC,List.take (r.ats.length+1) (List.map aK.e r.ats++[x])=List.map aK.e r.ats++[x]:=fun x=>aWP (by rw[aWg,aWf];exact aWj _)
   unfold nO;simp only[aWW,aWp,aWw] at q7;generalize dL (r.ats++[bP a r.nx])=m at *;generalize gU (bP a r.nx)=ea at *;generalize Ca r a=hb' at *;generalize gW r=re at *;generalize fJ r.fl=ub at *;simp only[bP] at q4 q5 q7 ⊢;generalize eP m=z at *;by_cases c3:z<=440
   ·have d3:¬ 440 < z:=by omega
    rw[if_pos c3];simp (disch:=omega) only[go_sem,h145c,q1,q2,u,q3,q4,q5,q6,q7,q8,eq_true c1,eq_true c2,d3,e3,aWf,aWg,aWh,aWk,aWZ,aWj,tk]
    all_goals rfl
   ·have d3:440 < z:=by omega
    rw[if_neg c3];simp (disch:=omega) only[go_sem,h145c,q1,q2,u,q3,q4,q5,q6,q7,q8,eq_true c1,eq_true c2,eq_true d3,e3,aWf,aWg,aWh,aWk,aWZ,aWj,tk,cR.nil];rfl
  ·rw[if_pos c2];generalize gU (bP a r.nx)=ea at *;generalize Ca r a=hb' at *;generalize gW r=re at *;generalize fJ r.fl=ub at *;simp only[bP] at q4 q5;simp (disch:=omega) only[go_sem,h145c,q1,q2,u,q3,q4,q5,eq_true c1,c2,e3,aWf,cR.nil];rfl
 ·rw[if_pos c1];generalize gW r=re at *;generalize fJ r.fl=ub at *;simp (disch:=omega) only[go_sem,h145c,q1,q2,u,q3,c1,cR.nil];rfl
end
section
variable {G:aF} {bb:Bool}
end
section
variable {G:aF} {bb:Bool}
end
section
variable {G:aF} {bb:Bool}
def Hl:List (List DC)->Option (List ByteArray)
 | []=>some []
 | [.raw (.string s)]::es=>(Hl es).map (s::·)
 | _::_=>none
theorem Jy:∀ {es:List (List DC)} {xs:List ByteArray},Hl es=some xs->es=xs.map Dv
 | [],xs,h=>by simp[Hl] at h;subst h;rfl
 | e::es,xs,h=>by
  unfold Hl at h;split at h
  ·rename_i h0;cases h0
  ·rename_i s es' h0;injection h0 with h1 h2
   subst h1;subst h2;obtain⟨ys,h3,h4⟩:=Option.map_eq_some_iff.1 h;subst h4;rw[Jy h3];rfl
  ·cases h
theorem aEV(xs:List ByteArray):Hl (xs.map Dv)=some xs:=by
 induction xs with
 | nil=>rfl
 | cons x xs ih=>rw[aWp,Dv,Hl,ih];rfl
def aEW(sep:ByteArray):Option (List ByteArray)->Option (AV × List aD)
 | some xs=>if xs.length<=1000/\(Lib.join (xs.map (·.data.toList)) sep.data.toList).length<=1000000 then some (.one (.dc (.raw (.string (Qk xs sep)))),[]) else none
 | none=>none
def Xd:List AV->List aD->Option (AV × List aD)
 | [.one (.dc (.slc es)),.one (.dc (.raw (.string sep)))],[]=>aEW sep (Hl es)
 | _,_=>none
noncomputable def Bf(_:aF)(b:Bool):aO:=fun f args hp=>if f=212 then Xd args hp else mE b f args hp
theorem aNX{b:Bool}(hA:b=true->QC Tryz.prog G 11 [] (.one (.dc (.raw (.bool true))))):cB Tryz.prog G (Bf G b):=by
 intro f args hp av o' h hp0 hh;unfold Bf at h;split at h
 ·rename_i hf;subst hf;refine⟨by kernel_rfl, ?_⟩;unfold Xd at h;split at h
  ·rename_i es sep;unfold aEW at h;split at h
   ·rename_i xs hxs;split at h
    ·rename_i hc;injection h with h;injection h with h1 h2;subst h1;subst h2
     have:hp0=[]:=by simpa using hh
     subst this;rw[Jy hxs];exact (aJi (G:=G) (by omega) (by omega)).gh (fun a o ⟨h1,h2⟩ _=>⟨a,o,Gh.refl,aWA _,h1,by rw[h2];rfl⟩)
    ·cases h
   ·cases h
  ·cases h
 ·exact aND hA f args hp av o' h hp0 hh
theorem aJj{b:Bool}(f:FuncId)(args:List AV)(hp:List aD)(r:AV × List aD)(h:mE b f args hp=some r):Bf G b f args hp=some r:=by
 have hn:mE b 212 args hp=none:=rfl;unfold Bf;split
 ·rename_i hf;subst hf;rw[hn] at h;cases h
 ·exact h
theorem up2{b:Bool}{f:FuncId}{a:List AV}{hp:List aD}{r:AV × List aD}(h:EV G (Tb (mE b)) f a hp=some r):EV G (Tb (Bf G b)) f a hp=some r:=
 aEt (T:=Tb (mE b)) (T':=Tb (Bf G b)) (fun _=>rfl) (fun f a hp r _ h=>aJj (G:=G) f a hp r h) h
theorem Jz:∀ L:List (List UInt8),([]:List UInt8).intercalate L=L.flatten
 | []=>rfl
 | [x]=>by simp[List.intercalate]
 | x::y::l=>by
  have:=Jz (y::l);simp[List.intercalate,List.intersperse] at this ⊢;exact this
theorem aEX(ps:List (List Int)):Qk (ps.map dO) ⟨#[]⟩=dO ps.flatten:=by
 have key:Lib.join ((ps.map dO).map (·.data.toList)) []=ps.flatten.map u8:=by
  unfold Lib.join;rw[Jz,aWE,List.map_flatten];congr 1
 unfold Qk;show (⟨(Lib.join ((ps.map dO).map (·.data.toList)) []).toArray⟩:ByteArray)=_;rw[key];rfl
theorem aJk(ps:List (List Int))(h1:ps.length<=1000)(h2:ps.flatten.length<=1000000):EV G (Tb (Bf G bb)) 212 [vl (ps.map Ax),.one (.dc (.raw (.string ⟨#[]⟩)))] []=some (sv ps.flatten,[]):=by
 refine iI rfl ?_;show Bf G bb 212 [vl (ps.map Ax),.one (.dc (.raw (.string ⟨#[]⟩)))] []=_;unfold Bf;rw[if_pos rfl];have e:ps.map Ax=(ps.map dO).map Dv:=by rw[aWE];rfl
 have e2:(Lib.join ((ps.map dO).map (·.data.toList)) (⟨#[]⟩:ByteArray).data.toList).length=ps.flatten.length:=by
  have:=congrArg ByteArray.size (aEX ps);rw[aC] at this;simpa[Qk,ByteArray.size] using this
 show Xd [vl (ps.map Ax),.one (.dc (.raw (.string ⟨#[]⟩)))] []=_;unfold Xd;simp only;rw[e,aEV];unfold aEW;simp only;rw[if_pos ⟨by rw[aWf];exact h1,by rw[e2];exact h2⟩,aEX]
end
section
variable {G:aF} {B:aO}
structure Bt where
 (cl tb mi lg lc se:Int)
deriving DecidableEq
abbrev Bt.cs(x:Bt):List aR:=[.dc (ci x.cl),.dc (ci x.tb),.dc (ci x.mi),.dc (ci x.lg),.dc (ci x.lc),.dc (ci x.se)]
abbrev Bt.v(x:Bt):AV:=.agg x.cs
abbrev Bt.o(x:Bt):aD:=.box x.cs
def oH(b:Bool)(e:Int):Int:=if b=true then 0 else e
def Bt.num(x:Bt):Bool:=decide (64<=x.cl/\x.cl<=512)&&decide (x.lc.tmod 2=0)&&decide (8<=x.lc/\x.lc<=64)&&decide (0<=x.se/\x.se<=2147483647)
def Bt.inn(x:Bt)(n:Int):Bool:=decide (1<=n/\n<=x.cl - 2)
def Bt.ins(x:Bt):Bool:=x.inn x.tb&&x.inn x.mi&&x.inn x.lg
def Bt.fit(x:Bt):Bool:=decide (x.mi+8 < x.cl)&&decide (x.lg+x.lc < x.cl)
def C9(a m b n:Int):Bool:=decide (a < b+n/\b < a+m)
def Bt.cla(x:Bt):Bool:=!C9 x.tb 2 x.mi 8&&!C9 x.tb 2 x.lg x.lc&&!C9 x.mi 8 x.lg x.lc
def fH(x:Bt):Int:=if x.num=true then if x.ins=true then if x.fit=true then if x.cla=true then 0 else 13 else 37 else 2 else 2
theorem jD(n lo hi:Int):EV G (Tb B) 60 [vi n,vi lo,vi hi] []=some (vb (decide (lo<=n/\n<=hi)),[]):=by
 refine aA rfl ?_;by_cases h:lo<=n
 all_goals simp (disch:=omega) only[go_sem,h60c]
 all_goals simp[h]
theorem gS(b:Bool)(e:Int):EV G (Tb B) 62 [vb b,vi e] []=some (vi (oH b e),[]):=by
 refine aA rfl ?_;cases b
 all_goals simp (disch:=omega) only[go_sem,h62c]
 all_goals rfl
theorem Ql(l:List Int)(hl:l.length<=1000):EV G (Tb B) 61 [vl (el l)] []=some (vi (aQ l),[]):=by
 refine aA rfl ?_;simp (disch:=omega) only[go_sem,h61c,aWf];have round:∀ k (hk:k < l.length),¬ l.getD k 0≠0->K1 [5,0,0] 0 (EC (EV G (Tb B)) G h61l0 ⟨(jk 5 (vl (el l)::vi l.length::vi k::jk 7 [])),[]⟩)=some ⟨(jk 5 (vl (el l)::vi l.length::vi (k+1:Nat)::jk 7 [])),[]⟩:=fun k hk hz=>by
  rw[cY l k hk] at hz;simp (disch:=omega) only[go_sem,h61l0,aWf,Gc]
 rcases La (fun k=>l.getD k 0≠0) l.length with h | ⟨j,hj,h1,h2⟩
 ·rw[aU (fun k=>⟨(jk 5 (vl (el l)::vi l.length::vi k::jk 7 [])),[]⟩) l.length ?_ ?_]
  ·rw[fX l h];simp (disch:=omega) only[go_sem,h61l0]
  ·rfl
  ·exact fun k hk=>round k hk (h k hk)
 ·rw[aU (fun k=>⟨(jk 5 (vl (el l)::vi l.length::vi k::jk 7 [])),[]⟩) j ?_ ?_]
  ·rw[iY l j hj h2 h1];rw[cY l j hj] at h1;simp (disch:=omega) only[go_sem,h61l0,aWf,Gc]
  ·rfl
  ·exact fun k hk=>round k (by omega) (h2 k hk)
theorem lV(a b:Int):EV G (Tb B) 61 [vl [[ci a],[ci b]]] []=some (vi (aQ [a,b]),[]):=Ql [a,b] (by simp)
theorem Hm(x:Bt)(n:Int):EV G (Tb B) 59 [vi n,.one (.ptr 0 0)] [x.o]=some (vb (decide (1<=n/\n<=IntKind.i64.wrap (x.cl - 2))),[x.o]):=by
 refine aA rfl ?_;have w:=fun n lo hi=>jD (G:=G) (B:=B) n lo hi
 simp (disch:=omega) only[go_sem,h59c,w]
theorem aJl(x:Bt):EV G (Tb B) 63 [x.v] []=some (rn x.tb 2,[]):=by
 refine aA rfl ?_;simp (disch:=omega) only[go_sem,h63c]
theorem tH(x:Bt):EV G (Tb B) 64 [x.v] []=some (rn x.mi 8,[]):=by
 refine aA rfl ?_;simp (disch:=omega) only[go_sem,h64c]
theorem Tv(x:Bt):EV G (Tb B) 65 [x.v] []=some (rn x.lg x.lc,[]):=by
 refine aA rfl ?_;simp (disch:=omega) only[go_sem,h65c]
theorem nV(s n:Int)(h:-1000000<=s/\s<=1000000)(h':-1000000<=n/\n<=1000000):EV G (Tb B) 66 [rn s n] []=some (vi (s+n),[]):=by
 refine aA rfl ?_;simp (disch:=omega) only[go_sem,h66c]
theorem A0(a m b n:Int)(h:-1000000<=a/\a<=1000000)(h':-1000000<=m/\m<=1000000)(h1:-1000000<=b/\b<=1000000)(h1':-1000000<=n/\n<=1000000):EV G (Tb B) 67 [rn a m,rn b n] []=some (vb (C9 a m b n),[]):=by
 refine aA rfl ?_;have q1:=nV (G:=G) (B:=B) a m h h';have q2:=nV (G:=G) (B:=B) b n h1 h1';by_cases h:a < b+n
 all_goals simp (disch:=omega) only[go_sem,h67c,q1,q2]
 all_goals simp[h,C9]
theorem dZ(e:Int):oH true e=0:=rfl
theorem eQ(e:Int):oH false e=e:=rfl
theorem bO(a b:Int):aQ [a,b]=if a=0 then b else a:=by
 by_cases h:a=0
 ·subst h;by_cases hb:b=0
  ·subst hb;rfl
  ·simp[aQ,hb]
 ·simp[aQ,h]
theorem uA{α β:Type}(f:α->Option β)(x:α):[x].mapM f=(f x).map fun c=>[c]:=by
 cases h:f x<;>simp[aW9,h]
theorem qM{id:Nat}{a b c d:aR}{st:AS}:fvT 2 id 0 [a,b] st (some (.box [c,d]))=some (⟨st.sl,st.hp.set id (.box [a,b])⟩,[id],[id]):=aKs rfl (by simp)
theorem pW{x:Bt}(h:x.num=false):fH x=2:=by simp[fH,h]
theorem sL{x:Bt}(h:x.ins=false):fH x=2:=by simp[fH,h]
theorem Hn{x:Bt}(h:x.num=true)(h':x.ins=true)(h2:x.fit=false):fH x=37:=by simp[fH,h,h',h2]
theorem Qm{x:Bt}(h:x.num=true)(h':x.ins=true)(h2:x.fit=true):fH x=oH x.cla 13:=by simp[fH,h,h',h2,oH]
theorem kT{x:Bt}:x.num=true↔(64<=x.cl/\x.cl<=512)/\x.lc.tmod 2=0/\(8<=x.lc/\x.lc<=64)/\(0<=x.se/\x.se<=2147483647):=by
 simp[Bt.num,and_assoc]
theorem oU{x:Bt}:x.ins=true↔(1<=x.tb/\x.tb<=x.cl - 2)/\(1<=x.mi/\x.mi<=x.cl - 2)/\(1<=x.lg/\x.lg<=x.cl - 2):=by
 simp[Bt.ins,Bt.inn,and_assoc]
theorem A1{x:Bt}:x.fit=true↔x.mi+8 < x.cl/\x.lg+x.lc < x.cl:=by simp[Bt.fit]
set_option maxHeartbeats 1000000 in
theorem Tw(x:Bt)(hn:x.num=false):EV G (Tb B) 12 [x.v] []=some (vi 2,[]):=by
 have w:=fun n lo hi=>jD (G:=G) (B:=B) n lo hi
 have u:=gS (G:=G) (B:=B);have f:=lV (G:=G) (B:=B);obtain⟨I,c⟩:∃ I:Int->Bool,∀ n,EV G (Tb B) 59 [vi n,.one (.ptr 0 0)] [x.o]=some (vb (I n),[x.o]):=⟨_,Hm x⟩;have e:¬ ((64<=x.cl/\x.cl<=512)/\x.lc.tmod 2=0/\(8<=x.lc/\x.lc<=64)/\(0<=x.se/\x.se<=2147483647)):=fun h=>by rw[<- kT,hn] at h;cases h
 refine aA rfl ?_;by_cases h1:64<=x.cl/\x.cl<=512
 ·by_cases h2:x.lc.tmod 2=0
  ·by_cases h3:8<=x.lc/\x.lc<=64
   ·have h4:¬ (0<=x.se/\x.se<=2147483647):=fun h4=>e ⟨h1,h2,h3,h4⟩
    cases i1:I x.tb
    all_goals cases i2:I x.mi
    all_goals simp (disch:=omega) only[go_sem,h12c,w,u,f,c,h1,h2,h3,h4,i1,i2,uA,gO,aWi,bO,dZ,eQ]
   ·cases i1:I x.tb
    all_goals cases i2:I x.mi
    all_goals simp (disch:=omega) only[go_sem,h12c,w,u,f,c,h1,h2,h3,i1,i2,uA,gO,aWi,bO,dZ,eQ]
  ·cases i1:I x.tb
   all_goals cases i2:I x.mi
   all_goals simp (disch:=omega) only[go_sem,h12c,w,u,f,c,h1,h2,i1,i2,uA,gO,aWi,bO,dZ,eQ]
 ·cases i1:I x.tb
  all_goals cases i2:I x.mi
  all_goals simp (disch:=omega) only[go_sem,h12c,w,u,f,c,h1,i1,i2,uA,gO,aWi,bO,dZ,eQ]
set_option maxHeartbeats 1000000 in
theorem Tx(x:Bt)(hn:x.num=true)(hi:x.ins=false):EV G (Tb B) 12 [x.v] []=some (vi 2,[]):=by
 have w:=fun n lo hi=>jD (G:=G) (B:=B) n lo hi
 have u:=gS (G:=G) (B:=B);have f:=lV (G:=G) (B:=B);obtain⟨h1,h2,h3,h4⟩:=kT.1 hn;have c:∀ n,EV G (Tb B) 59 [vi n,.one (.ptr 0 0)] [x.o]=some (vb (x.inn n),[x.o]):=fun n=>by
  rw[Hm,Bk (by omega)];rfl
 have e:x.inn x.tb=true->x.inn x.mi=true->x.inn x.lg=false:=fun a b=>by
  cases d:x.inn x.lg
  ·rfl
  ·rw[Bt.ins,a,b,d] at hi;cases hi
 refine aA rfl ?_;cases i1:x.inn x.tb
 ·simp (disch:=omega) only[go_sem,h12c,w,u,f,c,h1,h2,h3,h4,uA,gO,aWi,bO,dZ,eQ,i1]
 ·cases i2:x.inn x.mi
  ·simp (disch:=omega) only[go_sem,h12c,w,u,f,c,h1,h2,h3,h4,uA,gO,aWi,bO,dZ,eQ,i1,i2]
  ·have i3:=e i1 i2;simp (disch:=omega) only[go_sem,h12c,w,u,f,c,h1,h2,h3,h4,uA,gO,aWi,bO,dZ,eQ,i1,i2,i3]
set_option maxHeartbeats 2000000 in
theorem aAF(x:Bt)(hn:x.num=true)(hi:x.ins=true):EV G (Tb B) 12 [x.v] []=some (vi (fH x),[]):=by
 have w:=fun n lo hi=>jD (G:=G) (B:=B) n lo hi
 have u:=gS (G:=G) (B:=B);have f:=lV (G:=G) (B:=B);have cb:=aJl (G:=G) (B:=B) x;have cm:=tH (G:=G) (B:=B) x;have cl:=Tv (G:=G) (B:=B) x;obtain⟨h1,h2,h3,h4⟩:=kT.1 hn;obtain⟨k1,k2,k3⟩:=oU.1 hi;have c:∀ n,EV G (Tb B) 59 [vi n,.one (.ptr 0 0)] [x.o]=some (vb (x.inn n),[x.o]):=fun n=>by
  rw[Hm,Bk (by omega)];rfl
 have i1:x.inn x.tb=true:=by simp[Bt.inn,k1]
 have i2:x.inn x.mi=true:=by simp[Bt.inn,k2]
 have i3:x.inn x.lg=true:=by simp[Bt.inn,k3]
 have b1:=nV (G:=G) (B:=B) x.mi 8 (by omega) (by omega);have b2:=nV (G:=G) (B:=B) x.lg x.lc (by omega) (by omega);have m1:=A0 (G:=G) (B:=B) x.tb 2 x.mi 8 (by omega) (by omega) (by omega) (by omega);have m2:=A0 (G:=G) (B:=B) x.tb 2 x.lg x.lc (by omega) (by omega) (by omega) (by omega);have m3:=A0 (G:=G) (B:=B) x.mi 8 x.lg x.lc (by omega) (by omega) (by omega) (by omega);have e:fH x=if oH x.fit 37=0 then oH x.cla 13 else oH x.fit 37:=by
  cases hf:x.fit<;>simp[fH,hn,hi,hf,oH]
 rw[e];have d:x.fit=(decide (x.mi+8 < x.cl)&&decide (x.lg+x.lc < x.cl)):=rfl;have d':x.cla=(!C9 x.tb 2 x.mi 8&&!C9 x.tb 2 x.lg x.lc&&!C9 x.mi 8 x.lg x.lc):=rfl;generalize C9 x.tb 2 x.mi 8=M1 at m1 d';generalize C9 x.tb 2 x.lg x.lc=M2 at m2 d';generalize C9 x.mi 8 x.lg x.lc=M3 at m3 d';rw[d,d'];have fin:∀ J:Bool,(decide (x.mi+8 < x.cl)&&decide (x.lg+x.lc < x.cl))=J->Br h12.own h12.rs 0 (EC (EV G (Tb B)) G h12.code ⟨[x.v]++qS (h12.nt - 1),[]⟩)=some (vi (if oH J 37=0 then oH (!M1&&!M2&&!M3) 13 else oH J 37),[]):=by
  intro J hJ;by_cases j1:x.mi+8 < x.cl
  ·by_cases j2:x.lg+x.lc < x.cl
   ·have j:J=true:=by rw[<- hJ];simp[j1,j2]
    subst j;cases M1
    ·cases M2
     ·simp (disch:=omega) only[go_sem,h12c,w,u,f,c,h1,h2,h3,h4,uA,gO,aWi,bO,dZ,eQ,i1,i2,i3,cb,cm,cl,b1,b2,qM,m1,m2,m3,j1,j2,aWS,aWO,aWN,aWU]
     ·simp (disch:=omega) only[go_sem,h12c,w,u,f,c,h1,h2,h3,h4,uA,gO,aWi,bO,dZ,eQ,i1,i2,i3,cb,cm,cl,b1,b2,qM,m1,m2,m3,j1,j2,aWS,aWO,aWN,aWU]
    ·simp (disch:=omega) only[go_sem,h12c,w,u,f,c,h1,h2,h3,h4,uA,gO,aWi,bO,dZ,eQ,i1,i2,i3,cb,cm,cl,b1,b2,qM,m1,m2,m3,j1,j2,aWS,aWO,aWN,aWU]
   ·have j:J=false:=by rw[<- hJ];simp[j2]
    subst j;cases M1
    ·cases M2
     ·simp (disch:=omega) only[go_sem,h12c,w,u,f,c,h1,h2,h3,h4,uA,gO,aWi,bO,dZ,eQ,i1,i2,i3,cb,cm,cl,b1,b2,qM,m1,m2,m3,j1,j2,aWS,aWO]
     ·simp (disch:=omega) only[go_sem,h12c,w,u,f,c,h1,h2,h3,h4,uA,gO,aWi,bO,dZ,eQ,i1,i2,i3,cb,cm,cl,b1,b2,qM,m1,m2,m3,j1,j2,aWS,aWO]
    ·simp (disch:=omega) only[go_sem,h12c,w,u,f,c,h1,h2,h3,h4,uA,gO,aWi,bO,dZ,eQ,i1,i2,i3,cb,cm,cl,b1,b2,qM,m1,m2,m3,j1,j2,aWS,aWO]
  ·have j:J=false:=by rw[<- hJ];simp[j1]
   subst j;cases M1
   ·cases M2
    ·simp (disch:=omega) only[go_sem,h12c,w,u,f,c,h1,h2,h3,h4,uA,gO,aWi,bO,dZ,eQ,i1,i2,i3,cb,cm,cl,b1,b2,qM,m1,m2,m3,j1,aWS,aWO]
    ·simp (disch:=omega) only[go_sem,h12c,w,u,f,c,h1,h2,h3,h4,uA,gO,aWi,bO,dZ,eQ,i1,i2,i3,cb,cm,cl,b1,b2,qM,m1,m2,m3,j1,aWS,aWO]
   ·simp (disch:=omega) only[go_sem,h12c,w,u,f,c,h1,h2,h3,h4,uA,gO,aWi,bO,dZ,eQ,i1,i2,i3,cb,cm,cl,b1,b2,qM,m1,m2,m3,j1,aWS,aWO]
 exact aA rfl (fin _ rfl)
theorem lW(x:Bt):EV G (Tb B) 12 [x.v] []=some (vi (fH x),[]):=by
 cases hn:x.num with
 | false=>rw[pW hn];exact Tw x hn
 | true=>cases hi:x.ins with
  | false=>rw[sL hi];exact Tx x hn hi
  | true=>exact aAF x hn hi
end
end Go.Proofs.YthepfneloomngaaGreatDoor
