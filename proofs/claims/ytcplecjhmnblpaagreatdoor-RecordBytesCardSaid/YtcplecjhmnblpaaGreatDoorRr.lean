/- The laws RecordBytes and RecordBack answer true. Conditions: as each theorem says. -/
import Derived.Test.YtcplecjhmnblpaaGreatDoorSq
import Derived.Test.YtcplecjhmnblpaaGreatDoorSz
import Derived.Test.YtcplecjhmnblpaaGreatDoorRk
import Derived.Test.YtcplecjhmnblpaaGreatDoorTf
import Derived.Test.YtcplecjhmnblpaaGreatDoorUy
import Derived.Test.YtcplecjhmnblpaaGreatDoorTx
import Derived.Test.YtcplecjhmnblpaaGreatDoorWb
namespace Go.Proofs.YtcplecjhmnblpaaGreatDoor
set_option linter.unusedSimpArgs false
set_option linter.unusedVariables false
set_option maxRecDepth 4000
section
variable {G:aH} {bb:Bool}
abbrev bZ.uv(r:bZ)(u:Int):AV:=.agg (r.c++[.dc (ci u)])
theorem aCl(p:bZ × Int)(u:Int)(h:aC6 p)(w:bZ)(hw:p.2=0->w=p.1):EV G (Tb (iM bb)) 49 [p.1.uv u,vi p.2,w.uv u,vi p.2] []=some (vb true,[]):=by
 refine aB rfl ?_;have q:=aKy (G:=G) (bb:=bb) p h w hw;obtain⟨r,e⟩:=p;dsimp only at q ⊢;simp (disch:=omega) only[go_sem,h49c,q,aQy,aQv]
end
section
variable {G:aH} {bb:Bool}
def Dh:List (List DC)->Option (List ByteArray)
 | []=>some []
 | [.raw (.string s)]::es=>(Dh es).map (s::·)
 | _::_=>none
theorem Fk:∀ {es:List (List DC)} {xs:List ByteArray},Dh es=some xs->es=xs.map zI
 | [],xs,h=>by simp[Dh] at h;subst h;rfl
 | e::es,xs,h=>by
  unfold Dh at h;split at h
  ·rename_i h0;cases h0
  ·rename_i s es' h0;injection h0 with h1 h2
   subst h1;subst h2;obtain⟨ys,h3,h4⟩:=Option.map_eq_some_iff.1 h;subst h4;rw[Fk h3];rfl
  ·cases h
theorem aB4(xs:List ByteArray):Dh (xs.map zI)=some xs:=by
 induction xs with
 | nil=>rfl
 | cons x xs ih=>rw[aQo,zI,Dh,ih];rfl
def aB5(sep:ByteArray):Option (List ByteArray)->Option (AV × List aC)
 | some xs=>if xs.length<=1000/\(Lib.join (xs.map (·.data.toList)) sep.data.toList).length<=1000000 then some (.one (.dc (.raw (.string (Lx xs sep)))),[]) else none
 | none=>none
def Sg:List AV->List aC->Option (AV × List aC)
 | [.one (.dc (.slc es)),.one (.dc (.raw (.string sep)))],[]=>aB5 sep (Dh es)
 | _,_=>none
noncomputable def jH(_:aH)(b:Bool):aW:=fun f args hp=>if f=100 then Sg args hp else iM b f args hp
theorem aJV{b:Bool}(hA:b=true->QC Tryz.prog G 11 [] (.one (.dc (.raw (.bool true))))):cE Tryz.prog G (jH G b):=by
 intro f args hp av o' h hp0 hh;unfold jH at h;split at h
 ·rename_i hf;subst hf;refine⟨by kernel_rfl, ?_⟩;unfold Sg at h;split at h
  ·rename_i es sep;unfold aB5 at h;split at h
   ·rename_i xs hxs;split at h
    ·rename_i hc;injection h with h;injection h with h1 h2;subst h1;subst h2
     have:hp0=[]:=by simpa using hh
     subst this;rw[Fk hxs];exact (aFP (G:=G) (by omega) (by omega)).gh (fun a o ⟨h1,h2⟩ _=>⟨a,o,Gh.refl,aQD _,h1,by rw[h2];rfl⟩)
    ·cases h
   ·cases h
  ·cases h
 ·exact N6 hA f args hp av o' h hp0 hh
theorem aFU{b:Bool}(f:FuncId)(args:List AV)(hp:List aC)(r:AV × List aC)(h:iM b f args hp=some r):jH G b f args hp=some r:=by
 have hn:iM b 100 args hp=none:=rfl;unfold jH;split
 ·rename_i hf;subst hf;rw[hn] at h;cases h
 ·exact h
theorem mC{b:Bool}{f:FuncId}{a:List AV}{hp:List aC}{r:AV × List aC}(h:EV G (Tb (iM b)) f a hp=some r):EV G (Tb (jH G b)) f a hp=some r:=
 aGJ (T:=Tb (iM b)) (T':=Tb (jH G b)) (fun _=>rfl) (fun f a hp r _ h=>aFU (G:=G) f a hp r h) h
theorem Fl:∀ L:List (List UInt8),([]:List UInt8).intercalate L=L.flatten
 | []=>rfl
 | [x]=>by simp[List.intercalate]
 | x::y::l=>by
  have:=Fl (y::l);simp[List.intercalate,List.intersperse] at this ⊢;exact this
theorem aB6(ps:List (List Int)):Lx (ps.map eG) ⟨#[]⟩=eG ps.flatten:=by
 have key:Lib.join ((ps.map eG).map (·.data.toList)) []=ps.flatten.map u8:=by
  unfold Lib.join;rw[Fl,aQC,List.map_flatten];congr 1
 unfold Lx;show (⟨(Lib.join ((ps.map eG).map (·.data.toList)) []).toArray⟩:ByteArray)=_;rw[key];rfl
theorem aFV(ps:List (List Int))(h1:ps.length<=1000)(h2:ps.flatten.length<=1000000):EV G (Tb (jH G bb)) 100 [vl (ps.map nP),.one (.dc (.raw (.string ⟨#[]⟩)))] []=some (sv ps.flatten,[]):=by
 refine jE rfl ?_;show jH G bb 100 [vl (ps.map nP),.one (.dc (.raw (.string ⟨#[]⟩)))] []=_;unfold jH;rw[if_pos rfl];have e:ps.map nP=(ps.map eG).map zI:=by rw[aQC];rfl
 have e2:(Lib.join ((ps.map eG).map (·.data.toList)) (⟨#[]⟩:ByteArray).data.toList).length=ps.flatten.length:=by
  have:=congrArg ByteArray.size (aB6 ps);rw[aL] at this;simpa[Lx,ByteArray.size] using this
 show Sg [vl (ps.map nP),.one (.dc (.raw (.string ⟨#[]⟩)))] []=_;unfold Sg;simp only;rw[e,aB4];unfold aB5;simp only;rw[if_pos ⟨by rw[aQb];exact h1,by rw[e2];exact h2⟩,aB6]
end
section
variable {G:aH} {bb:Bool}
theorem aFW:cE Tryz.prog GF (jH GF true):=aJV fun _=>aBT aJT
theorem aNj{f:FuncId}{args:List AV}{r:AV}(h:EV GF (Tb (jH GF true)) f args []=some (r,[])):QC Tryz.prog GF f args r:=Qq (J0 (jH GF true)) aFW h
theorem aB7{m:Nat}{av:AV}(h:V1 Tryz.prog (m+1) 9 av):∃ l:List Int,av=sv l/\aM l/\l.length<=9223372036854775807:=by
 obtain⟨s,rfl,hs⟩:=O1 Tryz.underlying9 h;obtain⟨l,h1,rfl⟩:=Q3 s;rw[aL] at hs;exact⟨l,rfl,h1,by unfold maxLen at hs;omega⟩
theorem aJW:Tryz.prog.cellsOf 63=9:=by kernel_rfl
theorem aFX:Tryz.prog.cellsOf 26=8:=by kernel_rfl
theorem aFY{m:Nat}{av:AV}(h:V1 Tryz.prog (m+8) 63 av):∃ (r:bZ) (u:Int),av=r.u u/\r.In:=by
 obtain⟨ds,rfl,h2⟩:=Lw (by kernel_rfl) h;rw[iA,Tryz.underlying63] at h2;obtain⟨hl,hf⟩:=h2;rw[aJW] at hl;have h0:iA Tryz.prog (m+7) 26 (ds.take 8):=by
  have h:iA Tryz.prog (m+7) 26 ((ds.drop 0).take (Tryz.prog.cellsOf 26)):=hf 0 _ rfl;rw[aFX] at h;exact h
 have h1:iA Tryz.prog (m+7) 3 ((ds.drop 8).take 1):=by
  have h:iA Tryz.prog (m+7) 3 ((ds.drop 8).take (Tryz.prog.cellsOf 3)):=hf 1 _ rfl;rw[iG] at h;exact h
 obtain⟨r,e,hr⟩:=Se h0;have e2:ds=ds.take 8++(ds.drop 8).take 1:=by
  rw[aQM (l:=ds.drop 8) (by rw[aQr,hl];decide),aRy]
 have hl1:((ds.drop 8).take 1).length=1:=by rw[aQj,aQr,hl];rfl
 match hx:(ds.drop 8).take 1,hl1 with
 | [x],_=>
  rw[hx] at h1 e2;obtain⟨u,rfl,_⟩:=kZ (m:=m+6) h1;rw[e] at e2;subst e2;exact⟨r,u,rfl,hr⟩
abbrev aJX:Value:=.agg #[.int .i64 0,.int .i64 0,.int .i64 0,.int .i64 0,.int .i64 0,.int .i64 0,.int .i64 0,.slice none 0 0,.int .i64 0]
end
section
variable {G:aH} {bb:Bool}
theorem Al(s t:List Int)(a:Nat)(h:a+t.length<=s.length)(hl:s.length<=1000000):EV G (Tb (bs bb)) 161 [sv s,vi a,sv t] []=some (sv (kH s a t),[]):=by
 refine aB rfl ?_;have e:((a:Int)+(t.length:Int)).toNat=a+t.length:=by omega
 unfold kH;simp (disch:=first | omega | (simp only[aQc,aQd,aQe,aQb,aA,aQk,aQj,aQr,aL,bD]<;>omega) | fail) only[go_sem,h161c,aL,aQN,Int.toNat_zero,aQ9,e,aQj,aQr]
theorem aJY(s:List Int)(n:Int)(hs:s.length=512)(hn:0<=n/\n<=9223372036854775807):EV G (Tb (bs bb)) 159 [sv s,vi n] []=some (sv (lR s n 8),[]):=by
 refine aB rfl ?_;have q0:=kT (G:=G) (bb:=bb) n hn;simp (disch:=first | omega | (simp only[aQc,aQd,aQe,aQb,aA,aQk,aQj,aQr,aL,bD]<;>omega) | fail) only[go_sem,h159c,q0]
 rw[bG (fun k=>⟨(sv (uL s n k).2::vi n::jk 3 (sv (uL s n k).1::vi ((k:Int)+1)::jk 25 [])),[]⟩) 8 ?_ ?_]
 ·obtain⟨l1,l2,_,_⟩:=Rt (n:=n) hs 8 (by omega);have q1:EV G (Tb (bs bb)) 161 [sv (uL s n 8).2,vi 40,sv (uL s n 8).1] []=some (sv (kH (uL s n 8).2 40 (uL s n 8).1),[]):=Al (G:=G) (bb:=bb) (uL s n 8).2 (uL s n 8).1 40 (by omega) (by omega);rw[aFp hs] at q1;simp (disch:=first | omega | (simp only[aQc,aQd,aQe,aQb,aA,aQk,aQj,aQr,aL,bD]<;>omega) | fail) only[go_sem,h159l0,q1]
 ·rfl
 ·intro k hk;obtain⟨l1,l2,_,_⟩:=Rt (n:=n) hs k (by omega);have hL:uL s n (k+1)=((uL s n k).1++gC (uL s n k).2 (64 * k+62),kH (uL s n k).2 (64 * k+62) (bU n 2)):=rfl;rw[hL];have q1:=Al (G:=G) (bb:=bb) (uL s n k).2 (bU n 2) (64 * k+62) (by rw[aA];omega) (by omega);have e1:((k:Int)+1) * 64 - 2=((64 * k+62:Nat):Int):=by omega
  have hm:64 * k+62+2<=512:=by omega
  generalize 64 * k+62=m at *;have e2:((m:Int)+2).toNat=m+2:=by omega
  generalize uL s n k=z at *;obtain⟨z1,z2⟩:=z;dsimp only at *;have e3:(z2.take (m+2)).drop m=gC z2 m:=by rw[List.drop_take,aRv]
  simp (disch:=first | omega | (simp only[aQc,aQd,aQe,aQb,aA,aQk,aQj,aQr,aL,bD]<;>omega) | fail) only[go_sem,h159l0,e1,q0,q1,e2,e3,aQN]
theorem aB8{s:List Int}(hB:aM s){a b:Nat}(ha:a+2<=s.length)(hb:b+2<=s.length):gL s a 2=gL s b 2↔gC s a=gC s b:=by
 rw[Oi ha,Oi hb,jS ha,jS hb];have h1:=nZ hB a;have h2:=nZ hB (a+1);have h3:=nZ hB b;have h4:=nZ hB (b+1);constructor
 ·intro h;have e1:s.getD a 0=s.getD b 0:=by omega
  have e2:s.getD (a+1) 0=s.getD (b+1) 0:=by omega
  rw[e1,e2]
 ·intro h;injection h with h h'
  injection h' with h' _
  rw[h,h']
open Classical in
theorem aFZ(s:List Int)(hs:s.length=512)(hB:aM s):EV G (Tb (bs bb)) 107 [sv s] []=some (if eP s then .tup [.one (.dc (.raw (.string (eG (dN s))))),.one (.dc (.raw (.bool true)))] else .tup [.one (.dc (.raw (.string (eG [])))),.one (.dc (.raw (.bool false)))],[]):=by
 refine aB rfl ?_;have q0:EV G (Tb (bs bb)) 57 [sv s,vi 40,vi 2] []=some (vi (dU s),[]):=cK (G:=G) (bb:=bb) s hB 40 2 (by omega) (by omega) (by omega);have qz:EV G (Tb (bs bb)) 93 [vi 18] []=some (sv (zl 18),[]):=kU (G:=G) (bb:=bb) 18 (by decide);have q1:EV G (Tb (bs bb)) 161 [sv s,vi 40,sv (zl 18)] []=some (sv (Oh s 0),[]):=Al (G:=G) (bb:=bb) s (zl 18) 40 (by rw[bD];omega) (by omega);have hE:eP s↔∀ i,i < 8->¬ (dU s=0\/gL s (64 * i+62) 2≠dU s):=by
  unfold eP dU;constructor
  ·rintro⟨h1,h2⟩ i hi h;rcases h with h | h
   ·exact h1 h
   ·exact h ((aB8 hB (by omega) (by omega)).2 (h2 i hi))
  ·intro h;refine⟨fun h0=>h 0 (by decide) (.inl h0),fun i hi=>?_⟩
   exact (aB8 hB (by omega) (by omega)).1 (Classical.byContradiction fun h1=>h i hi (.inr h1))
 simp (disch:=first | omega | (simp only[aQc,aQd,aQe,aQb,aA,aQk,aQj,aQr,aL,bD]<;>omega) | fail) only[go_sem,h107c,q0,qz,q1]
 rw[gA (fun k=>⟨(sv s::jk 3 (vi (dU s)::sv (Oh s k)::vi ((k:Int)+1)::jk 35 [])),[]⟩) (fun i=>dU s=0\/gL s (64 * i+62) 2≠dU s) 8 ?_ ?_]
 rotate_left
 ·rfl
 ·intro k hk hn;have h1:=hn k (aQf _);have u0:¬ dU s=0:=fun h=>h1 (.inl h)
  have u1:gL s (64 * k+62) 2=dU s:=Classical.byContradiction fun h=>h1 (.inr h)
  clear h1 hn hE;have q2:EV G (Tb (bs bb)) 57 [sv s,vi ((64 * k+62:Nat):Int),vi 2] []=some (vi (gL s (64 * k+62) 2),[]):=cK (G:=G) (bb:=bb) s hB (64 * k+62) 2 (by omega) (by omega) (by omega);rw[u1] at q2;have hl:=(aBv hs k (by omega)).1;have hc:=jP (s:=s) (a:=42+2 * k) (by omega);have q3:=Al (G:=G) (bb:=bb) (Oh s k) (gC s (42+2 * k)) (64 * k+62) (by omega) (by omega);have hL:Oh s (k+1)=kH (Oh s k) (64 * k+62) (gC s (42+2 * k)):=rfl;rw[<- hL] at q3;have e1:((k:Int)+1) * 64 - 2=((64 * k+62:Nat):Int):=by omega
  have e2:40+2 * ((k:Int)+1)=((42+2 * k:Nat):Int):=by omega
  have e3:(s.take (42+2 * k+2)).drop (42+2 * k)=gC s (42+2 * k):=by rw[List.drop_take,aRv]
  have hm:42+2 * k+2<=512:=by omega
  generalize dU s=w at *;generalize 64 * k+62=m at *;generalize 42+2 * k=c at *;have e4:((c:Int)+2).toNat=c+2:=by omega
  generalize gC s c=y at *;generalize Oh s (k+1)=z' at *;generalize Oh s k=z at *;simp (disch:=first | omega | (simp only[aQc,aQd,aQe,aQb,aA,aQk,aQj,aQr,aL,bD]<;>omega) | fail) only[go_sem,h107l0,e1,e2,q2,q3,u0,e3,e4,aQN]
 obtain⟨hk,hp,hn⟩:=bW (fun i=>dU s=0\/gL s (64 * i+62) 2≠dU s) 8
 generalize ix (fun i=>dU s=0\/gL s (64 * i+62) 2≠dU s) 8=k at *
 rcases hp with rfl | ⟨hk',hp⟩
 ·rw[if_pos (hE.2 hn),<- aFq hs];simp (disch:=first | omega | (simp only[aQc,aQd,aQe,aQb,aA,aQk,aQj,aQr,aL,bD]<;>omega) | fail) only[go_sem,h107l0]
 ·rw[if_neg (fun h=>hE.1 h k hk' hp)]
  clear hn hE;have q2:EV G (Tb (bs bb)) 57 [sv s,vi ((64 * k+62:Nat):Int),vi 2] []=some (vi (gL s (64 * k+62) 2),[]):=cK (G:=G) (bb:=bb) s hB (64 * k+62) 2 (by omega) (by omega) (by omega);have e1:((k:Int)+1) * 64 - 2=((64 * k+62:Nat):Int):=by omega
  generalize gL s (64 * k+62) 2=g at *;generalize dU s=w at *;generalize 64 * k+62=m at *;by_cases u0:w=0
  ·simp (disch:=first | omega | (simp only[aQc,aQd,aQe,aQb,aA,aQk,aQj,aQr,aL,bD]<;>omega) | fail) only[go_sem,h107l0,e1,eq_true u0]
   all_goals rfl
  ·have u1:¬ g=w:=by rcases hp with h | h;exact absurd h u0;exact h
   simp (disch:=first | omega | (simp only[aQc,aQd,aQe,aQb,aA,aQk,aQj,aQr,aL,bD]<;>omega) | fail) only[go_sem,h107l0,e1,q2,u0,u1]
   all_goals rfl
end
section
variable {G:aH} {bb:Bool}
structure aPf (r:bZ) (u:Int):Prop where
 ls:0<=r.ls/\r.ls<=9223372036854775807
 sq:0<=r.sq/\r.sq<=9223372036854775807
 li:0<=r.li/\r.li<=9223372036854775807
 fl:0<=r.fl/\r.fl<=9223372036854775807
 br:0<=r.br/\r.br<=9223372036854775807
 bq:0<=r.bq/\r.bq<=9223372036854775807
 nx:0<=r.nx/\r.nx<=9223372036854775807
 us:0<=u/\u<=9223372036854775807
abbrev fds(r:bZ)(u:Int):AV:=.agg [.dc (ci r.ls),.dc (ci r.sq),.dc (ci r.li),.dc (ci r.fl),.dc (ci u),.dc (ci r.br),.dc (ci r.bq),.dc (ci r.nx)]
set_option maxHeartbeats 4000000 in
theorem L1(r:bZ)(u:Int)(hN:aPf r u)(b:List Int)(hb:b.length<=444)(n:Int)(hn:0<=n/\n<=9223372036854775807):
  EV G (Tb (iM bb)) 104 [fds r u,sv b,vi n] []=some (sv (lR (gS r u b) n 8),[]):=by
 refine aB rfl ?_;have z4:EV G (Tb (iM bb)) 93 [vi 4] []=some (sv (zl 4),[]):=up (kU (G:=G) (bb:=bb) 4 (by decide));have z24:EV G (Tb (iM bb)) 93 [vi 24] []=some (sv (zl 24),[]):=up (kU (G:=G) (bb:=bb) 24 (by decide));have zr:EV G (Tb (iM bb)) 93 [vi ((444 - b.length:Nat):Int)] []=some (sv (zl (444 - b.length)),[]):=up (kU (G:=G) (bb:=bb) (444 - b.length) (by omega));have k1:=up (nW (G:=G) (bb:=bb) r.ls hN.ls);have k2:=up (kT (G:=G) (bb:=bb) r.sq hN.sq);have k3:=up (kT (G:=G) (bb:=bb) r.li hN.li);have k4:=up (kT (G:=G) (bb:=bb) 64 (by decide));have k5:=up (kT (G:=G) (bb:=bb) r.fl hN.fl);have k6:=up (nW (G:=G) (bb:=bb) u hN.us);have k7:=up (nW (G:=G) (bb:=bb) 512 (by decide));have k8:=up (nW (G:=G) (bb:=bb) r.br hN.br);have k9:=up (kT (G:=G) (bb:=bb) r.bq hN.bq);have k10:=up (kT (G:=G) (bb:=bb) r.nx hN.nx);have p:=up (aJY (G:=G) (bb:=bb) (gS r u b) n (qH r u b hb) hn);obtain⟨H,hH⟩:∃ H:List Int,H=[70,73,76,69]:=⟨_,rfl⟩;have e1:(⟨#[70,73,76,69]⟩:ByteArray)=eG H:=by rw[hH];rfl
 have lH:H.length=4:=by rw[hH];rfl
 have e2:(⟨#[255,255,255,255]⟩:ByteArray)=eG pP:=rfl;have lf:pP.length=4:=rfl;have lb:=qH r u b hb;have hB:eG (H++(zl 4++(bU r.ls 4++(zl 4++(bU r.sq 2++(bU r.li 2++(bU 64 2++(bU r.fl 2++(bU u 4++(bU 512 4++(bU r.br 4++(bU r.bq 2++(bU r.nx 2++(zl 24++(b++(pP++zl (444 - b.length)))))))))))))))))=eG (gS r u b):=by
  rw[hH];unfold gS rhd;simp only[aQs]
 have e3:(64:Int) - ((H++(zl 4++(bU r.ls 4++(zl 4++(bU r.sq 2++(bU r.li 2++(bU 64 2++(bU r.fl 2++(bU u 4++(bU 512 4++(bU r.br 4++(bU r.bq 2++bU r.nx 2)))))))))))).length:Int)=24:=by
  simp only[aQc,aA,bD,lH];omega
 have e4:(512:Int) - ((H++(zl 4++(bU r.ls 4++(zl 4++(bU r.sq 2++(bU r.li 2++(bU 64 2++(bU r.fl 2++(bU u 4++(bU 512 4++(bU r.br 4++(bU r.bq 2++(bU r.nx 2++(zl 24++(b++pP))))))))))))))).length:Int)=((444 - b.length:Nat):Int):=by
  simp only[aQc,aA,bD,lH,lf];omega
 clear hH;generalize gS r u b=X at *;simp (maxSteps:=2000000) (disch:=first | omega | (simp only[aQc,aQd,aQe,aQb,aA,aQk,aQj,aQr,aL,bD,lH,lf]<;>omega) | fail) only[go_sem,h104c,z4,z24,zr,k1,k2,k3,k4,k5,k6,k7,k8,k9,k10,p,e1,e2,e3,e4,aQs,hB,aL]
set_option maxHeartbeats 4000000 in
theorem Sh(r:bZ)(hW:r.W)(h:dG r=0)(n:Int)(hn:0<=n/\n<=9223372036854775807):EV G (Tb (iM bb)) 44 [r.v,vi n] []=some (sv (iO r n),[]):=by
 refine aB rfl ?_;have hO:=kX h;have hla:=wN hO;have hln:=hO.ln;simp (disch:=omega) only[go_sem,h44c];rw[bG (fun k=>⟨(jk 1 (vi n::.one (.ptr 0 0)::jk 2 (sv (((r.ats.take k).map eQ).flatten)::vi k::jk 39 []))),[.box r.c]⟩) r.ats.length ?_ ?_]
 ·obtain⟨n1,n2,n3,n4,n5⟩:=hO.num;obtain⟨n6,n7⟩:=hO.base;have q:=L1 (G:=G) (bb:=bb) r (68+(fF r).length) ⟨by omega,by omega,by omega,by omega,by omega,by omega,by omega,by omega⟩ (fF r) (by omega) n hn;have e:((r.ats.take r.ats.length).map eQ).flatten=fF r:=by rw[aQR];rfl
  have e2:(64:Int)+((fF r).length:Int)+4=68+((fF r).length:Int):=by omega
  rw[e];unfold iO;generalize fF r=b at *;simp (maxSteps:=2000000) (disch:=first | omega | (simp only[aQc,aQd,aQe,aQb,aA,aQk,aQj,aQr,aL,bD]<;>omega) | fail) only[go_sem,h44l0,aQb,e2,q,aL]
 ·rfl
 ·intro k hk;have hok:=hO.errs.1 _ (aQm hk);have hWk:=hW.at' _ (aQm hk);have q:=up (Cc (G:=G) (bb:=bb) r.ats[k] (nX hWk hok));rw[<- (wL hWk hok).1] at q;have e:((r.ats.take (k+1)).map eQ).flatten=((r.ats.take k).map eQ).flatten++eQ r.ats[k]:=by
   rw[aRb hk,aQL,List.flatten_append];simp
  have hb:(((r.ats.take k).map eQ).flatten).length+(eQ r.ats[k]).length<=440:=by
   rw[<- aQc,<- e];have:r.ats=r.ats.take (k+1)++r.ats.drop (k+1):=(aRy _ _).symm;have e3:fF r=((r.ats.take (k+1)).map eQ).flatten++((r.ats.drop (k+1)).map eQ).flatten:=by
    unfold fF
    conv=>lhs;rw[this]
    rw[aQL,List.flatten_append]
   rw[e3,aQc] at hla;omega
  rw[e];generalize ((r.ats.take k).map eQ).flatten=C at *;generalize eQ r.ats[k]=E at *;have ix:=ixA r.ats k hk;generalize r.ats[k]=x at *;simp (maxSteps:=2000000) (disch:=first | omega | (simp only[aQc,aQd,aQe,aQb,aA,aQk,aQj,aQr,aL,bD]<;>omega) | fail) only[go_sem,h44l0,aQb,ix,aE.e,q,aL]
end
section
variable {G:aH} {bb:Bool}
abbrev dcv(p:bZ × Int × Int):AV:=.tup [.agg (p.1.c++[.dc (ci p.2.1)]),.one (.dc (ci p.2.2))]
end
section
variable {G:aH} {bb:Bool}
theorem Di:∀ ps:List (List Int),(∀ p∈ps,(bH p).2=0)->gO ps=(ps.map fun p=>(bH p).1,0)
 | [],_=>rfl
 | p::t,h=>by
  have h1:=h p aQt;have ih:=Di t (fun q hq=>h q (aQE _ hq))
  rw[gO,if_neg (not_not_intro h1),ih];simp
theorem Dj:∀ (ps:List (List Int)) (k:Nat),k < ps.length->(∀ j,j < k->(bH (ps.getD j [])).2=0)->(bH (ps.getD k [])).2≠0->gO ps=([],(bH (ps.getD k [])).2)
 | [],k,hk,_,_=>by simp at hk
 | p::t,0,_,_,h=>by
  have h':(bH p).2≠0:=h;rw[gO,if_pos h'];rfl
 | p::t,k+1,hk,hj,h=>by
  have h0:(bH p).2=0:=hj 0 (by omega);have ih:=Dj t k (by simpa using hk) (fun j hj'=>hj (j+1) (by omega)) h
  have h':(bH (t.getD k [])).2≠0:=h;rw[gO,if_neg (not_not_intro h0),ih,if_pos h'];rfl
theorem tG{l:List Int}(hB:aM l)(a k:Nat)(h:a+k<=l.length)(hk:k<=4):0<=gL l a k/\gL l a k<=4294967295:=by
 have h1:=lE hB a k hk;have:(256:Int) ^ k<=256 ^ 4:=by
  rcases k with _ | _ | _ | _ | _ | k<;>first | decide | omega
 omega
theorem aJZ{o:List Int}(ho:o.length=512)(hB:aM o)(l:List aE):aJI (dA o l):=by
 have h1:=tG hB 16 2 (by omega) (by omega);have h2:=tG hB 18 2 (by omega) (by omega);have h3:=tG hB 22 2 (by omega) (by omega);have h4:=tG hB 32 4 (by omega) (by omega);have h5:=tG hB 36 2 (by omega) (by omega);have h6:=tG hB 38 2 (by omega) (by omega);have h7:=tG hB 8 4 (by omega) (by omega);refine⟨?_, ?_, ?_, ?_, ?_, ?_, ?_⟩<;>simp only[dA]<;>omega
abbrev r9(o:List Int):List aR:=[.dc (ci (gL o 16 2)),.dc (ci (gL o 18 2)),.dc (ci (gL o 22 2)),.dc (ci (gL o 32 4)),.dc (ci (gL o 36 2)),.dc (ci (gL o 38 2)),.dc (ci (gL o 8 4))]
abbrev z9:List aR:=[.dc (ci 0),.dc (ci 0),.dc (ci 0),.dc (ci 0),.dc (ci 0),.dc (ci 0),.dc (ci 0),.dc (.raw (.slice none 0 0)),.dc (ci 0)]
noncomputable def L2(o:List Int)(u:Int)(d:List aE × Int):bZ × Int × Int:=if d.2≠0 then (.nil,0,d.2) else if dG (dA o d.1)≠0 then (.nil,0,dG (dA o d.1)) else (dA o d.1,u,0)
def Hy:HC:=sB (sB (sB (sB (sB (sB (sB (sB h40c)))))))
abbrev aJ0(e:Int):AV:=.tup [.agg [.dc (ci 0),.dc (ci 0),.dc (ci 0),.dc (ci 0),.dc (ci 0),.dc (ci 0),.dc (ci 0),.dc (.slc []),.dc (ci 0)],.one (.dc (ci e))]
theorem oU(e:Int):dcv (.nil,0,e)=aJ0 e:=rfl
set_option maxHeartbeats 4000000 in
theorem aJ1(o:List Int)(u:Int)(ps:List (List Int))(hps:ps.length<=1000)(hDec:∀ k (hk:k < ps.length),EV G (Tb (jH G bb)) 101 [sv ps[k]] []=some (rtv (bH ps[k]),[]))
  (q5:EV G (Tb (jH G bb)) 68 [(dA o (gO ps).1).v] []=some (vi (dG (dA o (gO ps).1)),[])) {st:AS}
  (h0:st=⟨(jk 2 (.one (.ptr 0 0)::jk 2 (vi u::jk 1 (.one (.ptr 1 0)::jk 63 (vl (ps.map nP)::vi ps.length::vi (0:Nat)::jk 28 []))))),[.box z9,.box (r9 o++[.bld 2 0]),.arr 0 11 []]⟩):
  oO false [.cell 2 true 9,.tmp 3] 0 (T9 (EV G (Tb (jH G bb))) G Hy (rQ 0 (EL (EV G (Tb (jH G bb))) G h40l0 [2,2,1,63,0,0] 3 st)))=some (dcv (L2 o u (gO ps)),[]):=by
 have row:∀ k (hk:k < ps.length),(ps.map nP)[k]?=some (nP ps[k]):=fun k hk=>by rw[aQh,aQi hk];rfl
 have gd:∀ k (hk:k < ps.length),ps.getD k []=ps[k]:=fun k hk=>by simp[List.getD,hk]
 rw[gA (fun k=>⟨(jk 2 (.one (.ptr 0 0)::jk 2 (vi u::jk 1 (.one (.ptr 1 0)::jk 63 (vl (ps.map nP)::vi ps.length::vi k::jk 28 []))))),[.box z9,.box (r9 o++[.bld 2 ((ps.take k).map fun p=>(bH p).1.e).length]),.arr 0 11 ((ps.take k).map fun p=>(bH p).1.e)]⟩) (fun k=>(bH (ps.getD k [])).2≠0) ps.length ?_ ?_]
 rotate_left
 ·rw[h0];rfl
 ·intro k hk hn;have hz:=Classical.not_not.1 (hn k (aQf _));rw[gd k hk] at hz;have qd:=hDec k hk;have e:=row k hk;have hb:((ps.take k).map fun p=>(bH p).1.e).length<=1000:=by rw[aQb,aQj];omega
  have hall:fZ 11 ((ps.take k).map fun p=>(bH p).1.e)=true:=iV (f:=fun p=>(bH p).1.e) (fun _=>rfl) _
  have et:(ps.take (k+1)).map (fun p=>(bH p).1.e)=(ps.take k).map (fun p=>(bH p).1.e)++[(bH ps[k]).1.e]:=by
   rw[aRb hk,aQL,aQo,aQn]
  rw[et];clear q5 hDec row gd h0 hn et;have htk:((ps.take k).map fun p=>(bH p).1.e).take ((ps.take k).map fun p=>(bH p).1.e).length=(ps.take k).map fun p=>(bH p).1.e:=aQR
  generalize (ps.take k).map (fun p=>(bH p).1.e)=C at *
  generalize bH ps[k]=d at *;obtain⟨x,z⟩:=d;dsimp only at hz qd ⊢;subst hz;generalize ps[k]=p at *;rw[aQc];simp (disch:=omega) only[go_sem,h40l0,aQb,e,qd,aE.e,hall,htk,aQd,aQe,aQf,aQy,aQv,aQQ]
 obtain⟨hk,hp,hn⟩:=bW (fun k=>(bH (ps.getD k [])).2≠0) ps.length
 generalize ix (fun k=>(bH (ps.getD k [])).2≠0) ps.length=k at *
 rcases hp with rfl | ⟨hk',hp⟩
 ·have hd:=Di ps (fun p hp=>by
   obtain⟨j,hj,rfl⟩:=List.mem_iff_getElem.1 hp;have:=Classical.not_not.1 (hn j hj);rwa[gd j hj] at this)
  have em:(ps.take ps.length).map (fun p=>(bH p).1.e)=(ps.map fun p=>(bH p).1).map aE.e:=by rw[aQR,aQC];rfl
  have hle:((ps.map fun p=>(bH p).1).map aE.e).length=ps.length:=by simp
  have ht:((ps.map fun p=>(bH p).1).map aE.e).take ps.length=(ps.map fun p=>(bH p).1).map aE.e:=aQM (by omega)
  rw[em,hle];rw[hd] at q5 ⊢;unfold L2;rw[if_neg (not_not_intro rfl)];dsimp only at q5 ⊢;clear hDec row gd h0 hd em hn;generalize (ps.map fun p=>(bH p).1)=L at *
  by_cases c4:dG (dA o L)=0
  ·rw[if_neg (not_not_intro c4)];rw[c4] at q5;simp only[dA,bZ.v,bZ.c] at q5;generalize eM:L.map aE.e=M at *;simp (disch:=omega) only[go_sem,Hy,sB,h40c,h40l0,aQb,q5,hle,ht,aQf,aQy,aQv];simp only[dcv,dA,bZ.c,eM,aQy,aQv]
  ·rw[if_pos c4,oU];generalize dG (dA o L)=re at *;simp only[dA,bZ.v,bZ.c] at q5;generalize L.map aE.e=M at *;simp (disch:=omega) only[go_sem,Hy,sB,h40c,h40l0,aQb,q5,c4,hle,ht,aQf,aQy,aQv]
 ·have hd:=Dj ps k hk' (fun j hj=>Classical.not_not.1 (hn j hj)) hp
  rw[gd k hk'] at hp hd;rw[hd];unfold L2;dsimp only;rw[if_pos hp,oU];have qd:=hDec k hk';have e:=row k hk';clear hDec row gd h0 hd hn q5;generalize (ps.take k).map (fun p=>(bH p).1.e)=C at *
  generalize bH ps[k]=d at *;obtain⟨x,z⟩:=d;dsimp only at hp qd ⊢;generalize ps[k]=p at *;simp (disch:=omega) only[go_sem,Hy,sB,h40c,h40l0,aQb,e,qd,aE.e,hp,aQy,aQv]
end
section
variable {G:aH} {bb:Bool}
abbrev LR:List Nat:=[0,1,1,1,0,0,0]
abbrev rv9:List kQ:=[.cell 2 true 9,.tmp 3]
abbrev Dk(s o:List Int)(ds:List DC)(u:Int)(at':Nat)(acc:List (List Int)):AS:=
 ⟨(sv s::jk 1 (.one (.ptr 0 0)::jk 1 (sv o::jk 1 (.one (.ptr 1 0)::vi u::.one (.bld 2 acc.length)::vi at'::jk 152 [])))),[.box z9,.box (jB ds),.arr 0 1 (acc.map nP)]⟩
theorem Hz(o:List Int)(a n:Nat):(o.take (a+n)).drop a=(o.drop a).take n:=by rw[List.drop_take,aRv]
theorem aF1(o:List Int)(a i k:Nat):gL (o.drop a) i k=gL o (a+i) k:=by unfold gL;rw[aRt]
set_option maxHeartbeats 4000000 in
theorem L3(s o:List Int)(ds:List DC)(u:Int)(ho:o.length=512)(hoB:aM o)(X:HC):∀ (k at':Nat) (acc:List (List Int)),512 - at' < k->at'<=512->acc.length+(512 - at')<=1000->
  (∀ ps,pQ k (o.drop at')=some ps->oO false rv9 0 (T9 (EV G (Tb (jH G bb))) G (.trm LR X) (rQ 0 (EL (EV G (Tb (jH G bb))) G h48l0 LR 3 (Dk s o ds u at' acc))))=oO false rv9 0 (EC (EV G (Tb (jH G bb))) G X (Dk s o ds u (at'+ps.flatten.length) (acc++ps))))/\
  (pQ k (o.drop at')=none->oO false rv9 0 (T9 (EV G (Tb (jH G bb))) G (.trm LR X) (rQ 0 (EL (EV G (Tb (jH G bb))) G h48l0 LR 3 (Dk s o ds u at' acc))))=some (dcv (.nil,0,3),[])\/
   ∃ b acc',508 < b/\b<=512/\acc'.length<=1000/\oO false rv9 0 (T9 (EV G (Tb (jH G bb))) G (.trm LR X) (rQ 0 (EL (EV G (Tb (jH G bb))) G h48l0 LR 3 (Dk s o ds u at' acc))))=oO false rv9 0 (EC (EV G (Tb (jH G bb))) G X (Dk s o ds u b acc')))
 | 0,at',acc,h,_,_=>by omega
 | k+1,at',acc,h,hat,hA=>by
  have hall:fZ 1 (acc.map nP)=true:=iV (f:=nP) (fun _=>rfl) _
  have htk:(acc.map nP).take acc.length=acc.map nP:=aQM (by rw[aQb];exact aQf _);have hld:(o.drop at').length=512 - at':=by rw[aQr,ho]
  rw[Gk,pQ];by_cases c0:at'+4<=512
  ·have c0':(at':Int)+4<=512:=by omega
   have e4:((at':Int)+4).toNat=at'+4:=by omega
   have ec:(o.take (at'+4)).drop at'=(o.drop at').take 4:=Hz o at' 4;have eS:(eG ((o.drop at').take 4)=⟨#[255,255,255,255]⟩)=((o.drop at').take 4=pP):=cW (fun x hx=>hoB x (aQS (aQO hx))) Ak
   by_cases c1:(o.drop at').take 4=pP
   ·refine⟨fun ps hp=>?_,fun hp=>?_⟩
    ·rw[if_pos c1] at hp;injection hp with hp
     subst hp;rw[eq_true c1] at eS;rw[aQ6,List.flatten_nil,aQe,aQU];simp (disch:=first | omega | (simp only[aQc,aQd,aQe,aQb,aA,aQk,aQj,aQr,aL,bD]<;>omega) | fail) only[go_sem,h48l0,eq_true c0',e4,ec,eS,aQN,aQb]
     all_goals rfl
    ·rw[if_pos c1] at hp;cases hp
   ·rw[if_neg c1];rw[eq_false c1] at eS;by_cases c2:at'+8<=512
    ·have c2':(at':Int)+8<=512:=by omega
     have q:EV G (Tb (jH G bb)) 57 [sv o,vi ((at':Int)+4),vi 4] []=some (vi (gL o (at'+4) 4),[]):=by
      have:=mC (up (cK (G:=G) (bb:=bb) o hoB (at'+4) 4 (by omega) (by omega) (by omega)));rw[aQ0] at this;exact this
     have hg:=tG hoB (at'+4) 4 (by omega) (by omega);have hn:gL o (at'+4) 4=(nN (o.drop at'):Int):=by unfold nN;rw[aF1];omega
     rw[hn] at q;have hX:xS (o.drop at')↔nN (o.drop at') % 8≠0\/nN (o.drop at') < 24\/(o.drop at').length < nN (o.drop at')+4:=Iff.rfl;have hnB:(nN (o.drop at'):Int)<=4294967295:=by omega
     clear hg hn;generalize nN (o.drop at')=n at *;have e8:((n:Int).tmod 8)=((n % 8:Nat):Int):=rfl;by_cases c3:n % 8≠0\/n < 24\/(o.drop at').length < n+4
     ·have hnone:∀ {x:Option (List (List Int))},(if (o.drop at').length < 24 then none else if xS (o.drop at') then none else x)=none:=fun {x}=>by
       split
       ·rfl
       ·rw[if_pos (hX.2 c3)]
      refine⟨fun ps hp=>?_,fun _=>.inl ?_⟩
      ·rw[hnone] at hp;cases hp
      ·rw[hld] at c3;clear hX hnone;by_cases x1:n % 8=0
       ·have x1':(n:Int).tmod 8=0:=by rw[e8,x1];rfl
        clear e8;by_cases x2:n < 24
        ·have x2':(n:Int) < 24:=by omega
         simp (disch:=first | omega | (simp only[aQc,aQd,aQe,aQb,aA,aQk,aQj,aQr,aL,bD]<;>omega) | fail) only[go_sem,h48l0,eq_true c0',eq_true c2',e4,ec,eS,q,eq_true x1',eq_true x2',aQN,aQb,bZ.nil]
         all_goals rfl
        ·have x2':¬ (n:Int) < 24:=by omega
         have x3':512 < (at':Int)+n+4:=by omega
         simp (disch:=first | omega | (simp only[aQc,aQd,aQe,aQb,aA,aQk,aQj,aQr,aL,bD]<;>omega) | fail) only[go_sem,h48l0,eq_true c0',eq_true c2',e4,ec,eS,q,eq_true x1',x2',eq_true x3',aQN,aQb,bZ.nil]
         all_goals rfl
       ·have x1':¬ (n:Int).tmod 8=0:=by rw[e8];omega
        clear e8;simp (disch:=first | omega | (simp only[aQc,aQd,aQe,aQb,aA,aQk,aQj,aQr,aL,bD]<;>omega) | fail) only[go_sem,h48l0,eq_true c0',eq_true c2',e4,ec,eS,q,x1',aQN,aQb,bZ.nil]
        all_goals rfl
     ·have hd:512 - (at'+n) < k:=by omega
      have hl24:¬ (o.drop at').length < 24:=by omega
      rw[if_neg hl24,if_neg (fun x=>c3 (hX.1 x))]
      rw[hld] at c3;have ih:=L3 s o ds u ho hoB X k (at'+n) (acc++[(o.drop at').take n]) hd (by omega) (by rw[aQc];simp;omega);have x1':(n:Int).tmod 8=0:=by rw[e8];omega
      clear e8 hX;have x2':¬ (n:Int) < 24:=by omega
      have x3':¬ 512 < (at':Int)+n+4:=by omega
      have en:((at':Int)+n).toNat=at'+n:=by omega
      have ecn:(o.take (at'+n)).drop at'=(o.drop at').take n:=Hz o at' n;have step:Y4 (EV G (Tb (jH G bb))) G h48l0 LR 3 (EC (EV G (Tb (jH G bb))) G h48l0 (Dk s o ds u at' acc))=EL (EV G (Tb (jH G bb))) G h48l0 LR 3 (Dk s o ds u (at'+n) (acc++[(o.drop at').take n])):=by
       refine aB3 ?_;unfold Dk;rw[aQc,aQL,aQ0];simp (disch:=first | omega | (simp only[aQc,aQd,aQe,aQb,aA,aQk,aQj,aQr,aL,bD]<;>omega) | fail) only[go_sem,h48l0,eq_true c0',eq_true c2',e4,ec,eS,q,eq_true x1',x2',x3',en,ecn,aQN,aQb,hall,htk,aQf,aQo,aQn,aQd,aQe]
      have eDD:o.drop (at'+n)=(o.drop at').drop n:=by rw[aRt]
      rw[eDD] at ih;rw[step];clear step;refine⟨fun ps hp=>?_,fun hp=>?_⟩
      ·obtain⟨qs,h1,rfl⟩:=Option.map_eq_some_iff.1 hp;have:=ih.1 qs (by rw[<- h1]);rw[this];have el:at'+n+qs.flatten.length=at'+((o.drop at').take n::qs).flatten.length:=by
        rw[aQ5,aQc,aQj,hld];omega
       rw[el];simp only[aQs,List.singleton_append]
      ·exact ih.2 (by simpa using hp)
    ·have c2':¬ (at':Int)+8<=512:=by omega
     have hl24:(o.drop at').length < 24:=by omega
     rw[if_pos hl24];refine⟨fun ps hp=>(by cases hp),fun _=>.inl ?_⟩
     have x1':(0:Int).tmod 8=0:=rfl;simp (disch:=first | omega | (simp only[aQc,aQd,aQe,aQb,aA,aQk,aQj,aQr,aL,bD]<;>omega) | fail) only[go_sem,h48l0,eq_true c0',c2',e4,ec,eS,x1',aQN,aQb,bZ.nil]
     all_goals rfl
  ·have c0':¬ (at':Int)+4<=512:=by omega
   have c1:¬ (o.drop at').take 4=pP:=fun h=>by
    have:=congrArg List.length h;rw[aQj,hld] at this;have e:pP.length=4:=rfl;omega
   have hl24:(o.drop at').length < 24:=by omega
   rw[if_neg c1,if_pos hl24];refine⟨fun ps hp=>(by cases hp),fun _=>.inr ⟨at',acc,by omega,hat,by omega, ?_⟩⟩
   simp (disch:=first | omega | (simp only[aQc,aQd,aQe,aQb,aA,aQk,aQj,aQr,aL,bD]<;>omega) | fail) only[go_sem,h48l0,c0',aQN,aQb]
   all_goals rfl
end
section
variable {G:aH} {bb:Bool}
def sH:HC->HC
 | .gh _ a=>a
 | c=>c
def mD:HC:=sT (sB (sB (sH (sB (sB (sB (sB (sB (sB (sB h48c))))))))))
def H0:HC:=sB (sH (sB (sB mD)))
abbrev fd8(o:List Int):List DC:=[ci (gL o 8 4),ci (gL o 16 2),ci (gL o 18 2),ci (gL o 22 2),ci (gL o 24 4),ci (gL o 32 4),ci (gL o 36 2),ci (gL o 38 2)]
theorem aF2(s o:List Int)(ds:List DC)(u:Int)(b:Nat)(hb:508 < b/\b<=512)(acc:List (List Int)):oO false rv9 0 (EC (EV G (Tb (jH G bb))) G mD (Dk s o ds u b acc))=some (aJ0 3,[]):=by
 have c:512 < (b:Int)+4:=by omega
 simp (disch:=first | omega | (simp only[aQc,aQd,aQe,aQb,aA,aQk,aQj,aQr,aL,bD]<;>omega) | fail) only[go_sem,mD,sT,sB,sH,h48c,eq_true c]
set_option maxHeartbeats 4000000 in
theorem aF3(o:List Int)(u:Int)(ps:List (List Int))(hps:ps.length<=1000)(hDec:∀ k (hk:k < ps.length),EV G (Tb (jH G bb)) 108 [sv ps[k]] []=some (rtv (bH ps[k]),[]))
  (q5:EV G (Tb (jH G bb)) 29 [(dA o (gO ps).1).v] []=some (vi (dG (dA o (gO ps).1)),[])) {st:AS}
  (h0:st=⟨(jk 2 (.one (.ptr 0 0)::jk 4 (vi u::.one (.bld 2 ps.length)::jk 2 (.one (.ptr 3 0)::vi (0:Nat)::jk 149 [])))),[.box z9,.box (jB (fd8 o)),.arr 0 1 (ps.map nP),.box (r9 o++[.bld 4 0]),.arr 0 11 []]⟩):
  oO false rv9 0 (T9 (EV G (Tb (jH G bb))) G H0 (rQ 2 (EL (EV G (Tb (jH G bb))) G h48l1 [2,4,0,2,0] 5 st)))=some (dcv (L2 o u (gO ps)),[]):=by
 have row:∀ k (hk:k < ps.length),(ps.map nP)[k]?=some (nP ps[k]):=fun k hk=>by rw[aQh,aQi hk];rfl
 have gd:∀ k (hk:k < ps.length),ps.getD k []=ps[k]:=fun k hk=>by simp[List.getD,hk]
 rw[gA (fun k=>⟨(jk 2 (.one (.ptr 0 0)::jk 4 (vi u::.one (.bld 2 ps.length)::jk 2 (.one (.ptr 3 0)::vi k::jk 149 [])))),[.box z9,.box (jB (fd8 o)),.arr 0 1 (ps.map nP),.box (r9 o++[.bld 4 ((ps.take k).map fun p=>(bH p).1.e).length]),.arr 0 11 ((ps.take k).map fun p=>(bH p).1.e)]⟩) (fun k=>(bH (ps.getD k [])).2≠0) ps.length ?_ ?_]
 rotate_left
 ·rw[h0];rfl
 ·intro k hk hn;have hz:=Classical.not_not.1 (hn k (aQf _));rw[gd k hk] at hz;have qd:=hDec k hk;have e:=row k hk;have hb:((ps.take k).map fun p=>(bH p).1.e).length<=1000:=by rw[aQb,aQj];omega
  have hall:fZ 11 ((ps.take k).map fun p=>(bH p).1.e)=true:=iV (f:=fun p=>(bH p).1.e) (fun _=>rfl) _
  have et:(ps.take (k+1)).map (fun p=>(bH p).1.e)=(ps.take k).map (fun p=>(bH p).1.e)++[(bH ps[k]).1.e]:=by
   rw[aRb hk,aQL,aQo,aQn]
  rw[et];clear q5 hDec row gd h0 hn et;have htk:((ps.take k).map fun p=>(bH p).1.e).take ((ps.take k).map fun p=>(bH p).1.e).length=(ps.take k).map fun p=>(bH p).1.e:=aQR
  generalize (ps.take k).map (fun p=>(bH p).1.e)=C at *
  generalize bH ps[k]=d at *;obtain⟨x,z⟩:=d;dsimp only at hz qd ⊢;subst hz;generalize ps[k]=p at *;rw[aQc];simp (disch:=omega) only[go_sem,h48l1,aQb,e,qd,aE.e,hall,htk,aQd,aQe,aQf,aQy,aQv,aQQ]
 obtain⟨hk,hp,hn⟩:=bW (fun k=>(bH (ps.getD k [])).2≠0) ps.length
 generalize ix (fun k=>(bH (ps.getD k [])).2≠0) ps.length=k at *
 rcases hp with rfl | ⟨hk',hp⟩
 ·have hd:=Di ps (fun p hp=>by
   obtain⟨j,hj,rfl⟩:=List.mem_iff_getElem.1 hp;have:=Classical.not_not.1 (hn j hj);rwa[gd j hj] at this)
  have em:(ps.take ps.length).map (fun p=>(bH p).1.e)=(ps.map fun p=>(bH p).1).map aE.e:=by rw[aQR,aQC];rfl
  have hle:((ps.map fun p=>(bH p).1).map aE.e).length=ps.length:=by simp
  have ht:((ps.map fun p=>(bH p).1).map aE.e).take ps.length=(ps.map fun p=>(bH p).1).map aE.e:=aQM (by omega)
  rw[em,hle];rw[hd] at q5 ⊢;unfold L2;rw[if_neg (not_not_intro rfl)];dsimp only at q5 ⊢;clear hDec row gd h0 hd em hn;generalize (ps.map fun p=>(bH p).1)=L at *
  by_cases c4:dG (dA o L)=0
  ·rw[if_neg (not_not_intro c4)];rw[c4] at q5;simp only[dA,bZ.v,bZ.c] at q5;generalize eM:L.map aE.e=M at *;simp (disch:=omega) only[go_sem,H0,mD,sT,sB,sH,h48c,h48l1,aQb,q5,hle,ht,aQf,aQy,aQv];simp only[dcv,dA,bZ.c,eM,aQy,aQv]
  ·rw[if_pos c4,oU];generalize dG (dA o L)=re at *;simp only[dA,bZ.v,bZ.c] at q5;generalize L.map aE.e=M at *;simp (disch:=omega) only[go_sem,H0,mD,sT,sB,sH,h48c,h48l1,aQb,q5,c4,hle,ht,aQf,aQy,aQv]
 ·have hd:=Dj ps k hk' (fun j hj=>Classical.not_not.1 (hn j hj)) hp
  rw[gd k hk'] at hp hd;rw[hd];unfold L2;dsimp only;rw[if_pos hp,oU];have qd:=hDec k hk';have e:=row k hk';clear hDec row gd h0 hd hn q5;generalize (ps.take k).map (fun p=>(bH p).1.e)=C at *
  generalize bH ps[k]=d at *;obtain⟨x,z⟩:=d;dsimp only at hp qd ⊢;generalize ps[k]=p at *;simp (disch:=omega) only[go_sem,H0,mD,sT,sB,sH,h48c,h48l1,aQb,e,qd,aE.e,hp,aQy,aQv]
theorem aJ2{b:List Int}(hb:b.length=512)(hB:aM b)(n:Int):aM (lR b n 8):=by
 intro x hx;obtain⟨j,hj,rfl⟩:=List.mem_iff_getElem.1 hx;have e:(lR b n 8)[j]=(lR b n 8).getD j 0:=by simp[aQl,hj]
 rw[e,Fe hb 8 (by omega)];unfold Wh
 repeat' split
 all_goals first | omega | exact nZ hB _
set_option maxHeartbeats 4000000 in
theorem aF4(s o:List Int)(hB:aM s)(ho:o.length=512)(hoB:aM o)(u:Int)(hu:0<=u/\u<=65535)(ps:List (List Int))(hps:ps.length<=1000)(fl:List Int)(hf:fl.length<=444)(hfB:aM fl)(hfl:o.take (64+fl.length)=o.take 64++fl)
  (hDec:∀ k (hk:k < ps.length),EV G (Tb (jH G bb)) 108 [sv ps[k]] []=some (rtv (bH ps[k]),[]))
  (q5:EV G (Tb (jH G bb)) 29 [(dA o (gO ps).1).v] []=some (vi (dG (dA o (gO ps).1)),[])) (d:bZ × Int × Int)
  (hd:d=if gL o 24 4=68+fl.length/\lR (gS (dA o []) (gL o 24 4) fl) u 8=s then L2 o u (gO ps) else (.nil,0,3)):
  oO false rv9 0 (EC (EV G (Tb (jH G bb))) G mD (Dk s o (fd8 o) u (64+fl.length) ps))=some (dcv d,[]):=by
 have g1:=tG hoB 16 2 (by omega) (by omega);have g2:=tG hoB 18 2 (by omega) (by omega);have g3:=tG hoB 22 2 (by omega) (by omega);have g4:=tG hoB 32 4 (by omega) (by omega);have g5:=tG hoB 36 2 (by omega) (by omega);have g6:=tG hoB 38 2 (by omega) (by omega);have g7:=tG hoB 8 4 (by omega) (by omega);have g8:=tG hoB 24 4 (by omega) (by omega);have q1:=mC (L1 (G:=G) (bb:=bb) (dA o []) (gL o 24 4) ⟨by simp only[dA];omega,by simp only[dA];omega,by simp only[dA];omega,by simp only[dA];omega,by simp only[dA];omega,by simp only[dA];omega,by simp only[dA];omega,by omega⟩ fl hf u (by omega));have eC:(o.take (64+fl.length)).drop 64=fl:=by rw[hfl,List.drop_left' (by rw[aQj];omega)]
 have c0:¬ 512 < (68+fl.length:Int):=by omega
 have eN:((64:Int)+(fl.length:Int)).toNat=64+fl.length:=by omega
 have e68:(64:Int)+(fl.length:Int)+4=68+(fl.length:Int):=by omega
 have hlo:(64:Int)+(fl.length:Int)<=512:=by omega
 have key:=aF3 (G:=G) (bb:=bb) o u ps hps hDec q5 rfl;have hY:=aJ2 (qH (dA o []) (gL o 24 4) fl hf) (wO (dA o []) (gL o 24 4) fl hfB) u;generalize lR (gS (dA o []) (gL o 24 4) fl) u 8=Y at *;simp only[dA] at q1;have eS:=cW hY hB;clear g1 g2 g3 g4 g5 g6 g7 hfl;generalize hF:fl.length=F at *;by_cases c1:gL o 24 4=68+F
 ·by_cases c2:Y=s
  ·rw[if_pos ⟨c1,c2⟩] at hd;subst hd;rw[eq_true c2] at eS;simp (maxSteps:=2000000) (disch:=first | omega | (simp only[aQc,aQd,aQe,aQb,aA,aQk,aQj,aQr,aL,bD]<;>omega) | fail) only[go_sem,mD,sT,sB,sH,h48c,jB,aQo,aQn,aQ0,e68,c0,eq_true c1,eC,eN,Int.reduceToNat,q1,eS,zB]
   exact key
  ·rw[if_neg (fun h=>c2 h.2)] at hd
   subst hd;rw[eq_false c2] at eS;rw[oU];simp (maxSteps:=2000000) (disch:=first | omega | (simp only[aQc,aQd,aQe,aQb,aA,aQk,aQj,aQr,aL,bD]<;>omega) | fail) only[go_sem,mD,sT,sB,sH,h48c,jB,aQo,aQn,aQ0,e68,c0,eq_true c1,eC,eN,Int.reduceToNat,q1,eS,zB]
 ·rw[if_neg (fun h=>c1 h.1)] at hd
  subst hd;rw[oU];simp (maxSteps:=2000000) (disch:=first | omega | (simp only[aQc,aQd,aQe,aQb,aA,aQk,aQj,aQr,aL,bD]<;>omega) | fail) only[go_sem,mD,sT,sB,sH,h48c,jB,aQo,aQn,aQ0,e68,c0,c1,Int.reduceToNat]
set_option maxHeartbeats 8000000 in
theorem aF5(s:List Int)(hB:aM s)(hl:s.length<=9223372036854775807):EV G (Tb (jH G bb)) 48 [sv s] []=some (dcv (fG s),[]):=by
 refine aB rfl ?_;unfold fG;by_cases c1:s.length=512
 ·rw[if_neg (not_not_intro c1)];have q1:=mC (up (aFZ (G:=G) (bb:=bb) s c1 hB));by_cases c2:eP s
  ·rw[if_neg (not_not_intro c2)];rw[if_pos c2] at q1;have ho:=nY c1;have hoB:=C4 c1 hB;have hu:=Om c1 hB c2;have f0:EV G (Tb (jH G bb)) 57 [sv s,vi 40,vi 2] []=some (vi (dU s),[]):=mC (up (cK (G:=G) (bb:=bb) s hB 40 2 (by omega) (by omega) (by omega)));have f1:EV G (Tb (jH G bb)) 57 [sv (dN s),vi 16,vi 2] []=some (vi (gL (dN s) 16 2),[]):=mC (up (cK (G:=G) (bb:=bb) (dN s) hoB 16 2 (by omega) (by omega) (by omega)));have f2:EV G (Tb (jH G bb)) 57 [sv (dN s),vi 18,vi 2] []=some (vi (gL (dN s) 18 2),[]):=mC (up (cK (G:=G) (bb:=bb) (dN s) hoB 18 2 (by omega) (by omega) (by omega)));have f3:EV G (Tb (jH G bb)) 57 [sv (dN s),vi 22,vi 2] []=some (vi (gL (dN s) 22 2),[]):=mC (up (cK (G:=G) (bb:=bb) (dN s) hoB 22 2 (by omega) (by omega) (by omega)));have f4:EV G (Tb (jH G bb)) 57 [sv (dN s),vi 32,vi 4] []=some (vi (gL (dN s) 32 4),[]):=mC (up (cK (G:=G) (bb:=bb) (dN s) hoB 32 4 (by omega) (by omega) (by omega)));have f5:EV G (Tb (jH G bb)) 57 [sv (dN s),vi 36,vi 2] []=some (vi (gL (dN s) 36 2),[]):=mC (up (cK (G:=G) (bb:=bb) (dN s) hoB 36 2 (by omega) (by omega) (by omega)));have f6:EV G (Tb (jH G bb)) 57 [sv (dN s),vi 38,vi 2] []=some (vi (gL (dN s) 38 2),[]):=mC (up (cK (G:=G) (bb:=bb) (dN s) hoB 38 2 (by omega) (by omega) (by omega)));have f7:EV G (Tb (jH G bb)) 57 [sv (dN s),vi 8,vi 4] []=some (vi (gL (dN s) 8 4),[]):=mC (up (cK (G:=G) (bb:=bb) (dN s) hoB 8 4 (by omega) (by omega) (by omega)));have f8:EV G (Tb (jH G bb)) 57 [sv (dN s),vi 24,vi 4] []=some (vi (gL (dN s) 24 4),[]):=mC (up (cK (G:=G) (bb:=bb) (dN s) hoB 24 4 (by omega) (by omega) (by omega)));have key:=L3 (G:=G) (bb:=bb) s (dN s) (fd8 (dN s)) (dU s) ho hoB mD 449 64 [] (by decide) (by decide) (by decide);have hsg:sD ((dN s).drop 64)=pQ 449 ((dN s).drop 64):=by
    unfold sD;rw[aQr,ho]
   cases hq:sD ((dN s).drop 64) with
   | none=>
    dsimp only;rw[oU];have hk:=key.2 (by rw[<- hsg];exact hq);have hk2:oO false rv9 0 (T9 (EV G (Tb (jH G bb))) G (.trm LR mD) (rQ 0 (EL (EV G (Tb (jH G bb))) G h48l0 LR 3 (Dk s (dN s) (fd8 (dN s)) (dU s) 64 []))))=some (aJ0 3,[]):=by
     rcases hk with hk | ⟨b,acc',b1,b2,b3,hk⟩
     ·rw[hk,oU]
     ·rw[hk,aF2 _ _ _ _ _ ⟨b1,b2⟩]
    clear key hk;generalize dU s=u at *;simp (maxSteps:=2000000) (disch:=omega) only[go_sem,h48c,aL,c1,q1,f0,f1,f2,f3,f4,f5,f6,f7,f8];exact hk2
   | some ps=>
    dsimp only;obtain⟨h1,h2,h3,h4⟩:=Oq c1 hB hq;obtain⟨p1,p2,p3,p4⟩:=Ht _ _ _ (show pQ 449 ((dN s).drop 64)=some ps by rw[<- hsg];exact hq);have hk:=key.1 ps (by rw[<- hsg];exact hq);have hdW:=aM1 c1 hB hq;have hDec:∀ k (hk:k < ps.length),EV G (Tb (jH G bb)) 108 [sv ps[k]] []=some (rtv (bH ps[k]),[]):=fun k hk=>by
     obtain⟨b1,b2,_⟩:=h1 _ (aQm hk);rw[aJo b1 b2];exact mC (up (Oe (G:=G) (bb:=bb) ps[k] b1 b2))
    have q5:=mC (Hu (G:=G) (bb:=bb) (dA (dN s) (gO ps).1) hdW);have hfl:(dN s).take (64+ps.flatten.length)=(dN s).take 64++ps.flatten:=by
     rw[List.take_add,p2]
    have hbs:=aBz c1 hB c2 ps.flatten h2;have hr:=aF4 (G:=G) (bb:=bb) s (dN s) hB ho hoB (dU s) (by omega) ps (by omega) ps.flatten h2 h4 hfl hDec q5 (Lj s ps) (by
     unfold Lj;by_cases c:gS (dA (dN s) []) (68+(ps.flatten.length:Int)) ps.flatten=dN s
     ·rw[if_neg (not_not_intro c),if_pos (hbs.1 c)];rfl
     ·rw[if_pos c,if_neg (fun h=>c (hbs.2 h))])
    rw[aQv] at hk;rw[hr] at hk;clear key hr hsg h1 h2 h3 h4 p1 p2 p3 p4 hDec q5 hfl hbs hdW;generalize Lj s ps=d at *;generalize dU s=u at *;simp (maxSteps:=2000000) (disch:=omega) only[go_sem,h48c,aL,c1,q1,f0,f1,f2,f3,f4,f5,f6,f7,f8];exact hk
  ·rw[if_pos c2];rw[if_neg c2] at q1;rw[oU];simp (disch:=omega) only[go_sem,h48c,aL,c1,q1]
 ·rw[if_pos c1];have c1':¬ (s.length:Int)=512:=by omega
  rw[oU];simp (disch:=omega) only[go_sem,h48c,aL,c1']
end
section
variable {G:aH} {bb:Bool}
set_option maxHeartbeats 8000000 in
theorem L4(hG:G9 G)(s:List Int)(hB:aM s)(hl:s.length<=9223372036854775807):EV G (Tb (jH G bb)) 40 [sv s] []=some (dcv (fG s),[]):=by
 refine aB rfl ?_;unfold fG;by_cases c1:s.length=512
 ·rw[if_neg (not_not_intro c1)];have q1:=mC (up (aJG (G:=G) (bb:=bb) s c1 hB));by_cases c2:eP s
  ·rw[if_neg (not_not_intro c2)];rw[if_pos c2] at q1;have u0:¬ dU s=0:=c2.1;have ho:=nY c1;have hoB:=C4 c1 hB;have f1:EV G (Tb (jH G bb)) 97 [D3 16 2,sv (dN s)] []=some (vi (gL (dN s) 16 2),[]):=mC (up (sG (G:=G) (bb:=bb) (dN s) hoB 16 2 (by omega) (by omega) (by omega)));have f2:EV G (Tb (jH G bb)) 97 [D3 18 2,sv (dN s)] []=some (vi (gL (dN s) 18 2),[]):=mC (up (sG (G:=G) (bb:=bb) (dN s) hoB 18 2 (by omega) (by omega) (by omega)));have f3:EV G (Tb (jH G bb)) 97 [D3 22 2,sv (dN s)] []=some (vi (gL (dN s) 22 2),[]):=mC (up (sG (G:=G) (bb:=bb) (dN s) hoB 22 2 (by omega) (by omega) (by omega)));have f4:EV G (Tb (jH G bb)) 97 [D3 32 4,sv (dN s)] []=some (vi (gL (dN s) 32 4),[]):=mC (up (sG (G:=G) (bb:=bb) (dN s) hoB 32 4 (by omega) (by omega) (by omega)));have f5:EV G (Tb (jH G bb)) 97 [D3 36 2,sv (dN s)] []=some (vi (gL (dN s) 36 2),[]):=mC (up (sG (G:=G) (bb:=bb) (dN s) hoB 36 2 (by omega) (by omega) (by omega)));have f6:EV G (Tb (jH G bb)) 97 [D3 38 2,sv (dN s)] []=some (vi (gL (dN s) 38 2),[]):=mC (up (sG (G:=G) (bb:=bb) (dN s) hoB 38 2 (by omega) (by omega) (by omega)));have f7:EV G (Tb (jH G bb)) 97 [D3 8 4,sv (dN s)] []=some (vi (gL (dN s) 8 4),[]):=mC (up (sG (G:=G) (bb:=bb) (dN s) hoB 8 4 (by omega) (by omega) (by omega)));have q2:=mC (up (O2 (G:=G) (bb:=bb) (dN s) ho hoB));have g1:=hG.sq;have g2:=hG.li;have g3:=hG.fl;have g4:=hG.ba;have g5:=hG.bo;have g6:=hG.nx;have g7:=hG.ls;cases hq:sD ((dN s).drop 64) with
   | none=>
    rw[hq] at q2;generalize dU s=u at *;simp (maxSteps:=2000000) (disch:=omega) only[go_sem,h40c,aL,c1,q1,u0,g1,g2,g3,g4,g5,g6,g7,f1,f2,f3,f4,f5,f6,f7,q2,bZ.nil]
    all_goals rfl
   | some ps=>
    rw[hq] at q2;obtain⟨h1,h2,h3,h4⟩:=Oq c1 hB hq;have q3:=aFV (G:=G) (bb:=bb) ps (by omega) (by omega);have q4:=mC (up (Sb (G:=G) (bb:=bb) hG (dA (dN s) []) ps.flatten (aJZ ho hoB []) h2 h4));have eS:=cW (wO (dA (dN s) []) (68+(ps.flatten.length:Int)) ps.flatten h4) hoB;have hdW:=aM1 c1 hB hq;have eD:Lj s ps=if gS (dA (dN s) []) (68+(ps.flatten.length:Int)) ps.flatten≠dN s then (.nil,0,3) else L2 (dN s) (dU s) (gO ps):=rfl
    dsimp only;rw[eD];clear eD;by_cases c3:gS (dA (dN s) []) (68+(ps.flatten.length:Int)) ps.flatten=dN s
    ·rw[if_neg (not_not_intro c3)];rw[eq_true c3] at eS;have c3':=c3;have hps:ps.length<=1000:=by omega
     have hDec:∀ k (hk:k < ps.length),EV G (Tb (jH G bb)) 101 [sv ps[k]] []=some (rtv (bH ps[k]),[]):=fun k hk=>by
      obtain⟨b1,b2,_⟩:=h1 _ (aQm hk);exact mC (up (Vm (G:=G) (bb:=bb) ps[k] b1 b2))
     have q5:=mC (kG (G:=G) (bb:=bb) (dA (dN s) (gO ps).1) hdW);clear h1 h2 h3 h4 hdW c3 hq;generalize ps.flatten=fl at *;generalize gS (dA (dN s) []) (68+(fl.length:Int)) fl=Y at *;simp only[dA,bZ.v,bZ.c,aQn] at q4;generalize dU s=u at *;simp (maxSteps:=2000000) (disch:=omega) only[go_sem,h40c,aL,c1,q1,u0,g1,g2,g3,g4,g5,g6,g7,f1,f2,f3,f4,f5,f6,f7,q2,q3,q4,eS,zB,aQb];exact aJ1 (dN s) u ps hps hDec q5 rfl
    ·rw[if_pos c3];rw[eq_false c3] at eS;generalize ps.flatten=fl at *;generalize gS (dA (dN s) []) (68+(fl.length:Int)) fl=Y at *;simp only[dA,bZ.v,bZ.c,aQn] at q4;generalize dU s=u at *;simp (maxSteps:=2000000) (disch:=omega) only[go_sem,h40c,aL,c1,q1,u0,g1,g2,g3,g4,g5,g6,g7,f1,f2,f3,f4,f5,f6,f7,q2,q3,q4,eS,zB,bZ.nil]
     all_goals rfl
  ·rw[if_pos c2];rw[if_neg c2] at q1;simp (maxSteps:=2000000) (disch:=omega) only[go_sem,h40c,aL,c1,q1,bZ.nil]
   all_goals rfl
 ·rw[if_pos c1];have c1':¬ (s.length:Int)=512:=by omega
  simp (maxSteps:=2000000) (disch:=omega) only[go_sem,h40c,aL,c1',bZ.nil]
  all_goals rfl
end
section
variable {G:aH} {bb:Bool}
theorem aB9:EV G (Tb (jH G true)) 11 [] []=some (vb true,[]):=mC aM7
end
section
variable {G:aH} {bb:Bool}
theorem aCm(ps:List (List Int))(x:List Int)(hx:aM x)(hB:∀ p∈ps,aM p)(hl:ps.length<=1000000):EV G (Tb (jH G bb)) 50 [vl (ps.map nP),sv x] []=some (vb (decide (x∈ps)),[]):=by
 have hg:=aCi x ps;unfold aCk at hg;have row:∀ k (hk:k < ps.length),(ps.map nP)[k]?=some (nP ps[k]):=fun k hk=>by rw[aQh,aQi hk];rfl
 have gd:∀ k (hk:k < ps.length),ps.getD k []=ps[k]:=fun k hk=>by simp[List.getD,hk]
 refine aB rfl ?_;simp (disch:=omega) only[go_sem,h50c,aQb];rw[gA (fun k=>⟨(vl (ps.map nP)::sv x::jk 3 (vi k::jk 12 [])),[]⟩) (fun k=>x=ps.getD k []) ps.length ?_ ?_]
 rotate_left
 ·rfl
 ·intro k hk hn;have h3:=hn k (aQf _);rw[gd k hk] at h3;have e:=row k hk;have eS:=cW (hB _ (aQm hk)) hx;rw[eq_false (fun h=>h3 (Eq.symm h))] at eS
  simp (disch:=omega) only[go_sem,h50l0,aQb,e,eS,zB]
 obtain⟨hk,hp,hn⟩:=bW (fun k=>x=ps.getD k []) ps.length
 generalize ix (fun k=>x=ps.getD k []) ps.length=k at *
 rcases hp with rfl | ⟨hk',hp⟩
 ·rw[if_pos rfl] at hg;have hm:¬ x∈ps:=by rw[<- hg];decide
  rw[decide_eq_false hm];simp (disch:=omega) only[go_sem,h50l0,aQb]
 ·rw[if_neg (by omega)] at hg;have hm:x∈ps:=by rw[<- hg];omega
  rw[decide_eq_true hm];rw[gd k hk'] at hp;have e:=row k hk';have eS:=cW (hB _ (aQm hk')) hx;rw[eq_true hp.symm] at eS;simp (disch:=omega) only[go_sem,h50l0,aQb,e,eS,zB]
theorem aKN(s:List Int)(hB:aM s):aC6 ((fG s).1,(fG s).2.2):=⟨aKj hB,fun h=>(R3 h).1⟩
theorem aFi(r:bZ)(u:Int):C2 r u=if dG r≠0 then ([],dG r) else if ¬ (1<=u/\u<=65535) then ([],2) else (iO r u,0):=by
 unfold C2 Vr;by_cases c1:dG r=0
 ·rw[if_neg (not_not_intro c1),c1,aP];by_cases c2:1<=u/\u<=65535
  ·rw[if_neg (not_not_intro c2),decide_eq_true c2,eI];rfl
  ·rw[if_pos c2,decide_eq_false c2,fU];rfl
 ·rw[if_pos c1,aQ _ _ c1,if_pos c1]
set_option maxHeartbeats 8000000 in
theorem aFj(hG:G9 G)(hS:G 7=some [ci 0,ci 4])(r:bZ)(hB:∀ a∈r.ats,aM a.nm/\aM a.va)(hl:r.ats.length<=9223372036854775807)(u:Int)(s:List Int)(hs:aM s)(hsl:s.length<=9223372036854775807):
  EV G (Tb (jH G true)) 9 [r.u u,sv s] []=some (vb true,[]):=by
 have qw:=aB9 (G:=G);have q0:=mC (Ou (G:=G) (bb:=true) r hl);simp only[bZ.u,bZ.c,bZ.v,aQy,aQv] at q0 ⊢;cases c0:Ot r with
 | false=>
  rw[c0] at q0;refine aB rfl ?_;simp (disch:=omega) only[go_sem,h9c,qw,q0]
 | true=>
  rw[c0] at q0;by_cases c1:s.length > 600
  ·have c1':600 < (s.length:Int):=by omega
   refine aB rfl ?_;simp (disch:=omega) only[go_sem,h9c,qw,q0,aL,eq_true c1']
  ·have c1':¬ 600 < (s.length:Int):=by omega
   have hW:=Ov c0 hB;have q1:=mC (xX (G:=G) (bb:=true) r hW);have q2:=mC (Lv (G:=G) (bb:=true) hG r hW u);have q3:=L4 (G:=G) (bb:=true) hG s hs hsl;have q4:=mC (up (aEO (G:=G) (bb:=true) hS s hs));have q5:=aF5 (G:=G) (bb:=true) s hs hsl;have q6:=mC (aCl (G:=G) (bb:=true) ((fG s).1,(fG s).2.2) (fG s).2.1 (aKN s hs) (fG s).1 (fun _=>rfl))
   have q7:=mC (Hu (G:=G) (bb:=true) r hW);have q8:=mC (mZ (G:=G) (bb:=true) u 1 65535);have q9:=aCm (G:=G) (bb:=true) sgs (s.take 4) (fun x hx=>hs x (aQO hx)) aC7 (by decide)
   have hA:¬ s.length=512/\aCj s=([],10)\/s.length=512/\((s.take 4∈sgs/\aCj s=(s.take 4,0))\/(¬ s.take 4∈sgs/\aCj s=([],15))):=by
    unfold aCj;by_cases h:s.length=512
    ·refine .inr ⟨h, ?_⟩;rw[if_neg (not_not_intro h)];by_cases h2:s.take 4∈sgs
     ·rw[if_pos h2];exact .inl ⟨h2,rfl⟩
     ·rw[if_neg h2];exact .inr ⟨h2,rfl⟩
    ·rw[if_pos h];exact .inl ⟨h,rfl⟩
   rw[aFi] at q2;have hn:1<=u/\u<=65535->dG r=0->EV G (Tb (jH G true)) 44 [r.v,vi u] []=some (sv (iO r u),[]):=fun h1 h2=>mC (Sh (G:=G) (bb:=true) r hW h2 u (by omega))
   have e0:eG []=⟨#[]⟩:=rfl;have et:((4:Int).toNat)=4:=rfl;have eg:vl (sgs.map nP)=vl [[.raw (.string ⟨#[70,73,76,69]⟩)],[.raw (.string ⟨#[73,78,68,88]⟩)],[.raw (.string ⟨#[82,67,82,68]⟩)],[.raw (.string ⟨#[82,83,84,82]⟩)],[.raw (.string ⟨#[66,65,65,68]⟩)]]:=rfl;rw[eg] at q9;generalize es4:s.take 4=s4 at *;generalize aCj s=sg at *;generalize fG s=p at *;obtain⟨o,w,e⟩:=p;dsimp only at q3 q5 q6;simp only[bZ.u,bZ.uv,bZ.c,bZ.v,aQy,aQv] at q1 q2 q3 q5 q6 q7 hn;rcases hA with⟨a1,rfl⟩ | ⟨a1,⟨a2,rfl⟩ | ⟨a2,rfl⟩⟩
   ·have a1':¬ (s.length:Int)=512:=by omega
    by_cases b1:dG r=0
    ·by_cases b2:1<=u/\u<=65535
     ·have q10:=hn b2 b1;rw[if_neg (not_not_intro b1),if_neg (not_not_intro b2)] at q2;rw[decide_eq_true b2] at q8;rw[b1] at q7;clear hn;generalize iO r u=t at *;refine aB rfl ?_;simp (maxSteps:=2000000) (disch:=omega) only[go_sem,h9c,qw,q0,aL,c1',q1,q2,q3,q4,q5,q6,q7,q8,q10,a1',e0,zB]
     ·rw[if_neg (not_not_intro b1),if_pos b2] at q2;rw[decide_eq_false b2] at q8;rw[b1] at q7;clear hn;refine aB rfl ?_;simp (maxSteps:=2000000) (disch:=omega) only[go_sem,h9c,qw,q0,aL,c1',q1,q2,q3,q4,q5,q6,q7,q8,a1',e0,zB]
    ·rw[if_pos b1] at q2;clear hn;generalize dG r=d at *;refine aB rfl ?_;simp (maxSteps:=2000000) (disch:=omega) only[go_sem,h9c,qw,q0,aL,c1',q1,q2,q3,q4,q5,q6,q7,b1,a1',e0,zB]
   ·have a1':(s.length:Int)=512:=by omega
    rw[decide_eq_true a2] at q9;by_cases b1:dG r=0
    ·by_cases b2:1<=u/\u<=65535
     ·have q10:=hn b2 b1;rw[if_neg (not_not_intro b1),if_neg (not_not_intro b2)] at q2;rw[decide_eq_true b2] at q8;rw[b1] at q7;clear hn;generalize iO r u=t at *;refine aB rfl ?_;simp (maxSteps:=2000000) (disch:=omega) only[go_sem,h9c,qw,q0,aL,c1',q1,q2,q3,q4,q5,q6,q7,q8,q10,eq_true a1',es4,et,aQ9,Int.toNat_zero,Int.reduceToNat,q9,e0,zB]
     ·rw[if_neg (not_not_intro b1),if_pos b2] at q2;rw[decide_eq_false b2] at q8;rw[b1] at q7;clear hn;refine aB rfl ?_;simp (maxSteps:=2000000) (disch:=omega) only[go_sem,h9c,qw,q0,aL,c1',q1,q2,q3,q4,q5,q6,q7,q8,eq_true a1',es4,et,aQ9,Int.toNat_zero,Int.reduceToNat,q9,e0,zB]
    ·rw[if_pos b1] at q2;clear hn;generalize dG r=d at *;refine aB rfl ?_;simp (maxSteps:=2000000) (disch:=omega) only[go_sem,h9c,qw,q0,aL,c1',q1,q2,q3,q4,q5,q6,q7,b1,eq_true a1',es4,et,aQ9,Int.toNat_zero,Int.reduceToNat,q9,e0,zB]
   ·have a1':(s.length:Int)=512:=by omega
    rw[decide_eq_false a2] at q9;by_cases b1:dG r=0
    ·by_cases b2:1<=u/\u<=65535
     ·have q10:=hn b2 b1;rw[if_neg (not_not_intro b1),if_neg (not_not_intro b2)] at q2;rw[decide_eq_true b2] at q8;rw[b1] at q7;clear hn;generalize iO r u=t at *;refine aB rfl ?_;simp (maxSteps:=2000000) (disch:=omega) only[go_sem,h9c,qw,q0,aL,c1',q1,q2,q3,q4,q5,q6,q7,q8,q10,eq_true a1',es4,et,aQ9,Int.toNat_zero,Int.reduceToNat,q9,e0,zB]
     ·rw[if_neg (not_not_intro b1),if_pos b2] at q2;rw[decide_eq_false b2] at q8;rw[b1] at q7;clear hn;refine aB rfl ?_;simp (maxSteps:=2000000) (disch:=omega) only[go_sem,h9c,qw,q0,aL,c1',q1,q2,q3,q4,q5,q6,q7,q8,eq_true a1',es4,et,aQ9,Int.toNat_zero,Int.reduceToNat,q9,e0,zB]
    ·rw[if_pos b1] at q2;clear hn;generalize dG r=d at *;refine aB rfl ?_;simp (maxSteps:=2000000) (disch:=omega) only[go_sem,h9c,qw,q0,aL,c1',q1,q2,q3,q4,q5,q6,q7,b1,eq_true a1',es4,et,aQ9,Int.toNat_zero,Int.reduceToNat,q9,e0,zB]
set_option maxHeartbeats 8000000 in
theorem aJ8(hG:G9 G)(r:bZ)(hB:∀ a∈r.ats,aM a.nm/\aM a.va)(hl:r.ats.length<=9223372036854775807)(u:Int)(s:List Int)(hs:aM s)(hsl:s.length<=9223372036854775807):
  EV G (Tb (jH G true)) 6 [r.u u,sv s] []=some (vb true,[]):=by
 have qw:=aB9 (G:=G);have q0:=mC (Ou (G:=G) (bb:=true) r hl);by_cases c1:s.length > 600
 ·have c1':600 < (s.length:Int):=by omega
  simp only[bZ.u,bZ.c,bZ.v,aQy,aQv] at q0 ⊢;refine aB rfl ?_;simp (disch:=omega) only[go_sem,h6c,qw,q0,aL,eq_true c1']
 ·have c1':¬ 600 < (s.length:Int):=by omega
  have q3:=L4 (G:=G) (bb:=true) hG s hs hsl;have hE:(fG s).2.2=0->EV G (Tb (jH G true)) 41 [(fG s).1.u (fG s).2.1] []=some (bkv (s,0),[]):=fun h=>by
   have:=mC (Lv (G:=G) (bb:=true) hG (fG s).1 (aKj hs) (fG s).2.1);rwa[aHA hs h] at this
  have q8:=mC (mZ (G:=G) (bb:=true) u 1 65535);have hW:Ot r=true->r.W:=fun c0=>Ov c0 hB
  have q7:Ot r=true->EV G (Tb (jH G true)) 29 [r.v] []=some (vi (dG r),[]):=fun c0=>mC (Hu (G:=G) (bb:=true) r (hW c0))
  have hG2:Ot r=true->dG r=0->1<=u/\u<=65535->EV G (Tb (jH G true)) 14 [r.v] []=some (r.v,[])/\EV G (Tb (jH G true)) 41 [r.u u] []=some (bkv (iO r u,0),[])/\
    EV G (Tb (jH G true)) 40 [sv (iO r u)] []=some (dcv (r,u,0),[])/\EV G (Tb (jH G true)) 39 [r.v,r.v] []=some (vb true,[]):=fun h1 h2 h3=>by
   have hW:=hW h1;obtain⟨d1,d2,d3⟩:=C5 hW h2 h3;have k1:=mC (Lv (G:=G) (bb:=true) hG r hW u);rw[aFi,if_neg (not_not_intro h2),if_neg (not_not_intro h3)] at k1;have k2:=L4 (G:=G) (bb:=true) hG (iO r u) d3 (by omega);rw[d1] at k2;exact⟨mC (xX (G:=G) (bb:=true) r hW),k1,k2,mC (Vu (G:=G) (bb:=true) r hW)⟩
  generalize fG s=p at *;obtain⟨o,w,e⟩:=p;dsimp only at q3 hE;have e0:eG []=⟨#[]⟩:=rfl;simp only[bZ.u,bZ.c,bZ.v,aQy,aQv] at q0 q3 q7 hE hG2 ⊢;generalize iO r u=t at *;clear hW;have hD:e=0/\True\/¬ e=0:=by by_cases h:e=0;exact .inl ⟨h,trivial⟩;exact .inr h
  cases c0:Ot r with
  | false=>
   rw[c0] at q0;clear hG2 q7;rcases hD with⟨rfl,_⟩ | d1
   ·have hE:=hE rfl;refine aB rfl ?_;simp (maxSteps:=2000000) (disch:=omega) only[go_sem,h6c,qw,q0,aL,c1',q3,hE,zB]
   ·clear hE;refine aB rfl ?_;simp (maxSteps:=2000000) (disch:=omega) only[go_sem,h6c,qw,q0,aL,c1',q3,d1,zB]
  | true=>
   rw[c0] at q0;have q7:=q7 c0;by_cases b1:dG r=0
   ·by_cases b2:1<=u/\u<=65535
    ·obtain⟨k1,k2,k3,k4⟩:=hG2 c0 b1 b2;clear hG2;rw[decide_eq_true b2] at q8;rw[b1] at q7;rcases hD with⟨rfl,_⟩ | d1
     ·have hE:=hE rfl;refine aB rfl ?_;simp (maxSteps:=2000000) (disch:=omega) only[go_sem,h6c,qw,q0,aL,c1',q3,hE,q7,q8,k1,k2,k3,k4,zB]
     ·clear hE;refine aB rfl ?_;simp (maxSteps:=2000000) (disch:=omega) only[go_sem,h6c,qw,q0,aL,c1',q3,d1,q7,q8,k1,k2,k3,k4,zB]
    ·clear hG2;rw[decide_eq_false b2] at q8;rw[b1] at q7;rcases hD with⟨rfl,_⟩ | d1
     ·have hE:=hE rfl;refine aB rfl ?_;simp (maxSteps:=2000000) (disch:=omega) only[go_sem,h6c,qw,q0,aL,c1',q3,hE,q7,q8,zB]
     ·clear hE;refine aB rfl ?_;simp (maxSteps:=2000000) (disch:=omega) only[go_sem,h6c,qw,q0,aL,c1',q3,d1,q7,q8,zB]
   ·clear hG2;generalize dG r=d at *;rcases hD with⟨rfl,_⟩ | d1
    ·have hE:=hE rfl;refine aB rfl ?_;simp (maxSteps:=2000000) (disch:=omega) only[go_sem,h6c,qw,q0,aL,c1',q3,hE,q7,b1,zB]
    ·clear hE;refine aB rfl ?_;simp (maxSteps:=2000000) (disch:=omega) only[go_sem,h6c,qw,q0,aL,c1',q3,d1,q7,b1,zB]
end
end Go.Proofs.YtcplecjhmnblpaaGreatDoor
