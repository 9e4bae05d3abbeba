/- The sign of a block, by the program. Conditions: as each theorem says. -/
import Derived.Test.YtcplecjhmnblpaaGreatDoorMf
import Derived.Test.YtcplecjhmnblpaaGreatDoorCards
import Derived.Test.YtcplecjhmnblpaaGreatDoorTie
import Derived.ProofKit
import Derived.MakeChecks
import Derived.Stop.LaidErr
import Derived.Deep.DeepHandedRow
import Derived.Lib.LaidTab
import Derived.LaidMore
import Derived.LaidHandle
import Derived.LaidLaws
import Derived.Lay
import Derived.Shelf.Vars
import Derived.Test.YtcplecjhmnblpaaGreatDoorSq
namespace Go.Proofs.YtcplecjhmnblpaaGreatDoor
set_option linter.unusedSimpArgs false
set_option linter.unusedVariables false
set_option maxRecDepth 4000
section
variable {G:aH} {bb:Bool}
open Go.ChangeShapes Go.WideShapes Go.ChangeAt Go.RowKit
theorem Tryz.own:ownKnob Tryz.prog.godebug=none:=by kernel_rfl
theorem Tryz.laidOut:laidOutB Tryz.prog=true:=by kernel_rfl
theorem iG:Tryz.prog.cellsOf 3=1:=by kernel_rfl
theorem aJP:Tryz.prog.cellsOf 4=1:=by kernel_rfl
theorem aBX:Tryz.prog.cellsOf 9=1:=by kernel_rfl
theorem aFQ:Tryz.prog.cellsOf 42=1:=by kernel_rfl
theorem aFR:Tryz.prog.cellsOf 44=11:=by kernel_rfl
theorem aFS:Tryz.prog.cellsOf 106=2:=by kernel_rfl
def nT(i:Int):Prop:=-9223372036854775808<=i/\i<=9223372036854775807
theorem aBY{m:Nat}{ds:List DC}(h:iA Tryz.prog (m+4) 42 ds):∃ l:List bI,ds=[.slc (l.map bI.e)]/\∀ r∈l,nT r.s/\nT r.n:=by
 rw[iA,Tryz.underlying42] at h;obtain⟨es,rfl,_,he⟩:=h;have key:∀ es:List (List DC),(∀ d∈es,iA Tryz.prog (m+3) 106 d)->∃ l:List bI,es=l.map bI.e/\∀ r∈l,nT r.s/\nT r.n:=by
  intro es
  induction es with
  | nil=>intro _;exact⟨[],rfl,by simp⟩
  | cons d es ih=>
   intro h;obtain⟨l,rfl,hl⟩:=ih (fun d hd=>h d (aQE _ hd))
   obtain⟨a,b,rfl,ha,hb⟩:=Sd Tryz.underlying106 Tryz.underlying3 Tryz.underlying3 rfl rfl iG iG aFS (h d aQt);exact⟨⟨a,b⟩::l,rfl,fun r hr=>by
    rcases List.mem_cons.1 hr with rfl | hr
    ·exact⟨ha,hb⟩
    ·exact hl r hr⟩
 obtain⟨l,rfl,hl⟩:=key es he;exact⟨l,rfl,hl⟩
theorem Ly{m:Nat}{x:DC}(h:iA Tryz.prog (m+1) 9 [x]):∃ l:List Int,x=.raw (.string (eG l))/\aM l:=by
 rw[iA,Tryz.underlying9] at h;obtain⟨s,h1,_⟩:=h;obtain⟨l,h2,rfl⟩:=Q3 s;injection h1 with h1 _
 exact⟨l,h1,h2⟩
theorem kZ{m:Nat}{x:DC}(h:iA Tryz.prog (m+1) 3 [x]):∃ i:Int,x=ci i/\nT i:=by
 obtain⟨i,h1,h2⟩:=Dg Tryz.underlying3 h;injection h1 with h1 _;exact⟨i,h1,uJ h2⟩
theorem aJQ{m:Nat}{x:DC}(h:iA Tryz.prog (m+1) 4 [x]):∃ b:Bool,x=.raw (.bool b):=by
 rw[iA,Tryz.underlying4] at h;obtain⟨b,h1⟩:=h;injection h1 with h1 _
 exact⟨b,h1⟩
structure aE.In (a:aE):Prop where
 ty:nT a.ty
 id:nT a.id
 fl:nT a.fl
 fi:nT a.fi
 al:nT a.al
 sz:nT a.sz
 vd:nT a.vd
 nm:aM a.nm
 va:aM a.va
 rs:∀ r∈a.rs,nT r.s/\nT r.n
def aE.d(a:aE):List DC:=[ci a.ty,.raw (.string (eG a.nm)),ci a.id,ci a.fl,.raw (.bool a.res),.raw (.string (eG a.va)),ci a.fi,.slc (a.rs.map bI.e),ci a.al,ci a.sz,ci a.vd]
theorem aFT{m:Nat}{ds:List DC}(h:iA Tryz.prog (m+5) 44 ds):∃ a:aE,ds=a.d/\a.In:=by
 rw[iA,Tryz.underlying44] at h;obtain⟨hl,hf⟩:=h;rw[aFR] at hl
 match ds,hl with
 | [x0,x1,x2,x3,x4,x5,x6,x7,x8,x9,x10],_=>
  have h0:iA Tryz.prog (m+4) 3 [x0]:=by
   have h:iA Tryz.prog (m+4) 3 (([x0,x1,x2,x3,x4,x5,x6,x7,x8,x9,x10].drop 0).take (Tryz.prog.cellsOf 3)):=hf 0 _ rfl;rw[iG] at h;exact h
  have h1:iA Tryz.prog (m+4) 9 [x1]:=by
   have h:iA Tryz.prog (m+4) 9 (([x0,x1,x2,x3,x4,x5,x6,x7,x8,x9,x10].drop 1).take (Tryz.prog.cellsOf 9)):=hf 1 _ rfl;rw[aBX] at h;exact h
  have h2:iA Tryz.prog (m+4) 3 [x2]:=by
   have h:iA Tryz.prog (m+4) 3 (([x0,x1,x2,x3,x4,x5,x6,x7,x8,x9,x10].drop 2).take (Tryz.prog.cellsOf 3)):=hf 2 _ rfl;rw[iG] at h;exact h
  have h3:iA Tryz.prog (m+4) 3 [x3]:=by
   have h:iA Tryz.prog (m+4) 3 (([x0,x1,x2,x3,x4,x5,x6,x7,x8,x9,x10].drop 3).take (Tryz.prog.cellsOf 3)):=hf 3 _ rfl;rw[iG] at h;exact h
  have h4:iA Tryz.prog (m+4) 4 [x4]:=by
   have h:iA Tryz.prog (m+4) 4 (([x0,x1,x2,x3,x4,x5,x6,x7,x8,x9,x10].drop 4).take (Tryz.prog.cellsOf 4)):=hf 4 _ rfl;rw[aJP] at h;exact h
  have h5:iA Tryz.prog (m+4) 9 [x5]:=by
   have h:iA Tryz.prog (m+4) 9 (([x0,x1,x2,x3,x4,x5,x6,x7,x8,x9,x10].drop 5).take (Tryz.prog.cellsOf 9)):=hf 5 _ rfl;rw[aBX] at h;exact h
  have h6:iA Tryz.prog (m+4) 3 [x6]:=by
   have h:iA Tryz.prog (m+4) 3 (([x0,x1,x2,x3,x4,x5,x6,x7,x8,x9,x10].drop 6).take (Tryz.prog.cellsOf 3)):=hf 6 _ rfl;rw[iG] at h;exact h
  have h7:iA Tryz.prog (m+4) 42 [x7]:=by
   have h:iA Tryz.prog (m+4) 42 (([x0,x1,x2,x3,x4,x5,x6,x7,x8,x9,x10].drop 7).take (Tryz.prog.cellsOf 42)):=hf 7 _ rfl;rw[aFQ] at h;exact h
  have h8:iA Tryz.prog (m+4) 3 [x8]:=by
   have h:iA Tryz.prog (m+4) 3 (([x0,x1,x2,x3,x4,x5,x6,x7,x8,x9,x10].drop 8).take (Tryz.prog.cellsOf 3)):=hf 8 _ rfl;rw[iG] at h;exact h
  have h9:iA Tryz.prog (m+4) 3 [x9]:=by
   have h:iA Tryz.prog (m+4) 3 (([x0,x1,x2,x3,x4,x5,x6,x7,x8,x9,x10].drop 9).take (Tryz.prog.cellsOf 3)):=hf 9 _ rfl;rw[iG] at h;exact h
  have h10:iA Tryz.prog (m+4) 3 [x10]:=by
   have h:iA Tryz.prog (m+4) 3 (([x0,x1,x2,x3,x4,x5,x6,x7,x8,x9,x10].drop 10).take (Tryz.prog.cellsOf 3)):=hf 10 _ rfl;rw[iG] at h;exact h
  obtain⟨i0,rfl,e0⟩:=kZ h0;obtain⟨i1,rfl,e1⟩:=Ly h1;obtain⟨i2,rfl,e2⟩:=kZ h2;obtain⟨i3,rfl,e3⟩:=kZ h3;obtain⟨i4,rfl⟩:=aJQ h4;obtain⟨i5,rfl,e5⟩:=Ly h5;obtain⟨i6,rfl,e6⟩:=kZ h6;obtain⟨i7,g7,e7⟩:=aBY h7;obtain⟨i8,rfl,e8⟩:=kZ h8;obtain⟨i9,rfl,e9⟩:=kZ h9;obtain⟨i10,rfl,e10⟩:=kZ h10;injection g7 with g7 _;subst g7;exact⟨⟨i0,i1,i2,i3,i4,i5,i6,i7,i8,i9,i10⟩,rfl,⟨e0,e2,e3,e6,e8,e9,e10,e1,e5,e7⟩⟩
theorem aBZ{m:Nat}{av:AV}(h:V1 Tryz.prog (m+6) 24 av):∃ l:List aE,av=vl (l.map aE.e)/\(∀ a∈l,a.In)/\l.length<=9223372036854775807:=by
 obtain⟨es,rfl,hm,he⟩:=V2 Tryz.underlying24 h;have hm':es.length<=9223372036854775807:=Nat.le_trans hm (by unfold maxLen;omega);have key:∀ es:List (List DC),(∀ d∈es,iA Tryz.prog (m+5) 44 d)->∃ l:List aE,es=l.map aE.e/\∀ a∈l,a.In:=by
  intro es
  induction es with
  | nil=>intro _;exact⟨[],rfl,by simp⟩
  | cons d es ih=>
   intro h;obtain⟨l,rfl,hl⟩:=ih (fun d hd=>h d (aQE _ hd))
   obtain⟨a,rfl,ha⟩:=aFT (h d aQt);exact⟨a::l,rfl,fun r hr=>by
    rcases List.mem_cons.1 hr with rfl | hr
    ·exact ha
    ·exact hl r hr⟩
 obtain⟨l,rfl,hl⟩:=key es he;exact⟨l,rfl,hl,by simpa using hm'⟩
theorem aJR:Tryz.prog.cellsOf 24=1:=by kernel_rfl
theorem aB0:Tryz.prog.cellsOf 23=2:=by kernel_rfl
theorem aJS:Tryz.prog.cellsOf 26=8:=by kernel_rfl
theorem aB1{m:Nat}{ds:List DC}(h:iA Tryz.prog (m+6) 24 ds):∃ l:List aE,ds=[.slc (l.map aE.e)]/\(∀ a∈l,a.In)/\l.length<=9223372036854775807:=by
 match ds with
 | [x]=>
  obtain⟨l,h1,h2,h3⟩:=aBZ (av:=.one (.dc x)) (m:=m) ⟨by kernel_rfl,h⟩;injection h1 with h1
  injection h1 with h1
  exact⟨l,by rw[h1],h2,h3⟩
 | []=>rw[iA,Tryz.underlying24] at h;obtain⟨es,h1,_⟩:=h;cases h1
 | _::_::_=>rw[iA,Tryz.underlying24] at h;obtain⟨es,h1,_⟩:=h;cases h1
structure bZ.In (r:bZ):Prop where
 sq:nT r.sq
 li:nT r.li
 fl:nT r.fl
 br:nT r.br
 bq:nT r.bq
 nx:nT r.nx
 ls:nT r.ls
 at':∀ a∈r.ats,a.In
 ln:r.ats.length<=9223372036854775807
theorem Se{m:Nat}{ds:List DC}(h:iA Tryz.prog (m+7) 26 ds):∃ r:bZ,ds=[ci r.sq,ci r.li,ci r.fl,ci r.br,ci r.bq,ci r.nx,ci r.ls,.slc (r.ats.map aE.e)]/\r.In:=by
 rw[iA,Tryz.underlying26] at h;obtain⟨hl,hf⟩:=h;rw[aJS] at hl
 match ds,hl with
 | [x0,x1,x2,x3,x4,x5,x6,x7],_=>
  have h0:iA Tryz.prog (m+6) 3 [x0]:=by
   have h:iA Tryz.prog (m+6) 3 (([x0,x1,x2,x3,x4,x5,x6,x7].drop 0).take (Tryz.prog.cellsOf 3)):=hf 0 _ rfl;rw[iG] at h;exact h
  have h1:iA Tryz.prog (m+6) 3 [x1]:=by
   have h:iA Tryz.prog (m+6) 3 (([x0,x1,x2,x3,x4,x5,x6,x7].drop 1).take (Tryz.prog.cellsOf 3)):=hf 1 _ rfl;rw[iG] at h;exact h
  have h2:iA Tryz.prog (m+6) 3 [x2]:=by
   have h:iA Tryz.prog (m+6) 3 (([x0,x1,x2,x3,x4,x5,x6,x7].drop 2).take (Tryz.prog.cellsOf 3)):=hf 2 _ rfl;rw[iG] at h;exact h
  have h3:iA Tryz.prog (m+6) 23 [x3,x4]:=by
   have h:iA Tryz.prog (m+6) 23 (([x0,x1,x2,x3,x4,x5,x6,x7].drop 3).take (Tryz.prog.cellsOf 23)):=hf 3 _ rfl;rw[aB0] at h;exact h
  have h4:iA Tryz.prog (m+6) 3 [x5]:=by
   have h:iA Tryz.prog (m+6) 3 (([x0,x1,x2,x3,x4,x5,x6,x7].drop 5).take (Tryz.prog.cellsOf 3)):=hf 4 _ rfl;rw[iG] at h;exact h
  have h5:iA Tryz.prog (m+6) 3 [x6]:=by
   have h:iA Tryz.prog (m+6) 3 (([x0,x1,x2,x3,x4,x5,x6,x7].drop 6).take (Tryz.prog.cellsOf 3)):=hf 5 _ rfl;rw[iG] at h;exact h
  have h6:iA Tryz.prog (m+6) 24 [x7]:=by
   have h:iA Tryz.prog (m+6) 24 (([x0,x1,x2,x3,x4,x5,x6,x7].drop 7).take (Tryz.prog.cellsOf 24)):=hf 6 _ rfl;rw[aJR] at h;exact h
  obtain⟨i0,rfl,r0⟩:=kZ (m:=m+5) h0;obtain⟨i1,rfl,r1⟩:=kZ (m:=m+5) h1;obtain⟨i2,rfl,r2⟩:=kZ (m:=m+5) h2;obtain⟨a,b,e3,ra,rb⟩:=Sd (m:=m+4) Tryz.underlying23 Tryz.underlying3 Tryz.underlying3 rfl rfl iG iG aB0 h3;injection e3 with e3 e4;injection e4 with e4 _;subst e3;subst e4;obtain⟨i5,rfl,r5⟩:=kZ (m:=m+5) h4;obtain⟨i6,rfl,r6⟩:=kZ (m:=m+5) h5;obtain⟨l,e7,r7,r8⟩:=aB1 (m:=m) h6;injection e7 with e7 _;subst e7;exact⟨⟨i0,i1,i2,a,b,i5,i6,l⟩,rfl,r0,r1,r2,ra,rb,r5,r6,r7,r8⟩
theorem D4{H:Type}{enc:TypeId × Value->H}{P:Program}{w:World}{base:Nat}{sp:Nat->Bool}{held:Bool}{fuel:Nat}{t:TypeId}{f0 f1:Field}{cs:List Value}{a b:Int}{p:List MemPlace}
  (ht:P.underlying t=some (.struct #[f0,f1])) (h0:P.underlying f0.type=some (.int .i64)) (h1:P.underlying f1.type=some (.int .i64)) (o0:f0.offset=0) (o1:f1.offset=1)
  (c0:P.cellsOf f0.type=1) (c1:P.cellsOf f1.type=1) (ct:P.cellsOf t=2)
  (h:DataW.trod enc P w base sp held fuel t cs=some (.agg [.lit (.int .i64 a),.lit (.int .i64 b)],p)):cs=[.int .i64 a,.int .i64 b]:=by
 cases fuel with
 | zero=>simp[DataW.trod] at h
 | succ fuel=>
  simp only[DataW.trod,ht,ct] at h;split at h
  ·rename_i hl;obtain⟨xs,hm,hx⟩:=Option.map_eq_some_iff.1 h
   match cs,hl with
   | [x,y],_=>
    simp only[aQ2,List.mapM_nil,o0,o1,c0,c1,aQ9,aRG,aRx,aRq,List.take_nil] at hm;obtain⟨u,hu,hm⟩:=aQX.1 hm;obtain⟨vs,hv,hm⟩:=aQX.1 hm;obtain⟨v,hv,hm2⟩:=aQX.1 hv;obtain⟨n0,e0,rfl,_⟩:=DataW.trod_int h0 hu;obtain⟨n1,e1,rfl,_⟩:=DataW.trod_int h1 hv;simp at hm2 hm;subst hm2;subst hm;simp at hx e0 e1;obtain⟨⟨rfl,rfl⟩,_⟩:=hx;rw[e0,e1]
  ·cases h
theorem jQ{W:World}{name:String}{a b:Int}{rest:List (String × DataW Unit)}{g:Nat}(hg:Tryz.prog.globalNamed name=some g)(hty:(Tryz.prog.globals[g]?).map (·.type)=some 124)
  (h:laidMet Tryz.prog ((name,.agg [.lit (.int .i64 a),.lit (.int .i64 b)])::rest) W):W.var? Tryz.prog name=some #[.int .i64 a,.int .i64 b]:=by
 obtain⟨ps,⟨g',t',cs,fuel,p,q,hg',ht',hvar,hd,_,_⟩,_⟩:=h;obtain rfl:=Option.some.inj (hg.symm.trans hg');obtain rfl:=Option.some.inj (hty.symm.trans ht');have:=D4 Tryz.underlying124 Tryz.underlying3 Tryz.underlying3 rfl rfl iG iG (by kernel_rfl) hd;rw[hvar];congr 1;rw[<- aRw];exact this
theorem lT{W:World}{name:String}{a b:Int}{g:Nat}(hv:W.var? Tryz.prog name=some #[.int .i64 a,.int .i64 b])(hg:Tryz.prog.globalNamed name=some g):
  (∀ γ,RC (gT W) γ (.ref [ci a,ci b]) (.pointer (some ⟨g,0,none⟩)))/\∃ o,gT W g=some o/\∃ vs t z,o=.cells vs t z/\vs.size=[ci a,ci b].length:=by
 refine⟨fun γ=>.ref _ g 0 (fun j=>.int .i64 ([a,b].getD j 0)) (fun j d hd=>?_) (fun j d hd=>?_), ?_⟩
 ·match j with
  | 0=>injection hd with hd;subst hd;exact .raw _ rfl
  | 1=>injection hd with hd;subst hd;exact .raw _ rfl
  | j+2=>simp at hd
 ·match j with
  | 0=>have:=World.var?_cell hg hv 0;exact (show W.cell? ⟨g,0,none⟩=some (.int .i64 a) by simpa using this)
  | 1=>have:=World.var?_cell hg hv 1;exact (show W.cell? ⟨g,1,none⟩=some (.int .i64 b) by simpa using this)
  | j+2=>simp at hd
 ·unfold World.var? at hv;rw[hg,aQq] at hv;unfold gT;cases ho:W.heap[g]? with
  | none=>rw[ho] at hv;cases hv
  | some o=>
   rw[ho] at hv;cases o with
   | cells vs t z=>
    simp only[Option.some.injEq] at hv;exact⟨_,rfl,_,_,_,rfl,by rw[hv];rfl⟩
   | _=>simp at hv
theorem Tryz.g_ls:Tryz.prog.globalNamed "depository/record.fieldLSN"=some 6:=by kernel_rfl
theorem Tryz.g_sq:Tryz.prog.globalNamed "depository/record.fieldSequence"=some 0:=by kernel_rfl
theorem Tryz.g_li:Tryz.prog.globalNamed "depository/record.fieldLinks"=some 1:=by kernel_rfl
theorem Tryz.g_fi:Tryz.prog.globalNamed "depository/record.fieldFirst"=some 8:=by kernel_rfl
theorem Tryz.g_fl:Tryz.prog.globalNamed "depository/record.fieldFlags"=some 2:=by kernel_rfl
theorem Tryz.g_en:Tryz.prog.globalNamed "depository/record.fieldEnd"=some 9:=by kernel_rfl
theorem Tryz.g_si:Tryz.prog.globalNamed "depository/record.fieldSize"=some 10:=by kernel_rfl
theorem Tryz.g_ba:Tryz.prog.globalNamed "depository/record.fieldBase"=some 3:=by kernel_rfl
theorem Tryz.g_bo:Tryz.prog.globalNamed "depository/record.fieldBaseOf"=some 4:=by kernel_rfl
theorem Tryz.g_nx:Tryz.prog.globalNamed "depository/record.fieldNext"=some 5:=by kernel_rfl
def GF:aH:=fun g=>
 if g=6 then some [ci 8,ci 4] else
 if g=0 then some [ci 16,ci 2] else
 if g=1 then some [ci 18,ci 2] else
 if g=8 then some [ci 20,ci 2] else
 if g=2 then some [ci 22,ci 2] else
 if g=9 then some [ci 24,ci 4] else
 if g=10 then some [ci 28,ci 4] else
 if g=3 then some [ci 32,ci 4] else
 if g=4 then some [ci 36,ci 2] else
 if g=5 then some [ci 38,ci 2] else
 none
theorem aJT:G9 GF:=⟨rfl,rfl,rfl,rfl,rfl,rfl,rfl,rfl,rfl,rfl⟩
theorem aGS{W:World}(h:laidMetH Tryz.prog Rows.recordChecksRow.laid W):dY (gT W) GF:=by
 rw[MakeChecks.laidMetH_plain _ _ _ (by kernel_rfl)] at h;have h:=laidMet.tail (laidMet.tail (laidMet.tail (laidMet.tail h)));have v_ls:=lT (jQ (a:=8) (b:=4) Tryz.g_ls (by kernel_rfl) h) Tryz.g_ls;have h:=laidMet.tail h;have v_sq:=lT (jQ (a:=16) (b:=2) Tryz.g_sq (by kernel_rfl) h) Tryz.g_sq;have h:=laidMet.tail h;have v_li:=lT (jQ (a:=18) (b:=2) Tryz.g_li (by kernel_rfl) h) Tryz.g_li;have h:=laidMet.tail h;have v_fi:=lT (jQ (a:=20) (b:=2) Tryz.g_fi (by kernel_rfl) h) Tryz.g_fi;have h:=laidMet.tail h;have v_fl:=lT (jQ (a:=22) (b:=2) Tryz.g_fl (by kernel_rfl) h) Tryz.g_fl;have h:=laidMet.tail h;have v_en:=lT (jQ (a:=24) (b:=4) Tryz.g_en (by kernel_rfl) h) Tryz.g_en;have h:=laidMet.tail h;have v_si:=lT (jQ (a:=28) (b:=4) Tryz.g_si (by kernel_rfl) h) Tryz.g_si;have h:=laidMet.tail h;have v_ba:=lT (jQ (a:=32) (b:=4) Tryz.g_ba (by kernel_rfl) h) Tryz.g_ba;have h:=laidMet.tail h;have v_bo:=lT (jQ (a:=36) (b:=2) Tryz.g_bo (by kernel_rfl) h) Tryz.g_bo;have h:=laidMet.tail h;have v_nx:=lT (jQ (a:=38) (b:=2) Tryz.g_nx (by kernel_rfl) h) Tryz.g_nx;have h:=laidMet.tail h;refine⟨fun g cs hg γ=>?_,fun g cs hg=>?_⟩
 ·unfold GF at hg;by_cases c_ls:g=6
  ·rw[if_pos c_ls] at hg;injection hg with hg
   subst hg;subst c_ls;exact v_ls.1 γ
  rw[if_neg c_ls] at hg;by_cases c_sq:g=0
  ·rw[if_pos c_sq] at hg;injection hg with hg
   subst hg;subst c_sq;exact v_sq.1 γ
  rw[if_neg c_sq] at hg;by_cases c_li:g=1
  ·rw[if_pos c_li] at hg;injection hg with hg
   subst hg;subst c_li;exact v_li.1 γ
  rw[if_neg c_li] at hg;by_cases c_fi:g=8
  ·rw[if_pos c_fi] at hg;injection hg with hg
   subst hg;subst c_fi;exact v_fi.1 γ
  rw[if_neg c_fi] at hg;by_cases c_fl:g=2
  ·rw[if_pos c_fl] at hg;injection hg with hg
   subst hg;subst c_fl;exact v_fl.1 γ
  rw[if_neg c_fl] at hg;by_cases c_en:g=9
  ·rw[if_pos c_en] at hg;injection hg with hg
   subst hg;subst c_en;exact v_en.1 γ
  rw[if_neg c_en] at hg;by_cases c_si:g=10
  ·rw[if_pos c_si] at hg;injection hg with hg
   subst hg;subst c_si;exact v_si.1 γ
  rw[if_neg c_si] at hg;by_cases c_ba:g=3
  ·rw[if_pos c_ba] at hg;injection hg with hg
   subst hg;subst c_ba;exact v_ba.1 γ
  rw[if_neg c_ba] at hg;by_cases c_bo:g=4
  ·rw[if_pos c_bo] at hg;injection hg with hg
   subst hg;subst c_bo;exact v_bo.1 γ
  rw[if_neg c_bo] at hg;by_cases c_nx:g=5
  ·rw[if_pos c_nx] at hg;injection hg with hg
   subst hg;subst c_nx;exact v_nx.1 γ
  rw[if_neg c_nx] at hg;cases hg
 ·unfold GF at hg;by_cases c_ls:g=6
  ·rw[if_pos c_ls] at hg;injection hg with hg
   subst hg;subst c_ls;exact v_ls.2
  rw[if_neg c_ls] at hg;by_cases c_sq:g=0
  ·rw[if_pos c_sq] at hg;injection hg with hg
   subst hg;subst c_sq;exact v_sq.2
  rw[if_neg c_sq] at hg;by_cases c_li:g=1
  ·rw[if_pos c_li] at hg;injection hg with hg
   subst hg;subst c_li;exact v_li.2
  rw[if_neg c_li] at hg;by_cases c_fi:g=8
  ·rw[if_pos c_fi] at hg;injection hg with hg
   subst hg;subst c_fi;exact v_fi.2
  rw[if_neg c_fi] at hg;by_cases c_fl:g=2
  ·rw[if_pos c_fl] at hg;injection hg with hg
   subst hg;subst c_fl;exact v_fl.2
  rw[if_neg c_fl] at hg;by_cases c_en:g=9
  ·rw[if_pos c_en] at hg;injection hg with hg
   subst hg;subst c_en;exact v_en.2
  rw[if_neg c_en] at hg;by_cases c_si:g=10
  ·rw[if_pos c_si] at hg;injection hg with hg
   subst hg;subst c_si;exact v_si.2
  rw[if_neg c_si] at hg;by_cases c_ba:g=3
  ·rw[if_pos c_ba] at hg;injection hg with hg
   subst hg;subst c_ba;exact v_ba.2
  rw[if_neg c_ba] at hg;by_cases c_bo:g=4
  ·rw[if_pos c_bo] at hg;injection hg with hg
   subst hg;subst c_bo;exact v_bo.2
  rw[if_neg c_bo] at hg;by_cases c_nx:g=5
  ·rw[if_pos c_nx] at hg;injection hg with hg
   subst hg;subst c_nx;exact v_nx.2
  rw[if_neg c_nx] at hg;cases hg
section
variable {H:Type} {enc:TypeId × Value->H}
theorem sF{a:Assume}{C:Checked}{os:Os}{f:FuncId}{fn:Func}{s:ChangeSpec}{conds:List PathCond}{apart fresh handsOn again:Bool}{X:World->Array Value->Prop}
  (hX:∀ (w w':World) (args:Array Value),w.heap=w'.heap->X w args->X w' args)
  (own:ownKnob C.prog.godebug=none) (started:os.Started) (noInit:C.prog.inits.idxOf? f=none) (hfn:C.prog.funcs[f]?=some fn)
  (witness:∃ (w:World) (tape:Tape) (i:Input),w.os=os/\(w.forCall tape i).Shaped C.prog/\i.vars=[]/\Input.okWide C.prog (w.forCall tape i) .any w.heap.size f i/\
   ((s.pre enc C.prog fn conds apart (w.forCall tape i).memory i.args/\X (w.forCall tape i).memory i.args)/\sizedMet enc C.prog fn (OpenSpec.ofChange s) apart (w.forCall tape i).memory i.args)/\a.holds C.prog (lone (Frame.enter C.prog f i.args .normal) [] (w.forCall tape i)))
  (contract:∀ (W:World) (base:Nat) (args:Array Value) (ds gs:List (DataW H)) (before:List MemPlace),
   (∀ (j:Nat) t v,fn.params[j]?=some t->args[j]?=some v->Value.okWide C.prog W .any base t v)->
   DataW.Whole enc C.prog fn.params.toList s.vars apart W args.toList ds gs before->
   X W args->W.ShapedOpen C.prog->
   Calls C.prog f args W fun e W'=>∃ v,e=.returned v/\s.post enc C.prog fn apart fresh handsOn again W args v W'):
  ReturnsInHanded a C os f .any (fun w args=>(s.pre enc C.prog fn conds apart w args/\X w args)/\sizedMet enc C.prog fn (OpenSpec.ofChange s) apart w args) (s.post enc C.prog fn apart fresh handsOn again):=by
 refine returnsInHanded_of_calls own started noInit witness ?_;intro w tape i _ hsh _ hok hpre hholds;obtain⟨_,_,_,fn',hfn',_,_,_,_,hval⟩:=hok;have e:fn'=fn:=Option.some.inj (hfn'.symm.trans hfn);subst e;obtain⟨⟨⟨ds,gs,before,hw,hc⟩,hx⟩,hz⟩:=hpre;have hw':=DataW.Whole.of_heap (w':=w.forCall tape i) (by rfl) hw;refine (contract (w.forCall tape i) w.heap.size i.args ds gs before hval hw' (hX _ _ _ (by rfl) hx) hsh).mono fun e W' ⟨v,he,hp⟩=>?_
 subst he;exact ChangeSpec.post_blind hp
end
end
section
variable {G:aH} {bb:Bool}
theorem sG(l:List Int)(hB:aM l)(a k:Nat)(ha:a+k<=l.length)(hk:k<=4)(hl:l.length<=1000000):EV G (Tb (bs bb)) 97 [D3 a k,sv l] []=some (vi (gL l a k),[]):=by
 refine aB rfl ?_;simp (disch:=first | omega | (simp only[aQc,aQd,aQe,aQb,aA];omega)) only[go_sem,h97c]
 rw[bG (fun j=>⟨(jk 1 (sv l::.one (.ptr 0 0)::jk 2 (vi (gL l (a+k - j) j)::vi ((k:Int) - 1 - j)::jk 18 []))),[.box [.dc (ci a),.dc (ci k)]]⟩) k ?_ ?_]
 ·have e:a+k - k=a:=by omega
  have e2:¬ 0<=(k:Int) - 1 - (k:Int):=by omega
  simp (disch:=first | omega | (simp only[aQc,aQd,aQe,aQb,aA];omega)) only[go_sem,h97l0,e,e2]
 ·simp[gL,gv,jk]
 ·intro j hj;have hx:=hB _ (aQm (show a+k - 1 - j < l.length by omega));have g1:=lE hB (a+k - j) j (by omega);have e1:gL l (a+k - (j+1)) (j+1)=gL l (a+k - j) j * 256+l[a+k - 1 - j]'(by omega):=by
   have:a+k - (j+1) < l.length:=by omega
   rw[aJl l _ j this,show a+k - (j+1)+1=a+k - j by omega,Int.mul_comm];rw[Int.add_comm];congr 1;congr 1;omega
  have e2:0<=(k:Int) - 1 - (j:Int):=by omega
  rw[e1];generalize gL l (a+k - j) j=z at g1 ⊢;have eN:((a:Int)+((k:Int) - 1 - (j:Int))).toNat=a+k - 1 - j:=by omega
  have hu:=jJ _ hx;have o:=orL z _ (by omega) hx;simp (disch:=first | omega | (simp only[aQc,aQd,aQe,aQb,aA];omega)) only[go_sem,h97l0,eq_true e2,aQw,eN,hu,Int.reduceToNat,Int.reducePow,o]
  rw[show (k:Int) - 1 - (j:Int) - 1=(k:Int) - 1 - ((j:Int)+1) by omega]
end
section
variable {G:aH} {bb:Bool}
theorem aJU(s:List Int)(hB:aM s)(hl:s.length<=1000000):EV G (Tb (bs bb)) 148 [sv s,.one (.dc (.raw (.string ⟨#[255,255,255,255]⟩)))] []=some (vb (decide (s.take 4=pP)),[]):=by
 have e:EV G (Tb (bs bb)) 184 [sv s,.one (.dc (.raw (.string ⟨#[255,255,255,255]⟩)))] []=some (vb (decide (s.take 4=pP)),[]):=by
  refine aB rfl ?_;have e4:(((#[255,255,255,255]:Array UInt8).size:Nat):Int)=4:=rfl;by_cases c:4<=s.length
  ·have c':(4:Int)<=(s.length:Int):=by omega
   have eT:(eG (s.take 4)=⟨#[255,255,255,255]⟩)=(s.take 4=pP):=cW (fun x hx=>hB x (aQO hx)) Ak
   simp (disch:=omega) only[go_sem,h184c,aL,e4,eq_true c',eT,Int.reduceToNat]
  ·have c':¬ (4:Int)<=(s.length:Int):=by omega
   have eF:¬ s.take 4=pP:=fun h=>by
    have:=congrArg List.length h;rw[aQj] at this;have e:pP.length=4:=rfl;omega
   simp (disch:=omega) only[go_sem,h184c,aL,e4,c',eF,Int.reduceToNat,decide_false]
 refine aB rfl ?_;simp (disch:=omega) only[go_sem,h148c,e]
theorem aB3{call:aW}{a:HC}{L:List Nat}{m:Nat}{r:Option (Exit × AS)}{s:AS}(h:Ua L m r=some s):Y4 call G a L m r=EL call G a L m s:=by
 unfold Ua at h;split at h
 ·injection h with h;rw[<- h];rfl
 ·cases h
abbrev nP(p:List Int):List DC:=[.raw (.string (eG p))]
abbrev sgv(p:Option (List (List Int))):AV:=match p with
 | some ps=>.tup [.one (.dc (.slc (ps.map nP))),.one (.dc (.raw (.bool true)))]
 | none=>.tup [.one (.dc (.slc [])),.one (.dc (.raw (.bool false)))]
theorem Lz:∀ (k:Nat) (s:List Int) (acc:List (List Int)),s.length < k->acc.length+s.length<=1000->aM s->
  oO false [.tmp 2,.tmp 3] 0 (T9 (EV G (Tb (bs bb))) G (.seq (.region [Oo 42 (.mov (.t 4)),Oo 2 (.mov (.t 42)),Oo 3 (.mov (.k (.bool true)))]) .ret)
   (rQ 0 (EL (EV G (Tb (bs bb))) G h98l0 [0,3,0] 2 ⟨(sv s::jk 3 (.one (.bld 0 acc.length)::.one (.ptr 1 0)::jk 37 [])),[.arr 0 1 (acc.map nP),.box [.dc (ci 4),.dc (ci 4)]]⟩)))=
  some (sgv ((pQ k s).map (acc++·)),[])
 | 0,s,acc,h,_,_=>by omega
 | k+1,s,acc,h,hA,hB=>by
  have q1:=aJU (G:=G) (bb:=bb) s hB (by omega);have hall:fZ 1 (acc.map nP)=true:=iV (f:=nP) (fun _=>rfl) _
  have htk:(acc.map nP).take acc.length=acc.map nP:=aQM (by rw[aQb];exact aQf _);rw[Gk,pQ];by_cases c1:s.take 4=pP
  ·rw[if_pos c1];rw[decide_eq_true c1] at q1;simp (disch:=omega) only[go_sem,h98l0,q1,aQb,htk,aQf]
  rw[if_neg c1];rw[decide_eq_false c1] at q1;by_cases c2:s.length < 24
  ·rw[if_pos c2];have d2:(s.length:Int) < 24:=by omega
   simp (disch:=omega) only[go_sem,h98l0,q1,aL,eq_true d2]
  rw[if_neg c2];have d2:¬ (s.length:Int) < 24:=by omega
  have q2:EV G (Tb (bs bb)) 97 [D3 4 4,sv s] []=some (vi (gL s 4 4),[]):=sG (G:=G) (bb:=bb) s hB 4 4 (by omega) (by omega) (by omega);have hg:=lE hB 4 4 (by omega);have hn:gL s 4 4=(nN s:Int):=by unfold nN;omega
  rw[hn] at q2;by_cases c3:xS s
  ·rw[if_pos c3];unfold xS at c3;generalize nN s=n at *;have e8:((n:Int).tmod 8)=((n % 8:Nat):Int):=rfl;by_cases x1:n % 8=0
   ·have x1':(n:Int).tmod 8=0:=by rw[e8,x1];rfl
    clear e8;by_cases x2:n < 24
    ·have x2':(n:Int) < 24:=by omega
     simp (disch:=omega) only[go_sem,h98l0,q1,q2,aL,d2,eq_true x1',eq_true x2']
    ·have x2':¬ (n:Int) < 24:=by omega
     have x3':(s.length:Int) - 4 < (n:Int):=by omega
     simp (disch:=omega) only[go_sem,h98l0,q1,q2,aL,d2,eq_true x1',x2',eq_true x3']
   ·have x1':¬ (n:Int).tmod 8=0:=by rw[e8];omega
    clear e8;simp (disch:=omega) only[go_sem,h98l0,q1,q2,aL,d2,x1']
  ·rw[if_neg c3];unfold xS at c3;generalize nN s=n at *;have e8:((n:Int).tmod 8)=((n % 8:Nat):Int):=rfl;have x1':(n:Int).tmod 8=0:=by rw[e8];omega
   clear e8;have x2':¬ (n:Int) < 24:=by omega
   have x3':¬ (s.length:Int) - 4 < (n:Int):=by omega
   have hd:(s.drop n).length < k:=by rw[aQr];omega
   have ih:=Lz k (s.drop n) (acc++[s.take n]) hd (by rw[aQc,aQr];simp;omega) (fun x hx=>hB x (aQS hx))
   have es:(pQ k (s.drop n)).map (acc++[s.take n]++·)=((pQ k (s.drop n)).map (s.take n::·)).map (acc++·):=by
    rw[Option.map_map];congr 1;funext x;simp
   rw[es] at ih;rw[<- ih];refine congrArg (fun x=>oO false [.tmp 2,.tmp 3] 0 (T9 (EV G (Tb (bs bb))) G (.seq (.region [Oo 42 (.mov (.t 4)),Oo 2 (.mov (.t 42)),Oo 3 (.mov (.k (.bool true)))]) .ret) (rQ 0 x))) (aB3 ?_)
   rw[aQc,aQL];simp (disch:=omega) only[go_sem,h98l0,q1,q2,aL,d2,eq_true x1',x2',x3',aQb,hall,htk,aQf,aQo,aQn,aQd,aQe]
theorem O2(o:List Int)(ho:o.length=512)(hB:aM o):EV G (Tb (bs bb)) 98 [sv o] []=some (sgv (sD (o.drop 64)),[]):=by
 refine aB rfl ?_;have hl:(o.drop 64).length=448:=by rw[aQr,ho]
 have q:=Lz (G:=G) (bb:=bb) ((o.drop 64).length+1) (o.drop 64) [] (by omega) (by rw[hl];decide) (fun x hx=>hB x (aQS hx))
 have e:((pQ ((o.drop 64).length+1) (o.drop 64)).map (([]:List (List Int))++·))=sD (o.drop 64):=by
  unfold sD;cases pQ ((o.drop 64).length+1) (o.drop 64)<;>simp
 rw[e] at q;rw[<- q];clear q e;have ht:List.take 512 o=o:=aQM (by omega);simp (disch:=omega) only[go_sem,h98c,aL,ho,Int.reduceToNat,ht]
end
section
variable {G:aH} {bb:Bool}
noncomputable def aCk(x:List Int)(ps:List (List Int)):Int:=if ix (fun k=>x=ps.getD k []) ps.length=ps.length then -1 else ((ix (fun k=>x=ps.getD k []) ps.length:Nat):Int)
theorem aKH(ps:List (List Int))(x:List Int)(hx:aM x)(hB:∀ p∈ps,aM p)(hl:ps.length<=1000000):EV G (Tb (bs bb)) 160 [vl (ps.map nP),sv x] []=some (vi (aCk x ps),[]):=by
 have hg:aCk x ps=if ix (fun k=>x=ps.getD k []) ps.length=ps.length then -1 else ((ix (fun k=>x=ps.getD k []) ps.length:Nat):Int):=rfl
 generalize aCk x ps=g at *;have row:∀ k (hk:k < ps.length),(ps.map nP)[k]?=some (nP ps[k]):=fun k hk=>by rw[aQh,aQi hk];rfl
 have gd:∀ k (hk:k < ps.length),ps.getD k []=ps[k]:=fun k hk=>by simp[List.getD,hk]
 refine aB rfl ?_;simp (disch:=omega) only[go_sem,h160c,aQb];rw[gA (fun k=>⟨(vl (ps.map nP)::sv x::jk 5 (vi ps.length::vi k::jk 10 [])),[]⟩) (fun k=>x=ps.getD k []) ps.length ?_ ?_]
 rotate_left
 ·rfl
 ·intro k hk hn;have h3:=hn k (aQf _);rw[gd k hk] at h3;have e:=row k hk;have eS:=cW hx (hB _ (aQm hk));rw[eq_false h3] at eS;simp (disch:=omega) only[go_sem,h160l0,aQb,e,eS]
 obtain⟨hk,hp,hn⟩:=bW (fun k=>x=ps.getD k []) ps.length
 generalize ix (fun k=>x=ps.getD k []) ps.length=k at *
 rcases hp with rfl | ⟨hk',hp⟩
 ·rw[if_pos rfl] at hg;subst hg;simp (disch:=omega) only[go_sem,h160l0,aQb]
 ·rw[if_neg (by omega)] at hg;subst hg;rw[gd k hk'] at hp;have e:=row k hk';have eS:=cW hx (hB _ (aQm hk'));rw[eq_true hp] at eS;simp (disch:=omega) only[go_sem,h160l0,aQb,e,eS]
theorem aCi(x:List Int)(ps:List (List Int)):(0<=aCk x ps)=(x∈ps):=by
 apply propext;unfold aCk;obtain⟨hk,hp,hn⟩:=bW (fun k=>x=ps.getD k []) ps.length
 generalize ix (fun k=>x=ps.getD k []) ps.length=k at *
 rcases hp with rfl | ⟨hk',hp⟩
 ·rw[if_pos rfl];refine⟨fun h=>absurd h (by decide),fun h=>?_⟩
  obtain⟨j,hj,e⟩:=List.mem_iff_getElem.1 h;exact absurd (show x=ps.getD j [] by simp[List.getD,hj,e]) (hn j hj)
 ·rw[if_neg (by omega)];refine⟨fun _=>?_,fun _=>by omega⟩
  rw[hp];simp[List.getD,hk']
theorem aJq(ps:List (List Int))(x:List Int)(hx:aM x)(hB:∀ p∈ps,aM p)(hl:ps.length<=1000000):EV G (Tb (bs bb)) 105 [vl (ps.map nP),sv x] []=some (vb (decide (x∈ps)),[]):=by
 refine aB rfl ?_;have q:=aKH (G:=G) (bb:=bb) ps x hx hB hl;have e:=aCi x ps;simp (disch:=omega) only[go_sem,h105c,q,e]
def sgs:List (List Int):=[[70,73,76,69],[73,78,68,88],[82,67,82,68],[82,83,84,82],[66,65,65,68]]
noncomputable def aCj(s:List Int):List Int × Int:=if s.length≠512 then ([],10) else open Classical in if s.take 4∈sgs then (s.take 4,0) else ([],15)
theorem aJv:EV G (Tb (bs bb)) 106 [] []=some (vl (sgs.map nP),[]):=by
 refine aB rfl ?_;simp (disch:=omega) only[go_sem,h106c];rfl
theorem aC7:∀ p∈sgs,aM p:=fun p hp x hx=>by
 simp only[sgs,List.mem_cons,List.not_mem_nil,or_false] at hp;rcases hp with rfl | rfl | rfl | rfl | rfl
 all_goals
  simp at hx;omega
theorem aEO(hS:G 7=some [ci 0,ci 4])(s:List Int)(hB:aM s):EV G (Tb (bs bb)) 47 [sv s] []=some (.tup [.one (.dc (.raw (.string (eG (aCj s).1)))),.one (.dc (ci (aCj s).2))],[]):=by
 refine aB rfl ?_;unfold aCj;have q1:=aJv (G:=G) (bb:=bb);have q2:=aJq (G:=G) (bb:=bb) sgs (s.take 4) (fun x hx=>hB x (aQO hx)) aC7 (by decide)
 generalize sgs.map nP=R at q1 q2;by_cases c:s.length=512
 ·rw[if_neg (not_not_intro c)];have c':(s.length:Int)=512:=by omega
  by_cases d:s.take 4∈sgs
  ·rw[if_pos d];simp (disch:=omega) only[go_sem,h47c,q1,q2,hS,aL,c,eq_true c',eq_true d,Int.reduceToNat]
  ·rw[if_neg d];simp (disch:=omega) only[go_sem,h47c,q1,q2,hS,aL,c,eq_true c',d,Int.reduceToNat];rfl
 ·rw[if_pos c];have c':¬ (s.length:Int)=512:=by omega
  simp (disch:=omega) only[go_sem,h47c,aL,c'];rfl
end
end Go.Proofs.YtcplecjhmnblpaaGreatDoor
