/- The sign of a block, by the program. Conditions: as each theorem says. -/
import Derived.Test.YtcplecjhmnblpaaGreatDoorMf
import Derived.Test.YtcplecjhmnblpaaGreatDoorCards
import Derived.Test.YtcplecjhmnblpaaGreatDoorTie
import Derived.ProofKit
import Derived.MakeChecks
import Derived.Stop.LaidErr
import Derived.Deep.DeepHandedRow
import Derived.Lib.LaidTab
import Derived.LaidMore
import Derived.LaidHandle
import Derived.LaidLaws
import Derived.Lay
import Derived.Shelf.Vars
namespace Go.Proofs.YtcplecjhmnblpaaGreatDoor
set_option linter.unusedSimpArgs false
set_option linter.unusedVariables false
set_option maxRecDepth 4000
section
variable {G:Glob} {bb:Bool}
open Go.ChangeShapes Go.WideShapes Go.ChangeAt Go.RowKit
theorem Tryz.own:ownKnob Tryz.prog.godebug=none:=by kernel_rfl
theorem Tryz.laidOut:laidOutB Tryz.prog=true:=by kernel_rfl
theorem cells3:Tryz.prog.cellsOf 3=1:=by kernel_rfl
theorem cells4:Tryz.prog.cellsOf 4=1:=by kernel_rfl
theorem cells9:Tryz.prog.cellsOf 9=1:=by kernel_rfl
theorem cells22:Tryz.prog.cellsOf 42=1:=by kernel_rfl
theorem cells24:Tryz.prog.cellsOf 44=11:=by kernel_rfl
theorem cells85:Tryz.prog.cellsOf 106=2:=by kernel_rfl
def In64 (i:Int):Prop:=-9223372036854775808≤i∧i≤9223372036854775807
theorem okT_runs {m:Nat} {ds:List DC} (h:okT Tryz.prog (m+4) 42 ds):∃ l:List Run,ds=[.slc (l.map Run.e)]∧∀ r∈l,In64 r.s∧In64 r.n:=by
 rw [okT,Tryz.underlying42] at h
 obtain ⟨es,rfl,_,he⟩:=h
 have key:∀ es:List (List DC),(∀ d∈es,okT Tryz.prog (m+3) 106 d)→∃ l:List Run,es=l.map Run.e∧∀ r∈l,In64 r.s∧In64 r.n:=by
  intro es
  induction es with
  | nil=>intro _;exact ⟨[],rfl,by simp⟩
  | cons d es ih=>
   intro h
   obtain ⟨l,rfl,hl⟩:=ih (fun d hd=>h d (List.mem_cons_of_mem _ hd))
   obtain ⟨a,b,rfl,ha,hb⟩:=okT_two Tryz.underlying106 Tryz.underlying3 Tryz.underlying3 rfl rfl cells3 cells3 cells85 (h d List.mem_cons_self)
   exact ⟨⟨a,b⟩::l,rfl,fun r hr=>by
    rcases List.mem_cons.1 hr with rfl | hr
    ·exact ⟨ha,hb⟩
    ·exact hl r hr⟩
 obtain ⟨l,rfl,hl⟩:=key es he
 exact ⟨l,rfl,hl⟩
theorem okT_str1 {m:Nat} {x:DC} (h:okT Tryz.prog (m+1) 9 [x]):∃ l:List Int,x=.raw (.string (str l))∧Byts l:=by
 rw [okT,Tryz.underlying9] at h
 obtain ⟨s,h1,_⟩:=h
 obtain ⟨l,h2,rfl⟩:=str_all s
 injection h1 with h1 _
 exact ⟨l,h1,h2⟩
theorem okT_i1 {m:Nat} {x:DC} (h:okT Tryz.prog (m+1) 3 [x]):∃ i:Int,x=ci i∧In64 i:=by
 obtain ⟨i,h1,h2⟩:=okT_int1 Tryz.underlying3 h
 injection h1 with h1 _
 exact ⟨i,h1,i64_bounds h2⟩
theorem okT_b1 {m:Nat} {x:DC} (h:okT Tryz.prog (m+1) 4 [x]):∃ b:Bool,x=.raw (.bool b):=by
 rw [okT,Tryz.underlying4] at h
 obtain ⟨b,h1⟩:=h
 injection h1 with h1 _
 exact ⟨b,h1⟩
structure Att.In (a:Att):Prop where
 ty:In64 a.ty
 id:In64 a.id
 fl:In64 a.fl
 fi:In64 a.fi
 al:In64 a.al
 sz:In64 a.sz
 vd:In64 a.vd
 nm:Byts a.nm
 va:Byts a.va
 rs:∀ r∈a.rs,In64 r.s∧In64 r.n
def Att.d (a:Att):List DC:=[ci a.ty,.raw (.string (str a.nm)),ci a.id,ci a.fl,.raw (.bool a.res),.raw (.string (str a.va)),ci a.fi,.slc (a.rs.map Run.e),ci a.al,ci a.sz,ci a.vd]
theorem okT_att {m:Nat} {ds:List DC} (h:okT Tryz.prog (m+5) 44 ds):∃ a:Att,ds=a.d∧a.In:=by
 rw [okT,Tryz.underlying44] at h
 obtain ⟨hl,hf⟩:=h
 rw [cells24] at hl
 match ds,hl with
 | [x0,x1,x2,x3,x4,x5,x6,x7,x8,x9,x10],_=>
  have h0:okT Tryz.prog (m+4) 3 [x0]:=by
   have h:okT Tryz.prog (m+4) 3 (([x0,x1,x2,x3,x4,x5,x6,x7,x8,x9,x10].drop 0).take (Tryz.prog.cellsOf 3)):=hf 0 _ rfl
   rw [cells3] at h
   exact h
  have h1:okT Tryz.prog (m+4) 9 [x1]:=by
   have h:okT Tryz.prog (m+4) 9 (([x0,x1,x2,x3,x4,x5,x6,x7,x8,x9,x10].drop 1).take (Tryz.prog.cellsOf 9)):=hf 1 _ rfl
   rw [cells9] at h
   exact h
  have h2:okT Tryz.prog (m+4) 3 [x2]:=by
   have h:okT Tryz.prog (m+4) 3 (([x0,x1,x2,x3,x4,x5,x6,x7,x8,x9,x10].drop 2).take (Tryz.prog.cellsOf 3)):=hf 2 _ rfl
   rw [cells3] at h
   exact h
  have h3:okT Tryz.prog (m+4) 3 [x3]:=by
   have h:okT Tryz.prog (m+4) 3 (([x0,x1,x2,x3,x4,x5,x6,x7,x8,x9,x10].drop 3).take (Tryz.prog.cellsOf 3)):=hf 3 _ rfl
   rw [cells3] at h
   exact h
  have h4:okT Tryz.prog (m+4) 4 [x4]:=by
   have h:okT Tryz.prog (m+4) 4 (([x0,x1,x2,x3,x4,x5,x6,x7,x8,x9,x10].drop 4).take (Tryz.prog.cellsOf 4)):=hf 4 _ rfl
   rw [cells4] at h
   exact h
  have h5:okT Tryz.prog (m+4) 9 [x5]:=by
   have h:okT Tryz.prog (m+4) 9 (([x0,x1,x2,x3,x4,x5,x6,x7,x8,x9,x10].drop 5).take (Tryz.prog.cellsOf 9)):=hf 5 _ rfl
   rw [cells9] at h
   exact h
  have h6:okT Tryz.prog (m+4) 3 [x6]:=by
   have h:okT Tryz.prog (m+4) 3 (([x0,x1,x2,x3,x4,x5,x6,x7,x8,x9,x10].drop 6).take (Tryz.prog.cellsOf 3)):=hf 6 _ rfl
   rw [cells3] at h
   exact h
  have h7:okT Tryz.prog (m+4) 42 [x7]:=by
   have h:okT Tryz.prog (m+4) 42 (([x0,x1,x2,x3,x4,x5,x6,x7,x8,x9,x10].drop 7).take (Tryz.prog.cellsOf 42)):=hf 7 _ rfl
   rw [cells22] at h
   exact h
  have h8:okT Tryz.prog (m+4) 3 [x8]:=by
   have h:okT Tryz.prog (m+4) 3 (([x0,x1,x2,x3,x4,x5,x6,x7,x8,x9,x10].drop 8).take (Tryz.prog.cellsOf 3)):=hf 8 _ rfl
   rw [cells3] at h
   exact h
  have h9:okT Tryz.prog (m+4) 3 [x9]:=by
   have h:okT Tryz.prog (m+4) 3 (([x0,x1,x2,x3,x4,x5,x6,x7,x8,x9,x10].drop 9).take (Tryz.prog.cellsOf 3)):=hf 9 _ rfl
   rw [cells3] at h
   exact h
  have h10:okT Tryz.prog (m+4) 3 [x10]:=by
   have h:okT Tryz.prog (m+4) 3 (([x0,x1,x2,x3,x4,x5,x6,x7,x8,x9,x10].drop 10).take (Tryz.prog.cellsOf 3)):=hf 10 _ rfl
   rw [cells3] at h
   exact h
  obtain ⟨i0,rfl,e0⟩:=okT_i1 h0
  obtain ⟨i1,rfl,e1⟩:=okT_str1 h1
  obtain ⟨i2,rfl,e2⟩:=okT_i1 h2
  obtain ⟨i3,rfl,e3⟩:=okT_i1 h3
  obtain ⟨i4,rfl⟩:=okT_b1 h4
  obtain ⟨i5,rfl,e5⟩:=okT_str1 h5
  obtain ⟨i6,rfl,e6⟩:=okT_i1 h6
  obtain ⟨i7,g7,e7⟩:=okT_runs h7
  obtain ⟨i8,rfl,e8⟩:=okT_i1 h8
  obtain ⟨i9,rfl,e9⟩:=okT_i1 h9
  obtain ⟨i10,rfl,e10⟩:=okT_i1 h10
  injection g7 with g7 _
  subst g7
  exact ⟨⟨i0,i1,i2,i3,i4,i5,i6,i7,i8,i9,i10⟩,rfl,⟨e0,e2,e3,e6,e8,e9,e10,e1,e5,e7⟩⟩
theorem okA_att {m:Nat} {av:AV} (h:okA Tryz.prog (m+5) 44 av):∃ a:Att,av=a.v∧a.In:=by
 obtain ⟨ds,rfl,h2⟩:=okA_many (by kernel_rfl) h
 obtain ⟨a,rfl,h3⟩:=okT_att h2
 exact ⟨a,rfl,h3⟩
theorem okA_atts {m:Nat} {av:AV} (h:okA Tryz.prog (m+6) 24 av):∃ l:List Att,av=vl (l.map Att.e)∧(∀ a∈l,a.In)∧l.length≤9223372036854775807:=by
 obtain ⟨es,rfl,hm,he⟩:=okA_slice Tryz.underlying24 h
 have hm':es.length≤9223372036854775807:=Nat.le_trans hm (by unfold maxLen;omega)
 have key:∀ es:List (List DC),(∀ d∈es,okT Tryz.prog (m+5) 44 d)→∃ l:List Att,es=l.map Att.e∧∀ a∈l,a.In:=by
  intro es
  induction es with
  | nil=>intro _;exact ⟨[],rfl,by simp⟩
  | cons d es ih=>
   intro h
   obtain ⟨l,rfl,hl⟩:=ih (fun d hd=>h d (List.mem_cons_of_mem _ hd))
   obtain ⟨a,rfl,ha⟩:=okT_att (h d List.mem_cons_self)
   exact ⟨a::l,rfl,fun r hr=>by
    rcases List.mem_cons.1 hr with rfl | hr
    ·exact ha
    ·exact hl r hr⟩
 obtain ⟨l,rfl,hl⟩:=key es he
 exact ⟨l,rfl,hl,by simpa using hm'⟩
theorem cellsA:Tryz.prog.cellsOf 24=1:=by kernel_rfl
theorem cellsF:Tryz.prog.cellsOf 23=2:=by kernel_rfl
theorem cellsR:Tryz.prog.cellsOf 26=8:=by kernel_rfl
theorem okT_atts {m:Nat} {ds:List DC} (h:okT Tryz.prog (m+6) 24 ds):∃ l:List Att,ds=[.slc (l.map Att.e)]∧(∀ a∈l,a.In)∧l.length≤9223372036854775807:=by
 match ds with
 | [x]=>
  obtain ⟨l,h1,h2,h3⟩:=okA_atts (av:=.one (.dc x)) (m:=m) ⟨by kernel_rfl,h⟩
  injection h1 with h1
  injection h1 with h1
  exact ⟨l,by rw [h1],h2,h3⟩
 | []=>rw [okT,Tryz.underlying24] at h;obtain ⟨es,h1,_⟩:=h;cases h1
 | _::_::_=>rw [okT,Tryz.underlying24] at h;obtain ⟨es,h1,_⟩:=h;cases h1
structure Rec.In (r:Rec):Prop where
 sq:In64 r.sq
 li:In64 r.li
 fl:In64 r.fl
 br:In64 r.br
 bq:In64 r.bq
 nx:In64 r.nx
 ls:In64 r.ls
 at':∀ a∈r.ats,a.In
 ln:r.ats.length≤9223372036854775807
theorem okT_rec {m:Nat} {ds:List DC} (h:okT Tryz.prog (m+7) 26 ds):∃ r:Rec,ds=[ci r.sq,ci r.li,ci r.fl,ci r.br,ci r.bq,ci r.nx,ci r.ls,.slc (r.ats.map Att.e)]∧r.In:=by
 rw [okT,Tryz.underlying26] at h
 obtain ⟨hl,hf⟩:=h
 rw [cellsR] at hl
 match ds,hl with
 | [x0,x1,x2,x3,x4,x5,x6,x7],_=>
  have h0:okT Tryz.prog (m+6) 3 [x0]:=by
   have h:okT Tryz.prog (m+6) 3 (([x0,x1,x2,x3,x4,x5,x6,x7].drop 0).take (Tryz.prog.cellsOf 3)):=hf 0 _ rfl
   rw [cells3] at h
   exact h
  have h1:okT Tryz.prog (m+6) 3 [x1]:=by
   have h:okT Tryz.prog (m+6) 3 (([x0,x1,x2,x3,x4,x5,x6,x7].drop 1).take (Tryz.prog.cellsOf 3)):=hf 1 _ rfl
   rw [cells3] at h
   exact h
  have h2:okT Tryz.prog (m+6) 3 [x2]:=by
   have h:okT Tryz.prog (m+6) 3 (([x0,x1,x2,x3,x4,x5,x6,x7].drop 2).take (Tryz.prog.cellsOf 3)):=hf 2 _ rfl
   rw [cells3] at h
   exact h
  have h3:okT Tryz.prog (m+6) 23 [x3,x4]:=by
   have h:okT Tryz.prog (m+6) 23 (([x0,x1,x2,x3,x4,x5,x6,x7].drop 3).take (Tryz.prog.cellsOf 23)):=hf 3 _ rfl
   rw [cellsF] at h
   exact h
  have h4:okT Tryz.prog (m+6) 3 [x5]:=by
   have h:okT Tryz.prog (m+6) 3 (([x0,x1,x2,x3,x4,x5,x6,x7].drop 5).take (Tryz.prog.cellsOf 3)):=hf 4 _ rfl
   rw [cells3] at h
   exact h
  have h5:okT Tryz.prog (m+6) 3 [x6]:=by
   have h:okT Tryz.prog (m+6) 3 (([x0,x1,x2,x3,x4,x5,x6,x7].drop 6).take (Tryz.prog.cellsOf 3)):=hf 5 _ rfl
   rw [cells3] at h
   exact h
  have h6:okT Tryz.prog (m+6) 24 [x7]:=by
   have h:okT Tryz.prog (m+6) 24 (([x0,x1,x2,x3,x4,x5,x6,x7].drop 7).take (Tryz.prog.cellsOf 24)):=hf 6 _ rfl
   rw [cellsA] at h
   exact h
  obtain ⟨i0,rfl,r0⟩:=okT_i1 (m:=m+5) h0
  obtain ⟨i1,rfl,r1⟩:=okT_i1 (m:=m+5) h1
  obtain ⟨i2,rfl,r2⟩:=okT_i1 (m:=m+5) h2
  obtain ⟨a,b,e3,ra,rb⟩:=okT_two (m:=m+4) Tryz.underlying23 Tryz.underlying3 Tryz.underlying3 rfl rfl cells3 cells3 cellsF h3
  injection e3 with e3 e4
  injection e4 with e4 _
  subst e3;subst e4
  obtain ⟨i5,rfl,r5⟩:=okT_i1 (m:=m+5) h4
  obtain ⟨i6,rfl,r6⟩:=okT_i1 (m:=m+5) h5
  obtain ⟨l,e7,r7,r8⟩:=okT_atts (m:=m) h6
  injection e7 with e7 _
  subst e7
  exact ⟨⟨i0,i1,i2,a,b,i5,i6,l⟩,rfl,r0,r1,r2,ra,rb,r5,r6,r7,r8⟩
theorem okA_rec {m:Nat} {av:AV} (h:okA Tryz.prog (m+7) 26 av):∃ r:Rec,av=r.v∧r.In:=by
 obtain ⟨ds,rfl,h2⟩:=okA_many (by kernel_rfl) h
 obtain ⟨r,rfl,h3⟩:=okT_rec h2
 exact ⟨r,rfl,h3⟩
theorem cells_of_pair {H:Type} {enc:TypeId × Value→H} {P:Program} {w:World} {base:Nat} {sp:Nat→Bool} {held:Bool} {fuel:Nat} {t:TypeId} {f0 f1:Field} {cs:List Value} {a b:Int} {p:List MemPlace}
  (ht:P.underlying t=some (.struct #[f0,f1])) (h0:P.underlying f0.type=some (.int .i64)) (h1:P.underlying f1.type=some (.int .i64)) (o0:f0.offset=0) (o1:f1.offset=1)
  (c0:P.cellsOf f0.type=1) (c1:P.cellsOf f1.type=1) (ct:P.cellsOf t=2)
  (h:DataW.trod enc P w base sp held fuel t cs=some (.agg [.lit (.int .i64 a),.lit (.int .i64 b)],p)):cs=[.int .i64 a,.int .i64 b]:=by
 cases fuel with
 | zero=>simp [DataW.trod] at h
 | succ fuel=>
  simp only [DataW.trod,ht,ct] at h
  split at h
  ·rename_i hl
   obtain ⟨xs,hm,hx⟩:=Option.map_eq_some_iff.1 h
   match cs,hl with
   | [x,y],_=>
    simp only [List.mapM_cons,List.mapM_nil,o0,o1,c0,c1,List.drop_zero,List.drop_succ_cons,List.take_succ_cons,List.take_zero,List.take_nil] at hm
    obtain ⟨u,hu,hm⟩:=Option.bind_eq_some_iff.1 hm
    obtain ⟨vs,hv,hm⟩:=Option.bind_eq_some_iff.1 hm
    obtain ⟨v,hv,hm2⟩:=Option.bind_eq_some_iff.1 hv
    obtain ⟨n0,e0,rfl,_⟩:=DataW.trod_int h0 hu
    obtain ⟨n1,e1,rfl,_⟩:=DataW.trod_int h1 hv
    simp at hm2 hm
    subst hm2
    subst hm
    simp at hx e0 e1
    obtain ⟨⟨rfl,rfl⟩,_⟩:=hx
    rw [e0,e1]
  ·cases h
theorem pair_var {W:World} {name:String} {a b:Int} {rest:List (String × DataW Unit)} {g:Nat} (hg:Tryz.prog.globalNamed name=some g) (hty:(Tryz.prog.globals[g]?).map (·.type)=some 124)
  (h:laidMet Tryz.prog ((name,.agg [.lit (.int .i64 a),.lit (.int .i64 b)])::rest) W):W.var? Tryz.prog name=some #[.int .i64 a,.int .i64 b]:=by
 obtain ⟨ps,⟨g',t',cs,fuel,p,q,hg',ht',hvar,hd,_,_⟩,_⟩:=h
 obtain rfl:=Option.some.inj (hg.symm.trans hg')
 obtain rfl:=Option.some.inj (hty.symm.trans ht')
 have:=cells_of_pair Tryz.underlying124 Tryz.underlying3 Tryz.underlying3 rfl rfl cells3 cells3 (by kernel_rfl) hd
 rw [hvar]
 congr 1
 rw [← Array.toList_inj]
 exact this
theorem pair_rc {W:World} {name:String} {a b:Int} {g:Nat} (hv:W.var? Tryz.prog name=some #[.int .i64 a,.int .i64 b]) (hg:Tryz.prog.globalNamed name=some g):
  (∀ γ,RC (allF W) γ (.ref [ci a,ci b]) (.pointer (some ⟨g,0,none⟩)))∧∃ o,allF W g=some o∧∃ vs t z,o=.cells vs t z∧vs.size=[ci a,ci b].length:=by
 refine ⟨fun γ=>.ref _ g 0 (fun j=>.int .i64 ([a,b].getD j 0)) (fun j d hd=>?_) (fun j d hd=>?_), ?_⟩
 ·match j with
  | 0=>injection hd with hd;subst hd;exact .raw _ rfl
  | 1=>injection hd with hd;subst hd;exact .raw _ rfl
  | j+2=>simp at hd
 ·match j with
  | 0=>have:=World.var?_cell hg hv 0;exact (show W.cell? ⟨g,0,none⟩=some (.int .i64 a) by simpa using this)
  | 1=>have:=World.var?_cell hg hv 1;exact (show W.cell? ⟨g,1,none⟩=some (.int .i64 b) by simpa using this)
  | j+2=>simp at hd
 ·unfold World.var? at hv
  rw [hg,Option.bind_some] at hv
  unfold allF
  cases ho:W.heap[g]? with
  | none=>rw [ho] at hv;cases hv
  | some o=>
   rw [ho] at hv
   cases o with
   | cells vs t z=>
    simp only [Option.some.injEq] at hv
    exact ⟨_,rfl,_,_,_,rfl,by rw [hv];rfl⟩
   | _=>simp at hv
theorem Tryz.g_ls:Tryz.prog.globalNamed "depository/record.fieldLSN"=some 6:=by kernel_rfl
theorem Tryz.g_sq:Tryz.prog.globalNamed "depository/record.fieldSequence"=some 0:=by kernel_rfl
theorem Tryz.g_li:Tryz.prog.globalNamed "depository/record.fieldLinks"=some 1:=by kernel_rfl
theorem Tryz.g_fi:Tryz.prog.globalNamed "depository/record.fieldFirst"=some 8:=by kernel_rfl
theorem Tryz.g_fl:Tryz.prog.globalNamed "depository/record.fieldFlags"=some 2:=by kernel_rfl
theorem Tryz.g_en:Tryz.prog.globalNamed "depository/record.fieldEnd"=some 9:=by kernel_rfl
theorem Tryz.g_si:Tryz.prog.globalNamed "depository/record.fieldSize"=some 10:=by kernel_rfl
theorem Tryz.g_ba:Tryz.prog.globalNamed "depository/record.fieldBase"=some 3:=by kernel_rfl
theorem Tryz.g_bo:Tryz.prog.globalNamed "depository/record.fieldBaseOf"=some 4:=by kernel_rfl
theorem Tryz.g_nx:Tryz.prog.globalNamed "depository/record.fieldNext"=some 5:=by kernel_rfl
def GF:Glob:=fun g=>
 if g=6 then some [ci 8,ci 4] else
 if g=0 then some [ci 16,ci 2] else
 if g=1 then some [ci 18,ci 2] else
 if g=8 then some [ci 20,ci 2] else
 if g=2 then some [ci 22,ci 2] else
 if g=9 then some [ci 24,ci 4] else
 if g=10 then some [ci 28,ci 4] else
 if g=3 then some [ci 32,ci 4] else
 if g=4 then some [ci 36,ci 2] else
 if g=5 then some [ci 38,ci 2] else
 none
theorem GF_9:G9 GF:=⟨rfl,rfl,rfl,rfl,rfl,rfl,rfl,rfl,rfl,rfl⟩
theorem glob9 {W:World} (h:laidMetH Tryz.prog Rows.recordChecksRow.laid W):GlobOK (allF W) GF:=by
 rw [MakeChecks.laidMetH_plain _ _ _ (by kernel_rfl)] at h
 have h:=laidMet.tail (laidMet.tail (laidMet.tail (laidMet.tail h)))
 have v_ls:=pair_rc (pair_var (a:=8) (b:=4) Tryz.g_ls (by kernel_rfl) h) Tryz.g_ls
 have h:=laidMet.tail h
 have v_sq:=pair_rc (pair_var (a:=16) (b:=2) Tryz.g_sq (by kernel_rfl) h) Tryz.g_sq
 have h:=laidMet.tail h
 have v_li:=pair_rc (pair_var (a:=18) (b:=2) Tryz.g_li (by kernel_rfl) h) Tryz.g_li
 have h:=laidMet.tail h
 have v_fi:=pair_rc (pair_var (a:=20) (b:=2) Tryz.g_fi (by kernel_rfl) h) Tryz.g_fi
 have h:=laidMet.tail h
 have v_fl:=pair_rc (pair_var (a:=22) (b:=2) Tryz.g_fl (by kernel_rfl) h) Tryz.g_fl
 have h:=laidMet.tail h
 have v_en:=pair_rc (pair_var (a:=24) (b:=4) Tryz.g_en (by kernel_rfl) h) Tryz.g_en
 have h:=laidMet.tail h
 have v_si:=pair_rc (pair_var (a:=28) (b:=4) Tryz.g_si (by kernel_rfl) h) Tryz.g_si
 have h:=laidMet.tail h
 have v_ba:=pair_rc (pair_var (a:=32) (b:=4) Tryz.g_ba (by kernel_rfl) h) Tryz.g_ba
 have h:=laidMet.tail h
 have v_bo:=pair_rc (pair_var (a:=36) (b:=2) Tryz.g_bo (by kernel_rfl) h) Tryz.g_bo
 have h:=laidMet.tail h
 have v_nx:=pair_rc (pair_var (a:=38) (b:=2) Tryz.g_nx (by kernel_rfl) h) Tryz.g_nx
 have h:=laidMet.tail h
 refine ⟨fun g cs hg γ=>?_,fun g cs hg=>?_⟩
 ·unfold GF at hg
  by_cases c_ls:g=6
  ·rw [if_pos c_ls] at hg
   injection hg with hg
   subst hg;subst c_ls
   exact v_ls.1 γ
  rw [if_neg c_ls] at hg
  by_cases c_sq:g=0
  ·rw [if_pos c_sq] at hg
   injection hg with hg
   subst hg;subst c_sq
   exact v_sq.1 γ
  rw [if_neg c_sq] at hg
  by_cases c_li:g=1
  ·rw [if_pos c_li] at hg
   injection hg with hg
   subst hg;subst c_li
   exact v_li.1 γ
  rw [if_neg c_li] at hg
  by_cases c_fi:g=8
  ·rw [if_pos c_fi] at hg
   injection hg with hg
   subst hg;subst c_fi
   exact v_fi.1 γ
  rw [if_neg c_fi] at hg
  by_cases c_fl:g=2
  ·rw [if_pos c_fl] at hg
   injection hg with hg
   subst hg;subst c_fl
   exact v_fl.1 γ
  rw [if_neg c_fl] at hg
  by_cases c_en:g=9
  ·rw [if_pos c_en] at hg
   injection hg with hg
   subst hg;subst c_en
   exact v_en.1 γ
  rw [if_neg c_en] at hg
  by_cases c_si:g=10
  ·rw [if_pos c_si] at hg
   injection hg with hg
   subst hg;subst c_si
   exact v_si.1 γ
  rw [if_neg c_si] at hg
  by_cases c_ba:g=3
  ·rw [if_pos c_ba] at hg
   injection hg with hg
   subst hg;subst c_ba
   exact v_ba.1 γ
  rw [if_neg c_ba] at hg
  by_cases c_bo:g=4
  ·rw [if_pos c_bo] at hg
   injection hg with hg
   subst hg;subst c_bo
   exact v_bo.1 γ
  rw [if_neg c_bo] at hg
  by_cases c_nx:g=5
  ·rw [if_pos c_nx] at hg
   injection hg with hg
   subst hg;subst c_nx
   exact v_nx.1 γ
  rw [if_neg c_nx] at hg
  cases hg
 ·unfold GF at hg
  by_cases c_ls:g=6
  ·rw [if_pos c_ls] at hg
   injection hg with hg
   subst hg;subst c_ls
   exact v_ls.2
  rw [if_neg c_ls] at hg
  by_cases c_sq:g=0
  ·rw [if_pos c_sq] at hg
   injection hg with hg
   subst hg;subst c_sq
   exact v_sq.2
  rw [if_neg c_sq] at hg
  by_cases c_li:g=1
  ·rw [if_pos c_li] at hg
   injection hg with hg
   subst hg;subst c_li
   exact v_li.2
  rw [if_neg c_li] at hg
  by_cases c_fi:g=8
  ·rw [if_pos c_fi] at hg
   injection hg with hg
   subst hg;subst c_fi
   exact v_fi.2
  rw [if_neg c_fi] at hg
  by_cases c_fl:g=2
  ·rw [if_pos c_fl] at hg
   injection hg with hg
   subst hg;subst c_fl
   exact v_fl.2
  rw [if_neg c_fl] at hg
  by_cases c_en:g=9
  ·rw [if_pos c_en] at hg
   injection hg with hg
   subst hg;subst c_en
   exact v_en.2
  rw [if_neg c_en] at hg
  by_cases c_si:g=10
  ·rw [if_pos c_si] at hg
   injection hg with hg
   subst hg;subst c_si
   exact v_si.2
  rw [if_neg c_si] at hg
  by_cases c_ba:g=3
  ·rw [if_pos c_ba] at hg
   injection hg with hg
   subst hg;subst c_ba
   exact v_ba.2
  rw [if_neg c_ba] at hg
  by_cases c_bo:g=4
  ·rw [if_pos c_bo] at hg
   injection hg with hg
   subst hg;subst c_bo
   exact v_bo.2
  rw [if_neg c_bo] at hg
  by_cases c_nx:g=5
  ·rw [if_pos c_nx] at hg
   injection hg with hg
   subst hg;subst c_nx
   exact v_nx.2
  rw [if_neg c_nx] at hg
  cases hg
section
variable {H:Type} {enc:TypeId × Value→H}
theorem returns_shaped {a:Assume} {C:Checked} {os:Os} {f:FuncId} {fn:Func} {s:ChangeSpec} {conds:List PathCond} {apart fresh handsOn again:Bool} {X:World→Array Value→Prop}
  (hX:∀ (w w':World) (args:Array Value),w.heap=w'.heap→X w args→X w' args)
  (own:ownKnob C.prog.godebug=none) (started:os.Started) (noInit:C.prog.inits.idxOf? f=none) (hfn:C.prog.funcs[f]?=some fn)
  (witness:∃ (w:World) (tape:Tape) (i:Input),w.os=os∧(w.forCall tape i).Shaped C.prog∧i.vars=[]∧Input.okWide C.prog (w.forCall tape i) .any w.heap.size f i∧
   ((s.pre enc C.prog fn conds apart (w.forCall tape i).memory i.args∧X (w.forCall tape i).memory i.args)∧sizedMet enc C.prog fn (OpenSpec.ofChange s) apart (w.forCall tape i).memory i.args)∧a.holds C.prog (lone (Frame.enter C.prog f i.args .normal) [] (w.forCall tape i)))
  (contract:∀ (W:World) (base:Nat) (args:Array Value) (ds gs:List (DataW H)) (before:List MemPlace),
   (∀ (j:Nat) t v,fn.params[j]?=some t→args[j]?=some v→Value.okWide C.prog W .any base t v)→
   DataW.Whole enc C.prog fn.params.toList s.vars apart W args.toList ds gs before→
   X W args→W.ShapedOpen C.prog→
   Calls C.prog f args W fun e W'=>∃ v,e=.returned v∧s.post enc C.prog fn apart fresh handsOn again W args v W'):
  ReturnsInHanded a C os f .any (fun w args=>(s.pre enc C.prog fn conds apart w args∧X w args)∧sizedMet enc C.prog fn (OpenSpec.ofChange s) apart w args) (s.post enc C.prog fn apart fresh handsOn again):=by
 refine returnsInHanded_of_calls own started noInit witness ?_
 intro w tape i _ hsh _ hok hpre hholds
 obtain ⟨_,_,_,fn',hfn',_,_,_,_,hval⟩:=hok
 have e:fn'=fn:=Option.some.inj (hfn'.symm.trans hfn)
 subst e
 obtain ⟨⟨⟨ds,gs,before,hw,hc⟩,hx⟩,hz⟩:=hpre
 have hw':=DataW.Whole.of_heap (w':=w.forCall tape i) (by rfl) hw
 refine (contract (w.forCall tape i) w.heap.size i.args ds gs before hval hw' (hX _ _ _ (by rfl) hx) hsh).mono fun e W' ⟨v,he,hp⟩=>?_
 subst he
 exact ChangeSpec.post_blind hp
end
abbrev nilRec:Value:=.agg #[.int .i64 0,.int .i64 0,.int .i64 0,.int .i64 0,.int .i64 0,.int .i64 0,.int .i64 0,.slice none 0 0]
end
section
variable {G:Glob} {bb:Bool}
end
section
variable {G:Glob} {bb:Bool}
end
section
variable {G:Glob} {bb:Bool}
end
end Go.Proofs.YtcplecjhmnblpaaGreatDoor
