/- The sign of a block, by the program. Conditions: as each theorem says. -/
import Derived.Test.YtcplecjhmnblpaaGreatDoorMf
import Derived.Test.YtcplecjhmnblpaaGreatDoorCards
import Derived.Test.YtcplecjhmnblpaaGreatDoorTie
import Derived.ProofKit
import Derived.MakeChecks
import Derived.Stop.LaidErr
import Derived.Deep.DeepHandedRow
import Derived.Lib.LaidTab
import Derived.LaidMore
import Derived.LaidHandle
import Derived.LaidLaws
import Derived.Lay
import Derived.Shelf.Vars
import Derived.Test.YtcplecjhmnblpaaGreatDoorSq
namespace Go.Proofs.YtcplecjhmnblpaaGreatDoor
set_option linter.unusedSimpArgs false
set_option linter.unusedVariables false
set_option maxRecDepth 4000
section
variable {G:Glob} {bb:Bool}
open Go.ChangeShapes Go.WideShapes Go.ChangeAt Go.RowKit
theorem Tryz.own:ownKnob Tryz.prog.godebug=none:=by kernel_rfl
theorem Tryz.laidOut:laidOutB Tryz.prog=true:=by kernel_rfl
theorem cells3:Tryz.prog.cellsOf 3=1:=by kernel_rfl
theorem cells9:Tryz.prog.cellsOf 9=1:=by kernel_rfl
def Att.d (a:Att):List DC:=[ci a.ty,.raw (.string (str a.nm)),ci a.id,ci a.fl,.raw (.bool a.res),.raw (.string (str a.va)),ci a.fi,.slc (a.rs.map Run.e),ci a.al,ci a.sz,ci a.vd]
theorem cellsF:Tryz.prog.cellsOf 23=2:=by kernel_rfl
theorem cells_of_pair {H:Type} {enc:TypeId × Value→H} {P:Program} {w:World} {base:Nat} {sp:Nat→Bool} {held:Bool} {fuel:Nat} {t:TypeId} {f0 f1:Field} {cs:List Value} {a b:Int} {p:List MemPlace}
  (ht:P.underlying t=some (.struct #[f0,f1])) (h0:P.underlying f0.type=some (.int .i64)) (h1:P.underlying f1.type=some (.int .i64)) (o0:f0.offset=0) (o1:f1.offset=1)
  (c0:P.cellsOf f0.type=1) (c1:P.cellsOf f1.type=1) (ct:P.cellsOf t=2)
  (h:DataW.trod enc P w base sp held fuel t cs=some (.agg [.lit (.int .i64 a),.lit (.int .i64 b)],p)):cs=[.int .i64 a,.int .i64 b]:=by
 cases fuel with
 | zero=>simp [DataW.trod] at h
 | succ fuel=>
  simp only [DataW.trod,ht,ct] at h
  split at h
  ·rename_i hl
   obtain ⟨xs,hm,hx⟩:=Option.map_eq_some_iff.1 h
   match cs,hl with
   | [x,y],_=>
    simp only [List.mapM_cons,List.mapM_nil,o0,o1,c0,c1,List.drop_zero,List.drop_succ_cons,List.take_succ_cons,List.take_zero,List.take_nil] at hm
    obtain ⟨u,hu,hm⟩:=Option.bind_eq_some_iff.1 hm
    obtain ⟨vs,hv,hm⟩:=Option.bind_eq_some_iff.1 hm
    obtain ⟨v,hv,hm2⟩:=Option.bind_eq_some_iff.1 hv
    obtain ⟨n0,e0,rfl,_⟩:=DataW.trod_int h0 hu
    obtain ⟨n1,e1,rfl,_⟩:=DataW.trod_int h1 hv
    simp at hm2 hm
    subst hm2
    subst hm
    simp at hx e0 e1
    obtain ⟨⟨rfl,rfl⟩,_⟩:=hx
    rw [e0,e1]
  ·cases h
theorem pair_var {W:World} {name:String} {a b:Int} {rest:List (String × DataW Unit)} {g:Nat} (hg:Tryz.prog.globalNamed name=some g) (hty:(Tryz.prog.globals[g]?).map (·.type)=some 124)
  (h:laidMet Tryz.prog ((name,.agg [.lit (.int .i64 a),.lit (.int .i64 b)])::rest) W):W.var? Tryz.prog name=some #[.int .i64 a,.int .i64 b]:=by
 obtain ⟨ps,⟨g',t',cs,fuel,p,q,hg',ht',hvar,hd,_,_⟩,_⟩:=h
 obtain rfl:=Option.some.inj (hg.symm.trans hg')
 obtain rfl:=Option.some.inj (hty.symm.trans ht')
 have:=cells_of_pair Tryz.underlying124 Tryz.underlying3 Tryz.underlying3 rfl rfl cells3 cells3 (by kernel_rfl) hd
 rw [hvar]
 congr 1
 rw [← Array.toList_inj]
 exact this
theorem pair_rc {W:World} {name:String} {a b:Int} {g:Nat} (hv:W.var? Tryz.prog name=some #[.int .i64 a,.int .i64 b]) (hg:Tryz.prog.globalNamed name=some g):
  (∀ γ,RC (allF W) γ (.ref [ci a,ci b]) (.pointer (some ⟨g,0,none⟩)))∧∃ o,allF W g=some o∧∃ vs t z,o=.cells vs t z∧vs.size=[ci a,ci b].length:=by
 refine ⟨fun γ=>.ref _ g 0 (fun j=>.int .i64 ([a,b].getD j 0)) (fun j d hd=>?_) (fun j d hd=>?_), ?_⟩
 ·match j with
  | 0=>injection hd with hd;subst hd;exact .raw _ rfl
  | 1=>injection hd with hd;subst hd;exact .raw _ rfl
  | j+2=>simp at hd
 ·match j with
  | 0=>have:=World.var?_cell hg hv 0;exact (show W.cell? ⟨g,0,none⟩=some (.int .i64 a) by simpa using this)
  | 1=>have:=World.var?_cell hg hv 1;exact (show W.cell? ⟨g,1,none⟩=some (.int .i64 b) by simpa using this)
  | j+2=>simp at hd
 ·unfold World.var? at hv
  rw [hg,Option.bind_some] at hv
  unfold allF
  cases ho:W.heap[g]? with
  | none=>rw [ho] at hv;cases hv
  | some o=>
   rw [ho] at hv
   cases o with
   | cells vs t z=>
    simp only [Option.some.injEq] at hv
    exact ⟨_,rfl,_,_,_,rfl,by rw [hv];rfl⟩
   | _=>simp at hv
theorem Tryz.g_ls:Tryz.prog.globalNamed "depository/record.fieldLSN"=some 6:=by kernel_rfl
theorem Tryz.g_sq:Tryz.prog.globalNamed "depository/record.fieldSequence"=some 0:=by kernel_rfl
theorem Tryz.g_li:Tryz.prog.globalNamed "depository/record.fieldLinks"=some 1:=by kernel_rfl
theorem Tryz.g_fi:Tryz.prog.globalNamed "depository/record.fieldFirst"=some 8:=by kernel_rfl
theorem Tryz.g_fl:Tryz.prog.globalNamed "depository/record.fieldFlags"=some 2:=by kernel_rfl
theorem Tryz.g_en:Tryz.prog.globalNamed "depository/record.fieldEnd"=some 9:=by kernel_rfl
theorem Tryz.g_si:Tryz.prog.globalNamed "depository/record.fieldSize"=some 10:=by kernel_rfl
theorem Tryz.g_ba:Tryz.prog.globalNamed "depository/record.fieldBase"=some 3:=by kernel_rfl
theorem Tryz.g_bo:Tryz.prog.globalNamed "depository/record.fieldBaseOf"=some 4:=by kernel_rfl
theorem Tryz.g_nx:Tryz.prog.globalNamed "depository/record.fieldNext"=some 5:=by kernel_rfl
section
variable {H:Type} {enc:TypeId × Value→H}
theorem returns_shaped {a:Assume} {C:Checked} {os:Os} {f:FuncId} {fn:Func} {s:ChangeSpec} {conds:List PathCond} {apart fresh handsOn again:Bool} {X:World→Array Value→Prop}
  (hX:∀ (w w':World) (args:Array Value),w.heap=w'.heap→X w args→X w' args)
  (own:ownKnob C.prog.godebug=none) (started:os.Started) (noInit:C.prog.inits.idxOf? f=none) (hfn:C.prog.funcs[f]?=some fn)
  (witness:∃ (w:World) (tape:Tape) (i:Input),w.os=os∧(w.forCall tape i).Shaped C.prog∧i.vars=[]∧Input.okWide C.prog (w.forCall tape i) .any w.heap.size f i∧
   ((s.pre enc C.prog fn conds apart (w.forCall tape i).memory i.args∧X (w.forCall tape i).memory i.args)∧sizedMet enc C.prog fn (OpenSpec.ofChange s) apart (w.forCall tape i).memory i.args)∧a.holds C.prog (lone (Frame.enter C.prog f i.args .normal) [] (w.forCall tape i)))
  (contract:∀ (W:World) (base:Nat) (args:Array Value) (ds gs:List (DataW H)) (before:List MemPlace),
   (∀ (j:Nat) t v,fn.params[j]?=some t→args[j]?=some v→Value.okWide C.prog W .any base t v)→
   DataW.Whole enc C.prog fn.params.toList s.vars apart W args.toList ds gs before→
   X W args→W.ShapedOpen C.prog→
   Calls C.prog f args W fun e W'=>∃ v,e=.returned v∧s.post enc C.prog fn apart fresh handsOn again W args v W'):
  ReturnsInHanded a C os f .any (fun w args=>(s.pre enc C.prog fn conds apart w args∧X w args)∧sizedMet enc C.prog fn (OpenSpec.ofChange s) apart w args) (s.post enc C.prog fn apart fresh handsOn again):=by
 refine returnsInHanded_of_calls own started noInit witness ?_
 intro w tape i _ hsh _ hok hpre hholds
 obtain ⟨_,_,_,fn',hfn',_,_,_,_,hval⟩:=hok
 have e:fn'=fn:=Option.some.inj (hfn'.symm.trans hfn)
 subst e
 obtain ⟨⟨⟨ds,gs,before,hw,hc⟩,hx⟩,hz⟩:=hpre
 have hw':=DataW.Whole.of_heap (w':=w.forCall tape i) (by rfl) hw
 refine (contract (w.forCall tape i) w.heap.size i.args ds gs before hval hw' (hX _ _ _ (by rfl) hx) hsh).mono fun e W' ⟨v,he,hp⟩=>?_
 subst he
 exact ChangeSpec.post_blind hp
end
end
section
variable {G:Glob} {bb:Bool}
end
section
variable {G:Glob} {bb:Bool}
abbrev rowS (p:List Int):List DC:=[.raw (.string (str p))]
end
section
variable {G:Glob} {bb:Bool}
end
end Go.Proofs.YtcplecjhmnblpaaGreatDoor
