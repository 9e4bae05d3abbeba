/- What the frames of RunsStrings and RunsBack share: the variables that the rows list. Conditions: none. -/
import Derived.Test.YtmmafhopnkkeeaaGreatDoorPl
import Derived.Test.YtmmafhopnkkeeaaGreatDoorVx
import Derived.Test.YtmmafhopnkkeeaaGreatDoorMf
import Derived.Test.YtmmafhopnkkeeaaGreatDoorCards
import Derived.Test.YtmmafhopnkkeeaaGreatDoorTie
import Derived.ProofKit
import Derived.MakeChecks
import Derived.Stop.LaidErr
import Derived.Deep.DeepHandedRow
import Derived.Lib.LaidTab
import Derived.LaidMore
import Derived.LaidHandle
import Derived.LaidLaws
import Derived.Lay
import Derived.Shelf.Vars
namespace Go.Proofs.YtmmafhopnkkeeaaGreatDoor
set_option linter.unusedSimpArgs false
set_option linter.unusedVariables false
set_option maxRecDepth 4000
open Go.ChangeShapes Go.WideShapes Go.ChangeAt Go.RowKit
theorem Tryz.own:ownKnob Tryz.prog.godebug=none:=by kernel_rfl
theorem Tryz.laidOut:laidOutB Tryz.prog=true:=by kernel_rfl
theorem cells3:Tryz.prog.cellsOf 3=1:=by kernel_rfl
theorem cells9:Tryz.prog.cellsOf 9=1:=by kernel_rfl
theorem cells85:Tryz.prog.cellsOf 57=2:=by kernel_rfl
def In64 (i:Int):Prop:=-9223372036854775808≤i∧i≤9223372036854775807
theorem okT_runs {m:Nat} {ds:List DC} (h:okT Tryz.prog (m+4) 22 ds):∃ l:List Run,ds=[.slc (l.map Run.e)]∧∀ r∈l,In64 r.s∧In64 r.n:=by
 rw [okT,Tryz.underlying22] at h
 obtain ⟨es,rfl,_,he⟩:=h
 have key:∀ es:List (List DC),(∀ d∈es,okT Tryz.prog (m+3) 57 d)→∃ l:List Run,es=l.map Run.e∧∀ r∈l,In64 r.s∧In64 r.n:=by
  intro es
  induction es with
  | nil=>intro _;exact ⟨[],rfl,by simp⟩
  | cons d es ih=>
   intro h
   obtain ⟨l,rfl,hl⟩:=ih (fun d hd=>h d (List.mem_cons_of_mem _ hd))
   obtain ⟨a,b,rfl,ha,hb⟩:=okT_two Tryz.underlying57 Tryz.underlying3 Tryz.underlying3 rfl rfl cells3 cells3 cells85 (h d List.mem_cons_self)
   exact ⟨⟨a,b⟩::l,rfl,fun r hr=>by
    rcases List.mem_cons.1 hr with rfl | hr
    ·exact ⟨ha,hb⟩
    ·exact hl r hr⟩
 obtain ⟨l,rfl,hl⟩:=key es he
 exact ⟨l,rfl,hl⟩
theorem okA_runs {m:Nat} {av:AV} (h:okA Tryz.prog (m+4) 22 av):∃ l:List Run,av=runsV l∧∀ r∈l,In64 r.s∧In64 r.n:=by
 obtain ⟨d,rfl,h2⟩:=okA_one (by kernel_rfl) h
 obtain ⟨l,h3,h4⟩:=okT_runs h2
 injection h3 with h3 _
 exact ⟨l,by rw [h3],h4⟩
section
variable {H:Type} {enc:TypeId × Value→H}
theorem returns_shaped {a:Assume} {C:Checked} {os:Os} {f:FuncId} {fn:Func} {s:ChangeSpec} {conds:List PathCond} {apart fresh handsOn again:Bool} {X:World→Array Value→Prop}
  (hX:∀ (w w':World) (args:Array Value),w.heap=w'.heap→X w args→X w' args)
  (own:ownKnob C.prog.godebug=none) (started:os.Started) (noInit:C.prog.inits.idxOf? f=none) (hfn:C.prog.funcs[f]?=some fn)
  (witness:∃ (w:World) (tape:Tape) (i:Input),w.os=os∧(w.forCall tape i).Shaped C.prog∧i.vars=[]∧Input.okWide C.prog (w.forCall tape i) .any w.heap.size f i∧
   ((s.pre enc C.prog fn conds apart (w.forCall tape i).memory i.args∧X (w.forCall tape i).memory i.args)∧sizedMet enc C.prog fn (OpenSpec.ofChange s) apart (w.forCall tape i).memory i.args)∧a.holds C.prog (lone (Frame.enter C.prog f i.args .normal) [] (w.forCall tape i)))
  (contract:∀ (W:World) (base:Nat) (args:Array Value) (ds gs:List (DataW H)) (before:List MemPlace),
   (∀ (j:Nat) t v,fn.params[j]?=some t→args[j]?=some v→Value.okWide C.prog W .any base t v)→
   DataW.Whole enc C.prog fn.params.toList s.vars apart W args.toList ds gs before→
   X W args→W.ShapedOpen C.prog→
   Calls C.prog f args W fun e W'=>∃ v,e=.returned v∧s.post enc C.prog fn apart fresh handsOn again W args v W'):
  ReturnsInHanded a C os f .any (fun w args=>(s.pre enc C.prog fn conds apart w args∧X w args)∧sizedMet enc C.prog fn (OpenSpec.ofChange s) apart w args) (s.post enc C.prog fn apart fresh handsOn again):=by
 refine returnsInHanded_of_calls own started noInit witness ?_
 intro w tape i _ hsh _ hok hpre hholds
 obtain ⟨_,_,_,fn',hfn',_,_,_,_,hval⟩:=hok
 have e:fn'=fn:=Option.some.inj (hfn'.symm.trans hfn)
 subst e
 obtain ⟨⟨⟨ds,gs,before,hw,hc⟩,hx⟩,hz⟩:=hpre
 have hw':=DataW.Whole.of_heap (w':=w.forCall tape i) (by rfl) hw
 refine (contract (w.forCall tape i) w.heap.size i.args ds gs before hval hw' (hX _ _ _ (by rfl) hx) hsh).mono fun e W' ⟨v,he,hp⟩=>?_
 subst he
 exact ChangeSpec.post_blind hp
end
theorem okA_strL {m:Nat} {av:AV} (h:okA Tryz.prog (m+1) 9 av):∃ l:List Int,av=sv l∧Byts l∧l.length≤9223372036854775807:=by
 obtain ⟨s,rfl,hs⟩:=okA_string Tryz.underlying9 h
 obtain ⟨l,h1,rfl⟩:=str_all s
 rw [str_size] at hs
 exact ⟨l,rfl,h1,by unfold maxLen at hs;omega⟩
abbrev GE (W:World) (g:Nat) (cs:List DC):Prop:=(∀ γ,RC (allF W) γ (.ref cs) (.pointer (some ⟨g,0,none⟩)))∧∃ o,allF W g=some o∧∃ vs t z,o=.cells vs t z∧vs.size=cs.length
def gl (L:List (Nat × List DC)):Glob:=fun g=>L.lookup g
theorem gl_ok {W:World}:∀ {L:List (Nat × List DC)},(∀ p∈L,GE W p.1 p.2)→GlobOK (allF W) (gl L):=by
 intro L h
 have key:∀ (L:List (Nat × List DC)) g cs,L.lookup g=some cs→(g,cs)∈L:=by
  intro L
  induction L with
  | nil=>intro g cs h;simp at h
  | cons p L ih=>
   intro g cs h
   rw [List.lookup_cons] at h
   split at h
   ·rename_i e
    injection h with h
    have:=eq_of_beq e
    subst h;subst this
    exact List.mem_cons_self
   ·exact List.mem_cons_of_mem _ (ih g cs h)
 exact ⟨fun g cs hg γ=>(h _ (key L g cs hg)).1 γ,fun g cs hg=>(h _ (key L g cs hg)).2⟩
theorem one_rc {W:World} {name:String} {v:Value} {g:Nat} (hi:is1 v=true) (hv:W.var? Tryz.prog name=some #[v]) (hg:Tryz.prog.globalNamed name=some g):GE W g [.raw v]:=by
 refine ⟨fun γ=>.ref _ g 0 (fun _=>v) (fun j d hd=>?_) (fun j d hd=>?_), ?_⟩
 ·match j with
  | 0=>injection hd with hd;subst hd;exact .raw _ hi
  | j+1=>simp at hd
 ·match j with
  | 0=>have:=World.var?_cell hg hv 0;exact (show W.cell? ⟨g,0,none⟩=some v by simpa using this)
  | j+1=>simp at hd
 ·unfold World.var? at hv
  rw [hg,Option.bind_some] at hv
  unfold allF
  cases ho:W.heap[g]? with
  | none=>rw [ho] at hv;cases hv
  | some o=>
   rw [ho] at hv
   cases o with
   | cells vs t z=>
    simp only [Option.some.injEq] at hv
    exact ⟨_,rfl,_,_,_,rfl,by rw [hv];rfl⟩
   | _=>simp at hv
theorem tab_rc {W:World} {name:String} {k:IntKind} {zs:List Int} {g:Nat} (ht:Lib.TabIs Tryz.prog W name k zs) (hg:Tryz.prog.globalNamed name=some g):GE W g (zs.map fun n=>.raw (.int k n)):=by
 refine ⟨fun γ=>.ref _ g 0 (fun j=>.int k (zs.getD j 0)) (fun j d hd=>?_) (fun j d hd=>?_), ?_⟩
 ·obtain ⟨n,hn,rfl⟩:=by simpa only [List.getElem?_map,Option.map_eq_some_iff] using hd
  have:zs.getD j 0=n:=by rw [List.getD,hn];rfl
  rw [this]
  exact .raw _ rfl
 ·have hj:j < zs.length:=by
   have:=(List.getElem?_eq_some_iff.1 hd).1
   simpa using this
  rw [Nat.zero_add]
  exact ht.cell hg j hj
 ·unfold Lib.TabIs World.var? at ht
  rw [hg,Option.bind_some] at ht
  unfold allF
  cases ho:W.heap[g]? with
  | none=>rw [ho] at ht;cases ht
  | some o=>
   rw [ho] at ht
   cases o with
   | cells vs t z=>
    simp only [Option.some.injEq] at ht
    exact ⟨_,rfl,_,_,_,rfl,by rw [ht];simp⟩
   | _=>simp at ht
def LR (m:Int) (e1 e2:Value):List (Nat × List DC):=[(1,pwD),(0,[ci m]),(2,[.raw e1]),(3,[.raw e2])]
def GX (m:Int) (e1 e2:Value):Glob:=gl (LR m e1 e2)
theorem GX_R (m:Int) (t1 t2:TypeId) (p1 p2:Value):GR (GX m (.iface t1 p1) (.iface t2 p2)):=⟨rfl,⟨m,rfl⟩,⟨t1,p1,rfl⟩,⟨t2,p2,rfl⟩⟩
theorem Tryz.g_sy:Tryz.prog.globalNamed "strconv.ErrSyntax"=some 2:=by kernel_rfl
theorem Tryz.g_rg:Tryz.prog.globalNamed "strconv.ErrRange"=some 3:=by kernel_rfl
theorem Tryz.starE:"*"++"errors.errorString"="*errors.errorString":=by decide
theorem Tryz.rowE (u:TypeId) (h:Tryz.prog.typeName? 3 u=some "*errors.errorString"):u=196:=
 typeName_ptr_named (nm:="errors.errorString") (by rw [Tryz.starE];kernel_rfl) (by kernel_rfl) (by decide) u (by rw [Tryz.starE];exact h)
theorem globR {W:World} (h:laidMetH Tryz.prog Rows.runsStringsRow.laid W) (hsh:W.ShapedOpen Tryz.prog):∃ m t1 t2 p1 p2,GlobOK (allF W) (GX m (.iface t1 p1) (.iface t2 p2)):=by
 have hz:((begin Tryz.prog (fun _ _=>0) default).world.heap[0]?).bind Obj.row?=some (#[.int .i64 0],3):=by kernel_rfl
 have hlt:0 < Tryz.prog.globals.size:=of_decide_eq_true (by kernel_rfl)
 obtain ⟨m,hm⟩:=cell_of_shapedOpen_int (P:=Tryz.prog) (g:=0) (t:=3) (zero:=#[.int .i64 0]) hsh hlt hz rfl (by kernel_rfl) (by kernel_rfl) Tryz.underlying3
 obtain ⟨cs,hh,hs,_⟩:=hsh.1 0 _ _ hlt hz
 have v_ml:GE W 0 [ci m]:=by
  refine ⟨fun γ=>.ref _ 0 0 (fun _=>.int .i64 m) (fun j d hd=>?_) (fun j d hd=>?_),⟨_,hh,_,_,_,rfl,hs⟩⟩
  ·match j with
   | 0=>injection hd with hd;subst hd;exact .raw _ rfl
   | j+1=>simp at hd
  ·match j with
   | 0=>
    have hm':=hm
    unfold World.cell? at hm'
    unfold Fz.cell? allF
    rw [hh] at hm' ⊢
    exact hm'
   | j+1=>simp at hd
 rw [MakeChecks.laidMetH_plain _ _ _ (by kernel_rfl)] at h
 have h:=laidMet.tail (laidMet.tail h)
 have tp:Lib.TabIs Tryz.prog W "internal/strconv.uint64pow10" .u64 [1,10,100,1000,10000,100000,1000000,10000000,100000000,1000000000,10000000000,100000000000,1000000000000,10000000000000,100000000000000,1000000000000000,10000000000000000,100000000000000000,1000000000000000000,10000000000000000000]:=by
  obtain ⟨g,t,e,n,h1,h2,h3,h4,h5,h6⟩:∃ g t e n,Tryz.prog.globalNamed "internal/strconv.uint64pow10"=some g∧(Tryz.prog.globals[g]?).map (·.type)=some t∧Tryz.prog.underlying t=some (.array n e)∧Tryz.prog.underlying e=some (.int .u64)∧Tryz.prog.cellsOf e=1∧Tryz.prog.cellsOf t=n:=⟨1,176,152,20,by kernel_rfl,by kernel_rfl,by kernel_rfl,by kernel_rfl,by kernel_rfl,by kernel_rfl⟩
  exact Lib.tabIs_of_head h1 h2 h3 h4 h5 h6 h
 have epw:([1,10,100,1000,10000,100000,1000000,10000000,100000000,1000000000,10000000000,100000000000,1000000000000,10000000000000,100000000000000,1000000000000000,10000000000000000,100000000000000000,1000000000000000000,10000000000000000000]:List Int)=Lib.pow10Tab:=by decide
 rw [epw] at tp
 have v_pw:=tab_rc tp Tryz.g_pw
 have h:=laidMet.tail (laidMet.tail h)
 obtain ⟨a2,s2,w2,_,_,_⟩:=laid_sentinel h Tryz.g_rg (by kernel_rfl) Tryz.underlying97 Tryz.rowE Tryz.underlying196 Tryz.underlying198 rfl rfl Tryz.underlying9 (by kernel_rfl) cells9
 have v_rg:=one_rc (by rfl) w2 Tryz.g_rg
 have h:=laidMet.tail h
 obtain ⟨a1,s1,w1,_,_,_⟩:=laid_sentinel h Tryz.g_sy (by kernel_rfl) Tryz.underlying97 Tryz.rowE Tryz.underlying196 Tryz.underlying198 rfl rfl Tryz.underlying9 (by kernel_rfl) cells9
 have v_sy:=one_rc (by rfl) w1 Tryz.g_sy
 refine ⟨m,196,196,.pointer (some a1),.pointer (some a2),gl_ok fun p hp=>?_⟩
 simp only [LR,List.mem_cons,List.not_mem_nil,or_false] at hp
 rcases hp with rfl | rfl | rfl | rfl
 ·exact v_pw
 ·exact v_ml
 ·exact v_sy
 ·exact v_rg
theorem qc_g0 {G:Glob} {f:FuncId} {args:List AV} {r:AV} (h:QC Tryz.prog G0 f args r):QC Tryz.prog G f args r:=fun F γ vs w hi _ hv=>h F γ vs w hi ⟨fun _ _ h=>(by cases h),fun _ _ h=>(by cases h)⟩ hv
theorem bs3_ok3 (m:Int) (t1 t2:TypeId) (p1 p2:Value):CallOK Tryz.prog (GX m (.iface t1 p1) (.iface t2 p2)) (bs3 true):=bs3_ok (GX_R _ _ _ _ _) fun _=>qc_g0 awake_q
theorem qc3 {m:Int} {t1 t2:TypeId} {p1 p2:Value} {f:FuncId} {args:List AV} {r:AV} (h:EV (GX m (.iface t1 p1) (.iface t2 p2)) (Tb (bs3 true)) f args []=some (r,[])):QC Tryz.prog (GX m (.iface t1 p1) (.iface t2 p2)) f args r:=EV_qc (Tb_ok (bs3 true)) (bs3_ok3 _ _ _ _ _) h
theorem and_t {a b:Bool} (h1:a=true) (h2:b=true):(a&&b)=true:=by rw [h1,h2];rfl
end Go.Proofs.YtmmafhopnkkeeaaGreatDoor
