/- append, over the abstract states. Conditions: none. -/
import Derived.Test.YtmmafhopnkkeeaaGreatDoorLg
namespace Go.Proofs.YtmmafhopnkkeeaaGreatDoor
set_option linter.unusedSimpArgs false
set_option linter.unusedVariables false
section
def compileGuard (opsA:Array Oper):Option (Nat × Bool)→Option (Option (Nat × Bool))
 | none=>some none
 | some (j,b)=>((opsA[j]?).bind (·.dst)).map fun d=>some (d,b)
def compileOpr (P:Program) (opsA:Array Oper) (o:Oper):Option AOp:=
 (compileOp P o).bind fun ai=>(compileGuard opsA o.guard).map fun g=>⟨o.dst,ai,g⟩
def compileOps (P:Program) (opsA:Array Oper):List Oper→Option (List AOp)
 | []=>some []
 | o::l=>(compileOpr P opsA o).bind fun x=>(compileOps P opsA l).map (x::·)
def WR (P:Program) (G:Glob) (k:Nat) (aops:List AOp) (Q:AS→Prop) (as:AS):Prop:=
 ∀ (opsA:Array Oper) (l:List Oper),compileOps P opsA l=some aops→∀ F γ a w,Inv F γ as.hp w→Slots F γ as.sl a→GlobOK F G→k≤γ.length→
  ∀ QE:Exit→Act→World→Prop,(∀ a' w' F' γ' as',Q as'→Ext k F γ w F' γ' w'→Inv F' γ' as'.hp w'→Slots F' γ' as'.sl a'→k≤γ'.length→QE .normal a' w')→wpList P opsA QE l a w
def Gh (k:Nat) (as as':AS):Prop:=
 ∀ F γ a w,Inv F γ as.hp w→Slots F γ as.sl a→k≤γ.length→∃ F' γ',Ext k F γ w F' γ' w∧Inv F' γ' as'.hp w∧Slots F' γ' as'.sl a∧k≤γ'.length
def gOK (G:Glob) (as:AS):Option (Nat × Bool)→Prop
 | none=>True
 | some (g,b)=>asBool? (evA G as.sl (.t g))=some b
def gNo (G:Glob) (as:AS):Option (Nat × Bool)→Prop
 | none=>False
 | some (g,b)=>asBool? (evA G as.sl (.t g))=some (!b)∨evA G as.sl (.t g)=.tup []
section
variable {P:Program} {G:Glob} {k:Nat} {Q:AS→Prop} {as as':AS} {o:AOp} {rest ops:List AOp}
theorem WR.nil (h:Q as):WR P G k [] Q as:=by
 intro opsA l hc F γ a w hi hs hg hk QE hq
 cases l with
 | nil=>exact hq a w F γ as h (Ext.refl _ _ _ _) hi hs hk
 | cons o l=>
  simp only [compileOps] at hc
  cases h1:compileOpr P opsA o with
  | none=>simp [h1] at hc
  | some x=>simp [h1] at hc
theorem WR.ghost (h:Gh k as as') (hw:WR P G k ops Q as'):WR P G k ops Q as:=by
 intro opsA l hc F γ a w hi hs hg hk QE hq
 obtain ⟨F',γ',he,hi',hs',hk'⟩:=h F γ a w hi hs hk
 exact hw opsA l hc F' γ' a w hi' hs' (hg.sub he.sub) hk' QE (fun a' w' F'' γ'' as'' h1 h2 h3 h4=>hq a' w' F'' γ'' as'' h1 (he.trans h2) h3 h4)
theorem WR.mono {Q':AS→Prop} (h:WR P G k ops Q as) (hq:∀ as,Q as→Q' as):WR P G k ops Q' as:=by
 intro opsA l hc F γ a w hi hs hg hk QE hqe
 exact h opsA l hc F γ a w hi hs hg hk QE (fun a' w' F' γ' as' h1=>hqe a' w' F' γ' as' (hq _ h1))
def StepTo (P:Program) (k:Nat) (oper:Oper) (dst:Option Nat) (a:Act) (w:World) (F:Fz) (γ:List OI) (R:AS→Prop):Prop:=
 (∃ nx v w' as' F' γ',(execOp a.eval oper).run P w=.ok nx w'∧(nx=.value v∨(nx=.skip∧v=undef))∧R as'∧Ext k F γ w F' γ' w'∧Inv F' γ' as'.hp w'∧Slots F' γ' as'.sl (a.put dst v)∧k≤γ'.length)∨
 (∃ f vs,(execOp a.eval oper).run P w=.ok (.enter f vs) w∧Calls P f vs w fun e w'=>∃ r as' F' γ',e=.returned r∧R as'∧Ext k F γ w F' γ' w'∧Inv F' γ' as'.hp w'∧Slots F' γ' as'.sl (a.put dst r)∧k≤γ'.length)
theorem asBool_tmp {F:Fz} {γ:List OI} {a:Act} {d:Nat} {b:Bool} (hs:Slots F γ as.sl a) (h:asBool? (evA G as.sl (.t d))=some b):a.tmps[d]?=some (.bool b):=by
 simp only [evA,List.getD_eq_getElem?_getD] at h
 cases hi:as.sl[d]? with
 | none=>simp [hi,asBool?] at h
 | some av=>
  simp [hi] at h
  have hlt:d < a.tmps.size:=hs.2.1 ▸ lt_of_get hi
  have hv:a.tmps[d]?=some (a.tmps[d]'hlt):=Array.getElem?_eq_getElem hlt
  rw [hv,rv_bool (hs.2.2 d av _ hi hv) h]
theorem undef_ok {F:Fz} {γ:List OI}:RV F γ (.tup []) undef:=.tup [] #[] rfl (fun i t v h=>by simp at h)
theorem undef_tmp {F:Fz} {γ:List OI} {a:Act} {d:Nat} (hs:Slots F γ as.sl a) (h:evA G as.sl (.t d)=.tup []):a.tmps[d]?=some undef∨a.tmps[d]?=none:=by
 simp only [evA,List.getD_eq_getElem?_getD] at h
 cases hi:as.sl[d]? with
 | none=>simp [hi] at h
 | some av=>
  simp [hi] at h
  subst h
  have hlt:d < a.tmps.size:=hs.2.1 ▸ lt_of_get hi
  have hv:a.tmps[d]?=some (a.tmps[d]'hlt):=Array.getElem?_eq_getElem hlt
  have h3:=hs.2.2 d _ _ hi hv
  left
  rw [hv]
  generalize a.tmps[d]'hlt=x at h3
  cases h3 with
  | tup l vs hsz hr=>
   have:vs=#[]:=Array.eq_empty_of_size_eq_zero (by simpa using hsz)
   subst this;rfl
theorem wanted_of {F:Fz} {γ:List OI} {a:Act} {opsA:Array Oper} {og:Option (Nat × Bool)} {oper:Oper} {b':Bool} (hs:Slots F γ as.sl a) (hc:compileGuard opsA oper.guard=some og):
  (gOK G as og→Region.wanted oper (yielded opsA a.tmps)=true)∧(gNo G as og→Region.wanted oper (yielded opsA a.tmps)=false):=by
 unfold compileGuard at hc
 unfold Region.wanted
 split at hc
 ·injection hc with hc;subst hc
  rename_i hn
  rw [hn]
  exact ⟨fun _=>rfl,fun h=>h.elim⟩
 ·rename_i j b hn
  rw [hn]
  cases hd:(opsA[j]?).bind (·.dst) with
  | none=>simp [hd] at hc
  | some d=>
   simp only [hd,Option.map_some,Option.some.injEq] at hc
   subst hc
   refine ⟨fun h=>?_,fun h=>?_⟩
   ·have:=asBool_tmp hs h
    simp [yielded,hd,this]
   ·rcases h with h | h
    ·have:=asBool_tmp hs h
     simp [yielded,hd,this]
    ·have:=undef_tmp hs h
     rcases this with this | this<;>simp [yielded,hd,this,undef]
theorem compile_cons {opsA:Array Oper} {l:List Oper} (hc:compileOps P opsA l=some (o::rest)):
  ∃ oper l',l=oper::l'∧compileOp P oper=some o.ai∧compileGuard opsA oper.guard=some o.guard∧oper.dst=o.dst∧compileOps P opsA l'=some rest:=by
 cases l with
 | nil=>simp [compileOps] at hc
 | cons oper l'=>
  simp only [compileOps,compileOpr] at hc
  cases h1:compileOp P oper with
  | none=>simp [h1] at hc
  | some ai=>
   cases h2:compileGuard opsA oper.guard with
   | none=>simp [h1,h2] at hc
   | some g=>
    cases h3:compileOps P opsA l' with
    | none=>simp [h1,h2,h3] at hc
    | some r=>
     simp only [h1,h2,h3,Option.bind_some,Option.map_some,Option.some.injEq,List.cons.injEq] at hc
     obtain ⟨rfl,rfl⟩:=hc
     exact ⟨oper,l',rfl,(by first | exact h1 | rfl),(by first | exact h2 | rfl),rfl,h3⟩
theorem WR.step (hgd:gOK G as o.guard)
  (h:∀ F γ a w (oper:Oper),compileOp P oper=some o.ai→oper.dst=o.dst→Inv F γ as.hp w→Slots F γ as.sl a→GlobOK F G→k≤γ.length→StepTo P k oper o.dst a w F γ (fun as'=>WR P G k rest Q as')):
  WR P G k (o::rest) Q as:=by
 intro opsA l hc F γ a w hi hs hg hk QE hq
 obtain ⟨oper,l',rfl,h1,h2,h3,h4⟩:=compile_cons hc
 refine wpList_step (fun K hK=>?_)
 rw [(wanted_of (b':=true) hs h2).1 hgd,if_pos rfl]
 unfold Oper.wp
 rcases h F γ a w oper h1 h3 hi hs hg hk with ⟨nx,v,w',as',F',γ',hr,hn,hR,hE,hI,hS,hk'⟩ | ⟨f,vs,hr,hcl⟩
 ·have go:K (a.put oper.dst v) w':=by
   rw [h3]
   exact hK _ _ (hR opsA l' h4 F' γ' _ w' hI hS (hg.sub hE.sub) hk' QE (fun a'' w'' F'' γ'' as'' q1 q2 q3 q4=>hq a'' w'' F'' γ'' as'' q1 (hE.trans q2) q3 q4))
  rw [hr]
  rcases hn with rfl | ⟨rfl,rfl⟩
  ·exact go
  ·exact go
 ·rw [hr,Oper.upon_enter]
  refine hcl.mono ?_
  rintro e w' ⟨r,as',F',γ',rfl,hR,hE,hI,hS,hk'⟩
  show K (a.put oper.dst r) w'
  rw [h3]
  exact hK _ _ (hR opsA l' h4 F' γ' _ w' hI hS (hg.sub hE.sub) hk' QE (fun a'' w'' F'' γ'' as'' q1 q2 q3 q4=>hq a'' w'' F'' γ'' as'' q1 (hE.trans q2) q3 q4))
theorem WR.skip (hgd:gNo G as o.guard) (h:WR P G k rest Q ⟨putS as.sl o.dst (.tup []),as.hp⟩):WR P G k (o::rest) Q as:=by
 intro opsA l hc F γ a w hi hs hg hk QE hq
 obtain ⟨oper,l',rfl,h1,h2,h3,h4⟩:=compile_cons hc
 refine wpList_step (fun K hK=>?_)
 rw [(wanted_of (b':=true) hs h2).2 hgd,if_neg (by simp),h3]
 exact hK _ _ (h opsA l' h4 F γ _ w hi (hs.put _ undef_ok) hg hk QE hq)
theorem WR.pur {v:AV} (hgd:gOK G as o.guard) (he:evP G as o.ai=some v) (h:WR P G k rest Q ⟨putS as.sl o.dst v,as.hp⟩):WR P G k (o::rest) Q as:=by
 refine WR.step hgd (fun F γ a w oper hc hd hi hs hg hk=>?_)
 obtain ⟨x,hr,hv⟩:=evP_ok hc he hi hs hg
 exact .inl ⟨_,x,w,⟨putS as.sl o.dst v,as.hp⟩,F,γ,hr,.inl rfl,h,Ext.refl _ _ _ _,hi,hs.put _ hv,hk⟩
def AI.isPure:AI→Bool
 | .alloc _=>false
 | .box _=>false
 | .store _ _ _=>false
 | .bslc _ _ _ _=>false
 | .call _ _=>false
 | .callv _ _=>false
 | .app _ _ _ _ _=>false
 | .apps _ _=>false
 | .mk _ _ _ _ _=>false
 | .clr _ _ _=>false
 | .cpys _ _=>false
 | .cvsb _=>false
 | _=>true
def runP (G:Glob):List AOp→AS→Option (List AOp × AS)
 | [],as=>some ([],as)
 | o::rest,as=>
  match o.guard,o.ai.isPure with
  | none,true=>(evP G as o.ai).bind fun v=>runP G rest ⟨putS as.sl o.dst v,as.hp⟩
  | _,_=>some (o::rest,as)
theorem WR.run:∀ (ops:List AOp) (as:AS) (rest:List AOp) (as':AS),runP G ops as=some (rest,as')→WR P G k rest Q as'→WR P G k ops Q as
 | [],as,rest,as',h,hw=>by simp [runP] at h;obtain ⟨rfl,rfl⟩:=h;exact hw
 | o::ops,as,rest,as',h,hw=>by
  simp only [runP] at h
  split at h
  ·rename_i hg _
   cases he:evP G as o.ai with
   | none=>simp [he] at h
   | some v=>
    simp only [he,Option.bind_some] at h
    exact WR.pur (by rw [hg];trivial) he (WR.run ops _ rest as' h hw)
  ·injection h with h;injection h with h1 h2;subst h1;subst h2;exact hw
def runG (G:Glob) (g:Nat) (b:Bool):List AOp→AS→Option (List AOp × AS)
 | [],as=>some ([],as)
 | o::rest,as=>
  if o.guard=some (g,b)∧o.ai.isPure=true∧o.dst≠some g then (evP G as o.ai).bind fun v=>runG G g b rest ⟨putS as.sl o.dst v,as.hp⟩
  else some (o::rest,as)
theorem evA_put {sl:List AV} {d:Option Nat} {v:AV} {g:Nat} (h:d≠some g):evA G (putS sl d v) (.t g)=evA G sl (.t g):=by
 cases d with
 | none=>rfl
 | some d=>
  have hne:d≠g:=fun e=>h (by rw [e])
  simp only [evA,putS,List.getD_eq_getElem?_getD,List.getElem?_set_ne hne]
theorem WR.runG {g:Nat} {b:Bool}:∀ (ops:List AOp) (as:AS) (rest:List AOp) (as':AS),asBool? (evA G as.sl (.t g))=some b→runG G g b ops as=some (rest,as')→WR P G k rest Q as'→WR P G k ops Q as
 | [],as,rest,as',hb,h,hw=>by simp [Go.Proofs.YtmmafhopnkkeeaaGreatDoor.runG] at h;obtain ⟨rfl,rfl⟩:=h;exact hw
 | o::ops,as,rest,as',hb,h,hw=>by
  simp only [Go.Proofs.YtmmafhopnkkeeaaGreatDoor.runG] at h
  split at h
  ·rename_i hc
   cases he:evP G as o.ai with
   | none=>simp [he] at h
   | some v=>
    simp only [he,Option.bind_some] at h
    exact WR.pur (by rw [hc.1];exact hb) he (WR.runG ops _ rest as' (by rw [evA_put hc.2.2];exact hb) h hw)
  ·injection h with h;injection h with h1 h2;subst h1;subst h2;exact hw
def skipG (g:Nat) (b:Bool):List AOp→AS→List AOp × AS
 | [],as=>([],as)
 | o::rest,as=>
  if o.guard=some (g,b)∧o.dst≠some g then skipG g b rest ⟨putS as.sl o.dst (.tup []),as.hp⟩
  else (o::rest,as)
theorem WR.skipG {g:Nat} {b:Bool}:∀ (ops:List AOp) (as:AS) (rest:List AOp) (as':AS),gNo G as (some (g,b))→skipG g b ops as=(rest,as')→WR P G k rest Q as'→WR P G k ops Q as
 | [],as,rest,as',hb,h,hw=>by simp [Go.Proofs.YtmmafhopnkkeeaaGreatDoor.skipG] at h;obtain ⟨rfl,rfl⟩:=h;exact hw
 | o::ops,as,rest,as',hb,h,hw=>by
  simp only [Go.Proofs.YtmmafhopnkkeeaaGreatDoor.skipG] at h
  split at h
  ·rename_i hc
   exact WR.skip (by rw [hc.1];exact hb) (WR.skipG ops _ rest as' (by simp only [gNo];rw [evA_put hc.2];exact hb) h hw)
  ·injection h with h1 h2;subst h1;subst h2;exact hw
end
end
section
def kindAI:AI→Nat
 | .alloc _=>1 | .box _=>2 | .store _ _ _=>3 | .bslc _ _ _ _=>4 | .call _ _=>5 | .callv _ _=>6 | .app _ _ _ _ _=>7 | .apps _ _=>8 | .mk _ _ _ _ _=>9 | .clr _ _ _=>10 | .isnil _ _ _=>11 | .cpys _ _=>12 | .cvsb _=>13 | _=>0
def kindOp:Op→List Nat
 | .alloc _=>[1] | .box _ _=>[2] | .store _ _ _=>[3] | .buildSlice _ _ _=>[4] | .makeSlice _ _ _=>[9] | .binOp _ _ _ _ _=>[0,11] | .convert _ _ _=>[0,13]
 | .call c=>match c.callee with
  | .value (.func _)=>[5]
  | .value _=>[6]
  | .builtin .append=>[7,8]
  | .builtin .clear=>[10]
  | .builtin .copy=>[12]
  | _=>[0]
 | _=>[0]
theorem kind_ok {P:Program} {o:Oper} {ai:AI} (hc:compileOp P o=some ai):kindAI ai∈kindOp o.op:=by
 obtain ⟨dst,op,type,pos,after,guard⟩:=o
 unfold compileOp at hc
 cases op
 case makeFunc fn a b=>
  cases fn<;>simp only [reduceCtorEq] at hc
  split at hc
  ·cases hc;simp [kindOp,kindAI]
  ·cases hc
 all_goals simp only [reduceCtorEq] at hc
 all_goals try unfold compileBin at hc
 all_goals try unfold compileNil at hc
 all_goals try unfold compileConv at hc
 all_goals try unfold compileCall at hc
 all_goals repeat' (first | (obtain ⟨_,_,hc⟩:=hc) | split at hc | (simp only [Option.bind_eq_some_iff,Option.map_eq_some_iff] at hc))
 all_goals first | (simp [kindOp,kindAI];done) | (simp [kindOp,kindAI, *];done) | contradiction | (cases hc;done) | (simp [kindOp,kindAI, *];done) | (injection hc with hc;subst hc;simp [kindOp,kindAI, *];done) | (subst hc;simp [kindOp,kindAI, *];done)
theorem kind_of {P:Program} {o:Oper} {ai:AI} {n:Nat} (hc:compileOp P o=some ai) (hn:kindAI ai=n):n∈kindOp o.op:=hn ▸ kind_ok hc
theorem op_alloc {op:Op} (h:1∈kindOp op):∃ e,op=.alloc e:=by
 cases op<;>first | (exact ⟨_,rfl⟩) | (simp [kindOp] at h;done) | (simp only [kindOp] at h;repeat' split at h)<;>simp at h
theorem op_box {op:Op} (h:2∈kindOp op):∃ e x,op=.box e x:=by
 cases op<;>first | (exact ⟨_,_,rfl⟩) | (simp [kindOp] at h;done) | (simp only [kindOp] at h;repeat' split at h)<;>simp at h
theorem op_store {op:Op} (h:3∈kindOp op):∃ e x y,op=.store e x y:=by
 cases op<;>first | (exact ⟨_,_,_,rfl⟩) | (simp [kindOp] at h;done) | (simp only [kindOp] at h;repeat' split at h)<;>simp at h
theorem op_bslc {op:Op} (h:4∈kindOp op):∃ e x y,op=.buildSlice e x y:=by
 cases op<;>first | (exact ⟨_,_,_,rfl⟩) | (simp [kindOp] at h;done) | (simp only [kindOp] at h;repeat' split at h)<;>simp at h
theorem op_mk {op:Op} (h:9∈kindOp op):∃ e x y,op=.makeSlice e x y:=by
 cases op<;>first | (exact ⟨_,_,_,rfl⟩) | (simp [kindOp] at h;done) | (simp only [kindOp] at h;repeat' split at h)<;>simp at h
theorem op_cvsb {op:Op} (h:13∈kindOp op):∃ s d x,op=.convert s d x:=by
 cases op<;>first | (exact ⟨_,_,_,rfl⟩) | (simp [kindOp] at h;done) | (simp only [kindOp] at h;repeat' split at h)<;>simp at h
theorem op_cpys {op:Op} (h:12∈kindOp op):∃ c,op=.call c∧c.callee=.builtin .copy:=by
 cases op<;>first | (simp [kindOp] at h;done) | skip
 rename_i c
 refine ⟨c,rfl, ?_⟩
 simp only [kindOp] at h
 split at h<;>simp_all
theorem op_clr {op:Op} (h:10∈kindOp op):∃ c,op=.call c∧c.callee=.builtin .clear:=by
 cases op<;>first | (simp [kindOp] at h;done) | skip
 rename_i c
 refine ⟨c,rfl, ?_⟩
 simp only [kindOp] at h
 split at h<;>simp_all
theorem op_call {op:Op} (h:5∈kindOp op∨6∈kindOp op∨7∈kindOp op∨8∈kindOp op):∃ c,op=.call c:=by
 cases op<;>first | (exact ⟨_,rfl⟩) | (simp [kindOp] at h;done)
section
variable {P:Program} {G:Glob} {k:Nat} {Q:AS→Prop} {as as':AS} {o:AOp} {rest ops:List AOp} {F:Fz} {γ:List OI} {w:World}
theorem RCs.ext {F':Fz} {γ':List OI} {cs:List Cel} {vs:Array Value} (h:RCs F γ cs vs) (hs:F.sub F') (hg:∀ (id:Nat) (o:OI),γ[id]?=some o→γ'[id]?=some o):RCs F' γ' cs vs:=
 ⟨h.1,fun i c v h1 h2=>(h.2 i c v h1 h2).ext hs hg⟩
theorem push_box (hi:Inv F γ as.hp w) {a:Act} (hs:Slots F γ as.sl a) (hk:k≤γ.length) {cs:List Cel} {vs:Array Value} {T:TypeId} (h:RCs F γ cs vs) (dst:Option Nat):
  Ext k F γ w F (γ++[.box w.heap.size]) (pushW w (.cells vs T))∧Inv F (γ++[.box w.heap.size]) (as.hp++[.box cs]) (pushW w (.cells vs T))∧
  Slots F (γ++[.box w.heap.size]) (putS as.sl dst (.one (.ptr as.hp.length 0))) (a.put dst (.pointer (some ⟨w.heap.size,0,none⟩)))∧k≤(γ++[OI.box w.heap.size]).length:=by
 have hx:∀ b,(OI.box w.heap.size).blk=some b→b=w.heap.size:=by intro b hb;simp [OI.blk] at hb;exact hb.symm
 refine ⟨Ext.push hi _ _ hx,Inv.push hi _ _ _ hx ?_, ?_,by simp;omega⟩
 ·have:=h.ext (fun _ _ h=>h) (γ':=γ++[.box w.heap.size]) (fun _ _ h=>get_append_left h)
  exact ⟨vs,T,push_own,Nat.le_of_eq this.1.symm,this.2⟩
 ·refine (hs.ext (fun _ _ h=>h) (fun _ _ h=>get_append_left h)).put dst (.one _ _ (.ptr _ _ _ ?_))
  rw [← hi.len];simp
theorem WR.alloc {zero:List Value} (hgd:gOK G as o.guard) (ha:o.ai=.alloc zero)
  (h:WR P G k rest Q ⟨putS as.sl o.dst (.one (.ptr as.hp.length 0)),as.hp++[.box (zero.map rawC)]⟩):WR P G k (o::rest) Q as:=by
 refine WR.step hgd (fun F γ a w oper hc hd hi hs hg hk=>?_)
 rw [ha] at hc
 obtain ⟨e,he⟩:=op_alloc (kind_of hc rfl)
 obtain ⟨dst,op,type,pos,after,guard⟩:=oper
 simp only at he
 subst he
 simp only [compileOp] at hc
 cases h1:P.info? e with
 | none=>simp [h1] at hc
 | some i=>cases h2:i.zero with
  | none=>simp [h1,h2] at hc
  | some z=>
   simp only [h1,h2,Option.bind_some] at hc
   split at hc
   ·rename_i hall
    injection hc with hc;injection hc with hc;subst hc
    have hzr:RCs F γ (z.cells.toList.map rawC) z.cells:=by
     have:=RCs.raw (F:=F) (γ:=γ) (vs:=z.cells.toList) (fun v hv=>List.all_eq_true.1 hall v hv)
     simpa using this
    obtain ⟨hE,hI,hS,hk'⟩:=push_box (T:=e) hi hs hk hzr o.dst
    refine .inl ⟨_,_,_,_,F,_, ?_,.inl rfl,h,hE,hI,hS,hk'⟩
    simp only [execOp,Instr.alloc,zeroValue,typeInfo,h1,h2,newVar,newRow,Sem.run_bind,run_program,Result.andThen_ok,Sem.run_pure,run_newObj,pushW]
   ·cases hc
theorem WR.box {x:AArg} {cs:List Cel} (hgd:gOK G as o.guard) (ha:o.ai=.box x) (hx:cellsOf (evA G as.sl x)=some cs)
  (h:WR P G k rest Q ⟨putS as.sl o.dst (.one (.ptr as.hp.length 0)),as.hp++[.box cs]⟩):WR P G k (o::rest) Q as:=by
 refine WR.step hgd (fun F γ a w oper hc hd hi hs hg hk=>?_)
 rw [ha] at hc
 obtain ⟨e,y,he⟩:=op_box (kind_of hc rfl)
 obtain ⟨dst,op,type,pos,after,guard⟩:=oper
 simp only at he
 subst he
 simp only [compileOp,Option.some.injEq,AI.box.injEq] at hc
 subst hc
 have hr:=(rv_arg hs hg y).cells hx
 obtain ⟨hE,hI,hS,hk'⟩:=push_box (T:=e) hi hs hk hr o.dst
 refine .inl ⟨_,_,_,_,F,_, ?_,.inl rfl,h,hE,hI,hS,hk'⟩
 simp only [execOp,Instr.box,newVar,newRow,Sem.run_bind,Result.andThen_ok,Sem.run_pure,run_newObj,pushW]
theorem RCs.is1 {cs:List Cel} {vs:Array Value} (h:RCs F γ cs vs):∀ v∈vs.toList,is1 v=true:=by
 intro v hv
 obtain ⟨i,hi⟩:=List.getElem?_of_mem hv
 have hlt:i < vs.size:=by have:=lt_of_get hi;simpa using this
 have hc:cs[i]?=some (cs[i]'(h.1 ▸ hlt)):=List.getElem?_eq_getElem _
 exact (h.2 i _ v hc (by simpa using hi)).is1
theorem splice_get (l:List Value):∀ (k0:Nat) (vs:Array Value) (n q:Nat),(splice vs q l k0)[n]?=if q+k0≤n∧n < q+k0+l.length∧n < vs.size then l[n - (q+k0)]? else vs[n]?:=by
 induction l with
 | nil=>intro k0 vs n q;simp [splice];intro h1 h2;omega
 | cons x l ih=>
  intro k0 vs n q
  simp only [splice,List.zipIdx_cons,List.foldl_cons]
  have h2:=ih (k0+1) (vs.setIfInBounds (q+k0) x) n q
  simp only [splice] at h2
  rw [h2]
  simp only [Array.size_setIfInBounds,List.length_cons,Array.getElem?_setIfInBounds]
  by_cases c1:n=q+k0
  ·subst c1
   rw [if_neg (by omega)]
   by_cases c2:q+k0 < vs.size
   ·rw [if_pos (by omega),if_pos c2,if_pos (by omega)];simp
   ·rw [if_pos (by omega),if_neg c2,if_neg (by omega)];simp [Array.getElem?_eq_none (Nat.le_of_not_lt c2)]
  ·rw [if_neg (show ¬ q+k0=n by omega)]
   by_cases c2:q+(k0+1)≤n∧n < q+(k0+1)+l.length∧n < vs.size
   ·rw [if_pos c2,if_pos (by omega)]
    rw [show n - (q+k0)=(n - (q+(k0+1)))+1 by omega]
    simp
   ·rw [if_neg c2,if_neg (by omega)]
theorem splice_putW {cs vs:List Cel} {as bs:Array Value} {off:Nat} (hs:cs.length≤as.size) (h:∀ (i:Nat) c v,cs[i]?=some c→as[i]?=some v→RC F γ c v) (h':RCs F γ vs bs) (hle:off+vs.length≤cs.length):
  (putAt cs off vs).length≤(splice as off bs.toList).size∧∀ (i:Nat) c v,(putAt cs off vs)[i]?=some c→(splice as off bs.toList)[i]?=some v→RC F γ c v:=by
 have hb:=h'.1
 refine ⟨by rw [splice_size];unfold putAt;simp;omega,fun i c v h1 h2=>?_⟩
 rw [splice_get] at h2
 unfold putAt at h1
 simp only [Nat.add_zero,Array.length_toList] at h2
 have e1:min off cs.length=off:=by omega
 by_cases c1:i < off
 ·rw [if_neg (by omega)] at h2
  rw [List.append_assoc,List.getElem?_append_left (by simp;omega),List.getElem?_take,if_pos c1] at h1
  exact h i c v h1 h2
 ·by_cases c2:i < off+vs.length
  ·rw [if_pos ⟨by omega,by omega,by omega⟩] at h2
   rw [List.append_assoc,List.getElem?_append_right (by simp;omega),List.getElem?_append_left (by simp;omega)] at h1
   simp only [List.length_take,e1] at h1
   exact h'.2 (i - off) c v h1 (by simpa using h2)
  ·rw [if_neg (by omega)] at h2
   rw [List.getElem?_append_right (by simp;omega)] at h1
   simp only [List.length_append,List.length_take,e1,List.getElem?_drop] at h1
   rw [show off+vs.length+(i - (off+vs.length))=i by omega] at h1
   exact h i c v h1 h2
theorem putAt_nil (cs:List Cel) (off:Nat):putAt cs off []=cs:=by simp [putAt]
theorem store_inv {oper:Oper} {size:Nat} {x v:AArg} (hc:compileOp P oper=some (.store size x v)):
  ∃ t ox ov,oper.op=.store t ox ov∧sizeP P t=some size∧x=argOf ox∧v=argOf ov:=by
 obtain ⟨t,ox,ov,he⟩:=op_store (kind_of hc rfl)
 obtain ⟨dst,op,type,pos,after,guard⟩:=oper
 simp only at he
 subst he
 simp only [compileOp] at hc
 cases h2:sizeP P t with
 | none=>simp [h2] at hc
 | some s=>
  simp only [h2,Option.map_some,Option.some.injEq,AI.store.injEq] at hc
  obtain ⟨rfl,rfl,rfl⟩:=hc
  exact ⟨t,ox,ov,rfl,h2,rfl,rfl⟩
theorem WR.store {size id off:Nat} {x v:AArg} {cs vs:List Cel} (hgd:gOK G as o.guard) (ha:o.ai=.store size x v) (hd0:o.dst=none)
  (hx:evA G as.sl x=.one (.ptr id off)) (hv:cellsOf (evA G as.sl v)=some vs) (hb:hpGet as.hp id=.box cs) (hsz:vs.length=size) (hle:off+size≤cs.length)
  (h:WR P G k rest Q ⟨as.sl,as.hp.set id (.box (putAt cs off vs))⟩):WR P G k (o::rest) Q as:=by
 refine WR.step hgd (fun F γ a w oper hc hd hi hs hg hk=>?_)
 rw [ha] at hc
 obtain ⟨t,ox,ov,he,hst,rfl,rfl⟩:=store_inv hc
 have hrx:=rv_arg (G:=G) hs hg ox
 rw [hx] at hrx
 generalize hax:a.eval ox=ax at hrx
 cases hrx with | one c _ hcc=>cases hcc with | ptr _ _ b hgm=>
 have hrv:=(rv_arg hs hg ov).cells hv
 obtain ⟨ws,T,hh,hws,hwr⟩:=hi.box hb hgm
 have hsz':(a.eval ov).cells.size=size:=by rw [hrv.1,hsz]
 have hrun:=run_storeVar_blk (P:=P) (off:=off) hh (by rw [hsz'];exact hst) hrv.is1 (by rw [hsz'];omega)
 obtain ⟨dst,op,type,pos,after,guard⟩:=oper
 simp only at he
 subst he
 refine .inl ⟨.skip,undef,if (a.eval ov).cells.toList=[] then w else setB w b (splice ws off (a.eval ov).cells.toList) T,_,F,γ, ?_,.inr ⟨rfl,rfl⟩,h, ?_, ?_, ?_,hk⟩
 ·simp only [execOp,hax,Sem.run_bind,hrun,Result.andThen_ok,Sem.run_pure]
 ·split
  ·exact Ext.refl _ _ _ _
  ·exact Ext.setB hi hgm rfl
 ·split
  ·rename_i h0
   have:vs=[]:=by
    have h1:=hrv.1
    have h2:(a.eval ov).cells.size=0:=by rw [← Array.length_toList,h0];rfl
    exact List.eq_nil_of_length_eq_zero (by omega)
   subst this
   rw [putAt_nil]
   have hset:as.hp.set id (.box cs)=as.hp:=by
    apply List.ext_getElem?
    intro i
    by_cases hii:id=i
    ·subst hii
     have:=hpGet_some hb (by simp)
     rw [List.getElem?_set_self (lt_of_get this),this]
    ·rw [List.getElem?_set_ne hii]
   rw [hset]
   exact hi
  ·refine hi.setObj hgm rfl ?_
   have:=splice_putW (off:=off) hws hwr hrv (by omega)
   exact ⟨_,T,setB_same hh (splice_size _ _ _ _),this.1,this.2⟩
 ·rw [hd0];exact hs
def dcC:List DC→List Cel:=List.map .dc
theorem WR.storeE {size id i s off cap:Nat} {x v:AArg} {es:List (List DC)} {e ds e':List DC} (hgd:gOK G as o.guard) (ha:o.ai=.store size x v) (hd0:o.dst=none)
  (hx:evA G as.sl x=.one (.ept id i s off)) (hv:cellsOf (evA G as.sl v)=some (dcC ds)) (hb:hpGet as.hp id=.arr cap s es) (he:es[i]?=some e) (hsz:ds.length=size) (hle:off+size≤e.length)
  (he':e'=e.take off++ds++e.drop (off+size))
  (h:WR P G k rest Q ⟨as.sl,as.hp.set id (.arr cap s (es.set i e'))⟩):WR P G k (o::rest) Q as:=by
 refine WR.step hgd (fun F γ a w oper hc hd hi hs hg hk=>?_)
 rw [ha] at hc
 obtain ⟨t,ox,ov,hop,hst,rfl,rfl⟩:=store_inv hc
 have hrx:=rv_arg (G:=G) hs hg ox
 rw [hx] at hrx
 generalize hax:a.eval ox=ax at hrx
 cases hrx with | one c _ hcc=>cases hcc with | ept _ _ _ _ b cap' hgm=>
 have hrv:=(rv_arg hs hg ov).cells hv
 obtain ⟨hcap,hec,hes,ws,T,hh,hws,hwr⟩:=hi.arr hb hgm
 have hel:e.length=s:=hes e (List.mem_of_getElem? he)
 have hil:=lt_of_get he
 have hsz':(a.eval ov).cells.size=size:=by rw [hrv.1,dcC,List.length_map,hsz]
 have hfit:i * s+off+size≤ws.size:=by
  rw [hws]
  have h1:(i+1) * s≤cap * s:=Nat.mul_le_mul_right s (by omega)
  rw [Nat.add_mul] at h1
  omega
 have hrun:=run_storeVar_blk (P:=P) (off:=i * s+off) hh (by rw [hsz'];exact hst) hrv.is1 (by rw [hsz'];exact hfit)
 have hlen':e'.length=s:=by rw [he'];simp;omega
 have hok:∀ ws':Array Value,ws'.size=ws.size→(∀ (n:Nat),ws'[n]?=if i * s+off≤n∧n < i * s+off+size then (a.eval ov).cells[n - (i * s+off)]? else ws[n]?)→
   ∀ (i' j:Nat) e1 d v,(es.set i e')[i']?=some e1→e1[j]?=some d→ws'[i' * s+j]?=some v→RD F d v:=by
  intro ws' hsz1 hget i' j e1 d v h1 h2 h3
  rw [hget] at h3
  by_cases hii:i=i'
  ·subst hii
   rw [List.getElem?_set_self hil] at h1
   injection h1 with h1;subst h1
   have hj:j < s:=hlen' ▸ lt_of_get h2
   subst he'
   by_cases hj1:j < off
   ·rw [if_neg (by omega)] at h3
    rw [List.append_assoc,List.getElem?_append_left (by simp;omega),List.getElem?_take,if_pos hj1] at h2
    exact hwr i j e d v he h2 h3
   ·by_cases hj2:j < off+size
    ·rw [if_pos (by omega)] at h3
     rw [List.append_assoc,List.getElem?_append_right (by simp;omega),List.getElem?_append_left (by simp;omega)] at h2
     have e1:min off e.length=off:=by omega
     simp only [List.length_take,e1] at h2
     rw [show i * s+j - (i * s+off)=j - off by omega] at h3
     have:=hrv.2 (j - off) (.dc d) v (by simp [dcC,h2]) h3
     cases this with | dc _ _ h=>exact h
    ·rw [if_neg (by omega)] at h3
     have e1:min off e.length=off:=by omega
     rw [List.getElem?_append_right (by simp;omega)] at h2
     simp only [List.length_append,List.length_take,e1,List.getElem?_drop,hsz] at h2
     rw [show off+size+(j - (off+size))=j by omega] at h2
     exact hwr i j e d v he h2 h3
  ·rw [List.getElem?_set_ne hii] at h1
   have hj:j < s:=by have:=hes _ (List.mem_of_getElem? h1);have:=lt_of_get h2;omega
   rw [if_neg (by
    rintro ⟨a1,a2⟩
    rcases Nat.lt_trichotomy i i' with c | c | c
    ·have:=Nat.mul_le_mul_right s (show i+1≤i' by omega);rw [Nat.add_mul] at this;omega
    ·exact hii c
    ·have:=Nat.mul_le_mul_right s (show i'+1≤i by omega);rw [Nat.add_mul] at this;omega)] at h3
   exact hwr i' j e1 d v h1 h2 h3
 obtain ⟨dst,op,type,pos,after,guard⟩:=oper
 simp only at hop
 subst hop
 have hsp:∀ (l:List Value) (k0:Nat) (vs:Array Value) (n q:Nat),(splice vs q l k0)[n]?=if q+k0≤n∧n < q+k0+l.length∧n < vs.size then l[n - (q+k0)]? else vs[n]?:=by
  intro l
  induction l with
  | nil=>intro k0 vs n q;simp [splice];intro h1 h2;omega
  | cons x l ih=>
   intro k0 vs n q
   simp only [splice,List.zipIdx_cons,List.foldl_cons]
   have h2:=ih (k0+1) (vs.setIfInBounds (q+k0) x) n q
   simp only [splice] at h2
   rw [h2]
   simp only [Array.size_setIfInBounds,List.length_cons,Array.getElem?_setIfInBounds]
   by_cases c1:n=q+k0
   ·subst c1
    rw [if_neg (by omega)]
    by_cases c2:q+k0 < vs.size
    ·rw [if_pos (by omega),if_pos c2,if_pos (by omega)];simp
    ·rw [if_pos (by omega),if_neg c2,if_neg (by omega)];simp [Array.getElem?_eq_none (Nat.le_of_not_lt c2)]
   ·rw [if_neg (show ¬ q+k0=n by omega)]
    by_cases c2:q+(k0+1)≤n∧n < q+(k0+1)+l.length∧n < vs.size
    ·rw [if_pos c2,if_pos (by omega)]
     rw [show n - (q+k0)=(n - (q+(k0+1)))+1 by omega]
     simp
    ·rw [if_neg c2,if_neg (by omega)]
 have hn0:¬ ((a.eval ov).cells.toList=[]∧size≠0):=by
  rintro ⟨h1,h2⟩
  have:(a.eval ov).cells.size=0:=by rw [← Array.length_toList,h1];rfl
  omega
 refine .inl ⟨.skip,undef,if (a.eval ov).cells.toList=[] then w else setB w b (splice ws (i * s+off) (a.eval ov).cells.toList) T,_,F,γ, ?_,.inr ⟨rfl,rfl⟩,h, ?_, ?_, ?_,hk⟩
 ·simp only [execOp,hax,Sem.run_bind,hrun,Result.andThen_ok,Sem.run_pure]
 ·split
  ·exact Ext.refl _ _ _ _
  ·exact Ext.setB hi hgm rfl
 ·split
  ·rename_i h0
   have hs0:size=0:=by
    rcases Nat.eq_zero_or_pos size with h | h
    ·exact h
    ·exact absurd ⟨h0,by omega⟩ hn0
   have hds:ds=[]:=List.eq_nil_of_length_eq_zero (by omega)
   have hee:e'=e:=by rw [he',hds,hs0];simp
   have h1:es.set i e'=es:=by
    apply List.ext_getElem?
    intro n
    by_cases hn:i=n
    ·subst hn;rw [List.getElem?_set_self hil,he,hee]
    ·rw [List.getElem?_set_ne hn]
   rw [h1]
   have hset:as.hp.set id (.arr cap s es)=as.hp:=by
    apply List.ext_getElem?
    intro i
    by_cases hii:id=i
    ·subst hii
     have:=hpGet_some hb (by simp)
     rw [List.getElem?_set_self (lt_of_get this),this]
    ·rw [List.getElem?_set_ne hii]
   rw [hset]
   exact hi
  ·refine hi.setObj hgm rfl ⟨hcap,by simpa using hec,fun x hx=>?_,_,T,setB_same hh (splice_size _ _ _ _),by rw [splice_size,hws],hok _ (splice_size _ _ _ _) (fun n=>?_)⟩
   ·rcases List.mem_or_eq_of_mem_set hx with h1 | h1
    ·exact hes x h1
    ·rw [h1];exact hlen'
   ·rw [hsp]
    simp only [Nat.add_zero,Array.length_toList,hsz',Array.getElem?_toList]
    by_cases c:i * s+off≤n∧n < i * s+off+size
    ·rw [if_pos ⟨c.1,c.2,by omega⟩,if_pos c]
    ·rw [if_neg (fun c'=>c ⟨c'.1,c'.2.1⟩),if_neg c]
 ·rw [hd0];exact hs
end
end
section
section
variable {P:Program} {G:Glob} {k:Nat} {Q:AS→Prop} {as as':AS} {o:AOp} {rest ops:List AOp} {F:Fz} {γ:List OI} {w:World}
theorem flatten_get {α:Type} {size:Nat}:∀ (es:List (List α)),(∀ e∈es,e.length=size)→∀ (i j:Nat) e d,es[i]?=some e→e[j]?=some d→es.flatten[i * size+j]?=some d
 | [],_,i,j,e,d,h,_=>by simp at h
 | x::es,hs,i,j,e,d,h,h'=>by
  have hx:x.length=size:=hs x (List.mem_cons_self)
  cases i with
  | zero=>
   simp at h;subst h
   simp only [List.flatten_cons,Nat.zero_mul,Nat.zero_add]
   rw [List.getElem?_append_left (lt_of_get h')];exact h'
  | succ i=>
   simp only [List.flatten_cons]
   rw [List.getElem?_append_right (by grind),hx]
   rw [show (i+1) * size+j - size=i * size+j by grind]
   exact flatten_get es (fun e he=>hs e (List.mem_cons_of_mem _ he)) i j e d (by grind) h'
theorem flatten_len {α:Type} {size:Nat}:∀ (es:List (List α)),(∀ e∈es,e.length=size)→es.flatten.length=es.length * size
 | [],_=>by simp
 | x::es,hs=>by
  simp only [List.flatten_cons,List.length_append,List.length_cons,hs x (List.mem_cons_self),flatten_len es (fun e he=>hs e (List.mem_cons_of_mem _ he)),Nat.add_mul]
  omega
theorem push_arr (hi:Inv F γ as.hp w) {a:Act} (hs:Slots F γ as.sl a) (hk:k≤γ.length) {cap size n:Nat} {es:List (List DC)} {vs:Array Value} {T:TypeId} (hes:∀ e∈es,e.length=size)
  (hcap:es.length≤cap) (hvs:vs.size=cap * size) (hr:∀ (i j:Nat) e d v,es[i]?=some e→e[j]?=some d→vs[i * size+j]?=some v→RD F d v) (dst:Option Nat):
  Ext k F γ w F (γ++[.arr (some w.heap.size) cap]) (pushW w (.cells vs T))∧Inv F (γ++[.arr (some w.heap.size) cap]) (as.hp++[.arr cap size es]) (pushW w (.cells vs T))∧
  Slots F (γ++[.arr (some w.heap.size) cap]) (putS as.sl dst (.one (.bld as.hp.length n))) (a.put dst (.slice (some ⟨w.heap.size,0,none⟩) n cap))∧k≤(γ++[OI.arr (some w.heap.size) cap]).length:=by
 have hx:∀ b,(OI.arr (some w.heap.size) cap).blk=some b→b=w.heap.size:=by grind[OI.blk]
 refine ⟨Ext.push hi _ _ hx,Inv.push hi _ _ _ hx ?_, ?_,by grind⟩
 ·exact ⟨rfl,hcap,hes,vs,T,push_own,hvs,hr⟩
 ·refine (hs.ext (fun _ _ h=>h) (fun _ _ h=>get_append_left h)).put dst (.one _ _ (.bld _ _ _ _ ?_))
  rw [← hi.len];simp
theorem rep_zero (z:List Value) (n:Nat) (hz:0 < z.length) (h1:∀ v∈z,is1 v=true):RCs F γ ((List.range n).map fun i=>rawC (z.getD (i % z.length) undef)) ((Array.range n).map (z.toArray[· % z.toArray.size]!)):=by
 refine ⟨by simp,fun i c v hc hv=>?_⟩
 simp only [List.getElem?_map] at hc
 have hi:i < n:=by
  grind
 rw [List.getElem?_range hi] at hc
 simp at hc
 subst hc
 simp [hi] at hv
 have hlt:i % z.length < z.length:=Nat.mod_lt _ hz
 have hv':z[i % z.length]=v:=by simp_all
 subst hv'
 rw [show z[i % z.length]?.getD undef=z[i % z.length] by simp [hlt]]
 exact .dc _ _ (.raw _ (h1 _ (List.getElem_mem hlt)))
theorem WR.bslc {size len:Nat} {zero:List Value} {parts:List (Nat × AArg)} {es:List (List DC)} (hgd:gOK G as o.guard) (ha:o.ai=.bslc size len zero parts)
  (hf:fillV ((List.range (len * size)).map fun i=>rawC (zero.getD (i % zero.length) undef)) (parts.map fun (j,x)=>(j * size,size,evA G as.sl x))=some (dcC es.flatten))
  (hes:∀ e∈es,e.length=size) (hlen:es.length=len)
  (h:WR P G k rest Q ⟨putS as.sl o.dst (.one (.bld as.hp.length len)),as.hp++[.arr len size es]⟩):WR P G k (o::rest) Q as:=by
 refine WR.step hgd (fun F γ a w oper hc hd hi hs hg hk=>?_)
 rw [ha] at hc
 obtain ⟨t,len',ps,hop⟩:=op_bslc (kind_of hc rfl)
 obtain ⟨dst,op,type,pos,after,guard⟩:=oper
 simp only at hop
 subst hop
 simp only [compileOp] at hc
 split at hc
 ·rename_i e hu
  cases h1:P.info? e with
  | none=>simp [h1] at hc
  | some i=>cases h2:i.zero with
   | none=>simp [h1,h2] at hc
   | some z=>
    simp only [h1,h2,Option.bind_some] at hc
    split at hc
    ·rename_i hcond
     obtain ⟨hc1,hc2,hc3,hc4⟩:=hcond
     injection hc with hc;injection hc with e1 e2 e3 e4
     subst e1;subst e2;subst e3;subst e4
     have hzl:z.cells.toList.length=i.size:=by simpa using hc2
     have hz:RCs F γ ((List.range (len' * i.size)).map fun n=>rawC (z.cells.toList.getD (n % z.cells.toList.length) undef)) ((Array.range (len' * i.size)).map (z.cells[· % z.cells.size]!)):=by
      have:=rep_zero (F:=F) (γ:=γ) z.cells.toList (len' * i.size) (by omega) (fun v hv=>List.all_eq_true.1 hc4 v hv)
      have e0:z.cells.toList.toArray=z.cells:=by simp
      rw [e0] at this
      exact this
     obtain ⟨r,hr1,hr2⟩:=fill_ok (place:=fun j=>some (j * i.size,i.size)) _ (ps.toList.map fun (j,x)=>(j,a.eval x)) _ _ _ hz hf (by simp) (fun n o s av j x hn hj=>by
      simp only [List.map_map,List.getElem?_map] at hn hj
      cases hp:ps.toList[n]? with
      | none=>simp [hp] at hn
      | some q=>
       obtain ⟨j',x'⟩:=q
       simp [hp] at hn hj
       obtain ⟨rfl,rfl,rfl⟩:=hn
       obtain ⟨rfl,rfl⟩:=hj
       exact ⟨rfl,rv_arg hs hg x'⟩)
     have hrs:r.size=len' * i.size:=by rw [hr2.1,dcC,List.length_map,flatten_len es hes,hlen]
     have hrr:∀ (n j:Nat) e d v,es[n]?=some e→e[j]?=some d→r[n * i.size+j]?=some v→RD F d v:=by
      intro n j e d v h3 h4 h5
      have:=hr2.2 (n * i.size+j) (.dc d) v (by show (List.map Cel.dc es.flatten)[n * i.size+j]?=_;rw [List.getElem?_map,flatten_get es hes n j e d h3 h4];rfl) h5
      cases this with | dc _ _ h=>exact h
     obtain ⟨hE,hI,hS,hk'⟩:=push_arr (T:=e) (n:=len') hi hs hk hes (by omega) hrs hrr o.dst
     refine .inl ⟨_,_,_,_,F,_, ?_,.inl rfl,h,hE,hI,hS,hk'⟩
     have hno:¬ (len' * i.size > 2 ^ 24):=by omega
     have hfill:Instr.fill (fun j=>some (j * i.size,i.size)) ((Array.range (len' * i.size)).map ((if len' * i.size=0 then #[] else z.cells)[· % (if len' * i.size=0 then #[] else z.cells).size]!)) (ps.map fun (j,x)=>(j,a.eval x)).toList=some r:=by
      have e0:(ps.map fun (j,x)=>(j,a.eval x)).toList=ps.toList.map fun (j,x)=>(j,a.eval x):=by simp
      rw [e0,← hr1]
      congr 1
      split
      ·simp_all
      ·rfl
     have hzv:(zeroValue e).run P w=.ok z w:=by simp [zeroValue,typeInfo,h1,h2]
     simp only [execOp,Instr.buildSlice,run_underlying hu,Sem.run_bind,Result.andThen_ok,sizeOf,typeInfo,run_program,h1,Sem.run_pure,Sem.run_ite,if_neg hno,hzv]
     by_cases h0:len' * i.size=0
     ·simp only [if_pos h0] at hfill ⊢
      simp only [hfill,Sem.run_bind,Result.andThen_ok,Sem.run_pure,newRow,run_newObj,pushW]
     ·simp only [if_neg h0] at hfill ⊢
      simp only [hfill,Sem.run_bind,Result.andThen_ok,Sem.run_pure,newRow,run_newObj,pushW]
    ·cases hc
 ·cases hc
theorem run_app {t u ty e:TypeId} {du:TypeDesc} {i:TypeInfo} {z:Value} (ht:P.underlying t=some (.slice e)) (hu:P.underlying u=some du) (hdu:du=.slice e∨du=.string) (hi:P.info? e=some i) (hz:i.zero=some z) (hby:0 < i.bytes)
  {A:Option Addr} {n cap m:Nat} {x:Value} (old news:List Value) (hold:(Builtin.firstCells i.size n (.slice A n cap)).run P w=.ok old.toArray w)
  (hx:∀ w',w'.heap=w.heap→(Builtin.firstCells i.size m x).run P w'=.ok news.toArray w') (hxl:(Builtin.lenOf x).run P w=.ok m w) (hub:(n+m) * i.bytes≤140737488355328) (hold':(Builtin.firstCells i.size n (.slice A n cap)).run P (w.drew)=.ok old.toArray (w.drew)):
  (n+m≤cap→(Builtin.append_ #[t,u] ty #[.slice A n cap,x]).run P w=(match A with | some a=>(storeCells (a.add (n * i.size)) news).run P w | none=>.ok () w).andThen fun _ w'=>.ok (.slice A (n+m) cap) w')∧
  (¬ n+m≤cap→∃ c rest,n+m≤c∧rest.length=(c - (n+m)) * z.cells.size∧(Builtin.append_ #[t,u] ty #[.slice A n cap,x]).run P w=.ok (.slice (some ⟨w.heap.size,0,none⟩) (n+m) c) (pushW (w.drew) (.cells (old++news++rest).toArray e))):=by
 have hzeros:(match (#[t,u]:Array TypeId)[1]? with
  | some xType=>do pure ((← underlying xType) matches .int _)
  | none=>pure false:Sem Bool).run P w=.ok false w:=by
  rcases hdu with rfl | rfl<;>simp [run_underlying hu]
 have hnm:n+m≤140737488355328:=Nat.le_trans (Nat.le_mul_of_pos_right _ hby) hub
 refine ⟨fun hle=>?_,fun hgt=>?_⟩
 ·cases A with
  | none=>
   simp only [Builtin.append_]
   rcases hdu with rfl | rfl<;>simp [run_underlying ht,run_underlying hu,sizeOf,typeInfo,hi,hxl,hle,hx w rfl]
  | some a=>
   simp only [Builtin.append_]
   rcases hdu with rfl | rfl<;>simp [run_underlying ht,run_underlying hu,sizeOf,typeInfo,hi,hxl,hle,hx w rfl]
 ·have hcap:cap < n+m:=by omega
  have hgrow:=growslice_fits (bytes:=i.bytes) hcap hub
  have hmax:¬ ((n:Int)+(m:Int) > IntKind.i64.max):=by rw [maxI64];omega
  refine ⟨n+m+w.tape w.drawn (.appendCap (n+m) cap e) % (2 ^ 63 - (n+m)),(Builtin.zeroCells z.cells (n+m+w.tape w.drawn (.appendCap (n+m) cap e) % (2 ^ 63 - (n+m)) - (n+m))).toList,by omega,by simp [Builtin.zeroCells], ?_⟩
  simp only [Builtin.append_]
  have hx':=hx (w.drew) rfl
  have hnc:¬ (281474976710656 < Builtin.nextslicecap (n+m) cap * i.bytes):=by omega
  have hch:(choose (.appendCap (n+m) cap e)).run P w=.ok (n+m+w.tape w.drawn (.appendCap (n+m) cap e) % (2 ^ 63 - (n+m))) (w.drew):=rfl
  have hn1:¬ (9223372036854775807 < (n:Int)+(m:Int)∧i.bytes=0):=by omega
  have hzv:∀ w',(zeroValue e).run P w'=.ok z w':=fun w'=>by simp_all[zeroValue,typeInfo]
  rcases hdu with rfl | rfl
  all_goals
   simp [run_underlying ht,run_underlying hu,sizeOf,typeInfo,hi,hxl,hgt]
   rw [if_neg hn1,if_neg hnc]
   simp [Question.forced,hold',hx',hzv,newRow,Question.cut]
   refine congrArg (fun c=>World.alloc w.drew (Obj.cells c e)) ?_
   simp_all
theorem rep_get {z:List Value} {n:Nat} {size cap:Nat} (hz:z.length=size) (h1:∀ v∈z,is1 v=true):∀ (i j:Nat) e d v,(List.replicate n (z.map DC.raw))[i]?=some e→e[j]?=some d→
  ((Array.range (cap * size)).map (z.toArray[· % z.toArray.size]!))[i * size+j]?=some v→RD F d v:=by
 intro i j e d v h2 h3 h4
 rw [List.getElem?_replicate] at h2
 split at h2
 ·injection h2 with h2;subst h2
  rw [List.getElem?_map] at h3
  obtain ⟨x,h5,rfl⟩:=Option.map_eq_some_iff.1 h3
  have hj:j < size:=by grind
  have hlt:i * size+j < cap * size:=by
   grind
  simp [hlt] at h4
  have e1:(i * size+j) % z.length=j:=by grind[Nat.mul_comm,Nat.mul_add_mod,Nat.mod_eq_of_lt]
  rw [e1,h5] at h4
  simp at h4
  subst h4
  exact .raw _ (h1 _ (List.mem_of_getElem? h5))
 grind
theorem wrapS {n:Nat} (h:n≤140737488355328):IntKind.i64.wrap (n:Int)=n:=by rw [IntKind.wrap_i64];omega
theorem WR.mk {size bytes:Nat} {zero:List Value} {l c:AArg} {n m:Nat} (hgd:gOK G as o.guard) (ha:o.ai=.mk size bytes zero l c)
  (hl:asInt? (evA G as.sl l)=some (n:Int)) (hm:asInt? (evA G as.sl c)=some (m:Int)) (hnm:n≤m) (hb:m * bytes≤140737488355328)
  (h:WR P G k rest Q ⟨putS as.sl o.dst (.one (.bld as.hp.length n)),as.hp++[.arr m size (List.replicate n (zero.map DC.raw))]⟩):WR P G k (o::rest) Q as:=by
 refine WR.step hgd (fun F γ a w oper hc hd hi hs hg hk=>?_)
 rw [ha] at hc
 obtain ⟨t,lo,co,hop⟩:=op_mk (kind_of hc rfl)
 obtain ⟨dst,op,type,pos,after,guard⟩:=oper
 simp only at hop
 subst hop
 simp only [compileOp] at hc
 split at hc
 ·rename_i e hu
  cases h1:P.info? e with
  | none=>simp_all
  | some i=>cases h2:i.zero with
   | none=>simp_all
   | some z=>
    simp only [h1,h2,Option.bind_some] at hc
    split at hc
    ·rename_i hcond
     obtain ⟨hc1,hc2,hc3,hc4⟩:=hcond
     injection hc with hc;injection hc with e1 e2 e3 e4 e5
     subst e1;subst e2;subst e3;subst e4;subst e5
     have hzl:z.cells.toList.length=i.size:=by omega
     have hz1:∀ v∈z.cells.toList,is1 v=true:=fun v hv=>List.all_eq_true.1 hc4 v hv
     obtain ⟨k1,hlv⟩:=rv_int (rv_arg hs hg lo) hl
     obtain ⟨k2,hmv⟩:=rv_int (rv_arg hs hg co) hm
     have hm':m≤140737488355328:=Nat.le_trans (Nat.le_mul_of_pos_right _ hc2) hb
     have hvs:((Array.range (m * i.size)).map (z.cells[· % z.cells.size]!)).size=m * i.size:=by simp
     have hrr:=rep_get (F:=F) (n:=n) (cap:=m) hzl hz1
     have e0:z.cells.toList.toArray=z.cells:=by simp
     rw [e0] at hrr
     obtain ⟨hE,hI,hS,hk'⟩:=push_arr (T:=e) (n:=n) (cap:=m) (size:=i.size) (es:=List.replicate n (z.cells.toList.map DC.raw)) hi hs hk
      (fun e he=>by simp_all) (by simp_all) hvs hrr o.dst
     refine .inl ⟨_,_,_,_,F,_, ?_,.inl rfl,h,hE,hI,hS,hk'⟩
     have w1:IntKind.i64.wrap (n:Int)=n:=wrapS (by omega)
     have w2:IntKind.i64.wrap (m:Int)=m:=wrapS (by omega)
     have hzv:(zeroValue e).run P w=.ok z w:=by simp [zeroValue,typeInfo,h1,h2]
     have hb':¬ ((i.bytes:Int) * (m:Int) > 2 ^ 48):=by
      grind
     have hroom:¬ (m * i.bytes > roomBytes):=by grind[roomBytes]
     have n1:¬ ((m:Int) < 0):=by omega
     have n2:¬ ((n:Int) < 0):=by omega
     have n3:¬ ((n:Int) > (m:Int)):=by omega
     simp only [execOp,Instr.makeSlice,run_underlying hu,Sem.run_bind,Result.andThen_ok,hlv,hmv,asInt,asIntOf,Sem.run_pure]
     simp only [typeInfo,run_program,Sem.run_bind,Result.andThen_ok,h1,Sem.run_pure,w1,w2]
     simp only [n1,n2,n3,hb',decide_false,Bool.or_self,Bool.false_eq_true,if_false,Int.toNat_natCast,askRoom,if_neg hroom,Sem.run_bind,Result.andThen_ok,Sem.run_pure,sizeOf,typeInfo,run_program,h1]
     by_cases h0:m * i.size=0
     ·simp only [if_pos h0,Sem.run_bind,Result.andThen_ok,Sem.run_pure,newRow,run_newObj,pushW,h0,if_true]
      grind
     ·simp only [if_neg h0,Sem.run_bind,Result.andThen_ok,Sem.run_pure,newRow,run_newObj,pushW,hzv]
    grind
 grind
theorem push_boxS (hi:Inv F γ as.hp w) {a:Act} (hs:Slots F γ as.sl a) (hk:k≤γ.length) {cs:List Cel} {vs:Array Value} {T:TypeId} {n c:Nat} (h:RCs F γ cs vs) (hn:n≤c) (dst:Option Nat):
  Ext k F γ w F (γ++[.box w.heap.size]) (pushW w (.cells vs T))∧Inv F (γ++[.box w.heap.size]) (as.hp++[.box cs]) (pushW w (.cells vs T))∧
  Slots F (γ++[.box w.heap.size]) (putS as.sl dst (.one (.bls as.hp.length 0 n 1))) (a.put dst (.slice (some ⟨w.heap.size,0,none⟩) n c))∧k≤(γ++[OI.box w.heap.size]).length:=by
 obtain ⟨h1,h2,h3,h4⟩:=push_box hi hs hk h (T:=T) none
 have h3':Slots F (γ++[.box w.heap.size]) as.sl a:=h3
 exact ⟨h1,h2,h3'.put _ (.one _ _ (.bls _ _ _ _ _ 0 _ _ (.inr (by rw [← hi.len];simp)) (fun _=>by simp) hn)),h4⟩
theorem WR.mkB {bytes:Nat} {v0:Value} {l c:AArg} {n m:Nat} (hgd:gOK G as o.guard) (ha:o.ai=.mk 1 bytes [v0] l c)
  (hl:asInt? (evA G as.sl l)=some (n:Int)) (hm:asInt? (evA G as.sl c)=some (m:Int)) (hnm:n≤m) (hb:m * bytes≤140737488355328)
  (h:WR P G k rest Q ⟨putS as.sl o.dst (.one (.bls as.hp.length 0 n 1)),as.hp++[.box (List.replicate m (rawC v0))]⟩):WR P G k (o::rest) Q as:=by
 refine WR.step hgd (fun F γ a w oper hc hd hi hs hg hk=>?_)
 rw [ha] at hc
 obtain ⟨t,lo,co,hop⟩:=op_mk (kind_of hc rfl)
 obtain ⟨dst,op,type,pos,after,guard⟩:=oper
 simp only at hop
 subst hop
 simp only [compileOp] at hc
 split at hc
 ·rename_i e hu
  cases h1:P.info? e with
  | none=>simp_all
  | some i=>cases h2:i.zero with
   | none=>simp_all
   | some z=>
    simp only [h1,h2,Option.bind_some] at hc
    split at hc
    ·rename_i hcond
     obtain ⟨hc1,hc2,hc3,hc4⟩:=hcond
     injection hc with hc;injection hc with e1 e2 e3 e4 e5
     subst e2;subst e4;subst e5
     have hzl:z.cells.toList.length=i.size:=by omega
     have hz1:∀ v∈z.cells.toList,is1 v=true:=fun v hv=>List.all_eq_true.1 hc4 v hv
     obtain ⟨k1,hlv⟩:=rv_int (rv_arg hs hg lo) hl
     obtain ⟨k2,hmv⟩:=rv_int (rv_arg hs hg co) hm
     have hm':m≤140737488355328:=Nat.le_trans (Nat.le_mul_of_pos_right _ hc2) hb
     have hvs:((Array.range (m * i.size)).map (z.cells[· % z.cells.size]!)).size=m * i.size:=by simp
     have hz0:z.cells[0]?=some v0:=by grind
     have hv1:is1 v0=true:=hz1 v0 (by grind)
     have hrc:RCs F γ (List.replicate m (rawC v0)) ((Array.range (m * i.size)).map (z.cells[· % z.cells.size]!)):=by
      refine ⟨by simp [e1],fun q c v h1 h2=>?_⟩
      rw [List.getElem?_replicate] at h1
      split at h1
      ·rename_i hq
       injection h1 with h1;subst h1
       have hsz1:z.cells.size=1:=by omega
       have:v=v0:=by
        grind
       subst this
       exact .dc _ _ (.raw _ hv1)
      grind
     obtain ⟨hE,hI,hS,hk'⟩:=push_boxS (T:=e) (n:=n) (c:=m) hi hs hk hrc hnm o.dst
     refine .inl ⟨_,_,_,_,F,_, ?_,.inl rfl,h,hE,hI,hS,hk'⟩
     have w1:IntKind.i64.wrap (n:Int)=n:=wrapS (by omega)
     have w2:IntKind.i64.wrap (m:Int)=m:=wrapS (by omega)
     have hzv:(zeroValue e).run P w=.ok z w:=by simp_all[zeroValue,typeInfo]
     have hb':¬ ((i.bytes:Int) * (m:Int) > 2 ^ 48):=by
      grind
     have hroom:¬ (m * i.bytes > roomBytes):=by grind[roomBytes]
     have n1:¬ ((m:Int) < 0):=by omega
     have n2:¬ ((n:Int) < 0):=by omega
     have n3:¬ ((n:Int) > (m:Int)):=by omega
     simp only [execOp,Instr.makeSlice,run_underlying hu,Sem.run_bind,Result.andThen_ok,hlv,hmv,asInt,asIntOf,Sem.run_pure]
     simp only [typeInfo,run_program,Sem.run_bind,Result.andThen_ok,h1,Sem.run_pure,w1,w2]
     simp only [n1,n2,n3,hb',decide_false,Bool.or_self,Bool.false_eq_true,if_false,Int.toNat_natCast,askRoom,if_neg hroom,Sem.run_bind,Result.andThen_ok,Sem.run_pure,sizeOf,typeInfo,run_program,h1]
     by_cases h0:m * i.size=0
     ·simp only [if_pos h0,Sem.run_bind,Result.andThen_ok,Sem.run_pure,newRow,run_newObj,pushW,h0,if_true]
      grind
     ·simp only [if_neg h0,Sem.run_bind,Result.andThen_ok,Sem.run_pure,newRow,run_newObj,pushW,hzv]
    grind
 grind
theorem WR.bslcB {size len:Nat} {zero:List Value} {parts:List (Nat × AArg)} {cs:List Cel} (hgd:gOK G as o.guard) (ha:o.ai=.bslc size len zero parts) (h11:size=1)
  (hf:fillV ((List.range (len * size)).map fun i=>rawC (zero.getD (i % zero.length) undef)) (parts.map fun (j,x)=>(j * size,size,evA G as.sl x))=some cs)
  (h:WR P G k rest Q ⟨putS as.sl o.dst (.one (.bls as.hp.length 0 len 1)),as.hp++[.box cs]⟩):WR P G k (o::rest) Q as:=by
 refine WR.step hgd (fun F γ a w oper hc hd hi hs hg hk=>?_)
 rw [ha] at hc
 obtain ⟨t,len',ps,hop⟩:=op_bslc (kind_of hc rfl)
 obtain ⟨dst,op,type,pos,after,guard⟩:=oper
 simp only at hop
 subst hop
 simp only [compileOp] at hc
 split at hc
 ·rename_i e hu
  cases h1:P.info? e with
  | none=>simp [h1] at hc
  | some i=>cases h2:i.zero with
   | none=>simp [h1,h2] at hc
   | some z=>
    simp only [h1,h2,Option.bind_some] at hc
    split at hc
    ·rename_i hcond
     obtain ⟨hc1,hc2,hc3,hc4⟩:=hcond
     injection hc with hc;injection hc with e1 e2 e3 e4
     subst e1;subst e2;subst e3;subst e4
     have hzl:z.cells.toList.length=i.size:=by simpa using hc2
     have hz:RCs F γ ((List.range (len' * i.size)).map fun n=>rawC (z.cells.toList.getD (n % z.cells.toList.length) undef)) ((Array.range (len' * i.size)).map (z.cells[· % z.cells.size]!)):=by
      have:=rep_zero (F:=F) (γ:=γ) z.cells.toList (len' * i.size) (by omega) (fun v hv=>List.all_eq_true.1 hc4 v hv)
      have e0:z.cells.toList.toArray=z.cells:=by simp
      rw [e0] at this
      exact this
     obtain ⟨r,hr1,hr2⟩:=fill_ok (place:=fun j=>some (j * i.size,i.size)) _ (ps.toList.map fun (j,x)=>(j,a.eval x)) _ _ _ hz hf (by simp) (fun n o s av j x hn hj=>by
      simp only [List.map_map,List.getElem?_map] at hn hj
      cases hp:ps.toList[n]? with
      | none=>simp [hp] at hn
      | some q=>
       obtain ⟨j',x'⟩:=q
       simp [hp] at hn hj
       obtain ⟨rfl,rfl,rfl⟩:=hn
       obtain ⟨rfl,rfl⟩:=hj
       exact ⟨rfl,rv_arg hs hg x'⟩)
     obtain ⟨hE,hI,hS,hk'⟩:=push_boxS (T:=e) (n:=len') (c:=len') hi hs hk hr2 (Nat.le_refl _) o.dst
     refine .inl ⟨_,_,_,_,F,_, ?_,.inl rfl,h,hE,hI,hS,hk'⟩
     have hno:¬ (len' * i.size > 2 ^ 24):=by omega
     have hfill:Instr.fill (fun j=>some (j * i.size,i.size)) ((Array.range (len' * i.size)).map ((if len' * i.size=0 then #[] else z.cells)[· % (if len' * i.size=0 then #[] else z.cells).size]!)) (ps.map fun (j,x)=>(j,a.eval x)).toList=some r:=by
      have e0:(ps.map fun (j,x)=>(j,a.eval x)).toList=ps.toList.map fun (j,x)=>(j,a.eval x):=by simp
      rw [e0,← hr1]
      congr 1
      split
      ·simp_all
      ·rfl
     have hzv:(zeroValue e).run P w=.ok z w:=by simp [zeroValue,typeInfo,h1,h2]
     simp only [execOp,Instr.buildSlice,run_underlying hu,Sem.run_bind,Result.andThen_ok,sizeOf,typeInfo,run_program,h1,Sem.run_pure,Sem.run_ite,if_neg hno,hzv]
     by_cases h0:len' * i.size=0
     ·simp only [if_pos h0] at hfill ⊢
      simp only [hfill,Sem.run_bind,Result.andThen_ok,Sem.run_pure,newRow,run_newObj,pushW]
     ·simp only [if_neg h0] at hfill ⊢
      simp only [hfill,Sem.run_bind,Result.andThen_ok,Sem.run_pure,newRow,run_newObj,pushW]
    ·cases hc
 ·cases hc
end
end
section
section
variable {P:Program} {G:Glob} {k:Nat} {Q:AS→Prop} {as as':AS} {o:AOp} {rest ops:List AOp} {F:Fz} {γ:List OI} {w w':World} {hp:List AObj}
theorem get_set_other {γ:List OI} {id i:Nat} {x x':OI} (h:γ[i]?=some x) (hne:(i==id)=false):(γ.set id x')[i]?=some x:=by
 rw [List.getElem?_set_ne (by simp at hne;exact Ne.symm hne)];exact h
theorem Inv.setArr (hi:Inv F γ hp w) {id:Nat} {x x':OI} {o':AObj} (hx:γ[id]?=some x) (hblk:∀ b,x'.blk=some b→x.blk=some b∨b=w.heap.size)
  (hfar:∀ b,b < w.heap.size→x.blk≠some b→w'.heap[b]?=w.heap[b]?) (hok:OK F (γ.set id x') w' o' x'):
  Inv F (γ.set id x') ((hp.map (killO (·==id))).set id o') w':=by
 have hlt:id < γ.length:=lt_of_get hx
 have hb:∀ i b,blkAt (γ.set id x') i=some b→(i≠id∧blkAt γ i=some b)∨(i=id∧x'.blk=some b):=by
  intro i b h
  obtain ⟨y,hy,hyb⟩:=blkAt_some h
  by_cases hii:id=i
  ·subst hii
   rw [List.getElem?_set_self hlt] at hy
   injection hy with hy;subst hy
   exact .inr ⟨rfl,hyb⟩
  ·rw [List.getElem?_set_ne hii] at hy
   exact .inl ⟨Ne.symm hii,blkAt_of hy hyb⟩
 have hfz:∀ b o,F b=some o→w'.heap[b]?=w.heap[b]?:=fun b o h=>hfar b (hi.fzlt h) (fun e=>by rw [hi.disj id b (blkAt_of hx e)] at h;cases h)
 refine ⟨fun b o h=>(hfz b o h).trans (hi.fz b o h),by simp [hi.len], ?_, ?_, ?_⟩
 ·intro i j b h1 h2
  rcases hb i b h1 with ⟨a1,a2⟩ | ⟨a1,a2⟩<;>rcases hb j b h2 with ⟨c1,c2⟩ | ⟨c1,c2⟩
  ·exact hi.nd i j b a2 c2
  ·exfalso
   rcases hblk b c2 with h | h
   ·exact a1 (hi.nd i id b a2 (blkAt_of hx h))
   ·have:=hi.lt a2;omega
  ·exfalso
   rcases hblk b a2 with h | h
   ·exact c1 (hi.nd j id b c2 (blkAt_of hx h))
   ·have:=hi.lt c2;omega
  ·omega
 ·intro i b h
  rcases hb i b h with ⟨a1,a2⟩ | ⟨a1,a2⟩
  ·exact hi.disj i b a2
  ·rcases hblk b a2 with h | h
   ·exact hi.disj id b (blkAt_of hx h)
   ·cases hF:F b with
    | none=>rfl
    | some o=>have:=hi.fzlt hF;omega
 ·intro i o y h1 h2
  by_cases hii:id=i
  ·subst hii
   rw [List.getElem?_set_self hlt] at h2
   rw [List.getElem?_set_self (by simpa [← hi.len] using hlt)] at h1
   injection h1 with h1;injection h2 with h2;subst h1;subst h2
   exact hok
  ·rw [List.getElem?_set_ne hii] at h1 h2
   rw [List.getElem?_map] at h1
   cases ho:hp[i]? with
   | none=>simp [ho] at h1
   | some o0=>
    simp [ho] at h1;subst h1
    refine (hi.ok i o0 y ho h2).kill (fun _ _ h=>h) (fun i' o hne h=>get_set_other h hne) (fun b hyb=>?_)
    exact hfar b ((hi.ok i o0 y ho h2).lt hyb) (fun e=>hii (hi.nd _ _ _ (blkAt_of hx e) (blkAt_of h2 hyb)))
theorem Ext.setArr (hi:Inv F γ hp w) {id:Nat} {x x':OI} (hx:γ[id]?=some x) (hnb:∀ b,x≠.box b) (hblk:∀ b,x'.blk=some b→x.blk=some b∨b=w.heap.size)
  (hfar:∀ b,b < w.heap.size→x.blk≠some b→w'.heap[b]?=w.heap[b]?) (h1:w'.os=w.os) (h2:w'.tape=w.tape) (h3:w'.output=w.output) (h4:w.heap.size≤w'.heap.size):Ext k F γ w F (γ.set id x') w':=by
 have hlt:id < γ.length:=lt_of_get hx
 refine ⟨fun _ _ h=>h,h1,h2,h3,h4,fun b hb hn=>hfar b hb (fun e=>hn id (blkAt_of hx e)),fun _ _ h=>.inl h,fun i b h=>?_,fun i _ b h=>?_⟩
 ·obtain ⟨y,hy,hyb⟩:=blkAt_some h
  by_cases hii:id=i
  ·subst hii
   rw [List.getElem?_set_self hlt] at hy
   injection hy with hy;subst hy
   rcases hblk b hyb with h | h
   ·exact .inl ⟨id,blkAt_of hx h⟩
   ·exact .inr (by omega)
  ·rw [List.getElem?_set_ne hii] at hy
   exact .inl ⟨i,blkAt_of hy hyb⟩
 ·by_cases hii:id=i
  ·subst hii
   rw [hx] at h;injection h with h
   exact absurd h (hnb b)
  ·rw [List.getElem?_set_ne hii];exact h
def srcV (hp:List AObj):AV→Option (List (List DC))
 | .one (.dc (.slc es))=>some es
 | .one (.dc (.raw (.slice none 0 0)))=>some []
 | .one (.bld id n)=>
  match hpGet hp id with
  | .arr _ _ es=>if n≤es.length then some (es.take n) else none
  | _=>none
 | _=>none
theorem src_ok {av:AV} {x:Value} {es:List (List DC)} {size:Nat} (h:srcV hp av=some es) (hx:RV F γ av x) (hi:Inv F γ hp w) (hsz:∀ e∈es,e.length=size):
  ∃ A c,x=.slice A es.length c∧∃ news:List Value,news.length=es.length * size∧(∀ w':World,w'.heap=w.heap→(Builtin.firstCells size es.length x).run P w'=.ok news.toArray w')∧
   (∀ (i j:Nat) e d v,es[i]?=some e→e[j]?=some d→news[i * size+j]?=some v→RD F d v)∧(∀ v∈news,is1 v=true):=by
 have loadAll:∀ (b off:Nat) (c:Nat) (f:Nat→Value),(∀ j,j < es.length * size→w.cell? ⟨b,off+j,none⟩=some (f j))→∀ w':World,w'.heap=w.heap→
   (Builtin.firstCells size es.length (.slice (some ⟨b,off,none⟩) es.length c)).run P w'=.ok ((List.range (es.length * size)).map f).toArray w':=by
  intro b off c f hf w' hw
  simp only [Builtin.firstCells]
  refine run_loadCells w' _ _ f (fun j hj=>?_)
  rw [addr_add]
  have:=hf j hj
  unfold World.cell? at this ⊢
  rw [hw];exact this
 have split:∀ j,j < es.length * size→0 < size∧j / size < es.length∧j=(j / size) * size+j % size∧j % size < size:=by
  intro j hj
  have hs:0 < size:=by
   rcases Nat.eq_zero_or_pos size with h | h
   ·subst h;simp at hj
   ·exact h
  refine ⟨hs,Nat.div_lt_of_lt_mul (by rw [Nat.mul_comm];exact hj), ?_,Nat.mod_lt _ hs⟩
  have:=Nat.div_add_mod j size
  rw [Nat.mul_comm];omega
 unfold srcV at h
 split at h
 ·rename_i es0
  injection h with h;subst h
  cases hx with | one c v hc=>cases hc with | dc d v hd=>cases hd with
  | nil A c=>
   refine ⟨A,c,rfl,[],by simp,fun w' _=>?_,fun i j e d v h=>by simp at h,fun v h=>by simp at h⟩
   cases A with
   | none=>rfl
   | some a=>simp [Builtin.firstCells,loadCells,loadCellsFrom]
  | slc b off c size' es g hsz' hr hcc hcap=>
   refine ⟨_,c,rfl,(List.range (es0.length * size)).map fun j=>g (j / size) (j % size),by simp,loadAll b off c _ (fun j hj=>?_),fun i j e d v h1 h2 h3=>?_,fun v hv=>?_⟩
   ·obtain ⟨hs,h1,h2,h3⟩:=split j hj
    have he:es0[j / size]?=some (es0[j / size]'h1):=List.getElem?_eq_getElem h1
    have hel:=hsz _ (List.mem_of_getElem? he)
    have hel':=hsz' _ (List.mem_of_getElem? he)
    have hd:(es0[j / size]'h1)[j % size]?=some ((es0[j / size]'h1)[j % size]'(by omega)):=List.getElem?_eq_getElem _
    have:=hcc _ _ _ _ he hd
    rw [← hel',hel,← h2] at this
    exact Fz.cell_world hi.fz this
   ·have hj:j < size:=by have:=lt_of_get h2;have:=hsz _ (List.mem_of_getElem? h1);omega
    have hlt:=mul_lt_cap (lt_of_get h1) (Nat.le_refl _) hj
    simp only [List.getElem?_map,List.getElem?_range hlt,Option.map_some,Option.some.injEq] at h3
    have e1:(i * size+j) / size=i:=by rw [Nat.mul_comm,Nat.mul_add_div (by omega),Nat.div_eq_of_lt hj,Nat.add_zero]
    have e2:(i * size+j) % size=j:=by rw [Nat.mul_comm,Nat.mul_add_mod,Nat.mod_eq_of_lt hj]
    rw [e1,e2] at h3
    subst h3
    exact hr i j e d h1 h2
   ·simp only [List.mem_map,List.mem_range] at hv
    obtain ⟨j,hj,rfl⟩:=hv
    obtain ⟨hs,h1,h2,h3⟩:=split j hj
    have he:es0[j / size]?=some (es0[j / size]'h1):=List.getElem?_eq_getElem h1
    have hel:=hsz _ (List.mem_of_getElem? he)
    have hd:(es0[j / size]'h1)[j % size]?=some ((es0[j / size]'h1)[j % size]'(by omega)):=List.getElem?_eq_getElem _
    exact (hr _ _ _ _ he hd).is1
 ·injection h with h;subst h
  rw [rv_raw hx]
  exact ⟨none,0,rfl,[],by simp,fun w' _=>rfl,fun i j e d v h=>by simp at h,fun v h=>by simp at h⟩
 ·rename_i id n
  split at h
  ·rename_i cap s' es0 hb
   split at h
   ·rename_i hne
    injection h with h;subst h
    have hlen:(es0.take n).length=n:=by simp;omega
    cases hx with | one c v hc=>cases hc with
    | bldN _ cap' hgm=>
     refine ⟨none,0,by simp,[],by simp,fun w' _=>by simp [Builtin.firstCells],fun i j e d v h=>by simp at h,fun v h=>by simp at h⟩
    | bld _ _ b cap' hgm=>
     obtain ⟨hcc,hec,hes,vs,T,hh,hvsz,hr⟩:=hi.arr hb hgm
     rw [hlen] at loadAll ⊢
     have key:∀ j,j < n * size→∃ u,vs[j]?=some u:=by
      intro j hj
      rw [← hlen] at hj
      obtain ⟨hs,h1,h2,h3⟩:=split j hj
      have he:(es0.take n)[j / size]?=some ((es0.take n)[j / size]'h1):=List.getElem?_eq_getElem h1
      have hel:=hsz _ (List.mem_of_getElem? he)
      have hel':=hes _ (List.mem_of_mem_take (List.mem_of_getElem? he))
      have:j < vs.size:=by
       rw [hvsz,← hel',hel]
       rw [hlen] at hj
       exact Nat.lt_of_lt_of_le hj (Nat.mul_le_mul_right _ (by omega))
      exact ⟨_,Array.getElem?_eq_getElem this⟩
     refine ⟨_,cap',rfl,(List.range (n * size)).map fun j=>vs.toList.getD j undef,by simp,loadAll b 0 cap' _ (fun j hj=>?_),fun i j e d v h1 h2 h3=>?_,fun v hv=>?_⟩
     ·obtain ⟨u,hu⟩:=key j hj
      rw [Nat.zero_add,cell_heap hh,hu]
      simp [List.getD_eq_getElem?_getD,hu]
     ·have hi1:i < n:=by have:=lt_of_get h1;omega
      have hj:j < size:=by have:=lt_of_get h2;have:=hsz _ (List.mem_of_getElem? h1);omega
      have hlt:=mul_lt_cap hi1 (Nat.le_refl _) hj
      simp only [List.getElem?_map,List.getElem?_range hlt,Option.map_some,Option.some.injEq] at h3
      obtain ⟨u,hu⟩:=key _ hlt
      simp [List.getD_eq_getElem?_getD,hu] at h3
      subst h3
      rw [List.getElem?_take,if_pos hi1] at h1
      have hel:=hes _ (List.mem_of_getElem? h1)
      have hel':=hsz e (by rw [List.mem_iff_getElem?];exact ⟨i,by rw [List.getElem?_take,if_pos hi1];exact h1⟩)
      have hs':s'=size:=by omega
      subst hs'
      exact hr i j e d u h1 h2 hu
     ·simp only [List.mem_map,List.mem_range] at hv
      obtain ⟨j,hj,rfl⟩:=hv
      obtain ⟨u,hu⟩:=key j hj
      simp only [List.getD_eq_getElem?_getD,Array.getElem?_toList,hu,Option.getD_some]
      rw [← hlen] at hj
      obtain ⟨hs,h1,h2,h3⟩:=split j hj
      rw [hlen] at h1
      have he0:(es0.take n)[j / size]?=some ((es0.take n)[j / size]'(by omega)):=List.getElem?_eq_getElem _
      have hel:=hsz _ (List.mem_of_getElem? he0)
      have he:es0[j / size]?=some ((es0.take n)[j / size]'(by omega)):=by rw [← he0,List.getElem?_take,if_pos h1]
      have hel':=hes _ (List.mem_of_getElem? he)
      have hs':s'=size:=by omega
      subst hs'
      have hd:((es0.take n)[j / s']'(by omega))[j % s']?=some (((es0.take n)[j / s']'(by omega))[j % s']'(by omega)):=List.getElem?_eq_getElem _
      exact (hr _ _ _ _ u he hd (by rw [← h2];exact hu)).is1
   ·cases h
  ·cases h
 ·cases h
end
end
end Go.Proofs.YtmmafhopnkkeeaaGreatDoor
