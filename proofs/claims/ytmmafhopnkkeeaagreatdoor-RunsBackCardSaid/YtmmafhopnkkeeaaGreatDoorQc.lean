/- The string of any number by the library, what it reads of variables. Conditions: as each theorem says. -/
import Derived.Test.YtmmafhopnkkeeaaGreatDoorQm
import Derived.Test.YtmmafhopnkkeeaaGreatDoorQn
import Derived.Test.YtmmafhopnkkeeaaGreatDoorNh
namespace Go.Proofs.YtmmafhopnkkeeaaGreatDoor
set_option linter.unusedSimpArgs false
set_option linter.unusedVariables false
set_option maxRecDepth 4000
variable {G:Glob} {bb:Bool}
open Go.RowKit
def pwD:List DC:=Lib.pow10Tab.map fun n=>.raw (.int .u64 n)
structure GR (G:Glob):Prop where
 pw:G 1=some pwD
 ml:∃ m,G 0=some [ci m]
 sy:∃ t p,G 2=some [.raw (.iface t p)]
 rg:∃ t p,G 3=some [.raw (.iface t p)]
theorem Tryz.g_pw:Tryz.prog.globalNamed "internal/strconv.uint64pow10"=some 1:=by kernel_rfl
theorem tab_of {F:Fz} {G:Glob} {w:World} (hg:GlobOK F G) (hf:∀ b o,F b=some o→w.heap[b]?=some o) (h:G 1=some pwD):Lib.TabIs Tryz.prog w "internal/strconv.uint64pow10" .u64 Lib.pow10Tab:=by
 obtain ⟨o,h1,arr,t,z,rfl,h2⟩:=hg.sz 1 _ h
 have h3:=hg.rc 1 _ h []
 have h4:=hf _ _ h1
 unfold Lib.TabIs World.var?
 rw [Tryz.g_pw,Option.bind_some]
 simp only [h4]
 congr 1
 apply Array.ext_getElem?
 intro j
 simp only [List.getElem?_toArray,List.getElem?_map]
 cases h3 with
 | ref _ _ _ g hr hc=>
  cases hj:Lib.pow10Tab[j]? with
  | none=>
   have:Lib.pow10Tab.length≤j:=List.getElem?_eq_none_iff.1 hj
   rw [Array.getElem?_eq_none (by rw [h2];simpa [pwD] using this)];rfl
  | some n=>
   have hd:pwD[j]?=some (.raw (.int .u64 n)):=by unfold pwD;rw [List.getElem?_map,hj];rfl
   have c:=hc j _ hd
   have r:=hr j _ hd
   generalize g j=v at c r
   cases r
   unfold Fz.cell? at c
   simp only [h1] at c
   simpa using c
theorem raw_of {F:Fz} {G:Glob} {w:World} (hg:GlobOK F G) (hf:∀ b o,F b=some o→w.heap[b]?=some o) {g:Nat} {v:Value} (h:G g=some [.raw v]):w.cell? ⟨g,0,none⟩=some v:=by
 have h3:=hg.rc g _ h []
 cases h3 with
 | ref _ _ _ k hr hc=>
  have c:=hc 0 _ rfl
  have r:=hr 0 _ rfl
  generalize k 0=u at c r
  cases r
  exact Fz.cell_world hf c
theorem bel_post {F:Fz} {γ:List OI} {w w':World} {av:AV} {v:Value} (hi:Inv F γ [] w) (hb:Below w.heap.size w w') (hv:RV F γ av v):
  ∃ r av' objs' F' γ',Ending.returned v=.returned r∧(av'=av∧objs'=[])∧0≤objs'.length∧Ext 0 F γ w F' γ' w'∧Inv F' γ' objs' w'∧RV F' γ' av' r:=by
 have hg:γ=[]:=List.eq_nil_of_length_eq_zero hi.len
 subst hg
 refine ⟨v,av,[],F,[],rfl,⟨rfl,rfl⟩,Nat.zero_le _,⟨fun _ _ h=>h,hb.os,hb.tape,hb.output,hb.size,fun b h _=>hb.block b h,fun _ _ h=>.inl h,(fun _ _ h=>by cases h),(fun _ h=>by omega)⟩,
  ⟨fun b o h=>?_,rfl,(fun _ _ _ h=>by cases h),(fun _ _ h=>by cases h),(fun _ _ _ h=>by cases h)⟩,hv⟩
 have h1:=hi.fz b o h
 rw [hb.block b ((Array.getElem?_eq_some_iff.1 h1).1)]
 exact h1
theorem ar1 {F:Fz} {γ:List OI} {a:AV} {vs:Array Value} (hv:argsOK F γ [a] vs):∃ x,vs=#[x]∧RV F γ a x:=by
 obtain ⟨hz,hv⟩:=hv
 obtain ⟨l⟩:=vs
 match l,hz with
 | [x],_=>exact ⟨x,rfl,hv 0 _ _ rfl rfl⟩
theorem itoa_qcG {G:Glob} (h2:G 1=some pwD) {n:Int} (h0:-9223372036854775808≤n) (h1:n≤9223372036854775807):QC Tryz.prog G 38 [.one (.dc (.raw (.int .i64 n)))] (.one (.dc (.raw (.string ⟨(Lib.itoa n).toArray⟩)))):=by
 intro F γ vs w hi hg hv
 obtain ⟨x,rfl,hx⟩:=ar1 hv
 have hx:=rv_raw hx
 subst hx
 refine (Tryz.strconv_Itoa n h0 h1 w (tab_of hg hi.fz h2)).mono ?_
 rintro e w' ⟨rfl,k,os,rfl⟩
 exact bel_post hi (Lib.below_grow _ w (Nat.le_refl _) k os) (.one _ _ (.dc _ _ (.raw _ rfl)))
theorem qc_post {f:FuncId} {args:List AV} {av:AV} (h:QC Tryz.prog G f args av):AC Tryz.prog G f args [] fun a o=>a=av∧o.map nocap=[]:=
 h.gh (fun a o ⟨h1,h2⟩ _=>⟨a,o,Gh.refl,Nat.zero_le _,h1,by rw [h2];rfl⟩)
def itoaG:List AV→List AObj→Option (AV × List AObj)
 | [.one (.dc (.raw (.int .i64 n)))],[]=>if -9223372036854775808≤n∧n≤9223372036854775807 then some (.one (.dc (.raw (.string ⟨(Lib.itoa n).toArray⟩))),[]) else none
 | _,_=>none
end Go.Proofs.YtmmafhopnkkeeaaGreatDoor
