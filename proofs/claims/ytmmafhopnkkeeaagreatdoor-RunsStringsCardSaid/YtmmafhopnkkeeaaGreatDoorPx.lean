/- RunsStrings returns true for every input, and each argument reads afterwards as it read before; the variables that the row lists are laid by the program's text. Conditions: none. -/
import Derived.Test.YtmmafhopnkkeeaaGreatDoorPw
namespace Go.Proofs.YtmmafhopnkkeeaaGreatDoor
set_option linter.unusedSimpArgs false
set_option linter.unusedVariables false
set_option maxRecDepth 4000
open Go.ChangeShapes Go.WideShapes Go.ChangeAt Go.RowKit
set_option maxRecDepth 100000 in
theorem runsStrings_lifted (os:Os) (started:os.Started) (H:Type) (enc:TypeId × Value→H):
  ReturnsInHanded {} Tryz.checked os 3 .any (fun w args=>(Rows.runsStringsSpec.pre enc Tryz.prog Tryz.f3 [] false w args∧laidMetH Tryz.prog Rows.runsStringsRow.laid w)∧sizedMet enc Tryz.prog Tryz.f3 (OpenSpec.ofChange Rows.runsStringsSpec) false w args) (Rows.runsStringsSpec.post enc Tryz.prog Tryz.f3 false true false false):=by
 refine returns_shaped (C:=Tryz.checked) (X:=fun w _=>laidMetH Tryz.prog Rows.runsStringsRow.laid w) (fun _ _ _ hh h=>h.of_heap hh) Tryz.own started (by kernel_rfl) Tryz.func3
  (ChangeSpec.witness_shaped (enc:=enc) (C:=Tryz.checked) (os:=os) (X:=fun w _=>laidMetH Tryz.prog Rows.runsStringsRow.laid w) false (World.laidAll Tryz.prog os Rows.runsStringsRow.laid) #[.slice none 0 0,.string ⟨#[]⟩] 8 (World.laidAll_os _ _ _)
   (World.shaped_of_ZipB (by kernel_rfl) (by kernel_rfl)) (by kernel_rfl) (by kernel_rfl) (by kernel_rfl)
   (by rw [MakeChecks.laidMetH_plain _ _ _ (by kernel_rfl)];exact laidMet_laidAll _ (by kernel_rfl) (by kernel_rfl))) ?_
 intro W base args ds gs before hval0 hW hL hsh
 have hval:∀ (j:Nat) t v,Tryz.f3.params[j]?=some t→args[j]?=some v→Value.okWide Tryz.prog W .any base t v:=hval0
 have hW':=hW
 obtain ⟨p,q,hA0,hV,rfl,hfz,hnd⟩:=hW
 have hA:DataW.TrodAll enc Tryz.prog W 0 (fun _=>true) true Tryz.f3.params.toList args.toList ds p:=hA0
 obtain ⟨rfl,rfl⟩:=trodVars_none hV
 obtain ⟨avs,h1,h2,h3,h4⟩:=args_data (m:=7) hA (fun j t v a b=>hval j t v (by simpa using a) (by simpa using b)) (by
  have:Tryz.f3.params.toList.all (datT Tryz.prog 7)=true:=by kernel_rfl
  exact fun t ht=>List.all_eq_true.1 this t ht)
 rw [Tryz.params3] at h3
 match avs,h3 with
 | [b0,b1],h3=>
  obtain ⟨k0,k1,_⟩:=h3
  obtain ⟨l,rfl,hl⟩:=okA_runs (m:=3) k0
  obtain ⟨s,rfl,hs,hsl⟩:=okA_strL (m:=6) k1
  obtain ⟨m,t1,t2,p1,p2,hgl⟩:=globR hL hsh
  have hq:=qc3 (strings_v (G:=GX m (.iface t1 p1) (.iface t2 p2)) l hl s hs)
  refine (law_calls hq hgl ⟨by simpa using h1,fun i av v a b=>h2 i av v a (by simpa using b)⟩).mono fun e W' ⟨he,hb⟩=>?_
  subst he
  rw [Tryz.params3] at h4
  match ds,h4 with
  | [d0,d1],_=>
   exact ⟨_,rfl,post_true (tb:=4) Tryz.laidOut (by
    have:Tryz.f3.params.toList.all (fun t=>Tryz.prog.readableRec t&&decide (t < Tryz.prog.types.size))=true:=by kernel_rfl
    intro t ht
    have:=List.all_eq_true.1 this t ht
    rw [Bool.and_eq_true,decide_eq_true_eq] at this
    exact this) rfl rfl Tryz.underlying4 hW' rfl hb⟩
theorem ruj0:(Rows.runsStringsRow.wf (OpenSpec.ofChange Rows.runsStringsSpec))=true:=by kernel_rfl
theorem ruj1:(laidOutB Tryz.pinned.checked.prog)=true:=by kernel_rfl
theorem ruj2:(mapsRowed Tryz.pinned.checked.prog)=true:=by kernel_rfl
theorem ruj3:(Tryz.f3.params.all (Tryz.pinned.checked.prog.readableRec ·))=true:=by kernel_rfl
theorem ruj4:(namedTie Tryz.pinned.checked.prog Rows.runsStringsRow.named Rows.runsStringsSpec.vars)=true:=by kernel_rfl
theorem ruj5:((Rows.runsStringsRow.stops==[]))=true:=by kernel_rfl
theorem ruj6:((Tryz.pinned.checked.prog.stops==[]))=true:=by kernel_rfl
theorem ruj7:((Rows.runsStringsRow.knobs==[]))=true:=by kernel_rfl
theorem ruj8:((Tryz.pinned.checked.prog.stopKnobs==[]))=true:=by kernel_rfl
theorem ruj9:((Rows.runsStringsRow.inPlace==Tryz.pinned.checked.prog.inPlace 3))=true:=by kernel_rfl
theorem ruj10:((Rows.runsStringsRow.unfollowed==Tryz.pinned.checked.prog.unfollowed 3))=true:=by kernel_rfl
theorem ruj11:((Rows.runsStringsRow.recurses==Tryz.pinned.checked.prog.recurses 3))=true:=by kernel_rfl
theorem ruj12:((Rows.runsStringsRow.named==Tryz.pinned.checked.prog.varsNamed 3))=true:=by kernel_rfl
theorem ruj13:((Rows.runsStringsRow.maps==(Tryz.f3.params.toList++Rows.runsStringsSpec.plain.varTypes Tryz.pinned.checked.prog).any (Tryz.pinned.checked.prog.mapsRec ·)))=true:=by kernel_rfl
theorem ruj14:((Rows.runsStringsRow.ifaces==(Tryz.f3.params.toList++Rows.runsStringsSpec.plain.varTypes Tryz.pinned.checked.prog).any (Tryz.pinned.checked.prog.ifacesRec ·)))=true:=by kernel_rfl
theorem ruj15:((Rows.runsStringsRow.mapsOut==Tryz.pinned.checked.prog.mapsAmong Tryz.f3.resultTypes.toList))=true:=by kernel_rfl
theorem ruj16:((Rows.runsStringsRow.loops==(Tryz.f3.params.toList++Rows.runsStringsSpec.plain.varTypes Tryz.pinned.checked.prog).any (Tryz.pinned.checked.prog.loopsFrom ·)))=true:=by kernel_rfl
theorem ruj17:((Rows.runsStringsRow.wideKeys==(Tryz.f3.params.toList++Rows.runsStringsSpec.plain.varTypes Tryz.pinned.checked.prog++Tryz.f3.resultTypes.toList).any (Tryz.pinned.checked.prog.wideKeysFrom ·)))=true:=by kernel_rfl
theorem ruj18:(Rows.runsStringsSpec.vars.all (Tryz.pinned.checked.prog.varReadable ·))=true:=by kernel_rfl
theorem ruj19:(Tryz.f3.resultTypes.all (fun t=>Tryz.pinned.checked.prog.readableRec t&&decide (t < Tryz.pinned.checked.prog.types.size)))=true:=by kernel_rfl
theorem ruj20:((Rows.runsStringsRow.ifacesOut==Tryz.f3.resultTypes.toList.any (Tryz.pinned.checked.prog.ifacesRec ·)))=true:=by kernel_rfl
theorem ruj21:((Rows.runsStringsRow.loopsOut==Tryz.f3.resultTypes.toList.any (Tryz.pinned.checked.prog.loopsFrom ·)))=true:=by kernel_rfl
theorem ruj22:((Rows.runsStringsRow.plainKeys==Tryz.pinned.checked.prog.plainKeys))=true:=by kernel_rfl
theorem ruj23:(Rows.runsStringsRow.shortTexts.isNone)=true:=by kernel_rfl
theorem ruj24:(Tryz.pinned.checked.prog.stopsHeard)=true:=by kernel_rfl
theorem ruj25:(Tryz.pinned.checked.prog.mayEnter)=true:=by kernel_rfl
theorem ruj26:((Rows.runsStringsRow.lifted==Tryz.pinned.checked.prog.liftsFinal))=true:=by kernel_rfl
theorem ruj27:((Tryz.pinned.checked.prog.make==some Rows.runsStringsRow.make))=true:=by kernel_rfl
theorem ruj28:((Rows.runsStringsRow.kinds==(if Rows.runsStringsRow.domain.isEmpty then [] else Tryz.f3.params.toList.map fun t=>match Tryz.pinned.checked.prog.underlying t with | some (.int k)=>some k | _=>none)))=true:=by kernel_rfl
theorem ruj29:((Rows.runsStringsRow.pinned==Rows.runsStringsRow.pinnedBy))=true:=by kernel_rfl
theorem ruj30:((Rows.runsStringsRow.veiled==(Tryz.f3.params.toList++Rows.runsStringsSpec.plain.varTypes Tryz.pinned.checked.prog++Tryz.f3.resultTypes.toList).any (Tryz.pinned.checked.prog.veiledRec ·)))=true:=by kernel_rfl
theorem ruj31:(Rows.runsStringsRow.veiledFits Tryz.pinned.checked.prog Tryz.f3.params.toList (Tryz.f3.params.toList++Rows.runsStringsSpec.plain.varTypes Tryz.pinned.checked.prog++Tryz.f3.resultTypes.toList))=true:=by kernel_rfl
theorem ru_facts:joinedFacts Tryz.pinned.checked.prog 3 Tryz.f3 Rows.runsStringsSpec Rows.runsStringsRow=true:=(and_t (and_t (and_t (and_t (and_t (and_t (and_t (and_t (and_t (and_t (and_t (and_t (and_t (and_t (and_t (and_t (and_t (and_t (and_t (and_t (and_t (and_t (and_t (and_t (and_t (and_t (and_t (and_t (and_t (and_t (and_t ruj0 ruj1) ruj2) ruj3) ruj4) ruj5) ruj6) ruj7) ruj8) ruj9) ruj10) ruj11) ruj12) ruj13) ruj14) ruj15) ruj16) ruj17) ruj18) ruj19) ruj20) ruj21) ruj22) ruj23) ruj24) ruj25) ruj26) ruj27) ruj28) ruj29) ruj30) ruj31)
theorem runsStrings_said:Rows.RunsStringsSaid:=
 OpenClaim.holds_of_wide 3 Tryz.f3 rfl rfl rfl rfl rfl rfl rfl ⟨rfl,rfl,rfl,rfl,rfl⟩ rfl rfl rfl rfl rfl (by kernel_rfl) Tryz.func3 ru_facts
  (of_decide_eq_true (by kernel_rfl)) (by unfold Func.isWrapper;first | (rw [if_pos (by decide +kernel)];kernel_rfl) | (rw [if_neg (by decide +kernel)];exact ⟨rfl,rfl⟩))
  (fun os started H enc _=>runsStrings_lifted os started H enc)
theorem runsStrings_plain (f:FuncId) (fn:Func) (hf:Tryz.pinned.checked.prog.funcNamed "depository/depositorylaw03.RunsStrings"=some f) (hfn:Tryz.pinned.checked.prog.funcs[f]?=some fn):
  true=Tryz.pinned.checked.prog.looks []∧∀ (j:Nat) t,fn.params[j]?=some t→Tryz.pinned.checked.prog.wantsStandIn t=false:=by
 obtain rfl:f=3:=Option.some.inj ((show Tryz.prog.funcNamed "depository/depositorylaw03.RunsStrings"=some 3 by kernel_rfl).symm.trans hf) |>.symm
 obtain rfl:fn=Tryz.f3:=(Option.some.inj (Tryz.func3.symm.trans hfn)).symm
 refine ⟨by kernel_rfl,fun j t ht=>?_⟩
 have hall:Tryz.f3.params.toList.all (fun t=>!Tryz.prog.wantsStandIn t)=true:=by kernel_rfl
 have:=List.all_eq_true.1 hall t (by simpa using Array.mem_of_getElem? ht)
 have e:Tryz.prog.wantsStandIn t=false:=by simpa using this
 exact e
theorem runsStrings_holds:Rows.RunsStringsCardSaid:=
 Claim7.holds_tied_plain_at .later [] _ _ _ _ runsStrings_said (fun _ h=>by cases h) (by kernel_rfl) (fun _ h=>by cases h) runsStrings_row_tie rfl ⟨rfl,rfl⟩ (by kernel_rfl) rfl runsStrings_plain (by kernel_rfl)
end Go.Proofs.YtmmafhopnkkeeaaGreatDoor
