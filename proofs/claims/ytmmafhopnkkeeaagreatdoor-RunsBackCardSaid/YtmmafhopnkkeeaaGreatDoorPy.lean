/- RunsBack returns true for every input, and each argument reads afterwards as it read before; the variables that the row lists are laid by the program's text. Conditions: none. -/
import Derived.Test.YtmmafhopnkkeeaaGreatDoorPw
namespace Go.Proofs.YtmmafhopnkkeeaaGreatDoor
set_option linter.unusedSimpArgs false
set_option linter.unusedVariables false
set_option maxRecDepth 4000
open Go.ChangeShapes Go.WideShapes Go.ChangeAt Go.RowKit
set_option maxRecDepth 100000 in
theorem runsBack_lifted (os:Os) (started:os.Started) (H:Type) (enc:TypeId × Value→H):
  ReturnsInHanded {} Tryz.checked os 4 .any (fun w args=>(Rows.runsBackSpec.pre enc Tryz.prog Tryz.f4 [] false w args∧laidMetH Tryz.prog Rows.runsBackRow.laid w)∧sizedMet enc Tryz.prog Tryz.f4 (OpenSpec.ofChange Rows.runsBackSpec) false w args) (Rows.runsBackSpec.post enc Tryz.prog Tryz.f4 false true false false):=by
 refine returns_shaped (C:=Tryz.checked) (X:=fun w _=>laidMetH Tryz.prog Rows.runsBackRow.laid w) (fun _ _ _ hh h=>h.of_heap hh) Tryz.own started (by kernel_rfl) Tryz.func4
  (ChangeSpec.witness_shaped (enc:=enc) (C:=Tryz.checked) (os:=os) (X:=fun w _=>laidMetH Tryz.prog Rows.runsBackRow.laid w) false (World.laidAll Tryz.prog os Rows.runsBackRow.laid) #[.slice none 0 0,.string ⟨#[]⟩] 8 (World.laidAll_os _ _ _)
   (World.shaped_of_ZipB (by kernel_rfl) (by kernel_rfl)) (by kernel_rfl) (by kernel_rfl) (by kernel_rfl)
   (by rw [MakeChecks.laidMetH_plain _ _ _ (by kernel_rfl)];exact laidMet_laidAll _ (by kernel_rfl) (by kernel_rfl))) ?_
 intro W base args ds gs before hval0 hW hL hsh
 have hval:∀ (j:Nat) t v,Tryz.f4.params[j]?=some t→args[j]?=some v→Value.okWide Tryz.prog W .any base t v:=hval0
 have hW':=hW
 obtain ⟨p,q,hA0,hV,rfl,hfz,hnd⟩:=hW
 have hA:DataW.TrodAll enc Tryz.prog W 0 (fun _=>true) true Tryz.f4.params.toList args.toList ds p:=hA0
 obtain ⟨rfl,rfl⟩:=trodVars_none hV
 obtain ⟨avs,h1,h2,h3,h4⟩:=args_data (m:=7) hA (fun j t v a b=>hval j t v (by simpa using a) (by simpa using b)) (by
  have:Tryz.f4.params.toList.all (datT Tryz.prog 7)=true:=by kernel_rfl
  exact fun t ht=>List.all_eq_true.1 this t ht)
 rw [Tryz.params4] at h3
 match avs,h3 with
 | [b0,b1],h3=>
  obtain ⟨k0,k1,_⟩:=h3
  obtain ⟨l,rfl,hl⟩:=okA_runs (m:=3) k0
  obtain ⟨s,rfl,hs,hsl⟩:=okA_strL (m:=6) k1
  obtain ⟨m,t1,t2,p1,p2,hgl⟩:=globR hL hsh
  have hq:=qc3 (back_v (G:=GX m (.iface t1 p1) (.iface t2 p2)) l hl s hs)
  refine (law_calls hq hgl ⟨by simpa using h1,fun i av v a b=>h2 i av v a (by simpa using b)⟩).mono fun e W' ⟨he,hb⟩=>?_
  subst he
  rw [Tryz.params4] at h4
  match ds,h4 with
  | [d0,d1],_=>
   exact ⟨_,rfl,post_true (tb:=4) Tryz.laidOut (by
    have:Tryz.f4.params.toList.all (fun t=>Tryz.prog.readableRec t&&decide (t < Tryz.prog.types.size))=true:=by kernel_rfl
    intro t ht
    have:=List.all_eq_true.1 this t ht
    rw [Bool.and_eq_true,decide_eq_true_eq] at this
    exact this) rfl rfl Tryz.underlying4 hW' rfl hb⟩
theorem rkj0:(Rows.runsBackRow.wf (OpenSpec.ofChange Rows.runsBackSpec))=true:=by kernel_rfl
theorem rkj1:(laidOutB Tryz.pinned.checked.prog)=true:=by kernel_rfl
theorem rkj2:(mapsRowed Tryz.pinned.checked.prog)=true:=by kernel_rfl
theorem rkj3:(Tryz.f4.params.all (Tryz.pinned.checked.prog.readableRec ·))=true:=by kernel_rfl
theorem rkj4:(namedTie Tryz.pinned.checked.prog Rows.runsBackRow.named Rows.runsBackSpec.vars)=true:=by kernel_rfl
theorem rkj5:((Rows.runsBackRow.stops==[]))=true:=by kernel_rfl
theorem rkj6:((Tryz.pinned.checked.prog.stops==[]))=true:=by kernel_rfl
theorem rkj7:((Rows.runsBackRow.knobs==[]))=true:=by kernel_rfl
theorem rkj8:((Tryz.pinned.checked.prog.stopKnobs==[]))=true:=by kernel_rfl
theorem rkj9:((Rows.runsBackRow.inPlace==Tryz.pinned.checked.prog.inPlace 4))=true:=by kernel_rfl
theorem rkj10:((Rows.runsBackRow.unfollowed==Tryz.pinned.checked.prog.unfollowed 4))=true:=by kernel_rfl
theorem rkj11:((Rows.runsBackRow.recurses==Tryz.pinned.checked.prog.recurses 4))=true:=by kernel_rfl
theorem rkj12:((Rows.runsBackRow.named==Tryz.pinned.checked.prog.varsNamed 4))=true:=by kernel_rfl
theorem rkj13:((Rows.runsBackRow.maps==(Tryz.f4.params.toList++Rows.runsBackSpec.plain.varTypes Tryz.pinned.checked.prog).any (Tryz.pinned.checked.prog.mapsRec ·)))=true:=by kernel_rfl
theorem rkj14:((Rows.runsBackRow.ifaces==(Tryz.f4.params.toList++Rows.runsBackSpec.plain.varTypes Tryz.pinned.checked.prog).any (Tryz.pinned.checked.prog.ifacesRec ·)))=true:=by kernel_rfl
theorem rkj15:((Rows.runsBackRow.mapsOut==Tryz.pinned.checked.prog.mapsAmong Tryz.f4.resultTypes.toList))=true:=by kernel_rfl
theorem rkj16:((Rows.runsBackRow.loops==(Tryz.f4.params.toList++Rows.runsBackSpec.plain.varTypes Tryz.pinned.checked.prog).any (Tryz.pinned.checked.prog.loopsFrom ·)))=true:=by kernel_rfl
theorem rkj17:((Rows.runsBackRow.wideKeys==(Tryz.f4.params.toList++Rows.runsBackSpec.plain.varTypes Tryz.pinned.checked.prog++Tryz.f4.resultTypes.toList).any (Tryz.pinned.checked.prog.wideKeysFrom ·)))=true:=by kernel_rfl
theorem rkj18:(Rows.runsBackSpec.vars.all (Tryz.pinned.checked.prog.varReadable ·))=true:=by kernel_rfl
theorem rkj19:(Tryz.f4.resultTypes.all (fun t=>Tryz.pinned.checked.prog.readableRec t&&decide (t < Tryz.pinned.checked.prog.types.size)))=true:=by kernel_rfl
theorem rkj20:((Rows.runsBackRow.ifacesOut==Tryz.f4.resultTypes.toList.any (Tryz.pinned.checked.prog.ifacesRec ·)))=true:=by kernel_rfl
theorem rkj21:((Rows.runsBackRow.loopsOut==Tryz.f4.resultTypes.toList.any (Tryz.pinned.checked.prog.loopsFrom ·)))=true:=by kernel_rfl
theorem rkj22:((Rows.runsBackRow.plainKeys==Tryz.pinned.checked.prog.plainKeys))=true:=by kernel_rfl
theorem rkj23:(Rows.runsBackRow.shortTexts.isNone)=true:=by kernel_rfl
theorem rkj24:(Tryz.pinned.checked.prog.stopsHeard)=true:=by kernel_rfl
theorem rkj25:(Tryz.pinned.checked.prog.mayEnter)=true:=by kernel_rfl
theorem rkj26:((Rows.runsBackRow.lifted==Tryz.pinned.checked.prog.liftsFinal))=true:=by kernel_rfl
theorem rkj27:((Tryz.pinned.checked.prog.make==some Rows.runsBackRow.make))=true:=by kernel_rfl
theorem rkj28:((Rows.runsBackRow.kinds==(if Rows.runsBackRow.domain.isEmpty then [] else Tryz.f4.params.toList.map fun t=>match Tryz.pinned.checked.prog.underlying t with | some (.int k)=>some k | _=>none)))=true:=by kernel_rfl
theorem rkj29:((Rows.runsBackRow.pinned==Rows.runsBackRow.pinnedBy))=true:=by kernel_rfl
theorem rkj30:((Rows.runsBackRow.veiled==(Tryz.f4.params.toList++Rows.runsBackSpec.plain.varTypes Tryz.pinned.checked.prog++Tryz.f4.resultTypes.toList).any (Tryz.pinned.checked.prog.veiledRec ·)))=true:=by kernel_rfl
theorem rkj31:(Rows.runsBackRow.veiledFits Tryz.pinned.checked.prog Tryz.f4.params.toList (Tryz.f4.params.toList++Rows.runsBackSpec.plain.varTypes Tryz.pinned.checked.prog++Tryz.f4.resultTypes.toList))=true:=by kernel_rfl
theorem rk_facts:joinedFacts Tryz.pinned.checked.prog 4 Tryz.f4 Rows.runsBackSpec Rows.runsBackRow=true:=(and_t (and_t (and_t (and_t (and_t (and_t (and_t (and_t (and_t (and_t (and_t (and_t (and_t (and_t (and_t (and_t (and_t (and_t (and_t (and_t (and_t (and_t (and_t (and_t (and_t (and_t (and_t (and_t (and_t (and_t (and_t rkj0 rkj1) rkj2) rkj3) rkj4) rkj5) rkj6) rkj7) rkj8) rkj9) rkj10) rkj11) rkj12) rkj13) rkj14) rkj15) rkj16) rkj17) rkj18) rkj19) rkj20) rkj21) rkj22) rkj23) rkj24) rkj25) rkj26) rkj27) rkj28) rkj29) rkj30) rkj31)
theorem runsBack_said:Rows.RunsBackSaid:=
 OpenClaim.holds_of_wide 4 Tryz.f4 rfl rfl rfl rfl rfl rfl rfl ⟨rfl,rfl,rfl,rfl,rfl⟩ rfl rfl rfl rfl rfl (by kernel_rfl) Tryz.func4 rk_facts
  (of_decide_eq_true (by kernel_rfl)) (by unfold Func.isWrapper;first | (rw [if_pos (by decide +kernel)];kernel_rfl) | (rw [if_neg (by decide +kernel)];exact ⟨rfl,rfl⟩))
  (fun os started H enc _=>runsBack_lifted os started H enc)
theorem runsBack_plain (f:FuncId) (fn:Func) (hf:Tryz.pinned.checked.prog.funcNamed "depository/depositorylaw03.RunsBack"=some f) (hfn:Tryz.pinned.checked.prog.funcs[f]?=some fn):
  true=Tryz.pinned.checked.prog.looks []∧∀ (j:Nat) t,fn.params[j]?=some t→Tryz.pinned.checked.prog.wantsStandIn t=false:=by
 obtain rfl:f=4:=Option.some.inj ((show Tryz.prog.funcNamed "depository/depositorylaw03.RunsBack"=some 4 by kernel_rfl).symm.trans hf) |>.symm
 obtain rfl:fn=Tryz.f4:=(Option.some.inj (Tryz.func4.symm.trans hfn)).symm
 refine ⟨by kernel_rfl,fun j t ht=>?_⟩
 have hall:Tryz.f4.params.toList.all (fun t=>!Tryz.prog.wantsStandIn t)=true:=by kernel_rfl
 have:=List.all_eq_true.1 hall t (by simpa using Array.mem_of_getElem? ht)
 have e:Tryz.prog.wantsStandIn t=false:=by simpa using this
 exact e
theorem runsBack_holds:Rows.RunsBackCardSaid:=
 Claim7.holds_tied_plain_at .later [] _ _ _ _ runsBack_said (fun _ h=>by cases h) (by kernel_rfl) (fun _ h=>by cases h) runsBack_row_tie rfl ⟨rfl,rfl⟩ (by kernel_rfl) rfl runsBack_plain (by kernel_rfl)
end Go.Proofs.YtmmafhopnkkeeaaGreatDoor
