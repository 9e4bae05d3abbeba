/- RecordRefs returns true for every input, and each argument reads afterwards as it read before; the variables that the row lists are laid by the program's text. Conditions: none. -/
import Derived.Test.YtcplecjhmnblpaaGreatDoorSs
import Derived.Test.YtcplecjhmnblpaaGreatDoorQi
namespace Go.Proofs.YtcplecjhmnblpaaGreatDoor
set_option linter.unusedSimpArgs false
set_option linter.unusedVariables false
set_option maxRecDepth 4000
variable {G:Glob} {bb:Bool}
open Go.ChangeShapes Go.WideShapes Go.ChangeAt Go.RowKit
set_option maxRecDepth 100000 in
theorem recordRefs_lifted (os:Os) (started:os.Started) (H:Type) (enc:TypeId × Value→H):
  ReturnsInHanded {} Tryz.checked os 10 .any (fun w args=>(Rows.recordRefsSpec.pre enc Tryz.prog Tryz.f10 [] false w args∧laidMetH Tryz.prog Rows.recordRefsRow.laid w)∧sizedMet enc Tryz.prog Tryz.f10 (OpenSpec.ofChange Rows.recordRefsSpec) false w args) (Rows.recordRefsSpec.post enc Tryz.prog Tryz.f10 false true false false):=by
 refine returns_shaped (C:=Tryz.checked) (X:=fun w _=>laidMetH Tryz.prog Rows.recordRefsRow.laid w) (fun _ _ _ hh h=>h.of_heap hh) Tryz.own started (by kernel_rfl) Tryz.func10
  (ChangeSpec.witness_shaped (enc:=enc) (C:=Tryz.checked) (os:=os) (X:=fun w _=>laidMetH Tryz.prog Rows.recordRefsRow.laid w) false (World.laidAll Tryz.prog os Rows.recordRefsRow.laid) #[.agg #[.int .i64 0,.int .i64 0],.string ⟨#[]⟩] 8 (World.laidAll_os _ _ _)
   (World.shaped_of_ZipB (by kernel_rfl) (by kernel_rfl)) (by kernel_rfl) (by kernel_rfl) (by kernel_rfl)
   (by rw [MakeChecks.laidMetH_plain _ _ _ (by kernel_rfl)];exact laidMet_laidAll _ (by kernel_rfl) (by kernel_rfl))) ?_
 intro W base args ds gs before hval0 hW hL hsh
 have hval:∀ (j:Nat) t v,Tryz.f10.params[j]?=some t→args[j]?=some v→Value.okWide Tryz.prog W .any base t v:=hval0
 have hW':=hW
 obtain ⟨p,q,hA0,hV,rfl,hfz,hnd⟩:=hW
 have hA:DataW.TrodAll enc Tryz.prog W 0 (fun _=>true) true Tryz.f10.params.toList args.toList ds p:=hA0
 obtain ⟨rfl,rfl⟩:=trodVars_none hV
 obtain ⟨avs,h1,h2,h3,h4⟩:=args_data (m:=7) hA (fun j t v a b=>hval j t v (by simpa using a) (by simpa using b)) (by
  have:Tryz.f10.params.toList.all (datT Tryz.prog 7)=true:=by kernel_rfl
  exact fun t ht=>List.all_eq_true.1 this t ht)
 rw [Tryz.params10] at h3
 match avs,h3 with
 | [b0,b1],h3=>
  obtain ⟨k0,k1,_⟩:=h3
  obtain ⟨x,y,rfl,hx,hy⟩:=okA_ref (m:=5) k0
  obtain ⟨s,rfl,hs,hsl⟩:=okA_strL (m:=6) k1
  obtain ⟨m,t1,t2,p1,p2,hgl⟩:=globR hL hsh
  have hq:=qc9R (refs_v (G:=GX m (.iface t1 p1) (.iface t2 p2)) x y hx hy s hs hsl)
  refine (law_calls hq hgl ⟨by simpa using h1,fun i av v a b=>h2 i av v a (by simpa using b)⟩).mono fun e W' ⟨he,hb⟩=>?_
  subst he
  rw [Tryz.params10] at h4
  match ds,h4 with
  | [d0,d1],_=>
   exact ⟨_,rfl,post_true (tb:=4) Tryz.laidOut (by
    have:Tryz.f10.params.toList.all (fun t=>Tryz.prog.readableRec t&&decide (t < Tryz.prog.types.size))=true:=by kernel_rfl
    intro t ht
    have:=List.all_eq_true.1 this t ht
    rw [Bool.and_eq_true,decide_eq_true_eq] at this
    exact this) rfl rfl Tryz.underlying4 hW' rfl hb⟩
theorem and_t {a b:Bool} (h1:a=true) (h2:b=true):(a&&b)=true:=by rw [h1,h2];rfl
theorem rrj0:(Rows.recordRefsRow.wf (OpenSpec.ofChange Rows.recordRefsSpec))=true:=by kernel_rfl
theorem rrj1:(laidOutB Tryz.pinned.checked.prog)=true:=by kernel_rfl
theorem rrj2:(mapsRowed Tryz.pinned.checked.prog)=true:=by kernel_rfl
theorem rrj3:(Tryz.f10.params.all (Tryz.pinned.checked.prog.readableRec ·))=true:=by kernel_rfl
theorem rrj4:(namedTie Tryz.pinned.checked.prog Rows.recordRefsRow.named Rows.recordRefsSpec.vars)=true:=by kernel_rfl
theorem rrj5:((Rows.recordRefsRow.stops==[]))=true:=by kernel_rfl
theorem rrj6:((Tryz.pinned.checked.prog.stops==[]))=true:=by kernel_rfl
theorem rrj7:((Rows.recordRefsRow.knobs==[]))=true:=by kernel_rfl
theorem rrj8:((Tryz.pinned.checked.prog.stopKnobs==[]))=true:=by kernel_rfl
theorem rrj9:((Rows.recordRefsRow.inPlace==Tryz.pinned.checked.prog.inPlace 10))=true:=by kernel_rfl
theorem rrj10:((Rows.recordRefsRow.unfollowed==Tryz.pinned.checked.prog.unfollowed 10))=true:=by kernel_rfl
theorem rrj11:((Rows.recordRefsRow.recurses==Tryz.pinned.checked.prog.recurses 10))=true:=by kernel_rfl
theorem rrj12:((Rows.recordRefsRow.named==Tryz.pinned.checked.prog.varsNamed 10))=true:=by kernel_rfl
theorem rrj13:((Rows.recordRefsRow.maps==(Tryz.f10.params.toList++Rows.recordRefsSpec.plain.varTypes Tryz.pinned.checked.prog).any (Tryz.pinned.checked.prog.mapsRec ·)))=true:=by kernel_rfl
theorem rrj14:((Rows.recordRefsRow.ifaces==(Tryz.f10.params.toList++Rows.recordRefsSpec.plain.varTypes Tryz.pinned.checked.prog).any (Tryz.pinned.checked.prog.ifacesRec ·)))=true:=by kernel_rfl
theorem rrj15:((Rows.recordRefsRow.mapsOut==Tryz.pinned.checked.prog.mapsAmong Tryz.f10.resultTypes.toList))=true:=by kernel_rfl
theorem rrj16:((Rows.recordRefsRow.loops==(Tryz.f10.params.toList++Rows.recordRefsSpec.plain.varTypes Tryz.pinned.checked.prog).any (Tryz.pinned.checked.prog.loopsFrom ·)))=true:=by kernel_rfl
theorem rrj17:((Rows.recordRefsRow.wideKeys==(Tryz.f10.params.toList++Rows.recordRefsSpec.plain.varTypes Tryz.pinned.checked.prog++Tryz.f10.resultTypes.toList).any (Tryz.pinned.checked.prog.wideKeysFrom ·)))=true:=by kernel_rfl
theorem rrj18:(Rows.recordRefsSpec.vars.all (Tryz.pinned.checked.prog.varReadable ·))=true:=by kernel_rfl
theorem rrj19:(Tryz.f10.resultTypes.all (fun t=>Tryz.pinned.checked.prog.readableRec t&&decide (t < Tryz.pinned.checked.prog.types.size)))=true:=by kernel_rfl
theorem rrj20:((Rows.recordRefsRow.ifacesOut==Tryz.f10.resultTypes.toList.any (Tryz.pinned.checked.prog.ifacesRec ·)))=true:=by kernel_rfl
theorem rrj21:((Rows.recordRefsRow.loopsOut==Tryz.f10.resultTypes.toList.any (Tryz.pinned.checked.prog.loopsFrom ·)))=true:=by kernel_rfl
theorem rrj22:((Rows.recordRefsRow.plainKeys==Tryz.pinned.checked.prog.plainKeys))=true:=by kernel_rfl
theorem rrj23:(Rows.recordRefsRow.shortTexts.isNone)=true:=by kernel_rfl
theorem rrj24:(Tryz.pinned.checked.prog.stopsHeard)=true:=by kernel_rfl
theorem rrj25:(Tryz.pinned.checked.prog.mayEnter)=true:=by kernel_rfl
theorem rrj26:((Rows.recordRefsRow.lifted==Tryz.pinned.checked.prog.liftsFinal))=true:=by kernel_rfl
theorem rrj27:((Tryz.pinned.checked.prog.make==some Rows.recordRefsRow.make))=true:=by kernel_rfl
theorem rrj28:((Rows.recordRefsRow.kinds==(if Rows.recordRefsRow.domain.isEmpty then [] else Tryz.f10.params.toList.map fun t=>match Tryz.pinned.checked.prog.underlying t with | some (.int k)=>some k | _=>none)))=true:=by kernel_rfl
theorem rrj29:((Rows.recordRefsRow.pinned==Rows.recordRefsRow.pinnedBy))=true:=by kernel_rfl
theorem rrj30:((Rows.recordRefsRow.veiled==(Tryz.f10.params.toList++Rows.recordRefsSpec.plain.varTypes Tryz.pinned.checked.prog++Tryz.f10.resultTypes.toList).any (Tryz.pinned.checked.prog.veiledRec ·)))=true:=by kernel_rfl
theorem rrj31:(Rows.recordRefsRow.veiledFits Tryz.pinned.checked.prog Tryz.f10.params.toList (Tryz.f10.params.toList++Rows.recordRefsSpec.plain.varTypes Tryz.pinned.checked.prog++Tryz.f10.resultTypes.toList))=true:=by kernel_rfl
theorem rr_facts:joinedFacts Tryz.pinned.checked.prog 10 Tryz.f10 Rows.recordRefsSpec Rows.recordRefsRow=true:=(and_t (and_t (and_t (and_t (and_t (and_t (and_t (and_t (and_t (and_t (and_t (and_t (and_t (and_t (and_t (and_t (and_t (and_t (and_t (and_t (and_t (and_t (and_t (and_t (and_t (and_t (and_t (and_t (and_t (and_t (and_t rrj0 rrj1) rrj2) rrj3) rrj4) rrj5) rrj6) rrj7) rrj8) rrj9) rrj10) rrj11) rrj12) rrj13) rrj14) rrj15) rrj16) rrj17) rrj18) rrj19) rrj20) rrj21) rrj22) rrj23) rrj24) rrj25) rrj26) rrj27) rrj28) rrj29) rrj30) rrj31)
theorem recordRefs_said:Rows.RecordRefsSaid:=
 OpenClaim.holds_of_wide 10 Tryz.f10 rfl rfl rfl rfl rfl rfl rfl ⟨rfl,rfl,rfl,rfl,rfl⟩ rfl rfl rfl rfl rfl (by kernel_rfl) Tryz.func10 rr_facts
  (of_decide_eq_true (by kernel_rfl)) (by unfold Func.isWrapper;first | (rw [if_pos (by decide +kernel)];kernel_rfl) | (rw [if_neg (by decide +kernel)];exact ⟨rfl,rfl⟩))
  (fun os started H enc _=>recordRefs_lifted os started H enc)
theorem recordRefs_plain (f:FuncId) (fn:Func) (hf:Tryz.pinned.checked.prog.funcNamed "depository/depositorylaw09.RecordRefs"=some f) (hfn:Tryz.pinned.checked.prog.funcs[f]?=some fn):
  true=Tryz.pinned.checked.prog.looks []∧∀ (j:Nat) t,fn.params[j]?=some t→Tryz.pinned.checked.prog.wantsStandIn t=false:=by
 obtain rfl:f=10:=Option.some.inj ((show Tryz.prog.funcNamed "depository/depositorylaw09.RecordRefs"=some 10 by kernel_rfl).symm.trans hf) |>.symm
 obtain rfl:fn=Tryz.f10:=(Option.some.inj (Tryz.func10.symm.trans hfn)).symm
 refine ⟨by kernel_rfl,fun j t ht=>?_⟩
 have hall:Tryz.f10.params.toList.all (fun t=>!Tryz.prog.wantsStandIn t)=true:=by kernel_rfl
 have:=List.all_eq_true.1 hall t (by simpa using Array.mem_of_getElem? ht)
 have e:Tryz.prog.wantsStandIn t=false:=by simpa using this
 exact e
theorem recordRefs_holds:Rows.RecordRefsCardSaid:=
 Claim7.holds_tied_plain_at .later [] _ _ _ _ recordRefs_said (fun _ h=>by cases h) (by kernel_rfl) (fun _ h=>by cases h) recordRefs_row_tie rfl ⟨rfl,rfl⟩ (by kernel_rfl) rfl recordRefs_plain (by kernel_rfl)
end Go.Proofs.YtcplecjhmnblpaaGreatDoor
