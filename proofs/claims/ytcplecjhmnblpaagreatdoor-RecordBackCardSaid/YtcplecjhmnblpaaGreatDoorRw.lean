/- RecordBack returns true for every input, and each argument reads afterwards as it read before; the variables that the row lists are laid by the program's text. Conditions: none. -/
import Derived.Test.YtcplecjhmnblpaaGreatDoorRr
namespace Go.Proofs.YtcplecjhmnblpaaGreatDoor
set_option linter.unusedSimpArgs false
set_option linter.unusedVariables false
set_option maxRecDepth 4000
variable {G:aH} {bb:Bool}
open Go.ChangeShapes Go.WideShapes Go.ChangeAt Go.RowKit
set_option maxRecDepth 100000 in
theorem aBb(os:Os)(started:os.Started)(H:Type)(enc:TypeId × Value->H):
  ReturnsInHanded {} Tryz.checked os 6 .any (fun w args=>(Rows.recordBackSpec.pre enc Tryz.prog Tryz.f6 [] false w args/\laidMetH Tryz.prog Rows.recordBackRow.laid w)/\sizedMet enc Tryz.prog Tryz.f6 (OpenSpec.ofChange Rows.recordBackSpec) false w args) (Rows.recordBackSpec.post enc Tryz.prog Tryz.f6 false true false false):=by
 refine sF (C:=Tryz.checked) (X:=fun w _=>laidMetH Tryz.prog Rows.recordBackRow.laid w) (fun _ _ _ hh h=>h.of_heap hh) Tryz.own started (by kernel_rfl) Tryz.func6
  (ChangeSpec.witness_shaped (enc:=enc) (C:=Tryz.checked) (os:=os) (X:=fun w _=>laidMetH Tryz.prog Rows.recordBackRow.laid w) false (World.laidAll Tryz.prog os Rows.recordBackRow.laid) #[aJX,.string ⟨#[]⟩] 8 (World.laidAll_os _ _ _)
   (World.shaped_of_ZipB (by kernel_rfl) (by kernel_rfl)) (by kernel_rfl) (by kernel_rfl) (by kernel_rfl)
   (by rw[MakeChecks.laidMetH_plain _ _ _ (by kernel_rfl)];exact laidMet_laidAll _ (by kernel_rfl) (by kernel_rfl))) ?_
 intro W base args ds gs before hval0 hW hL hsh;have hval:∀ (j:Nat) t v,Tryz.f6.params[j]?=some t->args[j]?=some v->Value.okWide Tryz.prog W .any base t v:=hval0;have hW':=hW;obtain⟨p,q,hA0,hV,rfl,hfz,hnd⟩:=hW;have hA:DataW.TrodAll enc Tryz.prog W 0 (fun _=>true) true Tryz.f6.params.toList args.toList ds p:=hA0
 obtain⟨rfl,rfl⟩:=trodVars_none hV;obtain⟨avs,h1,h2,h3,h4⟩:=xY (m:=8) hA (fun j t v a b=>hval j t v (by simpa using a) (by simpa using b)) (by
  have:Tryz.f6.params.toList.all (zH Tryz.prog 8)=true:=by kernel_rfl
  exact fun t ht=>aRl.1 this t ht)
 rw[Tryz.params6] at h3
 match avs,h3 with
 | [b0,b1],h3=>
  obtain⟨k0,k1,_⟩:=h3;obtain⟨r,u,rfl,hr⟩:=aFY (m:=0) k0;obtain⟨s,rfl,hs,hsl⟩:=aB7 (m:=7) k1;have hgl:dY (gT W) GF:=aGS hL;have hq:=aNj (aJ8 (G:=GF) aJT r (fun a ha=>⟨(hr.at' a ha).nm,(hr.at' a ha).va⟩) hr.ln u s hs hsl)
  refine (Em hq hgl ⟨by simpa using h1,fun i av v a b=>h2 i av v a (by simpa using b)⟩).mono fun e W' ⟨he,hb⟩=>?_
  subst he;rw[Tryz.params6] at h4
  match ds,h4 with
  | [d0,d1],_=>
   exact⟨_,rfl,En (tb:=4) Tryz.laidOut (by
    have:Tryz.f6.params.toList.all (fun t=>Tryz.prog.readableRec t&&decide (t < Tryz.prog.types.size))=true:=by kernel_rfl
    intro t ht;have:=aRl.1 this t ht;rw[aQp,decide_eq_true_eq] at this;exact this) rfl rfl Tryz.underlying4 hW' rfl hb⟩
theorem bY{a b:Bool}(h1:a=true)(h2:b=true):(a&&b)=true:=by rw[h1,h2];rfl
noncomputable abbrev w_:=Tryz.pinned.checked.prog
noncomputable abbrev wa:=Tryz.f6.params.toList
abbrev wb:=Rows.recordBackRow
theorem aSn:(wb.wf (OpenSpec.ofChange Rows.recordBackSpec))=true:=by kernel_rfl
theorem aSo:(laidOutB w_)=true:=by kernel_rfl
theorem aSp:(mapsRowed w_)=true:=by kernel_rfl
theorem aSq:(Tryz.f6.params.all (w_.readableRec ·))=true:=by kernel_rfl
theorem aSr:(namedTie w_ wb.named Rows.recordBackSpec.vars)=true:=by kernel_rfl
theorem aSs:((wb.stops==[]))=true:=by kernel_rfl
theorem aSt:((w_.stops==[]))=true:=by kernel_rfl
theorem aSu:((wb.knobs==[]))=true:=by kernel_rfl
theorem aSv:((w_.stopKnobs==[]))=true:=by kernel_rfl
theorem aSw:((wb.inPlace==w_.inPlace 6))=true:=by kernel_rfl
theorem aOE:((wb.unfollowed==w_.unfollowed 6))=true:=by kernel_rfl
theorem aOF:((wb.recurses==w_.recurses 6))=true:=by kernel_rfl
theorem aOG:((wb.named==w_.varsNamed 6))=true:=by kernel_rfl
theorem aOH:((wb.maps==(wa++Rows.recordBackSpec.plain.varTypes w_).any (w_.mapsRec ·)))=true:=by kernel_rfl
theorem aOJ:((wb.ifaces==(wa++Rows.recordBackSpec.plain.varTypes w_).any (w_.ifacesRec ·)))=true:=by kernel_rfl
theorem aOK:((wb.mapsOut==w_.mapsAmong Tryz.f6.resultTypes.toList))=true:=by kernel_rfl
theorem aOL:((wb.loops==(wa++Rows.recordBackSpec.plain.varTypes w_).any (w_.loopsFrom ·)))=true:=by kernel_rfl
theorem aOM:((wb.wideKeys==(wa++Rows.recordBackSpec.plain.varTypes w_++Tryz.f6.resultTypes.toList).any (w_.wideKeysFrom ·)))=true:=by kernel_rfl
theorem aON:(Rows.recordBackSpec.vars.all (w_.varReadable ·))=true:=by kernel_rfl
theorem aOO:(Tryz.f6.resultTypes.all (fun t=>w_.readableRec t&&decide (t < w_.types.size)))=true:=by kernel_rfl
theorem aOP:((wb.ifacesOut==Tryz.f6.resultTypes.toList.any (w_.ifacesRec ·)))=true:=by kernel_rfl
theorem aOQ:((wb.loopsOut==Tryz.f6.resultTypes.toList.any (w_.loopsFrom ·)))=true:=by kernel_rfl
theorem aOR:((wb.plainKeys==w_.plainKeys))=true:=by kernel_rfl
theorem aOS:(wb.shortTexts.isNone)=true:=by kernel_rfl
theorem aOT:(w_.stopsHeard)=true:=by kernel_rfl
theorem aOZ:(w_.mayEnter)=true:=by kernel_rfl
theorem aO0:((wb.lifted==w_.liftsFinal))=true:=by kernel_rfl
theorem aO1:((w_.make==some wb.make))=true:=by kernel_rfl
theorem aO6:((wb.kinds==(if wb.domain.isEmpty then [] else wa.map fun t=>match w_.underlying t with | some (.int k)=>some k | _=>none)))=true:=by kernel_rfl
theorem aO7:((wb.pinned==wb.pinnedBy))=true:=by kernel_rfl
theorem aPa:((wb.veiled==(wa++Rows.recordBackSpec.plain.varTypes w_++Tryz.f6.resultTypes.toList).any (w_.veiledRec ·)))=true:=by kernel_rfl
theorem aPA:(wb.veiledFits w_ wa (wa++Rows.recordBackSpec.plain.varTypes w_++Tryz.f6.resultTypes.toList))=true:=by kernel_rfl
theorem aFn:joinedFacts Tryz.pinned.checked.prog 6 Tryz.f6 Rows.recordBackSpec Rows.recordBackRow=true:=(bY (bY (bY (bY (bY (bY (bY (bY (bY (bY (bY (bY (bY (bY (bY (bY (bY (bY (bY (bY (bY (bY (bY (bY (bY (bY (bY (bY (bY (bY (bY aSn aSo) aSp) aSq) aSr) aSs) aSt) aSu) aSv) aSw) aOE) aOF) aOG) aOH) aOJ) aOK) aOL) aOM) aON) aOO) aOP) aOQ) aOR) aOS) aOT) aOZ) aO0) aO1) aO6) aO7) aPa) aPA)
theorem aCh:Rows.RecordBackSaid:=
 OpenClaim.holds_of_wide 6 Tryz.f6 rfl rfl rfl rfl rfl rfl rfl ⟨rfl,rfl,rfl,rfl,rfl⟩ rfl rfl rfl rfl rfl (by kernel_rfl) Tryz.func6 aFn
  (of_decide_eq_true (by kernel_rfl)) (by unfold Func.isWrapper;first | (rw[if_pos (by decide +kernel)];kernel_rfl) | (rw[if_neg (by decide +kernel)];exact⟨rfl,rfl⟩))
  (fun os started H enc _=>aBb os started H enc)
theorem aCf(f:FuncId)(fn:Func)(hf:Tryz.pinned.checked.prog.funcNamed "depository/depositorylaw09.RecordBack"=some f)(hfn:Tryz.pinned.checked.prog.funcs[f]?=some fn):
  true=Tryz.pinned.checked.prog.looks []/\∀ (j:Nat) t,fn.params[j]?=some t->Tryz.pinned.checked.prog.wantsStandIn t=false:=by
 obtain rfl:f=6:=Option.some.inj ((show Tryz.prog.funcNamed "depository/depositorylaw09.RecordBack"=some 6 by kernel_rfl).symm.trans hf) |>.symm
 obtain rfl:fn=Tryz.f6:=(Option.some.inj (Tryz.func6.symm.trans hfn)).symm;refine⟨by kernel_rfl,fun j t ht=>?_⟩
 have hall:Tryz.f6.params.toList.all (fun t=>!Tryz.prog.wantsStandIn t)=true:=by kernel_rfl
 have:=aRl.1 hall t (by simpa using aRE ht);have e:Tryz.prog.wantsStandIn t=false:=by simpa using this
 exact e
theorem recordBack_holds:Rows.RecordBackCardSaid:=
 Claim7.holds_tied_plain_at .later [] _ _ _ _ aCh (fun _ h=>by cases h) (by kernel_rfl) (fun _ h=>by cases h) recordBack_row_tie rfl ⟨rfl,rfl⟩ (by kernel_rfl) rfl aCf (by kernel_rfl)
end Go.Proofs.YtcplecjhmnblpaaGreatDoor
