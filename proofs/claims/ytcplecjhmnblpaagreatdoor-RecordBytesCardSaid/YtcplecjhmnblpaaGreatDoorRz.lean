/- RecordBytes returns true for every input, and each argument reads afterwards as it read before; the variables that the row lists are laid by the program's text. Conditions: none. -/
import Derived.Test.YtcplecjhmnblpaaGreatDoorSx
import Derived.Test.YtcplecjhmnblpaaGreatDoorRr
namespace Go.Proofs.YtcplecjhmnblpaaGreatDoor
set_option linter.unusedSimpArgs false
set_option linter.unusedVariables false
set_option maxRecDepth 4000
open Go.ChangeShapes Go.WideShapes Go.ChangeAt Go.RowKit
set_option maxRecDepth 100000 in
theorem hM(os:Os)(started:os.Started)(H:Type)(enc:TypeId × Value->H):
  ReturnsInHanded {} Tryz.checked os 9 .any (fun w args=>(Rows.recordBytesSpec.pre enc Tryz.prog Tryz.f9 [] false w args/\laidMetH Tryz.prog Rows.recordBytesRow.laid w)/\sizedMet enc Tryz.prog Tryz.f9 (OpenSpec.ofChange Rows.recordBytesSpec) false w args) (Rows.recordBytesSpec.post enc Tryz.prog Tryz.f9 false true false false):=by
 refine sF (C:=Tryz.checked) (X:=fun w _=>laidMetH Tryz.prog Rows.recordBytesRow.laid w) (fun _ _ _ hh h=>h.of_heap hh) Tryz.own started (by kernel_rfl) Tryz.func9
  (ChangeSpec.witness_shaped (enc:=enc) (C:=Tryz.checked) (os:=os) (X:=fun w _=>laidMetH Tryz.prog Rows.recordBytesRow.laid w) false (World.laidAll Tryz.prog os Rows.recordBytesRow.laid) #[aJX,.string ⟨#[]⟩] 8 (World.laidAll_os _ _ _)
   (World.shaped_of_ZipB (by kernel_rfl) (by kernel_rfl)) (by kernel_rfl) (by kernel_rfl) (by kernel_rfl)
   (by rw[MakeChecks.laidMetH_plain _ _ _ (by kernel_rfl)];exact laidMet_laidAll _ (by kernel_rfl) (by kernel_rfl))) ?_
 intro W base args ds gs before hval0 hW hL hsh;have hval:∀ (j:Nat) t v,Tryz.f9.params[j]?=some t->args[j]?=some v->Value.okWide Tryz.prog W .any base t v:=hval0;have hW':=hW;obtain⟨p,q,hA0,hV,rfl,hfz,hnd⟩:=hW;have hA:DataW.TrodAll enc Tryz.prog W 0 (fun _=>true) true Tryz.f9.params.toList args.toList ds p:=hA0
 obtain⟨rfl,rfl⟩:=trodVars_none hV;obtain⟨avs,h1,h2,h3,h4⟩:=xY (m:=8) hA (fun j t v a b=>hval j t v (by simpa using a) (by simpa using b)) (by
  have:Tryz.f9.params.toList.all (zH Tryz.prog 8)=true:=by kernel_rfl
  exact fun t ht=>aRl.1 this t ht)
 rw[Tryz.params9] at h3
 match avs,h3 with
 | [b0,b1],h3=>
  obtain⟨k0,k1,_⟩:=h3;obtain⟨r,u,rfl,hr⟩:=aFY (m:=0) k0;obtain⟨s,rfl,hs,hsl⟩:=aB7 (m:=7) k1;have hgl:dY (gT W) GS:=aPC hL;have hq:=aSx (aFj (G:=GS) aPB rfl r (fun a ha=>⟨(hr.at' a ha).nm,(hr.at' a ha).va⟩) hr.ln u s hs hsl)
  refine (Em hq hgl ⟨by simpa using h1,fun i av v a b=>h2 i av v a (by simpa using b)⟩).mono fun e W' ⟨he,hb⟩=>?_
  subst he;rw[Tryz.params9] at h4
  match ds,h4 with
  | [d0,d1],_=>
   exact⟨_,rfl,En (tb:=4) Tryz.laidOut (by
    have:Tryz.f9.params.toList.all (fun t=>Tryz.prog.readableRec t&&decide (t < Tryz.prog.types.size))=true:=by kernel_rfl
    intro t ht;have:=aRl.1 this t ht;rw[aQp,decide_eq_true_eq] at this;exact this) rfl rfl Tryz.underlying4 hW' rfl hb⟩
theorem bY{a b:Bool}(h1:a=true)(h2:b=true):(a&&b)=true:=by rw[h1,h2];rfl
noncomputable abbrev w_:=Tryz.pinned.checked.prog
noncomputable abbrev wa:=Tryz.f9.params.toList
abbrev wb:=Rows.recordBytesRow
abbrev wc:=Rows.recordBytesSpec
theorem aSy:(wb.wf (OpenSpec.ofChange wc))=true:=by kernel_rfl
theorem aSz:(laidOutB w_)=true:=by kernel_rfl
theorem aSA:(mapsRowed w_)=true:=by kernel_rfl
theorem aSB:(Tryz.f9.params.all (w_.readableRec ·))=true:=by kernel_rfl
theorem aSC:(namedTie w_ wb.named wc.vars)=true:=by kernel_rfl
theorem aSD:(wb.stops==[])=true:=by kernel_rfl
theorem aSE:(w_.stops==[])=true:=by kernel_rfl
theorem aSF:(wb.knobs==[])=true:=by kernel_rfl
theorem aSG:(w_.stopKnobs==[])=true:=by kernel_rfl
theorem aSH:(wb.inPlace==w_.inPlace 9)=true:=by kernel_rfl
theorem aPD:(wb.unfollowed==w_.unfollowed 9)=true:=by kernel_rfl
theorem aPE:(wb.recurses==w_.recurses 9)=true:=by kernel_rfl
theorem aPF:(wb.named==w_.varsNamed 9)=true:=by kernel_rfl
theorem aPG:(wb.maps==(wa++wc.plain.varTypes w_).any (w_.mapsRec ·))=true:=by kernel_rfl
theorem aPH:(wb.ifaces==(wa++wc.plain.varTypes w_).any (w_.ifacesRec ·))=true:=by kernel_rfl
theorem aPI:(wb.mapsOut==w_.mapsAmong Tryz.f9.resultTypes.toList)=true:=by kernel_rfl
theorem aPJ:(wb.loops==(wa++wc.plain.varTypes w_).any (w_.loopsFrom ·))=true:=by kernel_rfl
theorem aPK:(wb.wideKeys==(wa++wc.plain.varTypes w_++Tryz.f9.resultTypes.toList).any (w_.wideKeysFrom ·))=true:=by kernel_rfl
theorem aPL:(wc.vars.all (w_.varReadable ·))=true:=by kernel_rfl
theorem aPM:(Tryz.f9.resultTypes.all (fun t=>w_.readableRec t&&decide (t < w_.types.size)))=true:=by kernel_rfl
theorem aPN:(wb.ifacesOut==Tryz.f9.resultTypes.toList.any (w_.ifacesRec ·))=true:=by kernel_rfl
theorem aPO:(wb.loopsOut==Tryz.f9.resultTypes.toList.any (w_.loopsFrom ·))=true:=by kernel_rfl
theorem aPP:(wb.plainKeys==w_.plainKeys)=true:=by kernel_rfl
theorem aPQ:(wb.shortTexts.isNone)=true:=by kernel_rfl
theorem aPR:(w_.stopsHeard)=true:=by kernel_rfl
theorem aPS:(w_.mayEnter)=true:=by kernel_rfl
theorem aPT:(wb.lifted==w_.liftsFinal)=true:=by kernel_rfl
theorem aPU:(w_.make==some wb.make)=true:=by kernel_rfl
theorem aPV:(wb.kinds==(if wb.domain.isEmpty then [] else wa.map fun t=>match w_.underlying t with | some (.int k)=>some k | _=>none))=true:=by kernel_rfl
theorem aPW:(wb.pinned==wb.pinnedBy)=true:=by kernel_rfl
theorem aPX:(wb.veiled==(wa++wc.plain.varTypes w_++Tryz.f9.resultTypes.toList).any (w_.veiledRec ·))=true:=by kernel_rfl
theorem aPY:(wb.veiledFits w_ wa (wa++wc.plain.varTypes w_++Tryz.f9.resultTypes.toList))=true:=by kernel_rfl
theorem aFM:joinedFacts Tryz.pinned.checked.prog 9 Tryz.f9 Rows.recordBytesSpec Rows.recordBytesRow=true:=(bY (bY (bY (bY (bY (bY (bY (bY (bY (bY (bY (bY (bY (bY (bY (bY (bY (bY (bY (bY (bY (bY (bY (bY (bY (bY (bY (bY (bY (bY (bY aSy aSz) aSA) aSB) aSC) aSD) aSE) aSF) aSG) aSH) aPD) aPE) aPF) aPG) aPH) aPI) aPJ) aPK) aPL) aPM) aPN) aPO) aPP) aPQ) aPR) aPS) aPT) aPU) aPV) aPW) aPX) aPY)
theorem aCg:Rows.RecordBytesSaid:=
 OpenClaim.holds_of_wide 9 Tryz.f9 rfl rfl rfl rfl rfl rfl rfl ⟨rfl,rfl,rfl,rfl,rfl⟩ rfl rfl rfl rfl rfl (by kernel_rfl) Tryz.func9 aFM
  (of_decide_eq_true (by kernel_rfl)) (by unfold Func.isWrapper;first | (rw[if_pos (by decide +kernel)];kernel_rfl) | (rw[if_neg (by decide +kernel)];exact⟨rfl,rfl⟩))
  (fun os started H enc _=>hM os started H enc)
theorem aBp(f:FuncId)(fn:Func)(hf:Tryz.pinned.checked.prog.funcNamed "depository/depositorylaw09.RecordBytes"=some f)(hfn:Tryz.pinned.checked.prog.funcs[f]?=some fn):
  true=Tryz.pinned.checked.prog.looks []/\∀ (j:Nat) t,fn.params[j]?=some t->Tryz.pinned.checked.prog.wantsStandIn t=false:=by
 obtain rfl:f=9:=Option.some.inj ((show Tryz.prog.funcNamed "depository/depositorylaw09.RecordBytes"=some 9 by kernel_rfl).symm.trans hf) |>.symm
 obtain rfl:fn=Tryz.f9:=(Option.some.inj (Tryz.func9.symm.trans hfn)).symm;refine⟨by kernel_rfl,fun j t ht=>?_⟩
 have hall:Tryz.f9.params.toList.all (fun t=>!Tryz.prog.wantsStandIn t)=true:=by kernel_rfl
 have:=aRl.1 hall t (by simpa using aRE ht);have e:Tryz.prog.wantsStandIn t=false:=by simpa using this
 exact e
theorem recordBytes_holds:Rows.RecordBytesCardSaid:=
 Claim7.holds_tied_plain_at .later [] _ _ _ _ aCg (fun _ h=>by cases h) (by kernel_rfl) (fun _ h=>by cases h) recordBytes_row_tie rfl ⟨rfl,rfl⟩ (by kernel_rfl) rfl aBp (by kernel_rfl)
end Go.Proofs.YtcplecjhmnblpaaGreatDoor
