/- RecordTorn returns true for every input, and each argument reads afterwards as it read before; the variables that the row lists are laid by the program's text. Conditions: none. -/
import Derived.Test.YtcplecjhmnblpaaGreatDoorRp
import Derived.Test.YtcplecjhmnblpaaGreatDoorRx
namespace Go.Proofs.YtcplecjhmnblpaaGreatDoor
set_option linter.unusedSimpArgs false
set_option linter.unusedVariables false
set_option maxRecDepth 4000
variable {G:aH} {bb:Bool}
open Go.ChangeShapes Go.WideShapes Go.ChangeAt Go.RowKit
set_option maxRecDepth 100000 in
theorem wT(os:Os)(started:os.Started)(H:Type)(enc:TypeId × Value->H):
  ReturnsInHanded {} Tryz.checked os 8 .any (fun w args=>(Rows.recordTornSpec.pre enc Tryz.prog Tryz.f8 [] false w args/\laidMetH Tryz.prog Rows.recordTornRow.laid w)/\sizedMet enc Tryz.prog Tryz.f8 (OpenSpec.ofChange Rows.recordTornSpec) false w args) (Rows.recordTornSpec.post enc Tryz.prog Tryz.f8 false true false false):=by
 refine sF (C:=Tryz.checked) (X:=fun w _=>laidMetH Tryz.prog Rows.recordTornRow.laid w) (fun _ _ _ hh h=>h.of_heap hh) Tryz.own started (by kernel_rfl) Tryz.func8
  (ChangeSpec.witness_shaped (enc:=enc) (C:=Tryz.checked) (os:=os) (X:=fun w _=>laidMetH Tryz.prog Rows.recordTornRow.laid w) false (World.laidAll Tryz.prog os Rows.recordTornRow.laid) #[aJX,aB2,.int .i64 0] 8 (World.laidAll_os _ _ _)
   (World.shaped_of_ZipB (by kernel_rfl) (by kernel_rfl)) (by kernel_rfl) (by kernel_rfl) (by kernel_rfl)
   (by rw[MakeChecks.laidMetH_plain _ _ _ (by kernel_rfl)];exact laidMet_laidAll _ (by kernel_rfl) (by kernel_rfl))) ?_
 intro W base args ds gs before hval0 hW hL hsh;have hval:∀ (j:Nat) t v,Tryz.f8.params[j]?=some t->args[j]?=some v->Value.okWide Tryz.prog W .any base t v:=hval0;have hW':=hW;obtain⟨p,q,hA0,hV,rfl,hfz,hnd⟩:=hW;have hA:DataW.TrodAll enc Tryz.prog W 0 (fun _=>true) true Tryz.f8.params.toList args.toList ds p:=hA0
 obtain⟨rfl,rfl⟩:=trodVars_none hV;obtain⟨avs,h1,h2,h3,h4⟩:=xY (m:=8) hA (fun j t v a b=>hval j t v (by simpa using a) (by simpa using b)) (by
  have:Tryz.f8.params.toList.all (zH Tryz.prog 8)=true:=by kernel_rfl
  exact fun t ht=>aRl.1 this t ht)
 rw[Tryz.params8] at h3
 match avs,h3 with
 | [b0,b1,b2],h3=>
  obtain⟨k0,k1,k2,_⟩:=h3;obtain⟨x,u,rfl,hx⟩:=aFY (m:=0) k0;obtain⟨r,rfl,hr⟩:=Sf (m:=1) k1;obtain⟨n,rfl,hn⟩:=L0 (m:=7) k2;have hgl:dY (gT W) GF:=aGS hL;have hq:=aNj (aGa (G:=GF) aJT x (fun a ha=>⟨(hx.at' a ha).nm,(hx.at' a ha).va⟩) hx.ln u r (fun a ha=>⟨(hr.at' a ha).nm,(hr.at' a ha).va⟩) hr.ln n)
  refine (Em hq hgl ⟨by simpa using h1,fun i av v a b=>h2 i av v a (by simpa using b)⟩).mono fun e W' ⟨he,hb⟩=>?_
  subst he;rw[Tryz.params8] at h4
  match ds,h4 with
  | [d0,d1,d2],_=>
   exact⟨_,rfl,En (tb:=4) Tryz.laidOut (by
    have:Tryz.f8.params.toList.all (fun t=>Tryz.prog.readableRec t&&decide (t < Tryz.prog.types.size))=true:=by kernel_rfl
    intro t ht;have:=aRl.1 this t ht;rw[aQp,decide_eq_true_eq] at this;exact this) rfl rfl Tryz.underlying4 hW' rfl hb⟩
theorem bY{a b:Bool}(h1:a=true)(h2:b=true):(a&&b)=true:=by rw[h1,h2];rfl
noncomputable abbrev w_:=Tryz.pinned.checked.prog
noncomputable abbrev wa:=Tryz.f8.params.toList
abbrev wb:=Rows.recordTornRow
theorem aPq:(wb.wf (OpenSpec.ofChange Rows.recordTornSpec))=true:=by kernel_rfl
theorem aPr:(laidOutB w_)=true:=by kernel_rfl
theorem aPs:(mapsRowed w_)=true:=by kernel_rfl
theorem aPt:(Tryz.f8.params.all (w_.readableRec ·))=true:=by kernel_rfl
theorem aPu:(namedTie w_ wb.named Rows.recordTornSpec.vars)=true:=by kernel_rfl
theorem aPv:((wb.stops==[]))=true:=by kernel_rfl
theorem aPw:((w_.stops==[]))=true:=by kernel_rfl
theorem aPx:((wb.knobs==[]))=true:=by kernel_rfl
theorem aPy:((w_.stopKnobs==[]))=true:=by kernel_rfl
theorem aPz:((wb.inPlace==w_.inPlace 8))=true:=by kernel_rfl
theorem aNH:((wb.unfollowed==w_.unfollowed 8))=true:=by kernel_rfl
theorem aNI:((wb.recurses==w_.recurses 8))=true:=by kernel_rfl
theorem aNJ:((wb.named==w_.varsNamed 8))=true:=by kernel_rfl
theorem aNK:((wb.maps==(wa++Rows.recordTornSpec.plain.varTypes w_).any (w_.mapsRec ·)))=true:=by kernel_rfl
theorem aNL:((wb.ifaces==(wa++Rows.recordTornSpec.plain.varTypes w_).any (w_.ifacesRec ·)))=true:=by kernel_rfl
theorem aNM:((wb.mapsOut==w_.mapsAmong Tryz.f8.resultTypes.toList))=true:=by kernel_rfl
theorem aNN:((wb.loops==(wa++Rows.recordTornSpec.plain.varTypes w_).any (w_.loopsFrom ·)))=true:=by kernel_rfl
theorem aNO:((wb.wideKeys==(wa++Rows.recordTornSpec.plain.varTypes w_++Tryz.f8.resultTypes.toList).any (w_.wideKeysFrom ·)))=true:=by kernel_rfl
theorem aNP:(Rows.recordTornSpec.vars.all (w_.varReadable ·))=true:=by kernel_rfl
theorem aNQ:(Tryz.f8.resultTypes.all (fun t=>w_.readableRec t&&decide (t < w_.types.size)))=true:=by kernel_rfl
theorem aNR:((wb.ifacesOut==Tryz.f8.resultTypes.toList.any (w_.ifacesRec ·)))=true:=by kernel_rfl
theorem aNS:((wb.loopsOut==Tryz.f8.resultTypes.toList.any (w_.loopsFrom ·)))=true:=by kernel_rfl
theorem aNT:((wb.plainKeys==w_.plainKeys))=true:=by kernel_rfl
theorem aNU:(wb.shortTexts.isNone)=true:=by kernel_rfl
theorem aNV:(w_.stopsHeard)=true:=by kernel_rfl
theorem aNW:(w_.mayEnter)=true:=by kernel_rfl
theorem aNX:((wb.lifted==w_.liftsFinal))=true:=by kernel_rfl
theorem aNY:((w_.make==some wb.make))=true:=by kernel_rfl
theorem aNZ:((wb.kinds==(if wb.domain.isEmpty then [] else wa.map fun t=>match w_.underlying t with | some (.int k)=>some k | _=>none)))=true:=by kernel_rfl
theorem aN0:((wb.pinned==wb.pinnedBy))=true:=by kernel_rfl
theorem aN1:((wb.veiled==(wa++Rows.recordTornSpec.plain.varTypes w_++Tryz.f8.resultTypes.toList).any (w_.veiledRec ·)))=true:=by kernel_rfl
theorem aN2:(wb.veiledFits w_ wa (wa++Rows.recordTornSpec.plain.varTypes w_++Tryz.f8.resultTypes.toList))=true:=by kernel_rfl
theorem aCe:joinedFacts Tryz.pinned.checked.prog 8 Tryz.f8 Rows.recordTornSpec Rows.recordTornRow=true:=(bY (bY (bY (bY (bY (bY (bY (bY (bY (bY (bY (bY (bY (bY (bY (bY (bY (bY (bY (bY (bY (bY (bY (bY (bY (bY (bY (bY (bY (bY (bY aPq aPr) aPs) aPt) aPu) aPv) aPw) aPx) aPy) aPz) aNH) aNI) aNJ) aNK) aNL) aNM) aNN) aNO) aNP) aNQ) aNR) aNS) aNT) aNU) aNV) aNW) aNX) aNY) aNZ) aN0) aN1) aN2)
theorem zJ:Rows.RecordTornSaid:=
 OpenClaim.holds_of_wide 8 Tryz.f8 rfl rfl rfl rfl rfl rfl rfl ⟨rfl,rfl,rfl,rfl,rfl⟩ rfl rfl rfl rfl rfl (by kernel_rfl) Tryz.func8 aCe
  (of_decide_eq_true (by kernel_rfl)) (by unfold Func.isWrapper;first | (rw[if_pos (by decide +kernel)];kernel_rfl) | (rw[if_neg (by decide +kernel)];exact⟨rfl,rfl⟩))
  (fun os started H enc _=>wT os started H enc)
theorem xZ(f:FuncId)(fn:Func)(hf:Tryz.pinned.checked.prog.funcNamed "depository/depositorylaw09.RecordTorn"=some f)(hfn:Tryz.pinned.checked.prog.funcs[f]?=some fn):
  true=Tryz.pinned.checked.prog.looks []/\∀ (j:Nat) t,fn.params[j]?=some t->Tryz.pinned.checked.prog.wantsStandIn t=false:=by
 obtain rfl:f=8:=Option.some.inj ((show Tryz.prog.funcNamed "depository/depositorylaw09.RecordTorn"=some 8 by kernel_rfl).symm.trans hf) |>.symm
 obtain rfl:fn=Tryz.f8:=(Option.some.inj (Tryz.func8.symm.trans hfn)).symm;refine⟨by kernel_rfl,fun j t ht=>?_⟩
 have hall:Tryz.f8.params.toList.all (fun t=>!Tryz.prog.wantsStandIn t)=true:=by kernel_rfl
 have:=aRl.1 hall t (by simpa using aRE ht);have e:Tryz.prog.wantsStandIn t=false:=by simpa using this
 exact e
theorem recordTorn_holds:Rows.RecordTornCardSaid:=
 Claim7.holds_tied_plain_at .later [] _ _ _ _ zJ (fun _ h=>by cases h) (by kernel_rfl) (fun _ h=>by cases h) recordTorn_row_tie rfl ⟨rfl,rfl⟩ (by kernel_rfl) rfl xZ (by kernel_rfl)
end Go.Proofs.YtcplecjhmnblpaaGreatDoor
