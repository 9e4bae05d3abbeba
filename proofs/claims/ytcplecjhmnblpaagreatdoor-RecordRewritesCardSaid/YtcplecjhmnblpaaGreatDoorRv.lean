/- RecordRewrites returns true for every input, and each argument reads afterwards as it read before; the variables that the row lists are laid by the program's text. Conditions: none. -/
import Derived.Test.YtcplecjhmnblpaaGreatDoorRp
namespace Go.Proofs.YtcplecjhmnblpaaGreatDoor
set_option linter.unusedSimpArgs false
set_option linter.unusedVariables false
set_option maxRecDepth 4000
variable {G:aH} {bb:Bool}
open Go.ChangeShapes Go.WideShapes Go.ChangeAt Go.RowKit
set_option maxRecDepth 100000 in
theorem qS(os:Os)(started:os.Started)(H:Type)(enc:TypeId × Value->H):
  ReturnsInHanded {} Tryz.checked os 7 .any (fun w args=>(Rows.recordRewritesSpec.pre enc Tryz.prog Tryz.f7 [] false w args/\laidMetH Tryz.prog Rows.recordRewritesRow.laid w)/\sizedMet enc Tryz.prog Tryz.f7 (OpenSpec.ofChange Rows.recordRewritesSpec) false w args) (Rows.recordRewritesSpec.post enc Tryz.prog Tryz.f7 false true false false):=by
 refine sF (C:=Tryz.checked) (X:=fun w _=>laidMetH Tryz.prog Rows.recordRewritesRow.laid w) (fun _ _ _ hh h=>h.of_heap hh) Tryz.own started (by kernel_rfl) Tryz.func7
  (ChangeSpec.witness_shaped (enc:=enc) (C:=Tryz.checked) (os:=os) (X:=fun w _=>laidMetH Tryz.prog Rows.recordRewritesRow.laid w) false (World.laidAll Tryz.prog os Rows.recordRewritesRow.laid) #[.string ⟨#[]⟩,aB2,.int .i64 0] 8 (World.laidAll_os _ _ _)
   (World.shaped_of_ZipB (by kernel_rfl) (by kernel_rfl)) (by kernel_rfl) (by kernel_rfl) (by kernel_rfl)
   (by rw[MakeChecks.laidMetH_plain _ _ _ (by kernel_rfl)];exact laidMet_laidAll _ (by kernel_rfl) (by kernel_rfl))) ?_
 intro W base args ds gs before hval0 hW hL hsh;have hval:∀ (j:Nat) t v,Tryz.f7.params[j]?=some t->args[j]?=some v->Value.okWide Tryz.prog W .any base t v:=hval0;have hW':=hW;obtain⟨p,q,hA0,hV,rfl,hfz,hnd⟩:=hW;have hA:DataW.TrodAll enc Tryz.prog W 0 (fun _=>true) true Tryz.f7.params.toList args.toList ds p:=hA0
 obtain⟨rfl,rfl⟩:=trodVars_none hV;obtain⟨avs,h1,h2,h3,h4⟩:=xY (m:=7) hA (fun j t v a b=>hval j t v (by simpa using a) (by simpa using b)) (by
  have:Tryz.f7.params.toList.all (zH Tryz.prog 7)=true:=by kernel_rfl
  exact fun t ht=>aRl.1 this t ht)
 rw[Tryz.params7] at h3
 match avs,h3 with
 | [b0,b1,b2],h3=>
  obtain⟨k0,k1,k2,_⟩:=h3;obtain⟨s,rfl,hs,hsl⟩:=aB7 (m:=6) k0;obtain⟨r,rfl,hr⟩:=Sf (m:=0) k1;obtain⟨n,rfl,hn⟩:=L0 (m:=6) k2;have hgl:dY (gT W) GF:=aGS hL;have hq:=aNj (O3 (G:=GF) aJT s hs hsl r (fun a ha=>⟨(hr.at' a ha).nm,(hr.at' a ha).va⟩) hr.ln n)
  refine (Em hq hgl ⟨by simpa using h1,fun i av v a b=>h2 i av v a (by simpa using b)⟩).mono fun e W' ⟨he,hb⟩=>?_
  subst he;rw[Tryz.params7] at h4
  match ds,h4 with
  | [d0,d1,d2],_=>
   exact⟨_,rfl,En (tb:=4) Tryz.laidOut (by
    have:Tryz.f7.params.toList.all (fun t=>Tryz.prog.readableRec t&&decide (t < Tryz.prog.types.size))=true:=by kernel_rfl
    intro t ht;have:=aRl.1 this t ht;rw[aQp,decide_eq_true_eq] at this;exact this) rfl rfl Tryz.underlying4 hW' rfl hb⟩
theorem bY{a b:Bool}(h1:a=true)(h2:b=true):(a&&b)=true:=by rw[h1,h2];rfl
theorem aPg:(Rows.recordRewritesRow.wf (OpenSpec.ofChange Rows.recordRewritesSpec))=true:=by kernel_rfl
theorem aPh:(laidOutB Tryz.pinned.checked.prog)=true:=by kernel_rfl
theorem aPi:(mapsRowed Tryz.pinned.checked.prog)=true:=by kernel_rfl
theorem aPj:(Tryz.f7.params.all (Tryz.pinned.checked.prog.readableRec ·))=true:=by kernel_rfl
theorem aPk:(namedTie Tryz.pinned.checked.prog Rows.recordRewritesRow.named Rows.recordRewritesSpec.vars)=true:=by kernel_rfl
theorem aPl:((Rows.recordRewritesRow.stops==[]))=true:=by kernel_rfl
theorem aPm:((Tryz.pinned.checked.prog.stops==[]))=true:=by kernel_rfl
theorem aPn:((Rows.recordRewritesRow.knobs==[]))=true:=by kernel_rfl
theorem aPo:((Tryz.pinned.checked.prog.stopKnobs==[]))=true:=by kernel_rfl
theorem aPp:((Rows.recordRewritesRow.inPlace==Tryz.pinned.checked.prog.inPlace 7))=true:=by kernel_rfl
theorem aNl:((Rows.recordRewritesRow.unfollowed==Tryz.pinned.checked.prog.unfollowed 7))=true:=by kernel_rfl
theorem aNm:((Rows.recordRewritesRow.recurses==Tryz.pinned.checked.prog.recurses 7))=true:=by kernel_rfl
theorem aNn:((Rows.recordRewritesRow.named==Tryz.pinned.checked.prog.varsNamed 7))=true:=by kernel_rfl
theorem aNo:((Rows.recordRewritesRow.maps==(Tryz.f7.params.toList++Rows.recordRewritesSpec.plain.varTypes Tryz.pinned.checked.prog).any (Tryz.pinned.checked.prog.mapsRec ·)))=true:=by kernel_rfl
theorem aNp:((Rows.recordRewritesRow.ifaces==(Tryz.f7.params.toList++Rows.recordRewritesSpec.plain.varTypes Tryz.pinned.checked.prog).any (Tryz.pinned.checked.prog.ifacesRec ·)))=true:=by kernel_rfl
theorem aNq:((Rows.recordRewritesRow.mapsOut==Tryz.pinned.checked.prog.mapsAmong Tryz.f7.resultTypes.toList))=true:=by kernel_rfl
theorem aNr:((Rows.recordRewritesRow.loops==(Tryz.f7.params.toList++Rows.recordRewritesSpec.plain.varTypes Tryz.pinned.checked.prog).any (Tryz.pinned.checked.prog.loopsFrom ·)))=true:=by kernel_rfl
theorem aNs:((Rows.recordRewritesRow.wideKeys==(Tryz.f7.params.toList++Rows.recordRewritesSpec.plain.varTypes Tryz.pinned.checked.prog++Tryz.f7.resultTypes.toList).any (Tryz.pinned.checked.prog.wideKeysFrom ·)))=true:=by kernel_rfl
theorem aNt:(Rows.recordRewritesSpec.vars.all (Tryz.pinned.checked.prog.varReadable ·))=true:=by kernel_rfl
theorem aNu:(Tryz.f7.resultTypes.all (fun t=>Tryz.pinned.checked.prog.readableRec t&&decide (t < Tryz.pinned.checked.prog.types.size)))=true:=by kernel_rfl
theorem aNv:((Rows.recordRewritesRow.ifacesOut==Tryz.f7.resultTypes.toList.any (Tryz.pinned.checked.prog.ifacesRec ·)))=true:=by kernel_rfl
theorem aNw:((Rows.recordRewritesRow.loopsOut==Tryz.f7.resultTypes.toList.any (Tryz.pinned.checked.prog.loopsFrom ·)))=true:=by kernel_rfl
theorem aNx:((Rows.recordRewritesRow.plainKeys==Tryz.pinned.checked.prog.plainKeys))=true:=by kernel_rfl
theorem aNy:(Rows.recordRewritesRow.shortTexts.isNone)=true:=by kernel_rfl
theorem aNz:(Tryz.pinned.checked.prog.stopsHeard)=true:=by kernel_rfl
theorem aNA:(Tryz.pinned.checked.prog.mayEnter)=true:=by kernel_rfl
theorem aNB:((Rows.recordRewritesRow.lifted==Tryz.pinned.checked.prog.liftsFinal))=true:=by kernel_rfl
theorem aNC:((Tryz.pinned.checked.prog.make==some Rows.recordRewritesRow.make))=true:=by kernel_rfl
theorem aND:((Rows.recordRewritesRow.kinds==(if Rows.recordRewritesRow.domain.isEmpty then [] else Tryz.f7.params.toList.map fun t=>match Tryz.pinned.checked.prog.underlying t with | some (.int k)=>some k | _=>none)))=true:=by kernel_rfl
theorem aNE:((Rows.recordRewritesRow.pinned==Rows.recordRewritesRow.pinnedBy))=true:=by kernel_rfl
theorem aNF:((Rows.recordRewritesRow.veiled==(Tryz.f7.params.toList++Rows.recordRewritesSpec.plain.varTypes Tryz.pinned.checked.prog++Tryz.f7.resultTypes.toList).any (Tryz.pinned.checked.prog.veiledRec ·)))=true:=by kernel_rfl
theorem aNG:(Rows.recordRewritesRow.veiledFits Tryz.pinned.checked.prog Tryz.f7.params.toList (Tryz.f7.params.toList++Rows.recordRewritesSpec.plain.varTypes Tryz.pinned.checked.prog++Tryz.f7.resultTypes.toList))=true:=by kernel_rfl
theorem aCa:joinedFacts Tryz.pinned.checked.prog 7 Tryz.f7 Rows.recordRewritesSpec Rows.recordRewritesRow=true:=(bY (bY (bY (bY (bY (bY (bY (bY (bY (bY (bY (bY (bY (bY (bY (bY (bY (bY (bY (bY (bY (bY (bY (bY (bY (bY (bY (bY (bY (bY (bY aPg aPh) aPi) aPj) aPk) aPl) aPm) aPn) aPo) aPp) aNl) aNm) aNn) aNo) aNp) aNq) aNr) aNs) aNt) aNu) aNv) aNw) aNx) aNy) aNz) aNA) aNB) aNC) aND) aNE) aNF) aNG)
theorem tH:Rows.RecordRewritesSaid:=
 OpenClaim.holds_of_wide 7 Tryz.f7 rfl rfl rfl rfl rfl rfl rfl ⟨rfl,rfl,rfl,rfl,rfl⟩ rfl rfl rfl rfl rfl (by kernel_rfl) Tryz.func7 aCa
  (of_decide_eq_true (by kernel_rfl)) (by unfold Func.isWrapper;first | (rw[if_pos (by decide +kernel)];kernel_rfl) | (rw[if_neg (by decide +kernel)];exact⟨rfl,rfl⟩))
  (fun os started H enc _=>qS os started H enc)
theorem sI(f:FuncId)(fn:Func)(hf:Tryz.pinned.checked.prog.funcNamed "depository/depositorylaw09.RecordRewrites"=some f)(hfn:Tryz.pinned.checked.prog.funcs[f]?=some fn):
  true=Tryz.pinned.checked.prog.looks []/\∀ (j:Nat) t,fn.params[j]?=some t->Tryz.pinned.checked.prog.wantsStandIn t=false:=by
 obtain rfl:f=7:=Option.some.inj ((show Tryz.prog.funcNamed "depository/depositorylaw09.RecordRewrites"=some 7 by kernel_rfl).symm.trans hf) |>.symm
 obtain rfl:fn=Tryz.f7:=(Option.some.inj (Tryz.func7.symm.trans hfn)).symm;refine⟨by kernel_rfl,fun j t ht=>?_⟩
 have hall:Tryz.f7.params.toList.all (fun t=>!Tryz.prog.wantsStandIn t)=true:=by kernel_rfl
 have:=aRl.1 hall t (by simpa using aRE ht);have e:Tryz.prog.wantsStandIn t=false:=by simpa using this
 exact e
theorem recordRewrites_holds:Rows.RecordRewritesCardSaid:=
 Claim7.holds_tied_plain_at .later [] _ _ _ _ tH (fun _ h=>by cases h) (by kernel_rfl) (fun _ h=>by cases h) recordRewrites_row_tie rfl ⟨rfl,rfl⟩ (by kernel_rfl) rfl sI (by kernel_rfl)
end Go.Proofs.YtcplecjhmnblpaaGreatDoor
