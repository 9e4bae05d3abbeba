/- TableDisks returns true for every input, and each argument reads afterwards as it read before; the variables that the row lists are laid by the program's text. Conditions: none. -/
import Derived.Test.YthepfneloomngaaGreatDoorPi
import Derived.Test.YthepfneloomngaaGreatDoorXn
import Derived.Test.YthepfneloomngaaGreatDoorQo
namespace Go.Proofs.YthepfneloomngaaGreatDoor
set_option linter.unusedSimpArgs false
set_option linter.unusedVariables false
set_option maxRecDepth 4000
variable {G:aF} {bb:Bool}
open Go.ChangeShapes Go.WideShapes Go.ChangeAt Go.RowKit
set_option maxRecDepth 100000 in
theorem Ba(os:Os)(started:os.Started)(H:Type)(enc:TypeId × Value->H):
  ReturnsInHanded {} Tryz.checked os 6 .any (fun w args=>(Rows.tableDisksSpec.pre enc Tryz.prog Tryz.f6 [] false w args/\laidMetH Tryz.prog Rows.tableDisksRow.laid w)/\sizedMet enc Tryz.prog Tryz.f6 (OpenSpec.ofChange Rows.tableDisksSpec) false w args) (Rows.tableDisksSpec.post enc Tryz.prog Tryz.f6 false true false false):=by
 refine sO (C:=Tryz.checked) (X:=fun w _=>laidMetH Tryz.prog Rows.tableDisksRow.laid w) (fun _ _ _ hh h=>h.of_heap hh) Tryz.own started (by kernel_rfl) Tryz.func6
  (ChangeSpec.witness_shaped (enc:=enc) (C:=Tryz.checked) (os:=os) (X:=fun w _=>laidMetH Tryz.prog Rows.tableDisksRow.laid w) false (World.laidAll Tryz.prog os Rows.tableDisksRow.laid) #[.string ⟨#[]⟩,X0] 8 (World.laidAll_os _ _ _)
   (World.shaped_of_ZipB (by kernel_rfl) (by kernel_rfl)) (by kernel_rfl) (by kernel_rfl) (by kernel_rfl)
   (by rw[MakeChecks.laidMetH_plain _ _ _ (by kernel_rfl)];exact laidMet_laidAll _ (by kernel_rfl) (by kernel_rfl))) ?_
 intro W base args ds gs before hval0 hW hL hsh;have hval:∀ (j:Nat) t v,Tryz.f6.params[j]?=some t->args[j]?=some v->Value.okWide Tryz.prog W .any base t v:=hval0;have hW':=hW;obtain⟨p,q,hA0,hV,rfl,hfz,hnd⟩:=hW;have hA:DataW.TrodAll enc Tryz.prog W 0 (fun _=>true) true Tryz.f6.params.toList args.toList ds p:=hA0
 obtain⟨rfl,rfl⟩:=trodVars_none hV;obtain⟨avs,h1,h2,h3,h4⟩:=Cn (m:=7) hA (fun j t v a b=>hval j t v (by simpa using a) (by simpa using b)) (by
  have:Tryz.f6.params.toList.all (Dy Tryz.prog 7)=true:=by kernel_rfl
  exact fun t ht=>List.all_eq_true.1 this t ht)
 rw[Tryz.params6] at h3
 match avs,h3 with
 | [b0,b1],h3=>
  obtain⟨k0,k1,_⟩:=h3;obtain⟨s,rfl,hs,hsl⟩:=Rd (m:=6) k0;obtain⟨x,rfl⟩:=Rc (m:=5) k1;have hgl:dS (gG W) GF:=aK3 hL;have hq:=aSA (aJJ (G:=GF) (aFh (by decide)) aK4 s hs x);refine (I8 hq hgl ⟨by simpa using h1,fun i av v a b=>h2 i av v a (by simpa using b)⟩).mono fun e W' ⟨he,hb⟩=>?_
  subst he;rw[Tryz.params6] at h4
  match ds,h4 with
  | [d0,d1],_=>
   exact⟨_,rfl,I9 (tb:=4) Tryz.laidOut (by
    have:Tryz.f6.params.toList.all (fun t=>Tryz.prog.readableRec t&&decide (t < Tryz.prog.types.size))=true:=by kernel_rfl
    intro t ht;have:=List.all_eq_true.1 this t ht;rw[aWs,decide_eq_true_eq] at this;exact this) rfl rfl Tryz.underlying4 hW' rfl hb⟩
theorem bW{a b:Bool}(h1:a=true)(h2:b=true):(a&&b)=true:=by rw[h1,h2];rfl
theorem aUY:(Rows.tableDisksRow.wf (OpenSpec.ofChange Rows.tableDisksSpec))=true:=by kernel_rfl
theorem aUZ:(laidOutB Tryz.pinned.checked.prog)=true:=by kernel_rfl
theorem aU0:(mapsRowed Tryz.pinned.checked.prog)=true:=by kernel_rfl
theorem aU1:(Tryz.f6.params.all (Tryz.pinned.checked.prog.readableRec ·))=true:=by kernel_rfl
theorem aU2:(namedTie Tryz.pinned.checked.prog Rows.tableDisksRow.named Rows.tableDisksSpec.vars)=true:=by kernel_rfl
theorem aU3:((Rows.tableDisksRow.stops==[]))=true:=by kernel_rfl
theorem aU4:((Tryz.pinned.checked.prog.stops==[]))=true:=by kernel_rfl
theorem aU5:((Rows.tableDisksRow.knobs==[]))=true:=by kernel_rfl
theorem aU6:((Tryz.pinned.checked.prog.stopKnobs==[]))=true:=by kernel_rfl
theorem aU7:((Rows.tableDisksRow.inPlace==Tryz.pinned.checked.prog.inPlace 6))=true:=by kernel_rfl
theorem aSX:((Rows.tableDisksRow.unfollowed==Tryz.pinned.checked.prog.unfollowed 6))=true:=by kernel_rfl
theorem aSY:((Rows.tableDisksRow.recurses==Tryz.pinned.checked.prog.recurses 6))=true:=by kernel_rfl
theorem aSZ:((Rows.tableDisksRow.named==Tryz.pinned.checked.prog.varsNamed 6))=true:=by kernel_rfl
theorem aS0:((Rows.tableDisksRow.maps==(Tryz.f6.params.toList++Rows.tableDisksSpec.plain.varTypes Tryz.pinned.checked.prog).any (Tryz.pinned.checked.prog.mapsRec ·)))=true:=by kernel_rfl
theorem aS1:((Rows.tableDisksRow.ifaces==(Tryz.f6.params.toList++Rows.tableDisksSpec.plain.varTypes Tryz.pinned.checked.prog).any (Tryz.pinned.checked.prog.ifacesRec ·)))=true:=by kernel_rfl
theorem aS2:((Rows.tableDisksRow.mapsOut==Tryz.pinned.checked.prog.mapsAmong Tryz.f6.resultTypes.toList))=true:=by kernel_rfl
theorem aS3:((Rows.tableDisksRow.loops==(Tryz.f6.params.toList++Rows.tableDisksSpec.plain.varTypes Tryz.pinned.checked.prog).any (Tryz.pinned.checked.prog.loopsFrom ·)))=true:=by kernel_rfl
theorem aS4:((Rows.tableDisksRow.wideKeys==(Tryz.f6.params.toList++Rows.tableDisksSpec.plain.varTypes Tryz.pinned.checked.prog++Tryz.f6.resultTypes.toList).any (Tryz.pinned.checked.prog.wideKeysFrom ·)))=true:=by kernel_rfl
theorem aS5:(Rows.tableDisksSpec.vars.all (Tryz.pinned.checked.prog.varReadable ·))=true:=by kernel_rfl
theorem aS6:(Tryz.f6.resultTypes.all (fun t=>Tryz.pinned.checked.prog.readableRec t&&decide (t < Tryz.pinned.checked.prog.types.size)))=true:=by kernel_rfl
theorem aS7:((Rows.tableDisksRow.ifacesOut==Tryz.f6.resultTypes.toList.any (Tryz.pinned.checked.prog.ifacesRec ·)))=true:=by kernel_rfl
theorem aS8:((Rows.tableDisksRow.loopsOut==Tryz.f6.resultTypes.toList.any (Tryz.pinned.checked.prog.loopsFrom ·)))=true:=by kernel_rfl
theorem aS9:((Rows.tableDisksRow.plainKeys==Tryz.pinned.checked.prog.plainKeys))=true:=by kernel_rfl
theorem aTa:(Rows.tableDisksRow.shortTexts.isNone)=true:=by kernel_rfl
theorem aTb:(Tryz.pinned.checked.prog.stopsHeard)=true:=by kernel_rfl
theorem aTc:(Tryz.pinned.checked.prog.mayEnter)=true:=by kernel_rfl
theorem aTd:((Rows.tableDisksRow.lifted==Tryz.pinned.checked.prog.liftsFinal))=true:=by kernel_rfl
theorem aTe:((Tryz.pinned.checked.prog.make==some Rows.tableDisksRow.make))=true:=by kernel_rfl
theorem aTf:((Rows.tableDisksRow.kinds==(if Rows.tableDisksRow.domain.isEmpty then [] else Tryz.f6.params.toList.map fun t=>match Tryz.pinned.checked.prog.underlying t with | some (.int k)=>some k | _=>none)))=true:=by kernel_rfl
theorem aTg:((Rows.tableDisksRow.pinned==Rows.tableDisksRow.pinnedBy))=true:=by kernel_rfl
theorem aTh:((Rows.tableDisksRow.veiled==(Tryz.f6.params.toList++Rows.tableDisksSpec.plain.varTypes Tryz.pinned.checked.prog++Tryz.f6.resultTypes.toList).any (Tryz.pinned.checked.prog.veiledRec ·)))=true:=by kernel_rfl
theorem aTi:(Rows.tableDisksRow.veiledFits Tryz.pinned.checked.prog Tryz.f6.params.toList (Tryz.f6.params.toList++Rows.tableDisksSpec.plain.varTypes Tryz.pinned.checked.prog++Tryz.f6.resultTypes.toList))=true:=by kernel_rfl
theorem aFQ:joinedFacts Tryz.pinned.checked.prog 6 Tryz.f6 Rows.tableDisksSpec Rows.tableDisksRow=true:=(bW (bW (bW (bW (bW (bW (bW (bW (bW (bW (bW (bW (bW (bW (bW (bW (bW (bW (bW (bW (bW (bW (bW (bW (bW (bW (bW (bW (bW (bW (bW aUY aUZ) aU0) aU1) aU2) aU3) aU4) aU5) aU6) aU7) aSX) aSY) aSZ) aS0) aS1) aS2) aS3) aS4) aS5) aS6) aS7) aS8) aS9) aTa) aTb) aTc) aTd) aTe) aTf) aTg) aTh) aTi)
theorem D4:Rows.TableDisksSaid:=
 OpenClaim.holds_of_wide 6 Tryz.f6 rfl rfl rfl rfl rfl rfl rfl ⟨rfl,rfl,rfl,rfl,rfl⟩ rfl rfl rfl rfl rfl (by kernel_rfl) Tryz.func6 aFQ
  (of_decide_eq_true (by kernel_rfl)) (by unfold Func.isWrapper;first | (rw[if_pos (by decide +kernel)];kernel_rfl) | (rw[if_neg (by decide +kernel)];exact⟨rfl,rfl⟩))
  (fun os started H enc _=>Ba os started H enc)
theorem Cq(f:FuncId)(fn:Func)(hf:Tryz.pinned.checked.prog.funcNamed "depository/depositorylaw11.TableDisks"=some f)(hfn:Tryz.pinned.checked.prog.funcs[f]?=some fn):
  false=Tryz.pinned.checked.prog.looks []/\∀ (j:Nat) t,fn.params[j]?=some t->Tryz.pinned.checked.prog.wantsStandIn t=false:=by
 obtain rfl:f=6:=Option.some.inj ((show Tryz.prog.funcNamed "depository/depositorylaw11.TableDisks"=some 6 by kernel_rfl).symm.trans hf) |>.symm
 obtain rfl:fn=Tryz.f6:=(Option.some.inj (Tryz.func6.symm.trans hfn)).symm;refine⟨by kernel_rfl,fun j t ht=>?_⟩
 have hall:Tryz.f6.params.toList.all (fun t=>!Tryz.prog.wantsStandIn t)=true:=by kernel_rfl
 have:=List.all_eq_true.1 hall t (by simpa using aXL ht);have e:Tryz.prog.wantsStandIn t=false:=by simpa using this
 exact e
theorem tableDisks_holds:Rows.TableDisksCardSaid:=
 Claim7.holds_tied_plain_at .later [] _ _ _ _ D4 (fun _ h=>by cases h) (by kernel_rfl) (fun _ h=>by cases h) tableDisks_row_tie rfl ⟨rfl,rfl⟩ (by kernel_rfl) rfl Cq D3
end Go.Proofs.YthepfneloomngaaGreatDoor
