/- TableBoots returns true for every input, and each argument reads afterwards as it read before; the variables that the row lists are laid by the program's text. Conditions: none. -/
import Derived.Test.YthepfneloomngaaGreatDoorPi
namespace Go.Proofs.YthepfneloomngaaGreatDoor
set_option linter.unusedSimpArgs false
set_option linter.unusedVariables false
set_option maxRecDepth 4000
variable {G:aF} {bb:Bool}
open Go.ChangeShapes Go.WideShapes Go.ChangeAt Go.RowKit
set_option maxRecDepth 100000 in
theorem A9(os:Os)(started:os.Started)(H:Type)(enc:TypeId × Value->H):
  ReturnsInHanded {} Tryz.checked os 3 .any (fun w args=>(Rows.tableBootsSpec.pre enc Tryz.prog Tryz.f3 [] false w args/\laidMetH Tryz.prog Rows.tableBootsRow.laid w)/\sizedMet enc Tryz.prog Tryz.f3 (OpenSpec.ofChange Rows.tableBootsSpec) false w args) (Rows.tableBootsSpec.post enc Tryz.prog Tryz.f3 false true false false):=by
 refine sO (C:=Tryz.checked) (X:=fun w _=>laidMetH Tryz.prog Rows.tableBootsRow.laid w) (fun _ _ _ hh h=>h.of_heap hh) Tryz.own started (by kernel_rfl) Tryz.func3
  (ChangeSpec.witness_shaped (enc:=enc) (C:=Tryz.checked) (os:=os) (X:=fun w _=>laidMetH Tryz.prog Rows.tableBootsRow.laid w) false (World.laidAll Tryz.prog os Rows.tableBootsRow.laid) #[X0,.string ⟨#[]⟩] 8 (World.laidAll_os _ _ _)
   (World.shaped_of_ZipB (by kernel_rfl) (by kernel_rfl)) (by kernel_rfl) (by kernel_rfl) (by kernel_rfl)
   (by rw[MakeChecks.laidMetH_plain _ _ _ (by kernel_rfl)];exact laidMet_laidAll _ (by kernel_rfl) (by kernel_rfl))) ?_
 intro W base args ds gs before hval0 hW hL hsh;have hval:∀ (j:Nat) t v,Tryz.f3.params[j]?=some t->args[j]?=some v->Value.okWide Tryz.prog W .any base t v:=hval0;have hW':=hW;obtain⟨p,q,hA0,hV,rfl,hfz,hnd⟩:=hW;have hA:DataW.TrodAll enc Tryz.prog W 0 (fun _=>true) true Tryz.f3.params.toList args.toList ds p:=hA0
 obtain⟨rfl,rfl⟩:=trodVars_none hV;obtain⟨avs,h1,h2,h3,h4⟩:=Cn (m:=7) hA (fun j t v a b=>hval j t v (by simpa using a) (by simpa using b)) (by
  have:Tryz.f3.params.toList.all (Dy Tryz.prog 7)=true:=by kernel_rfl
  exact fun t ht=>List.all_eq_true.1 this t ht)
 rw[Tryz.params3] at h3
 match avs,h3 with
 | [b0,b1],h3=>
  obtain⟨k0,k1,_⟩:=h3;obtain⟨x,rfl⟩:=Rc (m:=5) k0;obtain⟨s,rfl,hs,hsl⟩:=Rd (m:=6) k1;have hgl:dS (gG W) GF:=aK3 hL;have hq:=aSA (aJ8 (G:=GF) nX (aFh (by decide)) aK4 x s hs);refine (I8 hq hgl ⟨by simpa using h1,fun i av v a b=>h2 i av v a (by simpa using b)⟩).mono fun e W' ⟨he,hb⟩=>?_
  subst he;rw[Tryz.params3] at h4
  match ds,h4 with
  | [d0,d1],_=>
   exact⟨_,rfl,I9 (tb:=4) Tryz.laidOut (by
    have:Tryz.f3.params.toList.all (fun t=>Tryz.prog.readableRec t&&decide (t < Tryz.prog.types.size))=true:=by kernel_rfl
    intro t ht;have:=List.all_eq_true.1 this t ht;rw[aWs,decide_eq_true_eq] at this;exact this) rfl rfl Tryz.underlying4 hW' rfl hb⟩
theorem bW{a b:Bool}(h1:a=true)(h2:b=true):(a&&b)=true:=by rw[h1,h2];rfl
theorem aUO:(Rows.tableBootsRow.wf (OpenSpec.ofChange Rows.tableBootsSpec))=true:=by kernel_rfl
theorem aUP:(laidOutB Tryz.pinned.checked.prog)=true:=by kernel_rfl
theorem aUQ:(mapsRowed Tryz.pinned.checked.prog)=true:=by kernel_rfl
theorem aUR:(Tryz.f3.params.all (Tryz.pinned.checked.prog.readableRec ·))=true:=by kernel_rfl
theorem aUS:(namedTie Tryz.pinned.checked.prog Rows.tableBootsRow.named Rows.tableBootsSpec.vars)=true:=by kernel_rfl
theorem aUT:((Rows.tableBootsRow.stops==[]))=true:=by kernel_rfl
theorem aUU:((Tryz.pinned.checked.prog.stops==[]))=true:=by kernel_rfl
theorem aUV:((Rows.tableBootsRow.knobs==[]))=true:=by kernel_rfl
theorem aUW:((Tryz.pinned.checked.prog.stopKnobs==[]))=true:=by kernel_rfl
theorem aUX:((Rows.tableBootsRow.inPlace==Tryz.pinned.checked.prog.inPlace 3))=true:=by kernel_rfl
theorem aSB:((Rows.tableBootsRow.unfollowed==Tryz.pinned.checked.prog.unfollowed 3))=true:=by kernel_rfl
theorem aSC:((Rows.tableBootsRow.recurses==Tryz.pinned.checked.prog.recurses 3))=true:=by kernel_rfl
theorem aSD:((Rows.tableBootsRow.named==Tryz.pinned.checked.prog.varsNamed 3))=true:=by kernel_rfl
theorem aSE:((Rows.tableBootsRow.maps==(Tryz.f3.params.toList++Rows.tableBootsSpec.plain.varTypes Tryz.pinned.checked.prog).any (Tryz.pinned.checked.prog.mapsRec ·)))=true:=by kernel_rfl
theorem aSF:((Rows.tableBootsRow.ifaces==(Tryz.f3.params.toList++Rows.tableBootsSpec.plain.varTypes Tryz.pinned.checked.prog).any (Tryz.pinned.checked.prog.ifacesRec ·)))=true:=by kernel_rfl
theorem aSG:((Rows.tableBootsRow.mapsOut==Tryz.pinned.checked.prog.mapsAmong Tryz.f3.resultTypes.toList))=true:=by kernel_rfl
theorem aSH:((Rows.tableBootsRow.loops==(Tryz.f3.params.toList++Rows.tableBootsSpec.plain.varTypes Tryz.pinned.checked.prog).any (Tryz.pinned.checked.prog.loopsFrom ·)))=true:=by kernel_rfl
theorem aSI:((Rows.tableBootsRow.wideKeys==(Tryz.f3.params.toList++Rows.tableBootsSpec.plain.varTypes Tryz.pinned.checked.prog++Tryz.f3.resultTypes.toList).any (Tryz.pinned.checked.prog.wideKeysFrom ·)))=true:=by kernel_rfl
theorem aSJ:(Rows.tableBootsSpec.vars.all (Tryz.pinned.checked.prog.varReadable ·))=true:=by kernel_rfl
theorem aSK:(Tryz.f3.resultTypes.all (fun t=>Tryz.pinned.checked.prog.readableRec t&&decide (t < Tryz.pinned.checked.prog.types.size)))=true:=by kernel_rfl
theorem aSL:((Rows.tableBootsRow.ifacesOut==Tryz.f3.resultTypes.toList.any (Tryz.pinned.checked.prog.ifacesRec ·)))=true:=by kernel_rfl
theorem aSM:((Rows.tableBootsRow.loopsOut==Tryz.f3.resultTypes.toList.any (Tryz.pinned.checked.prog.loopsFrom ·)))=true:=by kernel_rfl
theorem aSN:((Rows.tableBootsRow.plainKeys==Tryz.pinned.checked.prog.plainKeys))=true:=by kernel_rfl
theorem aSO:(Rows.tableBootsRow.shortTexts.isNone)=true:=by kernel_rfl
theorem aSP:(Tryz.pinned.checked.prog.stopsHeard)=true:=by kernel_rfl
theorem aSQ:(Tryz.pinned.checked.prog.mayEnter)=true:=by kernel_rfl
theorem aSR:((Rows.tableBootsRow.lifted==Tryz.pinned.checked.prog.liftsFinal))=true:=by kernel_rfl
theorem aSS:((Tryz.pinned.checked.prog.make==some Rows.tableBootsRow.make))=true:=by kernel_rfl
theorem aST:((Rows.tableBootsRow.kinds==(if Rows.tableBootsRow.domain.isEmpty then [] else Tryz.f3.params.toList.map fun t=>match Tryz.pinned.checked.prog.underlying t with | some (.int k)=>some k | _=>none)))=true:=by kernel_rfl
theorem aSU:((Rows.tableBootsRow.pinned==Rows.tableBootsRow.pinnedBy))=true:=by kernel_rfl
theorem aSV:((Rows.tableBootsRow.veiled==(Tryz.f3.params.toList++Rows.tableBootsSpec.plain.varTypes Tryz.pinned.checked.prog++Tryz.f3.resultTypes.toList).any (Tryz.pinned.checked.prog.veiledRec ·)))=true:=by kernel_rfl
theorem aSW:(Rows.tableBootsRow.veiledFits Tryz.pinned.checked.prog Tryz.f3.params.toList (Tryz.f3.params.toList++Rows.tableBootsSpec.plain.varTypes Tryz.pinned.checked.prog++Tryz.f3.resultTypes.toList))=true:=by kernel_rfl
theorem aFP:joinedFacts Tryz.pinned.checked.prog 3 Tryz.f3 Rows.tableBootsSpec Rows.tableBootsRow=true:=(bW (bW (bW (bW (bW (bW (bW (bW (bW (bW (bW (bW (bW (bW (bW (bW (bW (bW (bW (bW (bW (bW (bW (bW (bW (bW (bW (bW (bW (bW (bW aUO aUP) aUQ) aUR) aUS) aUT) aUU) aUV) aUW) aUX) aSB) aSC) aSD) aSE) aSF) aSG) aSH) aSI) aSJ) aSK) aSL) aSM) aSN) aSO) aSP) aSQ) aSR) aSS) aST) aSU) aSV) aSW)
theorem D0:Rows.TableBootsSaid:=
 OpenClaim.holds_of_wide 3 Tryz.f3 rfl rfl rfl rfl rfl rfl rfl ⟨rfl,rfl,rfl,rfl,rfl⟩ rfl rfl rfl rfl rfl (by kernel_rfl) Tryz.func3 aFP
  (of_decide_eq_true (by kernel_rfl)) (by unfold Func.isWrapper;first | (rw[if_pos (by decide +kernel)];kernel_rfl) | (rw[if_neg (by decide +kernel)];exact⟨rfl,rfl⟩))
  (fun os started H enc _=>A9 os started H enc)
theorem Cp(f:FuncId)(fn:Func)(hf:Tryz.pinned.checked.prog.funcNamed "depository/depositorylaw11.TableBoots"=some f)(hfn:Tryz.pinned.checked.prog.funcs[f]?=some fn):
  false=Tryz.pinned.checked.prog.looks []/\∀ (j:Nat) t,fn.params[j]?=some t->Tryz.pinned.checked.prog.wantsStandIn t=false:=by
 obtain rfl:f=3:=Option.some.inj ((show Tryz.prog.funcNamed "depository/depositorylaw11.TableBoots"=some 3 by kernel_rfl).symm.trans hf) |>.symm
 obtain rfl:fn=Tryz.f3:=(Option.some.inj (Tryz.func3.symm.trans hfn)).symm;refine⟨by kernel_rfl,fun j t ht=>?_⟩
 have hall:Tryz.f3.params.toList.all (fun t=>!Tryz.prog.wantsStandIn t)=true:=by kernel_rfl
 have:=List.all_eq_true.1 hall t (by simpa using aXL ht);have e:Tryz.prog.wantsStandIn t=false:=by simpa using this
 exact e
theorem tableBoots_holds:Rows.TableBootsCardSaid:=
 Claim7.holds_tied_plain_at .later [] _ _ _ _ D0 (fun _ h=>by cases h) (by kernel_rfl) (fun _ h=>by cases h) tableBoots_row_tie rfl ⟨rfl,rfl⟩ (by kernel_rfl) rfl Cp Dz
end Go.Proofs.YthepfneloomngaaGreatDoor
