/- TableWrites returns true for every input, and each argument reads afterwards as it read before; the variables that the row lists are laid by the program's text. Conditions: none. -/
import Derived.Test.YtalhnjjchkmfeabGreatDoorRx
import Derived.Test.YtalhnjjchkmfeabGreatDoorYw
namespace Go.Proofs.YtalhnjjchkmfeabGreatDoor
set_option linter.unusedSimpArgs false
set_option linter.unusedVariables false
set_option maxRecDepth 4000
variable {G:aE}{bb:Bool}
open Go.ChangeShapes Go.WideShapes Go.ChangeAt Go.RowKit
set_option maxRecDepth 100000 in
theorem Cl(os:Os)(d:os.Started)(H:Type)(enc:TypeId×Value->H):ReturnsInHanded {} Tryz.checked os 3 .any (fun w c=>(Rows.tableWritesSpec.pre enc Tryz.prog Tryz.f3 [] false w c/\laidMetH Tryz.prog Rows.tableWritesRow.laid w)/\sizedMet enc Tryz.prog Tryz.f3 (OpenSpec.ofChange Rows.tableWritesSpec) false w c) (Rows.tableWritesSpec.post enc Tryz.prog Tryz.f3 false true false false):=by
 refine K4 (C:=Tryz.checked) (X:=fun w _=>laidMetH Tryz.prog Rows.tableWritesRow.laid w) (fun _ _ _ O h=>h.of_heap O) Tryz.own d (by kernel_rfl) Tryz.func3
  (ChangeSpec.witness_shaped (enc:=enc) (C:=Tryz.checked) (os:=os) (X:=fun w _=>laidMetH Tryz.prog Rows.tableWritesRow.laid w) false (World.laidAll Tryz.prog os Rows.tableWritesRow.laid) #[.string ⟨#[]⟩,.int .i64 0,aRx] 8 (World.laidAll_os _ _ _)
   (World.shaped_of_ZipB (by kernel_rfl) (by kernel_rfl)) (by kernel_rfl) (by kernel_rfl) (by kernel_rfl)
   (by rw[MakeChecks.laidMetH_plain _ _ _ (by kernel_rfl)];exact laidMet_laidAll _ (by kernel_rfl) (by kernel_rfl))) ?_
 intro W g c A gs l f B J S;have k:∀(j:Nat) t v,Tryz.f3.params[j]?=some t->c[j]?=some v->Value.okWide Tryz.prog W .any g t v:=f;have u:=B;obtain⟨p,q,o,K,rfl,N,P⟩:=B;have I:DataW.TrodAll enc Tryz.prog W 0 (fun _=>true) true Tryz.f3.params.toList c.toList A p:=o
 obtain⟨rfl,rfl⟩:=trodVars_none K;obtain⟨n,E,F,h3,h4⟩:=Ns (m:=7) I (fun j t v a b=>k j t v (by simpa using a) (by simpa using b)) (by
  have:Tryz.f3.params.toList.all (K2 Tryz.prog 7)=true:=by kernel_rfl
  exact fun t z=>bAr.1 this t z)
 rw[Tryz.params3] at h3
 match n,h3 with
 |[Z,b1,b2],h3=>
  obtain⟨k0,U,V,_⟩:=h3;obtain⟨s,rfl,R,T⟩:=aIu (m:=6) k0;obtain⟨m,rfl,hm⟩:=aIv (m:=6) U;obtain⟨r,rfl,y⟩:=aMW (m:=0) V;have x:fZ (jE W) GF:=aVN J;have Q:=qcW (aIK (bb:=true) aVM aXR s R m r (fun a D=>⟨(y.at' a D).nm,(y.at' a D).va⟩) y.ln)
  refine (aBF Q x ⟨by simpa using E,fun i av v a b=>F i av v a (by simpa using b)⟩).mono fun e Y ⟨M,L⟩=>?_
  subst M;rw[Tryz.params3] at h4
  match A,h4 with
  |[d0,d1,d2],_=>
   exact⟨_,rfl,aBG (tb:=4) Tryz.laidOut (by
    have:Tryz.f3.params.toList.all (fun t=>Tryz.prog.readableRec t&&decide (t < Tryz.prog.types.size))=true:=by kernel_rfl
    intro t z;have:=bAr.1 this t z;rw[aZq,decide_eq_true_eq] at this;exact this) rfl rfl Tryz.underlying4 u rfl L⟩
theorem gW{a b:Bool}(c:a=true)(d:b=true):(a&&b)=true:=by rw[c,d];rfl
theorem aXS:(Rows.tableWritesRow.wf (OpenSpec.ofChange Rows.tableWritesSpec))=true:=by kernel_rfl
theorem aXT:(laidOutB Tryz.pinned.checked.prog)=true:=by kernel_rfl
theorem aXU:(mapsRowed Tryz.pinned.checked.prog)=true:=by kernel_rfl
theorem aXV:(Tryz.f3.params.all (Tryz.pinned.checked.prog.readableRec ·))=true:=by kernel_rfl
theorem aXW:(namedTie Tryz.pinned.checked.prog Rows.tableWritesRow.named Rows.tableWritesSpec.vars)=true:=by kernel_rfl
theorem aXX:((Rows.tableWritesRow.stops==[]))=true:=by kernel_rfl
theorem aXY:((Tryz.pinned.checked.prog.stops==[]))=true:=by kernel_rfl
theorem aXZ:((Rows.tableWritesRow.knobs==[]))=true:=by kernel_rfl
theorem aX0:((Tryz.pinned.checked.prog.stopKnobs==[]))=true:=by kernel_rfl
theorem aX1:((Rows.tableWritesRow.inPlace==Tryz.pinned.checked.prog.inPlace 3))=true:=by kernel_rfl
theorem aVY:((Rows.tableWritesRow.unfollowed==Tryz.pinned.checked.prog.unfollowed 3))=true:=by kernel_rfl
theorem aVZ:((Rows.tableWritesRow.recurses==Tryz.pinned.checked.prog.recurses 3))=true:=by kernel_rfl
theorem aV0:((Rows.tableWritesRow.named==Tryz.pinned.checked.prog.varsNamed 3))=true:=by kernel_rfl
theorem aV1:((Rows.tableWritesRow.maps==(Tryz.f3.params.toList++Rows.tableWritesSpec.plain.varTypes Tryz.pinned.checked.prog).any (Tryz.pinned.checked.prog.mapsRec ·)))=true:=by kernel_rfl
theorem aV2:((Rows.tableWritesRow.ifaces==(Tryz.f3.params.toList++Rows.tableWritesSpec.plain.varTypes Tryz.pinned.checked.prog).any (Tryz.pinned.checked.prog.ifacesRec ·)))=true:=by kernel_rfl
theorem aV3:((Rows.tableWritesRow.mapsOut==Tryz.pinned.checked.prog.mapsAmong Tryz.f3.resultTypes.toList))=true:=by kernel_rfl
theorem aV4:((Rows.tableWritesRow.loops==(Tryz.f3.params.toList++Rows.tableWritesSpec.plain.varTypes Tryz.pinned.checked.prog).any (Tryz.pinned.checked.prog.loopsFrom ·)))=true:=by kernel_rfl
theorem aV5:((Rows.tableWritesRow.wideKeys==(Tryz.f3.params.toList++Rows.tableWritesSpec.plain.varTypes Tryz.pinned.checked.prog++Tryz.f3.resultTypes.toList).any (Tryz.pinned.checked.prog.wideKeysFrom ·)))=true:=by kernel_rfl
theorem aV6:(Rows.tableWritesSpec.vars.all (Tryz.pinned.checked.prog.varReadable ·))=true:=by kernel_rfl
theorem aV7:(Tryz.f3.resultTypes.all (fun t=>Tryz.pinned.checked.prog.readableRec t&&decide (t<Tryz.pinned.checked.prog.types.size)))=true:=by kernel_rfl
theorem aV8:((Rows.tableWritesRow.ifacesOut==Tryz.f3.resultTypes.toList.any (Tryz.pinned.checked.prog.ifacesRec ·)))=true:=by kernel_rfl
theorem aV9:((Rows.tableWritesRow.loopsOut==Tryz.f3.resultTypes.toList.any (Tryz.pinned.checked.prog.loopsFrom ·)))=true:=by kernel_rfl
theorem aWa:((Rows.tableWritesRow.plainKeys==Tryz.pinned.checked.prog.plainKeys))=true:=by kernel_rfl
theorem aWb:(Rows.tableWritesRow.shortTexts.isNone)=true:=by kernel_rfl
theorem aWc:(Tryz.pinned.checked.prog.stopsHeard)=true:=by kernel_rfl
theorem aWd:(Tryz.pinned.checked.prog.mayEnter)=true:=by kernel_rfl
theorem aWe:((Rows.tableWritesRow.lifted==Tryz.pinned.checked.prog.liftsFinal))=true:=by kernel_rfl
theorem aWf:((Tryz.pinned.checked.prog.make==some Rows.tableWritesRow.make))=true:=by kernel_rfl
theorem aWg:((Rows.tableWritesRow.kinds==(if Rows.tableWritesRow.domain.isEmpty then [] else Tryz.f3.params.toList.map fun t=>match Tryz.pinned.checked.prog.underlying t with|some (.int k)=>some k|_=>none)))=true:=by kernel_rfl
theorem aWh:((Rows.tableWritesRow.pinned==Rows.tableWritesRow.pinnedBy))=true:=by kernel_rfl
theorem aWi:((Rows.tableWritesRow.veiled==(Tryz.f3.params.toList++Rows.tableWritesSpec.plain.varTypes Tryz.pinned.checked.prog++Tryz.f3.resultTypes.toList).any (Tryz.pinned.checked.prog.veiledRec ·)))=true:=by kernel_rfl
theorem aWj:(Rows.tableWritesRow.veiledFits Tryz.pinned.checked.prog Tryz.f3.params.toList (Tryz.f3.params.toList++Rows.tableWritesSpec.plain.varTypes Tryz.pinned.checked.prog++Tryz.f3.resultTypes.toList))=true:=by kernel_rfl
theorem aIM:joinedFacts Tryz.pinned.checked.prog 3 Tryz.f3 Rows.tableWritesSpec Rows.tableWritesRow=true:=(gW (gW (gW (gW (gW (gW (gW (gW (gW (gW (gW (gW (gW (gW (gW (gW (gW (gW (gW (gW (gW (gW (gW (gW (gW (gW (gW (gW (gW (gW (gW aXS aXT) aXU) aXV) aXW) aXX) aXY) aXZ) aX0) aX1) aVY) aVZ) aV0) aV1) aV2) aV3) aV4) aV5) aV6) aV7) aV8) aV9) aWa) aWb) aWc) aWd) aWe) aWf) aWg) aWh) aWi) aWj)
theorem Fr:Rows.TableWritesSaid:=
 OpenClaim.holds_of_wide 3 Tryz.f3 rfl rfl rfl rfl rfl rfl rfl ⟨rfl,rfl,rfl,rfl,rfl⟩ rfl rfl rfl rfl rfl (by kernel_rfl) Tryz.func3 aIM
  (of_decide_eq_true (by kernel_rfl)) (by unfold Func.isWrapper;first|(rw[if_pos (by decide +kernel)];kernel_rfl)|(rw[if_neg (by decide +kernel)];exact⟨rfl,rfl⟩))
  (fun os a H enc _=>Cl os a H enc)
theorem El(f:FuncId)(b:Func)(hf:Tryz.pinned.checked.prog.funcNamed "depository/depositorylaw11.TableWrites"=some f)(c:Tryz.pinned.checked.prog.funcs[f]?=some b):false=Tryz.pinned.checked.prog.looks []/\∀(j:Nat) t,b.params[j]?=some t->Tryz.pinned.checked.prog.wantsStandIn t=false:=by
 obtain rfl:f=3:=Option.some.inj ((show Tryz.prog.funcNamed "depository/depositorylaw11.TableWrites"=some 3 by kernel_rfl).symm.trans hf) |>.symm
 obtain rfl:b=Tryz.f3:=(Option.some.inj (Tryz.func3.symm.trans c)).symm;refine⟨by kernel_rfl,fun j t d=>?_⟩
 have a:Tryz.f3.params.toList.all (fun t=>!Tryz.prog.wantsStandIn t)=true:=by kernel_rfl
 have:=bAr.1 a t (by simpa using Array.mem_of_getElem? d);have e:Tryz.prog.wantsStandIn t=false:=by simpa using this
 exact e
theorem tableWrites_holds:Rows.TableWritesCardSaid:=
 Claim7.holds_tied_plain_at .later [] _ _ _ _ Fr (fun _ h=>by cases h) (by kernel_rfl) (fun _ h=>by cases h) tableWrites_row_tie rfl ⟨rfl,rfl⟩ (by kernel_rfl) rfl El Fp
