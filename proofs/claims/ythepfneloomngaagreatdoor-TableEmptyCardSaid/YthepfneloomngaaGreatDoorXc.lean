/- TableEmpty returns true for every input, and each argument reads afterwards as it read before; the variables that the row lists are laid by the program's text. Conditions: none. -/
import Derived.Test.YthepfneloomngaaGreatDoorQz
namespace Go.Proofs.YthepfneloomngaaGreatDoor
set_option linter.unusedSimpArgs false
set_option linter.unusedVariables false
set_option maxRecDepth 4000
section
variable {G:aE}{B:aO}
theorem qcU{f:FuncId}{args:List AV}{r:AV}(h:EV GF (Tb (Js GF true)) f args []=some (r,[])):QC Tryz.prog GF f args r:=Qn (K5 (Js GF true)) (aQg fun _=>aB2 aUh) h
theorem aWi{G:aE}:EV G (Tb (Js G true)) 11 [] []=some (vb true,[]):=upU aUj
end
section
variable {G:aE}{bb:Bool}
open Go.ChangeShapes Go.WideShapes Go.ChangeAt Go.RowKit
set_option maxRecDepth 100000 in
theorem Cu(os:Os)(started:os.Started)(H:Type)(enc:TypeId×Value->H):
  ReturnsInHanded {} Tryz.checked os 7 .any (fun w args=>(Rows.tableEmptySpec.pre enc Tryz.prog Tryz.f7 [] false w args/\laidMetH Tryz.prog Rows.tableEmptyRow.laid w)/\sizedMet enc Tryz.prog Tryz.f7 (OpenSpec.ofChange Rows.tableEmptySpec) false w args) (Rows.tableEmptySpec.post enc Tryz.prog Tryz.f7 false true false false):=by
 refine Jq (C:=Tryz.checked) (X:=fun w _=>laidMetH Tryz.prog Rows.tableEmptyRow.laid w) (fun _ _ _ hh h=>h.of_heap hh) Tryz.own started (by kernel_rfl) Tryz.func7
  (ChangeSpec.witness_shaped (enc:=enc) (C:=Tryz.checked) (os:=os) (X:=fun w _=>laidMetH Tryz.prog Rows.tableEmptyRow.laid w) false (World.laidAll Tryz.prog os Rows.tableEmptyRow.laid) #[aLn,.int .i64 0] 8 (World.laidAll_os _ _ _)
   (World.shaped_of_ZipB (by kernel_rfl) (by kernel_rfl)) (by kernel_rfl) (by kernel_rfl) (by kernel_rfl)
   (by rw[MakeChecks.laidMetH_plain _ _ _ (by kernel_rfl)];exact laidMet_laidAll _ (by kernel_rfl) (by kernel_rfl))) ?_
 intro W base args ds gs before hval0 hW hL hsh;have hval:∀(j:Nat) t v,Tryz.f7.params[j]?=some t->args[j]?=some v->Value.okWide Tryz.prog W .any base t v:=hval0;have hW':=hW;obtain⟨p,q,hA0,hV,rfl,hfz,hnd⟩:=hW;have hA:DataW.TrodAll enc Tryz.prog W 0 (fun _=>true) true Tryz.f7.params.toList args.toList ds p:=hA0
 obtain⟨rfl,rfl⟩:=trodVars_none hV;obtain⟨avs,h1,h2,h3,h4⟩:=L4 (m:=7) hA (fun j t v a b=>hval j t v (by simpa using a) (by simpa using b)) (by
  have:Tryz.f7.params.toList.all (Jp Tryz.prog 7)=true:=by kernel_rfl
  exact fun t ht=>aY2.1 this t ht)
 rw[Tryz.params7] at h3
 match avs,h3 with
 |[b0,b1],h3=>
  obtain⟨k0,k1,_⟩:=h3;obtain⟨x,rfl⟩:=aGU (m:=5) k0;obtain⟨m,rfl,hm⟩:=aGV (m:=6) k1;have hgl:eU (iB W) GF:=aUi hL;have hq:=qcU (aLx (bb:=true) aUh aWi x m);refine (aAo hq hgl ⟨by simpa using h1,fun i av v a b=>h2 i av v a (by simpa using b)⟩).mono fun e W' ⟨he,hb⟩=>?_
  subst he;rw[Tryz.params7] at h4
  match ds,h4 with
  |[d0,d1],_=>
   exact⟨_,rfl,aAp (tb:=4) Tryz.laidOut (by
    have:Tryz.f7.params.toList.all (fun t=>Tryz.prog.readableRec t&&decide (t < Tryz.prog.types.size))=true:=by kernel_rfl
    intro t ht;have:=aY2.1 this t ht;rw[aXQ,decide_eq_true_eq] at this;exact this) rfl rfl Tryz.underlying4 hW' rfl hb⟩
theorem gA{a b:Bool}(h1:a=true)(h2:b=true):(a&&b)=true:=by rw[h1,h2];rfl
theorem aWj:(Rows.tableEmptyRow.wf (OpenSpec.ofChange Rows.tableEmptySpec))=true:=by kernel_rfl
theorem aWk:(laidOutB Tryz.pinned.checked.prog)=true:=by kernel_rfl
theorem aWl:(mapsRowed Tryz.pinned.checked.prog)=true:=by kernel_rfl
theorem aWm:(Tryz.f7.params.all (Tryz.pinned.checked.prog.readableRec ·))=true:=by kernel_rfl
theorem aWn:(namedTie Tryz.pinned.checked.prog Rows.tableEmptyRow.named Rows.tableEmptySpec.vars)=true:=by kernel_rfl
theorem aWo:((Rows.tableEmptyRow.stops==[]))=true:=by kernel_rfl
theorem aWp:((Tryz.pinned.checked.prog.stops==[]))=true:=by kernel_rfl
theorem aWq:((Rows.tableEmptyRow.knobs==[]))=true:=by kernel_rfl
theorem aWr:((Tryz.pinned.checked.prog.stopKnobs==[]))=true:=by kernel_rfl
theorem aWs:((Rows.tableEmptyRow.inPlace==Tryz.pinned.checked.prog.inPlace 7))=true:=by kernel_rfl
theorem aUl:((Rows.tableEmptyRow.unfollowed==Tryz.pinned.checked.prog.unfollowed 7))=true:=by kernel_rfl
theorem aUm:((Rows.tableEmptyRow.recurses==Tryz.pinned.checked.prog.recurses 7))=true:=by kernel_rfl
theorem aUn:((Rows.tableEmptyRow.named==Tryz.pinned.checked.prog.varsNamed 7))=true:=by kernel_rfl
theorem aUo:((Rows.tableEmptyRow.maps==(Tryz.f7.params.toList++Rows.tableEmptySpec.plain.varTypes Tryz.pinned.checked.prog).any (Tryz.pinned.checked.prog.mapsRec ·)))=true:=by kernel_rfl
theorem aUp:((Rows.tableEmptyRow.ifaces==(Tryz.f7.params.toList++Rows.tableEmptySpec.plain.varTypes Tryz.pinned.checked.prog).any (Tryz.pinned.checked.prog.ifacesRec ·)))=true:=by kernel_rfl
theorem aUq:((Rows.tableEmptyRow.mapsOut==Tryz.pinned.checked.prog.mapsAmong Tryz.f7.resultTypes.toList))=true:=by kernel_rfl
theorem aUr:((Rows.tableEmptyRow.loops==(Tryz.f7.params.toList++Rows.tableEmptySpec.plain.varTypes Tryz.pinned.checked.prog).any (Tryz.pinned.checked.prog.loopsFrom ·)))=true:=by kernel_rfl
theorem aUs:((Rows.tableEmptyRow.wideKeys==(Tryz.f7.params.toList++Rows.tableEmptySpec.plain.varTypes Tryz.pinned.checked.prog++Tryz.f7.resultTypes.toList).any (Tryz.pinned.checked.prog.wideKeysFrom ·)))=true:=by kernel_rfl
theorem aUt:(Rows.tableEmptySpec.vars.all (Tryz.pinned.checked.prog.varReadable ·))=true:=by kernel_rfl
theorem aUu:(Tryz.f7.resultTypes.all (fun t=>Tryz.pinned.checked.prog.readableRec t&&decide (t<Tryz.pinned.checked.prog.types.size)))=true:=by kernel_rfl
theorem aUv:((Rows.tableEmptyRow.ifacesOut==Tryz.f7.resultTypes.toList.any (Tryz.pinned.checked.prog.ifacesRec ·)))=true:=by kernel_rfl
theorem aUw:((Rows.tableEmptyRow.loopsOut==Tryz.f7.resultTypes.toList.any (Tryz.pinned.checked.prog.loopsFrom ·)))=true:=by kernel_rfl
theorem aUx:((Rows.tableEmptyRow.plainKeys==Tryz.pinned.checked.prog.plainKeys))=true:=by kernel_rfl
theorem aUy:(Rows.tableEmptyRow.shortTexts.isNone)=true:=by kernel_rfl
theorem aUz:(Tryz.pinned.checked.prog.stopsHeard)=true:=by kernel_rfl
theorem aUA:(Tryz.pinned.checked.prog.mayEnter)=true:=by kernel_rfl
theorem aUB:((Rows.tableEmptyRow.lifted==Tryz.pinned.checked.prog.liftsFinal))=true:=by kernel_rfl
theorem aUC:((Tryz.pinned.checked.prog.make==some Rows.tableEmptyRow.make))=true:=by kernel_rfl
theorem aUD:((Rows.tableEmptyRow.kinds==(if Rows.tableEmptyRow.domain.isEmpty then [] else Tryz.f7.params.toList.map fun t=>match Tryz.pinned.checked.prog.underlying t with|some (.int k)=>some k|_=>none)))=true:=by kernel_rfl
theorem aUE:((Rows.tableEmptyRow.pinned==Rows.tableEmptyRow.pinnedBy))=true:=by kernel_rfl
theorem aUF:((Rows.tableEmptyRow.veiled==(Tryz.f7.params.toList++Rows.tableEmptySpec.plain.varTypes Tryz.pinned.checked.prog++Tryz.f7.resultTypes.toList).any (Tryz.pinned.checked.prog.veiledRec ·)))=true:=by kernel_rfl
theorem aUG:(Rows.tableEmptyRow.veiledFits Tryz.pinned.checked.prog Tryz.f7.params.toList (Tryz.f7.params.toList++Rows.tableEmptySpec.plain.varTypes Tryz.pinned.checked.prog++Tryz.f7.resultTypes.toList))=true:=by kernel_rfl
theorem aG0:joinedFacts Tryz.pinned.checked.prog 7 Tryz.f7 Rows.tableEmptySpec Rows.tableEmptyRow=true:=(gA (gA (gA (gA (gA (gA (gA (gA (gA (gA (gA (gA (gA (gA (gA (gA (gA (gA (gA (gA (gA (gA (gA (gA (gA (gA (gA (gA (gA (gA (gA aWj aWk) aWl) aWm) aWn) aWo) aWp) aWq) aWr) aWs) aUl) aUm) aUn) aUo) aUp) aUq) aUr) aUs) aUt) aUu) aUv) aUw) aUx) aUy) aUz) aUA) aUB) aUC) aUD) aUE) aUF) aUG)
theorem Fi:Rows.TableEmptySaid:=
 OpenClaim.holds_of_wide 7 Tryz.f7 rfl rfl rfl rfl rfl rfl rfl ⟨rfl,rfl,rfl,rfl,rfl⟩ rfl rfl rfl rfl rfl (by kernel_rfl) Tryz.func7 aG0
  (of_decide_eq_true (by kernel_rfl)) (by unfold Func.isWrapper;first|(rw[if_pos (by decide +kernel)];kernel_rfl)|(rw[if_neg (by decide +kernel)];exact⟨rfl,rfl⟩))
  (fun os started H enc _=>Cu os started H enc)
theorem Dz(f:FuncId)(fn:Func)(hf:Tryz.pinned.checked.prog.funcNamed "depository/depositorylaw11.TableEmpty"=some f)(hfn:Tryz.pinned.checked.prog.funcs[f]?=some fn):
  false=Tryz.pinned.checked.prog.looks []/\∀(j:Nat) t,fn.params[j]?=some t->Tryz.pinned.checked.prog.wantsStandIn t=false:=by
 obtain rfl:f=7:=Option.some.inj ((show Tryz.prog.funcNamed "depository/depositorylaw11.TableEmpty"=some 7 by kernel_rfl).symm.trans hf) |>.symm
 obtain rfl:fn=Tryz.f7:=(Option.some.inj (Tryz.func7.symm.trans hfn)).symm;refine⟨by kernel_rfl,fun j t ht=>?_⟩
 have hall:Tryz.f7.params.toList.all (fun t=>!Tryz.prog.wantsStandIn t)=true:=by kernel_rfl
 have:=aY2.1 hall t (by simpa using Array.mem_of_getElem? ht);have e:Tryz.prog.wantsStandIn t=false:=by simpa using this
 exact e
theorem tableEmpty_holds:Rows.TableEmptyCardSaid:=
 Claim7.holds_tied_plain_at .later [] _ _ _ _ Fi (fun _ h=>by cases h) (by kernel_rfl) (fun _ h=>by cases h) tableEmpty_row_tie rfl ⟨rfl,rfl⟩ (by kernel_rfl) rfl Dz Fh
end
end Go.Proofs.YthepfneloomngaaGreatDoor
