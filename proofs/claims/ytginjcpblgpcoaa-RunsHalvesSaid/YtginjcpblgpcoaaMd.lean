/- A call that makes an array of one's own. Conditions: none. -/
import Derived.Test.YtginjcpblgpcoaaMc
namespace Go.Proofs.Ytginjcpblgpcoaa
section
variable {P : Program} {G : Glob} {k : Nat} {st st' : AS} {R : AS → Prop} {o : AOp} {rest : List AOp}
theorem WR.cN {f : FuncId} {args : List AArg} {cargs : List AV} {n sz : Nat} {es : List (List DC)} (ha : o.ai = .call f args) (hac : AC P G f cargs [] fun av os => ∃ cap, av = .one (.bld 0 n) ∧ os = [.arr cap sz es])
    (hargs : args.map (evA G st.sl) = cargs.map (renV (jmap [] st.hp.length))) (hgd : gOK G st o.guard)
    (h : ∀ cap, WR P G k rest R ⟨putS st.sl o.dst (.one (.bld st.hp.length n)), st.hp ++ [.arr cap sz es]⟩) : WR P G k (o :: rest) R st := by
  refine WR.callN hgd ha hac hargs (fun av os hq => ?_)
  obtain ⟨cap, rfl, rfl⟩ := hq
  simpa [renV, renC, renO, jmap] using h cap
theorem WD.cN {f : FuncId} {args : List AArg} {cargs : List AV} {n sz : Nat} {es : List (List DC)} {rest : List (Bool × AOp)} (ha : o.ai = .call f args) (hac : AC P G f cargs [] fun av os => ∃ cap, av = .one (.bld 0 n) ∧ os = [.arr cap sz es])
    (hargs : args.map (evA G st.sl) = cargs.map (renV (jmap [] st.hp.length))) (hgd : gOK G st o.guard)
    (h : ∀ cap, AWL P G k R rest ⟨putS st.sl o.dst (.one (.bld st.hp.length n)), st.hp ++ [.arr cap sz es]⟩) : AWL P G k R ((false, o) :: rest) st := by
  refine .inr ⟨hgd, ?_⟩
  rw [ha]
  refine ⟨_, CallA.of hac hargs, ⟨_, _, _, _, ⟨0, rfl, rfl⟩, rfl, rfl⟩, ?_⟩
  rintro av os ⟨av0, os0, ⟨cap, rfl, rfl⟩, rfl, rfl⟩
  simpa [renV, renC, renO, jmap] using h cap
end
attribute [go_sem] frzV frzC frzT frzO slLV bound
end Go.Proofs.Ytginjcpblgpcoaa
