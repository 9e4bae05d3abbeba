/- Arguments of some types, opened. Conditions: none. -/
import Derived.Test.YtginjcpblgpcoaaMe
namespace Go.Proofs.Ytginjcpblgpcoaa
section
variable {P : Program} {m : Nat} {t : TypeId} {av : AV}
theorem okA_one (ha : aggT P t = false) (h : okA P m t av) : ∃ d, av = .one (.dc d) ∧ okT P m t [d] := by
  cases av with
  | one c => cases c with
    | dc d => exact ⟨d, rfl, h.2⟩
    | _ => exact h.elim
  | agg cs => rw [h.1] at ha; cases ha
  | tup l => exact h.elim
  | junk => exact h.elim
theorem okA_many (ha : aggT P t = true) (h : okA P m t av) : ∃ ds, av = .agg (dcC ds) ∧ okT P m t ds := by
  cases av with
  | one c => cases c with
    | dc d => rw [h.1] at ha; cases ha
    | _ => exact h.elim
  | agg cs => obtain ⟨_, ds, rfl, h2⟩ := h; exact ⟨ds, rfl, h2⟩
  | tup l => exact h.elim
  | junk => exact h.elim
theorem okA_int {k : IntKind} (hu : P.underlying t = some (.int k)) (h : okA P (m + 1) t av) : ∃ i, av = .one (.dc (.raw (.int k i))) ∧ k.min ≤ i ∧ i ≤ k.max := by
  obtain ⟨d, rfl, h2⟩ := okA_one (by rw [aggT, hu]) h
  rw [okT, hu] at h2
  obtain ⟨i, h3, h4⟩ := h2
  simp only [List.cons.injEq, and_true] at h3
  exact ⟨i, by rw [h3], h4⟩
theorem okA_string (hu : P.underlying t = some .string) (h : okA P (m + 1) t av) : ∃ s : ByteArray, av = .one (.dc (.raw (.string s))) ∧ s.size ≤ maxLen := by
  obtain ⟨d, rfl, h2⟩ := okA_one (by rw [aggT, hu]) h
  rw [okT, hu] at h2
  obtain ⟨i, h3, h4⟩ := h2
  simp only [List.cons.injEq, and_true] at h3
  exact ⟨i, by rw [h3], h4⟩
theorem okA_slice {e : TypeId} (hu : P.underlying t = some (.slice e)) (h : okA P (m + 1) t av) : ∃ es, av = .one (.dc (.slc es)) ∧ es.length ≤ maxLen ∧ ∀ d ∈ es, okT P m e d := by
  obtain ⟨d, rfl, h2⟩ := okA_one (by rw [aggT, hu]) h
  rw [okT, hu] at h2
  obtain ⟨i, h3, h4⟩ := h2
  simp only [List.cons.injEq, and_true] at h3
  exact ⟨i, by rw [h3], h4⟩
theorem i64_bounds {i : Int} (h : IntKind.i64.min ≤ i ∧ i ≤ IntKind.i64.max) : -9223372036854775808 ≤ i ∧ i ≤ 9223372036854775807 := by
  have e1 : IntKind.i64.min = -9223372036854775808 := by decide
  have e2 : IntKind.i64.max = 9223372036854775807 := by decide
  omega
theorem okT_int1 {k : IntKind} {ds : List DC} (hu : P.underlying t = some (.int k)) (h : okT P (m + 1) t ds) : ∃ i, ds = [.raw (.int k i)] ∧ k.min ≤ i ∧ i ≤ k.max := by
  rw [okT, hu] at h; exact h
/-- a struct of two integers -/
theorem okT_two {f0 f1 : Field} {ds : List DC} (hu : P.underlying t = some (.struct #[f0, f1])) (h0 : P.underlying f0.type = some (.int .i64)) (h1 : P.underlying f1.type = some (.int .i64)) (o0 : f0.offset = 0) (o1 : f1.offset = 1)
    (c0 : P.cellsOf f0.type = 1) (c1 : P.cellsOf f1.type = 1) (hc : P.cellsOf t = 2) (h : okT P (m + 2) t ds) :
    ∃ a b : Int, ds = [ci a, ci b] ∧ (-9223372036854775808 ≤ a ∧ a ≤ 9223372036854775807) ∧ (-9223372036854775808 ≤ b ∧ b ≤ 9223372036854775807) := by
  rw [okT, hu] at h
  obtain ⟨hl, hf⟩ := h
  rw [hc] at hl
  obtain ⟨a, ha, ha2⟩ := okT_int1 h0 (hf 0 f0 rfl)
  obtain ⟨b, hb, hb2⟩ := okT_int1 h1 (hf 1 f1 rfl)
  match ds, hl with
  | [x, y], _ =>
    rw [o0, c0] at ha
    rw [o1, c1] at hb
    simp at ha hb
    exact ⟨a, b, by rw [ha, hb], i64_bounds ha2, i64_bounds hb2⟩
end
end Go.Proofs.Ytginjcpblgpcoaa
