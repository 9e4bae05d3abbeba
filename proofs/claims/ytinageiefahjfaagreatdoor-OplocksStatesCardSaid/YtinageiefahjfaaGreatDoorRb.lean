/- Accepted files have no error; what stays of files in runs. Conditions: none. -/
import Derived.Test.YtinageiefahjfaaGreatDoorRa
namespace Go.Proofs.YtinageiefahjfaaGreatDoor
set_option linter.unusedSimpArgs false
set_option linter.unusedVariables false
theorem eachE_z {l : List Int} (h : ∀ e ∈ l, e = 0) (n : Nat) : eachE n l = (0, 0) := by
  induction l generalizing n with
  | nil => rfl
  | cons e l ih =>
    rw [eachE, if_pos (h e List.mem_cons_self)]
    exact ih (fun x hx => h x (List.mem_cons_of_mem _ hx)) (n + 1)
theorem gErr_0 {gs : List Gr} {ws : List Wt} (h : Vd gs ws) {i : Nat} (hi : i < gs.length) : gErr gs i gs[i] = 0 := by
  obtain ⟨h1, h2, h3, h4, h5⟩ := h.rg gs[i] (List.getElem_mem hi)
  unfold gErr
  rw [firstE_0]
  simp only [List.mem_cons, List.not_mem_nil, or_false, forall_eq_or_imp, forall_eq]
  rw [ifE_0 (by decide), ifE_0 (by decide), ifE_0 (by decide), ifE_0 (by decide)]
  simp only [Bool.and_eq_true, Bool.or_eq_true, isCl, decide_eq_true_eq, Bool.not_eq_true']
  refine ⟨⟨⟨h1, h2⟩, h3, h4⟩, ?_, by omega, ?_⟩
  · by_cases h0 : i = 0
    · exact .inl h0
    · right
      rw [grAt gs (i - 1) (by omega)]
      exact (List.pairwise_iff_getElem.1 h.so) (i - 1) i (by omega) hi (by omega)
  · unfold clash
    rw [Bool.or_eq_false_iff, Bool.and_eq_false_iff, Bool.and_eq_false_iff]
    simp only [decide_eq_false_iff_not, List.any_eq_false, Bool.and_eq_true, decide_eq_true_eq]
    constructor
    · by_cases hl : gs[i].l ≥ 2
      · right
        rintro k hk ⟨h6, h7⟩
        have := (h.cl gs[i] (List.getElem_mem hi) k hk h6).1 hl
        omega
      · exact .inl hl
    · by_cases hl : gs[i].l = 3
      · right
        intro k hk h6
        have := (h.cl gs[i] (List.getElem_mem hi) k hk h6).2
        omega
      · exact .inl hl
theorem wErr_0 {gs : List Gr} {ws : List Wt} (h : Vd gs ws) {i : Nat} (hi : i < ws.length) : wErr gs ws i ws[i] = 0 := by
  obtain ⟨h1, h2, h3⟩ := h.wr ws[i] (List.getElem_mem hi)
  unfold wErr
  rw [firstE_0]
  simp only [List.mem_cons, List.not_mem_nil, or_false, forall_eq_or_imp, forall_eq]
  rw [ifE_0 (by decide), ifE_0 (by decide), ifE_0 (by decide), ifE_0 (by decide), ifE_0 (by decide)]
  simp only [Bool.or_eq_true, isCl, isUs, decide_eq_true_eq, Bool.not_eq_true']
  refine ⟨h1, h2, ?_, ?_, ?_⟩
  · rw [isW_false]
    intro w hw
    obtain ⟨j, hj, rfl⟩ := List.mem_take_iff_getElem.1 hw
    exact (List.pairwise_iff_getElem.1 h.wd) j i (by omega) hi (by omega)
  · cases hx : isIn gs ws[i].c with
    | true => left; intro h0; rw [h3.1 h0] at hx; cases hx
    | false => exact .inr rfl
  · cases hx : isIn gs ws[i].c with
    | true => exact .inr rfl
    | false => exact .inl (h3.2 hx)
theorem chk_of {gs : List Gr} {ws : List Wt} (h : Vd gs ws) (hd : Hd gs ws) : chk gs ws = (0, 0) := by
  have e1 : eachE 0 (gErrs gs) = (0, 0) := eachE_z (by
    intro e he
    obtain ⟨i, hi, rfl⟩ := List.mem_map.1 he
    have hi := List.mem_range.1 hi
    rw [grAt gs i hi]
    exact gErr_0 h hi) 0
  have e2 : eachE 0 (wErrs gs ws) = (0, 0) := eachE_z (by
    intro e he
    obtain ⟨i, hi, rfl⟩ := List.mem_map.1 he
    have hi := List.mem_range.1 hi
    rw [wtAt ws i hi]
    exact wErr_0 h hi) 0
  have h1 := h.gl
  have h2 := h.wl
  unfold chk
  rw [if_neg (by omega), e1, e2, if_neg (by simp), if_neg (by simp)]
  cases ws with
  | nil => rfl
  | cons w ws =>
    obtain ⟨h3, h4⟩ := hd w rfl
    simp only
    rw [brGs_no h3, h3, h4]
    rfl
theorem chk_iff {gs : List Gr} {ws : List Wt} : (chk gs ws).2 = 0 ↔ Vd gs ws ∧ Hd gs ws := ⟨chk_ok, fun h => by rw [chk_of h.1 h.2]⟩
end Go.Proofs.YtinageiefahjfaaGreatDoor
