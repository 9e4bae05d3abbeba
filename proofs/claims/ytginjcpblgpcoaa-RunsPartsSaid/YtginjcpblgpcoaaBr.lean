/- The two checks of runlists are the same. Conditions: none. -/
import Derived.Test.YtginjcpblgpcoaaBq
namespace Go.Proofs.Ytginjcpblgpcoaa
/-- a run has a cluster -/
def Run.has (r : Run) (c : Nat) : Bool := decide (r.s ≠ -1 ∧ r.s ≤ c ∧ (c : Int) < r.s + r.n)
theorem setR_getD (U : List Bool) (s n c : Nat) (h : s + n ≤ U.length) : (setR U s n).getD c false = (U.getD c false || decide (s ≤ c ∧ c < s + n)) := by
  induction n with
  | zero => simp [setR]; omega
  | succ n ih =>
    have ih := ih (by omega)
    simp only [setR, List.getD_eq_getElem?_getD] at ih ⊢
    by_cases hc : s + n = c
    · subst hc
      rw [List.getElem?_set_self (by rw [setR_len]; omega)]
      simp
    · rw [List.getElem?_set_ne hc, ih]
      congr 1
      apply decide_eq_decide.2
      omega
theorem into_getD (U : List Bool) (r : Run) (hU : U.length = 512) (h : rangeE r.s r.n = 0) (c : Nat) : (r.into U).getD c false = (U.getD c false || r.has c) := by
  rcases rangeE_ok h with ⟨h1, _⟩ | ⟨s, n, h1, h2, h3, h4⟩
  · simp [Run.into, Run.has, h1]
  · have hne : ¬ r.s = -1 := by omega
    have e1 : r.s.toNat = s := by omega
    have e2 : r.n.toNat = n := by omega
    rw [Run.into, if_neg hne, e1, e2, setR_getD U s n c (by omega), Run.has]
    congr 1
    apply decide_eq_decide.2
    omega
theorem intoL_getD (U : List Bool) (l : List Run) (hU : U.length = 512) (h : ∀ r ∈ l, rangeE r.s r.n = 0) (c : Nat) : (intoL U l).getD c false = (U.getD c false || l.any fun r => r.has c) := by
  induction l generalizing U with
  | nil => simp [intoL]
  | cons r l ih =>
    show (intoL (r.into U) l).getD c false = _
    rw [ih (r.into U) (by rw [into_len, hU]) (fun r hr => h r (List.mem_cons_of_mem _ hr)), into_getD U r hU (h r List.mem_cons_self), List.any_cons, Bool.or_assoc]
theorem U0_len : U0.length = 512 := List.length_replicate
theorem U0_getD (c : Nat) : U0.getD c false = false := by
  simp only [U0, List.getD_eq_getElem?_getD, List.getElem?_replicate]
  split <;> rfl
theorem shares_has (q r : Run) (hq : rangeE q.s q.n = 0) (hr : rangeE r.s r.n = 0) : sharesB q r = true ↔ ∃ c, q.has c = true ∧ r.has c = true := by
  have h1 := rE_n hq
  have h2 := rE_n hr
  simp only [sharesB, Run.has, Bool.and_eq_true, bne_iff_ne, decide_eq_true_eq, ne_eq]
  constructor
  · rintro ⟨a1, a2, a3, a4⟩
    by_cases h : q.s ≤ r.s
    · exact ⟨r.s.toNat, by omega, by omega⟩
    · exact ⟨q.s.toNat, by omega, by omega⟩
  · rintro ⟨c, b1, b2⟩
    omega
theorem fresh_has (U : List Bool) (r : Run) (h : rangeE r.s r.n = 0) : r.fresh U = true ↔ ∀ c, r.has c = true → U.getD c false = false := by
  rcases rangeE_ok h with ⟨h1, _⟩ | ⟨s, n, h1, h2, h3, h4⟩
  · simp [Run.fresh, Run.has, h1]
  · have hne : ¬ r.s = -1 := by omega
    have e1 : r.s.toNat = s := by omega
    have e2 : r.n.toNat = n := by omega
    rw [Run.fresh, if_neg hne, e1, e2, freshR, List.all_eq_true]
    simp only [List.mem_range, Bool.not_eq_true', Run.has, decide_eq_true_eq]
    constructor
    · intro hh c hc
      have := hh (c - s) (by omega)
      rw [show s + (c - s) = c by omega] at this
      exact this
    · intro hh j hj
      exact hh (s + j) (by omega)
theorem fresh_shares (l : List Run) (r : Run) (hl : ∀ q ∈ l, rangeE q.s q.n = 0) (h : rangeE r.s r.n = 0) : r.fresh (intoL U0 l) = !(l.any fun q => sharesB q r) := by
  rw [Bool.eq_iff_iff, fresh_has _ _ h, Bool.not_eq_true', List.any_eq_false]
  constructor
  · intro hh q hq hs
    obtain ⟨c, h1, h2⟩ := (shares_has q r (hl q hq) h).1 hs
    have h3 := hh c h2
    rw [intoL_getD U0 l U0_len hl, U0_getD, Bool.false_or, List.any_eq_false] at h3
    exact h3 q hq h1
  · intro hh c hc
    rw [intoL_getD U0 l U0_len hl, U0_getD, Bool.false_or, List.any_eq_false]
    intro q hq h1
    exact hh q hq ((shares_has q r (hl q hq) h).2 ⟨c, h1, hc⟩)
theorem rangeE_two (s n : Int) : rangeE s n = 0 ∨ rangeE s n = 2 := by
  unfold rangeE
  split <;> split <;> (try split) <;> omega
theorem step_eq {l : List Run} {k : Nat} (hk : k < l.length) (h : ∀ (j : Nat) r, j < k → l[j]? = some r → rangeE r.s r.n = 0) : stepE (prevK l k) (intoL U0 (l.take k)) l[k] = stepR l k l[k] := by
  unfold stepE stepR
  rcases rangeE_two l[k].s l[k].n with h0 | h0
  · simp only [h0, ne_eq, not_true_eq_false, if_false]
    have hl : ∀ q ∈ l.take k, rangeE q.s q.n = 0 := by
      intro q hq
      obtain ⟨j, hj⟩ := List.mem_iff_getElem?.1 hq
      rw [List.getElem?_take] at hj
      split at hj
      · exact h j q (by assumption) hj
      · cases hj
    rw [fresh_shares _ _ hl h0]
    split
    · rfl
    · cases (l.take k).any fun q => sharesB q l[k] <;> rfl
  · simp [h0]
theorem chkL_eq (l : List Run) : ∀ (n k : Nat), n = l.length - k → k ≤ l.length → (∀ (j : Nat) r, j < k → l[j]? = some r → rangeE r.s r.n = 0) → chkL l (l.drop k) (prevK l k) (intoL U0 (l.take k)) k = rchkL l (l.drop k) k := by
  intro n
  induction n with
  | zero =>
    intro k h1 h2 _
    have : l.drop k = [] := List.drop_of_length_le (by omega)
    rw [this, chkL, rchkL]
    by_cases h : lenR l ≤ 4096
    · rw [if_pos h, if_neg (by omega)]
    · rw [if_neg h, if_pos (by omega)]
  | succ n ih =>
    intro k h1 h2 h3
    have hk : k < l.length := by omega
    rw [rchkL_at hk, List.drop_eq_getElem_cons hk, chkL, step_eq hk h3]
    split
    · rfl
    · rename_i h0
      have h0 : stepR l k l[k] = 0 := by omega
      have hr : rangeE l[k].s l[k].n = 0 := by
        unfold stepR at h0
        rcases rangeE_two l[k].s l[k].n with h | h
        · exact h
        · simp [h] at h0
      have := ih (k + 1) (by omega) (by omega) (rg_le h3 hk hr)
      rw [← this, intoL_take U0 l k hk]
      congr 1
      simp [prevK, List.getElem?_eq_getElem hk]
/-- the program's check and the reference's -/
theorem chk_eq (l : List Run) : chk l = rchk l := by
  unfold chk rchk
  split
  · rfl
  · have := chkL_eq l l.length 0 (by omega) (by omega) (fun j r h => by omega)
    simpa [prevK, intoL] using this
end Go.Proofs.Ytginjcpblgpcoaa
