/- Lists of clusters and runs: plain mathematics. Conditions: none. -/
import Derived.Test.YtginjcpblgpcoaaBi
namespace Go.Proofs.Ytginjcpblgpcoaa
set_option linter.unusedVariables false
set_option linter.unusedSimpArgs false
theorem clR_cons (r : Run) (l : List Run) : clR (r :: l) = clO r r.n.toNat ++ clR l := by simp [clR]
theorem clR_append (a b : List Run) : clR (a ++ b) = clR a ++ clR b := by simp [clR]
theorem clO_get (r : Run) (n i : Nat) : (clO r n)[i]? = if i < n then some (if r.s = -1 then -1 else r.s + i) else none := by
  simp only [clO, List.getElem?_map]
  by_cases h : i < n
  · simp [List.getElem?_range h, h]
  · rw [List.getElem?_eq_none (by simpa using h), if_neg h]; rfl
theorem clO_len (r : Run) (n : Nat) : (clO r n).length = n := by simp [clO]
theorem clO_join (q r : Run) (h : joinsB q r = true) (hq : 0 ≤ q.n) (hr : 0 ≤ r.n) : clO ⟨q.s, q.n + r.n⟩ (q.n + r.n).toNat = clO q q.n.toNat ++ clO r r.n.toNat := by
  apply List.ext_getElem?
  intro i
  rw [clO_get, List.getElem?_append, clO_len, clO_get, clO_get]
  rcases joins_at h with ⟨h1, h2⟩ | ⟨h1, h2, h3⟩
  · by_cases c1 : i < q.n.toNat
    · rw [if_pos (by omega), if_pos c1, if_pos c1]
    · by_cases c2 : i - q.n.toNat < r.n.toNat
      · rw [if_pos (by omega), if_neg c1, if_pos c2]; simp [h1, h2]
      · rw [if_neg (by omega), if_neg c1, if_neg c2]
  · by_cases c1 : i < q.n.toNat
    · rw [if_pos (by omega), if_pos c1, if_pos c1]
    · by_cases c2 : i - q.n.toNat < r.n.toNat
      · rw [if_pos (by omega), if_neg c1, if_pos c2]
        simp only [h1, h2, if_false, Option.some.injEq]; omega
      · rw [if_neg (by omega), if_neg c1, if_neg c2]
theorem clR_addR (R : List Run) (r : Run) (hR : ∀ q ∈ R, 0 ≤ q.n) (hr : 0 ≤ r.n) : clR (addR R r) = clR R ++ clO r r.n.toNat := by
  rcases List.eq_nil_or_concat R with rfl | ⟨R', q, rfl⟩
  · simp [addR_nil, clR]
  · rw [List.concat_eq_append] at *
    rw [addR_snoc]
    split
    · rename_i h
      rw [clR_append, clR_append, List.append_assoc]
      congr 1
      have := clO_join q r h (hR q (by simp)) hr
      simp only [clR, List.flatMap_cons, List.flatMap_nil, List.append_nil]
      exact this
    · rw [clR_append]; simp [clR]
theorem addR_nn {R : List Run} {r : Run} (hR : ∀ q ∈ R, 0 ≤ q.n) (hr : 0 ≤ r.n) : ∀ q ∈ addR R r, 0 ≤ q.n := by
  rcases List.eq_nil_or_concat R with rfl | ⟨R', q, rfl⟩
  · rw [addR_nil]; simpa using hr
  · rw [List.concat_eq_append] at *
    rw [addR_snoc]
    have hq := hR q (by simp)
    intro p hp
    split at hp
    · rcases List.mem_append.1 hp with h1 | h1
      · exact hR p (by simp [h1])
      · have : p = ⟨q.s, q.n + r.n⟩ := by simpa using h1
        subst this; simp only; omega
    · rcases List.mem_append.1 hp with h1 | h1
      · exact hR p h1
      · have : p = r := by simpa using h1
        subst this; exact hr
theorem clR_addL {l : List Run} : ∀ {R : List Run}, (∀ q ∈ R, 0 ≤ q.n) → (∀ q ∈ l, 0 ≤ q.n) → clR (addL R l) = clR R ++ clR l := by
  induction l with
  | nil => intro R _ _; simp [addL, clR]
  | cons r l ih =>
    intro R hR hl
    have h1 := hl r List.mem_cons_self
    show clR (addL (addR R r) l) = _
    rw [ih (addR_nn hR h1) (fun q hq => hl q (List.mem_cons_of_mem _ hq)), clR_addR R r hR h1, clR_cons, List.append_assoc]
/-- a run, cluster by cluster -/
theorem add_units (R : List Run) (s : Int) (hs : -1 ≤ s) (m : Nat) : addL R (units (clO ⟨s, 0⟩ (m + 1))) = addR R ⟨s, (m : Int) + 1⟩ := by
  induction m with
  | zero =>
    have : clO ⟨s, 0⟩ 1 = [s] := by simp only [clO, List.range_one, List.map_cons, List.map_nil]; split <;> simp_all
    rw [this]; rfl
  | succ m ih =>
    rw [clO_succ, units, List.map_append, ← units, addL_app, ih]
    simp only [List.map_cons, List.map_nil, addL, List.foldl_cons, List.foldl_nil]
    rcases List.eq_nil_or_concat R with rfl | ⟨R', q, rfl⟩
    · rw [addR_nil, addR_nil]
      have hj : joinsB ⟨s, (m : Int) + 1⟩ ⟨if s = -1 then -1 else s + ((m + 1 : Nat) : Int), 1⟩ = true := by
        by_cases h : s = -1
        · simp [joinsB, h]
        · have : ¬ s + ((m : Int) + 1) = -1 := by omega
          simp [joinsB, h, this]
      have := addR_snoc [] ⟨s, (m : Int) + 1⟩ ⟨if s = -1 then -1 else s + ((m + 1 : Nat) : Int), 1⟩
      rw [if_pos hj] at this
      simpa using this
    · rw [List.concat_eq_append, addR_snoc, addR_snoc]
      by_cases h1 : joinsB q ⟨s, (m : Int) + 1⟩ = true
      · have h2 : joinsB q ⟨s, ((m + 1 : Nat) : Int) + 1⟩ = true := h1
        rw [if_pos h1, if_pos h2, addR_snoc]
        have hj : joinsB ⟨q.s, q.n + ((m : Int) + 1)⟩ ⟨if s = -1 then -1 else s + ((m + 1 : Nat) : Int), 1⟩ = true := by
          rcases joins_at h1 with ⟨h3, h4⟩ | ⟨h3, h4, h5⟩
          · simp only at h3 h4; simp [joinsB, h3, h4]
          · simp only at h3 h4 h5
            have : ¬ s + ((m : Int) + 1) = -1 := by omega
            have h6 : q.s + (q.n + ((m : Int) + 1)) = s + ((m : Int) + 1) := by omega
            simp [joinsB, h3, h4, this, h6]
        rw [if_pos hj]
        simp only [List.append_cancel_left_eq, List.cons.injEq, Run.mk.injEq, true_and, and_true]
        omega
      · have h2 : ¬ joinsB q ⟨s, ((m + 1 : Nat) : Int) + 1⟩ = true := h1
        rw [if_neg h1, if_neg h2]
        have hj : joinsB ⟨s, (m : Int) + 1⟩ ⟨if s = -1 then -1 else s + ((m + 1 : Nat) : Int), 1⟩ = true := by
          by_cases h : s = -1
          · simp [joinsB, h]
          · have : ¬ s + ((m : Int) + 1) = -1 := by omega
            simp [joinsB, h, this]
        have := addR_snoc (R' ++ [q]) ⟨s, (m : Int) + 1⟩ ⟨if s = -1 then -1 else s + ((m + 1 : Nat) : Int), 1⟩
        rw [if_pos hj] at this
        rw [this]
        simp
theorem addL_units {l : List Run} : ∀ {R : List Run}, (∀ q ∈ l, 1 ≤ q.n ∧ -1 ≤ q.s) → addL R (units (clR l)) = addL R l := by
  induction l with
  | nil => intro R _; rfl
  | cons r l ih =>
    intro R hl
    have h1 := hl r List.mem_cons_self
    rw [clR_cons, units, List.map_append, ← units, ← units, addL_app, ih (fun q hq => hl q (List.mem_cons_of_mem _ hq))]
    have e : r.n.toNat = (r.n.toNat - 1) + 1 := by omega
    have h2 := add_units R r.s h1.2 (r.n.toNat - 1)
    rw [← e] at h2
    have e2 : clO r r.n.toNat = clO ⟨r.s, 0⟩ r.n.toNat := rfl
    have e3 : (⟨r.s, ((r.n.toNat - 1 : Nat) : Int) + 1⟩ : Run) = r := by
      have : ((r.n.toNat - 1 : Nat) : Int) + 1 = r.n := by omega
      rw [this]
    rw [e2, h2, e3]
    rfl
theorem fromC_clR {l : List Run} (h : ∀ q ∈ l, 1 ≤ q.n ∧ -1 ≤ q.s) : fromC (clR l) = addL [] l := addL_units h
theorem clO_part (r : Run) (N a c : Nat) (ha : a ≤ N) (s : Int) (m : Int) (hs : s = if r.s = -1 then -1 else r.s + a) (hne : r.s ≠ -1 → 0 ≤ r.s) : ((clO r N).drop a).take c = clO ⟨s, m⟩ (min c (N - a)) := by
  apply List.ext_getElem?
  intro i
  rw [List.getElem?_take, List.getElem?_drop, clO_get, clO_get]
  by_cases h1 : i < c
  · by_cases h2 : a + i < N
    · have h5 : i < min c (N - a) := by omega
      rw [if_pos h1, if_pos h2, if_pos h5]
      by_cases h3 : r.s = -1
      · rw [if_pos h3] at hs ⊢
        rw [if_pos hs]
      · have := hne h3
        rw [if_neg h3] at hs ⊢
        rw [if_neg (by simp only; omega)]
        simp only [Option.some.injEq]; omega
    · have h5 : ¬ i < min c (N - a) := by omega
      rw [if_pos h1, if_neg h2, if_neg h5]
  · have h5 : ¬ i < min c (N - a) := by omega
    rw [if_neg h1, if_neg h5]
theorem clR_part {l : List Run} : ∀ {R : List Run} {a c : Int}, 0 ≤ a → 0 ≤ c → (∀ r ∈ l, 0 ≤ r.n ∧ (r.s ≠ -1 → 0 ≤ r.s)) → clR (l.foldl pst (a, c, R)).2.2 = clR R ++ ((clR l).drop a.toNat).take c.toNat := by
  induction l with
  | nil => intro R a c _ _ _; simp [clR]
  | cons r l ih =>
    intro R a c ha hc hl
    obtain ⟨hn, hs⟩ := hl r List.mem_cons_self
    rw [List.foldl_cons]
    simp only [pst]
    generalize hkk : (if r.n < a then r.n else a) = kk
    have k1 : 0 ≤ kk ∧ kk ≤ r.n ∧ kk ≤ a ∧ (kk = r.n ∨ kk = a) := by rw [← hkk]; split <;> omega
    generalize hnn : (if r.n - kk < c then r.n - kk else c) = nn
    have n1 : 0 ≤ nn ∧ nn ≤ r.n - kk ∧ nn ≤ c ∧ (nn = r.n - kk ∨ nn = c) := by rw [← hnn]; split <;> omega
    rw [ih (by omega) (by omega) (fun q hq => hl q (List.mem_cons_of_mem _ hq)), clR_cons, List.drop_append, List.take_append, clO_len, List.length_drop, clO_len]
    have e1 : ((clO r r.n.toNat).drop a.toNat).take c.toNat = clO ⟨if r.s = -1 then -1 else r.s + kk, nn⟩ nn.toNat := by
      by_cases h : a ≤ r.n
      · have e : a = kk := by omega
        have := clO_part r r.n.toNat a.toNat c.toNat (by omega) (if r.s = -1 then -1 else r.s + kk) nn (by rw [e]; congr 2; omega) hs
        rw [this]; congr 1; omega
      · rw [List.drop_of_length_le (by rw [clO_len]; omega), show nn.toNat = 0 by omega]; simp [clO]
    rw [e1, ← List.append_assoc]
    have e2 : (a - kk).toNat = a.toNat - r.n.toNat := by omega
    have e3 : (c - nn).toNat = c.toNat - (r.n.toNat - a.toNat) := by omega
    rw [e2, e3]
    congr 1
    split
    · rename_i h; rw [h]; simp [clO]
    · rw [clR_append]; simp [clR]
/-- the clusters of the volume -/
def volL (l : List Run) : List Int := (clR l).filter fun x => decide (x ≠ -1)
theorem volL_append (a b : List Run) : volL (a ++ b) = volL a ++ volL b := by simp [volL, clR_append]
theorem mem_vol1 {r : Run} (hv : Vol r) {x : Int} : x ∈ volL [r] ↔ ∃ c : Nat, x = c ∧ r.has c = true := by
  have e : clR [r] = clO r r.n.toNat := by simp [clR]
  simp only [volL, e, List.mem_filter, clO, List.mem_map, List.mem_range, decide_eq_true_eq, Run.has]
  constructor
  · rintro ⟨⟨k, hk, rfl⟩, h2⟩
    by_cases h1 : r.s = -1
    · simp [h1] at h2
    · simp only [h1, if_false] at h2 ⊢
      rcases hv with h | h
      · exact absurd h.1 h1
      · exact ⟨(r.s + k).toNat, by omega, by omega⟩
  · rintro ⟨c, rfl, h1, h2, h3⟩
    refine ⟨⟨((c : Int) - r.s).toNat, by omega, ?_⟩, by omega⟩
    rw [if_neg h1]; omega
theorem mem_vol {l : List Run} (hv : ∀ r ∈ l, Vol r) {x : Int} : x ∈ volL l ↔ ∃ r ∈ l, ∃ c : Nat, x = c ∧ r.has c = true := by
  induction l with
  | nil => simp [volL, clR]
  | cons r l ih =>
    rw [show r :: l = [r] ++ l from rfl, volL_append, List.mem_append, mem_vol1 (hv r List.mem_cons_self), ih (fun q hq => hv q (List.mem_cons_of_mem _ hq))]
    simp only [List.singleton_append, List.mem_cons]
    constructor
    · rintro (⟨c, h1, h2⟩ | ⟨q, hq, h⟩)
      · exact ⟨r, .inl rfl, c, h1, h2⟩
      · exact ⟨q, .inr hq, h⟩
    · rintro ⟨q, rfl | hq, h⟩
      · exact .inl h
      · exact .inr ⟨q, hq, h⟩
theorem vol1_nodup (r : Run) : (volL [r]).Nodup := by
  have e : clR [r] = clO r r.n.toNat := by simp [clR]
  rw [volL, e]
  by_cases h : r.s = -1
  · have : (clO r r.n.toNat).filter (fun x => decide (x ≠ -1)) = [] := by
      rw [List.filter_eq_nil_iff]
      intro x hx
      simp only [clO, List.mem_map] at hx
      obtain ⟨k, _, rfl⟩ := hx
      simp [h]
    rw [this]; exact List.nodup_nil
  · refine List.Pairwise.filter _ ?_
    simp only [clO, h, if_false]
    rw [List.pairwise_map]
    exact List.nodup_range.imp (fun hab h => hab (by omega))
theorem vol_step {l : List Run} (hv : ∀ r ∈ l, Vol r) (k : Nat) (hk : k < l.length) : (volL (l.take (k + 1))).Nodup ↔ (volL (l.take k)).Nodup ∧ ∀ c : Nat, l[k].has c = true → ∀ q ∈ l.take k, q.has c = false := by
  have hvk := hv l[k] (List.getElem_mem hk)
  have hvt : ∀ r ∈ l.take k, Vol r := fun r hr => hv r (List.mem_of_mem_take hr)
  rw [List.take_succ_eq_append_getElem hk, volL_append, List.nodup_append]
  constructor
  · rintro ⟨h1, _, h3⟩
    refine ⟨h1, fun c hc q hq => ?_⟩
    rw [Bool.eq_false_iff]
    intro hh
    exact h3 _ ((mem_vol hvt).2 ⟨q, hq, c, rfl, hh⟩) _ ((mem_vol1 hvk).2 ⟨c, rfl, hc⟩) rfl
  · rintro ⟨h1, h2⟩
    refine ⟨h1, vol1_nodup _, fun x hx y hy e => ?_⟩
    subst e
    obtain ⟨q, hq, c, h3, h4⟩ := (mem_vol hvt).1 hx
    obtain ⟨c2, h5, h6⟩ := (mem_vol1 hvk).1 hy
    have : c = c2 := by omega
    subst this
    rw [h2 c h6 q hq] at h4; cases h4
theorem into_getD_vol (U : List Bool) (r : Run) (hU : U.length = 512) (h : Vol r) (c : Nat) : (r.into U).getD c false = (U.getD c false || r.has c) := by
  rcases h with ⟨h1, _⟩ | ⟨h1, h2, h3⟩
  · simp [Run.into, Run.has, h1]
  · have hne : ¬ r.s = -1 := by omega
    rw [Run.into, if_neg hne, setR_getD U r.s.toNat r.n.toNat c (by omega), Run.has]
    congr 1
    apply decide_eq_decide.2
    omega
theorem intoL_getD_vol (U : List Bool) (l : List Run) (hU : U.length = 512) (h : ∀ r ∈ l, Vol r) (c : Nat) : (intoL U l).getD c false = (U.getD c false || l.any fun r => r.has c) := by
  induction l generalizing U with
  | nil => simp [intoL]
  | cons r l ih =>
    show (intoL (r.into U) l).getD c false = _
    rw [ih (r.into U) (by rw [into_len, hU]) (fun r hr => h r (List.mem_cons_of_mem _ hr)), into_getD_vol U r hU (h r List.mem_cons_self), List.any_cons, Bool.or_assoc]
theorem fresh_vol (U : List Bool) (r : Run) (h : Vol r) : r.fresh U = true ↔ ∀ c, r.has c = true → U.getD c false = false := by
  rcases h with ⟨h1, _⟩ | ⟨h1, h2, h3⟩
  · simp [Run.fresh, Run.has, h1]
  · have hne : ¬ r.s = -1 := by omega
    rw [Run.fresh, if_neg hne, freshR, List.all_eq_true]
    simp only [List.mem_range, Bool.not_eq_true', Run.has, decide_eq_true_eq]
    constructor
    · intro hh c hc
      have := hh (c - r.s.toNat) (by omega)
      rw [show r.s.toNat + (c - r.s.toNat) = c by omega] at this
      exact this
    · intro hh j hj
      exact hh (r.s.toNat + j) (by omega)
theorem frK_iff {l : List Run} (hv : ∀ r ∈ l, Vol r) (k : Nat) (hk : k ≤ l.length) : frK l k = true ↔ (volL (l.take k)).Nodup := by
  induction k with
  | zero => simp [frK, volL, clR]
  | succ k ih =>
    have hvt : ∀ r ∈ l.take k, Vol r := fun r hr => hv r (List.mem_of_mem_take hr)
    rw [frK_succ l k (by omega), Bool.and_eq_true, ih (by omega), vol_step hv k (by omega), fresh_vol _ _ (hv _ (List.getElem_mem (by omega)))]
    constructor
    · rintro ⟨h1, h2⟩
      refine ⟨h2, fun c hc q hq => ?_⟩
      have := h1 c hc
      rw [intoL_getD_vol U0 _ U0_len hvt, U0_getD, Bool.false_or, List.any_eq_false] at this
      exact Bool.eq_false_iff.2 (this q hq)
    · rintro ⟨h1, h2⟩
      refine ⟨fun c hc => ?_, h1⟩
      rw [intoL_getD_vol U0 _ U0_len hvt, U0_getD, Bool.false_or, List.any_eq_false]
      intro q hq
      rw [h2 c hc q hq]; simp
theorem dupK_iff {l : List Run} (hv : ∀ r ∈ l, rangeE r.s r.n = 0) (k : Nat) (hk : k ≤ l.length) : dupK l k = false ↔ (volL (l.take k)).Nodup := by
  have hvl : ∀ r ∈ l, Vol r := fun r hr => by
    rcases rangeE_ok (hv r hr) with ⟨h1, h2, h3⟩ | ⟨s, n, h1, h2, h3, h4⟩
    · exact .inl ⟨h1, by omega⟩
    · exact .inr ⟨by omega, by omega, by omega⟩
  induction k with
  | zero => simp [dupK, volL, clR]
  | succ k ih =>
    have ih := ih (by omega)
    rw [dupK_succ l k (by omega), Bool.or_eq_false_iff, vol_step hvl k (by omega), List.any_eq_false]
    have hr := hv l[k] (List.getElem_mem (by omega))
    constructor
    · rintro ⟨h1, h2⟩
      refine ⟨ih.1 h1, fun c hc q hq => ?_⟩
      rw [Bool.eq_false_iff]
      intro hh
      exact h2 q hq ((shares_has q _ (hv q (List.mem_of_mem_take hq)) hr).2 ⟨c, hh, hc⟩)
    · rintro ⟨h1, h2⟩
      refine ⟨ih.2 h1, fun q hq hh => ?_⟩
      obtain ⟨c, h3, h4⟩ := (shares_has q _ (hv q (List.mem_of_mem_take hq)) hr).1 hh
      rw [h2 c h4 q hq] at h3; cases h3
theorem rE_vol {l : List Run} (hv : ∀ r ∈ l, rangeE r.s r.n = 0) : ∀ r ∈ l, Vol r ∧ 1 ≤ r.n ∧ -1 ≤ r.s ∧ (r.s ≠ -1 → 0 ≤ r.s) := by
  intro r hr
  rcases rangeE_ok (hv r hr) with ⟨h1, h2, h3⟩ | ⟨s, n, h1, h2, h3, h4⟩
  · exact ⟨.inl ⟨h1, by omega⟩, by omega, by omega, by omega⟩
  · exact ⟨.inr ⟨by omega, by omega, by omega⟩, by omega, by omega, by omega⟩
theorem volL_add {l : List Run} (h : ∀ r ∈ l, 0 ≤ r.n) : volL (addL [] l) = volL l := by
  rw [volL, clR_addL (by simp) h]; simp [volL, clR]
theorem lenR_add {l : List Run} : lenR (addL [] l) = lenR l := by
  have key : ∀ (l R : List Run), lenR (addL R l) = lenR R + lenR l := by
    intro l
    induction l with
    | nil => intro R; simp [addL, lenR]
    | cons r l ih =>
      intro R
      show lenR (addL (addR R r) l) = _
      rw [ih, addR_len]
      have e1 : lenR (r :: l) = r.n + lenR l := by simp [lenR]
      omega
  have := key l []
  simpa [lenR] using this
/-- the two errors of a result are one -/
theorem done_res {l : List Run} (hv : ∀ r ∈ l, rangeE r.s r.n = 0) (hF : Fine l) : doneE (addL [] l) = resE l := by
  have h1 := rE_vol hv
  have hA : ∀ r ∈ addL [] l, Vol r := addL_vol (by simp) (fun q hq => (h1 q hq).1)
  have hn : ∀ r ∈ l, 0 ≤ r.n := fun r hr => by have := (h1 r hr).2.1; omega
  have e1 : frK (addL [] l) (addL [] l).length = !(dupR l) := by
    rw [Bool.eq_iff_iff, frK_iff hA _ (Nat.le_refl _), List.take_length, volL_add hn]
    have := dupK_iff hv l.length (Nat.le_refl _)
    rw [List.take_length] at this
    rw [Bool.not_eq_true']
    exact this.symm
  have e2 : lenW (addL [] l) = lenR l := by
    rw [lenW_eq _ (fun r hr => (hF.add.el r hr).2.2) (by have := hF.add.sum; omega), lenR_add]
  rw [doneE, e1, e2, resE, firstE, firstE, firstE]
  cases dupR l
  · by_cases h3 : lenR l ≤ 4096 ∧ ((addL [] l).length : Int) ≤ 64
    · have h4 : ¬ (lenR l > 4096 ∨ (addL [] l).length > 64) := by omega
      simp only [Bool.not_false, if_true, h3, h4, and_self, if_false, Bool.false_eq_true]
    · have h4 : lenR l > 4096 ∨ (addL [] l).length > 64 := by omega
      simp only [Bool.not_false, if_true, h3, h4, if_false, Bool.false_eq_true]
      rfl
  · rfl
/-- a cut of a runlist is one -/
theorem done_part {l : List Run} (h : (chk l).2 = 0) {a c : Int} (ha : 0 ≤ a) (hc : 0 ≤ c ∧ c ≤ 4096) : doneE (addL [] (partR l a c)) = 0 := by
  have hv := chk_rg h
  have h1 := rE_vol hv
  have hF := part_fine h ha (show 0 ≤ c ∧ c ≤ 1000000 by omega)
  obtain ⟨p1, p2, p3⟩ := part_all h ha hc.1
  have hA : ∀ r ∈ addL [] (partR l a c), Vol r := addL_vol (by simp) (fun q hq => (p1 q hq).1)
  have hn : ∀ r ∈ partR l a c, 0 ≤ r.n := fun r hr => by have := (p1 r hr).2.1; omega
  have hcl : clR (partR l a c) = ((clR l).drop a.toNat).take c.toNat := by
    have := clR_part (l := l) (R := []) ha hc.1 (fun r hr => ⟨by have := (h1 r hr).2.1; omega, (h1 r hr).2.2.2⟩)
    simpa [clR, partR] using this
  have hnd : (volL l).Nodup := by
    have := frK_iff (l := addL [] l) (chk_volA h) (addL [] l).length (Nat.le_refl _)
    have h2 := dupK_iff hv l.length (Nat.le_refl _)
    rw [List.take_length] at h2
    refine h2.1 ?_
    -- a runlist has no cluster twice
    have hk : ∀ (k : Nat), k ≤ l.length → dupK l k = false := by
      have hch : (rchk l).2 = 0 := by rw [← chk_eq]; exact h
      have hlen := chk_len h
      rw [rchk, if_neg (by omega)] at hch
      have key : ∀ (n k : Nat), n = l.length - k → (rchkL l (l.drop k) k).2 = 0 → dupK l k = false → dupK l l.length = false ∨ k > l.length := by
        intro n
        induction n with
        | zero =>
          intro k hn' hc' hd
          by_cases hkk : k = l.length
          · subst hkk; exact .inl hd
          · exact .inr (by omega)
        | succ n ih =>
          intro k hn' hc' hd
          have hkl : k < l.length := by omega
          rw [rchkL_at hkl, stepR_at hkl] at hc'
          have h0 := hv l[k] (List.getElem_mem hkl)
          rw [if_neg (show ¬ (rangeE l[k].s l[k].n ≠ 0) by omega)] at hc'
          by_cases hj : 0 < k ∧ joinsB (l[k-1]'(by omega)) l[k] = true
          · rw [if_pos hj] at hc'; simp at hc'
          · rw [if_neg hj] at hc'
            by_cases hs : ((l.take k).any fun q => sharesB q l[k]) = true
            · rw [if_pos hs] at hc'; simp at hc'
            · rw [if_neg hs, if_neg (by omega)] at hc'
              have hd2 : dupK l (k + 1) = false := by
                rw [dupK_succ l k hkl, hd, Bool.false_or]; exact Bool.eq_false_iff.2 hs
              rcases ih (k + 1) (by omega) hc' hd2 with h6 | h6
              · exact .inl h6
              · exact .inr (by omega)
      have h7 := key l.length 0 (by omega) hch rfl
      intro k hk
      rcases h7 with h7 | h7
      · simp only [dupK, List.any_eq_false, List.mem_range] at h7 ⊢
        exact fun i hi => h7 i (by omega)
      · omega
    exact hk l.length (Nat.le_refl _)
  have hsub : (volL (partR l a c)).Nodup := by
    rw [volL, hcl]
    refine List.Nodup.sublist ?_ hnd
    exact List.Sublist.filter _ ((List.take_sublist _ _).trans (List.drop_sublist _ _))
  have e1 : frK (addL [] (partR l a c)) (addL [] (partR l a c)).length = true := by
    rw [frK_iff hA _ (Nat.le_refl _), List.take_length, volL_add hn]; exact hsub
  have e2 : lenW (addL [] (partR l a c)) = lenR (partR l a c) := by
    rw [lenW_eq _ (fun r hr => (hF.add.el r hr).2.2) (by have := hF.add.sum; omega), lenR_add]
  have e3 : (addL [] (partR l a c)).length ≤ (partR l a c).length := by
    have := (addL_good (R := []) (l := partR l a c) (by simp) hF.el).2.2
    simpa using this
  have := chk_len h
  rw [doneE, e1, e2]
  have h8 : lenR (partR l a c) ≤ 4096 ∧ ((addL [] (partR l a c)).length : Int) ≤ 64 := by omega
  simp [firstE, h8]
end Go.Proofs.Ytginjcpblgpcoaa
