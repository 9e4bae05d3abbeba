/- Mathematics of runlists cut in two. Conditions: none. -/
import Derived.Test.YtginjcpblgpcoaaVk
namespace Go.Proofs.Ytginjcpblgpcoaa
set_option maxRecDepth 4000
set_option linter.unusedSimpArgs false
set_option linter.unusedVariables false
variable {G : Glob} {B : CallT}
/-- no run joins the one before it -/
def NJ : List Run → Prop
  | [] => True
  | [_] => True
  | a :: b :: l => joinsB a b = false ∧ NJ (b :: l)
theorem NJ_cons {a : Run} {l : List Run} (h : ∀ b, l.head? = some b → joinsB a b = false) (hl : NJ l) : NJ (a :: l) := by
  cases l with
  | nil => trivial
  | cons b l => exact ⟨h b rfl, hl⟩
theorem NJ_tail {a : Run} {l : List Run} (h : NJ (a :: l)) : NJ l := by
  cases l with
  | nil => trivial
  | cons b l => exact h.2
theorem NJ_at {l : List Run} (h : NJ l) : ∀ (k : Nat) (hk : k + 1 < l.length), joinsB l[k] l[k + 1] = false := by
  induction l with
  | nil => intro k hk; simp at hk
  | cons a l ih =>
    intro k hk
    cases l with
    | nil => simp at hk
    | cons b l =>
      cases k with
      | zero => exact h.1
      | succ k => exact ih h.2 k (by simpa using hk)
theorem NJ_of {l : List Run} (h : ∀ (k : Nat) (hk : k + 1 < l.length), joinsB l[k] l[k + 1] = false) : NJ l := by
  induction l with
  | nil => trivial
  | cons a l ih =>
    cases l with
    | nil => trivial
    | cons b l =>
      exact ⟨h 0 (by simp), ih (fun k hk => by have := h (k + 1) (by simpa using hk); simpa using this)⟩
theorem joins_s {a q q' : Run} (h : q'.s = q.s) : joinsB a q' = joinsB a q := by simp [joinsB, h]
theorem NJ_snoc {R : List Run} {q r : Run} (h : NJ (R ++ [q])) (hj : joinsB q r = false) : NJ (R ++ [q] ++ [r]) := by
  induction R with
  | nil => exact ⟨hj, trivial⟩
  | cons a R ih =>
    have h1 := ih (NJ_tail h)
    cases R with
    | nil => exact ⟨h.1, h1⟩
    | cons b R => exact ⟨h.1, h1⟩
theorem NJ_last {R : List Run} {q q' : Run} (h : NJ (R ++ [q])) (hs : q'.s = q.s) : NJ (R ++ [q']) := by
  induction R with
  | nil => trivial
  | cons a R ih =>
    have h1 := ih (NJ_tail h)
    cases R with
    | nil => exact ⟨by rw [joins_s hs]; exact h.1, trivial⟩
    | cons b R => exact ⟨h.1, h1⟩
theorem addR_nj {R : List Run} {r : Run} (h : NJ R) : NJ (addR R r) := by
  rcases List.eq_nil_or_concat R with rfl | ⟨R', q, rfl⟩
  · trivial
  · rw [List.concat_eq_append] at *
    rw [addR_snoc]
    split
    · exact NJ_last h rfl
    · rename_i hj; exact NJ_snoc h (by simpa using hj)
theorem addL_nj {l : List Run} : ∀ {R : List Run}, NJ R → NJ (addL R l) := by
  induction l with
  | nil => intro R h; exact h
  | cons r l ih => intro R h; exact ih (addR_nj h)
theorem NJ_mid {R : List Run} {q r : Run} {l : List Run} (h : NJ (R ++ (q :: r :: l))) : joinsB q r = false := by
  induction R with
  | nil => exact h.1
  | cons a R ih => exact ih (NJ_tail h)
/-- runs that are joined already -/
theorem addL_id {l : List Run} : ∀ {R : List Run}, NJ (R ++ l) → addL R l = R ++ l := by
  induction l with
  | nil => intro R _; simp [addL]
  | cons r l ih =>
    intro R h
    show addL (addR R r) l = _
    have e : addR R r = R ++ [r] := by
      rcases List.eq_nil_or_concat R with rfl | ⟨R', q, rfl⟩
      · rfl
      · rw [List.concat_eq_append] at *
        rw [List.append_assoc, List.singleton_append] at h
        have := NJ_mid h
        rw [addR_snoc, if_neg (by rw [this]; simp)]
    rw [e, ih (by rw [List.append_assoc]; exact h), List.append_assoc]; rfl
theorem addL_nil_id {l : List Run} (h : NJ l) : addL [] l = l := addL_id h
/-- what a runlist is -/
theorem chk_steps {l : List Run} (h : (chk l).2 = 0) : ∀ j (hj : j < l.length), stepR l j l[j] = 0 := by
  have hch : (rchk l).2 = 0 := by rw [← chk_eq]; exact h
  have hlen := chk_len h
  rw [rchk, if_neg (by omega)] at hch
  have key : ∀ (n k : Nat), n = l.length - k → (rchkL l (l.drop k) k).2 = 0 → ∀ j (hj : j < l.length), k ≤ j → stepR l j l[j] = 0 := by
    intro n
    induction n with
    | zero => intro k hn hc j hj hk; omega
    | succ n ih =>
      intro k hn hc j hj hk
      have hkl : k < l.length := by omega
      rw [rchkL_at hkl] at hc
      by_cases h0 : stepR l k l[k] = 0
      · rw [if_neg (by omega)] at hc
        by_cases hjk : j = k
        · subst hjk; exact h0
        · exact ih (k + 1) (by omega) hc j hj (by omega)
      · rw [if_pos h0] at hc; exact absurd hc h0
  exact fun j hj => key l.length 0 (by omega) hch j hj (Nat.zero_le _)
theorem chk_nj {l : List Run} (h : (chk l).2 = 0) : NJ l := NJ_of (fun k hk => by
  have h1 := chk_steps h (k + 1) hk
  rw [stepR_at hk] at h1
  have h0 := chk_rg h l[k + 1] (List.getElem_mem hk)
  rw [if_neg (show ¬ (rangeE l[k + 1].s l[k + 1].n ≠ 0) by omega)] at h1
  split at h1
  · cases h1
  · rename_i h2
    have : ¬ joinsB l[k] l[k + 1] = true := fun hj => h2 ⟨by omega, hj⟩
    simpa using this)
theorem chk_dup {l : List Run} (h : (chk l).2 = 0) : dupR l = false := by
  have key : ∀ k, k ≤ l.length → dupK l k = false := by
    intro k
    induction k with
    | zero => intro _; simp [dupK]
    | succ k ih =>
      intro hk
      rw [dupK_succ l k hk, ih (by omega), Bool.false_or]
      have h1 := chk_steps h k hk
      rw [stepR_at hk] at h1
      have h0 := chk_rg h l[k] (List.getElem_mem hk)
      rw [if_neg (show ¬ (rangeE l[k].s l[k].n ≠ 0) by omega)] at h1
      split at h1
      · cases h1
      · split at h1
        · cases h1
        · rename_i h3; exact Bool.eq_false_iff.2 h3
  exact key l.length (Nat.le_refl _)
theorem chk_id {l : List Run} (h : (chk l).2 = 0) : addL [] l = l := addL_nil_id (chk_nj h)
theorem chk_res {l : List Run} (h : (chk l).2 = 0) : resE l = 0 := by
  have h1 := lenC h
  have h2 := chk_len h
  rw [resE, chk_dup h, chk_id h, if_neg (by simp), if_neg (by omega)]
theorem rangeE_vol {r : Run} (h : Vol r) (h1 : 1 ≤ r.n) (h2 : r.n ≤ 4096) : rangeE r.s r.n = 0 := by
  unfold rangeE
  rcases h with ⟨h3, _⟩ | ⟨h3, h4, h5⟩
  · rw [if_pos h3, if_pos ⟨h1, h2⟩]
  · rw [if_neg (by omega), if_pos ⟨h3, by omega⟩, if_pos ⟨h4, by omega⟩]
theorem len_mem {l : List Run} (h : ∀ r ∈ l, 0 ≤ r.n) {r : Run} (hr : r ∈ l) : r.n ≤ lenR l := by
  induction l with
  | nil => cases hr
  | cons a l ih =>
    have e1 : lenR (a :: l) = a.n + lenR l := by simp [lenR]
    have h1 := lenR_nonneg l (fun q hq => h q (List.mem_cons_of_mem _ hq))
    rcases List.mem_cons.1 hr with rfl | hr
    · omega
    · have := ih (fun q hq => h q (List.mem_cons_of_mem _ hq)) hr
      have := h a List.mem_cons_self
      omega
/-- runs that are joined, are valid, and whose result has no error, are a runlist -/
theorem chk_of {R : List Run} (hv : ∀ r ∈ R, Vol r) (hp : ∀ r ∈ R, Pos r) (hj : NJ R) (he : resE R = 0) : (chk R).2 = 0 := by
  have hn : ∀ r ∈ R, 0 ≤ r.n := fun r hr => by have := (hp r hr).1; omega
  rw [resE, addL_nil_id hj] at he
  split at he
  · cases he
  rename_i hd
  split at he
  · cases he
  rename_i hl
  have hrg : ∀ r ∈ R, rangeE r.s r.n = 0 := fun r hr => rangeE_vol (hv r hr) (hp r hr).1 (by have := len_mem hn hr; omega)
  have hst : ∀ j (h : j < R.length), stepR R j R[j] = 0 := by
    intro j hj2
    rw [stepR_at hj2, if_neg (show ¬ (rangeE R[j].s R[j].n ≠ 0) by have := hrg R[j] (List.getElem_mem hj2); omega), if_neg, if_neg]
    · intro hh
      apply hd
      unfold dupR
      rw [List.any_eq_true]
      refine ⟨j, by simpa using hj2, ?_⟩
      rw [runAt R j hj2]; exact hh
    · rintro ⟨h0, hh⟩
      have := NJ_at hj (j - 1) (by omega)
      simp only [show j - 1 + 1 = j by omega] at this
      rw [this] at hh; cases hh
  rw [chk_eq, rchk, if_neg (by omega), rchkL_to R R.length (Nat.le_refl _) (fun j hj2 => by rw [runAt R j hj2, hst j hj2]; simp), List.drop_length, rchkL, if_neg (by omega)]
def Cl (C : List Int) : Prop := ∀ x ∈ C, -1 ≤ x ∧ x ≤ 511
theorem units_vol {C : List Int} (h : Cl C) : ∀ r ∈ units C, Vol r := by
  intro r hr
  simp only [units, List.mem_map] at hr
  obtain ⟨x, hx, rfl⟩ := hr
  have := h x hx
  unfold Vol
  by_cases h1 : x = -1
  · exact .inl ⟨h1, by simp⟩
  · exact .inr ⟨by simp only; omega, by simp, by simp only; omega⟩
theorem units_pos {C : List Int} (h : Cl C) : ∀ r ∈ units C, Pos r := by
  intro r hr
  simp only [units, List.mem_map] at hr
  obtain ⟨x, hx, rfl⟩ := hr
  exact ⟨by simp, by have := h x hx; simp only; omega⟩
theorem fromC_vol {C : List Int} (h : Cl C) : ∀ r ∈ fromC C, Vol r := addL_vol (by simp) (units_vol h)
theorem fromC_pos {C : List Int} (h : Cl C) : ∀ r ∈ fromC C, Pos r := addL_pos (by simp) (units_pos h)
theorem fromC_nj (C : List Int) : NJ (fromC C) := addL_nj trivial
theorem clR_units (C : List Int) : clR (units C) = C := by
  induction C with
  | nil => rfl
  | cons x C ih =>
    rw [units, List.map_cons, clR_cons]
    show clO ⟨x, 1⟩ (1 : Int).toNat ++ clR (units C) = _
    rw [ih]
    by_cases h : x = -1 <;> simp [clO, h]
theorem clR_fromC {C : List Int} (h : Cl C) : clR (fromC C) = C := by
  rw [fromC, clR_addL (by simp) (fun q hq => by have := (units_pos h q hq).1; omega), clR_units]; rfl
theorem chk_fromC {C : List Int} (h : Cl C) (he : resE (fromC C) = 0) : (chk (fromC C)).2 = 0 := chk_of (fromC_vol h) (fromC_pos h) (fromC_nj C) he
theorem cl_ok {l : List Run} (h : (chk l).2 = 0) : Cl (clR l) := by
  intro x hx
  simp only [clR, List.mem_flatMap, clO, List.mem_map, List.mem_range] at hx
  obtain ⟨r, hr, k, hk, rfl⟩ := hx
  have h1 := (chk_vol h r hr).1
  by_cases hs : r.s = -1
  · rw [if_pos hs]; omega
  · rw [if_neg hs]
    rcases h1 with h1 | h1
    · exact absurd h1.1 hs
    · omega
theorem fromC_cl {l : List Run} (h : (chk l).2 = 0) : fromC (clR l) = l := by
  rw [fromC_clR (fun q hq => (⟨(rE_vol (chk_rg h) q hq).2.1, (rE_vol (chk_rg h) q hq).2.2.1⟩ : 1 ≤ q.n ∧ -1 ≤ q.s)), chk_id h]
/-- a cut is a runlist -/
theorem chk_cut {l : List Run} (h : (chk l).2 = 0) {x y : Int} (hx : 0 ≤ x ∧ x ≤ 4096) (hy : 0 ≤ y ∧ y ≤ 4096) (hs : x + y ≤ lenR l) : (chk (fromC (((clR l).take (x + y).toNat).drop x.toNat))).2 = 0 := by
  have e : fromC (((clR l).take (x + y).toNat).drop x.toNat) = addL [] (partR l x y) := by
    rw [← fromC_clR (part_pos h hx.1 hy.1), part_cl h hx.1 hy.1, List.take_drop]
    congr 3; omega
  have hC : Cl (((clR l).take (x + y).toNat).drop x.toNat) := fun z hz => cl_ok h z (List.mem_of_mem_take (List.mem_of_mem_drop hz))
  refine chk_fromC hC ?_
  have hd := done_part h hx.1 hy
  have hF := part_fine h hx.1 (show 0 ≤ y ∧ y ≤ 1000000 by omega)
  have hp := part_pos h hx.1 hy.1
  rw [← e] at hd
  rw [← done_eq (fromC_vol hC) (by rw [e]; exact hF.add) (by rw [e]; exact addL_idem hp)]
  exact hd
/-- two halves joined are the whole -/
theorem halves {l : List Run} (h : (chk l).2 = 0) {a b : List Run} (ha : (chk a).2 = 0) (hb : (chk b).2 = 0) (hc : clR a ++ clR b = clR l) : joinedV a b = (l, 0) := by
  obtain ⟨h1, h2, _⟩ := app_ok ha hb
  have e : addL [] (a ++ b) = l := by
    rw [← fromC_clR (fun q hq => (⟨(rE_vol h1 q hq).2.1, (rE_vol h1 q hq).2.2.1⟩ : 1 ≤ q.n ∧ -1 ≤ q.s)), clR_append, hc, fromC_cl h]
  have hE : joinE a b = 0 := by
    rw [joinE, if_neg (by omega), if_neg (by omega), ← done_res h1 h2, e, done_eq (fun r hr => (chk_vol h r hr).1) (chk_fine h) (chk_id h), chk_res h]
  rw [joinedV_eq, if_pos hE, e]
/-- what is behind a cluster -/
def dropR : List Run → Int → List Run
  | [], _ => []
  | r :: l, i => if i < r.n then ⟨if r.s = -1 then -1 else r.s + i, r.n - i⟩ :: l else dropR l (i - r.n)
theorem clO_drop (r : Run) (i : Int) (h : 0 ≤ i ∧ i < r.n) (hs : r.s ≠ -1 → 0 ≤ r.s) : clO ⟨if r.s = -1 then -1 else r.s + i, r.n - i⟩ (r.n - i).toNat = (clO r r.n.toNat).drop i.toNat := by
  refine List.ext_getElem (by simp [clO]; omega) (fun k h1 h2 => ?_)
  simp only [clO, List.getElem_map, List.getElem_range, List.getElem_drop]
  by_cases h3 : r.s = -1
  · simp [h3]
  · have := hs h3
    rw [if_neg h3, if_neg h3, if_neg (by omega)]
    simp only [List.length_drop] at h2
    omega
theorem clR_dropR {l : List Run} : ∀ {i : Int}, 0 ≤ i → (∀ r ∈ l, 1 ≤ r.n ∧ (r.s ≠ -1 → 0 ≤ r.s)) → clR (dropR l i) = (clR l).drop i.toNat := by
  induction l with
  | nil => intro i _ _; simp [dropR, clR]
  | cons r l ih =>
    intro i hi h
    have hr := h r List.mem_cons_self
    have hln : (clO r r.n.toNat).length = r.n.toNat := by simp [clO]
    rw [dropR, clR_cons]
    split
    · rename_i h1
      rw [clR_cons]
      show clO _ (r.n - i).toNat ++ _ = _
      rw [clO_drop r i ⟨hi, h1⟩ hr.2, List.drop_append_of_le_length (by omega)]
    · rename_i h1
      rw [ih (by omega) (fun q hq => h q (List.mem_cons_of_mem _ hq)), List.drop_append, hln, List.drop_of_length_le (l := clO r r.n.toNat) (by omega), List.nil_append]
      congr 1; omega
theorem dropR_pos {l : List Run} : ∀ {i : Int}, 0 ≤ i → (∀ r ∈ l, 1 ≤ r.n ∧ (r.s ≠ -1 → 0 ≤ r.s)) → ∀ q ∈ dropR l i, 1 ≤ q.n ∧ -1 ≤ q.s := by
  induction l with
  | nil => intro i _ _ q hq; cases hq
  | cons r l ih =>
    intro i hi h q hq
    have hr := h r List.mem_cons_self
    rw [dropR] at hq
    split at hq
    · rcases List.mem_cons.1 hq with rfl | hq
      · refine ⟨by simp only; omega, ?_⟩
        simp only
        split
        · omega
        · rename_i h3; have := hr.2 h3; omega
      · have h4 := h q (List.mem_cons_of_mem _ hq)
        refine ⟨h4.1, ?_⟩
        by_cases h5 : q.s = -1
        · omega
        · have := h4.2 h5; omega
    · exact ih (by omega) (fun q hq => h q (List.mem_cons_of_mem _ hq)) q hq
theorem dropR_nj {l : List Run} : ∀ {i : Int}, 0 ≤ i → (∀ r ∈ l, 1 ≤ r.n ∧ (r.s ≠ -1 → 0 ≤ r.s)) → NJ l → NJ (dropR l i) := by
  induction l with
  | nil => intro i _ _ _; trivial
  | cons r l ih =>
    intro i hi h hj
    have hr := h r List.mem_cons_self
    rw [dropR]
    split
    · cases l with
      | nil => trivial
      | cons b l =>
        refine ⟨?_, hj.2⟩
        have h1 := hj.1
        have hb := h b (by simp)
        unfold joinsB at h1 ⊢
        by_cases h3 : r.s = -1
        · simpa [h3] using h1
        · have := hr.2 h3
          rw [if_neg h3]
          have e1 : decide (r.s + i = -1) = false := by simp; omega
          have e2 : decide (r.s = -1) = false := by simp [h3]
          have e3 : r.s + i + (r.n - i) = r.s + r.n := by omega
          simp only [e1, e2, e3] at h1 ⊢
          exact h1
    · exact ih (by omega) (fun q hq => h q (List.mem_cons_of_mem _ hq)) (NJ_tail hj)
theorem dropR_at {l : List Run} : ∀ {i : Int}, 0 ≤ i → (∀ r ∈ l, 1 ≤ r.n ∧ (r.s ≠ -1 → 0 ≤ r.s)) → atR (dropR l i) 0 = atR l i ∧ leftR (dropR l i) 0 = leftR l i := by
  induction l with
  | nil => intro i _ _; exact ⟨rfl, rfl⟩
  | cons r l ih =>
    intro i hi h
    have hr := h r List.mem_cons_self
    by_cases h1 : i < r.n
    · have h2 : (0 : Int) < r.n - i := by omega
      by_cases h3 : r.s = -1
      · simp only [dropR, atR, leftR, if_pos h1, if_pos h2, if_pos h3, Int.sub_zero, if_true, and_self]
      · have := hr.2 h3
        have h4 : ¬ r.s + i = -1 := by omega
        simp only [dropR, atR, leftR, if_pos h1, if_pos h2, if_neg h3, if_neg h4, Int.sub_zero, Int.add_zero, and_self]
    · rw [dropR, atR, leftR, if_neg h1, if_neg h1, if_neg h1]
      exact ih (by omega) (fun q hq => h q (List.mem_cons_of_mem _ hq))
theorem second_half {l : List Run} (h : (chk l).2 = 0) {i : Int} (hi : 0 ≤ i) : fromC ((clR l).drop i.toNat) = dropR l i := by
  have hv := rE_vol (chk_rg h)
  have h1 : ∀ r ∈ l, 1 ≤ r.n ∧ (r.s ≠ -1 → 0 ≤ r.s) := fun r hr => ⟨(hv r hr).2.1, (hv r hr).2.2.2⟩
  rw [← clR_dropR hi h1, fromC_clR (dropR_pos hi h1), addL_nil_id (dropR_nj hi h1 (chk_nj h))]
/-- no more in one list than in the other -/
theorem nodup_le {α : Type} [DecidableEq α] : ∀ {a b : List α}, a.Nodup → (∀ x ∈ a, x ∈ b) → a.length ≤ b.length
  | [], _, _, _ => Nat.zero_le _
  | x :: a, b, hn, h => by
    have hx := h x List.mem_cons_self
    obtain ⟨h1, h2⟩ := List.nodup_cons.1 hn
    have h3 := nodup_le (a := a) (b := b.erase x) h2 (fun y hy => by
      have hne : y ≠ x := fun e => h1 (e ▸ hy)
      exact (List.mem_erase_of_ne hne).2 (h y (List.mem_cons_of_mem _ hy)))
    rw [List.length_erase_of_mem hx] at h3
    have := List.length_pos_of_mem hx
    simp only [List.length_cons]; omega
theorem mem_ext {l : List Run} {k : Nat} {x : Int} : x ∈ extC l [] k ↔ x ∈ clR l ∧ 0 ≤ x ∧ x < k := by
  unfold extC
  simp only [List.mem_map, List.mem_filter, List.mem_range, decide_eq_true_eq]
  constructor
  · rintro ⟨c, ⟨h1, h2, _⟩, rfl⟩
    exact ⟨h2, by simp, by simpa using h1⟩
  · rintro ⟨h1, h2, h3⟩
    refine ⟨x.toNat, ⟨by omega, ?_, by simp [clR]⟩, by simp; omega⟩
    rw [show ((x.toNat : Nat) : Int) = x by omega]; exact h1
theorem ext_nodup (l : List Run) (k : Nat) : (extC l [] k).Nodup := by
  unfold extC
  rw [List.Nodup, List.pairwise_map]
  exact (List.nodup_range.sublist List.filter_sublist).imp (fun h e => h (Int.ofNat.inj e))
theorem ext_cl (l : List Run) : Cl (extC l [] 512) := fun x hx => by
  have := (mem_ext.1 hx).2
  omega
theorem vol_filter {l : List Run} (h : ∀ r ∈ l, r.s ≠ -1 → 0 ≤ r.s) : volL l = clR (l.filter fun r => !decide (r.s = -1)) := by
  induction l with
  | nil => rfl
  | cons r l ih =>
    have ih := ih (fun q hq => h q (List.mem_cons_of_mem _ hq))
    have hr := h r List.mem_cons_self
    have e : volL (r :: l) = (clO r r.n.toNat).filter (fun x => decide (x ≠ -1)) ++ volL l := by rw [volL, clR_cons, List.filter_append]; rfl
    rw [e, ih]
    by_cases h1 : r.s = -1
    · have : (clO r r.n.toNat).filter (fun x => decide (x ≠ -1)) = [] := by
        rw [List.filter_eq_nil_iff]
        intro x hx
        simp only [clO, List.mem_map] at hx
        obtain ⟨k, _, rfl⟩ := hx
        simp [h1]
      rw [this]; simp [h1]
    · have : (clO r r.n.toNat).filter (fun x => decide (x ≠ -1)) = clO r r.n.toNat := by
        rw [List.filter_eq_self]
        intro x hx
        simp only [clO, List.mem_map] at hx
        obtain ⟨k, _, rfl⟩ := hx
        have := hr h1
        simp [h1]; omega
      rw [this, List.filter_cons_of_pos (by simp [h1]), clR_cons]
theorem chk_volnd {l : List Run} (h : (chk l).2 = 0) : (volL l).Nodup := by
  have h2 := dupK_iff (chk_rg h) l.length (Nat.le_refl _)
  rw [List.take_length] at h2
  exact h2.1 (chk_dup h)
/-- the extents have as many clusters as are allocated -/
theorem ext_len {l : List Run} (h : (chk l).2 = 0) : ((extC l [] 512).length : Int) = lenR (l.filter fun r => !decide (r.s = -1)) := by
  have hv := rE_vol (chk_rg h)
  have e : (extC l [] 512).length = (volL l).length := by
    refine Nat.le_antisymm (nodup_le (ext_nodup l 512) (fun x hx => ?_)) (nodup_le (chk_volnd h) (fun x hx => ?_))
    · obtain ⟨h1, h2, _⟩ := mem_ext.1 hx
      exact List.mem_filter.2 ⟨h1, by simp; omega⟩
    · obtain ⟨h1, h2⟩ := List.mem_filter.1 hx
      have := cl_ok h x h1
      simp at h2
      exact mem_ext.2 ⟨h1, by omega, by omega⟩
  rw [e, vol_filter (fun r hr => (hv r hr).2.2.2)]
  exact clR_len _ (fun r hr => by have := (hv r (List.mem_filter.1 hr).1).2.1; omega)
/-- each extent begins where a run begins -/
theorem ext_starts {l : List Run} (h : (chk l).2 = 0) (k : Nat) (hk : k ≤ 512) :
    (∀ r ∈ fromC (extC l [] k), r.s ∈ l.map Run.s ∧ r.s < k) ∧ ((fromC (extC l [] k)).map Run.s).Nodup ∧
    (∀ c : Nat, c + 1 = k → (c : Int) ∈ clR l → ∃ (R : List Run) (q : Run), fromC (extC l [] k) = R ++ [q] ∧ 0 ≤ q.s ∧ q.s + q.n = (k : Int)) := by
  induction k with
  | zero => exact ⟨by simp [extC, fromC, units, addL], by simp [extC, fromC, units, addL], fun c hc => by omega⟩
  | succ k ih =>
    obtain ⟨i1, i2, i3⟩ := ih (by omega)
    rw [extC_succ]
    by_cases hm : (k : Int) ∈ clR l
    · rw [if_pos ⟨hm, by simp [clR]⟩]
      have e : fromC (extC l [] k ++ [(k : Int)]) = addR (fromC (extC l [] k)) ⟨k, 1⟩ := by
        simp only [fromC, units, List.map_append, addL_app]; rfl
      rw [e]
      generalize hR : fromC (extC l [] k) = R at i1 i2 i3 ⊢
      -- the start of a run, or one more in the last one
      by_cases hp : ∃ c : Nat, c + 1 = k ∧ (c : Int) ∈ clR l
      · obtain ⟨c, h1, h2⟩ := hp
        obtain ⟨R', q, rfl, h3, h4⟩ := i3 c h1 h2
        have hj : joinsB q ⟨k, 1⟩ = true := by
          unfold joinsB
          have e1 : decide (q.s = -1) = false := by simp; omega
          have e2 : decide ((k : Int) = -1) = false := by simp
          simp only [e1, e2, h4]; simp
        rw [addR_snoc, if_pos hj]
        refine ⟨fun r hr => ?_, ?_, fun c' hc' _ => ⟨R', _, rfl, h3, by simp only; omega⟩⟩
        · rcases List.mem_append.1 hr with hr | hr
          · have := i1 r (List.mem_append_left _ hr); exact ⟨this.1, by omega⟩
          · simp only [List.mem_singleton] at hr
            subst hr
            have := i1 q (by simp); exact ⟨this.1, by simp only; omega⟩
        · simpa using i2
      · have hst : (k : Int) ∈ l.map Run.s := by
          have hm' := hm
          simp only [clR, List.mem_flatMap, clO, List.mem_map, List.mem_range] at hm'
          obtain ⟨r, hr, j, hj, he⟩ := hm'
          have hv := (rE_vol (chk_rg h) r hr)
          by_cases hs : r.s = -1
          · rw [if_pos hs] at he; omega
          · rw [if_neg hs] at he
            have h0 := hv.2.2.2 hs
            cases j with
            | zero => exact List.mem_map.2 ⟨r, hr, by simpa using he⟩
            | succ j =>
              exfalso
              refine hp ⟨k - 1, by omega, ?_⟩
              simp only [clR, List.mem_flatMap, clO, List.mem_map, List.mem_range]
              exact ⟨r, hr, j, by omega, by rw [if_neg hs]; omega⟩
        rcases List.eq_nil_or_concat R with rfl | ⟨R', q, rfl⟩
        · rw [addR_nil]
          exact ⟨by simp; exact ⟨by simpa using hst, by omega⟩, by simp, fun c hc _ => ⟨[], _, rfl, by simp, by simp⟩⟩
        · rw [List.concat_eq_append] at *
          rw [addR_snoc]
          split
          · rename_i hj
            refine ⟨fun r hr => ?_, by simpa using i2, fun c hc _ => ⟨R', _, rfl, ?_, ?_⟩⟩
            · rcases List.mem_append.1 hr with hr | hr
              · have := i1 r (List.mem_append_left _ hr); exact ⟨this.1, by omega⟩
              · simp only [List.mem_singleton] at hr
                subst hr
                have := i1 q (by simp); exact ⟨this.1, by simp only; omega⟩
            all_goals
              unfold joinsB at hj
              have e2 : decide ((k : Int) = -1) = false := by simp
              simp only [e2] at hj
              have h5 : q.s ≠ -1 := fun e => by simp [e] at hj
              have h6 : q.s + q.n = k := by simpa [h5] using hj
              have h7 := fromC_pos (C := extC l [] k) (fun x hx => by have := (mem_ext.1 hx).2; omega) q (by rw [hR]; simp)
              unfold Pos at h7
              simp only; omega
          · refine ⟨fun r hr => ?_, ?_, fun c hc _ => ⟨R' ++ [q], _, rfl, by simp, by simp⟩⟩
            · rcases List.mem_append.1 hr with hr | hr
              · have := i1 r hr; exact ⟨this.1, by omega⟩
              · simp only [List.mem_singleton] at hr
                subst hr
                exact ⟨hst, by simp only; omega⟩
            · rw [List.map_append, List.nodup_append]
              refine ⟨i2, by simp, fun x hx y hy => ?_⟩
              obtain ⟨r, hr, rfl⟩ := List.mem_map.1 hx
              have := (i1 r hr).2
              simp only [List.map_cons, List.map_nil, List.mem_singleton] at hy
              omega
    · rw [if_neg (fun hh => hm hh.1)]
      refine ⟨fun r hr => by have := i1 r hr; exact ⟨this.1, by omega⟩, i2, fun c hc hcm => ?_⟩
      have : c = k := by omega
      subst this
      exact absurd hcm hm
theorem ext_chk {l : List Run} (h : (chk l).2 = 0) : (chk (fromC (extC l [] 512))).2 = 0 := by
  have hC := ext_cl l
  refine chk_fromC hC ?_
  obtain ⟨s1, s2, _⟩ := ext_starts h 512 (Nat.le_refl _)
  have hle := nodup_le s2 (b := l.map Run.s) (fun x hx => by
    obtain ⟨r, hr, rfl⟩ := List.mem_map.1 hx
    exact (s1 r hr).1)
  simp only [List.length_map] at hle
  have hl := chk_len h
  have hn : ∀ r ∈ fromC (extC l [] 512), 0 ≤ r.n := fun r hr => by have := (fromC_pos hC r hr).1; omega
  have hsum : lenR (fromC (extC l [] 512)) ≤ 512 := by
    rw [← clR_len _ hn, clR_fromC hC]
    have := extC_len l [] 512
    omega
  have hd : dupR (fromC (extC l [] 512)) = false := by
    refine (dupK_vol (fromC_vol hC) _ (Nat.le_refl _)).2 ?_
    rw [List.take_length, volL, clR_fromC hC]
    exact (ext_nodup l 512).sublist List.filter_sublist
  rw [resE, hd, addL_nil_id (fromC_nj _), if_neg (by simp), if_neg (by omega)]
/-- what is inserted and removed again leaves the runlist -/
theorem back_eq {l b : List Run} (h1 : (chk l).2 = 0) (h2 : (chk b).2 = 0) {i : Int} (hi : 0 ≤ i ∧ i ≤ lenR l) :
    insertedV l i b = (if resE (fromC ((clR l).take i.toNat ++ clR b ++ (clR l).drop i.toNat)) = 0 then (fromC ((clR l).take i.toNat ++ clR b ++ (clR l).drop i.toNat), 0) else ([], resE (fromC ((clR l).take i.toNat ++ clR b ++ (clR l).drop i.toNat)))) ∧
    (resE (fromC ((clR l).take i.toNat ++ clR b ++ (clR l).drop i.toNat)) = 0 → removedV (fromC ((clR l).take i.toNat ++ clR b ++ (clR l).drop i.toNat)) i (lenR b) = (l, 0)) := by
  have hb := lenC h1
  have hb2 := lenC h2
  have hl := cl_len h1
  have hl2 := cl_len h2
  obtain ⟨e1, _, _⟩ := made_eq (a := i) (n := 0) h1 h2 (by omega) (by omega) rfl
  rw [Int.add_zero] at e1
  have hE : changeE l i b 0 = 0 := by rw [changeE_eq h1 h2 _ _ (by omega), if_pos (by omega), if_neg (by omega)]
  refine ⟨by rw [insertedV, if_neg (by omega)]; exact e1, fun hr => ?_⟩
  generalize hCe : (clR l).take i.toNat ++ clR b ++ (clR l).drop i.toNat = C at hr ⊢
  have hC : Cl C := fun x hx => by
    rw [← hCe] at hx
    simp only [List.mem_append] at hx
    rcases hx with (hx | hx) | hx
    · exact cl_ok h1 x (List.mem_of_mem_take hx)
    · exact cl_ok h2 x hx
    · exact cl_ok h1 x (List.mem_of_mem_drop hx)
  have hk := chk_fromC hC hr
  have hlen : lenR (fromC C) = C.length := by rw [← cl_len hk, clR_fromC hC]
  have hCl : (C.length : Int) = lenR l + lenR b := by
    rw [← hCe]
    simp only [List.length_append, List.length_take, List.length_drop]
    omega
  have ht : ((clR l).take i.toNat).length = i.toNat := by rw [List.length_take]; omega
  rw [removedV_eq hk (by omega) (by omega) (by omega), clR_fromC hC]
  have e2 : C.take i.toNat ++ C.drop (i + lenR b).toNat = clR l := by
    rw [← hCe, List.append_assoc, List.take_left' ht, ← List.append_assoc, List.drop_left' (by rw [List.length_append, ht]; omega), List.take_append_drop]
  rw [e2, fromC_cl h1]
theorem resE_vals (R : List Run) : resE R = 0 ∨ resE R = 8 ∨ resE R = 23 := by
  unfold resE
  split
  · exact .inr (.inr rfl)
  · split
    · exact .inr (.inl rfl)
    · exact .inl rfl
end Go.Proofs.Ytginjcpblgpcoaa
