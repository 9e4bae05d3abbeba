/- What changes make, as the reference says. Conditions: none. -/
import Derived.Test.YtginjcpblgpcoaaVj
namespace Go.Proofs.Ytginjcpblgpcoaa
set_option maxRecDepth 4000
set_option linter.unusedSimpArgs false
set_option linter.unusedVariables false
variable {G : Glob} {B : CallT}
theorem shares_vol {q r : Run} (hq : Vol q) (hr : Vol r) : sharesB q r = true ↔ ∃ c, q.has c = true ∧ r.has c = true := by
  simp only [sharesB, Run.has, Bool.and_eq_true, bne_iff_ne, decide_eq_true_eq, ne_eq]
  unfold Vol at hq hr
  constructor
  · rintro ⟨a1, a2, a3, a4⟩
    by_cases h : q.s ≤ r.s
    · exact ⟨r.s.toNat, by omega, by omega⟩
    · exact ⟨q.s.toNat, by omega, by omega⟩
  · rintro ⟨c, b1, b2⟩
    omega
theorem dupK_vol {l : List Run} (hv : ∀ r ∈ l, Vol r) (k : Nat) (hk : k ≤ l.length) : dupK l k = false ↔ (volL (l.take k)).Nodup := by
  induction k with
  | zero => simp [dupK, volL, clR]
  | succ k ih =>
    have ih := ih (by omega)
    rw [dupK_succ l k (by omega), Bool.or_eq_false_iff, vol_step hv k (by omega), List.any_eq_false]
    have hr := hv l[k] (List.getElem_mem (by omega))
    constructor
    · rintro ⟨h1, h2⟩
      refine ⟨ih.1 h1, fun c hc q hq => ?_⟩
      rw [Bool.eq_false_iff]
      intro hh
      exact h2 q hq ((shares_vol (hv q (List.mem_of_mem_take hq)) hr).2 ⟨c, hh, hc⟩)
    · rintro ⟨h1, h2⟩
      refine ⟨ih.2 h1, fun q hq hh => ?_⟩
      obtain ⟨c, h3, h4⟩ := (shares_vol (hv q (List.mem_of_mem_take hq)) hr).1 hh
      rw [h2 c h4 q hq] at h3; cases h3
theorem done_eq {R : List Run} (hv : ∀ r ∈ R, Vol r) (hF : Fine R) (hR : addL [] R = R) : doneE R = resE R := by
  have e1 : frK R R.length = !(dupR R) := by
    rw [Bool.eq_iff_iff, frK_iff hv _ (Nat.le_refl _), List.take_length]
    have := dupK_vol hv R.length (Nat.le_refl _)
    rw [List.take_length] at this
    rw [Bool.not_eq_true']
    exact this.symm
  have e2 : lenW R = lenR R := lenW_eq _ (fun r hr => (hF.el r hr).2.2) (by have := hF.sum; omega)
  rw [doneE, e1, e2, resE, firstE, firstE, firstE, hR]
  cases dupR R
  · by_cases h3 : lenR R ≤ 4096 ∧ (R.length : Int) ≤ 64
    · have h4 : ¬ (lenR R > 4096 ∨ R.length > 64) := by omega
      simp only [Bool.not_false, if_true, h3, h4, and_self, if_false, Bool.false_eq_true]
    · have h4 : lenR R > 4096 ∨ R.length > 64 := by omega
      simp only [Bool.not_false, if_true, h3, h4, if_false, Bool.false_eq_true]
      rfl
  · rfl
def Pos (q : Run) : Prop := 1 ≤ q.n ∧ -1 ≤ q.s
theorem addR_pos {R : List Run} {r : Run} (hR : ∀ q ∈ R, Pos q) (hr : Pos r) : ∀ q ∈ addR R r, Pos q := by
  rcases List.eq_nil_or_concat R with rfl | ⟨R', q0, rfl⟩
  · rw [addR_nil]; simpa using hr
  · rw [List.concat_eq_append] at *
    rw [addR_snoc]
    have h0 := hR q0 (by simp)
    split
    · intro q hq
      rcases List.mem_append.1 hq with hq | hq
      · exact hR q (List.mem_append_left _ hq)
      · simp at hq; subst hq; unfold Pos at *; simp only; omega
    · intro q hq
      rcases List.mem_append.1 hq with hq | hq
      · exact hR q hq
      · simp at hq; subst hq; exact hr
theorem addL_pos {l : List Run} : ∀ {R : List Run}, (∀ q ∈ R, Pos q) → (∀ q ∈ l, Pos q) → ∀ q ∈ addL R l, Pos q := by
  induction l with
  | nil => intro R hR _; exact hR
  | cons r l ih => intro R hR hl; exact ih (addR_pos hR (hl r List.mem_cons_self)) (fun q hq => hl q (List.mem_cons_of_mem _ hq))
theorem addL_idem {l : List Run} (h : ∀ q ∈ l, Pos q) : addL [] (addL [] l) = addL [] l := by
  have h1 : ∀ q ∈ addL [] l, Pos q := addL_pos (by simp) h
  rw [← fromC_clR h1, clR_addL (by simp) (fun q hq => by have := h q hq; unfold Pos at this; omega), ← fromC_clR h]
  rfl
/-- parts and runs between them -/
theorem made_three {F : List Run} {C : List Int} (hF : Fine F) (hv : ∀ q ∈ F, Vol q) (hp : ∀ q ∈ F, Pos q) (hC : clR F = C) : addL [] F = fromC C ∧ doneE (addL [] F) = resE (fromC C) ∧ Fine (fromC C) ∧ (fromC C).length ≤ F.length := by
  have e : addL [] F = fromC C := by rw [← hC, fromC_clR hp]
  have hF2 := hF.add
  refine ⟨e, ?_, by rw [← e]; exact hF2, ?_⟩
  · rw [← e]; exact done_eq (addL_vol (by simp) hv) hF2 (addL_idem hp)
  · rw [← e]
    have := (addL_good (R := []) (by simp) hF.el).2.2
    simpa using this
theorem three_cl {l b : List Run} {a n : Int} (h1 : (chk l).2 = 0) (h2 : (chk b).2 = 0) (ha : 0 ≤ a ∧ a ≤ 4096) (hn : 0 ≤ n) :
    (∀ q ∈ [partR l 0 a, b, partR l (a + n) (lenR l)].flatten, Vol q) ∧ (∀ q ∈ [partR l 0 a, b, partR l (a + n) (lenR l)].flatten, Pos q) ∧
    clR [partR l 0 a, b, partR l (a + n) (lenR l)].flatten = (clR l).take a.toNat ++ clR b ++ (clR l).drop (a + n).toNat ∧ [partR l 0 a, b, partR l (a + n) (lenR l)].flatten.length ≤ 192 := by
  have hb := lenC h1
  have hl := cl_len h1
  have e : [partR l 0 a, b, partR l (a + n) (lenR l)].flatten = partR l 0 a ++ (b ++ partR l (a + n) (lenR l)) := by simp
  have s1 := part_all h1 (a := 0) (c := a) (by omega) ha.1
  have s2 := part_all h1 (a := a + n) (c := lenR l) (by omega) hb.1
  have p1 := part_pos h1 (a := 0) (c := a) (by omega) ha.1
  have p2 := part_pos h1 (a := a + n) (c := lenR l) (by omega) hb.1
  have l1 := chk_len h1
  have l2 := chk_len h2
  have hvb := rE_vol (chk_rg h2)
  rw [e]
  refine ⟨fun q hq => ?_, fun q hq => ?_, ?_, ?_⟩
  · simp only [List.mem_append] at hq
    rcases hq with hq | hq | hq
    · exact (s1.1 q hq).1
    · exact (hvb q hq).1
    · exact (s2.1 q hq).1
  · simp only [List.mem_append] at hq
    rcases hq with hq | hq | hq
    · exact p1 q hq
    · exact ⟨(hvb q hq).2.1, (hvb q hq).2.2.1⟩
    · exact p2 q hq
  · rw [clR_append, clR_append, part_cl h1 (by omega) ha.1, part_cl h1 (by omega) hb.1, List.append_assoc]
    simp only [Int.toNat_zero, List.drop_zero]
    congr 2
    exact List.take_of_length_le (by rw [List.length_drop]; omega)
  · simp only [List.length_append]; omega
theorem changeE_eq {l b : List Run} (h1 : (chk l).2 = 0) (h2 : (chk b).2 = 0) (a n : Int) (hn : 0 ≤ n ∧ n ≤ 4096) : changeE l a b n = if 0 ≤ a ∧ a ≤ 4096 then (if a + n > lenR l then 37 else 0) else 2 := by
  have hb := lenC h1
  rw [changeE, errs2, if_pos h1, h2, lenW_chk h1, wrap64 (by omega)]
  by_cases h3 : 0 ≤ a ∧ a ≤ 4096
  · by_cases h4 : a ≤ lenR l - n
    · have h5 : ¬ a + n > lenR l := by omega
      simp only [firstE, if_true, h3, h4, h5, if_false, and_self]
    · have h5 : a + n > lenR l := by omega
      simp only [firstE, if_true, h3, h4, h5, if_false, and_self]
      rfl
  · simp only [firstE, if_true, if_neg h3]
    rfl
theorem changeE_err {l b : List Run} (h : errsE [l, b] ≠ 0) (a n : Int) : changeE l a b n = errsE [l, b] := by
  rw [changeE, firstE, if_neg h]
theorem made_eq {l b : List Run} {a n : Int} (h1 : (chk l).2 = 0) (h2 : (chk b).2 = 0) (ha : 0 ≤ a ∧ a ≤ 4096) (hn : 0 ≤ n) {C : List Int} (hC : C = (clR l).take a.toNat ++ clR b ++ (clR l).drop (a + n).toNat) :
    madeV [partR l 0 a, b, partR l (a + n) (lenR l)] = (if resE (fromC C) = 0 then (fromC C, 0) else ([], resE (fromC C))) ∧ Fine (fromC C) ∧ (fromC C).length ≤ 1000 := by
  obtain ⟨v, p, c, ln⟩ := three_cl h1 h2 ha hn
  obtain ⟨e1, e2, e3, e4⟩ := made_three (three_ok h1 h2 ha hn).1 v p (c.trans hC.symm)
  refine ⟨?_, e3, by omega⟩
  rw [madeV, e2, e1]
theorem lessR_getD (U V : List Bool) (n j : Nat) (hj : j < n) (hn : n ≤ U.length) : (lessR U V n).getD j false = (U.getD j false && !(V.getD j false)) := by
  induction n with
  | zero => omega
  | succ n ih =>
    rw [lessR, List.getD_eq_getElem?_getD]
    by_cases h : j = n
    · subst h
      rw [List.getElem?_set_self (by rw [lessR_len]; omega)]; rfl
    · rw [List.getElem?_set_ne (fun e => h e.symm), ← List.getD_eq_getElem?_getD]
      exact ih (by omega) (by omega)
theorem mem_cl {l : List Run} (hv : ∀ r ∈ l, Vol r) (c : Nat) : (c : Int) ∈ clR l ↔ (l.any fun r => r.has c) = true := by
  have h : (c : Int) ∈ volL l ↔ (c : Int) ∈ clR l := by
    unfold volL
    rw [List.mem_filter]
    constructor
    · exact fun h => h.1
    · exact fun h => ⟨h, by simp⟩
  rw [← h, mem_vol hv, List.any_eq_true]
  constructor
  · rintro ⟨r, hr, c', hc, hh⟩
    have : c' = c := by omega
    subst this
    exact ⟨r, hr, hh⟩
  · rintro ⟨r, hr, hh⟩
    exact ⟨r, hr, c, rfl, hh⟩
theorem exR_from (U : List Bool) (a b : List Run) (k : Nat) (h : ∀ j, j < k → U.getD j false = decide ((j : Int) ∈ clR a ∧ ¬ (j : Int) ∈ clR b)) : exR U k = fromC (extC a b k) := by
  induction k with
  | zero => rfl
  | succ k ih =>
    have ih := ih (fun j hj => h j (by omega))
    rw [exR, extC_succ, h k (Nat.lt_succ_self k), ih]
    by_cases hc : (k : Int) ∈ clR a ∧ ¬ (k : Int) ∈ clR b
    · rw [if_pos hc, if_pos (by simpa using hc)]
      simp [fromC, units, addL]
    · rw [if_neg hc, if_neg (by simpa using hc)]
theorem freed_eq {a b : List Run} (h1 : (chk a).2 = 0) (h2 : (chk b).2 = 0) : freedV a b = (fromC (extC a b 512), 0) := by
  have h : errsE [a, b] = 0 := by rw [errs2, if_pos h1, h2]
  have va : ∀ r ∈ a, Vol r := fun r hr => (chk_vol h1 r hr).1
  have vb : ∀ r ∈ b, Vol r := fun r hr => (chk_vol h2 r hr).1
  have lA : (intoL U0 a).length = 512 := by rw [intoL_len]; exact U0_len
  rw [freedV, if_neg (by omega), exR_from _ a b 512]
  intro j hj
  rw [lessR_getD _ _ _ _ hj (by omega), intoL_getD_vol U0 a U0_len va, intoL_getD_vol U0 b U0_len vb, U0_getD]
  rw [Bool.eq_iff_iff, decide_eq_true_eq, mem_cl va, mem_cl vb]
  simp
end Go.Proofs.Ytginjcpblgpcoaa
