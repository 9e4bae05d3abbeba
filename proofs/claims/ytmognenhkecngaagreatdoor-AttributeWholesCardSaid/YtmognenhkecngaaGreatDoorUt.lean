/- Attributes that are split, by the reference; both parts together. Conditions: none. -/
import Derived.Test.YtmognenhkecngaaGreatDoorVj
namespace Go.Proofs.YtmognenhkecngaaGreatDoor
section
set_option maxRecDepth 4000
set_option linter.unusedSimpArgs false
set_option linter.unusedVariables false
variable {G : Glob} {B : CallT}
theorem shares_vol {q r : Run} (hq : Vol q) (hr : Vol r) : sharesB q r = true ↔ ∃ c, q.has c = true ∧ r.has c = true := by
  simp only [sharesB, Run.has, Bool.and_eq_true, bne_iff_ne, decide_eq_true_eq, ne_eq]
  unfold Vol at hq hr
  constructor
  · rintro ⟨a1, a2, a3, a4⟩
    by_cases h : q.s ≤ r.s
    · exact ⟨r.s.toNat, by omega, by omega⟩
    · exact ⟨q.s.toNat, by omega, by omega⟩
  · rintro ⟨c, b1, b2⟩
    omega
theorem dupK_vol {l : List Run} (hv : ∀ r ∈ l, Vol r) (k : Nat) (hk : k ≤ l.length) : dupK l k = false ↔ (volL (l.take k)).Nodup := by
  induction k with
  | zero => simp [dupK, volL, clR]
  | succ k ih =>
    have ih := ih (by omega)
    rw [dupK_succ l k (by omega), Bool.or_eq_false_iff, vol_step hv k (by omega), List.any_eq_false]
    have hr := hv l[k] (List.getElem_mem (by omega))
    constructor
    · rintro ⟨h1, h2⟩
      refine ⟨ih.1 h1, fun c hc q hq => ?_⟩
      rw [Bool.eq_false_iff]
      intro hh
      exact h2 q hq ((shares_vol (hv q (List.mem_of_mem_take hq)) hr).2 ⟨c, hh, hc⟩)
    · rintro ⟨h1, h2⟩
      refine ⟨ih.2 h1, fun q hq hh => ?_⟩
      obtain ⟨c, h3, h4⟩ := (shares_vol (hv q (List.mem_of_mem_take hq)) hr).1 hh
      rw [h2 c h4 q hq] at h3; cases h3
theorem done_eq {R : List Run} (hv : ∀ r ∈ R, Vol r) (hF : Fine R) (hR : addL [] R = R) : doneE R = resE R := by
  have e1 : frK R R.length = !(dupR R) := by
    rw [Bool.eq_iff_iff, frK_iff hv _ (Nat.le_refl _), List.take_length]
    have := dupK_vol hv R.length (Nat.le_refl _)
    rw [List.take_length] at this
    rw [Bool.not_eq_true']
    exact this.symm
  have e2 : lenW R = lenR R := lenW_eq _ (fun r hr => (hF.el r hr).2.2) (by have := hF.sum; omega)
  rw [doneE, e1, e2, resE, firstE, firstE, firstE, hR]
  cases dupR R
  · by_cases h3 : lenR R ≤ 4096 ∧ (R.length : Int) ≤ 64
    · have h4 : ¬ (lenR R > 4096 ∨ R.length > 64) := by omega
      simp only [Bool.not_false, if_true, h3, h4, and_self, if_false, Bool.false_eq_true]
    · have h4 : lenR R > 4096 ∨ R.length > 64 := by omega
      simp only [Bool.not_false, if_true, h3, h4, if_false, Bool.false_eq_true]
      rfl
  · rfl
def Pos (q : Run) : Prop := 1 ≤ q.n ∧ -1 ≤ q.s
theorem addR_pos {R : List Run} {r : Run} (hR : ∀ q ∈ R, Pos q) (hr : Pos r) : ∀ q ∈ addR R r, Pos q := by
  rcases List.eq_nil_or_concat R with rfl | ⟨R', q0, rfl⟩
  · rw [addR_nil]; simpa using hr
  · rw [List.concat_eq_append] at *
    rw [addR_snoc]
    have h0 := hR q0 (by simp)
    split
    · intro q hq
      rcases List.mem_append.1 hq with hq | hq
      · exact hR q (List.mem_append_left _ hq)
      · simp at hq; subst hq; unfold Pos at *; simp only; omega
    · intro q hq
      rcases List.mem_append.1 hq with hq | hq
      · exact hR q hq
      · simp at hq; subst hq; exact hr
theorem addL_pos {l : List Run} : ∀ {R : List Run}, (∀ q ∈ R, Pos q) → (∀ q ∈ l, Pos q) → ∀ q ∈ addL R l, Pos q := by
  induction l with
  | nil => intro R hR _; exact hR
  | cons r l ih => intro R hR hl; exact ih (addR_pos hR (hl r List.mem_cons_self)) (fun q hq => hl q (List.mem_cons_of_mem _ hq))
theorem addL_idem {l : List Run} (h : ∀ q ∈ l, Pos q) : addL [] (addL [] l) = addL [] l := by
  have h1 : ∀ q ∈ addL [] l, Pos q := addL_pos (by simp) h
  rw [← fromC_clR h1, clR_addL (by simp) (fun q hq => by have := h q hq; unfold Pos at this; omega), ← fromC_clR h]
  rfl
end
section
set_option maxRecDepth 4000
set_option linter.unusedSimpArgs false
set_option linter.unusedVariables false
variable {G : Glob} {bb : Bool}
theorem errA_ok {a : Att} (hW : a.W) (h : errA a = 0) : a.Ok := by
  unfold errA at h
  split at h
  · exact absurd h (by decide)
  rename_i h1
  split at h
  · exact absurd h (by decide)
  rename_i h2
  split at h
  · exact absurd h (by decide)
  rename_i h3
  split at h
  · rename_i h4; exact absurd h h4
  rename_i h4
  exact ⟨hW, Classical.not_not.1 h1, by simpa using h2, Classical.not_not.1 h3, Classical.not_not.1 h4⟩
theorem Att.Ok.bd {a : Att} (h : a.Ok) : a.Bd := Att.bd h.w h.ty h.nm h.rg h.e
def encA (a : Att) : List Int := if errA a = 0 then encB a else []
theorem encodeA_v (a : Att) (hW : a.W) : EV G (Tb (bs bb)) 35 [a.v] [] = some (.tup [.one (.dc (.raw (.string (str (encA a))))), .one (.dc (ci (errA a)))], []) := by
  refine EV_run rfl ?_
  have q := checkA_v (G := G) (bb := bb) a hW
  unfold encA
  by_cases c : errA a = 0
  · have q1 := encoded_v (G := G) (bb := bb) a (errA_ok hW c).bd
    rw [if_pos c]
    simp (disch := omega) only [go_sem, Nat.reduceAdd, Nat.reduceSub, Nat.reduceMul, Nat.reduceLeDiff, Nat.reduceEqDiff, h35c, q, c, q1]
  · rw [if_neg c]
    simp (disch := omega) only [go_sem, Nat.reduceAdd, Nat.reduceSub, Nat.reduceMul, Nat.reduceLeDiff, Nat.reduceEqDiff, h35c, q, c, str_nil]
theorem encA_len {a : Att} (hW : a.W) : (encA a).length ≤ 440 := by
  unfold encA
  by_cases c : errA a = 0
  · rw [if_pos c, encB_len a (errA_ok hW c).bd]
    unfold errA at c
    split at c
    · exact absurd c (by decide)
    split at c
    · exact absurd c (by decide)
    split at c
    · exact absurd c (by decide)
    split at c
    · rename_i h4; exact absurd c h4
    split at c
    · exact absurd c (by decide)
    · omega
  · rw [if_neg c]; simp
theorem bytesOf_v (a : Att) (hW : a.W) : EV G (Tb (bs bb)) 36 [a.v] [] = some (.tup [.one (.dc (ci (encA a).length)), .one (.dc (ci (errA a)))], []) := by
  refine EV_run rfl ?_
  have q := encodeA_v (G := G) (bb := bb) a hW
  have := encA_len hW
  simp (disch := omega) only [go_sem, Nat.reduceAdd, Nat.reduceSub, Nat.reduceMul, Nat.reduceLeDiff, Nat.reduceEqDiff, h36c, q]
def abcA : Att := ⟨128, [], 2, 0, true, [97, 98, 99], 0, [], 0, 0, 0⟩
def strA : Att := ⟨128, [115], 3, 0, false, [], 0, [⟨5, 4⟩], 1024, 1000, 900⟩
theorem abc_v : EV G (Tb (bs bb)) 52 [] [] = some (abcA.v, []) := EV_run rfl (by kernel_rfl)
theorem stream_v : EV G (Tb (bs bb)) 53 [] [] = some (strA.v, []) := EV_run rfl (by kernel_rfl)
def splE (a : Att) (p : Int) : Int := if errA a ≠ 0 then errA a else if a.res = true then 20 else if ¬(a.fi + 1 ≤ p ∧ p ≤ a.fi + lenW a.rs - 1) then 2 else 0
def befA (a : Att) (p : Int) : Att := ⟨a.ty, a.nm, a.id, a.fl, a.res, a.va, a.fi, (cutV a.rs 0 (p - a.fi)).1, a.al, a.sz, a.vd⟩
def aftA (a : Att) (p : Int) : Att := ⟨a.ty, a.nm, a.id, a.fl, false, [], p, (cutV a.rs (p - a.fi) (a.fi + lenW a.rs - p)).1, 0, 0, 0⟩
def splV (a : Att) (p : Int) : Att × Att × Int := if splE a p = 0 then (befA a p, aftA a p, 0) else (Att.nil, Att.nil, splE a p)
abbrev spv (p : Att × Att × Int) : AV := .tup [p.1.t, p.2.1.t, .one (.dc (ci p.2.2))]
set_option maxHeartbeats 4000000 in
theorem split_v (a : Att) (hW : a.W) (p : Int) : EV G (Tb (bs bb)) 22 [a.v, vi p] [] = some (spv (splV a p), []) := by
  refine EV_run rfl ?_
  have q := checkA_v (G := G) (bb := bb) a hW
  have q1 := clusters8_v (G := G) (bb := bb) a (by have := hW.rl; omega)
  unfold splV
  by_cases c : errA a = 0
  · cases c1 : a.res with
    | true =>
      have e : splE a p = 20 := by unfold splE; rw [if_neg (fun h => h c), if_pos c1]
      rw [e, if_neg (by decide)]
      simp only [Att.v, Att.c, c1] at q
      simp only [Att.nil]
      simp (disch := omega) only [go_sem, Nat.reduceAdd, Nat.reduceSub, Nat.reduceMul, Nat.reduceLeDiff, Nat.reduceEqDiff, h22c, q, c, c1, unless8_u, un_t, un_f, firstE_0, firstE_n, firstE_nil, first8_2, str_nil, List.map_nil]
      rfl
    | false =>
      simp only [Att.v, Att.c, c1] at q q1
      have hb := (errA_ok hW c).bd
      have hfi := hb.fi
      have hlw : 0 ≤ lenW a.rs ∧ lenW a.rs ≤ 100000000 := by
        have h4 := (errA_ok hW c).e
        unfold sthE at h4
        rw [if_neg (by rw [c1]; decide)] at h4
        exact (chk_bd (othE_0 h4).2.2.2.1).2
      by_cases c2 : a.fi + 1 ≤ p ∧ p ≤ a.fi + lenW a.rs - 1
      · have e : splE a p = 0 := by unfold splE; rw [if_neg (fun h => h c), if_neg (by rw [c1]; decide), if_neg (fun h => h c2)]
        rw [e, if_pos rfl]
        have q2 := cut_v (G := G) (B := bs bb) a.rs 0 (p - a.fi) (by have := hW.rl; omega)
        have q3 := cut_v (G := G) (B := bs bb) a.rs (p - a.fi) (a.fi + lenW a.rs - p) (by have := hW.rl; omega)
        simp only [befA, aftA]
        simp (disch := first | omega | (simp only [List.length_append, List.length_cons, List.length_nil, List.length_map, sgK_len, List.length_replicate] <;> omega) | fail) only [go_sem, Nat.reduceAdd, Nat.reduceSub, Nat.reduceMul, Nat.reduceLeDiff, Nat.reduceEqDiff, h22c, q, c, c1, q1, unless8_u, un_t, un_f, firstE_0, firstE_n, firstE_nil, first8_2, str_nil, List.map_nil, within8_v, eq_true c2, ↓blS_q, blS_o, q2, q3]
      · have e : splE a p = 2 := by unfold splE; rw [if_neg (fun h => h c), if_neg (by rw [c1]; decide), if_pos c2]
        rw [e, if_neg (by decide)]
        simp only [Att.nil]
        simp (disch := omega) only [go_sem, Nat.reduceAdd, Nat.reduceSub, Nat.reduceMul, Nat.reduceLeDiff, Nat.reduceEqDiff, h22c, q, c, c1, q1, unless8_u, un_t, un_f, firstE_0, firstE_n, firstE_nil, first8_2, str_nil, List.map_nil, within8_v, c2]
        rfl
  · have e : splE a p = errA a := by unfold splE; rw [if_pos c]
    rw [e, if_neg c]
    simp only [Att.nil]
    cases c1 : a.res with
    | true =>
      simp only [Att.v, Att.c, c1] at q
      simp (disch := omega) only [go_sem, Nat.reduceAdd, Nat.reduceSub, Nat.reduceMul, Nat.reduceLeDiff, Nat.reduceEqDiff, h22c, q, c, c1, unless8_u, un_t, un_f, firstE_0, firstE_n, firstE_nil, first8_2, str_nil, List.map_nil]
      rfl
    | false =>
      simp only [Att.v, Att.c, c1] at q
      simp (disch := omega) only [go_sem, Nat.reduceAdd, Nat.reduceSub, Nat.reduceMul, Nat.reduceLeDiff, Nat.reduceEqDiff, h22c, q, c, c1, unless8_u, un_t, un_f, firstE_0, firstE_n, firstE_nil, first8_2, str_nil, List.map_nil]
      rfl
end
section
set_option maxRecDepth 4000
set_option linter.unusedSimpArgs false
set_option linter.unusedVariables false
variable {G : Glob} {bb : Bool}
theorem copied_v (a : Att) (hl : a.rs.length ≤ 1000000) : EV G (Tb (bs bb)) 76 [a.v] [] = some (a.v, []) := by
  refine EV_run rfl ?_
  have q := clone_v (G := G) (bb := bb) a.rs hl
  simp (disch := omega) only [go_sem, Nat.reduceAdd, Nat.reduceSub, Nat.reduceMul, Nat.reduceLeDiff, Nat.reduceEqDiff, h76c, q, take_map_len, List.length_map]
def likeB (h a : Att) : Bool := decide (a.ty = h.ty) && decide (a.nm = h.nm) && decide (a.fl = h.fl)
def whS (h : Att) (e : Int) (a : Att) : Int := firstE [errA a, un (!a.res) 20, un (likeB h a) 13, un (decide (a.fi = e)) 14]
def endA (l : List Att) : Int := (l.map fun a => lenW a.rs).sum
def whE (l : List Att) (k : Nat) : Int := whS (l.headD Att.nil) (endA (l.take k)) (l.getD k Att.nil)
/-- the runs of the parts, joined one after the other -/
def ownK (l : List Att) : Nat → List Run
  | 0 => (l.headD Att.nil).rs
  | k + 1 => (joinedV (ownK l k) (l.getD (k + 1) Att.nil).rs).1
def jnE (l : List Att) (k : Nat) : Int := (joinedV (ownK l k) (l.getD (k + 1) Att.nil).rs).2
def setRs (a : Att) (rs : List Run) : Att := ⟨a.ty, a.nm, a.id, a.fl, a.res, a.va, a.fi, rs, a.al, a.sz, a.vd⟩
def outW (l : List Att) (k : Nat) : Att := setRs (l.headD Att.nil) (ownK l k)
noncomputable def wholeV (l : List Att) : Att × Int :=
  if l = [] then (Att.nil, 17) else if l.length > 32 then (Att.nil, 8) else
  if ix (fun k => whE l k ≠ 0) l.length < l.length then (Att.nil, whE l (ix (fun k => whE l k ≠ 0) l.length)) else
  if ix (fun k => jnE l k ≠ 0) (l.length - 1) < l.length - 1 then (Att.nil, jnE l (ix (fun k => jnE l k ≠ 0) (l.length - 1))) else resA (outW l (l.length - 1))
theorem whS_0 {h a : Att} {e : Int} (hw : whS h e a = 0) : errA a = 0 ∧ a.res = false ∧ a.ty = h.ty ∧ a.nm = h.nm ∧ a.fl = h.fl ∧ a.fi = e := by
  unfold whS at hw
  by_cases c0 : errA a = 0
  · rw [c0, firstE_0] at hw
    cases c1 : a.res with
    | true => rw [c1] at hw; exact absurd hw (by simp [un, firstE])
    | false =>
      rw [c1] at hw
      simp only [Bool.not_false, un_t, firstE_0] at hw
      cases c2 : likeB h a with
      | false => rw [c2] at hw; exact absurd hw (by simp [un, firstE])
      | true =>
        rw [c2] at hw
        simp only [un_t, firstE_0] at hw
        simp only [likeB, Bool.and_eq_true, decide_eq_true_eq] at c2
        by_cases c3 : a.fi = e
        · exact ⟨c0, rfl, c2.1.1, c2.1.2, c2.2, c3⟩
        · exact absurd hw (by simp [un, firstE, c3])
  · rw [firstE_n _ _ c0] at hw; exact absurd hw c0
theorem res_bd {a : Att} (h : errA a = 0) (hr : a.res = false) : (chk a.rs).2 = 0 ∧ (0 ≤ a.fi ∧ a.fi ≤ 4096) ∧ a.fi + lenW a.rs ≤ 4096 := by
  unfold errA at h
  split at h
  · exact absurd h (by decide)
  split at h
  · exact absurd h (by decide)
  split at h
  · exact absurd h (by decide)
  split at h
  · rename_i h4; exact absurd h h4
  rename_i h4
  have h5 := Classical.not_not.1 h4
  unfold sthE at h5
  rw [if_neg (by rw [hr]; decide)] at h5
  obtain ⟨_, _, g1, g2, _, g3, _⟩ := othE_0 h5
  exact ⟨g2, g1, g3⟩
theorem endA_take (l : List Att) (k : Nat) (hk : k < l.length) : endA (l.take (k + 1)) = endA (l.take k) + lenW l[k].rs := by
  unfold endA
  rw [List.take_succ_eq_append_getElem hk, List.map_append, List.sum_append]
  simp
theorem getDA (l : List Att) (k : Nat) (hk : k < l.length) : l.getD k Att.nil = l[k] := by simp [List.getD, hk]
theorem endA_bd (l : List Att) : ∀ k, k ≤ l.length → (∀ j, j < k → whE l j = 0) → 0 ≤ endA (l.take k) ∧ endA (l.take k) ≤ k * 4096
  | 0, _, _ => by simp [endA]
  | k + 1, hk, h => by
    have ih := endA_bd l k (by omega) (fun j hj => h j (by omega))
    have h1 := whS_0 (h k (by omega))
    rw [getDA l k (by omega)] at h1
    obtain ⟨g1, g2, g3⟩ := res_bd h1.1 h1.2.1
    have := (chk_bd g1).2.1
    rw [endA_take l k (by omega)]
    omega
theorem all_att (l : List Att) : ((l.map Att.e).all fun e => decide (e.length = 11)) = true := by simp [Att.e]
theorem joined_len (a b : List Run) : (joinedV a b).1.length ≤ 64 := by
  unfold joinedV
  split
  · simp
  · unfold madeV
    split
    · rename_i h
      unfold doneE at h
      have key : ∀ x y : Int, firstE [x, y] = 0 → y = 0 := by
        intro x y h
        by_cases hx : x = 0
        · rw [hx, firstE_0] at h
          by_cases hy : y = 0
          · exact hy
          · rw [firstE_n _ _ hy] at h; exact absurd h hy
        · rw [firstE_n _ _ hx] at h; exact absurd h hx
      have h3 := key _ _ h
      split at h3
      · rename_i h4; simp only; omega
      · exact absurd h3 (by decide)
    · simp
theorem ownK_len (l : List Att) (h : (l.headD Att.nil).rs.length ≤ 100000) : ∀ k, (ownK l k).length ≤ 100000
  | 0 => h
  | k + 1 => by
    have := joined_len (ownK l k) (l.getD (k + 1) Att.nil).rs
    simp only [ownK]
    omega
/-- the cells of an attribute that was not set -/
abbrev nilC : List Cel := [rawC (Zi 0), rawC (.string (str [])), rawC (Zi 0), rawC (Zi 0), rawC (.bool false), rawC (.string (str [])), rawC (Zi 0), rawC (.slice none 0 0), rawC (Zi 0), rawC (Zi 0), rawC (Zi 0)]
set_option maxHeartbeats 4000000 in
theorem whole_v (l : List Att) (hW : ∀ a ∈ l, a.W) (hl : l.length ≤ 1000) : EV G (Tb (bs bb)) 24 [vl (l.map Att.e)] [] = some (rtv (wholeV l), []) := by
  refine EV_run rfl ?_
  unfold wholeV
  by_cases c0 : l = []
  · rw [if_pos c0]
    subst c0
    simp only [Att.nil]
    simp (disch := omega) only [go_sem, Nat.reduceAdd, Nat.reduceSub, Nat.reduceMul, Nat.reduceLeDiff, Nat.reduceEqDiff, h24c, List.length_map, List.length_nil, List.map_nil, unless8_u, un_t, un_f, firstE_0, firstE_n, firstE_nil, first8_2, str_nil]
    rfl
  rw [if_neg c0]
  have hp0 : 0 < l.length := List.length_pos_iff.2 c0
  have d1 : 0 < (l.length : Int) := by omega
  by_cases c1 : l.length > 32
  · rw [if_pos c1]
    have d2 : ¬ (l.length : Int) ≤ 32 := by omega
    simp only [Att.nil]
    simp (disch := omega) only [go_sem, Nat.reduceAdd, Nat.reduceSub, Nat.reduceMul, Nat.reduceLeDiff, Nat.reduceEqDiff, h24c, List.length_map, eq_true d1, d2, unless8_u, un_t, un_f, firstE_0, firstE_n, firstE_nil, first8_2, str_nil]
    rfl
  rw [if_neg c1]
  have d2 : (l.length : Int) ≤ 32 := by omega
  have hh : l.headD Att.nil = l[0] := by
    match l, hp0 with
    | a :: l, _ => rfl
  simp (disch := omega) only [go_sem, Nat.reduceAdd, Nat.reduceSub, Nat.reduceMul, Nat.reduceLeDiff, Nat.reduceEqDiff, h24c, List.length_map, eq_true d1, eq_true d2, unless8_u, un_t, un_f, firstE_0, firstE_n, firstE_nil, first8_2, str_nil]
  rw [EL_fst (fun k => ⟨(vl (l.map Att.e) :: jk 1 (.one (.ptr 0 0) :: jk 2 (vi (endA (l.take k)) :: jk 23 (vl (l.map Att.e) :: vi l.length :: vi k :: jk 82 [])))), [.box nilC]⟩) (fun k => whE l k ≠ 0) l.length ?_ ?_]
  rotate_left
  · rfl
  · intro k hk hn
    have h1 := whS_0 (Classical.not_not.1 (hn k (Nat.le_refl _)))
    rw [getDA l k hk, hh] at h1
    obtain ⟨e0, e1, e2, e3, e4, e5⟩ := h1
    have hWk := hW _ (List.getElem_mem hk)
    have hW0 := hW _ (List.getElem_mem hp0)
    have q := checkA_v (G := G) (bb := bb) l[k] hWk
    have q1 := clusters8_v (G := G) (bb := bb) l[k] (by have := hWk.rl; omega)
    obtain ⟨g1, g2, g3⟩ := res_bd e0 e1
    have g4 := (chk_bd g1).2.1
    have g5 := endA_bd l k (by omega) (fun j hj => Classical.not_not.1 (hn j (by omega)))
    rw [endA_take l k hk]
    have s3 : (str l[k].nm = str l[0].nm) = True := by rw [e3]; exact eq_self _
    simp only [Att.v, Att.c, e1] at q q1
    simp (disch := omega) only [go_sem, Nat.reduceAdd, Nat.reduceSub, Nat.reduceMul, Nat.reduceLeDiff, Nat.reduceEqDiff, h24l0, List.length_map, List.getElem_map, Att.e, str_nil, e1, q, e0, q1, eq_true e2, s3, eq_true e4, eq_true e5, unless8_u, un_t, un_f, firstE_0, firstE_n, firstE_nil, first8_4]
  obtain ⟨hk, hp, hn⟩ := ix_spec (fun k => whE l k ≠ 0) l.length
  generalize ix (fun k => whE l k ≠ 0) l.length = k at *
  rcases hp with rfl | ⟨hk', hp⟩
  · rw [if_neg (Nat.lt_irrefl _)]
    have hW0 := hW _ (List.getElem_mem hp0)
    have q := copied_v (G := G) (bb := bb) l[0] (by have := hW0.rl; omega)
    simp (disch := omega) only [go_sem, Nat.reduceAdd, Nat.reduceSub, Nat.reduceMul, Nat.reduceLeDiff, Nat.reduceEqDiff, h24l0, List.length_map, List.length_drop, List.getElem_map, Att.e, str_nil, q, all_att]
    rw [EL_fst (fun k => ⟨(jk 2 (.one (.ptr 0 0) :: jk 7 (.one (.ptr 1 0) :: jk 78 (vl ((l.map Att.e).drop 1) :: vi ((l.length - 1 : Nat) : Int) :: vi k :: jk 22 [])))), [.box nilC, .box (outW l k).c]⟩) (fun k => jnE l k ≠ 0) (l.length - 1) ?_ ?_]
    rotate_left
    · simp only [outW, setRs, ownK, hh]; rfl
    · intro k hk hn
      have h1 := Classical.not_not.1 (hn k (Nat.le_refl _))
      unfold jnE at h1
      rw [getDA l (k + 1) (by omega)] at h1
      have q1 := joined_v (G := G) (B := bs bb) (ownK l k) l[k + 1].rs
      rw [h1] at q1
      unfold outW setRs
      rw [hh]
      simp only [ownK]
      rw [getDA l (k + 1) (by omega)]
      have eK : (List.drop 1 (List.map Att.e l))[k]? = some (Att.e l[k + 1]) := by
        rw [List.getElem?_drop, Nat.add_comm, List.getElem?_map, List.getElem?_eq_getElem (by omega)]; rfl
      simp (disch := omega) only [go_sem, Nat.reduceAdd, Nat.reduceSub, Nat.reduceMul, Nat.reduceLeDiff, Nat.reduceEqDiff, h24l1, eK, Att.e, str_nil, q1]
    obtain ⟨hk2, hp2, hn2⟩ := ix_spec (fun k => jnE l k ≠ 0) (l.length - 1)
    generalize ix (fun k => jnE l k ≠ 0) (l.length - 1) = k at *
    rcases hp2 with rfl | ⟨hk', hp2⟩
    · rw [if_neg (Nat.lt_irrefl _)]
      have hWo : (outW l (l.length - 1)).W := by
        unfold outW setRs
        rw [hh]
        exact ⟨hW0.nm, hW0.va, hW0.nl, hW0.vl, ownK_len l (by rw [hh]; exact hW0.rl) _⟩
      have q2 := result8_v (G := G) (bb := bb) (outW l (l.length - 1)) hWo
      generalize resA (outW l (l.length - 1)) = pr at q2 ⊢
      obtain ⟨x, e⟩ := pr
      simp only [outW, setRs, hh, Att.v, Att.c] at q2 ⊢
      simp (disch := omega) only [go_sem, Nat.reduceAdd, Nat.reduceSub, Nat.reduceMul, Nat.reduceLeDiff, Nat.reduceEqDiff, h24l1, List.length_drop, List.length_map, str_nil, q2]
    · rw [if_pos hk']
      have q1 := joined_v (G := G) (B := bs bb) (ownK l k) l[k + 1].rs
      have hJ : jnE l k = (joinedV (ownK l k) l[k + 1].rs).2 := by
        unfold jnE
        rw [getDA l (k + 1) (by omega)]
      rw [← hJ] at q1
      have eK : (List.drop 1 (List.map Att.e l))[k]? = some (Att.e l[k + 1]) := by
        rw [List.getElem?_drop, Nat.add_comm, List.getElem?_map, List.getElem?_eq_getElem (by omega)]; rfl
      simp only [outW, setRs, hh]
      simp only [Att.nil]
      simp (disch := omega) only [go_sem, Nat.reduceAdd, Nat.reduceSub, Nat.reduceMul, Nat.reduceLeDiff, Nat.reduceEqDiff, h24l1, List.length_drop, List.length_map, eK, Att.e, str_nil, q1, hp2]
      rfl
  · rw [if_pos hk']
    have hWk := hW _ (List.getElem_mem hk')
    have hW0 := hW _ (List.getElem_mem hp0)
    have q := checkA_v (G := G) (bb := bb) l[k] hWk
    have hE : whE l k = firstE [errA l[k], un (!l[k].res) 20, un (likeB l[0] l[k]) 13, un (decide (l[k].fi = endA (l.take k))) 14] := by
      unfold whE
      rw [getDA l k hk', hh]
      rfl
    have sE := str_inj hWk.nm hW0.nm
    rw [hE] at hp ⊢
    by_cases c2 : l[k].ty = l[0].ty
    · by_cases c3 : l[k].nm = l[0].nm
      · have s3 : (str l[k].nm = str l[0].nm) = True := by rw [sE]; exact eq_true c3
        by_cases c4 : l[k].fl = l[0].fl
        · have eL : likeB l[0] l[k] = true := by simp [likeB, c2, c3, c4]
          rw [eL] at hp ⊢
          simp only [Att.nil]
          simp (disch := omega) only [go_sem, Nat.reduceAdd, Nat.reduceSub, Nat.reduceMul, Nat.reduceLeDiff, Nat.reduceEqDiff, h24l0, List.length_map, List.getElem_map, Att.e, str_nil, q, eq_true c2, s3, eq_true c4, unless8_u, first8_4, hp]
          rfl
        · have eL : likeB l[0] l[k] = false := by simp [likeB, c4]
          rw [eL] at hp ⊢
          simp only [Att.nil]
          simp (disch := omega) only [go_sem, Nat.reduceAdd, Nat.reduceSub, Nat.reduceMul, Nat.reduceLeDiff, Nat.reduceEqDiff, h24l0, List.length_map, List.getElem_map, Att.e, str_nil, q, eq_true c2, s3, c4, unless8_u, first8_4, hp]
          rfl
      · have s3 : (str l[k].nm = str l[0].nm) = False := by rw [sE]; exact eq_false c3
        have eL : likeB l[0] l[k] = false := by simp [likeB, c3]
        rw [eL] at hp ⊢
        simp only [Att.nil]
        simp (disch := omega) only [go_sem, Nat.reduceAdd, Nat.reduceSub, Nat.reduceMul, Nat.reduceLeDiff, Nat.reduceEqDiff, h24l0, List.length_map, List.getElem_map, Att.e, str_nil, q, eq_true c2, s3, unless8_u, first8_4, hp]
        rfl
    · have eL : likeB l[0] l[k] = false := by simp [likeB, c2]
      rw [eL] at hp ⊢
      simp only [Att.nil]
      simp (disch := omega) only [go_sem, Nat.reduceAdd, Nat.reduceSub, Nat.reduceMul, Nat.reduceLeDiff, Nat.reduceEqDiff, h24l0, List.length_map, List.getElem_map, Att.e, str_nil, q, c2, unless8_u, first8_4, hp]
      rfl
end
section
set_option maxRecDepth 4000
set_option linter.unusedSimpArgs false
set_option linter.unusedVariables false
variable {G : Glob} {B : CallT}
/-- no run joins the one before it -/
def NJ : List Run → Prop
  | [] => True
  | [_] => True
  | a :: b :: l => joinsB a b = false ∧ NJ (b :: l)
theorem NJ_tail {a : Run} {l : List Run} (h : NJ (a :: l)) : NJ l := by
  cases l with
  | nil => trivial
  | cons b l => exact h.2
theorem NJ_at {l : List Run} (h : NJ l) : ∀ (k : Nat) (hk : k + 1 < l.length), joinsB l[k] l[k + 1] = false := by
  induction l with
  | nil => intro k hk; simp at hk
  | cons a l ih =>
    intro k hk
    cases l with
    | nil => simp at hk
    | cons b l =>
      cases k with
      | zero => exact h.1
      | succ k => exact ih h.2 k (by simpa using hk)
theorem NJ_of {l : List Run} (h : ∀ (k : Nat) (hk : k + 1 < l.length), joinsB l[k] l[k + 1] = false) : NJ l := by
  induction l with
  | nil => trivial
  | cons a l ih =>
    cases l with
    | nil => trivial
    | cons b l =>
      exact ⟨h 0 (by simp), ih (fun k hk => by have := h (k + 1) (by simpa using hk); simpa using this)⟩
theorem joins_s {a q q' : Run} (h : q'.s = q.s) : joinsB a q' = joinsB a q := by simp [joinsB, h]
theorem NJ_snoc {R : List Run} {q r : Run} (h : NJ (R ++ [q])) (hj : joinsB q r = false) : NJ (R ++ [q] ++ [r]) := by
  induction R with
  | nil => exact ⟨hj, trivial⟩
  | cons a R ih =>
    have h1 := ih (NJ_tail h)
    cases R with
    | nil => exact ⟨h.1, h1⟩
    | cons b R => exact ⟨h.1, h1⟩
theorem NJ_last {R : List Run} {q q' : Run} (h : NJ (R ++ [q])) (hs : q'.s = q.s) : NJ (R ++ [q']) := by
  induction R with
  | nil => trivial
  | cons a R ih =>
    have h1 := ih (NJ_tail h)
    cases R with
    | nil => exact ⟨by rw [joins_s hs]; exact h.1, trivial⟩
    | cons b R => exact ⟨h.1, h1⟩
theorem addR_nj {R : List Run} {r : Run} (h : NJ R) : NJ (addR R r) := by
  rcases List.eq_nil_or_concat R with rfl | ⟨R', q, rfl⟩
  · trivial
  · rw [List.concat_eq_append] at *
    rw [addR_snoc]
    split
    · exact NJ_last h rfl
    · rename_i hj; exact NJ_snoc h (by simpa using hj)
theorem addL_nj {l : List Run} : ∀ {R : List Run}, NJ R → NJ (addL R l) := by
  induction l with
  | nil => intro R h; exact h
  | cons r l ih => intro R h; exact ih (addR_nj h)
theorem NJ_mid {R : List Run} {q r : Run} {l : List Run} (h : NJ (R ++ (q :: r :: l))) : joinsB q r = false := by
  induction R with
  | nil => exact h.1
  | cons a R ih => exact ih (NJ_tail h)
/-- runs that are joined already -/
theorem addL_id {l : List Run} : ∀ {R : List Run}, NJ (R ++ l) → addL R l = R ++ l := by
  induction l with
  | nil => intro R _; simp [addL]
  | cons r l ih =>
    intro R h
    show addL (addR R r) l = _
    have e : addR R r = R ++ [r] := by
      rcases List.eq_nil_or_concat R with rfl | ⟨R', q, rfl⟩
      · rfl
      · rw [List.concat_eq_append] at *
        rw [List.append_assoc, List.singleton_append] at h
        have := NJ_mid h
        rw [addR_snoc, if_neg (by rw [this]; simp)]
    rw [e, ih (by rw [List.append_assoc]; exact h), List.append_assoc]; rfl
theorem addL_nil_id {l : List Run} (h : NJ l) : addL [] l = l := addL_id h
/-- what a runlist is -/
theorem chk_steps {l : List Run} (h : (chk l).2 = 0) : ∀ j (hj : j < l.length), stepR l j l[j] = 0 := by
  have hch : (rchk l).2 = 0 := by rw [← chk_eq]; exact h
  have hlen := chk_len h
  rw [rchk, if_neg (by omega)] at hch
  have key : ∀ (n k : Nat), n = l.length - k → (rchkL l (l.drop k) k).2 = 0 → ∀ j (hj : j < l.length), k ≤ j → stepR l j l[j] = 0 := by
    intro n
    induction n with
    | zero => intro k hn hc j hj hk; omega
    | succ n ih =>
      intro k hn hc j hj hk
      have hkl : k < l.length := by omega
      rw [rchkL_at hkl] at hc
      by_cases h0 : stepR l k l[k] = 0
      · rw [if_neg (by omega)] at hc
        by_cases hjk : j = k
        · subst hjk; exact h0
        · exact ih (k + 1) (by omega) hc j hj (by omega)
      · rw [if_pos h0] at hc; exact absurd hc h0
  exact fun j hj => key l.length 0 (by omega) hch j hj (Nat.zero_le _)
theorem chk_nj {l : List Run} (h : (chk l).2 = 0) : NJ l := NJ_of (fun k hk => by
  have h1 := chk_steps h (k + 1) hk
  rw [stepR_at hk] at h1
  have h0 := chk_rg h l[k + 1] (List.getElem_mem hk)
  rw [if_neg (show ¬ (rangeE l[k + 1].s l[k + 1].n ≠ 0) by omega)] at h1
  split at h1
  · cases h1
  · rename_i h2
    have : ¬ joinsB l[k] l[k + 1] = true := fun hj => h2 ⟨by omega, hj⟩
    simpa using this)
theorem chk_dup {l : List Run} (h : (chk l).2 = 0) : dupR l = false := by
  have key : ∀ k, k ≤ l.length → dupK l k = false := by
    intro k
    induction k with
    | zero => intro _; simp [dupK]
    | succ k ih =>
      intro hk
      rw [dupK_succ l k hk, ih (by omega), Bool.false_or]
      have h1 := chk_steps h k hk
      rw [stepR_at hk] at h1
      have h0 := chk_rg h l[k] (List.getElem_mem hk)
      rw [if_neg (show ¬ (rangeE l[k].s l[k].n ≠ 0) by omega)] at h1
      split at h1
      · cases h1
      · split at h1
        · cases h1
        · rename_i h3; exact Bool.eq_false_iff.2 h3
  exact key l.length (Nat.le_refl _)
theorem chk_id {l : List Run} (h : (chk l).2 = 0) : addL [] l = l := addL_nil_id (chk_nj h)
theorem chk_res {l : List Run} (h : (chk l).2 = 0) : resE l = 0 := by
  have h1 := lenC h
  have h2 := chk_len h
  rw [resE, chk_dup h, chk_id h, if_neg (by simp), if_neg (by omega)]
theorem rangeE_vol {r : Run} (h : Vol r) (h1 : 1 ≤ r.n) (h2 : r.n ≤ 4096) : rangeE r.s r.n = 0 := by
  unfold rangeE
  rcases h with ⟨h3, _⟩ | ⟨h3, h4, h5⟩
  · rw [if_pos h3, if_pos ⟨h1, h2⟩]
  · rw [if_neg (by omega), if_pos ⟨h3, by omega⟩, if_pos ⟨h4, by omega⟩]
theorem len_mem {l : List Run} (h : ∀ r ∈ l, 0 ≤ r.n) {r : Run} (hr : r ∈ l) : r.n ≤ lenR l := by
  induction l with
  | nil => cases hr
  | cons a l ih =>
    have e1 : lenR (a :: l) = a.n + lenR l := by simp [lenR]
    have h1 := lenR_nonneg l (fun q hq => h q (List.mem_cons_of_mem _ hq))
    rcases List.mem_cons.1 hr with rfl | hr
    · omega
    · have := ih (fun q hq => h q (List.mem_cons_of_mem _ hq)) hr
      have := h a List.mem_cons_self
      omega
/-- runs that are joined, are valid, and whose result has no error, are a runlist -/
theorem chk_of {R : List Run} (hv : ∀ r ∈ R, Vol r) (hp : ∀ r ∈ R, Pos r) (hj : NJ R) (he : resE R = 0) : (chk R).2 = 0 := by
  have hn : ∀ r ∈ R, 0 ≤ r.n := fun r hr => by have := (hp r hr).1; omega
  rw [resE, addL_nil_id hj] at he
  split at he
  · cases he
  rename_i hd
  split at he
  · cases he
  rename_i hl
  have hrg : ∀ r ∈ R, rangeE r.s r.n = 0 := fun r hr => rangeE_vol (hv r hr) (hp r hr).1 (by have := len_mem hn hr; omega)
  have hst : ∀ j (h : j < R.length), stepR R j R[j] = 0 := by
    intro j hj2
    rw [stepR_at hj2, if_neg (show ¬ (rangeE R[j].s R[j].n ≠ 0) by have := hrg R[j] (List.getElem_mem hj2); omega), if_neg, if_neg]
    · intro hh
      apply hd
      unfold dupR
      rw [List.any_eq_true]
      refine ⟨j, by simpa using hj2, ?_⟩
      rw [runAt R j hj2]; exact hh
    · rintro ⟨h0, hh⟩
      have := NJ_at hj (j - 1) (by omega)
      simp only [show j - 1 + 1 = j by omega] at this
      rw [this] at hh; cases hh
  rw [chk_eq, rchk, if_neg (by omega), rchkL_to R R.length (Nat.le_refl _) (fun j hj2 => by rw [runAt R j hj2, hst j hj2]; simp), List.drop_length, rchkL, if_neg (by omega)]
end
section
set_option maxRecDepth 4000
set_option linter.unusedSimpArgs false
set_option linter.unusedVariables false
variable {G : Glob} {bb : Bool}
end
section
set_option maxRecDepth 4000
set_option linter.unusedSimpArgs false
set_option linter.unusedVariables false
variable {G : Glob} {bb : Bool}
theorem ix_all {p : Nat → Prop} {n : Nat} (h : ∀ k, k < n → ¬ p k) : ix p n = n := by
  obtain ⟨h1, h2, _⟩ := ix_spec p n
  rcases h2 with h2 | ⟨h2, h3⟩
  · exact h2
  · exact absurd h3 (h _ h2)
end
end Go.Proofs.YtmognenhkecngaaGreatDoor
