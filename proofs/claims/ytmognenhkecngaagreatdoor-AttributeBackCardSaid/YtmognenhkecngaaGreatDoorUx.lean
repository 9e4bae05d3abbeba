/- Which of two attributes comes first. Conditions: none. -/
import Derived.Test.YtmognenhkecngaaGreatDoorTx
import Derived.Test.YtmognenhkecngaaGreatDoorVk
import Derived.Test.YtmognenhkecngaaGreatDoorLy
import Derived.KernelRfl
namespace Go.Proofs.YtmognenhkecngaaGreatDoor
section
set_option maxRecDepth 4000
set_option linter.unusedSimpArgs false
set_option linter.unusedVariables false
variable {G : Glob} {bb : Bool}
theorem errA_ok {a : Att} (hW : a.W) (h : errA a = 0) : a.Ok := by
  unfold errA at h
  split at h
  · exact absurd h (by decide)
  rename_i h1
  split at h
  · exact absurd h (by decide)
  rename_i h2
  split at h
  · exact absurd h (by decide)
  rename_i h3
  split at h
  · rename_i h4; exact absurd h h4
  rename_i h4
  exact ⟨hW, Classical.not_not.1 h1, by simpa using h2, Classical.not_not.1 h3, Classical.not_not.1 h4⟩
theorem Att.Ok.bd {a : Att} (h : a.Ok) : a.Bd := Att.bd h.w h.ty h.nm h.rg h.e
def encA (a : Att) : List Int := if errA a = 0 then encB a else []
theorem encodeA_v (a : Att) (hW : a.W) : EV G (Tb (bs bb)) 35 [a.v] [] = some (.tup [.one (.dc (.raw (.string (str (encA a))))), .one (.dc (ci (errA a)))], []) := by
  refine EV_run rfl ?_
  have q := checkA_v (G := G) (bb := bb) a hW
  unfold encA
  by_cases c : errA a = 0
  · have q1 := encoded_v (G := G) (bb := bb) a (errA_ok hW c).bd
    rw [if_pos c]
    simp (disch := omega) only [go_sem, Nat.reduceAdd, Nat.reduceSub, Nat.reduceMul, Nat.reduceLeDiff, Nat.reduceEqDiff, h35c, q, c, q1]
  · rw [if_neg c]
    simp (disch := omega) only [go_sem, Nat.reduceAdd, Nat.reduceSub, Nat.reduceMul, Nat.reduceLeDiff, Nat.reduceEqDiff, h35c, q, c, str_nil]
theorem encA_len {a : Att} (hW : a.W) : (encA a).length ≤ 440 := by
  unfold encA
  by_cases c : errA a = 0
  · rw [if_pos c, encB_len a (errA_ok hW c).bd]
    unfold errA at c
    split at c
    · exact absurd c (by decide)
    split at c
    · exact absurd c (by decide)
    split at c
    · exact absurd c (by decide)
    split at c
    · rename_i h4; exact absurd c h4
    split at c
    · exact absurd c (by decide)
    · omega
  · rw [if_neg c]; simp
theorem bytesOf_v (a : Att) (hW : a.W) : EV G (Tb (bs bb)) 36 [a.v] [] = some (.tup [.one (.dc (ci (encA a).length)), .one (.dc (ci (errA a)))], []) := by
  refine EV_run rfl ?_
  have q := encodeA_v (G := G) (bb := bb) a hW
  have := encA_len hW
  simp (disch := omega) only [go_sem, Nat.reduceAdd, Nat.reduceSub, Nat.reduceMul, Nat.reduceLeDiff, Nat.reduceEqDiff, h36c, q]
def abcA : Att := ⟨128, [], 2, 0, true, [97, 98, 99], 0, [], 0, 0, 0⟩
def strA : Att := ⟨128, [115], 3, 0, false, [], 0, [⟨5, 4⟩], 1024, 1000, 900⟩
theorem abc_v : EV G (Tb (bs bb)) 52 [] [] = some (abcA.v, []) := EV_run rfl (by kernel_rfl)
theorem stream_v : EV G (Tb (bs bb)) 53 [] [] = some (strA.v, []) := EV_run rfl (by kernel_rfl)
def splE (a : Att) (p : Int) : Int := if errA a ≠ 0 then errA a else if a.res = true then 20 else if ¬(a.fi + 1 ≤ p ∧ p ≤ a.fi + lenW a.rs - 1) then 2 else 0
def befA (a : Att) (p : Int) : Att := ⟨a.ty, a.nm, a.id, a.fl, a.res, a.va, a.fi, (cutV a.rs 0 (p - a.fi)).1, a.al, a.sz, a.vd⟩
def aftA (a : Att) (p : Int) : Att := ⟨a.ty, a.nm, a.id, a.fl, false, [], p, (cutV a.rs (p - a.fi) (a.fi + lenW a.rs - p)).1, 0, 0, 0⟩
def splV (a : Att) (p : Int) : Att × Att × Int := if splE a p = 0 then (befA a p, aftA a p, 0) else (Att.nil, Att.nil, splE a p)
abbrev spv (p : Att × Att × Int) : AV := .tup [p.1.t, p.2.1.t, .one (.dc (ci p.2.2))]
set_option maxHeartbeats 4000000 in
theorem split_v (a : Att) (hW : a.W) (p : Int) : EV G (Tb (bs bb)) 22 [a.v, vi p] [] = some (spv (splV a p), []) := by
  refine EV_run rfl ?_
  have q := checkA_v (G := G) (bb := bb) a hW
  have q1 := clusters8_v (G := G) (bb := bb) a (by have := hW.rl; omega)
  unfold splV
  by_cases c : errA a = 0
  · cases c1 : a.res with
    | true =>
      have e : splE a p = 20 := by unfold splE; rw [if_neg (fun h => h c), if_pos c1]
      rw [e, if_neg (by decide)]
      simp only [Att.v, Att.c, c1] at q
      simp only [Att.nil]
      simp (disch := omega) only [go_sem, Nat.reduceAdd, Nat.reduceSub, Nat.reduceMul, Nat.reduceLeDiff, Nat.reduceEqDiff, h22c, q, c, c1, unless8_u, un_t, un_f, firstE_0, firstE_n, firstE_nil, first8_2, str_nil, List.map_nil]
      rfl
    | false =>
      simp only [Att.v, Att.c, c1] at q q1
      have hb := (errA_ok hW c).bd
      have hfi := hb.fi
      have hlw : 0 ≤ lenW a.rs ∧ lenW a.rs ≤ 100000000 := by
        have h4 := (errA_ok hW c).e
        unfold sthE at h4
        rw [if_neg (by rw [c1]; decide)] at h4
        exact (chk_bd (othE_0 h4).2.2.2.1).2
      by_cases c2 : a.fi + 1 ≤ p ∧ p ≤ a.fi + lenW a.rs - 1
      · have e : splE a p = 0 := by unfold splE; rw [if_neg (fun h => h c), if_neg (by rw [c1]; decide), if_neg (fun h => h c2)]
        rw [e, if_pos rfl]
        have q2 := cut_v (G := G) (B := bs bb) a.rs 0 (p - a.fi) (by have := hW.rl; omega)
        have q3 := cut_v (G := G) (B := bs bb) a.rs (p - a.fi) (a.fi + lenW a.rs - p) (by have := hW.rl; omega)
        simp only [befA, aftA]
        simp (disch := first | omega | (simp only [List.length_append, List.length_cons, List.length_nil, List.length_map, sgK_len, List.length_replicate] <;> omega) | fail) only [go_sem, Nat.reduceAdd, Nat.reduceSub, Nat.reduceMul, Nat.reduceLeDiff, Nat.reduceEqDiff, h22c, q, c, c1, q1, unless8_u, un_t, un_f, firstE_0, firstE_n, firstE_nil, first8_2, str_nil, List.map_nil, within8_v, eq_true c2, ↓blS_q, blS_o, q2, q3]
      · have e : splE a p = 2 := by unfold splE; rw [if_neg (fun h => h c), if_neg (by rw [c1]; decide), if_pos c2]
        rw [e, if_neg (by decide)]
        simp only [Att.nil]
        simp (disch := omega) only [go_sem, Nat.reduceAdd, Nat.reduceSub, Nat.reduceMul, Nat.reduceLeDiff, Nat.reduceEqDiff, h22c, q, c, c1, q1, unless8_u, un_t, un_f, firstE_0, firstE_n, firstE_nil, first8_2, str_nil, List.map_nil, within8_v, c2]
        rfl
  · have e : splE a p = errA a := by unfold splE; rw [if_pos c]
    rw [e, if_neg c]
    simp only [Att.nil]
    cases c1 : a.res with
    | true =>
      simp only [Att.v, Att.c, c1] at q
      simp (disch := omega) only [go_sem, Nat.reduceAdd, Nat.reduceSub, Nat.reduceMul, Nat.reduceLeDiff, Nat.reduceEqDiff, h22c, q, c, c1, unless8_u, un_t, un_f, firstE_0, firstE_n, firstE_nil, first8_2, str_nil, List.map_nil]
      rfl
    | false =>
      simp only [Att.v, Att.c, c1] at q
      simp (disch := omega) only [go_sem, Nat.reduceAdd, Nat.reduceSub, Nat.reduceMul, Nat.reduceLeDiff, Nat.reduceEqDiff, h22c, q, c, c1, unless8_u, un_t, un_f, firstE_0, firstE_n, firstE_nil, first8_2, str_nil, List.map_nil]
      rfl
end
section
set_option maxRecDepth 4000
set_option linter.unusedSimpArgs false
set_option linter.unusedVariables false
variable {G : Glob} {bb : Bool}
theorem sameB_refl (a : Att) : sameB a a = true := (sameB_iff a a).2 rfl
theorem asB_refl (x : Att) (e : Int) (h : e = 0 ∨ x = Att.nil) : asB x e x e = true := by
  unfold asB
  rcases h with rfl | rfl
  · simp [sameB_refl]
  · by_cases c : e = 0 <;> simp [c, sameB_refl]
end
section
set_option maxRecDepth 4000
set_option linter.unusedSimpArgs false
set_option linter.unusedVariables false
variable {G : Glob} {bb : Bool}
theorem aw_v : EV G (Tb (bs true)) 11 [] [] = some (vb true, []) := EV_base rfl rfl
end
section
set_option maxRecDepth 4000
set_option linter.unusedSimpArgs false
set_option linter.unusedVariables false
variable {G : Glob} {bb : Bool}
theorem decPV_W {s : List Int} (hB : Byts s) (hl : s.length ≤ 1000) : (decPV s).1.W ∧ ((decPV s).2 = 0 ∨ (decPV s).1 = Att.nil) := by
  unfold decPV
  split
  · exact ⟨Att.nil_W, .inr rfl⟩
  · split
    · exact ⟨Att.nil_W, .inr rfl⟩
    · rename_i c
      split
      · exact ⟨Att.nil_W, .inr rfl⟩
      · have h : (dec1 s).2 = true := by
          cases h : (dec1 s).2 with
          | true => rfl
          | false => exact absurd (.inl h) c
        exact ⟨(dec1_dc hB hl h).w, .inl rfl⟩
theorem encA_ok {a : Att} (hW : a.W) (h : errA a = 0) : encA a = rfE a ∧ (rfE a).length = szN a ∧ szN a ≤ 440 ∧ szN a % 8 = 0 := by
  have hO := errA_ok hW h
  have hd := hO.dc
  refine ⟨by unfold encA; rw [if_pos h, enc_eq hd], by rw [← enc_eq hd, encB_len a hd.bd], ?_, (at_ok a).2.2.2.1⟩
  have := encA_len hW
  unfold encA at this
  rw [if_pos h, encB_len a hd.bd] at this
  exact this
set_option maxHeartbeats 4000000 in
theorem bytes_v (a : Att) (h1 : Byts a.nm) (h2 : Byts a.va) (s : List Int) (hB : Byts s) : EV G (Tb (bs true)) 7 [a.v, sv s] [] = some (vb true, []) := by
  refine EV_run rfl ?_
  have q0 := few_v (G := G) (bb := true) a
  have qw := aw_v (G := G)
  cases c0 : (decide (a.rs.length ≤ 80) && (decide (a.va.length ≤ 500) && decide (a.nm.length ≤ 60))) with
  | false =>
    rw [c0] at q0
    simp (disch := omega) only [go_sem, Nat.reduceAdd, Nat.reduceSub, Nat.reduceMul, Nat.reduceLeDiff, Nat.reduceEqDiff, h7c, qw, q0]
  | true =>
    rw [c0] at q0
    simp only [Bool.and_eq_true, decide_eq_true_eq] at c0
    have hW : a.W := ⟨h1, h2, by omega, by omega, by omega⟩
    by_cases c1 : (s.length : Int) > 600
    · simp (disch := omega) only [go_sem, Nat.reduceAdd, Nat.reduceSub, Nat.reduceMul, Nat.reduceLeDiff, Nat.reduceEqDiff, h7c, qw, q0, eq_true c1]
    have hl : s.length ≤ 1000 := by omega
    have q1 := copyA_v (G := G) (bb := true) a (by omega)
    have q2 := checkA_v (G := G) (bb := true) a hW
    have q3 := encodeA_v (G := G) (bb := true) a hW
    have q4 := bytesOf_v (G := G) (bb := true) a hW
    have q5 := decodeA_v (G := G) (bb := true) s hB hl
    have q6 := decodeAR_v (G := G) (bb := true) s hB hl
    have q7 := errR_v (G := G) (bb := true) a hW
    obtain ⟨hx, hor⟩ := decPV_W hB hl
    rw [← dec_eq hB hl] at q6
    generalize decPV s = x at q5 q6 hx hor
    have q8 := same8_v (G := G) (bb := true) x.1 x.1 x.2 x.2 hx hx
    rw [asB_refl _ _ hor] at q8
    by_cases c3 : errA a = 0
    · obtain ⟨e1, e2, e3, e4⟩ := encA_ok hW c3
      have q9 := encRef_v (G := G) (bb := true) a (errA_ok hW c3)
      rw [e1] at q3 q4
      generalize rfE a = R at q3 q4 q9 e2
      simp (disch := omega) only [go_sem, Nat.reduceAdd, Nat.reduceSub, Nat.reduceMul, Nat.reduceLeDiff, Nat.reduceEqDiff, h7c, qw, q0, c1, q1, q2, q3, q4, q5, q6, q7, q8, q9, c3]
    · have e1 : encA a = [] := by unfold encA; rw [if_neg c3]
      rw [e1] at q3 q4
      generalize errA a = E at c3 q2 q3 q4 q7
      simp (disch := omega) only [go_sem, Nat.reduceAdd, Nat.reduceSub, Nat.reduceMul, Nat.reduceLeDiff, Nat.reduceEqDiff, h7c, qw, q0, c1, q1, q2, q3, q4, q5, q6, q7, q8, c3, str_nil, List.length_nil]
theorem decPV_enc {a : Att} (hW : a.W) (h : errA a = 0) : decPV (rfE a) = (a, 0) := by
  obtain ⟨e1, e2, e3, e4⟩ := encA_ok hW h
  have hd := (errA_ok hW h).dc
  have e := dec1_enc hd
  unfold decPV
  rw [if_neg (by omega), e]
  simp only
  rw [if_neg (fun g => g.elim (fun g => by cases g) (fun g => g (enc_eq hd))), if_neg (fun g => g h)]
theorem decPV_0 {s : List Int} (hB : Byts s) (hl : s.length ≤ 1000) (h : (decPV s).2 = 0) : errA (decPV s).1 = 0 ∧ encA (decPV s).1 = s := by
  unfold decPV at h ⊢
  split at h
  · exact absurd h (by decide)
  · rename_i c0
    rw [if_neg c0]
    split at h
    · exact absurd h (by decide)
    · rename_i c1
      rw [if_neg c1]
      split at h
      · rename_i c2; exact absurd h c2
      · rename_i c2
        rw [if_neg c2]
        have c3 := Classical.not_not.1 c2
        refine ⟨c3, ?_⟩
        unfold encA
        rw [if_pos c3]
        exact Classical.byContradiction (fun g => c1 (.inr g))
set_option maxHeartbeats 4000000 in
theorem back8_v (a : Att) (h1 : Byts a.nm) (h2 : Byts a.va) (s : List Int) (hB : Byts s) : EV G (Tb (bs true)) 8 [a.v, sv s] [] = some (vb true, []) := by
  refine EV_run rfl ?_
  have q0 := few_v (G := G) (bb := true) a
  have qw := aw_v (G := G)
  by_cases c1 : (s.length : Int) > 600
  · simp (disch := omega) only [go_sem, Nat.reduceAdd, Nat.reduceSub, Nat.reduceMul, Nat.reduceLeDiff, Nat.reduceEqDiff, h8c, qw, eq_true c1]
  have hl : s.length ≤ 1000 := by omega
  have q5 := decodeA_v (G := G) (bb := true) s hB hl
  obtain ⟨hx, hor⟩ := decPV_W hB hl
  have q6 := encodeA_v (G := G) (bb := true) (decPV s).1 hx
  have hz := decPV_0 hB hl
  generalize decPV s = x at q5 q6 hz
  obtain ⟨b, f⟩ := x
  simp only at q5 q6 hz
  have second : ∀ c0 : (decide (a.rs.length ≤ 80) && (decide (a.va.length ≤ 500) && decide (a.nm.length ≤ 60))) = true, a.W := fun c0 => by
    simp only [Bool.and_eq_true, decide_eq_true_eq] at c0
    exact ⟨h1, h2, by omega, by omega, by omega⟩
  by_cases c2 : f = 0
  · obtain ⟨z1, z2⟩ := hz c2
    rw [z1, z2] at q6
    cases c0 : (decide (a.rs.length ≤ 80) && (decide (a.va.length ≤ 500) && decide (a.nm.length ≤ 60))) with
    | false =>
      rw [c0] at q0
      simp (disch := omega) only [go_sem, Nat.reduceAdd, Nat.reduceSub, Nat.reduceMul, Nat.reduceLeDiff, Nat.reduceEqDiff, h8c, qw, c1, q5, eq_true c2, q6, q0]
    | true =>
      rw [c0] at q0
      have hW := second c0
      have q7 := errR_v (G := G) (bb := true) a hW
      by_cases c3 : errA a = 0
      · obtain ⟨e1, e2, e3, e4⟩ := encA_ok hW c3
        have q1 := copyA_v (G := G) (bb := true) a (by have := hW.rl; omega)
        have q2 := encodeA_v (G := G) (bb := true) a hW
        have q3 := decodeA_v (G := G) (bb := true) (rfE a) (rfE_byts (errA_ok hW c3).dc) (by omega)
        have q4 := sameA_v (G := G) (bb := true) a a hW hW
        rw [sameB_refl] at q4
        rw [decPV_enc hW c3] at q3
        rw [e1, c3] at q2
        rw [c3] at q7
        have em : ((rfE a).length : Int).tmod 8 = 0 := by rw [e2, Int.tmod_eq_emod_of_nonneg (by omega)]; omega
        generalize rfE a = R at q2 q3 em
        simp (disch := omega) only [go_sem, Nat.reduceAdd, Nat.reduceSub, Nat.reduceMul, Nat.reduceLeDiff, Nat.reduceEqDiff, h8c, qw, c1, q5, eq_true c2, q6, q0, q7, q1, q2, q3, q4, em]
      · generalize errA a = E at c3 q7
        simp (disch := omega) only [go_sem, Nat.reduceAdd, Nat.reduceSub, Nat.reduceMul, Nat.reduceLeDiff, Nat.reduceEqDiff, h8c, qw, c1, q5, eq_true c2, q6, q0, q7, c3]
  · cases c0 : (decide (a.rs.length ≤ 80) && (decide (a.va.length ≤ 500) && decide (a.nm.length ≤ 60))) with
    | false =>
      rw [c0] at q0
      simp (disch := omega) only [go_sem, Nat.reduceAdd, Nat.reduceSub, Nat.reduceMul, Nat.reduceLeDiff, Nat.reduceEqDiff, h8c, qw, c1, q5, c2, q0]
    | true =>
      rw [c0] at q0
      have hW := second c0
      have q7 := errR_v (G := G) (bb := true) a hW
      by_cases c3 : errA a = 0
      · obtain ⟨e1, e2, e3, e4⟩ := encA_ok hW c3
        have q1 := copyA_v (G := G) (bb := true) a (by have := hW.rl; omega)
        have q2 := encodeA_v (G := G) (bb := true) a hW
        have q3 := decodeA_v (G := G) (bb := true) (rfE a) (rfE_byts (errA_ok hW c3).dc) (by omega)
        have q4 := sameA_v (G := G) (bb := true) a a hW hW
        rw [sameB_refl] at q4
        rw [decPV_enc hW c3] at q3
        rw [e1, c3] at q2
        rw [c3] at q7
        have em : ((rfE a).length : Int).tmod 8 = 0 := by rw [e2, Int.tmod_eq_emod_of_nonneg (by omega)]; omega
        generalize rfE a = R at q2 q3 em
        simp (disch := omega) only [go_sem, Nat.reduceAdd, Nat.reduceSub, Nat.reduceMul, Nat.reduceLeDiff, Nat.reduceEqDiff, h8c, qw, c1, q5, c2, q0, q7, q1, q2, q3, q4, em]
      · generalize errA a = E at c3 q7
        simp (disch := omega) only [go_sem, Nat.reduceAdd, Nat.reduceSub, Nat.reduceMul, Nat.reduceLeDiff, Nat.reduceEqDiff, h8c, qw, c1, q5, c2, q0, q7, c3]
end
section
set_option maxRecDepth 4000
set_option linter.unusedSimpArgs false
set_option linter.unusedVariables false
variable {G : Glob} {bb : Bool}
def tbl8 : Tbl := fun f => match Tbt f with
  | some h => some (h.code.er, h.rs, h.nt)
  | none => none
theorem tbl8_ok : TOK Tryz.prog tbl8 := by
  intro f c rs nt h
  unfold tbl8 at h
  split at h
  · rename_i x hx
    injection h with h; injection h with h1 h; injection h with h2 h3; subst h1; subst h2; subst h3
    exact Tb_ok (fun _ _ _ => none) f x hx
  · cases h
def tab64 : List Int := [0, 1, 56, 2, 57, 49, 28, 3, 61, 58, 42, 50, 38, 29, 17, 4, 62, 47, 59, 36, 45, 43, 51, 22, 53, 39, 33, 30, 24, 18, 12, 5, 63, 55, 48, 27, 60, 41, 37, 16, 46, 35, 44, 21, 52, 32, 23, 11, 54, 26, 40, 15, 34, 20, 31, 10, 25, 14, 19, 9, 13, 8, 7, 6]
def G8 : Glob := fun g => if g = 5 then some (tab64.map fun n => .raw (.int .u8 n)) else none
/-- what the examples call -/
noncomputable def bsW (G : Glob) : CallT := fun f args hp =>
  if f = 54 ∨ f = 45 then (if hp.isEmpty then (quietCall (callF tbl8 (evC G tbl8 3000)) f args).map fun v => (v, []) else none) else EV G (Tb (bs false)) f args hp
theorem bsW_ok {G : Glob} : CallOK Tryz.prog G (bsW G) := by
  intro f args hp av o' h hp0 hh
  unfold bsW at h
  split at h
  · rename_i hf
    split at h
    · rename_i he
      obtain ⟨v, h1, h2⟩ := Option.map_eq_some_iff.1 h
      injection h2 with h2 h3
      subst h2; subst h3
      have hnil : hp0 = [] := by
        rw [← hh] at he
        simpa using he
      subst hnil
      have hq := QC.run tbl8_ok 3000 h1
      refine ⟨?_, hq.gh (fun a o ⟨h1, h2⟩ _ => ⟨a, o, Gh.refl, Nat.zero_le _, h1, by rw [h2]; rfl⟩)⟩
      rcases hf with rfl | rfl
      · kernel_rfl
      · kernel_rfl
    · cases h
  · obtain ⟨n, hn⟩ := lim_some h
    exact callN_ok (Tb_ok (bs false)) (bs_ok (fun h => by cases h)) n f args hp av o' hn hp0 hh
def tbW : FuncId → Option HF := fun f => if f = 11 then some h11 else none
noncomputable def T2 (G : Glob) : HT := ⟨tbW, bsW G⟩
theorem T2_ok {G : Glob} : HTOK Tryz.prog (T2 G) := by
  intro f h hf
  change tbW f = some h at hf
  unfold tbW at hf
  split at hf
  · rename_i e
    subst e
    injection hf with hf; subst hf; exact ⟨by kernel_rfl, _, Tryz.func11, Tryz.ntmps11, h11_ok, r11_ok⟩
  · cases hf
theorem t2 {f : FuncId} {args : List AV} {hp : List AObj} {r : AV × List AObj} (h : EV G (Tb (bs false)) f args hp = some r) (h1 : f ≠ 11 := by decide) (h2 : ¬(f = 54 ∨ f = 45) := by decide) : EV G (T2 G) f args hp = some r :=
  EV_base (by show tbW f = none; exact if_neg h1) (by show bsW G f args hp = some r; unfold bsW; rw [if_neg h2]; exact h)
theorem t2q {f : FuncId} {args : List AV} {v : AV} (h2 : f = 54 ∨ f = 45) (h : quietCall (callF tbl8 (evC G tbl8 3000)) f args = some v) : EV G (T2 G) f args [] = some (v, []) :=
  EV_base (by show tbW f = none; rcases h2 with rfl | rfl <;> rfl) (by show bsW G f args [] = some _; unfold bsW; rw [if_pos h2]; simp [h])
theorem f1_q : EV G8 (T2 G8) 54 [runsV [⟨5, 1⟩]] [] = some (sv [53, 43, 49], []) := t2q (.inl rfl) (by kernel_rfl)
theorem f2_q : EV G8 (T2 G8) 54 [runsV [⟨6, 3⟩]] [] = some (sv [54, 43, 51], []) := t2q (.inl rfl) (by kernel_rfl)
theorem k_q : EV G8 (T2 G8) 45 [.agg [.dc (ci 128), .dc (.raw (.string (str [115]))), .dc (ci 1)]] [] = some (sv [56, 48, 58, 115, 58, 49], []) := t2q (.inr rfl) (by kernel_rfl)
theorem key_v (a : Att) : EV G (Tb (bs bb)) 44 [a.v] [] = some (.agg [.dc (ci a.ty), .dc (.raw (.string (str a.nm))), .dc (ci a.fi)], []) := by
  refine EV_run rfl ?_
  simp (disch := omega) only [go_sem, Nat.reduceAdd, Nat.reduceSub, Nat.reduceMul, Nat.reduceLeDiff, Nat.reduceEqDiff, h44c, str_nil]
def o1 : Att := ⟨128, [], 2, 0, false, [], 0, [⟨9, 1⟩], 256, 3, 3⟩
def s1 : Att := ⟨128, [115], 3, 0, false, [], 0, [⟨5, 1⟩], 1024, 1000, 900⟩
def s2 : Att := ⟨128, [115], 3, 0, false, [], 1, [⟨6, 3⟩], 0, 0, 0⟩
def ty16 : Att := ⟨16, [], 0, 0, false, [], 0, [], 0, 0, 0⟩
theorem abcW : abcA.W := ⟨byts_c _ (by decide), byts_c _ (by decide), by decide, by decide, by decide⟩
theorem strW : strA.W := ⟨byts_c _ (by decide), byts_c _ (by decide), by decide, by decide, by decide⟩
theorem o1W : o1.W := ⟨byts_c _ (by decide), byts_c _ (by decide), by decide, by decide, by decide⟩
theorem tyW : ty16.W := ⟨byts_c _ (by decide), byts_c _ (by decide), by decide, by decide, by decide⟩
theorem x1 : encA abcA = [128, 0, 0, 0, 32, 0, 0, 0, 0, 0, 24, 0, 0, 0, 2, 0, 3, 0, 0, 0, 24, 0, 0, 0, 97, 98, 99, 0, 0, 0, 0, 0] := by kernel_rfl
theorem x2 : errA abcA = 0 := by kernel_rfl
theorem x3 : movOV abcA [⟨9, 1⟩] = (o1, 0) := by kernel_rfl
theorem x4 : ((encA o1).length : Int) = 48 := by kernel_rfl
theorem x5 : errA o1 = 0 := by kernel_rfl
theorem x6 : splV strA 1 = (s1, s2, 0) := by kernel_rfl
theorem x7 : errA ty16 = 20 := by kernel_rfl
theorem y1 : ((str [128, 0, 0, 0, 32, 0, 0, 0, 0, 0, 24, 0, 0, 0, 2, 0, 3, 0, 0, 0, 24, 0, 0, 0, 97, 98, 99, 0, 0, 0, 0, 0]) = (⟨#[128, 0, 0, 0, 32, 0, 0, 0, 0, 0, 24, 0, 0, 0, 2, 0, 3, 0, 0, 0, 24, 0, 0, 0, 97, 98, 99, 0, 0, 0, 0, 0]⟩ : ByteArray)) = True := eq_true (by kernel_rfl)
theorem y2 : ((str [53, 43, 49]) = (⟨#[53, 43, 49]⟩ : ByteArray)) = True := eq_true (by kernel_rfl)
theorem y3 : ((str [54, 43, 51]) = (⟨#[54, 43, 51]⟩ : ByteArray)) = True := eq_true (by kernel_rfl)
theorem y4 : ((str [56, 48, 58, 115, 58, 49]) = (⟨#[56, 48, 58, 115, 58, 49]⟩ : ByteArray)) = True := eq_true (by kernel_rfl)
theorem awake_e : EV G8 (T2 G8) 11 [] [] = some (vb true, []) := by
  have h52 := t2 (abc_v (G := G8) (bb := false))
  have h35 := t2 (encodeA_v (G := G8) (bb := false) abcA abcW)
  have h13 := t2 (movedOut_v (G := G8) (bb := false) abcA abcW [⟨9, 1⟩] (by decide))
  have h36 := t2 (bytesOf_v (G := G8) (bb := false) o1 o1W)
  have h53 := t2 (stream_v (G := G8) (bb := false))
  have h22 := t2 (split_v (G := G8) (bb := false) strA strW 1)
  have h44 := t2 (key_v (G := G8) (bb := false) s2)
  have h34 := t2 (checkA_v (G := G8) (bb := false) ty16 tyW)
  have h54 := f1_q
  have h55 := f2_q
  have h45 := k_q
  rw [x1, x2] at h35
  rw [x3] at h13
  rw [x4, x5] at h36
  rw [x6] at h22
  rw [x7] at h34
  simp only [runsV, rtv, spv, Att.v, Att.c, Att.t, abcA, strA, o1, s1, s2, ty16, List.map_cons, List.map_nil, Run.e] at h52 h35 h13 h36 h53 h22 h44 h34 h54 h55
  refine EV_run (h := h11) rfl ?_
  simp (disch := omega) only [go_sem, Nat.reduceAdd, Nat.reduceSub, Nat.reduceMul, Nat.reduceLeDiff, Nat.reduceEqDiff, h11c, h52, h35, h13, h36, h53, h22, h44, h34, h54, h55, h45, y1, y2, y3, y4, str_nil]
theorem awake_q : QC Tryz.prog G8 11 [] (vb true) := EV_qc T2_ok bsW_ok awake_e
end
section
set_option maxRecDepth 4000
set_option linter.unusedSimpArgs false
set_option linter.unusedVariables false
variable {G : Glob} {bb : Bool}
end
end Go.Proofs.YtmognenhkecngaaGreatDoor
