/- AttributeMoves returns true, by its contract. Conditions: none. -/
import Derived.Test.YtmognenhkecngaaGreatDoorUh
import Derived.Test.YtmognenhkecngaaGreatDoorUb
namespace Go.Proofs.YtmognenhkecngaaGreatDoor
section
set_option maxRecDepth 4000
set_option linter.unusedSimpArgs false
set_option linter.unusedVariables false
variable {G : Glob} {bb : Bool}
section
variable {B : CallT}
theorem indexFunc_v (p : Run → Bool) (f : Nat) (hf : ∀ r : Run, EV G (Tb B) f [r.v] [] = some (vb (p r), [])) (l : List Run) (hl : l.length ≤ 1000000) :
    EV G (Tb B) 120 [runsV l, .one (.fn f [])] [] = some (vi (if ix (fun k => p (l.getD k ⟨0, 0⟩) = true) l.length = l.length then -1 else (ix (fun k => p (l.getD k ⟨0, 0⟩) = true) l.length : Nat)), []) := by
  refine EV_run rfl ?_
  simp (disch := omega) only [go_sem, Nat.reduceAdd, Nat.reduceSub, Nat.reduceMul, Nat.reduceLeDiff, Nat.reduceEqDiff, h120c, List.length_map]
  rw [EL_fst (fun k => ⟨(runsV l :: .one (.fn f []) :: jk 5 (vi l.length :: vi k :: jk 10 [])), []⟩) (fun k => p (l.getD k ⟨0, 0⟩) = true) l.length ?_ ?_]
  rotate_left
  · rfl
  · intro k hk hn
    have h1 := hn k (Nat.le_refl _)
    have h2 := hf l[k]
    rw [runAt l k hk] at h1
    simp (disch := omega) only [go_sem, Nat.reduceAdd, Nat.reduceSub, Nat.reduceMul, Nat.reduceLeDiff, Nat.reduceEqDiff, h120l0, List.length_map, Run.e, h2, h1]
  obtain ⟨hk, hp, hn⟩ := ix_spec (fun k => p (l.getD k ⟨0, 0⟩) = true) l.length
  generalize ix (fun k => p (l.getD k ⟨0, 0⟩) = true) l.length = k at *
  rcases hp with rfl | ⟨hk', hp⟩
  · simp (disch := omega) only [go_sem, Nat.reduceAdd, Nat.reduceSub, Nat.reduceMul, Nat.reduceLeDiff, Nat.reduceEqDiff, h120l0, List.length_map]
  · have h2 := hf l[k]
    rw [runAt l k hk'] at hp
    rw [if_neg (by omega)]
    simp (disch := omega) only [go_sem, Nat.reduceAdd, Nat.reduceSub, Nat.reduceMul, Nat.reduceLeDiff, Nat.reduceEqDiff, h120l0, List.length_map, Run.e, h2, hp]
end
theorem clone_v (l : List Run) (hl : l.length ≤ 1000000) : EV G (Tb (bs bb)) 59 [runsV l] [] = some (.one (.bld 0 l.length), [.arr 0 2 (l.map Run.e)]) := by
  refine EV_base rfl ?_
  show (if allLen 2 (l.map Run.e) = true ∧ (l.map Run.e).length * 16 ≤ 140737488355328 then some (AV.one (.bld 0 (l.map Run.e).length), [AObj.arr 0 2 (l.map Run.e)]) else none) = _
  rw [if_pos ⟨all_run l, by rw [List.length_map]; omega⟩, List.length_map]
theorem holeF_v (r : Run) : EV G (Tb (bs bb)) 62 [r.v] [] = some (vb (decide (r.s = -1)), []) := by
  refine EV_run rfl ?_
  simp (disch := omega) only [go_sem, Nat.reduceAdd, Nat.reduceSub, Nat.reduceMul, Nat.reduceLeDiff, Nat.reduceEqDiff, h62c]
def holeB (l : List Run) : Bool := l.any fun r => decide (r.s = -1)
theorem contHole_v (l : List Run) (hl : l.length ≤ 1000000) : EV G (Tb (bs bb)) 61 [runsV l, .one (.fn 62 [])] [] = some (vb (holeB l), []) := by
  refine EV_run rfl ?_
  have q := indexFunc_v (G := G) (B := bs bb) (fun r => decide (r.s = -1)) 62 holeF_v l hl
  obtain ⟨hk, hp, hn⟩ := ix_spec (fun k => decide ((l.getD k ⟨0, 0⟩).s = -1) = true) l.length
  generalize ix (fun k => decide ((l.getD k ⟨0, 0⟩).s = -1) = true) l.length = k at *
  rcases hp with rfl | ⟨hk', hp⟩
  · rw [if_pos rfl] at q
    have e : holeB l = false := by
      unfold holeB
      rw [Bool.eq_false_iff]
      intro h
      obtain ⟨r, hr, hs⟩ := List.any_eq_true.1 h
      obtain ⟨j, hj, rfl⟩ := List.mem_iff_getElem.1 hr
      have := hn j hj
      rw [runAt l j hj] at this
      exact this hs
    rw [e]
    simp (disch := omega) only [go_sem, Nat.reduceAdd, Nat.reduceSub, Nat.reduceMul, Nat.reduceLeDiff, Nat.reduceEqDiff, h61c, q]
    rfl
  · rw [if_neg (by omega)] at q
    have e : holeB l = true := by
      unfold holeB
      rw [runAt l k hk'] at hp
      exact List.any_eq_true.2 ⟨_, List.getElem_mem hk', hp⟩
    rw [e]
    have e2 : ((k : Int) ≥ 0) = True := eq_true (by omega)
    simp (disch := omega) only [go_sem, Nat.reduceAdd, Nat.reduceSub, Nat.reduceMul, Nat.reduceLeDiff, Nat.reduceEqDiff, h61c, q, e2]
theorem copyA_v (a : Att) (hl : a.rs.length ≤ 1000000) : EV G (Tb (bs bb)) 14 [a.v] [] = some (a.v, []) := by
  refine EV_run rfl ?_
  have q := copyRuns_v (G := G) (B := bs bb) a.rs hl
  simp (disch := omega) only [go_sem, Nat.reduceAdd, Nat.reduceSub, Nat.reduceMul, Nat.reduceLeDiff, Nat.reduceEqDiff, h14c, q, take_map_len, List.length_map]
theorem few_v (a : Att) : EV G (Tb (bs bb)) 12 [a.v] [] = some (vb (decide (a.rs.length ≤ 80) && (decide (a.va.length ≤ 500) && decide (a.nm.length ≤ 60))), []) := by
  refine EV_run rfl ?_
  have e1 : ((a.rs.length : Int) ≤ 80) = (a.rs.length ≤ 80) := by apply propext; omega
  have e2 : ((a.va.length : Int) ≤ 500) = (a.va.length ≤ 500) := by apply propext; omega
  have e3 : ((a.nm.length : Int) ≤ 60) = (a.nm.length ≤ 60) := by apply propext; omega
  by_cases c1 : a.rs.length ≤ 80
  · by_cases c2 : a.va.length ≤ 500
    · simp (disch := omega) only [go_sem, Nat.reduceAdd, Nat.reduceSub, Nat.reduceMul, Nat.reduceLeDiff, Nat.reduceEqDiff, h12c, List.length_map, e1, e2, e3, eq_true c1, eq_true c2]
    · simp (disch := omega) only [go_sem, Nat.reduceAdd, Nat.reduceSub, Nat.reduceMul, Nat.reduceLeDiff, Nat.reduceEqDiff, h12c, List.length_map, e1, e2, e3, eq_true c1, c2]
  · simp (disch := omega) only [go_sem, Nat.reduceAdd, Nat.reduceSub, Nat.reduceMul, Nat.reduceLeDiff, Nat.reduceEqDiff, h12c, List.length_map, e1, e2, e3, c1]
def sameB (a b : Att) : Bool := decide (a.ty = b.ty) && (decide (a.nm = b.nm) && (decide (a.id = b.id) && (decide (a.fl = b.fl) && (decide (a.res = b.res) && (decide (a.va = b.va) && (decide (a.fi = b.fi) && (decide (a.rs = b.rs) && (decide (a.al = b.al) && (decide (a.sz = b.sz) && (decide (a.vd = b.vd)))))))))))
theorem sameB_iff (a b : Att) : sameB a b = true ↔ a = b := by
  cases a; cases b
  simp [sameB]
set_option maxHeartbeats 4000000 in
theorem sameA_v (a b : Att) (ha : a.W) (hb : b.W) : EV G (Tb (bs bb)) 21 [a.v, b.v] [] = some (vb (sameB a b), []) := by
  refine EV_run rfl ?_
  have e1 := str_inj ha.nm hb.nm
  have e2 := str_inj ha.va hb.va
  have q := sameRuns_v (G := G) (B := bs bb) a.rs b.rs (by have := ha.rl; omega)
  by_cases c0 : a.ty = b.ty
  rotate_left
  · simp (disch := omega) only [go_sem, Nat.reduceAdd, Nat.reduceSub, Nat.reduceMul, Nat.reduceLeDiff, Nat.reduceEqDiff, h21c, e1, e2, q, c0]
    simp [sameB, c0]
  by_cases c1 : a.nm = b.nm
  rotate_left
  · simp (disch := omega) only [go_sem, Nat.reduceAdd, Nat.reduceSub, Nat.reduceMul, Nat.reduceLeDiff, Nat.reduceEqDiff, h21c, e1, e2, q, eq_true c0, c1]
    simp [sameB, c0, c1]
  by_cases c2 : a.id = b.id
  rotate_left
  · simp (disch := omega) only [go_sem, Nat.reduceAdd, Nat.reduceSub, Nat.reduceMul, Nat.reduceLeDiff, Nat.reduceEqDiff, h21c, e1, e2, q, eq_true c0, eq_true c1, c2]
    simp [sameB, c0, c1, c2]
  by_cases c3 : a.fl = b.fl
  rotate_left
  · simp (disch := omega) only [go_sem, Nat.reduceAdd, Nat.reduceSub, Nat.reduceMul, Nat.reduceLeDiff, Nat.reduceEqDiff, h21c, e1, e2, q, eq_true c0, eq_true c1, eq_true c2, c3]
    simp [sameB, c0, c1, c2, c3]
  by_cases c4 : a.res = b.res
  rotate_left
  · have d4 : (a.res == b.res) = false := by simpa using c4
    simp (disch := omega) only [go_sem, Nat.reduceAdd, Nat.reduceSub, Nat.reduceMul, Nat.reduceLeDiff, Nat.reduceEqDiff, h21c, e1, e2, q, eq_true c0, eq_true c1, eq_true c2, eq_true c3, d4]
    simp [sameB, c0, c1, c2, c3, c4]
  have d4 : (a.res == b.res) = true := by simpa using c4
  by_cases c5 : a.va = b.va
  rotate_left
  · simp (disch := omega) only [go_sem, Nat.reduceAdd, Nat.reduceSub, Nat.reduceMul, Nat.reduceLeDiff, Nat.reduceEqDiff, h21c, e1, e2, q, eq_true c0, eq_true c1, eq_true c2, eq_true c3, d4, c5]
    simp [sameB, c0, c1, c2, c3, c4, c5]
  by_cases c6 : a.fi = b.fi
  rotate_left
  · simp (disch := omega) only [go_sem, Nat.reduceAdd, Nat.reduceSub, Nat.reduceMul, Nat.reduceLeDiff, Nat.reduceEqDiff, h21c, e1, e2, q, eq_true c0, eq_true c1, eq_true c2, eq_true c3, d4, eq_true c5, c6]
    simp [sameB, c0, c1, c2, c3, c4, c5, c6]
  by_cases c7 : a.rs = b.rs
  rotate_left
  · simp (disch := omega) only [go_sem, Nat.reduceAdd, Nat.reduceSub, Nat.reduceMul, Nat.reduceLeDiff, Nat.reduceEqDiff, h21c, e1, e2, q, eq_true c0, eq_true c1, eq_true c2, eq_true c3, d4, eq_true c5, eq_true c6, c7]
    simp [sameB, c0, c1, c2, c3, c4, c5, c6, c7]
  by_cases c8 : a.al = b.al
  rotate_left
  · simp (disch := omega) only [go_sem, Nat.reduceAdd, Nat.reduceSub, Nat.reduceMul, Nat.reduceLeDiff, Nat.reduceEqDiff, h21c, e1, e2, q, eq_true c0, eq_true c1, eq_true c2, eq_true c3, d4, eq_true c5, eq_true c6, eq_true c7, c8]
    simp [sameB, c0, c1, c2, c3, c4, c5, c6, c7, c8]
  by_cases c9 : a.sz = b.sz
  rotate_left
  · simp (disch := omega) only [go_sem, Nat.reduceAdd, Nat.reduceSub, Nat.reduceMul, Nat.reduceLeDiff, Nat.reduceEqDiff, h21c, e1, e2, q, eq_true c0, eq_true c1, eq_true c2, eq_true c3, d4, eq_true c5, eq_true c6, eq_true c7, eq_true c8, c9]
    simp [sameB, c0, c1, c2, c3, c4, c5, c6, c7, c8, c9]
  by_cases c10 : a.vd = b.vd
  rotate_left
  · simp (disch := omega) only [go_sem, Nat.reduceAdd, Nat.reduceSub, Nat.reduceMul, Nat.reduceLeDiff, Nat.reduceEqDiff, h21c, e1, e2, q, eq_true c0, eq_true c1, eq_true c2, eq_true c3, d4, eq_true c5, eq_true c6, eq_true c7, eq_true c8, eq_true c9, c10]
    simp [sameB, c0, c1, c2, c3, c4, c5, c6, c7, c8, c9, c10]
  simp (disch := omega) only [go_sem, Nat.reduceAdd, Nat.reduceSub, Nat.reduceMul, Nat.reduceLeDiff, Nat.reduceEqDiff, h21c, e1, e2, q, eq_true c0, eq_true c1, eq_true c2, eq_true c3, d4, eq_true c5, eq_true c6, eq_true c7, eq_true c8, eq_true c9, eq_true c10]
  simp [sameB, c0, c1, c2, c3, c4, c5, c6, c7, c8, c9, c10]
theorem Att.nil_W : Att.nil.W := ⟨byts_nil, byts_nil, Nat.zero_le _, Nat.zero_le _, Nat.zero_le _⟩
/-- is an attribute as it is wanted, or the error? -/
def asB (x : Att) (e : Int) (w : Att) (c : Int) : Bool := decide (e = c) && (if c = 0 then sameB x w else sameB x Att.nil)
theorem same8_v (x w : Att) (e c : Int) (hx : x.W) (hw : w.W) : EV G (Tb (bs bb)) 18 [x.v, vi e, w.v, vi c] [] = some (vb (asB x e w c), []) := by
  refine EV_run rfl ?_
  have q1 := sameA_v (G := G) (bb := bb) x w hx hw
  have q2 := sameA_v (G := G) (bb := bb) x Att.nil hx Att.nil_W
  simp only [Att.nil, Att.v, Att.c, List.map_nil] at q2
  by_cases c1 : e = c
  · subst c1
    by_cases c2 : e = 0
    · subst c2
      simp (disch := omega) only [go_sem, Nat.reduceAdd, Nat.reduceSub, Nat.reduceMul, Nat.reduceLeDiff, Nat.reduceEqDiff, h18c, q1, str_nil]
      simp [asB]
    · cases c3 : sameB x Att.nil with
      | true =>
        simp only [Att.nil] at c3
        rw [c3] at q2
        simp (disch := omega) only [go_sem, Nat.reduceAdd, Nat.reduceSub, Nat.reduceMul, Nat.reduceLeDiff, Nat.reduceEqDiff, h18c, q2, c2, str_nil]
        simp [asB, c2, Att.nil, c3]
      | false =>
        simp only [Att.nil] at c3
        rw [c3] at q2
        simp (disch := omega) only [go_sem, Nat.reduceAdd, Nat.reduceSub, Nat.reduceMul, Nat.reduceLeDiff, Nat.reduceEqDiff, h18c, q2, c2, str_nil]
        simp [asB, c2, Att.nil, c3]
  · simp (disch := omega) only [go_sem, Nat.reduceAdd, Nat.reduceSub, Nat.reduceMul, Nat.reduceLeDiff, Nat.reduceEqDiff, h18c, c1]
    simp [asB, c1]
end
section
set_option maxRecDepth 4000
set_option linter.unusedSimpArgs false
set_option linter.unusedVariables false
variable {G : Glob} {bb : Bool}
def blI (s t : ByteArray) (v0 v1 v2 v3 v4 v5 : AV) : Option AV := aggo (fillV ([Zi 0, .string s, Zi 0, Zi 0, .bool false, .string t, Zi 0, .slice none 0 0, Zi 0, Zi 0, Zi 0].map rawC) [(0, 1, v0), (1, 1, v1), (2, 1, v2), (3, 1, v3), (4, 1, v4), (5, 1, v5)])
theorem blI_s {call : CallT} {st : AS} {l : List AOp} {d : Option Nat} {s t : ByteArray} {x0 x1 x2 x3 x4 x5 : AArg} : stZ call G st l d (.build [Zi 0, .string s, Zi 0, Zi 0, .bool false, .string t, Zi 0, .slice none 0 0, Zi 0, Zi 0, Zi 0] [(0, 1, x0), (1, 1, x1), (2, 1, x2), (3, 1, x3), (4, 1, x4), (5, 1, x5)]) = putX st d (blI s t (evA G st.sl x0) (evA G st.sl x1) (evA G st.sl x2) (evA G st.sl x3) (evA G st.sl x4) (evA G st.sl x5)) := rfl
theorem blI_o {s t : ByteArray} {c0 c1 c2 c3 c4 c5 : Cel} : blI s t (.one c0) (.one c1) (.one c2) (.one c3) (.one c4) (.one c5) = some (.agg [c0, c1, c2, c3, c4, c5, .dc (.raw (Zi 0)), .dc (.raw (.slice none 0 0)), .dc (.raw (Zi 0)), .dc (.raw (Zi 0)), .dc (.raw (Zi 0))]) := by kernel_rfl
def blO (s t : ByteArray) (v0 v1 v2 v3 v4 v5 v6 : AV) : Option AV := aggo (fillV ([Zi 0, .string s, Zi 0, Zi 0, .bool false, .string t, Zi 0, .slice none 0 0, Zi 0, Zi 0, Zi 0].map rawC) [(0, 1, v0), (1, 1, v1), (2, 1, v2), (3, 1, v3), (7, 1, v4), (9, 1, v5), (10, 1, v6)])
theorem blO_q {call : CallT} {st : AS} {d : Option Nat} {s t : ByteArray} {x0 x1 x2 x3 x4 x5 x6 : AArg} : qtZ call G st d (.build [Zi 0, .string s, Zi 0, Zi 0, .bool false, .string t, Zi 0, .slice none 0 0, Zi 0, Zi 0, Zi 0] [(0, 1, x0), (1, 1, x1), (2, 1, x2), (3, 1, x3), (7, 1, x4), (9, 1, x5), (10, 1, x6)]) = putX st d (blO s t (evA G st.sl x0) (evA G st.sl x1) (evA G st.sl x2) (evA G st.sl x3) (evA G st.sl x4) (evA G st.sl x5) (evA G st.sl x6)) := rfl
theorem blO_o {s t : ByteArray} {c0 c1 c2 c3 c4 c5 c6 : Cel} : blO s t (.one c0) (.one c1) (.one c2) (.one c3) (.one c4) (.one c5) (.one c6) = some (.agg [c0, c1, c2, c3, .dc (.raw (.bool false)), .dc (.raw (.string t)), .dc (.raw (Zi 0)), c4, .dc (.raw (Zi 0)), c5, c6]) := by kernel_rfl
def blS (s t : ByteArray) (v0 v1 v2 v3 v4 : AV) : Option AV := aggo (fillV ([Zi 0, .string s, Zi 0, Zi 0, .bool false, .string t, Zi 0, .slice none 0 0, Zi 0, Zi 0, Zi 0].map rawC) [(0, 1, v0), (1, 1, v1), (2, 1, v2), (3, 1, v3), (6, 1, v4)])
theorem blS_s {call : CallT} {st : AS} {l : List AOp} {d : Option Nat} {s t : ByteArray} {x0 x1 x2 x3 x4 : AArg} : stZ call G st l d (.build [Zi 0, .string s, Zi 0, Zi 0, .bool false, .string t, Zi 0, .slice none 0 0, Zi 0, Zi 0, Zi 0] [(0, 1, x0), (1, 1, x1), (2, 1, x2), (3, 1, x3), (6, 1, x4)]) = putX st d (blS s t (evA G st.sl x0) (evA G st.sl x1) (evA G st.sl x2) (evA G st.sl x3) (evA G st.sl x4)) := rfl
theorem blS_q {call : CallT} {st : AS} {d : Option Nat} {s t : ByteArray} {x0 x1 x2 x3 x4 : AArg} : qtZ call G st d (.build [Zi 0, .string s, Zi 0, Zi 0, .bool false, .string t, Zi 0, .slice none 0 0, Zi 0, Zi 0, Zi 0] [(0, 1, x0), (1, 1, x1), (2, 1, x2), (3, 1, x3), (6, 1, x4)]) = putX st d (blS s t (evA G st.sl x0) (evA G st.sl x1) (evA G st.sl x2) (evA G st.sl x3) (evA G st.sl x4)) := rfl
theorem blS_o {s t : ByteArray} {c0 c1 c2 c3 c4 : Cel} : blS s t (.one c0) (.one c1) (.one c2) (.one c3) (.one c4) = some (.agg [c0, c1, c2, c3, .dc (.raw (.bool false)), .dc (.raw (.string t)), c4, .dc (.raw (.slice none 0 0)), .dc (.raw (Zi 0)), .dc (.raw (Zi 0)), .dc (.raw (Zi 0))]) := by kernel_rfl
end
section
set_option maxRecDepth 4000
set_option linter.unusedSimpArgs false
set_option linter.unusedVariables false
variable {G : Glob} {bb : Bool}
abbrev rtv (p : Att × Int) : AV := .tup [p.1.t, .one (.dc (ci p.2))]
def resA (a : Att) : Att × Int := if errA a = 0 then (a, 0) else (Att.nil, errA a)
theorem result8_v (a : Att) (hW : a.W) : EV G (Tb (bs bb)) 63 [a.v] [] = some (rtv (resA a), []) := by
  refine EV_run rfl ?_
  have q := checkA_v (G := G) (bb := bb) a hW
  unfold resA
  by_cases c : errA a = 0
  · rw [if_pos c]
    simp (disch := omega) only [go_sem, Nat.reduceAdd, Nat.reduceSub, Nat.reduceMul, Nat.reduceLeDiff, Nat.reduceEqDiff, h63c, q, c]
  · rw [if_neg c]
    simp only [Att.nil]
    simp (disch := omega) only [go_sem, Nat.reduceAdd, Nat.reduceSub, Nat.reduceMul, Nat.reduceLeDiff, Nat.reduceEqDiff, h63c, q, c, ↓blI_s, blI_o, str_nil, List.map_nil]
    rfl
/-- what an attribute becomes that is moved out -/
def outA (a : Att) (l : List Run) : Att := ⟨a.ty, a.nm, a.id, a.fl, false, [], 0, l, lenW l * 256, a.va.length, a.va.length⟩
def movO (a : Att) (l : List Run) : Att × Int := if ¬(a.res = true ∧ a.ty ∉ rtys) then (Att.nil, 20) else if (chk l).2 ≠ 0 then (Att.nil, (chk l).2) else if holeB l = true then (Att.nil, 3)
  else if lenW l ≠ ((a.va.length + 255) / 256 : Nat) then (Att.nil, 2) else resA (outA a l)
def movOV (a : Att) (l : List Run) : Att × Int := if errA a ≠ 0 then (Att.nil, errA a) else movO a l
theorem outA_W {a : Att} (hW : a.W) {l : List Run} (hl : l.length ≤ 100000) : (outA a l).W := ⟨hW.nm, byts_nil, hW.nl, Nat.zero_le _, hl⟩
theorem ty_of {a : Att} (h : errA a = 0) : a.ty ∈ tys := by
  unfold errA at h
  split at h
  · omega
  · rename_i h1; exact Classical.not_not.1 h1
set_option maxHeartbeats 4000000 in
theorem movedOut_v (a : Att) (hW : a.W) (l : List Run) (hl : l.length ≤ 100000) : EV G (Tb (bs bb)) 13 [a.v, runsV l] [] = some (rtv (movOV a l), []) := by
  refine EV_run rfl ?_
  have q := checkA_v (G := G) (bb := bb) a hW
  have q1 := check_v (G := G) (B := bs bb) l
  have q2 := result8_v (G := G) (bb := bb) (outA a l) (outA_W hW hl)
  have q3 := clone_v (G := G) (bb := bb) l (by omega)
  have q4 := clusters8_v (G := G) (bb := bb) ⟨a.ty, a.nm, a.id, a.fl, false, [], 0, l, 0, a.va.length, a.va.length⟩ (by show l.length ≤ 1000000; omega)
  have q5 := contHole_v (G := G) (bb := bb) l (by omega)
  have hvl := hW.vl
  simp only [Att.v, Att.c] at q4
  unfold movOV
  by_cases c : errA a = 0
  · rw [if_neg (fun h => h c)]
    have em := mpGet_ty a.ty
    rw [if_pos (ty_of c)] at em
    unfold movO
    by_cases c1 : a.res = true
    · simp only [Att.v, Att.c, c1] at q
      by_cases c2 : a.ty ∈ rtys
      · rw [if_pos (fun h => h.2 c2)]
        rw [decide_eq_true c2] at em
        simp only [Att.nil]
        simp (disch := omega) only [go_sem, Nat.reduceAdd, Nat.reduceSub, Nat.reduceMul, Nat.reduceLeDiff, Nat.reduceEqDiff, h13c, q, c, c1, types_v, em, unless8_u, un_t, un_f, firstE_0, firstE_n, firstE_nil, first8_2, str_nil, List.map_nil]
        rfl
      · rw [if_neg (fun h => h ⟨c1, c2⟩)]
        rw [decide_eq_false c2] at em
        by_cases c3 : (chk l).2 = 0
        · rw [if_neg (fun h => h c3)]
          obtain ⟨g1, g2, g3⟩ := chk_bd c3
          have e5 : ((a.va.length : Int) + 256 - 1).tdiv 256 = (((a.va.length + 255) / 256 : Nat) : Int) := by rw [tdiv_nn _ _ (by omega)]; omega
          cases c4 : holeB l with
          | true =>
            rw [if_pos rfl]
            rw [c4] at q5
            simp only [Att.nil]
            simp (disch := omega) only [go_sem, Nat.reduceAdd, Nat.reduceSub, Nat.reduceMul, Nat.reduceLeDiff, Nat.reduceEqDiff, h13c, q, c, c1, types_v, em, unless8_u, un_t, un_f, firstE_0, firstE_n, firstE_nil, first8_2, ↓blO_q, blO_o, str_nil, List.map_nil, q1, c3, q3, take_map_len, List.length_map, q4, q5, e5]
            rfl
          | false =>
            rw [if_neg (by decide)]
            rw [c4] at q5
            by_cases c5 : lenW l = ((a.va.length + 255) / 256 : Nat)
            · rw [if_neg (fun h => h c5)]
              generalize hp : resA (outA a l) = p at q2 ⊢
              simp only [outA, Att.v, Att.c] at q2
              obtain ⟨x, e⟩ := p
              simp (disch := omega) only [go_sem, Nat.reduceAdd, Nat.reduceSub, Nat.reduceMul, Nat.reduceLeDiff, Nat.reduceEqDiff, h13c, q, c, c1, types_v, em, unless8_u, un_t, un_f, firstE_0, firstE_n, firstE_nil, first8_2, ↓blO_q, blO_o, str_nil, List.map_nil, q1, c3, q3, take_map_len, List.length_map, q4, q5, e5, eq_true c5, q2]
            · rw [if_pos c5]
              simp only [Att.nil]
              simp (disch := omega) only [go_sem, Nat.reduceAdd, Nat.reduceSub, Nat.reduceMul, Nat.reduceLeDiff, Nat.reduceEqDiff, h13c, q, c, c1, types_v, em, unless8_u, un_t, un_f, firstE_0, firstE_n, firstE_nil, first8_2, ↓blO_q, blO_o, str_nil, List.map_nil, q1, c3, q3, take_map_len, List.length_map, q4, q5, e5, c5]
              rfl
        · rw [if_pos c3]
          simp only [Att.nil]
          simp (disch := omega) only [go_sem, Nat.reduceAdd, Nat.reduceSub, Nat.reduceMul, Nat.reduceLeDiff, Nat.reduceEqDiff, h13c, q, c, c1, types_v, em, unless8_u, un_t, un_f, firstE_0, firstE_n, firstE_nil, first8_2, str_nil, List.map_nil, q1, c3]
          rfl
    · rw [if_pos (fun h => c1 h.1)]
      have c1' : a.res = false := by simpa using c1
      simp only [Att.v, Att.c, c1'] at q
      simp only [Att.nil]
      simp (disch := omega) only [go_sem, Nat.reduceAdd, Nat.reduceSub, Nat.reduceMul, Nat.reduceLeDiff, Nat.reduceEqDiff, h13c, q, c, c1', unless8_u, un_t, un_f, firstE_0, firstE_n, firstE_nil, first8_2, str_nil, List.map_nil]
      rfl
  · rw [if_pos c]
    simp only [Att.nil]
    cases c1 : a.res with
    | true =>
      simp only [Att.v, Att.c, c1] at q
      have em := mpGet_ty a.ty
      have hmR : ∃ b, mpR false (.bool false) (mpGet tyL a.ty) = vb b := by
        rw [em]
        split
        · exact ⟨_, rfl⟩
        · exact ⟨_, rfl⟩
      by_cases ht : a.ty ∈ tys
      · rw [if_pos ht] at em
        simp (disch := omega) only [go_sem, Nat.reduceAdd, Nat.reduceSub, Nat.reduceMul, Nat.reduceLeDiff, Nat.reduceEqDiff, h13c, q, c, c1, types_v, em, unless8_u, un_t, un_f, firstE_0, firstE_n, firstE_nil, first8_2, str_nil, List.map_nil]
        rfl
      · rw [if_neg ht] at em
        simp (disch := omega) only [go_sem, Nat.reduceAdd, Nat.reduceSub, Nat.reduceMul, Nat.reduceLeDiff, Nat.reduceEqDiff, h13c, q, c, c1, types_v, em, unless8_u, un_t, un_f, firstE_0, firstE_n, firstE_nil, first8_2, str_nil, List.map_nil]
        rfl
    | false =>
      simp only [Att.v, Att.c, c1] at q
      simp (disch := omega) only [go_sem, Nat.reduceAdd, Nat.reduceSub, Nat.reduceMul, Nat.reduceLeDiff, Nat.reduceEqDiff, h13c, q, c, c1, unless8_u, un_t, un_f, firstE_0, firstE_n, firstE_nil, first8_2, str_nil, List.map_nil]
      rfl
end
section
set_option maxRecDepth 4000
set_option linter.unusedSimpArgs false
set_option linter.unusedVariables false
variable {G : Glob} {B : CallT}
theorem snoc1 (c : List Int) (x : Int) : c.map ci1 ++ [[.raw (.int .i64 x)]] = (c ++ [x]).map ci1 := by simp [ci1]
theorem all_ints (l : List Int) : allLen 1 (l.map ci1) = true := allLen_map (f := ci1) (fun _ => rfl) l
attribute [go_sem] all_ints
theorem clO_round (r : Run) (C : List Int) (j : Nat) (l : List Run) (k : Nat) (hk : k < l.length) (hr : l[k] = r) (hj : j < r.n.toNat) (h : -1 ≤ r.s ∧ r.s ≤ 1000) (hC : C.length + r.n.toNat ≤ 200000000) (hl : l.length ≤ 1000000) :
    rnK [0, 2, 0, 0] 1 (EC (EV G (Tb B)) G h74l0 ⟨(runsV l :: jk 2 (.one (.bld 0 (C ++ clO r j).length) :: vi k :: vi j :: jk 35 [])), [.arr 0 1 (el (C ++ clO r j))]⟩) = some ⟨(runsV l :: jk 2 (.one (.bld 0 (C ++ clO r (j + 1)).length) :: vi k :: vi (j + 1 : Nat) :: jk 35 [])), [.arr 0 1 (el (C ++ clO r (j + 1)))]⟩ := by
  have hlen : (C ++ clO r j).length = C.length + j := by simp [clO]
  rw [clO_succ, ← List.append_assoc]
  generalize C ++ clO r j = D at hlen ⊢
  subst hr
  by_cases hs : l[k].s = -1
  all_goals simp (disch := omega) only [go_sem, Nat.reduceAdd, Nat.reduceSub, Nat.reduceMul, Nat.reduceLeDiff, Nat.reduceEqDiff, h74l0, List.length_map, Run.e, hs, snoc1, List.length_append]
theorem clusters_v (l : List Run) (hl : Fine l) : EV G (Tb B) 74 [runsV l] [] = some (vl (el (clR l)), []) := by
  refine EV_run rfl ?_
  have hln := hl.len
  simp (disch := omega) only [go_sem, Nat.reduceAdd, Nat.reduceSub, Nat.reduceMul, Nat.reduceLeDiff, Nat.reduceEqDiff, h74c, List.length_map]
  rw [EL_loop (fun k => ⟨(runsV l :: jk 2 (.one (.bld 0 (clR (l.take k)).length) :: vi k :: jk 36 [])), [.arr 0 1 (el (clR (l.take k)))]⟩) l.length ?_ ?_]
  · simp (disch := omega) only [go_sem, Nat.reduceAdd, Nat.reduceSub, Nat.reduceMul, Nat.reduceLeDiff, Nat.reduceEqDiff, h74l1, List.length_map, List.take_length]
  · rfl
  · intro k hk
    have h1 := hl.el _ (List.getElem_mem hk)
    have h2 := hl.n_le (List.getElem_mem hk)
    have h3 := clR_len (l.take k) (fun r hr => (hl.el r (List.mem_of_mem_take hr)).2.2)
    have h4 := lenR_le_take l k (fun r hr => (hl.el r hr).2.2)
    have h5 := hl.sum
    rw [clR_take l k hk]
    generalize clR (l.take k) = C at h3 ⊢
    simp (disch := omega) only [go_sem, Nat.reduceAdd, Nat.reduceSub, Nat.reduceMul, Nat.reduceLeDiff, Nat.reduceEqDiff, h74l1, List.length_map]
    rw [EL_loop (fun j => ⟨(runsV l :: jk 2 (.one (.bld 0 (C ++ clO l[k] j).length) :: vi k :: vi j :: jk 35 [])), [.arr 0 1 (el (C ++ clO l[k] j))]⟩) l[k].n.toNat ?_ ?_]
    · have hx : ((l[k].n.toNat : Nat) : Int) = l[k].n := by omega
      simp (disch := omega) only [go_sem, Nat.reduceAdd, Nat.reduceSub, Nat.reduceMul, Nat.reduceLeDiff, Nat.reduceEqDiff, h74l0, List.length_map, Run.e, hx]
    · simp [clO, jk]
    · intro j hj
      exact clO_round l[k] C j l k hk rfl hj (by omega) (by omega) (by omega)
theorem frz_bx (id : Nat) (es : List (List DC)) (U : List Bool) : (U.map bC).map (frzC id es) = U.map bC := by
  induction U with
  | nil => rfl
  | cons b U ih => rw [List.map_cons, List.map_cons, ih]; rfl
attribute [go_sem] frz_bx
end
section
set_option maxRecDepth 4000
set_option linter.unusedSimpArgs false
set_option linter.unusedVariables false
variable {G : Glob} {B : CallT}
theorem shares_vol {q r : Run} (hq : Vol q) (hr : Vol r) : sharesB q r = true ↔ ∃ c, q.has c = true ∧ r.has c = true := by
  simp only [sharesB, Run.has, Bool.and_eq_true, bne_iff_ne, decide_eq_true_eq, ne_eq]
  unfold Vol at hq hr
  constructor
  · rintro ⟨a1, a2, a3, a4⟩
    by_cases h : q.s ≤ r.s
    · exact ⟨r.s.toNat, by omega, by omega⟩
    · exact ⟨q.s.toNat, by omega, by omega⟩
  · rintro ⟨c, b1, b2⟩
    omega
theorem dupK_vol {l : List Run} (hv : ∀ r ∈ l, Vol r) (k : Nat) (hk : k ≤ l.length) : dupK l k = false ↔ (volL (l.take k)).Nodup := by
  induction k with
  | zero => simp [dupK, volL, clR]
  | succ k ih =>
    have ih := ih (by omega)
    rw [dupK_succ l k (by omega), Bool.or_eq_false_iff, vol_step hv k (by omega), List.any_eq_false]
    have hr := hv l[k] (List.getElem_mem (by omega))
    constructor
    · rintro ⟨h1, h2⟩
      refine ⟨ih.1 h1, fun c hc q hq => ?_⟩
      rw [Bool.eq_false_iff]
      intro hh
      exact h2 q hq ((shares_vol (hv q (List.mem_of_mem_take hq)) hr).2 ⟨c, hh, hc⟩)
    · rintro ⟨h1, h2⟩
      refine ⟨ih.2 h1, fun q hq hh => ?_⟩
      obtain ⟨c, h3, h4⟩ := (shares_vol (hv q (List.mem_of_mem_take hq)) hr).1 hh
      rw [h2 c h4 q hq] at h3; cases h3
theorem done_eq {R : List Run} (hv : ∀ r ∈ R, Vol r) (hF : Fine R) (hR : addL [] R = R) : doneE R = resE R := by
  have e1 : frK R R.length = !(dupR R) := by
    rw [Bool.eq_iff_iff, frK_iff hv _ (Nat.le_refl _), List.take_length]
    have := dupK_vol hv R.length (Nat.le_refl _)
    rw [List.take_length] at this
    rw [Bool.not_eq_true']
    exact this.symm
  have e2 : lenW R = lenR R := lenW_eq _ (fun r hr => (hF.el r hr).2.2) (by have := hF.sum; omega)
  rw [doneE, e1, e2, resE, firstE, firstE, firstE, hR]
  cases dupR R
  · by_cases h3 : lenR R ≤ 4096 ∧ (R.length : Int) ≤ 64
    · have h4 : ¬ (lenR R > 4096 ∨ R.length > 64) := by omega
      simp only [Bool.not_false, if_true, h3, h4, and_self, if_false, Bool.false_eq_true]
    · have h4 : lenR R > 4096 ∨ R.length > 64 := by omega
      simp only [Bool.not_false, if_true, h3, h4, if_false, Bool.false_eq_true]
      rfl
  · rfl
def Pos (q : Run) : Prop := 1 ≤ q.n ∧ -1 ≤ q.s
theorem addR_pos {R : List Run} {r : Run} (hR : ∀ q ∈ R, Pos q) (hr : Pos r) : ∀ q ∈ addR R r, Pos q := by
  rcases List.eq_nil_or_concat R with rfl | ⟨R', q0, rfl⟩
  · rw [addR_nil]; simpa using hr
  · rw [List.concat_eq_append] at *
    rw [addR_snoc]
    have h0 := hR q0 (by simp)
    split
    · intro q hq
      rcases List.mem_append.1 hq with hq | hq
      · exact hR q (List.mem_append_left _ hq)
      · simp at hq; subst hq; unfold Pos at *; simp only; omega
    · intro q hq
      rcases List.mem_append.1 hq with hq | hq
      · exact hR q hq
      · simp at hq; subst hq; exact hr
theorem addL_pos {l : List Run} : ∀ {R : List Run}, (∀ q ∈ R, Pos q) → (∀ q ∈ l, Pos q) → ∀ q ∈ addL R l, Pos q := by
  induction l with
  | nil => intro R hR _; exact hR
  | cons r l ih => intro R hR hl; exact ih (addR_pos hR (hl r List.mem_cons_self)) (fun q hq => hl q (List.mem_cons_of_mem _ hq))
theorem addL_idem {l : List Run} (h : ∀ q ∈ l, Pos q) : addL [] (addL [] l) = addL [] l := by
  have h1 : ∀ q ∈ addL [] l, Pos q := addL_pos (by simp) h
  rw [← fromC_clR h1, clR_addL (by simp) (fun q hq => by have := h q hq; unfold Pos at this; omega), ← fromC_clR h]
  rfl
end
section
set_option maxRecDepth 4000
set_option linter.unusedSimpArgs false
set_option linter.unusedVariables false
variable {G : Glob} {bb : Bool}
theorem errA_ok {a : Att} (hW : a.W) (h : errA a = 0) : a.Ok := by
  unfold errA at h
  split at h
  · exact absurd h (by decide)
  rename_i h1
  split at h
  · exact absurd h (by decide)
  rename_i h2
  split at h
  · exact absurd h (by decide)
  rename_i h3
  split at h
  · rename_i h4; exact absurd h h4
  rename_i h4
  exact ⟨hW, Classical.not_not.1 h1, by simpa using h2, Classical.not_not.1 h3, Classical.not_not.1 h4⟩
theorem Att.Ok.bd {a : Att} (h : a.Ok) : a.Bd := Att.bd h.w h.ty h.nm h.rg h.e
def encA (a : Att) : List Int := if errA a = 0 then encB a else []
theorem encodeA_v (a : Att) (hW : a.W) : EV G (Tb (bs bb)) 35 [a.v] [] = some (.tup [.one (.dc (.raw (.string (str (encA a))))), .one (.dc (ci (errA a)))], []) := by
  refine EV_run rfl ?_
  have q := checkA_v (G := G) (bb := bb) a hW
  unfold encA
  by_cases c : errA a = 0
  · have q1 := encoded_v (G := G) (bb := bb) a (errA_ok hW c).bd
    rw [if_pos c]
    simp (disch := omega) only [go_sem, Nat.reduceAdd, Nat.reduceSub, Nat.reduceMul, Nat.reduceLeDiff, Nat.reduceEqDiff, h35c, q, c, q1]
  · rw [if_neg c]
    simp (disch := omega) only [go_sem, Nat.reduceAdd, Nat.reduceSub, Nat.reduceMul, Nat.reduceLeDiff, Nat.reduceEqDiff, h35c, q, c, str_nil]
theorem encA_len {a : Att} (hW : a.W) : (encA a).length ≤ 440 := by
  unfold encA
  by_cases c : errA a = 0
  · rw [if_pos c, encB_len a (errA_ok hW c).bd]
    unfold errA at c
    split at c
    · exact absurd c (by decide)
    split at c
    · exact absurd c (by decide)
    split at c
    · exact absurd c (by decide)
    split at c
    · rename_i h4; exact absurd c h4
    split at c
    · exact absurd c (by decide)
    · omega
  · rw [if_neg c]; simp
theorem bytesOf_v (a : Att) (hW : a.W) : EV G (Tb (bs bb)) 36 [a.v] [] = some (.tup [.one (.dc (ci (encA a).length)), .one (.dc (ci (errA a)))], []) := by
  refine EV_run rfl ?_
  have q := encodeA_v (G := G) (bb := bb) a hW
  have := encA_len hW
  simp (disch := omega) only [go_sem, Nat.reduceAdd, Nat.reduceSub, Nat.reduceMul, Nat.reduceLeDiff, Nat.reduceEqDiff, h36c, q]
def abcA : Att := ⟨128, [], 2, 0, true, [97, 98, 99], 0, [], 0, 0, 0⟩
def strA : Att := ⟨128, [115], 3, 0, false, [], 0, [⟨5, 4⟩], 1024, 1000, 900⟩
theorem abc_v : EV G (Tb (bs bb)) 52 [] [] = some (abcA.v, []) := EV_run rfl (by kernel_rfl)
theorem stream_v : EV G (Tb (bs bb)) 53 [] [] = some (strA.v, []) := EV_run rfl (by kernel_rfl)
def splE (a : Att) (p : Int) : Int := if errA a ≠ 0 then errA a else if a.res = true then 20 else if ¬(a.fi + 1 ≤ p ∧ p ≤ a.fi + lenW a.rs - 1) then 2 else 0
def befA (a : Att) (p : Int) : Att := ⟨a.ty, a.nm, a.id, a.fl, a.res, a.va, a.fi, (cutV a.rs 0 (p - a.fi)).1, a.al, a.sz, a.vd⟩
def aftA (a : Att) (p : Int) : Att := ⟨a.ty, a.nm, a.id, a.fl, false, [], p, (cutV a.rs (p - a.fi) (a.fi + lenW a.rs - p)).1, 0, 0, 0⟩
def splV (a : Att) (p : Int) : Att × Att × Int := if splE a p = 0 then (befA a p, aftA a p, 0) else (Att.nil, Att.nil, splE a p)
abbrev spv (p : Att × Att × Int) : AV := .tup [p.1.t, p.2.1.t, .one (.dc (ci p.2.2))]
set_option maxHeartbeats 4000000 in
theorem split_v (a : Att) (hW : a.W) (p : Int) : EV G (Tb (bs bb)) 22 [a.v, vi p] [] = some (spv (splV a p), []) := by
  refine EV_run rfl ?_
  have q := checkA_v (G := G) (bb := bb) a hW
  have q1 := clusters8_v (G := G) (bb := bb) a (by have := hW.rl; omega)
  unfold splV
  by_cases c : errA a = 0
  · cases c1 : a.res with
    | true =>
      have e : splE a p = 20 := by unfold splE; rw [if_neg (fun h => h c), if_pos c1]
      rw [e, if_neg (by decide)]
      simp only [Att.v, Att.c, c1] at q
      simp only [Att.nil]
      simp (disch := omega) only [go_sem, Nat.reduceAdd, Nat.reduceSub, Nat.reduceMul, Nat.reduceLeDiff, Nat.reduceEqDiff, h22c, q, c, c1, unless8_u, un_t, un_f, firstE_0, firstE_n, firstE_nil, first8_2, str_nil, List.map_nil]
      rfl
    | false =>
      simp only [Att.v, Att.c, c1] at q q1
      have hb := (errA_ok hW c).bd
      have hfi := hb.fi
      have hlw : 0 ≤ lenW a.rs ∧ lenW a.rs ≤ 100000000 := by
        have h4 := (errA_ok hW c).e
        unfold sthE at h4
        rw [if_neg (by rw [c1]; decide)] at h4
        exact (chk_bd (othE_0 h4).2.2.2.1).2
      by_cases c2 : a.fi + 1 ≤ p ∧ p ≤ a.fi + lenW a.rs - 1
      · have e : splE a p = 0 := by unfold splE; rw [if_neg (fun h => h c), if_neg (by rw [c1]; decide), if_neg (fun h => h c2)]
        rw [e, if_pos rfl]
        have q2 := cut_v (G := G) (B := bs bb) a.rs 0 (p - a.fi) (by have := hW.rl; omega)
        have q3 := cut_v (G := G) (B := bs bb) a.rs (p - a.fi) (a.fi + lenW a.rs - p) (by have := hW.rl; omega)
        simp only [befA, aftA]
        simp (disch := first | omega | (simp only [List.length_append, List.length_cons, List.length_nil, List.length_map, sgK_len, List.length_replicate] <;> omega) | fail) only [go_sem, Nat.reduceAdd, Nat.reduceSub, Nat.reduceMul, Nat.reduceLeDiff, Nat.reduceEqDiff, h22c, q, c, c1, q1, unless8_u, un_t, un_f, firstE_0, firstE_n, firstE_nil, first8_2, str_nil, List.map_nil, within8_v, eq_true c2, ↓blS_q, blS_o, q2, q3]
      · have e : splE a p = 2 := by unfold splE; rw [if_neg (fun h => h c), if_neg (by rw [c1]; decide), if_pos c2]
        rw [e, if_neg (by decide)]
        simp only [Att.nil]
        simp (disch := omega) only [go_sem, Nat.reduceAdd, Nat.reduceSub, Nat.reduceMul, Nat.reduceLeDiff, Nat.reduceEqDiff, h22c, q, c, c1, q1, unless8_u, un_t, un_f, firstE_0, firstE_n, firstE_nil, first8_2, str_nil, List.map_nil, within8_v, c2]
        rfl
  · have e : splE a p = errA a := by unfold splE; rw [if_pos c]
    rw [e, if_neg c]
    simp only [Att.nil]
    cases c1 : a.res with
    | true =>
      simp only [Att.v, Att.c, c1] at q
      simp (disch := omega) only [go_sem, Nat.reduceAdd, Nat.reduceSub, Nat.reduceMul, Nat.reduceLeDiff, Nat.reduceEqDiff, h22c, q, c, c1, unless8_u, un_t, un_f, firstE_0, firstE_n, firstE_nil, first8_2, str_nil, List.map_nil]
      rfl
    | false =>
      simp only [Att.v, Att.c, c1] at q
      simp (disch := omega) only [go_sem, Nat.reduceAdd, Nat.reduceSub, Nat.reduceMul, Nat.reduceLeDiff, Nat.reduceEqDiff, h22c, q, c, c1, unless8_u, un_t, un_f, firstE_0, firstE_n, firstE_nil, first8_2, str_nil, List.map_nil]
      rfl
end
section
set_option maxRecDepth 4000
set_option linter.unusedSimpArgs false
set_option linter.unusedVariables false
variable {G : Glob} {bb : Bool}
theorem sameB_refl (a : Att) : sameB a a = true := (sameB_iff a a).2 rfl
theorem asB_refl (x : Att) (e : Int) (h : e = 0 ∨ x = Att.nil) : asB x e x e = true := by
  unfold asB
  rcases h with rfl | rfl
  · simp [sameB_refl]
  · by_cases c : e = 0 <;> simp [c, sameB_refl]
theorem asB_nil (e : Int) (h : e ≠ 0) : asB Att.nil e Att.nil e = true := asB_refl _ _ (.inr rfl)
end
section
set_option maxRecDepth 4000
set_option linter.unusedSimpArgs false
set_option linter.unusedVariables false
variable {G : Glob} {bb : Bool}
theorem aw_v : EV G (Tb (bs true)) 11 [] [] = some (vb true, []) := EV_base rfl rfl
end
end Go.Proofs.YtmognenhkecngaaGreatDoor
