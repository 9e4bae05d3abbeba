/- The law of states. Conditions: none. -/
import Derived.Test.YtinageiefahjfaaGreatDoorSk
import Derived.Test.YtinageiefahjfaaGreatDoorMf
namespace Go.Proofs.YtinageiefahjfaaGreatDoor
set_option linter.unusedSimpArgs false
set_option linter.unusedVariables false
set_option maxRecDepth 4000
variable {G : Glob} {bb : Bool}
set_option maxHeartbeats 2000000 in
theorem states_v (hG : G 0 = some alD) (gs : List Gr) (ws : List Wt) (c : Int) : EV G (Tb (bs true)) 7 [flV gs ws, vi c] [] = some (vb true, []) := by
  refine EV_run rfl ?_
  have qf := few_v (G := G) (bb := true) gs ws
  cases hf : fewB gs ws with
  | false =>
    rw [hf] at qf
    simp (disch := omega) only [go_sem, h7c, awake_b, qf]
  | true =>
    rw [hf] at qf
    obtain ⟨h1, h2⟩ := few_p hf
    have q1 := rcopy_v (G := G) (bb := true) gs ws (by omega) (by omega)
    have q2 := readyIn_v (G := G) (bb := true) hG gs ws (by omega) (by omega)
    have q3 := mayCache_v (G := G) (bb := true) hG gs ws c (by omega) (by omega)
    have q4 := isQuiet_v (G := G) (bb := true) hG gs ws (by omega) (by omega)
    have q5 := rerr_v (G := G) (bb := true) gs ws (by omega) (by omega)
    by_cases h : (chk gs ws).2 = 0
    · have hs := (chk_ok h).1.so
      have q6 := rready_v (G := G) (bb := true) gs ws (by omega)
      have q7 := ints_v (G := G) (bb := true) (rdy gs) (rdy gs) (by have := rdyK_len gs gs.length; rw [rdyK_all] at this; omega)
      have q8 := rat_v (G := G) (bb := true) gs ws c (by omega)
      have e1 := atI_in gs c
      unfold mcF at q3
      rw [if_pos h] at q2 q3 q4
      rw [h] at q2 q4 q5
      rw [decide_eq_true rfl] at q7
      unfold iqF at q4
      cases hi : isIn gs c with
      | true =>
        rw [if_pos hi] at q3
        obtain ⟨hp, he⟩ := (isIn_iff hs c).1 hi
        rw [at_pos hs hi] at q8
        have eg : (gs.map Gr.e)[pos gs c]? = some [ci (grE gs c).c, ci (grE gs c).l, ci (grE gs c).t] := by rw [List.getElem?_map, List.getElem?_eq_getElem hp, grE, grAt gs _ hp]; rfl
        generalize grE gs c = g at *
        have hp0 : ((pos gs c : Nat) : Int) ≥ 0 := by omega
        by_cases h3 : (rdy gs).length = 0
        · have h3' : ((rdy gs).length : Int) = 0 := by omega
          by_cases h4 : ws.length = 0
          · have h4' : (ws.length : Int) = 0 := by omega
            rw [decide_eq_true ⟨h3, h4⟩] at q4
            simp (disch := omega) only [go_sem, h7c, awake_b, qf, q1, q2, q3, q4, q5, q6, q7, q8, List.take_length, eq_true h3', eq_true h4', hp0, eg]
            try rfl
          · have h4' : ¬ (ws.length : Int) = 0 := by omega
            rw [decide_eq_false (fun h => h4 h.2)] at q4
            simp (disch := omega) only [go_sem, h7c, awake_b, qf, q1, q2, q3, q4, q5, q6, q7, q8, List.take_length, eq_true h3', h4', hp0, eg]
            try rfl
        · have h3' : ¬ ((rdy gs).length : Int) = 0 := by omega
          rw [decide_eq_false (fun h => h3 h.1)] at q4
          simp (disch := omega) only [go_sem, h7c, awake_b, qf, q1, q2, q3, q4, q5, q6, q7, q8, List.take_length, h3', hp0, eg]
          try rfl
      | false =>
        rw [if_neg (by rw [hi]; simp)] at q3
        rw [hi] at e1
        have hp0 : ¬ atI gs c ≥ 0 := by simpa using e1
        generalize atI gs c = p at *
        by_cases h3 : (rdy gs).length = 0
        · have h3' : ((rdy gs).length : Int) = 0 := by omega
          by_cases h4 : ws.length = 0
          · have h4' : (ws.length : Int) = 0 := by omega
            rw [decide_eq_true ⟨h3, h4⟩] at q4
            simp (disch := omega) only [go_sem, h7c, awake_b, qf, q1, q2, q3, q4, q5, q6, q7, q8, List.take_length, eq_true h3', eq_true h4', hp0]
            try rfl
          · have h4' : ¬ (ws.length : Int) = 0 := by omega
            rw [decide_eq_false (fun h => h4 h.2)] at q4
            simp (disch := omega) only [go_sem, h7c, awake_b, qf, q1, q2, q3, q4, q5, q6, q7, q8, List.take_length, eq_true h3', h4', hp0]
            try rfl
        · have h3' : ¬ ((rdy gs).length : Int) = 0 := by omega
          rw [decide_eq_false (fun h => h3 h.1)] at q4
          simp (disch := omega) only [go_sem, h7c, awake_b, qf, q1, q2, q3, q4, q5, q6, q7, q8, List.take_length, h3', hp0]
          try rfl
    · unfold mcF at q3
      rw [if_neg h] at q2 q3 q4
      generalize (chk gs ws).2 = e at *
      simp (disch := omega) only [go_sem, h7c, awake_b, qf, q1, q2, q3, q4, q5, h, List.take_length, List.length_nil]
      try rfl
end Go.Proofs.YtinageiefahjfaaGreatDoor
