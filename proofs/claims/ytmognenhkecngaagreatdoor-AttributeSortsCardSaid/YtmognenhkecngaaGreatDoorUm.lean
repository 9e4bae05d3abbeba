/- An attribute that is split, by the program; its bytes. Conditions: none. -/
import Derived.Test.YtmognenhkecngaaGreatDoorUg
import Derived.Test.YtmognenhkecngaaGreatDoorUa
namespace Go.Proofs.YtmognenhkecngaaGreatDoor
set_option linter.unusedSimpArgs false
set_option linter.unusedVariables false
set_option maxRecDepth 4000
section
variable {G : Glob} {bb : Bool}
theorem bit_v (b : Bool) : EV G (Tb (bs bb)) 98 [vb b] [] = some (vi (if b = true then 1 else 0), []) := by
  refine EV_run rfl ?_
  cases b
  all_goals simp (disch := omega) only [go_sem, h98c]
  all_goals rfl
theorem ceil8_v (n : Nat) (h : n ≤ 1000000000) : EV G (Tb (bs bb)) 70 [vi n, vi 8] [] = some (vi (((n + 7) / 8 : Nat) : Int), []) := by
  have := ceil_v (G := G) (bb := bb) n 8 (by omega) (by omega) (by omega)
  rwa [show -(-(n : Int) / 8) = (((n + 7) / 8 : Nat) : Int) by omega] at this
theorem little1 (n : Int) (hn : 0 ≤ n ∧ n ≤ 9223372036854775807) : EV G (Tb (bs bb)) 97 [vi n, vi 1] [] = some (sv (sgK n 1), []) := little_v n 1 hn (by omega)
theorem little2 (n : Int) (hn : 0 ≤ n ∧ n ≤ 9223372036854775807) : EV G (Tb (bs bb)) 97 [vi n, vi 2] [] = some (sv (sgK n 2), []) := little_v n 2 hn (by omega)
theorem little4 (n : Int) (hn : 0 ≤ n ∧ n ≤ 9223372036854775807) : EV G (Tb (bs bb)) 97 [vi n, vi 4] [] = some (sv (sgK n 4), []) := little_v n 4 hn (by omega)
def fil8 (l : List Int) : List Int := l ++ List.replicate ((l.length + 7) / 8 * 8 - l.length) 0
theorem zerosN_v (k : Nat) (h : k ≤ 100000) : EV G (Tb (bs bb)) 100 [vi k] [] = some (sv (List.replicate k 0), []) := by
  have := zeros_v (G := G) (B := bs bb) k (by omega)
  rwa [Int.toNat_natCast] at this
theorem filled_v (l : List Int) (h : l.length ≤ 10000) : EV G (Tb (bs bb)) 101 [sv l] [] = some (sv (fil8 l), []) := by
  refine EV_run rfl ?_
  have q1 := ceil8_v (G := G) (bb := bb) l.length (by omega)
  have q2 := zerosN_v (G := G) (bb := bb) ((l.length + 7) / 8 * 8 - l.length) (by omega)
  have e : (8 : Int) * (((l.length + 7) / 8 : Nat) : Int) - (l.length : Int) = (((l.length + 7) / 8 * 8 - l.length : Nat) : Int) := by omega
  simp (disch := first | omega | (simp only [List.length_append, List.length_cons, List.length_nil, List.length_map, sgK_len, List.length_replicate] <;> omega)) only [go_sem, h101c, q1, e, q2, List.length_replicate, fil8]
def rf1 (a : Att) : List Int := sgK (if a.res = true then 0 else 1) 1 ++ sgK a.nm.length 1 ++ sgK (hdN a) 2 ++ sgK a.fl 2 ++ sgK a.id 2
def rf2 (a : Att) : List Int := if a.res = true then rf1 a ++ sgK a.va.length 4 ++ sgK (atN a) 4
  else rf1 a ++ sgK a.fi 4 ++ sgK ((a.fi + lenW a.rs - 1) % 4294967296) 4 ++ sgK (atN a) 2 ++ List.replicate 2 0 ++ sgK a.al 4 ++ sgK a.sz 4 ++ sgK a.vd 4
def rfb (a : Att) : List Int := if a.res = true then a.va else (encL a.rs).1 ++ [0]
def rf3 (a : Att) : List Int := fil8 (rf2 a ++ a.nm ++ List.replicate (atN a - hdN a - a.nm.length) 0 ++ rfb a)
def rfE (a : Att) : List Int := sgK a.ty 4 ++ sgK (szN a) 4 ++ rf3 a
structure Att.Ok (a : Att) : Prop where
  w : a.W
  ty : a.ty ∈ tys
  nm : nmB a.nm = true
  rg : (0 ≤ a.id ∧ a.id ≤ 65535) ∧ (0 ≤ a.fl ∧ a.fl ≤ 7)
  e : sthE a = 0
theorem rfb_eq {a : Att} (h : a.Ok) : rfb a = bdy a := by
  unfold rfb bdy
  by_cases hr : a.res = true
  · rw [if_pos hr, if_pos hr]
  · rw [if_neg hr, if_neg hr]
    have h4 := h.e
    unfold sthE at h4
    rw [if_neg hr] at h4
    obtain ⟨_, _, _, q4, _⟩ := othE_0 h4
    unfold encV
    rw [if_neg (by rw [errs1]; simpa using q4)]
theorem rf2_len (a : Att) : (rf2 a).length + 8 = hdN a := by
  unfold rf2 rf1 hdN
  split <;> simp only [List.length_append, sgK_len, List.length_replicate]
set_option maxHeartbeats 4000000 in
theorem encR_t (a : Att) (h : a.Ok) (hr : a.res = true) : EV G (Tb (bs bb)) 39 [a.v] [] = some (sv (rfE a), []) := by
  refine EV_run rfl ?_
  obtain ⟨b1, b2, b3, b4, b5, b6, b7, b8, b9, b10, b11, b12, b13⟩ := Att.bd h.w h.ty h.nm h.rg h.e
  have g1 := tys_bd h.ty
  have g2 := nmB_len h.nm
  obtain ⟨g3, g4⟩ := h.rg
  have h4 := h.e
  unfold sthE at h4
  rw [if_pos hr] at h4
  obtain ⟨r1, r2, r3, r4, r5, r6⟩ := rsdE_0 h4
  have eh : hdN a = 24 := by simp [hdN, hr]
  have hA : 24 + a.nm.length ≤ atN a ∧ atN a ≤ 2000 := by simp only [atN, eh]; omega
  have q1 := ceil8_v (G := G) (bb := bb) (24 + a.nm.length) (by omega)
  have eA : (8 : Int) * (((24 + a.nm.length + 7) / 8 : Nat) : Int) = ((atN a : Nat) : Int) := by simp only [atN, eh]; omega
  rw [Int.natCast_add, show ((24 : Nat) : Int) = 24 from rfl] at q1
  have hs : szN a ≤ 4000 ∧ 8 ≤ szN a ∧ szN a % 8 = 0 := by
    have : bdy a = a.va := by simp [bdy, hr]
    simp only [szN, this]; omega
  have hz : (rf3 a).length = szN a - 8 := by
    have h2 := rf2_len a
    rw [rf3, fil8, rfb_eq h]
    simp only [List.length_append, List.length_replicate]
    simp only [szN]
    have : atN a % 8 = 0 := by unfold atN; omega
    omega
  have q2 := zerosN_v (G := G) (bb := bb) (atN a - 24 - a.nm.length) (by omega)
  have e2 : ((atN a : Nat) : Int) - 24 - (a.nm.length : Int) = ((atN a - 24 - a.nm.length : Nat) : Int) := by omega
  have f1 : rf2 a = rf1 a ++ sgK a.va.length 4 ++ sgK (atN a) 4 := by rw [rf2, if_pos hr]
  have l1 : (rf1 a).length = 8 := by simp only [rf1, List.length_append, sgK_len]
  have f2 : rf3 a = fil8 (rf1 a ++ sgK a.va.length 4 ++ sgK (atN a) 4 ++ a.nm ++ List.replicate (atN a - 24 - a.nm.length) 0 ++ a.va) := by rw [rf3, f1, eh, rfb, if_pos hr]
  have f0 : rf1 a = sgK 0 1 ++ sgK a.nm.length 1 ++ sgK 24 2 ++ sgK a.fl 2 ++ sgK a.id 2 := by rw [rf1, if_pos hr, eh]; rfl
  have q3 := filled_v (G := G) (bb := bb) (rf1 a ++ sgK a.va.length 4 ++ sgK (atN a) 4 ++ a.nm ++ List.replicate (atN a - 24 - a.nm.length) 0 ++ a.va) (by simp only [List.length_append, sgK_len, List.length_replicate]; omega)
  rw [← f2] at q3
  have q4 := ceil8_v (G := G) (bb := bb) ((rf3 a).length + 8) (by omega)
  rw [Int.natCast_add, show ((8 : Nat) : Int) = 8 from rfl] at q4
  have e4 : (8 : Int) * ((((rf3 a).length + 8 + 7) / 8 : Nat) : Int) = ((szN a : Nat) : Int) := by omega
  rw [f0] at q3
  unfold rfE
  generalize rf3 a = R at *
  generalize atN a = A at *
  generalize szN a = N at *
  simp (disch := first | omega | (simp only [List.length_append, List.length_cons, List.length_nil, List.length_map, sgK_len, List.length_replicate] <;> omega)) only [go_sem, h39c, hr, str_nil, bit_v, q1, eA, little1, little2, little4, q2, e2, q3, q4, e4, List.append_nil, List.length_replicate]
theorem zeros2_v : EV G (Tb (bs bb)) 100 [vi 2] [] = some (sv [0, 0], []) := zeros_v 2 (by omega)
theorem encL_len {l : List Run} (h : (chk l).2 = 0) : (encL l).1.length ≤ 320 := by
  obtain ⟨g1, g2, g3⟩ := encK_ok l (fun r hr' => (runs_in h r hr').1) l.length (Nat.le_refl _)
  rw [encK_all] at g1
  have := chk_len h
  omega
set_option maxHeartbeats 4000000 in
theorem encR_f (a : Att) (h : a.Ok) (hr : a.res = false) : EV G (Tb (bs bb)) 39 [a.v] [] = some (sv (rfE a), []) := by
  refine EV_run rfl ?_
  obtain ⟨b1, b2, b3, b4, b5, b6, b7, b8, b9, b10, b11, b12, b13⟩ := Att.bd h.w h.ty h.nm h.rg h.e
  have hr' : ¬ a.res = true := by rw [hr]; decide
  have g1 := tys_bd h.ty
  have g2 := nmB_len h.nm
  obtain ⟨g3, g4⟩ := h.rg
  have h4 := h.e
  unfold sthE at h4
  rw [if_neg hr'] at h4
  obtain ⟨r1, r2, r3, r4, r5, r6, r7, r8, r9⟩ := othE_0 h4
  obtain ⟨c1, c2, c3⟩ := chk_bd r4
  have eh : hdN a = 40 := by simp [hdN, hr]
  have eb := rfb_eq h
  have ef : rfb a = (encL a.rs).1 ++ [0] := by rw [rfb, if_neg hr']
  have hl := encL_len r4
  have hbl : (bdy a).length = (encL a.rs).1.length + 1 := by rw [← eb, ef]; simp
  have hA : 40 + a.nm.length ≤ atN a ∧ atN a ≤ 2000 := by simp only [atN, eh]; omega
  have q1 := ceil8_v (G := G) (bb := bb) (40 + a.nm.length) (by omega)
  have eA : (8 : Int) * (((40 + a.nm.length + 7) / 8 : Nat) : Int) = ((atN a : Nat) : Int) := by simp only [atN, eh]; omega
  rw [Int.natCast_add, show ((40 : Nat) : Int) = 40 from rfl] at q1
  have hs : szN a ≤ 4000 ∧ 8 ≤ szN a ∧ szN a % 8 = 0 := by
    simp only [szN]; omega
  have hz : (rf3 a).length = szN a - 8 := by
    have h2 := rf2_len a
    rw [rf3, fil8, rfb_eq h]
    simp only [List.length_append, List.length_replicate]
    simp only [szN]
    have : atN a % 8 = 0 := by unfold atN; omega
    omega
  have q2 := zerosN_v (G := G) (bb := bb) (atN a - 40 - a.nm.length) (by omega)
  have e2 : ((atN a : Nat) : Int) - 40 - (a.nm.length : Int) = ((atN a - 40 - a.nm.length : Nat) : Int) := by omega
  have q5 := encodeR_v (G := G) (B := bs bb) a.rs r4
  have q6 := length_r (G := G) (B := bs bb) a.rs (by omega)
  have q7 := mod_v (G := G) (B := bs bb) (a.fi + lenW a.rs - 1) 4294967296 (by omega)
  have l1 : (rf1 a).length = 8 := by simp only [rf1, List.length_append, sgK_len]
  have f0 : rf1 a = sgK 1 1 ++ sgK a.nm.length 1 ++ sgK 40 2 ++ sgK a.fl 2 ++ sgK a.id 2 := by rw [rf1, if_neg hr', eh]; rfl
  have f1 : rf2 a = rf1 a ++ sgK a.fi 4 ++ sgK ((a.fi + lenW a.rs - 1) % 4294967296) 4 ++ sgK (atN a) 2 ++ [0, 0] ++ sgK a.al 4 ++ sgK a.sz 4 ++ sgK a.vd 4 := by rw [rf2, if_neg hr']; rfl
  have l2 := rf2_len a
  have f2 : rf3 a = fil8 (rf2 a ++ a.nm ++ List.replicate (atN a - 40 - a.nm.length) 0 ++ ((encL a.rs).1 ++ [0])) := by rw [rf3, eh, ef]
  have q3 := filled_v (G := G) (bb := bb) (rf2 a ++ a.nm ++ List.replicate (atN a - 40 - a.nm.length) 0 ++ ((encL a.rs).1 ++ [0])) (by simp only [List.length_append, List.length_replicate, List.length_singleton]; omega)
  rw [← f2] at q3
  have q4 := ceil8_v (G := G) (bb := bb) ((rf3 a).length + 8) (by omega)
  rw [Int.natCast_add, show ((8 : Nat) : Int) = 8 from rfl] at q4
  have e4 : (8 : Int) * ((((rf3 a).length + 8 + 7) / 8 : Nat) : Int) = ((szN a : Nat) : Int) := by omega
  rw [f1, f0] at q3
  unfold rfE
  generalize rf3 a = R at *
  generalize atN a = A at *
  generalize szN a = N at *
  have hm : 0 ≤ (a.fi + lenW a.rs - 1) % 4294967296 ∧ (a.fi + lenW a.rs - 1) % 4294967296 ≤ 4294967296 := by omega
  simp (disch := first | omega | (simp only [List.length_append, List.length_cons, List.length_nil, List.length_map, sgK_len, List.length_replicate] <;> omega)) only [go_sem, h39c, hr, str_nil, bit_v, q1, eA, little1, little2, little4, zeros2_v, q2, e2, q3, q4, e4, q5, q6, q7, List.append_nil, List.length_replicate]
theorem encRef_v (a : Att) (h : a.Ok) : EV G (Tb (bs bb)) 39 [a.v] [] = some (sv (rfE a), []) := by
  cases hr : a.res with
  | true => exact encR_t a h hr
  | false => exact encR_f a h hr
theorem rfE_len (a : Att) (h : a.Ok) : (rfE a).length = szN a := by
  have h2 := rf2_len a
  have hb := rfb_eq h
  have h3 : atN a % 8 = 0 ∧ hdN a + a.nm.length ≤ atN a := by unfold atN; omega
  rw [rfE, rf3, fil8, hb]
  simp only [List.length_append, List.length_replicate, sgK_len]
  simp only [szN]
  omega
theorem errR_v (a : Att) (hW : a.W) : EV G (Tb (bs bb)) 17 [a.v] [] = some (vi (errA a), []) := by
  refine EV_run rfl ?_
  have q1 := isTypeR_v (G := G) (bb := bb) a.ty
  have q2 := isName_v (G := G) (bb := bb) a.nm hW.nm (by have := hW.nl; omega)
  have q3 := othErrR_v (G := G) (bb := bb) a hW
  have q4 := rsdErrR_v (G := G) (bb := bb) a
  unfold errA
  by_cases c1 : a.ty ∈ tys
  · rw [if_neg (fun h => h c1)]
    rw [decide_eq_true c1] at q1
    cases c2 : nmB a.nm with
    | false =>
      rw [c2] at q2
      rw [if_pos rfl]
      simp (disch := omega) only [go_sem, h17c, q1, q2]
    | true =>
      rw [c2] at q2
      rw [if_neg (by decide)]
      by_cases d1 : 0 ≤ a.id ∧ a.id ≤ 65535
      · by_cases d2 : 0 ≤ a.fl ∧ a.fl ≤ 7
        · rw [if_neg (fun h => h ⟨d1, d2⟩)]
          have q5 (h : sthE a = 0) := encRef_v (G := G) (bb := bb) a ⟨hW, c1, c2, ⟨d1, d2⟩, h⟩
          have q6 (h : sthE a = 0) := rfE_len a ⟨hW, c1, c2, ⟨d1, d2⟩, h⟩
          have e6 : ((szN a : Int) > 440) = (szN a > 440) := by apply propext; omega
          cases c3 : a.res with
          | true =>
            simp only [sthE, c3, if_true] at q5 q6 ⊢
            simp only [Att.v, Att.c, c3] at q3 q4 q5
            by_cases c4 : rsdE a = 0
            · rw [if_neg (fun h => h c4)]
              by_cases c5 : szN a > 440
              · rw [if_pos c5]
                simp (disch := omega) only [go_sem, h17c, q1, q2, within_r, eq_true d1, eq_true d2, q3, c3, q4, c4, q5 c4, q6 c4, e6, eq_true c5]
              · rw [if_neg c5]
                simp (disch := omega) only [go_sem, h17c, q1, q2, within_r, eq_true d1, eq_true d2, q3, c3, q4, c4, q5 c4, q6 c4, e6, c5]
            · rw [if_pos c4]
              simp (disch := omega) only [go_sem, h17c, q1, q2, within_r, eq_true d1, eq_true d2, q3, c3, q4, c4]
          | false =>
            simp only [sthE, c3, if_false, Bool.false_eq_true] at q5 q6 ⊢
            simp only [Att.v, Att.c, c3] at q3 q4 q5
            by_cases c4 : othE a = 0
            · rw [if_neg (fun h => h c4)]
              by_cases c5 : szN a > 440
              · rw [if_pos c5]
                simp (disch := omega) only [go_sem, h17c, q1, q2, within_r, eq_true d1, eq_true d2, q3, c3, c4, q5 c4, q6 c4, e6, eq_true c5]
              · rw [if_neg c5]
                simp (disch := omega) only [go_sem, h17c, q1, q2, within_r, eq_true d1, eq_true d2, q3, c3, c4, q5 c4, q6 c4, e6, c5]
            · rw [if_pos c4]
              simp (disch := omega) only [go_sem, h17c, q1, q2, within_r, eq_true d1, eq_true d2, q3, c3, c4]
        · rw [if_pos (fun h => d2 h.2)]
          simp (disch := omega) only [go_sem, h17c, q1, q2, within_r, eq_true d1, d2]
      · rw [if_pos (fun h => d1 h.1)]
        simp (disch := omega) only [go_sem, h17c, q1, q2, within_r, d1]
  · rw [if_pos c1]
    rw [decide_eq_false c1] at q1
    simp (disch := omega) only [go_sem, h17c, q1]
end
section
variable {G : Glob} {bb : Bool}
section
variable {B : CallT}
theorem indexFunc_v (p : Run → Bool) (f : Nat) (hf : ∀ r : Run, EV G (Tb B) f [r.v] [] = some (vb (p r), [])) (l : List Run) (hl : l.length ≤ 1000000) :
    EV G (Tb B) 120 [runsV l, .one (.fn f [])] [] = some (vi (if ix (fun k => p (l.getD k ⟨0, 0⟩) = true) l.length = l.length then -1 else (ix (fun k => p (l.getD k ⟨0, 0⟩) = true) l.length : Nat)), []) := by
  refine EV_run rfl ?_
  simp (disch := omega) only [go_sem, h120c, List.length_map]
  rw [EL_fst (fun k => ⟨(runsV l :: .one (.fn f []) :: jk 5 (vi l.length :: vi k :: jk 10 [])), []⟩) (fun k => p (l.getD k ⟨0, 0⟩) = true) l.length ?_ ?_]
  rotate_left
  · rfl
  · intro k hk hn
    have h1 := hn k (Nat.le_refl _)
    have h2 := hf l[k]
    rw [runAt l k hk] at h1
    simp (disch := omega) only [go_sem, h120l0, List.length_map, Run.e, h2, h1]
  obtain ⟨hk, hp, hn⟩ := ix_spec (fun k => p (l.getD k ⟨0, 0⟩) = true) l.length
  generalize ix (fun k => p (l.getD k ⟨0, 0⟩) = true) l.length = k at *
  rcases hp with rfl | ⟨hk', hp⟩
  · simp (disch := omega) only [go_sem, h120l0, List.length_map]
  · have h2 := hf l[k]
    rw [runAt l k hk'] at hp
    rw [if_neg (by omega)]
    simp (disch := omega) only [go_sem, h120l0, List.length_map, Run.e, h2, hp]
end
theorem clone_v (l : List Run) (hl : l.length ≤ 1000000) : EV G (Tb (bs bb)) 59 [runsV l] [] = some (.one (.bld 0 l.length), [.arr 0 2 (l.map Run.e)]) := by
  refine EV_base rfl ?_
  show (if allLen 2 (l.map Run.e) = true ∧ (l.map Run.e).length * 16 ≤ 140737488355328 then some (AV.one (.bld 0 (l.map Run.e).length), [AObj.arr 0 2 (l.map Run.e)]) else none) = _
  rw [if_pos ⟨all_run l, by rw [List.length_map]; omega⟩, List.length_map]
theorem holeF_v (r : Run) : EV G (Tb (bs bb)) 62 [r.v] [] = some (vb (decide (r.s = -1)), []) := by
  refine EV_run rfl ?_
  simp (disch := omega) only [go_sem, h62c]
def holeB (l : List Run) : Bool := l.any fun r => decide (r.s = -1)
theorem contHole_v (l : List Run) (hl : l.length ≤ 1000000) : EV G (Tb (bs bb)) 61 [runsV l, .one (.fn 62 [])] [] = some (vb (holeB l), []) := by
  refine EV_run rfl ?_
  have q := indexFunc_v (G := G) (B := bs bb) (fun r => decide (r.s = -1)) 62 holeF_v l hl
  obtain ⟨hk, hp, hn⟩ := ix_spec (fun k => decide ((l.getD k ⟨0, 0⟩).s = -1) = true) l.length
  generalize ix (fun k => decide ((l.getD k ⟨0, 0⟩).s = -1) = true) l.length = k at *
  rcases hp with rfl | ⟨hk', hp⟩
  · rw [if_pos rfl] at q
    have e : holeB l = false := by
      unfold holeB
      rw [Bool.eq_false_iff]
      intro h
      obtain ⟨r, hr, hs⟩ := List.any_eq_true.1 h
      obtain ⟨j, hj, rfl⟩ := List.mem_iff_getElem.1 hr
      have := hn j hj
      rw [runAt l j hj] at this
      exact this hs
    rw [e]
    simp (disch := omega) only [go_sem, h61c, q]
    rfl
  · rw [if_neg (by omega)] at q
    have e : holeB l = true := by
      unfold holeB
      rw [runAt l k hk'] at hp
      exact List.any_eq_true.2 ⟨_, List.getElem_mem hk', hp⟩
    rw [e]
    have e2 : ((k : Int) ≥ 0) = True := eq_true (by omega)
    simp (disch := omega) only [go_sem, h61c, q, e2]
theorem copyA_v (a : Att) (hl : a.rs.length ≤ 1000000) : EV G (Tb (bs bb)) 14 [a.v] [] = some (a.v, []) := by
  refine EV_run rfl ?_
  have q := copyRuns_v (G := G) (B := bs bb) a.rs hl
  simp (disch := omega) only [go_sem, h14c, q, take_map_len, List.length_map]
theorem few_v (a : Att) : EV G (Tb (bs bb)) 12 [a.v] [] = some (vb (decide (a.rs.length ≤ 80) && (decide (a.va.length ≤ 500) && decide (a.nm.length ≤ 60))), []) := by
  refine EV_run rfl ?_
  have e1 : ((a.rs.length : Int) ≤ 80) = (a.rs.length ≤ 80) := by apply propext; omega
  have e2 : ((a.va.length : Int) ≤ 500) = (a.va.length ≤ 500) := by apply propext; omega
  have e3 : ((a.nm.length : Int) ≤ 60) = (a.nm.length ≤ 60) := by apply propext; omega
  by_cases c1 : a.rs.length ≤ 80
  · by_cases c2 : a.va.length ≤ 500
    · simp (disch := omega) only [go_sem, h12c, List.length_map, e1, e2, e3, eq_true c1, eq_true c2]
    · simp (disch := omega) only [go_sem, h12c, List.length_map, e1, e2, e3, eq_true c1, c2]
  · simp (disch := omega) only [go_sem, h12c, List.length_map, e1, e2, e3, c1]
def sameB (a b : Att) : Bool := decide (a.ty = b.ty) && (decide (a.nm = b.nm) && (decide (a.id = b.id) && (decide (a.fl = b.fl) && (decide (a.res = b.res) && (decide (a.va = b.va) && (decide (a.fi = b.fi) && (decide (a.rs = b.rs) && (decide (a.al = b.al) && (decide (a.sz = b.sz) && (decide (a.vd = b.vd)))))))))))
theorem sameB_iff (a b : Att) : sameB a b = true ↔ a = b := by
  cases a; cases b
  simp [sameB]
set_option maxHeartbeats 4000000 in
theorem sameA_v (a b : Att) (ha : a.W) (hb : b.W) : EV G (Tb (bs bb)) 21 [a.v, b.v] [] = some (vb (sameB a b), []) := by
  refine EV_run rfl ?_
  have e1 := str_inj ha.nm hb.nm
  have e2 := str_inj ha.va hb.va
  have q := sameRuns_v (G := G) (B := bs bb) a.rs b.rs (by have := ha.rl; omega)
  by_cases c0 : a.ty = b.ty
  rotate_left
  · simp (disch := omega) only [go_sem, h21c, e1, e2, q, c0]
    simp [sameB, c0]
  by_cases c1 : a.nm = b.nm
  rotate_left
  · simp (disch := omega) only [go_sem, h21c, e1, e2, q, eq_true c0, c1]
    simp [sameB, c0, c1]
  by_cases c2 : a.id = b.id
  rotate_left
  · simp (disch := omega) only [go_sem, h21c, e1, e2, q, eq_true c0, eq_true c1, c2]
    simp [sameB, c0, c1, c2]
  by_cases c3 : a.fl = b.fl
  rotate_left
  · simp (disch := omega) only [go_sem, h21c, e1, e2, q, eq_true c0, eq_true c1, eq_true c2, c3]
    simp [sameB, c0, c1, c2, c3]
  by_cases c4 : a.res = b.res
  rotate_left
  · have d4 : (a.res == b.res) = false := by simpa using c4
    simp (disch := omega) only [go_sem, h21c, e1, e2, q, eq_true c0, eq_true c1, eq_true c2, eq_true c3, d4]
    simp [sameB, c0, c1, c2, c3, c4]
  have d4 : (a.res == b.res) = true := by simpa using c4
  by_cases c5 : a.va = b.va
  rotate_left
  · simp (disch := omega) only [go_sem, h21c, e1, e2, q, eq_true c0, eq_true c1, eq_true c2, eq_true c3, d4, c5]
    simp [sameB, c0, c1, c2, c3, c4, c5]
  by_cases c6 : a.fi = b.fi
  rotate_left
  · simp (disch := omega) only [go_sem, h21c, e1, e2, q, eq_true c0, eq_true c1, eq_true c2, eq_true c3, d4, eq_true c5, c6]
    simp [sameB, c0, c1, c2, c3, c4, c5, c6]
  by_cases c7 : a.rs = b.rs
  rotate_left
  · simp (disch := omega) only [go_sem, h21c, e1, e2, q, eq_true c0, eq_true c1, eq_true c2, eq_true c3, d4, eq_true c5, eq_true c6, c7]
    simp [sameB, c0, c1, c2, c3, c4, c5, c6, c7]
  by_cases c8 : a.al = b.al
  rotate_left
  · simp (disch := omega) only [go_sem, h21c, e1, e2, q, eq_true c0, eq_true c1, eq_true c2, eq_true c3, d4, eq_true c5, eq_true c6, eq_true c7, c8]
    simp [sameB, c0, c1, c2, c3, c4, c5, c6, c7, c8]
  by_cases c9 : a.sz = b.sz
  rotate_left
  · simp (disch := omega) only [go_sem, h21c, e1, e2, q, eq_true c0, eq_true c1, eq_true c2, eq_true c3, d4, eq_true c5, eq_true c6, eq_true c7, eq_true c8, c9]
    simp [sameB, c0, c1, c2, c3, c4, c5, c6, c7, c8, c9]
  by_cases c10 : a.vd = b.vd
  rotate_left
  · simp (disch := omega) only [go_sem, h21c, e1, e2, q, eq_true c0, eq_true c1, eq_true c2, eq_true c3, d4, eq_true c5, eq_true c6, eq_true c7, eq_true c8, eq_true c9, c10]
    simp [sameB, c0, c1, c2, c3, c4, c5, c6, c7, c8, c9, c10]
  simp (disch := omega) only [go_sem, h21c, e1, e2, q, eq_true c0, eq_true c1, eq_true c2, eq_true c3, d4, eq_true c5, eq_true c6, eq_true c7, eq_true c8, eq_true c9, eq_true c10]
  simp [sameB, c0, c1, c2, c3, c4, c5, c6, c7, c8, c9, c10]
end
section
variable {G : Glob} {bb : Bool}
def blI (s t : ByteArray) (v0 v1 v2 v3 v4 v5 : AV) : Option AV := aggo (fillV ([Zi 0, .string s, Zi 0, Zi 0, .bool false, .string t, Zi 0, .slice none 0 0, Zi 0, Zi 0, Zi 0].map rawC) [(0, 1, v0), (1, 1, v1), (2, 1, v2), (3, 1, v3), (4, 1, v4), (5, 1, v5)])
theorem blI_s {call : CallT} {st : AS} {l : List AOp} {d : Option Nat} {s t : ByteArray} {x0 x1 x2 x3 x4 x5 : AArg} : stZ call G st l d (.build [Zi 0, .string s, Zi 0, Zi 0, .bool false, .string t, Zi 0, .slice none 0 0, Zi 0, Zi 0, Zi 0] [(0, 1, x0), (1, 1, x1), (2, 1, x2), (3, 1, x3), (4, 1, x4), (5, 1, x5)]) = putX st d (blI s t (evA G st.sl x0) (evA G st.sl x1) (evA G st.sl x2) (evA G st.sl x3) (evA G st.sl x4) (evA G st.sl x5)) := rfl
theorem blI_o {s t : ByteArray} {c0 c1 c2 c3 c4 c5 : Cel} : blI s t (.one c0) (.one c1) (.one c2) (.one c3) (.one c4) (.one c5) = some (.agg [c0, c1, c2, c3, c4, c5, .dc (.raw (Zi 0)), .dc (.raw (.slice none 0 0)), .dc (.raw (Zi 0)), .dc (.raw (Zi 0)), .dc (.raw (Zi 0))]) := by kernel_rfl
def blO (s t : ByteArray) (v0 v1 v2 v3 v4 v5 v6 : AV) : Option AV := aggo (fillV ([Zi 0, .string s, Zi 0, Zi 0, .bool false, .string t, Zi 0, .slice none 0 0, Zi 0, Zi 0, Zi 0].map rawC) [(0, 1, v0), (1, 1, v1), (2, 1, v2), (3, 1, v3), (7, 1, v4), (9, 1, v5), (10, 1, v6)])
theorem blO_q {call : CallT} {st : AS} {d : Option Nat} {s t : ByteArray} {x0 x1 x2 x3 x4 x5 x6 : AArg} : qtZ call G st d (.build [Zi 0, .string s, Zi 0, Zi 0, .bool false, .string t, Zi 0, .slice none 0 0, Zi 0, Zi 0, Zi 0] [(0, 1, x0), (1, 1, x1), (2, 1, x2), (3, 1, x3), (7, 1, x4), (9, 1, x5), (10, 1, x6)]) = putX st d (blO s t (evA G st.sl x0) (evA G st.sl x1) (evA G st.sl x2) (evA G st.sl x3) (evA G st.sl x4) (evA G st.sl x5) (evA G st.sl x6)) := rfl
theorem blO_o {s t : ByteArray} {c0 c1 c2 c3 c4 c5 c6 : Cel} : blO s t (.one c0) (.one c1) (.one c2) (.one c3) (.one c4) (.one c5) (.one c6) = some (.agg [c0, c1, c2, c3, .dc (.raw (.bool false)), .dc (.raw (.string t)), .dc (.raw (Zi 0)), c4, .dc (.raw (Zi 0)), c5, c6]) := by kernel_rfl
def blS (s t : ByteArray) (v0 v1 v2 v3 v4 : AV) : Option AV := aggo (fillV ([Zi 0, .string s, Zi 0, Zi 0, .bool false, .string t, Zi 0, .slice none 0 0, Zi 0, Zi 0, Zi 0].map rawC) [(0, 1, v0), (1, 1, v1), (2, 1, v2), (3, 1, v3), (6, 1, v4)])
theorem blS_q {call : CallT} {st : AS} {d : Option Nat} {s t : ByteArray} {x0 x1 x2 x3 x4 : AArg} : qtZ call G st d (.build [Zi 0, .string s, Zi 0, Zi 0, .bool false, .string t, Zi 0, .slice none 0 0, Zi 0, Zi 0, Zi 0] [(0, 1, x0), (1, 1, x1), (2, 1, x2), (3, 1, x3), (6, 1, x4)]) = putX st d (blS s t (evA G st.sl x0) (evA G st.sl x1) (evA G st.sl x2) (evA G st.sl x3) (evA G st.sl x4)) := rfl
theorem blS_o {s t : ByteArray} {c0 c1 c2 c3 c4 : Cel} : blS s t (.one c0) (.one c1) (.one c2) (.one c3) (.one c4) = some (.agg [c0, c1, c2, c3, .dc (.raw (.bool false)), .dc (.raw (.string t)), c4, .dc (.raw (.slice none 0 0)), .dc (.raw (Zi 0)), .dc (.raw (Zi 0)), .dc (.raw (Zi 0))]) := by kernel_rfl
end
section
variable {G : Glob} {bb : Bool}
abbrev rtv (p : Att × Int) : AV := .tup [p.1.t, .one (.dc (ci p.2))]
def resA (a : Att) : Att × Int := if errA a = 0 then (a, 0) else (Att.nil, errA a)
theorem result8_v (a : Att) (hW : a.W) : EV G (Tb (bs bb)) 63 [a.v] [] = some (rtv (resA a), []) := by
  refine EV_run rfl ?_
  have q := checkA_v (G := G) (bb := bb) a hW
  unfold resA
  by_cases c : errA a = 0
  · rw [if_pos c]
    simp (disch := omega) only [go_sem, h63c, q, c]
  · rw [if_neg c]
    simp only [Att.nil]
    simp (disch := omega) only [go_sem, h63c, q, c, ↓blI_s, blI_o, str_nil, List.map_nil]
    rfl
def outA (a : Att) (l : List Run) : Att := ⟨a.ty, a.nm, a.id, a.fl, false, [], 0, l, lenW l * 256, a.va.length, a.va.length⟩
def movO (a : Att) (l : List Run) : Att × Int := if ¬(a.res = true ∧ a.ty ∉ rtys) then (Att.nil, 20) else if (chk l).2 ≠ 0 then (Att.nil, (chk l).2) else if holeB l = true then (Att.nil, 3)
  else if lenW l ≠ ((a.va.length + 255) / 256 : Nat) then (Att.nil, 2) else resA (outA a l)
def movOV (a : Att) (l : List Run) : Att × Int := if errA a ≠ 0 then (Att.nil, errA a) else movO a l
theorem outA_W {a : Att} (hW : a.W) {l : List Run} (hl : l.length ≤ 100000) : (outA a l).W := ⟨hW.nm, byts_nil, hW.nl, Nat.zero_le _, hl⟩
theorem ty_of {a : Att} (h : errA a = 0) : a.ty ∈ tys := by
  unfold errA at h
  split at h
  · omega
  · rename_i h1; exact Classical.not_not.1 h1
set_option maxHeartbeats 4000000 in
theorem movedOut_v (a : Att) (hW : a.W) (l : List Run) (hl : l.length ≤ 100000) : EV G (Tb (bs bb)) 13 [a.v, runsV l] [] = some (rtv (movOV a l), []) := by
  refine EV_run rfl ?_
  have q := checkA_v (G := G) (bb := bb) a hW
  have q1 := check_v (G := G) (B := bs bb) l
  have q2 := result8_v (G := G) (bb := bb) (outA a l) (outA_W hW hl)
  have q3 := clone_v (G := G) (bb := bb) l (by omega)
  have q4 := clusters8_v (G := G) (bb := bb) ⟨a.ty, a.nm, a.id, a.fl, false, [], 0, l, 0, a.va.length, a.va.length⟩ (by show l.length ≤ 1000000; omega)
  have q5 := contHole_v (G := G) (bb := bb) l (by omega)
  have hvl := hW.vl
  simp only [Att.v, Att.c] at q4
  unfold movOV
  by_cases c : errA a = 0
  · rw [if_neg (fun h => h c)]
    have em := mpGet_ty a.ty
    rw [if_pos (ty_of c)] at em
    unfold movO
    by_cases c1 : a.res = true
    · simp only [Att.v, Att.c, c1] at q
      by_cases c2 : a.ty ∈ rtys
      · rw [if_pos (fun h => h.2 c2)]
        rw [decide_eq_true c2] at em
        simp only [Att.nil]
        simp (disch := omega) only [go_sem, h13c, q, c, c1, types_v, em, unless8_u, un_t, un_f, firstE_0, firstE_n, firstE_nil, first8_2, str_nil, List.map_nil]
        rfl
      · rw [if_neg (fun h => h ⟨c1, c2⟩)]
        rw [decide_eq_false c2] at em
        by_cases c3 : (chk l).2 = 0
        · rw [if_neg (fun h => h c3)]
          obtain ⟨g1, g2, g3⟩ := chk_bd c3
          have e5 : ((a.va.length : Int) + 256 - 1).tdiv 256 = (((a.va.length + 255) / 256 : Nat) : Int) := by rw [tdiv_nn _ _ (by omega)]; omega
          cases c4 : holeB l with
          | true =>
            rw [if_pos rfl]
            rw [c4] at q5
            simp only [Att.nil]
            simp (disch := omega) only [go_sem, h13c, q, c, c1, types_v, em, unless8_u, un_t, un_f, firstE_0, firstE_n, firstE_nil, first8_2, ↓blO_q, blO_o, str_nil, List.map_nil, q1, c3, q3, take_map_len, List.length_map, q4, q5, e5]
            rfl
          | false =>
            rw [if_neg (by decide)]
            rw [c4] at q5
            by_cases c5 : lenW l = ((a.va.length + 255) / 256 : Nat)
            · rw [if_neg (fun h => h c5)]
              generalize hp : resA (outA a l) = p at q2 ⊢
              simp only [outA, Att.v, Att.c] at q2
              obtain ⟨x, e⟩ := p
              simp (disch := omega) only [go_sem, h13c, q, c, c1, types_v, em, unless8_u, un_t, un_f, firstE_0, firstE_n, firstE_nil, first8_2, ↓blO_q, blO_o, str_nil, List.map_nil, q1, c3, q3, take_map_len, List.length_map, q4, q5, e5, eq_true c5, q2]
            · rw [if_pos c5]
              simp only [Att.nil]
              simp (disch := omega) only [go_sem, h13c, q, c, c1, types_v, em, unless8_u, un_t, un_f, firstE_0, firstE_n, firstE_nil, first8_2, ↓blO_q, blO_o, str_nil, List.map_nil, q1, c3, q3, take_map_len, List.length_map, q4, q5, e5, c5]
              rfl
        · rw [if_pos c3]
          simp only [Att.nil]
          simp (disch := omega) only [go_sem, h13c, q, c, c1, types_v, em, unless8_u, un_t, un_f, firstE_0, firstE_n, firstE_nil, first8_2, str_nil, List.map_nil, q1, c3]
          rfl
    · rw [if_pos (fun h => c1 h.1)]
      have c1' : a.res = false := by simpa using c1
      simp only [Att.v, Att.c, c1'] at q
      simp only [Att.nil]
      simp (disch := omega) only [go_sem, h13c, q, c, c1', unless8_u, un_t, un_f, firstE_0, firstE_n, firstE_nil, first8_2, str_nil, List.map_nil]
      rfl
  · rw [if_pos c]
    simp only [Att.nil]
    cases c1 : a.res with
    | true =>
      simp only [Att.v, Att.c, c1] at q
      have em := mpGet_ty a.ty
      have hmR : ∃ b, mpR false (.bool false) (mpGet tyL a.ty) = vb b := by
        rw [em]
        split
        · exact ⟨_, rfl⟩
        · exact ⟨_, rfl⟩
      by_cases ht : a.ty ∈ tys
      · rw [if_pos ht] at em
        simp (disch := omega) only [go_sem, h13c, q, c, c1, types_v, em, unless8_u, un_t, un_f, firstE_0, firstE_n, firstE_nil, first8_2, str_nil, List.map_nil]
        rfl
      · rw [if_neg ht] at em
        simp (disch := omega) only [go_sem, h13c, q, c, c1, types_v, em, unless8_u, un_t, un_f, firstE_0, firstE_n, firstE_nil, first8_2, str_nil, List.map_nil]
        rfl
    | false =>
      simp only [Att.v, Att.c, c1] at q
      simp (disch := omega) only [go_sem, h13c, q, c, c1, unless8_u, un_t, un_f, firstE_0, firstE_n, firstE_nil, first8_2, str_nil, List.map_nil]
      rfl
end
section
variable {G : Glob} {B : CallT}
end
section
variable {G : Glob} {B : CallT}
end
section
variable {G : Glob} {bb : Bool}
theorem errA_ok {a : Att} (hW : a.W) (h : errA a = 0) : a.Ok := by
  unfold errA at h
  split at h
  · exact absurd h (by decide)
  rename_i h1
  split at h
  · exact absurd h (by decide)
  rename_i h2
  split at h
  · exact absurd h (by decide)
  rename_i h3
  split at h
  · rename_i h4; exact absurd h h4
  rename_i h4
  exact ⟨hW, Classical.not_not.1 h1, by simpa using h2, Classical.not_not.1 h3, Classical.not_not.1 h4⟩
theorem Att.Ok.bd {a : Att} (h : a.Ok) : a.Bd := Att.bd h.w h.ty h.nm h.rg h.e
def encA (a : Att) : List Int := if errA a = 0 then encB a else []
theorem encodeA_v (a : Att) (hW : a.W) : EV G (Tb (bs bb)) 35 [a.v] [] = some (.tup [.one (.dc (.raw (.string (str (encA a))))), .one (.dc (ci (errA a)))], []) := by
  refine EV_run rfl ?_
  have q := checkA_v (G := G) (bb := bb) a hW
  unfold encA
  by_cases c : errA a = 0
  · have q1 := encoded_v (G := G) (bb := bb) a (errA_ok hW c).bd
    rw [if_pos c]
    simp (disch := omega) only [go_sem, h35c, q, c, q1]
  · rw [if_neg c]
    simp (disch := omega) only [go_sem, h35c, q, c, str_nil]
theorem encA_len {a : Att} (hW : a.W) : (encA a).length ≤ 440 := by
  unfold encA
  by_cases c : errA a = 0
  · rw [if_pos c, encB_len a (errA_ok hW c).bd]
    unfold errA at c
    split at c
    · exact absurd c (by decide)
    split at c
    · exact absurd c (by decide)
    split at c
    · exact absurd c (by decide)
    split at c
    · rename_i h4; exact absurd c h4
    split at c
    · exact absurd c (by decide)
    · omega
  · rw [if_neg c]; simp
theorem bytesOf_v (a : Att) (hW : a.W) : EV G (Tb (bs bb)) 36 [a.v] [] = some (.tup [.one (.dc (ci (encA a).length)), .one (.dc (ci (errA a)))], []) := by
  refine EV_run rfl ?_
  have q := encodeA_v (G := G) (bb := bb) a hW
  have := encA_len hW
  simp (disch := omega) only [go_sem, h36c, q]
def abcA : Att := ⟨128, [], 2, 0, true, [97, 98, 99], 0, [], 0, 0, 0⟩
def strA : Att := ⟨128, [115], 3, 0, false, [], 0, [⟨5, 4⟩], 1024, 1000, 900⟩
theorem abc_v : EV G (Tb (bs bb)) 52 [] [] = some (abcA.v, []) := EV_run rfl (by kernel_rfl)
theorem stream_v : EV G (Tb (bs bb)) 53 [] [] = some (strA.v, []) := EV_run rfl (by kernel_rfl)
def splE (a : Att) (p : Int) : Int := if errA a ≠ 0 then errA a else if a.res = true then 20 else if ¬(a.fi + 1 ≤ p ∧ p ≤ a.fi + lenW a.rs - 1) then 2 else 0
def befA (a : Att) (p : Int) : Att := ⟨a.ty, a.nm, a.id, a.fl, a.res, a.va, a.fi, (cutV a.rs 0 (p - a.fi)).1, a.al, a.sz, a.vd⟩
def aftA (a : Att) (p : Int) : Att := ⟨a.ty, a.nm, a.id, a.fl, false, [], p, (cutV a.rs (p - a.fi) (a.fi + lenW a.rs - p)).1, 0, 0, 0⟩
def splV (a : Att) (p : Int) : Att × Att × Int := if splE a p = 0 then (befA a p, aftA a p, 0) else (Att.nil, Att.nil, splE a p)
abbrev spv (p : Att × Att × Int) : AV := .tup [p.1.t, p.2.1.t, .one (.dc (ci p.2.2))]
set_option maxHeartbeats 4000000 in
theorem split_v (a : Att) (hW : a.W) (p : Int) : EV G (Tb (bs bb)) 22 [a.v, vi p] [] = some (spv (splV a p), []) := by
  refine EV_run rfl ?_
  have q := checkA_v (G := G) (bb := bb) a hW
  have q1 := clusters8_v (G := G) (bb := bb) a (by have := hW.rl; omega)
  unfold splV
  by_cases c : errA a = 0
  · cases c1 : a.res with
    | true =>
      have e : splE a p = 20 := by unfold splE; rw [if_neg (fun h => h c), if_pos c1]
      rw [e, if_neg (by decide)]
      simp only [Att.v, Att.c, c1] at q
      simp only [Att.nil]
      simp (disch := omega) only [go_sem, h22c, q, c, c1, unless8_u, un_t, un_f, firstE_0, firstE_n, firstE_nil, first8_2, str_nil, List.map_nil]
      rfl
    | false =>
      simp only [Att.v, Att.c, c1] at q q1
      have hb := (errA_ok hW c).bd
      have hfi := hb.fi
      have hlw : 0 ≤ lenW a.rs ∧ lenW a.rs ≤ 100000000 := by
        have h4 := (errA_ok hW c).e
        unfold sthE at h4
        rw [if_neg (by rw [c1]; decide)] at h4
        exact (chk_bd (othE_0 h4).2.2.2.1).2
      by_cases c2 : a.fi + 1 ≤ p ∧ p ≤ a.fi + lenW a.rs - 1
      · have e : splE a p = 0 := by unfold splE; rw [if_neg (fun h => h c), if_neg (by rw [c1]; decide), if_neg (fun h => h c2)]
        rw [e, if_pos rfl]
        have q2 := cut_v (G := G) (B := bs bb) a.rs 0 (p - a.fi) (by have := hW.rl; omega)
        have q3 := cut_v (G := G) (B := bs bb) a.rs (p - a.fi) (a.fi + lenW a.rs - p) (by have := hW.rl; omega)
        simp only [befA, aftA]
        simp (disch := first | omega | (simp only [List.length_append, List.length_cons, List.length_nil, List.length_map, sgK_len, List.length_replicate] <;> omega) | fail) only [go_sem, h22c, q, c, c1, q1, unless8_u, un_t, un_f, firstE_0, firstE_n, firstE_nil, first8_2, str_nil, List.map_nil, within8_v, eq_true c2, ↓blS_q, blS_o, q2, q3]
      · have e : splE a p = 2 := by unfold splE; rw [if_neg (fun h => h c), if_neg (by rw [c1]; decide), if_pos c2]
        rw [e, if_neg (by decide)]
        simp only [Att.nil]
        simp (disch := omega) only [go_sem, h22c, q, c, c1, q1, unless8_u, un_t, un_f, firstE_0, firstE_n, firstE_nil, first8_2, str_nil, List.map_nil, within8_v, c2]
        rfl
  · have e : splE a p = errA a := by unfold splE; rw [if_pos c]
    rw [e, if_neg c]
    simp only [Att.nil]
    cases c1 : a.res with
    | true =>
      simp only [Att.v, Att.c, c1] at q
      simp (disch := omega) only [go_sem, h22c, q, c, c1, unless8_u, un_t, un_f, firstE_0, firstE_n, firstE_nil, first8_2, str_nil, List.map_nil]
      rfl
    | false =>
      simp only [Att.v, Att.c, c1] at q
      simp (disch := omega) only [go_sem, h22c, q, c, c1, unless8_u, un_t, un_f, firstE_0, firstE_n, firstE_nil, first8_2, str_nil, List.map_nil]
      rfl
end
end Go.Proofs.YtmognenhkecngaaGreatDoor
