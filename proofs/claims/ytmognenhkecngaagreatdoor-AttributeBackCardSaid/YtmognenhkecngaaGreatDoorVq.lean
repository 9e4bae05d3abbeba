/- Runs of bytes, by the program. Conditions: none. -/
import Derived.Test.YtmognenhkecngaaGreatDoorUg
import Derived.Test.YtmognenhkecngaaGreatDoorUa
namespace Go.Proofs.YtmognenhkecngaaGreatDoor
section
set_option maxRecDepth 4000
set_option linter.unusedSimpArgs false
set_option linter.unusedVariables false
variable {G : Glob} {bb : Bool}
theorem bit_v (b : Bool) : EV G (Tb (bs bb)) 98 [vb b] [] = some (vi (if b = true then 1 else 0), []) := by
  refine EV_run rfl ?_
  cases b
  all_goals simp (disch := omega) only [go_sem, Nat.reduceAdd, Nat.reduceSub, Nat.reduceMul, Nat.reduceLeDiff, Nat.reduceEqDiff, h98c]
  all_goals rfl
theorem ceil8_v (n : Nat) (h : n ≤ 1000000000) : EV G (Tb (bs bb)) 70 [vi n, vi 8] [] = some (vi (((n + 7) / 8 : Nat) : Int), []) := by
  have := ceil_v (G := G) (bb := bb) n 8 (by omega) (by omega) (by omega)
  rwa [show -(-(n : Int) / 8) = (((n + 7) / 8 : Nat) : Int) by omega] at this
theorem little1 (n : Int) (hn : 0 ≤ n ∧ n ≤ 9223372036854775807) : EV G (Tb (bs bb)) 97 [vi n, vi 1] [] = some (sv (sgK n 1), []) := little_v n 1 hn (by omega)
theorem little2 (n : Int) (hn : 0 ≤ n ∧ n ≤ 9223372036854775807) : EV G (Tb (bs bb)) 97 [vi n, vi 2] [] = some (sv (sgK n 2), []) := little_v n 2 hn (by omega)
theorem little4 (n : Int) (hn : 0 ≤ n ∧ n ≤ 9223372036854775807) : EV G (Tb (bs bb)) 97 [vi n, vi 4] [] = some (sv (sgK n 4), []) := little_v n 4 hn (by omega)
/-- bytes 0 up to a multiple of 8 -/
def fil8 (l : List Int) : List Int := l ++ List.replicate ((l.length + 7) / 8 * 8 - l.length) 0
theorem zerosN_v (k : Nat) (h : k ≤ 100000) : EV G (Tb (bs bb)) 100 [vi k] [] = some (sv (List.replicate k 0), []) := by
  have := zeros_v (G := G) (B := bs bb) k (by omega)
  rwa [Int.toNat_natCast] at this
theorem filled_v (l : List Int) (h : l.length ≤ 10000) : EV G (Tb (bs bb)) 101 [sv l] [] = some (sv (fil8 l), []) := by
  refine EV_run rfl ?_
  have q1 := ceil8_v (G := G) (bb := bb) l.length (by omega)
  have q2 := zerosN_v (G := G) (bb := bb) ((l.length + 7) / 8 * 8 - l.length) (by omega)
  have e : (8 : Int) * (((l.length + 7) / 8 : Nat) : Int) - (l.length : Int) = (((l.length + 7) / 8 * 8 - l.length : Nat) : Int) := by omega
  simp (disch := first | omega | (simp only [List.length_append, List.length_cons, List.length_nil, List.length_map, sgK_len, List.length_replicate] <;> omega)) only [go_sem, Nat.reduceAdd, Nat.reduceSub, Nat.reduceMul, Nat.reduceLeDiff, Nat.reduceEqDiff, h101c, q1, e, q2, List.length_replicate, fil8]
/-- the head of an attribute, behind its type and its length -/
def rf1 (a : Att) : List Int := sgK (if a.res = true then 0 else 1) 1 ++ sgK a.nm.length 1 ++ sgK (hdN a) 2 ++ sgK a.fl 2 ++ sgK a.id 2
def rf2 (a : Att) : List Int := if a.res = true then rf1 a ++ sgK a.va.length 4 ++ sgK (atN a) 4
  else rf1 a ++ sgK a.fi 4 ++ sgK ((a.fi + lenW a.rs - 1) % 4294967296) 4 ++ sgK (atN a) 2 ++ List.replicate 2 0 ++ sgK a.al 4 ++ sgK a.sz 4 ++ sgK a.vd 4
def rfb (a : Att) : List Int := if a.res = true then a.va else (encL a.rs).1 ++ [0]
def rf3 (a : Att) : List Int := fil8 (rf2 a ++ a.nm ++ List.replicate (atN a - hdN a - a.nm.length) 0 ++ rfb a)
def rfE (a : Att) : List Int := sgK a.ty 4 ++ sgK (szN a) 4 ++ rf3 a
/-- an attribute with no error but its length -/
structure Att.Ok (a : Att) : Prop where
  w : a.W
  ty : a.ty ∈ tys
  nm : nmB a.nm = true
  rg : (0 ≤ a.id ∧ a.id ≤ 65535) ∧ (0 ≤ a.fl ∧ a.fl ≤ 7)
  e : sthE a = 0
theorem rfb_eq {a : Att} (h : a.Ok) : rfb a = bdy a := by
  unfold rfb bdy
  by_cases hr : a.res = true
  · rw [if_pos hr, if_pos hr]
  · rw [if_neg hr, if_neg hr]
    have h4 := h.e
    unfold sthE at h4
    rw [if_neg hr] at h4
    obtain ⟨_, _, _, q4, _⟩ := othE_0 h4
    unfold encV
    rw [if_neg (by rw [errs1]; simpa using q4)]
theorem rf2_len (a : Att) : (rf2 a).length + 8 = hdN a := by
  unfold rf2 rf1 hdN
  split <;> simp only [List.length_append, sgK_len, List.length_replicate]
set_option maxHeartbeats 4000000 in
theorem encR_t (a : Att) (h : a.Ok) (hr : a.res = true) : EV G (Tb (bs bb)) 39 [a.v] [] = some (sv (rfE a), []) := by
  refine EV_run rfl ?_
  obtain ⟨b1, b2, b3, b4, b5, b6, b7, b8, b9, b10, b11, b12, b13⟩ := Att.bd h.w h.ty h.nm h.rg h.e
  have g1 := tys_bd h.ty
  have g2 := nmB_len h.nm
  obtain ⟨g3, g4⟩ := h.rg
  have h4 := h.e
  unfold sthE at h4
  rw [if_pos hr] at h4
  obtain ⟨r1, r2, r3, r4, r5, r6⟩ := rsdE_0 h4
  have eh : hdN a = 24 := by simp [hdN, hr]
  have hA : 24 + a.nm.length ≤ atN a ∧ atN a ≤ 2000 := by simp only [atN, eh]; omega
  have q1 := ceil8_v (G := G) (bb := bb) (24 + a.nm.length) (by omega)
  have eA : (8 : Int) * (((24 + a.nm.length + 7) / 8 : Nat) : Int) = ((atN a : Nat) : Int) := by simp only [atN, eh]; omega
  rw [Int.natCast_add, show ((24 : Nat) : Int) = 24 from rfl] at q1
  have hs : szN a ≤ 4000 ∧ 8 ≤ szN a ∧ szN a % 8 = 0 := by
    have : bdy a = a.va := by simp [bdy, hr]
    simp only [szN, this]; omega
  have hz : (rf3 a).length = szN a - 8 := by
    have h2 := rf2_len a
    rw [rf3, fil8, rfb_eq h]
    simp only [List.length_append, List.length_replicate]
    simp only [szN]
    have : atN a % 8 = 0 := by unfold atN; omega
    omega
  have q2 := zerosN_v (G := G) (bb := bb) (atN a - 24 - a.nm.length) (by omega)
  have e2 : ((atN a : Nat) : Int) - 24 - (a.nm.length : Int) = ((atN a - 24 - a.nm.length : Nat) : Int) := by omega
  have f1 : rf2 a = rf1 a ++ sgK a.va.length 4 ++ sgK (atN a) 4 := by rw [rf2, if_pos hr]
  have l1 : (rf1 a).length = 8 := by simp only [rf1, List.length_append, sgK_len]
  have f2 : rf3 a = fil8 (rf1 a ++ sgK a.va.length 4 ++ sgK (atN a) 4 ++ a.nm ++ List.replicate (atN a - 24 - a.nm.length) 0 ++ a.va) := by rw [rf3, f1, eh, rfb, if_pos hr]
  have f0 : rf1 a = sgK 0 1 ++ sgK a.nm.length 1 ++ sgK 24 2 ++ sgK a.fl 2 ++ sgK a.id 2 := by rw [rf1, if_pos hr, eh]; rfl
  have q3 := filled_v (G := G) (bb := bb) (rf1 a ++ sgK a.va.length 4 ++ sgK (atN a) 4 ++ a.nm ++ List.replicate (atN a - 24 - a.nm.length) 0 ++ a.va) (by simp only [List.length_append, sgK_len, List.length_replicate]; omega)
  rw [← f2] at q3
  have q4 := ceil8_v (G := G) (bb := bb) ((rf3 a).length + 8) (by omega)
  rw [Int.natCast_add, show ((8 : Nat) : Int) = 8 from rfl] at q4
  have e4 : (8 : Int) * ((((rf3 a).length + 8 + 7) / 8 : Nat) : Int) = ((szN a : Nat) : Int) := by omega
  rw [f0] at q3
  unfold rfE
  generalize rf3 a = R at *
  generalize atN a = A at *
  generalize szN a = N at *
  simp (disch := first | omega | (simp only [List.length_append, List.length_cons, List.length_nil, List.length_map, sgK_len, List.length_replicate] <;> omega)) only [go_sem, Nat.reduceAdd, Nat.reduceSub, Nat.reduceMul, Nat.reduceLeDiff, Nat.reduceEqDiff, h39c, hr, str_nil, bit_v, q1, eA, little1, little2, little4, q2, e2, q3, q4, e4, List.append_nil, List.length_replicate]
theorem zeros2_v : EV G (Tb (bs bb)) 100 [vi 2] [] = some (sv [0, 0], []) := zeros_v 2 (by omega)
theorem encL_len {l : List Run} (h : (chk l).2 = 0) : (encL l).1.length ≤ 320 := by
  obtain ⟨g1, g2, g3⟩ := encK_ok l (fun r hr' => (runs_in h r hr').1) l.length (Nat.le_refl _)
  rw [encK_all] at g1
  have := chk_len h
  omega
set_option maxHeartbeats 4000000 in
theorem encR_f (a : Att) (h : a.Ok) (hr : a.res = false) : EV G (Tb (bs bb)) 39 [a.v] [] = some (sv (rfE a), []) := by
  refine EV_run rfl ?_
  obtain ⟨b1, b2, b3, b4, b5, b6, b7, b8, b9, b10, b11, b12, b13⟩ := Att.bd h.w h.ty h.nm h.rg h.e
  have hr' : ¬ a.res = true := by rw [hr]; decide
  have g1 := tys_bd h.ty
  have g2 := nmB_len h.nm
  obtain ⟨g3, g4⟩ := h.rg
  have h4 := h.e
  unfold sthE at h4
  rw [if_neg hr'] at h4
  obtain ⟨r1, r2, r3, r4, r5, r6, r7, r8, r9⟩ := othE_0 h4
  obtain ⟨c1, c2, c3⟩ := chk_bd r4
  have eh : hdN a = 40 := by simp [hdN, hr]
  have eb := rfb_eq h
  have ef : rfb a = (encL a.rs).1 ++ [0] := by rw [rfb, if_neg hr']
  have hl := encL_len r4
  have hbl : (bdy a).length = (encL a.rs).1.length + 1 := by rw [← eb, ef]; simp
  have hA : 40 + a.nm.length ≤ atN a ∧ atN a ≤ 2000 := by simp only [atN, eh]; omega
  have q1 := ceil8_v (G := G) (bb := bb) (40 + a.nm.length) (by omega)
  have eA : (8 : Int) * (((40 + a.nm.length + 7) / 8 : Nat) : Int) = ((atN a : Nat) : Int) := by simp only [atN, eh]; omega
  rw [Int.natCast_add, show ((40 : Nat) : Int) = 40 from rfl] at q1
  have hs : szN a ≤ 4000 ∧ 8 ≤ szN a ∧ szN a % 8 = 0 := by
    simp only [szN]; omega
  have hz : (rf3 a).length = szN a - 8 := by
    have h2 := rf2_len a
    rw [rf3, fil8, rfb_eq h]
    simp only [List.length_append, List.length_replicate]
    simp only [szN]
    have : atN a % 8 = 0 := by unfold atN; omega
    omega
  have q2 := zerosN_v (G := G) (bb := bb) (atN a - 40 - a.nm.length) (by omega)
  have e2 : ((atN a : Nat) : Int) - 40 - (a.nm.length : Int) = ((atN a - 40 - a.nm.length : Nat) : Int) := by omega
  have q5 := encodeR_v (G := G) (B := bs bb) a.rs r4
  have q6 := length_r (G := G) (B := bs bb) a.rs (by omega)
  have q7 := mod_v (G := G) (B := bs bb) (a.fi + lenW a.rs - 1) 4294967296 (by omega)
  have l1 : (rf1 a).length = 8 := by simp only [rf1, List.length_append, sgK_len]
  have f0 : rf1 a = sgK 1 1 ++ sgK a.nm.length 1 ++ sgK 40 2 ++ sgK a.fl 2 ++ sgK a.id 2 := by rw [rf1, if_neg hr', eh]; rfl
  have f1 : rf2 a = rf1 a ++ sgK a.fi 4 ++ sgK ((a.fi + lenW a.rs - 1) % 4294967296) 4 ++ sgK (atN a) 2 ++ [0, 0] ++ sgK a.al 4 ++ sgK a.sz 4 ++ sgK a.vd 4 := by rw [rf2, if_neg hr']; rfl
  have l2 := rf2_len a
  have f2 : rf3 a = fil8 (rf2 a ++ a.nm ++ List.replicate (atN a - 40 - a.nm.length) 0 ++ ((encL a.rs).1 ++ [0])) := by rw [rf3, eh, ef]
  have q3 := filled_v (G := G) (bb := bb) (rf2 a ++ a.nm ++ List.replicate (atN a - 40 - a.nm.length) 0 ++ ((encL a.rs).1 ++ [0])) (by simp only [List.length_append, List.length_replicate, List.length_singleton]; omega)
  rw [← f2] at q3
  have q4 := ceil8_v (G := G) (bb := bb) ((rf3 a).length + 8) (by omega)
  rw [Int.natCast_add, show ((8 : Nat) : Int) = 8 from rfl] at q4
  have e4 : (8 : Int) * ((((rf3 a).length + 8 + 7) / 8 : Nat) : Int) = ((szN a : Nat) : Int) := by omega
  rw [f1, f0] at q3
  unfold rfE
  generalize rf3 a = R at *
  generalize atN a = A at *
  generalize szN a = N at *
  have hm : 0 ≤ (a.fi + lenW a.rs - 1) % 4294967296 ∧ (a.fi + lenW a.rs - 1) % 4294967296 ≤ 4294967296 := by omega
  simp (disch := first | omega | (simp only [List.length_append, List.length_cons, List.length_nil, List.length_map, sgK_len, List.length_replicate] <;> omega)) only [go_sem, Nat.reduceAdd, Nat.reduceSub, Nat.reduceMul, Nat.reduceLeDiff, Nat.reduceEqDiff, h39c, hr, str_nil, bit_v, q1, eA, little1, little2, little4, zeros2_v, q2, e2, q3, q4, e4, q5, q6, q7, List.append_nil, List.length_replicate]
theorem encRef_v (a : Att) (h : a.Ok) : EV G (Tb (bs bb)) 39 [a.v] [] = some (sv (rfE a), []) := by
  cases hr : a.res with
  | true => exact encR_t a h hr
  | false => exact encR_f a h hr
theorem rfE_len (a : Att) (h : a.Ok) : (rfE a).length = szN a := by
  have h2 := rf2_len a
  have hb := rfb_eq h
  have h3 : atN a % 8 = 0 ∧ hdN a + a.nm.length ≤ atN a := by unfold atN; omega
  rw [rfE, rf3, fil8, hb]
  simp only [List.length_append, List.length_replicate, sgK_len]
  simp only [szN]
  omega
theorem errR_v (a : Att) (hW : a.W) : EV G (Tb (bs bb)) 17 [a.v] [] = some (vi (errA a), []) := by
  refine EV_run rfl ?_
  have q1 := isTypeR_v (G := G) (bb := bb) a.ty
  have q2 := isName_v (G := G) (bb := bb) a.nm hW.nm (by have := hW.nl; omega)
  have q3 := othErrR_v (G := G) (bb := bb) a hW
  have q4 := rsdErrR_v (G := G) (bb := bb) a
  unfold errA
  by_cases c1 : a.ty ∈ tys
  · rw [if_neg (fun h => h c1)]
    rw [decide_eq_true c1] at q1
    cases c2 : nmB a.nm with
    | false =>
      rw [c2] at q2
      rw [if_pos rfl]
      simp (disch := omega) only [go_sem, Nat.reduceAdd, Nat.reduceSub, Nat.reduceMul, Nat.reduceLeDiff, Nat.reduceEqDiff, h17c, q1, q2]
    | true =>
      rw [c2] at q2
      rw [if_neg (by decide)]
      by_cases d1 : 0 ≤ a.id ∧ a.id ≤ 65535
      · by_cases d2 : 0 ≤ a.fl ∧ a.fl ≤ 7
        · rw [if_neg (fun h => h ⟨d1, d2⟩)]
          have q5 (h : sthE a = 0) := encRef_v (G := G) (bb := bb) a ⟨hW, c1, c2, ⟨d1, d2⟩, h⟩
          have q6 (h : sthE a = 0) := rfE_len a ⟨hW, c1, c2, ⟨d1, d2⟩, h⟩
          have e6 : ((szN a : Int) > 440) = (szN a > 440) := by apply propext; omega
          cases c3 : a.res with
          | true =>
            simp only [sthE, c3, if_true] at q5 q6 ⊢
            simp only [Att.v, Att.c, c3] at q3 q4 q5
            by_cases c4 : rsdE a = 0
            · rw [if_neg (fun h => h c4)]
              by_cases c5 : szN a > 440
              · rw [if_pos c5]
                simp (disch := omega) only [go_sem, Nat.reduceAdd, Nat.reduceSub, Nat.reduceMul, Nat.reduceLeDiff, Nat.reduceEqDiff, h17c, q1, q2, within_r, eq_true d1, eq_true d2, q3, c3, q4, c4, q5 c4, q6 c4, e6, eq_true c5]
              · rw [if_neg c5]
                simp (disch := omega) only [go_sem, Nat.reduceAdd, Nat.reduceSub, Nat.reduceMul, Nat.reduceLeDiff, Nat.reduceEqDiff, h17c, q1, q2, within_r, eq_true d1, eq_true d2, q3, c3, q4, c4, q5 c4, q6 c4, e6, c5]
            · rw [if_pos c4]
              simp (disch := omega) only [go_sem, Nat.reduceAdd, Nat.reduceSub, Nat.reduceMul, Nat.reduceLeDiff, Nat.reduceEqDiff, h17c, q1, q2, within_r, eq_true d1, eq_true d2, q3, c3, q4, c4]
          | false =>
            simp only [sthE, c3, if_false, Bool.false_eq_true] at q5 q6 ⊢
            simp only [Att.v, Att.c, c3] at q3 q4 q5
            by_cases c4 : othE a = 0
            · rw [if_neg (fun h => h c4)]
              by_cases c5 : szN a > 440
              · rw [if_pos c5]
                simp (disch := omega) only [go_sem, Nat.reduceAdd, Nat.reduceSub, Nat.reduceMul, Nat.reduceLeDiff, Nat.reduceEqDiff, h17c, q1, q2, within_r, eq_true d1, eq_true d2, q3, c3, c4, q5 c4, q6 c4, e6, eq_true c5]
              · rw [if_neg c5]
                simp (disch := omega) only [go_sem, Nat.reduceAdd, Nat.reduceSub, Nat.reduceMul, Nat.reduceLeDiff, Nat.reduceEqDiff, h17c, q1, q2, within_r, eq_true d1, eq_true d2, q3, c3, c4, q5 c4, q6 c4, e6, c5]
            · rw [if_pos c4]
              simp (disch := omega) only [go_sem, Nat.reduceAdd, Nat.reduceSub, Nat.reduceMul, Nat.reduceLeDiff, Nat.reduceEqDiff, h17c, q1, q2, within_r, eq_true d1, eq_true d2, q3, c3, c4]
        · rw [if_pos (fun h => d2 h.2)]
          simp (disch := omega) only [go_sem, Nat.reduceAdd, Nat.reduceSub, Nat.reduceMul, Nat.reduceLeDiff, Nat.reduceEqDiff, h17c, q1, q2, within_r, eq_true d1, d2]
      · rw [if_pos (fun h => d1 h.1)]
        simp (disch := omega) only [go_sem, Nat.reduceAdd, Nat.reduceSub, Nat.reduceMul, Nat.reduceLeDiff, Nat.reduceEqDiff, h17c, q1, q2, within_r, d1]
  · rw [if_pos c1]
    rw [decide_eq_false c1] at q1
    simp (disch := omega) only [go_sem, Nat.reduceAdd, Nat.reduceSub, Nat.reduceMul, Nat.reduceLeDiff, Nat.reduceEqDiff, h17c, q1]
end
section
set_option maxRecDepth 4000
set_option linter.unusedSimpArgs false
set_option linter.unusedVariables false
variable {G : Glob} {B : CallT}
def tb3 (a b c : Int) : Nat → Int
  | 0 => a
  | 1 => b
  | _ => c
theorem tb3_0 (a b c : Int) : tb3 a b c 0 = a := rfl
theorem tb3_1 (a b c : Int) : tb3 a b c 1 = b := rfl
theorem tb3_2 (a b c : Int) : tb3 a b c 2 = c := rfl
abbrev bS (l : List Int) : AObj := .box [.dc (.raw (.string (str l)))]
def sval : List Int → Int
  | [x] => if 128 ≤ x then x - 256 else x
  | [x, y] => if 32768 ≤ y * 256 + x then y * 256 + x - 65536 else y * 256 + x
  | _ => 0
def numR (bs : List Int) (a : Nat) : Int × Bool × List Int := if bs.length < a then (0, false, bs) else (sval (bs.take a), decide (sz (sval (bs.take a)) = a), bs.drop a)
def runR (last h : Int) (t : List Int) : Run × Bool × List Int :=
  if (1 ≤ h % 16 ∧ h % 16 ≤ 2) ∧ h / 16 ≤ 2 then
    if (numR t (h % 16).toNat).2.1 = false ∨ h / 16 = 0 then (⟨-1, (numR t (h % 16).toNat).1⟩, (numR t (h % 16).toNat).2.1, (numR t (h % 16).toNat).2.2)
    else (⟨last + (numR (numR t (h % 16).toNat).2.2 (h / 16).toNat).1, (numR t (h % 16).toNat).1⟩, (numR (numR t (h % 16).toNat).2.2 (h / 16).toNat).2.1 && !decide (last + (numR (numR t (h % 16).toNat).2.2 (h / 16).toNat).1 = -1), (numR (numR t (h % 16).toNat).2.2 (h / 16).toNat).2.2)
  else (⟨0, 0⟩, false, t)
theorem or256 (n b : Int) (hn : 0 ≤ n ∧ n ≤ 255) (hb : 0 ≤ b ∧ b ≤ 255) : orI .i64 (n * 256) b = n * 256 + b := by
  obtain ⟨n, rfl⟩ := Int.eq_ofNat_of_zero_le hn.1
  obtain ⟨b, rfl⟩ := Int.eq_ofNat_of_zero_le hb.1
  have h1 : ((n : Int) * 256) = ((n * 256 : Nat) : Int) := by simp
  have h2 : n * 256 ||| b = n * 256 + b := by
    have := Nat.shiftLeft_add_eq_or_of_lt (show b < 2 ^ 8 by omega) n
    rw [Nat.shiftLeft_eq] at this
    exact this.symm
  rw [orI, h1, bits64, BitVec.ofInt_natCast, BitVec.ofInt_natCast, BitVec.toNat_or, BitVec.toNat_ofNat, BitVec.toNat_ofNat, Nat.mod_eq_of_lt (by omega), Nat.mod_eq_of_lt (by omega), h2, wrapS (by omega)]
  simp
theorem and15 (h : Int) (hh : 0 ≤ h ∧ h ≤ 255) : andI .i64 h 15 = h % 16 := by
  obtain ⟨n, rfl⟩ := Int.eq_ofNat_of_zero_le hh.1
  have h2 : n &&& 15 = n % 16 := Nat.and_two_pow_sub_one_eq_mod n 4
  have h3 : (15 : Int) = ((15 : Nat) : Int) := rfl
  rw [andI, h3, bits64, BitVec.ofInt_natCast, BitVec.ofInt_natCast, BitVec.toNat_and, BitVec.toNat_ofNat, BitVec.toNat_ofNat, Nat.mod_eq_of_lt (by omega), Nat.mod_eq_of_lt (by omega), h2, wrapS (by omega)]
  simp
theorem fdiv16 (n : Int) : n.fdiv 16 = n / 16 := Int.fdiv_eq_ediv_of_nonneg _ (by decide)
theorem byts_cons {x : Int} {l : List Int} (h : Byts (x :: l)) : (0 ≤ x ∧ x ≤ 255) ∧ Byts l := ⟨h x List.mem_cons_self, fun b hb => h b (List.mem_cons_of_mem _ hb)⟩
theorem number1_v (bs : List Int) (hB : Byts bs) : EV G (Tb B) 204 [.one (.ptr 0 0), vi 1] [bS bs] = some (.tup [.one (.dc (ci (numR bs 1).1)), .one (bC (numR bs 1).2.1)], [bS (numR bs 1).2.2]) := by
  refine EV_run rfl ?_
  match bs, hB with
  | [], hB => simp (disch := first | omega | (simp only [List.length_append, List.length_cons, List.length_nil, List.length_map, sgK_len]; omega)) only [go_sem, Nat.reduceAdd, Nat.reduceSub, Nat.reduceMul, Nat.reduceLeDiff, Nat.reduceEqDiff, h204c, numR, str_size]
              rfl
  | x :: t, hB =>
    obtain ⟨hx, _⟩ := byts_cons hB
    have o1 := or256 0 x (by omega) hx
    rw [Int.zero_mul, Int.zero_add] at o1
    simp (disch := first | omega | (simp only [List.length_append, List.length_cons, List.length_nil, List.length_map, sgK_len]; omega)) only [go_sem, Nat.reduceAdd, Nat.reduceSub, Nat.reduceMul, Nat.reduceLeDiff, Nat.reduceEqDiff, h204c, Int.reduceSub]
    rw [EL_loop (fun k => ⟨(.one (.ptr 0 0) :: vi 1 :: jk 4 (vi (tb3 0 x x k) :: vi (tb3 0 (-1) (-1) k) :: jk 44 [])), [bS (x :: t)]⟩) 1 ?_ ?_]
    · have hv : numR (x :: t) 1 = (sval [x], decide (sz (sval [x]) = 1), t) := by rw [numR, if_neg (by simp)]; rfl
      rw [hv]
      simp only [sval]
      by_cases c : 128 ≤ x
      · have s1 := sizeOf_v (G := G) (B := B) (x - 256) (by omega)
        simp (disch := first | omega | (simp only [List.length_append, List.length_cons, List.length_nil, List.length_map, sgK_len]; omega)) only [go_sem, Nat.reduceAdd, Nat.reduceSub, Nat.reduceMul, Nat.reduceLeDiff, Nat.reduceEqDiff, h204l0, tb3_1, Int.reduceMul, Int.reduceSub, Int.reduceToNat, Int.reducePow, Nat.reducePow, Int.reduceNeg, c, s1, bC]
      · have s1 := sizeOf_v (G := G) (B := B) x (by omega)
        simp (disch := first | omega | (simp only [List.length_append, List.length_cons, List.length_nil, List.length_map, sgK_len]; omega)) only [go_sem, Nat.reduceAdd, Nat.reduceSub, Nat.reduceMul, Nat.reduceLeDiff, Nat.reduceEqDiff, h204l0, tb3_1, Int.reduceMul, Int.reduceSub, Int.reduceToNat, Int.reducePow, Nat.reducePow, Int.reduceNeg, c, s1, bC]
    · rfl
    · intro k hk
      have hk0 : k = 0 := by omega
      subst hk0
      simp (disch := first | omega | (simp only [List.length_append, List.length_cons, List.length_nil, List.length_map, sgK_len]; omega)) only [go_sem, Nat.reduceAdd, Nat.reduceSub, Nat.reduceMul, Nat.reduceLeDiff, Nat.reduceEqDiff, h204l0, tb3_0, tb3_1, Int.reduceMul, Int.reduceSub, Int.reduceToNat, Int.reducePow, Nat.reducePow, Int.reduceNeg, o1, Int.zero_mul]
theorem number2_v (bs : List Int) (hB : Byts bs) : EV G (Tb B) 204 [.one (.ptr 0 0), vi 2] [bS bs] = some (.tup [.one (.dc (ci (numR bs 2).1)), .one (bC (numR bs 2).2.1)], [bS (numR bs 2).2.2]) := by
  refine EV_run rfl ?_
  match bs, hB with
  | [], hB => simp (disch := first | omega | (simp only [List.length_append, List.length_cons, List.length_nil, List.length_map, sgK_len]; omega)) only [go_sem, Nat.reduceAdd, Nat.reduceSub, Nat.reduceMul, Nat.reduceLeDiff, Nat.reduceEqDiff, h204c, numR, str_size]
              rfl
  | [x], hB => simp (disch := first | omega | (simp only [List.length_append, List.length_cons, List.length_nil, List.length_map, sgK_len]; omega)) only [go_sem, Nat.reduceAdd, Nat.reduceSub, Nat.reduceMul, Nat.reduceLeDiff, Nat.reduceEqDiff, h204c, numR, str_size]
               rfl
  | x :: y :: t, hB =>
    obtain ⟨hx, hB'⟩ := byts_cons hB
    obtain ⟨hy, _⟩ := byts_cons hB'
    have o1 := or256 0 y (by omega) hy
    have o2 := or256 y x hy hx
    rw [Int.zero_mul, Int.zero_add] at o1
    simp (disch := first | omega | (simp only [List.length_append, List.length_cons, List.length_nil, List.length_map, sgK_len]; omega)) only [go_sem, Nat.reduceAdd, Nat.reduceSub, Nat.reduceMul, Nat.reduceLeDiff, Nat.reduceEqDiff, h204c, Int.reduceSub]
    rw [EL_loop (fun k => ⟨(.one (.ptr 0 0) :: vi 2 :: jk 4 (vi (tb3 0 y (y * 256 + x) k) :: vi (tb3 1 0 (-1) k) :: jk 44 [])), [bS (x :: y :: t)]⟩) 2 ?_ ?_]
    · have hv : numR (x :: y :: t) 2 = (sval [x, y], decide (sz (sval [x, y]) = 2), t) := by rw [numR, if_neg (by simp)]; rfl
      rw [hv]
      simp only [sval]
      by_cases c : 32768 ≤ y * 256 + x
      · have s1 := sizeOf_v (G := G) (B := B) (y * 256 + x - 65536) (by omega)
        simp (disch := first | omega | (simp only [List.length_append, List.length_cons, List.length_nil, List.length_map, sgK_len]; omega)) only [go_sem, Nat.reduceAdd, Nat.reduceSub, Nat.reduceMul, Nat.reduceLeDiff, Nat.reduceEqDiff, h204l0, tb3_2, Int.reduceMul, Int.reduceSub, Int.reduceToNat, Int.reducePow, Nat.reducePow, Int.reduceNeg, c, s1, bC]
      · have s1 := sizeOf_v (G := G) (B := B) (y * 256 + x) (by omega)
        simp (disch := first | omega | (simp only [List.length_append, List.length_cons, List.length_nil, List.length_map, sgK_len]; omega)) only [go_sem, Nat.reduceAdd, Nat.reduceSub, Nat.reduceMul, Nat.reduceLeDiff, Nat.reduceEqDiff, h204l0, tb3_2, Int.reduceMul, Int.reduceSub, Int.reduceToNat, Int.reducePow, Nat.reducePow, Int.reduceNeg, c, s1, bC]
    · rfl
    · intro k hk
      rcases (show k = 0 ∨ k = 1 by omega) with rfl | rfl
      · simp (disch := first | omega | (simp only [List.length_append, List.length_cons, List.length_nil, List.length_map, sgK_len]; omega)) only [go_sem, Nat.reduceAdd, Nat.reduceSub, Nat.reduceMul, Nat.reduceLeDiff, Nat.reduceEqDiff, h204l0, tb3_0, tb3_1, Int.reduceMul, Int.reduceSub, Int.reduceToNat, Int.reducePow, Nat.reducePow, Int.reduceNeg, o1, Int.zero_mul]
      · simp (disch := first | omega | (simp only [List.length_append, List.length_cons, List.length_nil, List.length_map, sgK_len]; omega)) only [go_sem, Nat.reduceAdd, Nat.reduceSub, Nat.reduceMul, Nat.reduceLeDiff, Nat.reduceEqDiff, h204l0, tb3_1, tb3_2, Int.reduceMul, Int.reduceSub, Int.reduceToNat, Int.reducePow, Nat.reducePow, Int.reduceNeg, o2, Int.zero_mul]
theorem number_v (bs : List Int) (hB : Byts bs) (a : Int) (ha : 1 ≤ a ∧ a ≤ 2) : EV G (Tb B) 204 [.one (.ptr 0 0), vi a] [bS bs] = some (.tup [.one (.dc (ci (numR bs a.toNat).1)), .one (bC (numR bs a.toNat).2.1)], [bS (numR bs a.toNat).2.2]) := by
  rcases (show a = 1 ∨ a = 2 by omega) with rfl | rfl
  · exact number1_v bs hB
  · exact number2_v bs hB
theorem byts_sub {l m : List Int} (h : Byts l) (hs : ∀ x ∈ m, x ∈ l) : Byts m := fun b hb => h b (hs b hb)
theorem numR_byts {bs : List Int} (h : Byts bs) (a : Nat) : Byts (numR bs a).2.2 := by
  unfold numR
  split
  · exact h
  · exact byts_sub h (fun x hx => List.mem_of_mem_drop hx)
theorem numR_in {bs : List Int} (h : Byts bs) (a : Nat) : -32768 ≤ (numR bs a).1 ∧ (numR bs a).1 ≤ 32767 := by
  unfold numR
  split
  · simp
  · have h2 : Byts (bs.take a) := byts_sub h (fun x hx => List.mem_of_mem_take hx)
    simp only
    generalize bs.take a = m at h2
    match m, h2 with
    | [], _ => simp [sval]
    | [x], h2 => have := h2 x (by simp); simp only [sval]; split <;> omega
    | [x, y], h2 => have := h2 x (by simp); have := h2 y (by simp); simp only [sval]; split <;> omega
    | x :: y :: z :: w, _ => simp [sval]
theorem numR_len (bs : List Int) (a : Nat) : (numR bs a).2.2.length ≤ bs.length := by
  unfold numR
  split
  · exact Nat.le_refl _
  · simp
set_option maxHeartbeats 1000000 in
theorem run_v (last h : Int) (t : List Int) (hB : Byts (h :: t)) (hl : -1000000000 ≤ last ∧ last ≤ 1000000000) : EV G (Tb B) 169 [.one (.ptr 0 0), vi last] [bS (h :: t)] =
    some (.tup [.agg [.dc (ci (runR last h t).1.s), .dc (ci (runR last h t).1.n)], .one (bC (runR last h t).2.1)], [bS (runR last h t).2.2]) := by
  refine EV_run rfl ?_
  obtain ⟨hh, hB'⟩ := byts_cons hB
  have ha := and15 h hh
  unfold runR
  by_cases c1 : 1 ≤ h % 16 ∧ h % 16 ≤ 2
  · by_cases c2 : h / 16 ≤ 2
    · rw [if_pos ⟨c1, c2⟩]
      have s1 := number_v (G := G) (B := B) t hB' (h % 16) c1
      have k1 := numR_in hB' (h % 16).toNat
      have b1 := numR_byts hB' (h % 16).toNat
      generalize numR t (h % 16).toNat = N1 at s1 k1 b1 ⊢
      obtain ⟨n1, ok1, t1⟩ := N1
      simp only at s1 k1 b1 ⊢
      by_cases c3 : h / 16 = 0
      · rw [if_pos (Or.inr c3)]
        cases ok1
        all_goals simp (disch := first | omega | (simp only [List.length_append, List.length_cons, List.length_nil, List.length_map, sgK_len]; omega)) only [go_sem, Nat.reduceAdd, Nat.reduceSub, Nat.reduceMul, Nat.reduceLeDiff, Nat.reduceEqDiff, h169c, Int.reduceToNat, Int.reducePow, ha, fdiv16, c1, c2, c3, within_v, s1, bC]
      · cases ok1
        · rw [if_pos (Or.inl rfl)]
          simp (disch := first | omega | (simp only [List.length_append, List.length_cons, List.length_nil, List.length_map, sgK_len]; omega)) only [go_sem, Nat.reduceAdd, Nat.reduceSub, Nat.reduceMul, Nat.reduceLeDiff, Nat.reduceEqDiff, h169c, Int.reduceToNat, Int.reducePow, ha, fdiv16, c1, c2, c3, within_v, s1, bC]
        · rw [if_neg (by simp [c3])]
          have s2 := number_v (G := G) (B := B) t1 b1 (h / 16) (by omega)
          have k2 := numR_in b1 (h / 16).toNat
          generalize numR t1 (h / 16).toNat = N2 at s2 k2 ⊢
          obtain ⟨n2, ok2, t2⟩ := N2
          simp only at s2 k2 ⊢
          cases ok2
          all_goals simp (disch := first | omega | (simp only [List.length_append, List.length_cons, List.length_nil, List.length_map, sgK_len]; omega)) only [go_sem, Nat.reduceAdd, Nat.reduceSub, Nat.reduceMul, Nat.reduceLeDiff, Nat.reduceEqDiff, h169c, Int.reduceToNat, Int.reducePow, ha, fdiv16, c1, c2, c3, within_v, s1, s2, bC, isHole_v]
    · rw [if_neg (by omega)]
      simp (disch := first | omega | (simp only [List.length_append, List.length_cons, List.length_nil, List.length_map, sgK_len]; omega)) only [go_sem, Nat.reduceAdd, Nat.reduceSub, Nat.reduceMul, Nat.reduceLeDiff, Nat.reduceEqDiff, h169c, Int.reduceToNat, Int.reducePow, ha, fdiv16, c1, c2, within_v, bC]
  · rw [if_neg (by omega)]
    simp (disch := first | omega | (simp only [List.length_append, List.length_cons, List.length_nil, List.length_map, sgK_len]; omega)) only [go_sem, Nat.reduceAdd, Nat.reduceSub, Nat.reduceMul, Nat.reduceLeDiff, Nat.reduceEqDiff, h169c, Int.reduceToNat, Int.reducePow, ha, fdiv16, c1, within_v, bC]
structure DS where
  bs : List Int
  last : Int
  out : List Run
def dstep (z : DS) : Option DS :=
  match z.bs with
  | [] => none
  | h :: t => if h = 0 then none else if (runR z.last h t).2.1 = true then some ⟨(runR z.last h t).2.2, if (runR z.last h t).1.s = -1 then z.last else (runR z.last h t).1.s, z.out ++ [(runR z.last h t).1]⟩ else none
def dK (s : List Int) : Nat → DS
  | 0 => ⟨s, 0, []⟩
  | k + 1 => (dstep (dK s k)).getD (dK s k)
noncomputable def dEnd (s : List Int) : Nat := ix (fun k => dstep (dK s k) = none) (s.length + 1)
def decE (bs : List Int) : Int := match bs with
  | [] => 3
  | h :: t => if h = 0 ∧ t = [] then 0 else 3
def decZ (z : DS) : List Run × Int := if decE z.bs ≠ 0 then ([], 3) else if (chk z.out).2 ≠ 0 then ([], (chk z.out).2) else (z.out, 0)
noncomputable def decV (s : List Int) : List Run × Int := if (s.length : Int) > 400 then ([], 8) else decZ (dK s (dEnd s))
theorem runR_len (last h : Int) (t : List Int) : (runR last h t).2.2.length ≤ t.length := by
  unfold runR
  split
  · split
    · exact numR_len _ _
    · exact Nat.le_trans (numR_len _ _) (numR_len _ _)
  · exact Nat.le_refl _
theorem runR_byts (last h : Int) {t : List Int} (hB : Byts t) : Byts (runR last h t).2.2 := by
  unfold runR
  split
  · split
    · exact numR_byts hB _
    · exact numR_byts (numR_byts hB _) _
  · exact hB
theorem runR_in (last h : Int) {t : List Int} (hB : Byts t) : (runR last h t).1.s = -1 ∨ (runR last h t).1.s = 0 ∨ (last - 32768 ≤ (runR last h t).1.s ∧ (runR last h t).1.s ≤ last + 32767) := by
  unfold runR
  split
  · split
    · exact .inl rfl
    · have := numR_in (numR_byts hB (h % 16).toNat) (h / 16).toNat
      exact .inr (.inr ⟨by simp only; omega, by simp only; omega⟩)
  · exact .inr (.inl rfl)
theorem dK_ok (s : List Int) (hB : Byts s) : ∀ k, (∀ j, j < k → ¬ dstep (dK s j) = none) → (dK s k).bs.length + k ≤ s.length ∧ (dK s k).out.length = k ∧ (-40000 * (k : Int) ≤ (dK s k).last ∧ (dK s k).last ≤ 40000 * k) ∧ Byts (dK s k).bs := by
  intro k
  induction k with
  | zero => intro _; exact ⟨by simp [dK], rfl, by simp [dK], hB⟩
  | succ k ih =>
    intro h
    obtain ⟨h1, h2, h3, h4⟩ := ih (fun j hj => h j (by omega))
    have h5 := h k (by omega)
    simp only [dK]
    generalize dK s k = z at h1 h2 h3 h4 h5 ⊢
    obtain ⟨bs, last, out⟩ := z
    simp only at h1 h2 h3 h4 h5
    cases bs with
    | nil => exact absurd rfl h5
    | cons h t =>
      obtain ⟨hh, ht⟩ := byts_cons h4
      have l1 := runR_len last h t
      have l2 := runR_byts last h ht
      have l3 := runR_in last h ht
      simp only [dstep] at h5 ⊢
      split
      · rename_i c; rw [if_pos c] at h5; exact absurd rfl h5
      · rename_i c
        rw [if_neg c] at h5
        split
        · simp only [Option.getD_some, List.length_append, List.length_cons, List.length_nil] at h1 ⊢
          refine ⟨by omega, by omega, ?_, l2⟩
          split <;> omega
        · rename_i c'; rw [if_neg c'] at h5; exact absurd rfl h5
theorem dEnd_spec (s : List Int) (hB : Byts s) : dEnd s ≤ s.length ∧ dstep (dK s (dEnd s)) = none ∧ ∀ j, j < dEnd s → ¬ dstep (dK s j) = none := by
  obtain ⟨h1, h2, h3⟩ := ix_spec (fun k => dstep (dK s k) = none) (s.length + 1)
  have h4 := (dK_ok s hB (dEnd s) h3).1
  refine ⟨by omega, ?_, h3⟩
  rcases h2 with h2 | h2
  · exact absurd h4 (by unfold dEnd; omega)
  · exact h2.2
theorem str_cons_ne (h : Int) (t : List Int) : (str (h :: t) = str []) = False := by
  apply eq_false
  intro e
  have := congrArg ByteArray.size e
  simp [str_size] at this
attribute [go_sem] str_cons_ne
set_option maxHeartbeats 1000000 in
theorem decode_v (s : List Int) (hB : Byts s) : EV G (Tb B) 140 [sv s] [] = some (.tup [.one (.dc (.slc ((decV s).1.map Run.e))), .one (.dc (ci (decV s).2))], []) := by
  refine EV_run rfl ?_
  unfold decV
  by_cases c0 : (s.length : Int) > 400
  · rw [if_pos c0]
    simp (disch := first | omega | (simp only [List.length_append, List.length_cons, List.length_nil, List.length_map, sgK_len]; omega)) only [go_sem, Nat.reduceAdd, Nat.reduceSub, Nat.reduceMul, Nat.reduceLeDiff, Nat.reduceEqDiff, h140c, List.map_nil]
  · rw [if_neg c0]
    simp (disch := first | omega | (simp only [List.length_append, List.length_cons, List.length_nil, List.length_map, sgK_len]; omega)) only [go_sem, Nat.reduceAdd, Nat.reduceSub, Nat.reduceMul, Nat.reduceLeDiff, Nat.reduceEqDiff, h140c]
    rw [EL_fst (fun k => ⟨(jk 1 (.one (.ptr 0 0) :: jk 2 (.one (.bld 1 (dK s k).out.length) :: vi (dK s k).last :: jk 39 []))), [bS (dK s k).bs, .arr 0 2 ((dK s k).out.map Run.e)]⟩) (fun k => dstep (dK s k) = none) (s.length + 1) ?_ ?_]
    · obtain ⟨e1, e2, e3⟩ := dEnd_spec s hB
      obtain ⟨g1, g2, g3, g4⟩ := dK_ok s hB _ e3
      rw [show ix (fun k => dstep (dK s k) = none) (s.length + 1) = dEnd s from rfl]
      generalize dK s (dEnd s) = z at *
      obtain ⟨bs, last, out⟩ := z
      simp only at e2 g1 g2 g3 g4 ⊢
      cases bs with
      | nil =>
        rw [show decZ ⟨[], last, out⟩ = ([], 3) from rfl]
        simp (disch := first | omega | (simp only [List.length_append, List.length_cons, List.length_nil, List.length_map, sgK_len]; omega)) only [go_sem, Nat.reduceAdd, Nat.reduceSub, Nat.reduceMul, Nat.reduceLeDiff, Nat.reduceEqDiff, h140l0, str_nil, List.map_nil]
      | cons h t =>
        obtain ⟨hh, ht⟩ := byts_cons g4
        by_cases c : h = 0
        · subst c
          match t with
          | [] =>
            have hl := errs1 out
            by_cases c2 : (chk out).2 = 0
            · rw [c2] at hl
              rw [show decZ ⟨[0], last, out⟩ = (out, 0) by simp [decZ, decE, c2]]
              simp (disch := first | omega | (simp only [List.length_append, List.length_cons, List.length_nil, List.length_map, sgK_len]; omega)) only [go_sem, Nat.reduceAdd, Nat.reduceSub, Nat.reduceMul, Nat.reduceLeDiff, Nat.reduceEqDiff, h140l0, str_nil, errs1_v, hl, take_map_len]
            · rw [show decZ ⟨[0], last, out⟩ = ([], (chk out).2) by simp [decZ, decE, c2]]
              simp (disch := first | omega | (simp only [List.length_append, List.length_cons, List.length_nil, List.length_map, sgK_len]; omega)) only [go_sem, Nat.reduceAdd, Nat.reduceSub, Nat.reduceMul, Nat.reduceLeDiff, Nat.reduceEqDiff, h140l0, str_nil, errs1_v, hl, c2, take_map_len, List.map_nil]
          | x :: t =>
            rw [show decZ ⟨0 :: x :: t, last, out⟩ = ([], 3) by simp [decZ, decE]]
            simp (disch := first | omega | (simp only [List.length_append, List.length_cons, List.length_nil, List.length_map, sgK_len]; omega)) only [go_sem, Nat.reduceAdd, Nat.reduceSub, Nat.reduceMul, Nat.reduceLeDiff, Nat.reduceEqDiff, h140l0, str_nil, List.map_nil]
        · have r1 := run_v (G := G) (B := B) last h t g4 (by omega)
          simp only [dstep, if_neg c] at e2
          rw [show decZ ⟨h :: t, last, out⟩ = ([], 3) by simp [decZ, decE, c]]
          generalize runR last h t = r at r1 e2
          obtain ⟨r, ok, rest⟩ := r
          cases ok
          · simp only at r1
            simp (disch := first | omega | (simp only [List.length_append, List.length_cons, List.length_nil, List.length_map, sgK_len]; omega)) only [go_sem, Nat.reduceAdd, Nat.reduceSub, Nat.reduceMul, Nat.reduceLeDiff, Nat.reduceEqDiff, h140l0, str_nil, List.map_nil, r1, c, bC]
          · simp at e2
    · rfl
    · intro k hk hn
      obtain ⟨g1, g2, g3, g4⟩ := dK_ok s hB k (fun j hj => hn j (by omega))
      have e2 := hn k (Nat.le_refl _)
      rw [show dK s (k + 1) = (dstep (dK s k)).getD (dK s k) from rfl]
      generalize dK s k = z at *
      obtain ⟨bs, last, out⟩ := z
      simp only at e2 g1 g2 g3 g4 ⊢
      cases bs with
      | nil => exact absurd rfl e2
      | cons h t =>
        obtain ⟨hh, ht⟩ := byts_cons g4
        by_cases c : h = 0
        · simp [dstep, c] at e2
        · have r1 := run_v (G := G) (B := B) last h t g4 (by omega)
          simp only [dstep, if_neg c] at e2 ⊢
          generalize runR last h t = r at r1 e2
          obtain ⟨⟨rs, rn⟩, ok, rest⟩ := r
          cases ok
          · simp at e2
          · simp only at r1
            by_cases c2 : rs = -1
            · simp (disch := first | omega | (simp only [List.length_append, List.length_cons, List.length_nil, List.length_map, sgK_len]; omega)) only [go_sem, Nat.reduceAdd, Nat.reduceSub, Nat.reduceMul, Nat.reduceLeDiff, Nat.reduceEqDiff, h140l0, str_nil, r1, c, c2, bC, isHole_v, Option.getD_some, map_snoc, List.length_append]
            · simp (disch := first | omega | (simp only [List.length_append, List.length_cons, List.length_nil, List.length_map, sgK_len]; omega)) only [go_sem, Nat.reduceAdd, Nat.reduceSub, Nat.reduceMul, Nat.reduceLeDiff, Nat.reduceEqDiff, h140l0, str_nil, r1, c, c2, bC, isHole_v, Option.getD_some, map_snoc, List.length_append]
end
end Go.Proofs.YtmognenhkecngaaGreatDoor
