/- Literals of attributes. Conditions: none. -/
import Derived.Test.YtmognenhkecngaaGreatDoorTr
import Derived.Test.YtmognenhkecngaaGreatDoorVq
namespace Go.Proofs.YtmognenhkecngaaGreatDoor
section
set_option maxRecDepth 4000
set_option linter.unusedSimpArgs false
set_option linter.unusedVariables false
variable {G : Glob} {bb : Bool}
theorem putK_skip (p L : List Int) (n : Int) (a : Nat) (h : p.length ≤ a) : ∀ k, putK (p ++ L) a n k = p ++ putK L (a - p.length) n k
  | 0 => rfl
  | k + 1 => by
    rw [putK, putK_skip p L n a h k, putK, List.set_append_right _ _ (by omega)]
    congr 2
    omega
theorem putK_head (z X : List Int) (n : Int) : ∀ k, z.length = k → putK (z ++ X) 0 n k = sgK n k ++ X := by
  have key : ∀ (k : Nat) (z X : List Int), z.length = k → putK (z ++ X) 0 n k = sgK n k ++ X := by
    intro k
    induction k with
    | zero =>
      intro z X h
      have : z = [] := List.length_eq_zero_iff.1 h
      subst this
      rfl
    | succ k ih =>
      intro z X h
      obtain ⟨z', x, rfl⟩ : ∃ z' x, z = z' ++ [x] := by
        rcases List.eq_nil_or_concat z with rfl | ⟨z', x, e⟩
        · simp at h
        · exact ⟨z', x, by rw [e, List.concat_eq_append]⟩
      have h' : z'.length = k := by simpa using h
      rw [putK, List.append_assoc, ih z' ([x] ++ X) h', Nat.zero_add, List.set_append_right _ _ (by rw [sgK_len]; omega), sgK_len, Nat.sub_self, sgK, List.append_assoc]
      rfl
  exact fun k h => key k z X h
theorem cpL_skip (p L s : List Int) (a : Nat) (h : p.length ≤ a) : cpL (p ++ L) a s = p ++ cpL L (a - p.length) s := by
  unfold cpL
  rw [List.take_append, List.take_of_length_le h, List.drop_append, List.drop_of_length_le (by omega), List.nil_append, List.append_assoc, List.append_assoc]
  rw [show a + s.length - p.length = a - p.length + s.length by omega, List.append_assoc]
theorem cpL_head (z X s : List Int) (h : z.length = s.length) : cpL (z ++ X) 0 s = s ++ X := by
  unfold cpL
  rw [List.take_zero, List.nil_append, Nat.zero_add, List.drop_left' h]
theorem cpL_at (z X s : List Int) (a : Nat) (ha : a = 0) (h : z.length = s.length) : cpL (z ++ X) a s = s ++ X := by subst ha; exact cpL_head z X s h
theorem zl_add (a b : Nat) : zl (a + b) = zl a ++ zl b := by unfold zl; rw [List.replicate_append_replicate]
/-- an attribute as bytes can give it -/
structure Att.Dc (a : Att) : Prop where
  ty : 0 ≤ a.ty ∧ a.ty < 4294967296
  nm : Byts a.nm
  nl : a.nm.length ≤ 255
  id : 0 ≤ a.id ∧ a.id < 65536
  fl : 0 ≤ a.fl ∧ a.fl < 65536
  va : Byts a.va
  vl : a.va.length ≤ 1000
  t : a.res = true → a.rs = [] ∧ a.fi = 0 ∧ a.al = 0 ∧ a.sz = 0 ∧ a.vd = 0
  f : a.res = false → a.va = [] ∧ (chk a.rs).2 = 0 ∧ (0 ≤ a.fi ∧ a.fi < 4294967296) ∧ (0 ≤ a.al ∧ a.al < 4294967296) ∧ (0 ≤ a.sz ∧ a.sz < 4294967296) ∧ (0 ≤ a.vd ∧ a.vd < 4294967296)
theorem Att.Dc.bd {a : Att} (h : a.Dc) : a.Bd := by
  have h1 := h.ty; have h2 := h.nl; have h3 := h.id; have h4 := h.fl; have h5 := h.vl
  cases hr : a.res with
  | true =>
    obtain ⟨q1, q2, q3, q4, q5⟩ := h.t hr
    have : lenW a.rs = 0 := by rw [q1]; rfl
    exact ⟨h.nm, h.va, by omega, by omega, by rw [q1]; simp, by omega, by omega, by omega, by omega, by omega, by omega, by omega, by omega⟩
  | false =>
    obtain ⟨q1, q2, q3, q4, q5, q6⟩ := h.f hr
    obtain ⟨c1, c2, c3⟩ := chk_bd q2
    exact ⟨h.nm, h.va, by omega, by omega, by omega, by omega, by omega, by omega, by omega, by omega, by omega, by omega, by omega⟩
theorem Att.Ok.dc {a : Att} (h : a.Ok) : a.Dc := by
  have g1 := tys_bd h.ty
  have g2 := nmB_len h.nm
  obtain ⟨g3, g4⟩ := h.rg
  have h4 := h.e
  unfold sthE at h4
  refine ⟨by omega, h.w.nm, by omega, by omega, by omega, h.w.va, ?_, fun hr => ?_, fun hr => ?_⟩
  · split at h4
    · have := rsdE_0 h4; omega
    · have := (othE_0 h4).2.1; rw [this]; simp
  · rw [if_pos hr] at h4
    obtain ⟨q1, q2, q3, q4, q5, _⟩ := rsdE_0 h4
    exact ⟨q1, q2, q3, q4, q5⟩
  · rw [if_neg (by rw [hr]; decide)] at h4
    obtain ⟨r1, r2, r3, r4, r5, r6, r7, r8, r9⟩ := othE_0 h4
    exact ⟨r2, r4, by omega, by omega, by omega, by omega⟩
theorem bdy_eq {a : Att} (h : a.Dc) : rfb a = bdy a := by
  unfold rfb bdy
  cases hr : a.res with
  | true => rfl
  | false =>
    rw [if_neg (by decide), if_neg (by decide)]
    obtain ⟨_, q2, _⟩ := h.f hr
    unfold encV
    rw [if_neg (by rw [errs1]; simpa using q2)]
theorem sgK_mod (x : Int) : sgK (x % 4294967296) 4 = sgK x 4 := by
  simp only [sgK, shK, List.nil_append, List.cons_append]
  congr 1
  · omega
  · congr 1
    · omega
    · congr 1
      · omega
      · congr 1
        omega
theorem at_ok (a : Att) : atN a % 8 = 0 ∧ hdN a + a.nm.length ≤ atN a ∧ atN a + (bdy a).length ≤ szN a ∧ szN a % 8 = 0 ∧ szN a ≤ atN a + (bdy a).length + 7 := by
  unfold szN atN
  omega
theorem pad_u (X N u : Nat) (h : N = X + 8 + u) (h1 : N % 8 = 0) (h2 : u ≤ 7) : (X + 7) / 8 * 8 - X = u := by omega
set_option maxHeartbeats 1000000 in
theorem enc_t {a : Att} (h : a.Dc) (hr : a.res = true) : encB a = rfE a := by
  obtain ⟨o1, o2, o3, o4, o5⟩ := at_ok a
  have hb := bdy_eq h
  have eh : hdN a = 24 := by simp [hdN, hr]
  have ebd : bdy a = a.va := by simp [bdy, hr]
  rw [eh] at o2
  rw [ebd] at o3 o5
  obtain ⟨g, eg⟩ : ∃ g, atN a = 24 + (a.nm.length + g) := ⟨atN a - 24 - a.nm.length, by omega⟩
  obtain ⟨u, eu⟩ : ∃ u, szN a = atN a + (a.va.length + u) := ⟨szN a - atN a - a.va.length, by omega⟩
  have eN : szN a = 4 + (4 + (1 + (1 + (2 + (2 + (2 + (4 + (4 + (a.nm.length + (g + (a.va.length + u))))))))))) := by omega
  have eZ : zl (szN a) = zl 4 ++ (zl 4 ++ (zl 1 ++ (zl 1 ++ (zl 2 ++ (zl 2 ++ (zl 2 ++ (zl 4 ++ (zl 4 ++ (zl a.nm.length ++ (zl g ++ (zl a.va.length ++ zl u))))))))))) := by
    conv => lhs; rw [eN]
    simp only [zl_add]
  unfold encB put7 put6
  rw [if_pos hr, eZ, eh, ebd]
  simp (disch := first | omega | (simp only [zl_len, sgK_len] <;> omega) | fail) only [putK_skip, putK_head, zl_len, sgK_len, Nat.reduceSub, Nat.sub_self]
  simp (disch := first | omega | (simp only [zl_len, sgK_len] <;> omega) | fail) only [cpL_skip, cpL_at, zl_len, sgK_len, Nat.reduceSub, Nat.sub_self]
  unfold rfE rf3 rf2 rf1 fil8
  rw [if_pos hr, if_pos hr, eh, hb, ebd]
  simp only [List.append_assoc]
  simp only [List.length_append, sgK_len, List.length_replicate]
  have e1 : zl 1 = sgK 0 1 := rfl
  have e2 : atN a - 24 - a.nm.length = g := by omega
  rw [e2]
  have e3 : (1 + (1 + (2 + (2 + (2 + (4 + (4 + (a.nm.length + (g + a.va.length)))))))) + 7) / 8 * 8 - (1 + (1 + (2 + (2 + (2 + (4 + (4 + (a.nm.length + (g + a.va.length))))))))) = u := by omega
  rw [e3]
  rfl
set_option maxHeartbeats 1000000 in
theorem enc_f {a : Att} (h : a.Dc) (hr : a.res = false) : encB a = rfE a := by
  obtain ⟨o1, o2, o3, o4, o5⟩ := at_ok a
  have hr' : ¬ a.res = true := by rw [hr]; decide
  have hb := bdy_eq h
  have eh : hdN a = 40 := by simp [hdN, hr]
  rw [eh] at o2
  obtain ⟨g, eg⟩ : ∃ g, atN a = 40 + (a.nm.length + g) := ⟨atN a - 40 - a.nm.length, by omega⟩
  obtain ⟨u, eu⟩ : ∃ u, szN a = atN a + ((bdy a).length + u) := ⟨szN a - atN a - (bdy a).length, by omega⟩
  have eN : szN a = 4 + (4 + (1 + (1 + (2 + (2 + (2 + (4 + (4 + (2 + (2 + (4 + (4 + (4 + (a.nm.length + (g + ((bdy a).length + u)))))))))))))))) := by omega
  have eZ : zl (szN a) = zl 4 ++ (zl 4 ++ (zl 1 ++ (zl 1 ++ (zl 2 ++ (zl 2 ++ (zl 2 ++ (zl 4 ++ (zl 4 ++ (zl 2 ++ (zl 2 ++ (zl 4 ++ (zl 4 ++ (zl 4 ++ (zl a.nm.length ++ (zl g ++ (zl (bdy a).length ++ zl u)))))))))))))))) := by
    conv => lhs; rw [eN]
    simp only [zl_add]
  unfold encB put7 put6
  rw [if_neg hr', eZ, eh]
  simp (disch := first | omega | (simp only [zl_len, sgK_len] <;> omega) | fail) only [putK_skip, putK_head, zl_len, sgK_len, Nat.reduceSub, Nat.sub_self]
  simp (disch := first | omega | (simp only [zl_len, sgK_len] <;> omega) | fail) only [cpL_skip, cpL_at, zl_len, sgK_len, Nat.reduceSub, Nat.sub_self]
  unfold rfE rf3 rf2 rf1 fil8
  rw [if_neg hr', if_neg hr', eh, hb, sgK_mod]
  simp only [List.append_assoc]
  simp only [List.length_append, sgK_len, List.length_replicate]
  have e1 : zl 1 = sgK 0 1 := rfl
  have e2 : atN a - 40 - a.nm.length = g := by omega
  rw [e2]
  have e3 : (1 + (1 + (2 + (2 + (2 + (4 + (4 + (2 + (2 + (4 + (4 + (4 + (a.nm.length + (g + (bdy a).length))))))))))))) + 7) / 8 * 8 - (1 + (1 + (2 + (2 + (2 + (4 + (4 + (2 + (2 + (4 + (4 + (4 + (a.nm.length + (g + (bdy a).length)))))))))))))) = u := pad_u _ (szN a) u (by clear eZ eN e2; omega) o4 (by clear eZ eN e2; omega)
  rw [e3]
  rfl
/-- the program's bytes are the reference's -/
theorem enc_eq {a : Att} (h : a.Dc) : encB a = rfE a := by
  cases hr : a.res with
  | true => exact enc_t h hr
  | false => exact enc_f h hr
end
section
set_option maxRecDepth 4000
set_option linter.unusedSimpArgs false
set_option linter.unusedVariables false
variable {G : Glob} {bb : Bool}
/-- the number of some bytes, the least one first -/
def gv : List Int → Int
  | [] => 0
  | b :: t => b + 256 * gv t
def gL (l : List Int) (a k : Nat) : Int := gv ((l.drop a).take k)
theorem gL_s (l : List Int) (a k : Nat) (h : a < l.length) : gL l a (k + 1) = l[a] + 256 * gL l (a + 1) k := by
  unfold gL
  rw [List.drop_eq_getElem_cons h, List.take_succ_cons, gv]
theorem gv_bd : ∀ (l : List Int) (m : Nat), Byts l → l.length ≤ m → 0 ≤ gv l ∧ gv l < 256 ^ m
  | [], m, _, _ => by
    have : (0 : Int) < 256 ^ m := Int.pow_pos (by decide)
    simp only [gv]; omega
  | b :: t, 0, _, h => by simp at h
  | b :: t, m + 1, hB, h => by
    obtain ⟨hb, ht⟩ := byts_cons hB
    have ih := gv_bd t m ht (by simpa using h)
    rw [gv, Int.pow_succ]
    omega
theorem byts_cut {l : List Int} (h : Byts l) (a k : Nat) : Byts ((l.drop a).take k) := fun b hb => h b (List.mem_of_mem_drop (List.mem_of_mem_take hb))
theorem gL_bd {l : List Int} (h : Byts l) (a k : Nat) (hk : k ≤ 4) : 0 ≤ gL l a k ∧ gL l a k < 4294967296 := by
  have h1 := gv_bd ((l.drop a).take k) k (byts_cut h a k) (by rw [List.length_take]; omega)
  unfold gL
  rcases (show k = 0 ∨ k = 1 ∨ k = 2 ∨ k = 3 ∨ k = 4 by omega) with rfl | rfl | rfl | rfl | rfl <;> simp only [Int.reducePow] at h1 <;> omega
theorem gL_bd2 {l : List Int} (h : Byts l) (a : Nat) : 0 ≤ gL l a 2 ∧ gL l a 2 < 65536 := by
  have h1 := gv_bd ((l.drop a).take 2) 2 (byts_cut h a 2) (by rw [List.length_take]; omega)
  unfold gL
  simp only [Int.reducePow] at h1
  omega
theorem gL_bd1 {l : List Int} (h : Byts l) (a : Nat) : 0 ≤ gL l a 1 ∧ gL l a 1 < 256 := by
  have h1 := gv_bd ((l.drop a).take 1) 1 (byts_cut h a 1) (by rw [List.length_take]; omega)
  unfold gL
  simp only [Int.reducePow] at h1
  omega
theorem orL (n b : Int) (hn : 0 ≤ n ∧ n ≤ 4294967296) (hb : 0 ≤ b ∧ b ≤ 255) : orI .i64 (n * 256) b = n * 256 + b := by
  obtain ⟨n, rfl⟩ := Int.eq_ofNat_of_zero_le hn.1
  obtain ⟨b, rfl⟩ := Int.eq_ofNat_of_zero_le hb.1
  have h1 : ((n : Int) * 256) = ((n * 256 : Nat) : Int) := by simp
  have h2 : n * 256 ||| b = n * 256 + b := by
    have := Nat.shiftLeft_add_eq_or_of_lt (show b < 2 ^ 8 by omega) n
    rw [Nat.shiftLeft_eq] at this
    exact this.symm
  rw [orI, h1, bits64, BitVec.ofInt_natCast, BitVec.ofInt_natCast, BitVec.toNat_or, BitVec.toNat_ofNat, BitVec.toNat_ofNat, Nat.mod_eq_of_lt (by omega), Nat.mod_eq_of_lt (by omega), h2, wrapS (by omega)]
  simp
theorem little_at (l : List Int) (hB : Byts l) (a k : Nat) (ha : a + k ≤ l.length) (hk : k ≤ 4) (hl : l.length ≤ 1000000) : EV G (Tb (bs bb)) 94 [sv l, vi a, vi k] [] = some (vi (gL l a k), []) := by
  refine EV_run rfl ?_
  simp (disch := first | omega | (simp only [List.length_append, List.length_cons, List.length_nil, List.length_map, sgK_len]; omega)) only [go_sem, Nat.reduceAdd, Nat.reduceSub, Nat.reduceMul, Nat.reduceLeDiff, Nat.reduceEqDiff, h94c]
  rw [EL_loop (fun j => ⟨(sv l :: vi a :: jk 5 (vi (gL l (a + k - j) j) :: vi ((k : Int) - 1 - j) :: jk 16 [])), []⟩) k ?_ ?_]
  · have e : a + k - k = a := by omega
    have e2 : ¬ 0 ≤ (k : Int) - 1 - (k : Int) := by omega
    simp (disch := first | omega | (simp only [List.length_append, List.length_cons, List.length_nil, List.length_map, sgK_len]; omega)) only [go_sem, Nat.reduceAdd, Nat.reduceSub, Nat.reduceMul, Nat.reduceLeDiff, Nat.reduceEqDiff, h94l0, e, e2]
  · simp [gL, gv, jk]
  · intro j hj
    have hx := hB _ (List.getElem_mem (show a + k - 1 - j < l.length by omega))
    have g1 := gL_bd hB (a + k - j) j (by omega)
    have e1 : gL l (a + k - (j + 1)) (j + 1) = gL l (a + k - j) j * 256 + l[a + k - 1 - j]'(by omega) := by
      have : a + k - (j + 1) < l.length := by omega
      rw [gL_s l _ j this, show a + k - (j + 1) + 1 = a + k - j by omega, Int.mul_comm]
      rw [Int.add_comm]
      congr 1
      congr 1
      omega
    have e2 : 0 ≤ (k : Int) - 1 - (j : Int) := by omega
    rw [e1]
    generalize gL l (a + k - j) j = z at g1 ⊢
    have eN : ((a : Int) + ((k : Int) - 1 - (j : Int))).toNat = a + k - 1 - j := by omega
    have hu := u8_nat _ hx
    simp (disch := first | omega | (simp only [List.length_append, List.length_cons, List.length_nil, List.length_map, sgK_len]; omega)) only [go_sem, Nat.reduceAdd, Nat.reduceSub, Nat.reduceMul, Nat.reduceLeDiff, Nat.reduceEqDiff, h94l0, eq_true e2, List.getElem_map, eN, hu]
    rw [show (k : Int) - 1 - (j : Int) - 1 = (k : Int) - 1 - ((j : Int) + 1) by omega]
theorem get_v (l : List Int) (hB : Byts l) (a k : Nat) (ha : a + k ≤ l.length) (hk : k ≤ 4) (hl : l.length ≤ 1000000) : EV G (Tb (bs bb)) 139 [sv l, vi a, vi k] [] = some (vi (gL l a k), []) := by
  refine EV_run rfl ?_
  simp (disch := first | omega | (simp only [List.length_append, List.length_cons, List.length_nil, List.length_map, sgK_len]; omega)) only [go_sem, Nat.reduceAdd, Nat.reduceSub, Nat.reduceMul, Nat.reduceLeDiff, Nat.reduceEqDiff, h139c]
  rw [EL_loop (fun j => ⟨(sv l :: vi a :: jk 5 (vi (gL l (a + k - j) j) :: vi ((k : Int) - 1 - j) :: jk 16 [])), []⟩) k ?_ ?_]
  · have e : a + k - k = a := by omega
    have e2 : ¬ 0 ≤ (k : Int) - 1 - (k : Int) := by omega
    simp (disch := first | omega | (simp only [List.length_append, List.length_cons, List.length_nil, List.length_map, sgK_len]; omega)) only [go_sem, Nat.reduceAdd, Nat.reduceSub, Nat.reduceMul, Nat.reduceLeDiff, Nat.reduceEqDiff, h139l0, e, e2]
  · simp [gL, gv, jk]
  · intro j hj
    have hx := hB _ (List.getElem_mem (show a + k - 1 - j < l.length by omega))
    have g1 := gL_bd hB (a + k - j) j (by omega)
    have e1 : gL l (a + k - (j + 1)) (j + 1) = gL l (a + k - j) j * 256 + l[a + k - 1 - j]'(by omega) := by
      have : a + k - (j + 1) < l.length := by omega
      rw [gL_s l _ j this, show a + k - (j + 1) + 1 = a + k - j by omega, Int.mul_comm]
      rw [Int.add_comm]
      congr 1
      congr 1
      omega
    have e2 : 0 ≤ (k : Int) - 1 - (j : Int) := by omega
    rw [e1]
    generalize gL l (a + k - j) j = z at g1 ⊢
    have eN : ((a : Int) + ((k : Int) - 1 - (j : Int))).toNat = a + k - 1 - j := by omega
    have hu := u8_nat _ hx
    have o := orL z _ (by omega) hx
    simp (disch := first | omega | (simp only [List.length_append, List.length_cons, List.length_nil, List.length_map, sgK_len]; omega)) only [go_sem, Nat.reduceAdd, Nat.reduceSub, Nat.reduceMul, Nat.reduceLeDiff, Nat.reduceEqDiff, h139l0, eq_true e2, List.getElem_map, eN, hu, Int.reduceToNat, Int.reducePow, o]
    rw [show (k : Int) - 1 - (j : Int) - 1 = (k : Int) - 1 - ((j : Int) + 1) by omega]
/-- what a number's bytes read as -/
theorem gv1 (n : Int) (h : 0 ≤ n ∧ n < 256) : gv (sgK n 1) = n := by
  show n % 256 + 256 * 0 = n
  omega
theorem gv2 (n : Int) (h : 0 ≤ n ∧ n < 65536) : gv (sgK n 2) = n := by
  show n % 256 + 256 * (n / 256 % 256 + 256 * 0) = n
  omega
theorem gv4 (n : Int) (h : 0 ≤ n ∧ n < 4294967296) : gv (sgK n 4) = n := by
  show n % 256 + 256 * (n / 256 % 256 + 256 * (n / 256 / 256 % 256 + 256 * (n / 256 / 256 / 256 % 256 + 256 * 0))) = n
  omega
theorem gL_skip (p L : List Int) (a k : Nat) (h : p.length ≤ a) : gL (p ++ L) a k = gL L (a - p.length) k := by
  unfold gL
  rw [List.drop_append, List.drop_of_length_le (by omega), List.nil_append]
theorem gL_head (z L : List Int) (k : Nat) (h : z.length = k) : gL (z ++ L) 0 k = gv z := by
  unfold gL
  rw [List.drop_zero, List.take_left' h]
end
section
set_option maxRecDepth 4000
set_option linter.unusedSimpArgs false
set_option linter.unusedVariables false
variable {G : Glob} {bb : Bool}
set_option maxHeartbeats 4000000 in
theorem encD_t (a : Att) (h : a.Dc) (hr : a.res = true) : EV G (Tb (bs bb)) 39 [a.v] [] = some (sv (rfE a), []) := by
  refine EV_run rfl ?_
  obtain ⟨b1, b2, b3, b4, b5, b6, b7, b8, b9, b10, b11, b12, b13⟩ := h.bd
  have g1 := h.ty
  have g2 := h.nl
  have g3 := h.id
  have g4 := h.fl
  obtain ⟨r1, r2, r3, r4, r5⟩ := h.t hr
  have r6 := h.vl
  have eh : hdN a = 24 := by simp [hdN, hr]
  have hA : 24 + a.nm.length ≤ atN a ∧ atN a ≤ 2000 := by simp only [atN, eh]; omega
  have q1 := ceil8_v (G := G) (bb := bb) (24 + a.nm.length) (by omega)
  have eA : (8 : Int) * (((24 + a.nm.length + 7) / 8 : Nat) : Int) = ((atN a : Nat) : Int) := by simp only [atN, eh]; omega
  rw [Int.natCast_add, show ((24 : Nat) : Int) = 24 from rfl] at q1
  have hs : szN a ≤ 4000 ∧ 8 ≤ szN a ∧ szN a % 8 = 0 := by
    have : bdy a = a.va := by simp [bdy, hr]
    simp only [szN, this]; omega
  have hz : (rf3 a).length = szN a - 8 := by
    have h2 := rf2_len a
    rw [rf3, fil8, bdy_eq h]
    simp only [List.length_append, List.length_replicate]
    simp only [szN]
    have : atN a % 8 = 0 := by unfold atN; omega
    omega
  have q2 := zerosN_v (G := G) (bb := bb) (atN a - 24 - a.nm.length) (by omega)
  have e2 : ((atN a : Nat) : Int) - 24 - (a.nm.length : Int) = ((atN a - 24 - a.nm.length : Nat) : Int) := by omega
  have f1 : rf2 a = rf1 a ++ sgK a.va.length 4 ++ sgK (atN a) 4 := by rw [rf2, if_pos hr]
  have l1 : (rf1 a).length = 8 := by simp only [rf1, List.length_append, sgK_len]
  have f2 : rf3 a = fil8 (rf1 a ++ sgK a.va.length 4 ++ sgK (atN a) 4 ++ a.nm ++ List.replicate (atN a - 24 - a.nm.length) 0 ++ a.va) := by rw [rf3, f1, eh, rfb, if_pos hr]
  have f0 : rf1 a = sgK 0 1 ++ sgK a.nm.length 1 ++ sgK 24 2 ++ sgK a.fl 2 ++ sgK a.id 2 := by rw [rf1, if_pos hr, eh]; rfl
  have q3 := filled_v (G := G) (bb := bb) (rf1 a ++ sgK a.va.length 4 ++ sgK (atN a) 4 ++ a.nm ++ List.replicate (atN a - 24 - a.nm.length) 0 ++ a.va) (by simp only [List.length_append, sgK_len, List.length_replicate]; omega)
  rw [← f2] at q3
  have q4 := ceil8_v (G := G) (bb := bb) ((rf3 a).length + 8) (by omega)
  rw [Int.natCast_add, show ((8 : Nat) : Int) = 8 from rfl] at q4
  have e4 : (8 : Int) * ((((rf3 a).length + 8 + 7) / 8 : Nat) : Int) = ((szN a : Nat) : Int) := by omega
  rw [f0] at q3
  unfold rfE
  generalize rf3 a = R at *
  generalize atN a = A at *
  generalize szN a = N at *
  simp (disch := first | omega | (simp only [List.length_append, List.length_cons, List.length_nil, List.length_map, sgK_len, List.length_replicate] <;> omega)) only [go_sem, Nat.reduceAdd, Nat.reduceSub, Nat.reduceMul, Nat.reduceLeDiff, Nat.reduceEqDiff, h39c, hr, str_nil, bit_v, q1, eA, little1, little2, little4, q2, e2, q3, q4, e4, List.append_nil, List.length_replicate]
set_option maxHeartbeats 4000000 in
theorem encD_f (a : Att) (h : a.Dc) (hr : a.res = false) : EV G (Tb (bs bb)) 39 [a.v] [] = some (sv (rfE a), []) := by
  refine EV_run rfl ?_
  obtain ⟨b1, b2, b3, b4, b5, b6, b7, b8, b9, b10, b11, b12, b13⟩ := h.bd
  have hr' : ¬ a.res = true := by rw [hr]; decide
  have g1 := h.ty
  have g2 := h.nl
  have g3 := h.id
  have g4 := h.fl
  obtain ⟨r2, r4, r3, r5, r6, r7⟩ := h.f hr
  obtain ⟨c1, c2, c3⟩ := chk_bd r4
  have eh : hdN a = 40 := by simp [hdN, hr]
  have eb := bdy_eq h
  have ef : rfb a = (encL a.rs).1 ++ [0] := by rw [rfb, if_neg hr']
  have hl := encL_len r4
  have hbl : (bdy a).length = (encL a.rs).1.length + 1 := by rw [← eb, ef]; simp
  have hA : 40 + a.nm.length ≤ atN a ∧ atN a ≤ 2000 := by simp only [atN, eh]; omega
  have q1 := ceil8_v (G := G) (bb := bb) (40 + a.nm.length) (by omega)
  have eA : (8 : Int) * (((40 + a.nm.length + 7) / 8 : Nat) : Int) = ((atN a : Nat) : Int) := by simp only [atN, eh]; omega
  rw [Int.natCast_add, show ((40 : Nat) : Int) = 40 from rfl] at q1
  have hs : szN a ≤ 4000 ∧ 8 ≤ szN a ∧ szN a % 8 = 0 := by
    simp only [szN]; omega
  have hz : (rf3 a).length = szN a - 8 := by
    have h2 := rf2_len a
    rw [rf3, fil8, bdy_eq h]
    simp only [List.length_append, List.length_replicate]
    simp only [szN]
    have : atN a % 8 = 0 := by unfold atN; omega
    omega
  have q2 := zerosN_v (G := G) (bb := bb) (atN a - 40 - a.nm.length) (by omega)
  have e2 : ((atN a : Nat) : Int) - 40 - (a.nm.length : Int) = ((atN a - 40 - a.nm.length : Nat) : Int) := by omega
  have q5 := encodeR_v (G := G) (B := bs bb) a.rs r4
  have q6 := length_r (G := G) (B := bs bb) a.rs (by omega)
  have q7 := mod_v (G := G) (B := bs bb) (a.fi + lenW a.rs - 1) 4294967296 (by omega)
  have l1 : (rf1 a).length = 8 := by simp only [rf1, List.length_append, sgK_len]
  have f0 : rf1 a = sgK 1 1 ++ sgK a.nm.length 1 ++ sgK 40 2 ++ sgK a.fl 2 ++ sgK a.id 2 := by rw [rf1, if_neg hr', eh]; rfl
  have f1 : rf2 a = rf1 a ++ sgK a.fi 4 ++ sgK ((a.fi + lenW a.rs - 1) % 4294967296) 4 ++ sgK (atN a) 2 ++ [0, 0] ++ sgK a.al 4 ++ sgK a.sz 4 ++ sgK a.vd 4 := by rw [rf2, if_neg hr']; rfl
  have l2 := rf2_len a
  have f2 : rf3 a = fil8 (rf2 a ++ a.nm ++ List.replicate (atN a - 40 - a.nm.length) 0 ++ ((encL a.rs).1 ++ [0])) := by rw [rf3, eh, ef]
  have q3 := filled_v (G := G) (bb := bb) (rf2 a ++ a.nm ++ List.replicate (atN a - 40 - a.nm.length) 0 ++ ((encL a.rs).1 ++ [0])) (by simp only [List.length_append, List.length_replicate, List.length_singleton]; omega)
  rw [← f2] at q3
  have q4 := ceil8_v (G := G) (bb := bb) ((rf3 a).length + 8) (by omega)
  rw [Int.natCast_add, show ((8 : Nat) : Int) = 8 from rfl] at q4
  have e4 : (8 : Int) * ((((rf3 a).length + 8 + 7) / 8 : Nat) : Int) = ((szN a : Nat) : Int) := by omega
  rw [f1, f0] at q3
  unfold rfE
  generalize rf3 a = R at *
  generalize atN a = A at *
  generalize szN a = N at *
  have hm : 0 ≤ (a.fi + lenW a.rs - 1) % 4294967296 ∧ (a.fi + lenW a.rs - 1) % 4294967296 ≤ 4294967296 := by omega
  simp (disch := first | omega | (simp only [List.length_append, List.length_cons, List.length_nil, List.length_map, sgK_len, List.length_replicate] <;> omega)) only [go_sem, Nat.reduceAdd, Nat.reduceSub, Nat.reduceMul, Nat.reduceLeDiff, Nat.reduceEqDiff, h39c, hr, str_nil, bit_v, q1, eA, little1, little2, little4, zeros2_v, q2, e2, q3, q4, e4, q5, q6, q7, List.append_nil, List.length_replicate]
theorem encD_v (a : Att) (h : a.Dc) : EV G (Tb (bs bb)) 39 [a.v] [] = some (sv (rfE a), []) := by
  cases hr : a.res with
  | true => exact encD_t a h hr
  | false => exact encD_f a h hr
end
section
set_option maxRecDepth 4000
set_option linter.unusedSimpArgs false
set_option linter.unusedVariables false
variable {G : Glob} {bb : Bool}
section
variable {B : CallT}
theorem indexFunc_v (p : Run → Bool) (f : Nat) (hf : ∀ r : Run, EV G (Tb B) f [r.v] [] = some (vb (p r), [])) (l : List Run) (hl : l.length ≤ 1000000) :
    EV G (Tb B) 120 [runsV l, .one (.fn f [])] [] = some (vi (if ix (fun k => p (l.getD k ⟨0, 0⟩) = true) l.length = l.length then -1 else (ix (fun k => p (l.getD k ⟨0, 0⟩) = true) l.length : Nat)), []) := by
  refine EV_run rfl ?_
  simp (disch := omega) only [go_sem, Nat.reduceAdd, Nat.reduceSub, Nat.reduceMul, Nat.reduceLeDiff, Nat.reduceEqDiff, h120c, List.length_map]
  rw [EL_fst (fun k => ⟨(runsV l :: .one (.fn f []) :: jk 5 (vi l.length :: vi k :: jk 10 [])), []⟩) (fun k => p (l.getD k ⟨0, 0⟩) = true) l.length ?_ ?_]
  rotate_left
  · rfl
  · intro k hk hn
    have h1 := hn k (Nat.le_refl _)
    have h2 := hf l[k]
    rw [runAt l k hk] at h1
    simp (disch := omega) only [go_sem, Nat.reduceAdd, Nat.reduceSub, Nat.reduceMul, Nat.reduceLeDiff, Nat.reduceEqDiff, h120l0, List.length_map, Run.e, h2, h1]
  obtain ⟨hk, hp, hn⟩ := ix_spec (fun k => p (l.getD k ⟨0, 0⟩) = true) l.length
  generalize ix (fun k => p (l.getD k ⟨0, 0⟩) = true) l.length = k at *
  rcases hp with rfl | ⟨hk', hp⟩
  · simp (disch := omega) only [go_sem, Nat.reduceAdd, Nat.reduceSub, Nat.reduceMul, Nat.reduceLeDiff, Nat.reduceEqDiff, h120l0, List.length_map]
  · have h2 := hf l[k]
    rw [runAt l k hk'] at hp
    rw [if_neg (by omega)]
    simp (disch := omega) only [go_sem, Nat.reduceAdd, Nat.reduceSub, Nat.reduceMul, Nat.reduceLeDiff, Nat.reduceEqDiff, h120l0, List.length_map, Run.e, h2, hp]
end
theorem clone_v (l : List Run) (hl : l.length ≤ 1000000) : EV G (Tb (bs bb)) 59 [runsV l] [] = some (.one (.bld 0 l.length), [.arr 0 2 (l.map Run.e)]) := by
  refine EV_base rfl ?_
  show (if allLen 2 (l.map Run.e) = true ∧ (l.map Run.e).length * 16 ≤ 140737488355328 then some (AV.one (.bld 0 (l.map Run.e).length), [AObj.arr 0 2 (l.map Run.e)]) else none) = _
  rw [if_pos ⟨all_run l, by rw [List.length_map]; omega⟩, List.length_map]
theorem holeF_v (r : Run) : EV G (Tb (bs bb)) 62 [r.v] [] = some (vb (decide (r.s = -1)), []) := by
  refine EV_run rfl ?_
  simp (disch := omega) only [go_sem, Nat.reduceAdd, Nat.reduceSub, Nat.reduceMul, Nat.reduceLeDiff, Nat.reduceEqDiff, h62c]
def holeB (l : List Run) : Bool := l.any fun r => decide (r.s = -1)
theorem contHole_v (l : List Run) (hl : l.length ≤ 1000000) : EV G (Tb (bs bb)) 61 [runsV l, .one (.fn 62 [])] [] = some (vb (holeB l), []) := by
  refine EV_run rfl ?_
  have q := indexFunc_v (G := G) (B := bs bb) (fun r => decide (r.s = -1)) 62 holeF_v l hl
  obtain ⟨hk, hp, hn⟩ := ix_spec (fun k => decide ((l.getD k ⟨0, 0⟩).s = -1) = true) l.length
  generalize ix (fun k => decide ((l.getD k ⟨0, 0⟩).s = -1) = true) l.length = k at *
  rcases hp with rfl | ⟨hk', hp⟩
  · rw [if_pos rfl] at q
    have e : holeB l = false := by
      unfold holeB
      rw [Bool.eq_false_iff]
      intro h
      obtain ⟨r, hr, hs⟩ := List.any_eq_true.1 h
      obtain ⟨j, hj, rfl⟩ := List.mem_iff_getElem.1 hr
      have := hn j hj
      rw [runAt l j hj] at this
      exact this hs
    rw [e]
    simp (disch := omega) only [go_sem, Nat.reduceAdd, Nat.reduceSub, Nat.reduceMul, Nat.reduceLeDiff, Nat.reduceEqDiff, h61c, q]
    rfl
  · rw [if_neg (by omega)] at q
    have e : holeB l = true := by
      unfold holeB
      rw [runAt l k hk'] at hp
      exact List.any_eq_true.2 ⟨_, List.getElem_mem hk', hp⟩
    rw [e]
    have e2 : ((k : Int) ≥ 0) = True := eq_true (by omega)
    simp (disch := omega) only [go_sem, Nat.reduceAdd, Nat.reduceSub, Nat.reduceMul, Nat.reduceLeDiff, Nat.reduceEqDiff, h61c, q, e2]
theorem copyA_v (a : Att) (hl : a.rs.length ≤ 1000000) : EV G (Tb (bs bb)) 14 [a.v] [] = some (a.v, []) := by
  refine EV_run rfl ?_
  have q := copyRuns_v (G := G) (B := bs bb) a.rs hl
  simp (disch := omega) only [go_sem, Nat.reduceAdd, Nat.reduceSub, Nat.reduceMul, Nat.reduceLeDiff, Nat.reduceEqDiff, h14c, q, take_map_len, List.length_map]
theorem few_v (a : Att) : EV G (Tb (bs bb)) 12 [a.v] [] = some (vb (decide (a.rs.length ≤ 80) && (decide (a.va.length ≤ 500) && decide (a.nm.length ≤ 60))), []) := by
  refine EV_run rfl ?_
  have e1 : ((a.rs.length : Int) ≤ 80) = (a.rs.length ≤ 80) := by apply propext; omega
  have e2 : ((a.va.length : Int) ≤ 500) = (a.va.length ≤ 500) := by apply propext; omega
  have e3 : ((a.nm.length : Int) ≤ 60) = (a.nm.length ≤ 60) := by apply propext; omega
  by_cases c1 : a.rs.length ≤ 80
  · by_cases c2 : a.va.length ≤ 500
    · simp (disch := omega) only [go_sem, Nat.reduceAdd, Nat.reduceSub, Nat.reduceMul, Nat.reduceLeDiff, Nat.reduceEqDiff, h12c, List.length_map, e1, e2, e3, eq_true c1, eq_true c2]
    · simp (disch := omega) only [go_sem, Nat.reduceAdd, Nat.reduceSub, Nat.reduceMul, Nat.reduceLeDiff, Nat.reduceEqDiff, h12c, List.length_map, e1, e2, e3, eq_true c1, c2]
  · simp (disch := omega) only [go_sem, Nat.reduceAdd, Nat.reduceSub, Nat.reduceMul, Nat.reduceLeDiff, Nat.reduceEqDiff, h12c, List.length_map, e1, e2, e3, c1]
def sameB (a b : Att) : Bool := decide (a.ty = b.ty) && (decide (a.nm = b.nm) && (decide (a.id = b.id) && (decide (a.fl = b.fl) && (decide (a.res = b.res) && (decide (a.va = b.va) && (decide (a.fi = b.fi) && (decide (a.rs = b.rs) && (decide (a.al = b.al) && (decide (a.sz = b.sz) && (decide (a.vd = b.vd)))))))))))
theorem sameB_iff (a b : Att) : sameB a b = true ↔ a = b := by
  cases a; cases b
  simp [sameB]
set_option maxHeartbeats 4000000 in
theorem sameA_v (a b : Att) (ha : a.W) (hb : b.W) : EV G (Tb (bs bb)) 21 [a.v, b.v] [] = some (vb (sameB a b), []) := by
  refine EV_run rfl ?_
  have e1 := str_inj ha.nm hb.nm
  have e2 := str_inj ha.va hb.va
  have q := sameRuns_v (G := G) (B := bs bb) a.rs b.rs (by have := ha.rl; omega)
  by_cases c0 : a.ty = b.ty
  rotate_left
  · simp (disch := omega) only [go_sem, Nat.reduceAdd, Nat.reduceSub, Nat.reduceMul, Nat.reduceLeDiff, Nat.reduceEqDiff, h21c, e1, e2, q, c0]
    simp [sameB, c0]
  by_cases c1 : a.nm = b.nm
  rotate_left
  · simp (disch := omega) only [go_sem, Nat.reduceAdd, Nat.reduceSub, Nat.reduceMul, Nat.reduceLeDiff, Nat.reduceEqDiff, h21c, e1, e2, q, eq_true c0, c1]
    simp [sameB, c0, c1]
  by_cases c2 : a.id = b.id
  rotate_left
  · simp (disch := omega) only [go_sem, Nat.reduceAdd, Nat.reduceSub, Nat.reduceMul, Nat.reduceLeDiff, Nat.reduceEqDiff, h21c, e1, e2, q, eq_true c0, eq_true c1, c2]
    simp [sameB, c0, c1, c2]
  by_cases c3 : a.fl = b.fl
  rotate_left
  · simp (disch := omega) only [go_sem, Nat.reduceAdd, Nat.reduceSub, Nat.reduceMul, Nat.reduceLeDiff, Nat.reduceEqDiff, h21c, e1, e2, q, eq_true c0, eq_true c1, eq_true c2, c3]
    simp [sameB, c0, c1, c2, c3]
  by_cases c4 : a.res = b.res
  rotate_left
  · have d4 : (a.res == b.res) = false := by simpa using c4
    simp (disch := omega) only [go_sem, Nat.reduceAdd, Nat.reduceSub, Nat.reduceMul, Nat.reduceLeDiff, Nat.reduceEqDiff, h21c, e1, e2, q, eq_true c0, eq_true c1, eq_true c2, eq_true c3, d4]
    simp [sameB, c0, c1, c2, c3, c4]
  have d4 : (a.res == b.res) = true := by simpa using c4
  by_cases c5 : a.va = b.va
  rotate_left
  · simp (disch := omega) only [go_sem, Nat.reduceAdd, Nat.reduceSub, Nat.reduceMul, Nat.reduceLeDiff, Nat.reduceEqDiff, h21c, e1, e2, q, eq_true c0, eq_true c1, eq_true c2, eq_true c3, d4, c5]
    simp [sameB, c0, c1, c2, c3, c4, c5]
  by_cases c6 : a.fi = b.fi
  rotate_left
  · simp (disch := omega) only [go_sem, Nat.reduceAdd, Nat.reduceSub, Nat.reduceMul, Nat.reduceLeDiff, Nat.reduceEqDiff, h21c, e1, e2, q, eq_true c0, eq_true c1, eq_true c2, eq_true c3, d4, eq_true c5, c6]
    simp [sameB, c0, c1, c2, c3, c4, c5, c6]
  by_cases c7 : a.rs = b.rs
  rotate_left
  · simp (disch := omega) only [go_sem, Nat.reduceAdd, Nat.reduceSub, Nat.reduceMul, Nat.reduceLeDiff, Nat.reduceEqDiff, h21c, e1, e2, q, eq_true c0, eq_true c1, eq_true c2, eq_true c3, d4, eq_true c5, eq_true c6, c7]
    simp [sameB, c0, c1, c2, c3, c4, c5, c6, c7]
  by_cases c8 : a.al = b.al
  rotate_left
  · simp (disch := omega) only [go_sem, Nat.reduceAdd, Nat.reduceSub, Nat.reduceMul, Nat.reduceLeDiff, Nat.reduceEqDiff, h21c, e1, e2, q, eq_true c0, eq_true c1, eq_true c2, eq_true c3, d4, eq_true c5, eq_true c6, eq_true c7, c8]
    simp [sameB, c0, c1, c2, c3, c4, c5, c6, c7, c8]
  by_cases c9 : a.sz = b.sz
  rotate_left
  · simp (disch := omega) only [go_sem, Nat.reduceAdd, Nat.reduceSub, Nat.reduceMul, Nat.reduceLeDiff, Nat.reduceEqDiff, h21c, e1, e2, q, eq_true c0, eq_true c1, eq_true c2, eq_true c3, d4, eq_true c5, eq_true c6, eq_true c7, eq_true c8, c9]
    simp [sameB, c0, c1, c2, c3, c4, c5, c6, c7, c8, c9]
  by_cases c10 : a.vd = b.vd
  rotate_left
  · simp (disch := omega) only [go_sem, Nat.reduceAdd, Nat.reduceSub, Nat.reduceMul, Nat.reduceLeDiff, Nat.reduceEqDiff, h21c, e1, e2, q, eq_true c0, eq_true c1, eq_true c2, eq_true c3, d4, eq_true c5, eq_true c6, eq_true c7, eq_true c8, eq_true c9, c10]
    simp [sameB, c0, c1, c2, c3, c4, c5, c6, c7, c8, c9, c10]
  simp (disch := omega) only [go_sem, Nat.reduceAdd, Nat.reduceSub, Nat.reduceMul, Nat.reduceLeDiff, Nat.reduceEqDiff, h21c, e1, e2, q, eq_true c0, eq_true c1, eq_true c2, eq_true c3, d4, eq_true c5, eq_true c6, eq_true c7, eq_true c8, eq_true c9, eq_true c10]
  simp [sameB, c0, c1, c2, c3, c4, c5, c6, c7, c8, c9, c10]
theorem Att.nil_W : Att.nil.W := ⟨byts_nil, byts_nil, Nat.zero_le _, Nat.zero_le _, Nat.zero_le _⟩
/-- is an attribute as it is wanted, or the error? -/
def asB (x : Att) (e : Int) (w : Att) (c : Int) : Bool := decide (e = c) && (if c = 0 then sameB x w else sameB x Att.nil)
theorem same8_v (x w : Att) (e c : Int) (hx : x.W) (hw : w.W) : EV G (Tb (bs bb)) 18 [x.v, vi e, w.v, vi c] [] = some (vb (asB x e w c), []) := by
  refine EV_run rfl ?_
  have q1 := sameA_v (G := G) (bb := bb) x w hx hw
  have q2 := sameA_v (G := G) (bb := bb) x Att.nil hx Att.nil_W
  simp only [Att.nil, Att.v, Att.c, List.map_nil] at q2
  by_cases c1 : e = c
  · subst c1
    by_cases c2 : e = 0
    · subst c2
      simp (disch := omega) only [go_sem, Nat.reduceAdd, Nat.reduceSub, Nat.reduceMul, Nat.reduceLeDiff, Nat.reduceEqDiff, h18c, q1, str_nil]
      simp [asB]
    · cases c3 : sameB x Att.nil with
      | true =>
        simp only [Att.nil] at c3
        rw [c3] at q2
        simp (disch := omega) only [go_sem, Nat.reduceAdd, Nat.reduceSub, Nat.reduceMul, Nat.reduceLeDiff, Nat.reduceEqDiff, h18c, q2, c2, str_nil]
        simp [asB, c2, Att.nil, c3]
      | false =>
        simp only [Att.nil] at c3
        rw [c3] at q2
        simp (disch := omega) only [go_sem, Nat.reduceAdd, Nat.reduceSub, Nat.reduceMul, Nat.reduceLeDiff, Nat.reduceEqDiff, h18c, q2, c2, str_nil]
        simp [asB, c2, Att.nil, c3]
  · simp (disch := omega) only [go_sem, Nat.reduceAdd, Nat.reduceSub, Nat.reduceMul, Nat.reduceLeDiff, Nat.reduceEqDiff, h18c, c1]
    simp [asB, c1]
end
section
set_option maxRecDepth 4000
set_option linter.unusedSimpArgs false
set_option linter.unusedVariables false
variable {G : Glob} {bb : Bool}
def blI (s t : ByteArray) (v0 v1 v2 v3 v4 v5 : AV) : Option AV := aggo (fillV ([Zi 0, .string s, Zi 0, Zi 0, .bool false, .string t, Zi 0, .slice none 0 0, Zi 0, Zi 0, Zi 0].map rawC) [(0, 1, v0), (1, 1, v1), (2, 1, v2), (3, 1, v3), (4, 1, v4), (5, 1, v5)])
theorem blI_s {call : CallT} {st : AS} {l : List AOp} {d : Option Nat} {s t : ByteArray} {x0 x1 x2 x3 x4 x5 : AArg} : stZ call G st l d (.build [Zi 0, .string s, Zi 0, Zi 0, .bool false, .string t, Zi 0, .slice none 0 0, Zi 0, Zi 0, Zi 0] [(0, 1, x0), (1, 1, x1), (2, 1, x2), (3, 1, x3), (4, 1, x4), (5, 1, x5)]) = putX st d (blI s t (evA G st.sl x0) (evA G st.sl x1) (evA G st.sl x2) (evA G st.sl x3) (evA G st.sl x4) (evA G st.sl x5)) := rfl
theorem blI_o {s t : ByteArray} {c0 c1 c2 c3 c4 c5 : Cel} : blI s t (.one c0) (.one c1) (.one c2) (.one c3) (.one c4) (.one c5) = some (.agg [c0, c1, c2, c3, c4, c5, .dc (.raw (Zi 0)), .dc (.raw (.slice none 0 0)), .dc (.raw (Zi 0)), .dc (.raw (Zi 0)), .dc (.raw (Zi 0))]) := by kernel_rfl
def blO (s t : ByteArray) (v0 v1 v2 v3 v4 v5 v6 : AV) : Option AV := aggo (fillV ([Zi 0, .string s, Zi 0, Zi 0, .bool false, .string t, Zi 0, .slice none 0 0, Zi 0, Zi 0, Zi 0].map rawC) [(0, 1, v0), (1, 1, v1), (2, 1, v2), (3, 1, v3), (7, 1, v4), (9, 1, v5), (10, 1, v6)])
theorem blO_q {call : CallT} {st : AS} {d : Option Nat} {s t : ByteArray} {x0 x1 x2 x3 x4 x5 x6 : AArg} : qtZ call G st d (.build [Zi 0, .string s, Zi 0, Zi 0, .bool false, .string t, Zi 0, .slice none 0 0, Zi 0, Zi 0, Zi 0] [(0, 1, x0), (1, 1, x1), (2, 1, x2), (3, 1, x3), (7, 1, x4), (9, 1, x5), (10, 1, x6)]) = putX st d (blO s t (evA G st.sl x0) (evA G st.sl x1) (evA G st.sl x2) (evA G st.sl x3) (evA G st.sl x4) (evA G st.sl x5) (evA G st.sl x6)) := rfl
theorem blO_o {s t : ByteArray} {c0 c1 c2 c3 c4 c5 c6 : Cel} : blO s t (.one c0) (.one c1) (.one c2) (.one c3) (.one c4) (.one c5) (.one c6) = some (.agg [c0, c1, c2, c3, .dc (.raw (.bool false)), .dc (.raw (.string t)), .dc (.raw (Zi 0)), c4, .dc (.raw (Zi 0)), c5, c6]) := by kernel_rfl
def blS (s t : ByteArray) (v0 v1 v2 v3 v4 : AV) : Option AV := aggo (fillV ([Zi 0, .string s, Zi 0, Zi 0, .bool false, .string t, Zi 0, .slice none 0 0, Zi 0, Zi 0, Zi 0].map rawC) [(0, 1, v0), (1, 1, v1), (2, 1, v2), (3, 1, v3), (6, 1, v4)])
theorem blS_q {call : CallT} {st : AS} {d : Option Nat} {s t : ByteArray} {x0 x1 x2 x3 x4 : AArg} : qtZ call G st d (.build [Zi 0, .string s, Zi 0, Zi 0, .bool false, .string t, Zi 0, .slice none 0 0, Zi 0, Zi 0, Zi 0] [(0, 1, x0), (1, 1, x1), (2, 1, x2), (3, 1, x3), (6, 1, x4)]) = putX st d (blS s t (evA G st.sl x0) (evA G st.sl x1) (evA G st.sl x2) (evA G st.sl x3) (evA G st.sl x4)) := rfl
theorem blS_o {s t : ByteArray} {c0 c1 c2 c3 c4 : Cel} : blS s t (.one c0) (.one c1) (.one c2) (.one c3) (.one c4) = some (.agg [c0, c1, c2, c3, .dc (.raw (.bool false)), .dc (.raw (.string t)), c4, .dc (.raw (.slice none 0 0)), .dc (.raw (Zi 0)), .dc (.raw (Zi 0)), .dc (.raw (Zi 0))]) := by kernel_rfl
end
end Go.Proofs.YtmognenhkecngaaGreatDoor
