/- What changes make, as the reference says. Conditions: none. -/
import Derived.Test.YtmognenhkecngaaGreatDoorTx
import Derived.Test.YtmognenhkecngaaGreatDoorUa
namespace Go.Proofs.YtmognenhkecngaaGreatDoor
section
set_option maxRecDepth 4000
set_option linter.unusedSimpArgs false
set_option linter.unusedVariables false
variable {G : Glob} {bb : Bool}
theorem encF_app : ∀ (a b : List Run) (last : Int), encF last (a ++ b) = encF last a ++ encF (a.foldl nxt last) b
  | [], _, _ => rfl
  | r :: a, b, last => by rw [List.cons_append, encF, encF_app a b, encF, List.append_assoc]; rfl
theorem encT_len (last : Int) (r : Run) : (encH last r % 16 + encH last r / 16).toNat = (encT last r).length := by
  have s1 := sz_or r.n
  have s2 := sz_or (r.s - last)
  unfold encH encT
  split
  · rw [sgK_len]; omega
  · rw [List.length_append, sgK_len, sgK_len]; omega
theorem getD_skip (p L : List Int) : (p ++ L).getD p.length 0 = L.getD 0 0 := by
  rw [List.getD_eq_getElem?_getD, List.getD_eq_getElem?_getD, List.getElem?_append_right (Nat.le_refl _), Nat.sub_self]
theorem raP_enc (l : List Run) (rest : List Int) : ∀ k, k ≤ l.length → raP (encF 0 l ++ ([0] ++ rest)) k = (encF 0 (l.take k)).length ∧ ∀ j, j < k → (encF 0 l ++ ([0] ++ rest)).getD (raP (encF 0 l ++ ([0] ++ rest)) j) 0 ≠ 0
  | 0, _ => ⟨rfl, fun j hj => by omega⟩
  | k + 1, hk => by
    obtain ⟨h1, h2⟩ := raP_enc l rest k (by omega)
    have hkl : k < l.length := by omega
    have e1 : l = l.take k ++ (l[k] :: l.drop (k + 1)) := by rw [← List.drop_eq_getElem_cons hkl, List.take_append_drop]
    have e2 : encF 0 l = encF 0 (l.take k) ++ (encH ((l.take k).foldl nxt 0) l[k] :: (encT ((l.take k).foldl nxt 0) l[k] ++ encF (nxt ((l.take k).foldl nxt 0) l[k]) (l.drop (k + 1)))) := by
      conv => lhs; rw [e1]
      rw [encF_app, encF, encR_ht]
      rfl
    have e3 : (encF 0 l ++ ([0] ++ rest)).getD (raP (encF 0 l ++ ([0] ++ rest)) k) 0 = encH ((l.take k).foldl nxt 0) l[k] := by
      rw [h1]
      conv => lhs; rw [e2]
      rw [List.append_assoc, getD_skip]
      rfl
    refine ⟨?_, fun j hj => ?_⟩
    · rw [raP, e3, encT_len, h1, List.take_succ_eq_append_getElem hkl, encF_app, List.length_append]
      show _ = _ + (encF _ [l[k]]).length
      simp only [encF, encR_ht, List.append_nil, List.length_cons]
      omega
    · by_cases c : j < k
      · exact h2 j c
      · have : j = k := by omega
        subst this
        rw [e3]
        exact encH_0 _ _
theorem raV_enc (l : List Run) (rest : List Int) : raV ((encL l).1 ++ [0] ++ rest) = (encL l).1 ++ [0] := by
  rw [encL_F, List.append_assoc]
  obtain ⟨h1, h2⟩ := raP_enc l rest l.length (Nat.le_refl _)
  rw [List.take_length] at h1
  have hg := raP_ge (encF 0 l ++ ([0] ++ rest)) l.length
  have hlen : (encF 0 l ++ ([0] ++ rest)).length = (encF 0 l).length + 1 + rest.length := by simp only [List.length_append, List.length_cons, List.length_nil]; omega
  have hz : (encF 0 l ++ ([0] ++ rest)).getD (encF 0 l).length 0 = 0 := by rw [getD_skip]; rfl
  have hm : ∀ j, j ≤ l.length → raP (encF 0 l ++ ([0] ++ rest)) j < (encF 0 l ++ ([0] ++ rest)).length := fun j hj => by
    have h3 := (raP_enc l rest j hj).1
    have : (encF 0 (l.take j)).length ≤ (encF 0 l).length := by
      conv => rhs; rw [← List.take_append_drop j l, encF_app, List.length_append]
      omega
    omega
  have hE : raE (encF 0 l ++ ([0] ++ rest)) = l.length := by
    unfold raE
    refine ix_at (by omega) (.inr (by rw [h1]; exact hz)) (fun j hj g => ?_)
    rcases g with g | g
    · have := hm j (by omega); omega
    · exact h2 j hj g
  unfold raV
  rw [hE, if_pos (hm _ (Nat.le_refl _)), h1]
  rw [← List.append_assoc, List.take_left' (by simp)]
theorem drop_skip (p L : List Int) (k : Nat) (h : p.length ≤ k) : (p ++ L).drop k = L.drop (k - p.length) := by
  rw [List.drop_append, List.drop_of_length_le h, List.nil_append]
theorem drop_at (L : List Int) (k : Nat) (h : k = 0) : L.drop k = L := by subst h; rfl
theorem getD_gL (s : List Int) (k : Nat) (h : k < s.length) : s.getD k 0 = gL s k 1 := by
  rw [getD_at s k h]
  unfold gL
  rw [List.drop_eq_getElem_cons h, List.take_succ_cons, List.take_zero]
  show s[k] = s[k] + 256 * 0
  omega
theorem gL_at (z L : List Int) (a k : Nat) (ha : a = 0) (h : z.length = k) : gL (z ++ L) a k = gv z := by subst ha; exact gL_head z L k h
/-- the pieces of a resident attribute's bytes -/
theorem shT {a : Att} (h : a.Dc) (hr : a.res = true) : rfE a = sgK a.ty 4 ++ (sgK (szN a) 4 ++ (sgK 0 1 ++ (sgK a.nm.length 1 ++ (sgK 24 2 ++ (sgK a.fl 2 ++ (sgK a.id 2 ++ (sgK a.va.length 4 ++ (sgK (atN a) 4 ++ (a.nm ++ (List.replicate (atN a - 24 - a.nm.length) 0 ++ (a.va ++ List.replicate (szN a - atN a - a.va.length) 0))))))))))) := by
  obtain ⟨o1, o2, o3, o4, o5⟩ := at_ok a
  have eh : hdN a = 24 := by simp [hdN, hr]
  have ebd : bdy a = a.va := by simp [bdy, hr]
  have hb := bdy_eq h
  rw [eh] at o2
  rw [ebd] at o3 o5
  unfold rfE rf3 rf2 rf1 fil8
  rw [if_pos hr, if_pos hr, eh, hb, ebd]
  simp only [List.append_assoc]
  simp only [List.length_append, sgK_len, List.length_replicate]
  have e3 := pad_u (1 + (1 + (2 + (2 + (2 + (4 + (4 + (a.nm.length + ((atN a - 24 - a.nm.length) + a.va.length))))))))) (szN a) (szN a - atN a - a.va.length) (by omega) o4 (by omega)
  rw [e3]
  rfl
theorem shF {a : Att} (h : a.Dc) (hr : a.res = false) : rfE a = sgK a.ty 4 ++ (sgK (szN a) 4 ++ (sgK 1 1 ++ (sgK a.nm.length 1 ++ (sgK 40 2 ++ (sgK a.fl 2 ++ (sgK a.id 2 ++ (sgK a.fi 4 ++ (sgK (a.fi + lenW a.rs - 1) 4 ++ (sgK (atN a) 2 ++ (List.replicate 2 0 ++ (sgK a.al 4 ++ (sgK a.sz 4 ++ (sgK a.vd 4 ++ (a.nm ++ (List.replicate (atN a - 40 - a.nm.length) 0 ++ (((encL a.rs).1 ++ [0]) ++ List.replicate (szN a - atN a - (bdy a).length) 0)))))))))))))))) := by
  obtain ⟨o1, o2, o3, o4, o5⟩ := at_ok a
  have hr' : ¬ a.res = true := by rw [hr]; decide
  have eh : hdN a = 40 := by simp [hdN, hr]
  have hb := bdy_eq h
  have ef : rfb a = (encL a.rs).1 ++ [0] := by rw [rfb, if_neg hr']
  rw [← hb, ef] at o3 o5 ⊢
  rw [eh] at o2
  unfold rfE rf3 rf2 rf1 fil8
  rw [if_neg hr', if_neg hr', eh, ef, sgK_mod]
  simp only [List.append_assoc]
  simp only [List.length_append, sgK_len, List.length_replicate] at o3 o5 ⊢
  have e3 := pad_u (1 + (1 + (2 + (2 + (2 + (4 + (4 + (2 + (2 + (4 + (4 + (4 + (a.nm.length + ((atN a - 40 - a.nm.length) + ((encL a.rs).1.length + [(0 : Int)].length))))))))))))))) (szN a) (szN a - atN a - ((encL a.rs).1.length + [(0 : Int)].length)) (by omega) o4 (by omega)
  rw [e3]
  rfl
/-- what a resident attribute's bytes read as -/
theorem rd_T {a : Att} (h : a.Dc) (hr : a.res = true) : dRes (rfE a) = true ∧ dAt (rfE a) = atN a ∧ dSz (rfE a) = a.nm.length ∧ dVl (rfE a) = a.va.length ∧ (rfE a).getD 8 0 = 0 ∧ dT (rfE a) = a ∧ (rfE a).length = szN a ∧ 24 + a.nm.length ≤ atN a ∧ atN a + a.va.length ≤ szN a := by
  obtain ⟨o1, o2, o3, o4, o5⟩ := at_ok a
  have eh : hdN a = 24 := by simp [hdN, hr]
  have ebd : bdy a = a.va := by simp [bdy, hr]
  rw [eh] at o2
  rw [ebd] at o3 o5
  have hlen : (rfE a).length = szN a := by rw [← enc_eq h, encB_len a h.bd]
  have hty := h.ty; have hnl := h.nl; have hid := h.id; have hfl := h.fl; have hvl := h.vl
  have hS := shT h hr
  have r8 : gL (rfE a) 8 1 = 0 := by
    rw [hS]
    simp (disch := first | omega | (simp only [sgK_len] <;> omega) | fail) only [gL_skip, gL_at, sgK_len, Nat.reduceSub]
    rfl
  have r9 : gL (rfE a) 9 1 = a.nm.length := by
    rw [hS]
    simp (disch := first | omega | (simp only [sgK_len] <;> omega) | fail) only [gL_skip, gL_at, sgK_len, Nat.reduceSub]
    exact gv1 _ (by omega)
  have r0 : gL (rfE a) 0 4 = a.ty := by
    rw [hS]
    simp (disch := first | omega | (simp only [sgK_len] <;> omega) | fail) only [gL_skip, gL_at, sgK_len, Nat.reduceSub]
    exact gv4 _ hty
  have r12 : gL (rfE a) 12 2 = a.fl := by
    rw [hS]
    simp (disch := first | omega | (simp only [sgK_len] <;> omega) | fail) only [gL_skip, gL_at, sgK_len, Nat.reduceSub]
    exact gv2 _ hfl
  have r14 : gL (rfE a) 14 2 = a.id := by
    rw [hS]
    simp (disch := first | omega | (simp only [sgK_len] <;> omega) | fail) only [gL_skip, gL_at, sgK_len, Nat.reduceSub]
    exact gv2 _ hid
  have r16 : gL (rfE a) 16 4 = a.va.length := by
    rw [hS]
    simp (disch := first | omega | (simp only [sgK_len] <;> omega) | fail) only [gL_skip, gL_at, sgK_len, Nat.reduceSub]
    exact gv4 _ (by omega)
  have rd24 : (rfE a).drop 24 = a.nm ++ (List.replicate (atN a - 24 - a.nm.length) 0 ++ (a.va ++ List.replicate (szN a - atN a - a.va.length) 0)) := by
    rw [hS]
    simp (disch := first | omega | (simp only [sgK_len] <;> omega) | fail) only [drop_skip, drop_at, sgK_len, Nat.reduceSub]
  have rda : (rfE a).drop (atN a) = a.va ++ List.replicate (szN a - atN a - a.va.length) 0 := by
    have e : (rfE a).drop (atN a) = ((rfE a).drop 24).drop (atN a - 24) := by rw [List.drop_drop]; congr 1; omega
    rw [e, rd24, drop_skip _ _ _ (by omega), drop_skip _ _ _ (by rw [List.length_replicate]; omega), drop_at _ _ (by rw [List.length_replicate]; omega)]
  have g8 : (rfE a).getD 8 0 = 0 := by rw [getD_gL _ _ (by omega), r8]
  have eR : dRes (rfE a) = true := by unfold dRes; rw [g8]; rfl
  have eH : dHd (rfE a) = 24 := by unfold dHd; rw [eR]; rfl
  have eS : dSz (rfE a) = a.nm.length := by unfold dSz; omega
  have eA : dAt (rfE a) = atN a := by unfold dAt; rw [eH, eS]; unfold atN; rw [eh]
  have eV : dVl (rfE a) = a.va.length := by unfold dVl; omega
  have eN : dNm (rfE a) = a.nm := by unfold dNm; rw [eH, eS, List.drop_take, rd24, show 24 + a.nm.length - 24 = a.nm.length by omega, List.take_left']; rfl
  refine ⟨eR, eA, eS, eV, g8, ?_, hlen, o2, o3⟩
  obtain ⟨t1, t2, t3, t4, t5⟩ := h.t hr
  unfold dT
  rw [eN, eA, eV, r0, r12, r14, List.drop_take, rda, show atN a + a.va.length - atN a = a.va.length by omega, List.take_left' rfl]
  cases a
  simp only at hr t1 t2 t3 t4 t5
  subst hr; subst t1; subst t2; subst t3; subst t4; subst t5
  rfl
/-- what another attribute's bytes read as -/
theorem rd_F {a : Att} (h : a.Dc) (hr : a.res = false) : dRes (rfE a) = false ∧ dAt (rfE a) = atN a ∧ dSz (rfE a) = a.nm.length ∧ (rfE a).getD 8 0 = 1 ∧ dF (rfE a) a.rs = a ∧ (rfE a).drop (atN a) = ((encL a.rs).1 ++ [0]) ++ List.replicate (szN a - atN a - (bdy a).length) 0 ∧
    (rfE a).length = szN a ∧ 40 + a.nm.length ≤ atN a ∧ atN a + ((encL a.rs).1.length + 1) ≤ szN a := by
  obtain ⟨o1, o2, o3, o4, o5⟩ := at_ok a
  have eh : hdN a = 40 := by simp [hdN, hr]
  have hb := bdy_eq h
  have ef : rfb a = (encL a.rs).1 ++ [0] := by rw [rfb, if_neg (by rw [hr]; decide)]
  have hbl : (bdy a).length = (encL a.rs).1.length + 1 := by rw [← hb, ef]; simp
  rw [eh] at o2
  have hlen : (rfE a).length = szN a := by rw [← enc_eq h, encB_len a h.bd]
  have hty := h.ty; have hnl := h.nl; have hid := h.id; have hfl := h.fl
  obtain ⟨f1, f2, f3, f4, f5, f6⟩ := h.f hr
  have hS := shF h hr
  have r8 : gL (rfE a) 8 1 = 1 := by
    rw [hS]
    simp (disch := first | omega | (simp only [sgK_len, List.length_replicate] <;> omega) | fail) only [gL_skip, gL_at, sgK_len, List.length_replicate, Nat.reduceSub]
    rfl
  have r9 : gL (rfE a) 9 1 = a.nm.length := by
    rw [hS]
    simp (disch := first | omega | (simp only [sgK_len, List.length_replicate] <;> omega) | fail) only [gL_skip, gL_at, sgK_len, List.length_replicate, Nat.reduceSub]
    exact gv1 _ (by omega)
  have r0 : gL (rfE a) 0 4 = a.ty := by
    rw [hS]
    simp (disch := first | omega | (simp only [sgK_len, List.length_replicate] <;> omega) | fail) only [gL_skip, gL_at, sgK_len, List.length_replicate, Nat.reduceSub]
    exact gv4 _ hty
  have r12 : gL (rfE a) 12 2 = a.fl := by
    rw [hS]
    simp (disch := first | omega | (simp only [sgK_len, List.length_replicate] <;> omega) | fail) only [gL_skip, gL_at, sgK_len, List.length_replicate, Nat.reduceSub]
    exact gv2 _ hfl
  have r14 : gL (rfE a) 14 2 = a.id := by
    rw [hS]
    simp (disch := first | omega | (simp only [sgK_len, List.length_replicate] <;> omega) | fail) only [gL_skip, gL_at, sgK_len, List.length_replicate, Nat.reduceSub]
    exact gv2 _ hid
  have r16 : gL (rfE a) 16 4 = a.fi := by
    rw [hS]
    simp (disch := first | omega | (simp only [sgK_len, List.length_replicate] <;> omega) | fail) only [gL_skip, gL_at, sgK_len, List.length_replicate, Nat.reduceSub]
    exact gv4 _ f3
  have r28 : gL (rfE a) 28 4 = a.al := by
    rw [hS]
    simp (disch := first | omega | (simp only [sgK_len, List.length_replicate] <;> omega) | fail) only [gL_skip, gL_at, sgK_len, List.length_replicate, Nat.reduceSub]
    exact gv4 _ f4
  have r32 : gL (rfE a) 32 4 = a.sz := by
    rw [hS]
    simp (disch := first | omega | (simp only [sgK_len, List.length_replicate] <;> omega) | fail) only [gL_skip, gL_at, sgK_len, List.length_replicate, Nat.reduceSub]
    exact gv4 _ f5
  have r36 : gL (rfE a) 36 4 = a.vd := by
    rw [hS]
    simp (disch := first | omega | (simp only [sgK_len, List.length_replicate] <;> omega) | fail) only [gL_skip, gL_at, sgK_len, List.length_replicate, Nat.reduceSub]
    exact gv4 _ f6
  have rd40 : (rfE a).drop 40 = a.nm ++ (List.replicate (atN a - 40 - a.nm.length) 0 ++ (((encL a.rs).1 ++ [0]) ++ List.replicate (szN a - atN a - (bdy a).length) 0)) := by
    rw [hS]
    simp (disch := first | omega | (simp only [sgK_len, List.length_replicate] <;> omega) | fail) only [drop_skip, drop_at, sgK_len, List.length_replicate, Nat.reduceSub]
  have rda : (rfE a).drop (atN a) = ((encL a.rs).1 ++ [0]) ++ List.replicate (szN a - atN a - (bdy a).length) 0 := by
    have e : (rfE a).drop (atN a) = ((rfE a).drop 40).drop (atN a - 40) := by rw [List.drop_drop]; congr 1; omega
    rw [e, rd40, drop_skip _ _ _ (by omega), drop_skip _ _ _ (by rw [List.length_replicate]; omega), drop_at _ _ (by rw [List.length_replicate]; omega)]
  have g8 : (rfE a).getD 8 0 = 1 := by rw [getD_gL _ _ (by omega), r8]
  have eR : dRes (rfE a) = false := by unfold dRes; rw [g8]; rfl
  have eH : dHd (rfE a) = 40 := by unfold dHd; rw [eR]; rfl
  have eS : dSz (rfE a) = a.nm.length := by unfold dSz; omega
  have eA : dAt (rfE a) = atN a := by unfold dAt; rw [eH, eS]; unfold atN; rw [eh]
  have eN : dNm (rfE a) = a.nm := by unfold dNm; rw [eH, eS, List.drop_take, rd40, show 40 + a.nm.length - 40 = a.nm.length by omega, List.take_left']; rfl
  refine ⟨eR, eA, eS, g8, ?_, rda, hlen, o2, by omega⟩
  unfold dF
  rw [eN, r0, r12, r14, r16, r28, r32, r36]
  cases a
  simp only at hr f1
  subst hr; subst f1
  rfl
/-- the program decodes what is encoded -/
theorem dec1_enc {a : Att} (h : a.Dc) : dec1 (rfE a) = (a, true) := by
  cases hr : a.res with
  | true =>
    obtain ⟨e1, e2, e3, e4, e5, e6, e7, e8, e9⟩ := rd_T h hr
    unfold dec1
    rw [if_neg (by omega), e2, if_neg (by omega), if_pos e1, e4, if_neg (by omega), e6]
  | false =>
    obtain ⟨e1, e2, e3, e4, e5, e6, e7, e8, e9⟩ := rd_F h hr
    have hc := (h.f hr).2.1
    unfold dec1
    rw [if_neg (by omega), e2, if_neg (by omega), if_neg (by rw [e1]; decide), e6, raV_enc, dec_enc hc, e5]
    rfl
/-- the reference decodes what is encoded -/
theorem decR_enc {a : Att} (h : a.Dc) (hl : (rfE a).length ≤ 440) : decRV (rfE a) = fin8 a (rfE a) := by
  unfold decRV
  rw [if_neg (by omega)]
  cases hr : a.res with
  | true =>
    obtain ⟨e1, e2, e3, e4, e5, e6, e7, e8, e9⟩ := rd_T h hr
    have eH : dHd (rfE a) = 24 := by unfold dHd; rw [e1]; rfl
    have nb : ¬ bad8 (rfE a) := by
      unfold bad8
      rw [e5]
      omega
    rw [if_neg nb, eH, e3, if_neg (by omega), e2, if_neg (by omega), if_pos e1, e4, if_neg (by omega), e6]
  | false =>
    obtain ⟨e1, e2, e3, e4, e5, e6, e7, e8, e9⟩ := rd_F h hr
    have hc := (h.f hr).2.1
    have eH : dHd (rfE a) = 40 := by unfold dHd; rw [e1]; rfl
    have nb : ¬ bad8 (rfE a) := by
      unfold bad8
      rw [e4]
      omega
    have hcut : ∀ j, ((rfE a).take (dAt (rfE a) + j)).drop (dAt (rfE a)) = (((encL a.rs).1 ++ [0]) ++ List.replicate (szN a - atN a - (bdy a).length) 0).take j := fun j => by
      rw [List.drop_take, e2, e6]
      congr 1
      omega
    have hfull : (((encL a.rs).1 ++ [0]) ++ List.replicate (szN a - atN a - (bdy a).length) 0).take ((encL a.rs).1.length + 1) = (encL a.rs).1 ++ [0] := List.take_left' (by simp)
    have eJ : fndJ (rfE a) = (encL a.rs).1.length + 1 := by
      unfold fndJ
      refine ix_at (by rw [e2]; omega) ?_ (fun j hj g => ?_)
      · rw [hcut, hfull, dec_enc hc]
      · rw [hcut, List.take_append_of_le_length (by simp; omega)] at g
        exact dec_no hc j hj g
    have eRs : rsR (rfE a) = a.rs := by
      unfold rsR
      rw [eJ, hcut, hfull, dec_enc hc]
    rw [if_neg nb, eH, e3, if_neg (by omega), e2, if_neg (by omega), if_neg (by rw [e1]; decide), eJ, if_neg (by omega), eRs, e5]
/-- both decode alike -/
theorem dec_eq {s : List Int} (hB : Byts s) (hl : s.length ≤ 1000) : decPV s = decRV s := by
  by_cases c0 : s.length > 440
  · unfold decPV decRV
    rw [if_pos c0, if_pos c0]
  by_cases cA : (dec1 s).2 = true ∧ encB (dec1 s).1 = s
  · have hd := dec1_dc hB hl cA.1
    have e1 := enc_eq hd
    have e2 := decR_enc hd (by rw [← e1, cA.2]; omega)
    rw [← e1, cA.2] at e2
    rw [e2]
    unfold decPV fin8
    rw [if_neg c0, if_neg (fun g => g.elim (fun g => by rw [cA.1] at g; cases g) (fun g => g cA.2)), if_neg (show ¬ rfE (dec1 s).1 ≠ s from fun g => g (by rw [← e1]; exact cA.2))]
  · have hP : decPV s = (Att.nil, 3) := by
      unfold decPV
      rw [if_neg c0, if_pos]
      by_cases c1 : (dec1 s).2 = true
      · exact .inr (fun g => cA ⟨c1, g⟩)
      · exact .inl (by simpa using c1)
    have hx : ∀ x : Att, x.Dc → fin8 x s = (Att.nil, 3) := fun x hx => by
      unfold fin8
      rw [if_pos]
      intro g
      have e := dec1_enc hx
      rw [g] at e
      exact cA ⟨by rw [e], by rw [e]; show encB x = s; rw [enc_eq hx, g]⟩
    rw [hP]
    unfold decRV
    rw [if_neg c0]
    split
    · rfl
    · split
      · rfl
      · split
        · rfl
        · split
          · split
            · rfl
            · exact (hx _ (dT_dc hB hl)).symm
          · split
            · rfl
            · rename_i jn
              have hch : (chk (rsR s)).2 = 0 := by
                obtain ⟨j1, j2, j3⟩ := ix_spec (fun j => (decV ((s.take (dAt s + j)).drop (dAt s))).2 = 0) (s.length - dAt s + 1)
                exact decV_chk (j2.elim (fun h => absurd h jn) (fun h => h.2))
              exact (hx _ (dF_dc hB hch)).symm
end
section
set_option maxRecDepth 4000
set_option linter.unusedSimpArgs false
set_option linter.unusedVariables false
variable {G : Glob} {bb : Bool}
set_option maxHeartbeats 8000000 in
theorem decodeAR_v (s : List Int) (hB : Byts s) (hl : s.length ≤ 1000) : EV G (Tb (bs bb)) 38 [sv s] [] = some (rtv (decRV s), []) := by
  refine EV_run rfl ?_
  unfold decRV
  by_cases c0 : s.length > 440
  · rw [if_pos c0]
    have c0' : 440 < (s.length : Int) := by omega
    simp only [Att.nil]
    simp (disch := first | omega | (simp only [List.length_append, List.length_cons, List.length_nil, List.length_map, sgK_len]; omega)) only [go_sem, Nat.reduceAdd, Nat.reduceSub, Nat.reduceMul, Nat.reduceLeDiff, Nat.reduceEqDiff, h38c, eq_true c0', str_nil, List.map_nil]
    rfl
  rw [if_neg c0]
  have c0' : ¬ 440 < (s.length : Int) := by omega
  by_cases c1 : s.length < 24
  · rw [if_pos (.inl c1)]
    have c1' : (s.length : Int) < 24 := by omega
    simp only [Att.nil]
    simp (disch := first | omega | (simp only [List.length_append, List.length_cons, List.length_nil, List.length_map, sgK_len]; omega)) only [go_sem, Nat.reduceAdd, Nat.reduceSub, Nat.reduceMul, Nat.reduceLeDiff, Nat.reduceEqDiff, h38c, c0', eq_true c1', str_nil, List.map_nil]
    rfl
  have c1' : ¬ (s.length : Int) < 24 := by omega
  have hx := hB _ (List.getElem_mem (show 8 < s.length by omega))
  have hu := u8_nat _ hx
  have e8 : s.getD 8 0 = s[8] := getD_at s 8 (by omega)
  have hx9 := hB _ (List.getElem_mem (show 9 < s.length by omega))
  have hu9 := u8_nat _ hx9
  have b9 := gL_bd1 hB 9
  have e9 : s[9] = (dSz s : Int) := by
    have : gL s 9 1 = s[9] := by
      unfold gL
      rw [List.drop_eq_getElem_cons (by omega), List.take_succ_cons, List.take_zero]
      show s[9] + 256 * 0 = s[9]
      omega
    unfold dSz
    omega
  rw [e9] at hu9 hx9
  by_cases c2 : 1 < s[8]
  · rw [if_pos (.inr (.inl (by rw [e8]; exact c2)))]
    simp only [Att.nil]
    simp (disch := first | omega | (simp only [List.length_append, List.length_cons, List.length_nil, List.length_map, sgK_len]; omega)) only [go_sem, Nat.reduceAdd, Nat.reduceSub, Nat.reduceMul, Nat.reduceLeDiff, Nat.reduceEqDiff, h38c, c0', c1', str_nil, List.map_nil, Int.reduceToNat, List.getElem_map, hu, eq_true c2]
    rfl
  by_cases c3 : s[8] = 1 ∧ s.length < 40
  · rw [if_pos (.inr (.inr (by rw [e8]; exact c3)))]
    obtain ⟨c3, c4⟩ := c3
    have c4' : (s.length : Int) < 40 := by omega
    rw [c3] at hu
    simp only [Att.nil]
    simp (disch := first | omega | (simp only [List.length_append, List.length_cons, List.length_nil, List.length_map, sgK_len]; omega)) only [go_sem, Nat.reduceAdd, Nat.reduceSub, Nat.reduceMul, Nat.reduceLeDiff, Nat.reduceEqDiff, h38c, c0', c1', str_nil, List.map_nil, Int.reduceToNat, List.getElem_map, hu, c3, eq_true c4', Int.lt_irrefl]
    rfl
  have nb : ¬ bad8 s := by
    intro h
    rcases h with h | h | h
    · exact c1 h
    · rw [e8] at h; exact c2 h
    · rw [e8] at h; exact c3 h
  rw [if_neg nb]
  have g0 : EV G (Tb (bs bb)) 94 [sv s, vi 0, vi 4] [] = some (vi (gL s 0 4), []) := little_at s hB 0 4 (by omega) (by omega) (by omega)
  have g14 : EV G (Tb (bs bb)) 94 [sv s, vi 14, vi 2] [] = some (vi (gL s 14 2), []) := little_at s hB 14 2 (by omega) (by omega) (by omega)
  have g12 : EV G (Tb (bs bb)) 94 [sv s, vi 12, vi 2] [] = some (vi (gL s 12 2), []) := little_at s hB 12 2 (by omega) (by omega) (by omega)
  have g16 : EV G (Tb (bs bb)) 94 [sv s, vi 16, vi 4] [] = some (vi (gL s 16 4), []) := little_at s hB 16 4 (by omega) (by omega) (by omega)
  have b16 := gL_bd hB 16 4 (by omega)
  cases hr : dRes s with
  | true =>
    have hr8 : s[8] = 0 := by unfold dRes at hr; rw [e8] at hr; simpa using hr
    rw [hr8] at hu
    have eh : dHd s = 24 := by unfold dHd; rw [hr]; rfl
    have e16 : gL s 16 4 = (dVl s : Int) := by unfold dVl; omega
    have eA : dAt s = (24 + dSz s + 7) / 8 * 8 := by unfold dAt; rw [eh]
    have q1 := ceil8_v (G := G) (bb := bb) (24 + dSz s) (by omega)
    rw [Int.natCast_add, show ((24 : Nat) : Int) = 24 from rfl] at q1
    have eA' : (8 : Int) * (((24 + dSz s + 7) / 8 : Nat) : Int) = ((dAt s : Nat) : Int) := by omega
    rw [eh]
    rw [e16] at g16 b16
    by_cases d1 : s.length < 24 + dSz s
    · rw [if_pos d1]
      have d1' : (s.length : Int) < 24 + (dSz s : Int) := by omega
      simp only [Att.nil]
      simp (disch := first | omega | (simp only [List.length_append, List.length_cons, List.length_nil, List.length_map, sgK_len]; omega)) only [go_sem, Nat.reduceAdd, Nat.reduceSub, Nat.reduceMul, Nat.reduceLeDiff, Nat.reduceEqDiff, h38c, c0', c1', str_nil, List.map_nil, Int.reduceToNat, List.getElem_map, hu, hr8, e9, hu9, g0, g14, g12, eq_true d1', Int.reduceLT]
      rfl
    rw [if_neg d1]
    have d1' : ¬ (s.length : Int) < 24 + (dSz s : Int) := by omega
    have eT : (24 + (dSz s : Int)).toNat = 24 + dSz s := by omega
    by_cases d2 : s.length < dAt s
    · rw [if_pos d2]
      have d2' : (s.length : Int) < (dAt s : Int) := by omega
      simp only [Att.nil]
      simp (disch := first | omega | (simp only [List.length_append, List.length_cons, List.length_nil, List.length_map, sgK_len]; omega)) only [go_sem, Nat.reduceAdd, Nat.reduceSub, Nat.reduceMul, Nat.reduceLeDiff, Nat.reduceEqDiff, h38c, c0', c1', str_nil, List.map_nil, Int.reduceToNat, List.getElem_map, hu, hr8, e9, hu9, g0, g14, g12, d1', Int.reduceLT, q1, eA', eq_true d2', eT]
      rfl
    rw [if_neg d2]
    have d2' : ¬ (s.length : Int) < (dAt s : Int) := by omega
    rw [if_pos rfl]
    by_cases d3 : s.length < dAt s + dVl s
    · rw [if_pos d3]
      have d3' : (s.length : Int) < (dAt s : Int) + (dVl s : Int) := by omega
      simp only [Att.nil]
      simp (disch := first | omega | (simp only [List.length_append, List.length_cons, List.length_nil, List.length_map, sgK_len]; omega)) only [go_sem, Nat.reduceAdd, Nat.reduceSub, Nat.reduceMul, Nat.reduceLeDiff, Nat.reduceEqDiff, h38c, c0', c1', str_nil, List.map_nil, Int.reduceToNat, List.getElem_map, hu, hr8, e9, hu9, g0, g14, g12, d1', Int.reduceLT, q1, eA', d2', eT, g16, eq_true d3']
      rfl
    rw [if_neg d3]
    have d3' : ¬ (s.length : Int) < (dAt s : Int) + (dVl s : Int) := by omega
    have hdc := dT_dc hB hl
    have q2 := encD_v (G := G) (bb := bb) (dT s) hdc
    have q3 := errR_v (G := G) (bb := bb) (dT s) hdc.w
    have eS := str_inj (rfE_byts hdc) hB
    unfold fin8
    generalize rfE (dT s) = R at q2 eS ⊢
    generalize errA (dT s) = E at q3 ⊢
    simp only [dT, dNm, eh, Att.v, Att.c, List.map_nil] at q2 q3
    by_cases d4 : R = s
    · rw [if_neg (fun h => h d4)]
      rw [eq_true d4] at eS
      by_cases d5 : E = 0
      · rw [if_neg (fun h => h d5)]
        simp (disch := first | omega | (simp only [List.length_append, List.length_cons, List.length_nil, List.length_map, sgK_len]; omega)) only [go_sem, Nat.reduceAdd, Nat.reduceSub, Nat.reduceMul, Nat.reduceLeDiff, Nat.reduceEqDiff, h38c, c0', c1', str_nil, List.map_nil, Int.reduceToNat, List.getElem_map, hu, hr8, e9, hu9, g0, g14, g12, d1', Int.reduceLT, q1, eA', d2', eT, g16, d3', q2, eS, q3, d5]
        unfold dT dNm
        rw [eh]
        rfl
      · rw [if_pos d5]
        simp only [Att.nil]
        simp (disch := first | omega | (simp only [List.length_append, List.length_cons, List.length_nil, List.length_map, sgK_len]; omega)) only [go_sem, Nat.reduceAdd, Nat.reduceSub, Nat.reduceMul, Nat.reduceLeDiff, Nat.reduceEqDiff, h38c, c0', c1', str_nil, List.map_nil, Int.reduceToNat, List.getElem_map, hu, hr8, e9, hu9, g0, g14, g12, d1', Int.reduceLT, q1, eA', d2', eT, g16, d3', q2, eS, q3, d5]
        rfl
    · rw [if_pos d4]
      rw [eq_false d4] at eS
      simp only [Att.nil]
      simp (disch := first | omega | (simp only [List.length_append, List.length_cons, List.length_nil, List.length_map, sgK_len]; omega)) only [go_sem, Nat.reduceAdd, Nat.reduceSub, Nat.reduceMul, Nat.reduceLeDiff, Nat.reduceEqDiff, h38c, c0', c1', str_nil, List.map_nil, Int.reduceToNat, List.getElem_map, hu, hr8, e9, hu9, g0, g14, g12, d1', Int.reduceLT, q1, eA', d2', eT, g16, d3', q2, eS]
      rfl
  | false =>
    have hr8' : ¬ s[8] = 0 := by unfold dRes at hr; rw [e8] at hr; simpa using hr
    have hr8 : s[8] = 1 := by omega
    have h40 : ¬ s.length < 40 := fun h => c3 ⟨hr8, h⟩
    have h40' : ¬ (s.length : Int) < 40 := by omega
    rw [hr8] at hu
    have eh : dHd s = 40 := by unfold dHd; rw [hr]; rfl
    have eA : dAt s = (40 + dSz s + 7) / 8 * 8 := by unfold dAt; rw [eh]
    have q1 := ceil8_v (G := G) (bb := bb) (40 + dSz s) (by omega)
    rw [Int.natCast_add, show ((40 : Nat) : Int) = 40 from rfl] at q1
    have eA' : (8 : Int) * (((40 + dSz s + 7) / 8 : Nat) : Int) = ((dAt s : Nat) : Int) := by omega
    rw [eh]
    by_cases d1 : s.length < 40 + dSz s
    · rw [if_pos d1]
      have d1' : (s.length : Int) < 40 + (dSz s : Int) := by omega
      simp only [Att.nil]
      simp (disch := first | omega | (simp only [List.length_append, List.length_cons, List.length_nil, List.length_map, sgK_len]; omega)) only [go_sem, Nat.reduceAdd, Nat.reduceSub, Nat.reduceMul, Nat.reduceLeDiff, Nat.reduceEqDiff, h38c, c0', c1', str_nil, List.map_nil, Int.reduceToNat, List.getElem_map, hu, hr8, e9, hu9, g0, g14, g12, h40', eq_true d1', Int.reduceLT]
      rfl
    rw [if_neg d1]
    have d1' : ¬ (s.length : Int) < 40 + (dSz s : Int) := by omega
    have eT : (40 + (dSz s : Int)).toNat = 40 + dSz s := by omega
    by_cases d2 : s.length < dAt s
    · rw [if_pos d2]
      have d2' : (s.length : Int) < (dAt s : Int) := by omega
      simp only [Att.nil]
      simp (disch := first | omega | (simp only [List.length_append, List.length_cons, List.length_nil, List.length_map, sgK_len]; omega)) only [go_sem, Nat.reduceAdd, Nat.reduceSub, Nat.reduceMul, Nat.reduceLeDiff, Nat.reduceEqDiff, h38c, c0', c1', str_nil, List.map_nil, Int.reduceToNat, List.getElem_map, hu, hr8, e9, hu9, g0, g14, g12, h40', d1', Int.reduceLT, q1, eA', eq_true d2', eT]
      rfl
    rw [if_neg d2]
    have d2' : ¬ (s.length : Int) < (dAt s : Int) := by omega
    rw [if_neg (by decide)]
    have g28 : EV G (Tb (bs bb)) 94 [sv s, vi 28, vi 4] [] = some (vi (gL s 28 4), []) := little_at s hB 28 4 (by omega) (by omega) (by omega)
    have g32 : EV G (Tb (bs bb)) 94 [sv s, vi 32, vi 4] [] = some (vi (gL s 32 4), []) := little_at s hB 32 4 (by omega) (by omega) (by omega)
    have g36 : EV G (Tb (bs bb)) 94 [sv s, vi 36, vi 4] [] = some (vi (gL s 36 4), []) := little_at s hB 36 4 (by omega) (by omega) (by omega)
    simp (disch := first | omega | (simp only [List.length_append, List.length_cons, List.length_nil, List.length_map, sgK_len]; omega)) only [go_sem, Nat.reduceAdd, Nat.reduceSub, Nat.reduceMul, Nat.reduceLeDiff, Nat.reduceEqDiff, h38c, c0', c1', str_nil, List.map_nil, Int.reduceToNat, List.getElem_map, hu, hr8, e9, hu9, g0, g14, g12, h40', d1', Int.reduceLT, q1, eA', d2', eT, g16, g28, g32, g36]
    by_cases jn : fndJ s = s.length - dAt s + 1
    · rw [if_pos jn, loopN hB hl d2 jn ?_]
      rotate_left
      · unfold dFc dNm
        rw [eh]
        simp only [Int.natCast_zero, Int.add_zero]
        rfl
      have c : ¬ (dAt s : Int) + ((s.length - dAt s + 1 : Nat) : Int) ≤ (s.length : Int) := by omega
      generalize ((s.length - dAt s + 1 : Nat) : Int) = w at c
      simp only [Att.nil]
      simp (disch := first | omega | (simp only [List.length_append, List.length_cons, List.length_nil, List.length_map, sgK_len]; omega)) only [go_sem, Nat.reduceAdd, Nat.reduceSub, Nat.reduceMul, Nat.reduceLeDiff, Nat.reduceEqDiff, h38l0, c]
      rfl
    · rw [if_neg jn, loopY hB hl d2 jn ?_]
      rotate_left
      · unfold dFc dNm
        rw [eh]
        simp only [Int.natCast_zero, Int.add_zero]
        rfl
      have hch : (chk (rsR s)).2 = 0 := by
        obtain ⟨j1, j2, j3⟩ := ix_spec (fun j => (decV ((s.take (dAt s + j)).drop (dAt s))).2 = 0) (s.length - dAt s + 1)
        exact decV_chk (j2.elim (fun h => absurd h jn) (fun h => h.2))
      have hdc := dF_dc hB hch
      have q2 := encD_v (G := G) (bb := bb) (dF s (rsR s)) hdc
      have q3 := errR_v (G := G) (bb := bb) (dF s (rsR s)) hdc.w
      have eS := str_inj (rfE_byts hdc) hB
      unfold fin8
      generalize rfE (dF s (rsR s)) = R at q2 eS ⊢
      generalize errA (dF s (rsR s)) = E at q3 ⊢
      generalize ((fndJ s + 1 : Nat) : Int) = w
      simp only [dF, Att.v, Att.c] at q2 q3
      unfold dFc
      have cw : ∀ b : Bool, (b && false) = false := fun b => by cases b <;> rfl
      by_cases cl : (dAt s : Int) + w ≤ (s.length : Int)
      all_goals
        by_cases d4 : R = s
        · rw [if_neg (fun h => h d4)]
          rw [eq_true d4] at eS
          by_cases d5 : E = 0
          · rw [if_neg (fun h => h d5)]
            first
              | (simp (disch := first | omega | (simp only [List.length_append, List.length_cons, List.length_nil, List.length_map, sgK_len]; omega)) only [go_sem, Nat.reduceAdd, Nat.reduceSub, Nat.reduceMul, Nat.reduceLeDiff, Nat.reduceEqDiff, h38l0, eq_true cl, q2, eS, q3, d5]; rfl)
              | (simp (disch := first | omega | (simp only [List.length_append, List.length_cons, List.length_nil, List.length_map, sgK_len]; omega)) only [go_sem, Nat.reduceAdd, Nat.reduceSub, Nat.reduceMul, Nat.reduceLeDiff, Nat.reduceEqDiff, h38l0, cl, q2, eS, q3, d5]; rfl)
          · rw [if_pos d5]
            simp only [Att.nil]
            first
              | (simp (disch := first | omega | (simp only [List.length_append, List.length_cons, List.length_nil, List.length_map, sgK_len]; omega)) only [go_sem, Nat.reduceAdd, Nat.reduceSub, Nat.reduceMul, Nat.reduceLeDiff, Nat.reduceEqDiff, h38l0, eq_true cl, q2, eS, q3, d5]; rfl)
              | (simp (disch := first | omega | (simp only [List.length_append, List.length_cons, List.length_nil, List.length_map, sgK_len]; omega)) only [go_sem, Nat.reduceAdd, Nat.reduceSub, Nat.reduceMul, Nat.reduceLeDiff, Nat.reduceEqDiff, h38l0, cl, q2, eS, q3, d5]; rfl)
        · rw [if_pos d4]
          rw [eq_false d4] at eS
          simp only [Att.nil]
          first
            | (simp (disch := first | omega | (simp only [List.length_append, List.length_cons, List.length_nil, List.length_map, sgK_len]; omega)) only [go_sem, Nat.reduceAdd, Nat.reduceSub, Nat.reduceMul, Nat.reduceLeDiff, Nat.reduceEqDiff, h38l0, eq_true cl, q2, eS]; rfl)
            | (simp (disch := first | omega | (simp only [List.length_append, List.length_cons, List.length_nil, List.length_map, sgK_len]; omega)) only [go_sem, Nat.reduceAdd, Nat.reduceSub, Nat.reduceMul, Nat.reduceLeDiff, Nat.reduceEqDiff, h38l0, cl, q2, eS]; rfl)
end
section
set_option maxRecDepth 4000
set_option linter.unusedSimpArgs false
set_option linter.unusedVariables false
variable {G : Glob} {B : CallT}
theorem all_ints (l : List Int) : allLen 1 (l.map ci1) = true := allLen_map (f := ci1) (fun _ => rfl) l
attribute [go_sem] all_ints
theorem frz_bx (id : Nat) (es : List (List DC)) (U : List Bool) : (U.map bC).map (frzC id es) = U.map bC := by
  induction U with
  | nil => rfl
  | cons b U ih => rw [List.map_cons, List.map_cons, ih]; rfl
attribute [go_sem] frz_bx
end
section
set_option maxRecDepth 4000
set_option linter.unusedSimpArgs false
set_option linter.unusedVariables false
variable {G : Glob} {B : CallT}
end
end Go.Proofs.YtmognenhkecngaaGreatDoor
