/- The attribute that has some parts, by the reference. Conditions: none. -/
import Derived.Test.YtmognenhkecngaaGreatDoorUt
import Derived.Test.YtmognenhkecngaaGreatDoorLy
import Derived.KernelRfl
import Derived.Test.YtmognenhkecngaaGreatDoorVj
namespace Go.Proofs.YtmognenhkecngaaGreatDoor
section
set_option maxRecDepth 4000
set_option linter.unusedSimpArgs false
set_option linter.unusedVariables false
variable {G : Glob} {bb : Bool}
def allK (l : List Att) (k : Nat) : List Run := ((l.take k).map fun a => a.rs).flatten
theorem allK_succ (l : List Att) (k : Nat) (hk : k < l.length) : allK l (k + 1) = allK l k ++ l[k].rs := by
  unfold allK
  rw [List.take_succ_eq_append_getElem hk, List.map_append, List.flatten_append]
  simp
noncomputable def wholeRV (l : List Att) : Att × Int :=
  if l = [] then (Att.nil, 17) else if l.length > 32 then (Att.nil, 8) else
  if ix (fun k => whE l k ≠ 0) l.length < l.length then (Att.nil, whE l (ix (fun k => whE l k ≠ 0) l.length)) else
  if ix (fun k => resE (allK l (k + 1)) ≠ 0) l.length < l.length then (Att.nil, resE (allK l (ix (fun k => resE (allK l (k + 1)) ≠ 0) l.length + 1))) else resA (setRs (l.headD Att.nil) (addL [] (allK l l.length)))
theorem ix_eq {p : Nat → Prop} {n m : Nat} (hm : m < n) (h1 : p m) (h2 : ∀ j, j < m → ¬ p j) : ix p n = m := by
  obtain ⟨g1, g2, g3⟩ := ix_spec p n
  rcases Nat.lt_trichotomy (ix p n) m with h | h | h
  · rcases g2 with g2 | ⟨_, g2⟩
    · omega
    · exact absurd g2 (h2 _ h)
  · exact h
  · exact absurd h1 (g3 _ h)
theorem len_le {X : List Run} (h : ∀ r ∈ X, 1 ≤ r.n) : (X.length : Int) ≤ lenR X := by
  induction X with
  | nil => simp [lenR]
  | cons r X ih =>
    have h1 := h r List.mem_cons_self
    have h2 := ih (fun q hq => h q (List.mem_cons_of_mem _ hq))
    simp only [lenR, List.map_cons, List.sum_cons, List.length_cons] at h2 ⊢
    omega
theorem fine_of {X : List Run} (hv : ∀ r ∈ X, rangeE r.s r.n = 0) (hs : lenR X ≤ 1000000) (hl : X.length ≤ 100000) : Fine X := by
  have h1 := rE_vol hv
  refine ⟨fun r hr => ?_, by omega, hl⟩
  obtain ⟨v, a, b, c⟩ := h1 r hr
  rcases v with v | v <;> omega
/-- what is known of the runs of the first parts -/
structure AK (l : List Att) (k : Nat) : Prop where
  rg : ∀ r ∈ allK l k, rangeE r.s r.n = 0
  sm : lenR (allK l k) ≤ 4096
theorem AK.len {l : List Att} {k : Nat} (h : AK l k) : (allK l k).length ≤ 4096 := by
  have := len_le (X := allK l k) (fun r hr => (rE_vol h.rg r hr).2.1)
  have := h.sm
  omega
theorem resE_0 {X : List Run} (h : resE X = 0) : lenR X ≤ 4096 := by
  unfold resE at h
  split at h
  · exact absurd h (by decide)
  · split at h
    · exact absurd h (by decide)
    · rename_i h1; omega
theorem ak_next {l : List Att} {k : Nat} (hk : k < l.length) (hc : (chk l[k].rs).2 = 0) (h : AK l k) : (∀ r ∈ allK l (k + 1), rangeE r.s r.n = 0) ∧ Fine (allK l (k + 1)) := by
  have hn := lenC hc
  have hl := chk_len hc
  have h1 : ∀ r ∈ allK l (k + 1), rangeE r.s r.n = 0 := by
    rw [allK_succ l k hk]
    intro r hr
    rcases List.mem_append.1 hr with hr | hr
    · exact h.rg r hr
    · exact chk_rg hc r hr
  refine ⟨h1, fine_of h1 ?_ ?_⟩
  · rw [allK_succ l k hk, lenR_app]
    have := h.sm
    omega
  · rw [allK_succ l k hk, List.length_append]
    have := h.len
    omega
theorem ak_all {l : List Att} (hc : ∀ a ∈ l, (chk a.rs).2 = 0) : ∀ k, k ≤ l.length → (∀ j, j < k → resE (allK l (j + 1)) = 0) → AK l k
  | 0, _, _ => ⟨by simp [allK], by simp [allK, lenR]⟩
  | k + 1, hk, h => by
    have ih := ak_all hc k (by omega) (fun j hj => h j (by omega))
    exact ⟨(ak_next (by omega) (hc _ (List.getElem_mem (by omega))) ih).1, resE_0 (h k (by omega))⟩
theorem joined_add {X b : List Run} (hv : ∀ r ∈ X, rangeE r.s r.n = 0) (hF : Fine X) (hX : resE X = 0) (hb : (chk b).2 = 0) (hs : X.length ≤ 90000) : joinedV (addL [] X) b = if resE (X ++ b) = 0 then (addL [] (X ++ b), 0) else ([], resE (X ++ b)) := by
  have h1 := rE_vol hv
  have hp : ∀ q ∈ X, Pos q := fun q hq => ⟨(h1 q hq).2.1, (h1 q hq).2.2.1⟩
  have hV : ∀ r ∈ addL [] X, Vol r := addL_vol (by simp) (fun q hq => (h1 q hq).1)
  have e1 : resE (addL [] X) = 0 := by rw [← done_eq hV hF.add (addL_idem hp), done_res hv hF]; exact hX
  have hc : (chk (addL [] X)).2 = 0 := chk_of hV (addL_pos (by simp) hp) (addL_nj trivial) e1
  have e2 : addL [] ([addL [] X, b].flatten) = addL [] (X ++ b) := by
    rw [show [addL [] X, b].flatten = addL [] X ++ b by simp, addL_app, addL_idem hp, ← addL_app]
  have hr : ∀ r ∈ X ++ b, rangeE r.s r.n = 0 := fun r hr => by
    rcases List.mem_append.1 hr with hr | hr
    · exact hv r hr
    · exact chk_rg hb r hr
  have hn := lenC hb
  have hl := chk_len hb
  have hFf : Fine (X ++ b) := fine_of hr (by rw [lenR_app]; have := resE_0 hX; omega) (by rw [List.length_append]; omega)
  have e3 : errsE [addL [] X, b] = 0 := by
    unfold errsE
    simp only [List.map_cons, List.map_nil]
    rw [hc, hb]; rfl
  unfold joinedV
  rw [if_neg (fun h => h e3)]
  unfold madeV
  rw [e2, done_res hr hFf]
theorem own_all {l : List Att} (hc : ∀ a ∈ l, (chk a.rs).2 = 0) (h0 : 0 < l.length) : ∀ k, k < l.length → (∀ j, j ≤ k → resE (allK l (j + 1)) = 0) → ownK l k = addL [] (allK l (k + 1))
  | 0, hk, _ => by
    have hh : l.headD Att.nil = l[0] := by
      match l, h0 with
      | a :: l, _ => rfl
    rw [ownK, hh, allK_succ l 0 hk]
    simp only [allK, List.take_zero, List.map_nil, List.flatten_nil, List.nil_append]
    exact (chk_id (hc _ (List.getElem_mem hk))).symm
  | k + 1, hk, h => by
    have ih := own_all hc h0 k (by omega) (fun j hj => h j (by omega))
    have hA := ak_all hc (k + 1) (by omega) (fun j hj => h j (by omega))
    have hl := hA.len
    rw [ownK, ih, getDA l (k + 1) hk, joined_add hA.rg (fine_of hA.rg (by have := hA.sm; omega) (by omega)) (h k (by omega)) (hc _ (List.getElem_mem hk)) (by omega), ← allK_succ l (k + 1) hk, if_pos (h (k + 1) (Nat.le_refl _))]
theorem jn_all {l : List Att} (hc : ∀ a ∈ l, (chk a.rs).2 = 0) (h0 : 0 < l.length) (k : Nat) (hk : k + 1 < l.length) (h : ∀ j, j ≤ k → resE (allK l (j + 1)) = 0) : jnE l k = resE (allK l (k + 2)) := by
  have hA := ak_all hc (k + 1) (by omega) (fun j hj => h j (by omega))
  have hl := hA.len
  rw [jnE, own_all hc h0 k (by omega) h, getDA l (k + 1) hk, joined_add hA.rg (fine_of hA.rg (by have := hA.sm; omega) (by omega)) (h k (Nat.le_refl _)) (hc _ (List.getElem_mem hk)) (by omega), ← allK_succ l (k + 1) hk]
  by_cases c : resE (allK l (k + 1 + 1)) = 0
  · rw [if_pos c]; exact c.symm
  · rw [if_neg c]
theorem whole_eq (l : List Att) : wholeV l = wholeRV l := by
  unfold wholeV wholeRV
  by_cases c0 : l = []
  · rw [if_pos c0, if_pos c0]
  rw [if_neg c0, if_neg c0]
  by_cases c1 : l.length > 32
  · rw [if_pos c1, if_pos c1]
  rw [if_neg c1, if_neg c1]
  by_cases c2 : ix (fun k => whE l k ≠ 0) l.length < l.length
  · rw [if_pos c2, if_pos c2]
  rw [if_neg c2, if_neg c2]
  have h0 : 0 < l.length := List.length_pos_iff.2 c0
  have hc : ∀ a ∈ l, (chk a.rs).2 = 0 := by
    intro a ha
    obtain ⟨k, hk, rfl⟩ := List.getElem_of_mem ha
    obtain ⟨g1, _, g3⟩ := ix_spec (fun k => whE l k ≠ 0) l.length
    have h1 := whS_0 (Classical.not_not.1 (g3 k (by omega)))
    rw [getDA l k hk] at h1
    exact (res_bd h1.1 h1.2.1).1
  have hz : resE (allK l 1) = 0 := by
    rw [allK_succ l 0 h0]
    simp only [allK, List.take_zero, List.map_nil, List.flatten_nil, List.nil_append]
    exact chk_res (hc _ (List.getElem_mem h0))
  obtain ⟨g1, g2, g3⟩ := ix_spec (fun k => resE (allK l (k + 1)) ≠ 0) l.length
  generalize ix (fun k => resE (allK l (k + 1)) ≠ 0) l.length = r at *
  have hr : ∀ j, j < r → resE (allK l (j + 1)) = 0 := fun j hj => Classical.not_not.1 (g3 j hj)
  rcases g2 with g2 | ⟨g2, g4⟩
  · subst g2
    have e : ix (fun k => jnE l k ≠ 0) (l.length - 1) = l.length - 1 := ix_all (fun k hk g => by
      apply g
      rw [jn_all hc h0 k (by omega) (fun j hj => hr j (by omega))]
      exact hr (k + 1) (by omega))
    rw [e, if_neg (by omega), if_neg (by omega)]
    unfold outW
    rw [own_all hc h0 (l.length - 1) (by omega) (fun j hj => hr j (by omega)), show l.length - 1 + 1 = l.length by omega]
  · have hr0 : r ≠ 0 := by
      rintro rfl
      exact g4 hz
    have e1 : jnE l (r - 1) = resE (allK l (r + 1)) := by
      rw [jn_all hc h0 (r - 1) (by omega) (fun j hj => hr j (by omega)), show r - 1 + 2 = r + 1 by omega]
    have e : ix (fun k => jnE l k ≠ 0) (l.length - 1) = r - 1 := ix_eq (by omega) (by rw [e1]; exact g4) (fun k hk g => by
      apply g
      rw [jn_all hc h0 k (by omega) (fun j hj => hr j (by omega))]
      exact hr (k + 1) (by omega))
    rw [e, if_pos (by omega), if_pos g2, e1]
end
section
set_option maxRecDepth 4000
set_option linter.unusedSimpArgs false
set_option linter.unusedVariables false
variable {G : Glob} {bb : Bool}
def tbl8 : Tbl := fun f => match Tbt f with
  | some h => some (h.code.er, h.rs, h.nt)
  | none => none
theorem tbl8_ok : TOK Tryz.prog tbl8 := by
  intro f c rs nt h
  unfold tbl8 at h
  split at h
  · rename_i x hx
    injection h with h; injection h with h1 h; injection h with h2 h3; subst h1; subst h2; subst h3
    exact Tb_ok (fun _ _ _ => none) f x hx
  · cases h
def tab64 : List Int := [0, 1, 56, 2, 57, 49, 28, 3, 61, 58, 42, 50, 38, 29, 17, 4, 62, 47, 59, 36, 45, 43, 51, 22, 53, 39, 33, 30, 24, 18, 12, 5, 63, 55, 48, 27, 60, 41, 37, 16, 46, 35, 44, 21, 52, 32, 23, 11, 54, 26, 40, 15, 34, 20, 31, 10, 25, 14, 19, 9, 13, 8, 7, 6]
def G8 : Glob := fun g => if g = 5 then some (tab64.map fun n => .raw (.int .u8 n)) else none
/-- what the examples call -/
noncomputable def bsW (G : Glob) : CallT := fun f args hp =>
  if f = 54 ∨ f = 45 then (if hp.isEmpty then (quietCall (callF tbl8 (evC G tbl8 3000)) f args).map fun v => (v, []) else none) else EV G (Tb (bs false)) f args hp
theorem bsW_ok {G : Glob} : CallOK Tryz.prog G (bsW G) := by
  intro f args hp av o' h hp0 hh
  unfold bsW at h
  split at h
  · rename_i hf
    split at h
    · rename_i he
      obtain ⟨v, h1, h2⟩ := Option.map_eq_some_iff.1 h
      injection h2 with h2 h3
      subst h2; subst h3
      have hnil : hp0 = [] := by
        rw [← hh] at he
        simpa using he
      subst hnil
      have hq := QC.run tbl8_ok 3000 h1
      refine ⟨?_, hq.gh (fun a o ⟨h1, h2⟩ _ => ⟨a, o, Gh.refl, Nat.zero_le _, h1, by rw [h2]; rfl⟩)⟩
      rcases hf with rfl | rfl
      · kernel_rfl
      · kernel_rfl
    · cases h
  · obtain ⟨n, hn⟩ := lim_some h
    exact callN_ok (Tb_ok (bs false)) (bs_ok (fun h => by cases h)) n f args hp av o' hn hp0 hh
def tbW : FuncId → Option HF := fun f => if f = 11 then some h11 else none
noncomputable def T2 (G : Glob) : HT := ⟨tbW, bsW G⟩
theorem T2_ok {G : Glob} : HTOK Tryz.prog (T2 G) := by
  intro f h hf
  change tbW f = some h at hf
  unfold tbW at hf
  split at hf
  · rename_i e
    subst e
    injection hf with hf; subst hf; exact ⟨by kernel_rfl, _, Tryz.func11, Tryz.ntmps11, h11_ok, r11_ok⟩
  · cases hf
theorem t2 {f : FuncId} {args : List AV} {hp : List AObj} {r : AV × List AObj} (h : EV G (Tb (bs false)) f args hp = some r) (h1 : f ≠ 11 := by decide) (h2 : ¬(f = 54 ∨ f = 45) := by decide) : EV G (T2 G) f args hp = some r :=
  EV_base (by show tbW f = none; exact if_neg h1) (by show bsW G f args hp = some r; unfold bsW; rw [if_neg h2]; exact h)
theorem t2q {f : FuncId} {args : List AV} {v : AV} (h2 : f = 54 ∨ f = 45) (h : quietCall (callF tbl8 (evC G tbl8 3000)) f args = some v) : EV G (T2 G) f args [] = some (v, []) :=
  EV_base (by show tbW f = none; rcases h2 with rfl | rfl <;> rfl) (by show bsW G f args [] = some _; unfold bsW; rw [if_pos h2]; simp [h])
theorem f1_q : EV G8 (T2 G8) 54 [runsV [⟨5, 1⟩]] [] = some (sv [53, 43, 49], []) := t2q (.inl rfl) (by kernel_rfl)
theorem f2_q : EV G8 (T2 G8) 54 [runsV [⟨6, 3⟩]] [] = some (sv [54, 43, 51], []) := t2q (.inl rfl) (by kernel_rfl)
theorem k_q : EV G8 (T2 G8) 45 [.agg [.dc (ci 128), .dc (.raw (.string (str [115]))), .dc (ci 1)]] [] = some (sv [56, 48, 58, 115, 58, 49], []) := t2q (.inr rfl) (by kernel_rfl)
theorem key_v (a : Att) : EV G (Tb (bs bb)) 44 [a.v] [] = some (.agg [.dc (ci a.ty), .dc (.raw (.string (str a.nm))), .dc (ci a.fi)], []) := by
  refine EV_run rfl ?_
  simp (disch := omega) only [go_sem, Nat.reduceAdd, Nat.reduceSub, Nat.reduceMul, Nat.reduceLeDiff, Nat.reduceEqDiff, h44c, str_nil]
def o1 : Att := ⟨128, [], 2, 0, false, [], 0, [⟨9, 1⟩], 256, 3, 3⟩
def s1 : Att := ⟨128, [115], 3, 0, false, [], 0, [⟨5, 1⟩], 1024, 1000, 900⟩
def s2 : Att := ⟨128, [115], 3, 0, false, [], 1, [⟨6, 3⟩], 0, 0, 0⟩
def ty16 : Att := ⟨16, [], 0, 0, false, [], 0, [], 0, 0, 0⟩
theorem abcW : abcA.W := ⟨byts_c _ (by decide), byts_c _ (by decide), by decide, by decide, by decide⟩
theorem strW : strA.W := ⟨byts_c _ (by decide), byts_c _ (by decide), by decide, by decide, by decide⟩
theorem o1W : o1.W := ⟨byts_c _ (by decide), byts_c _ (by decide), by decide, by decide, by decide⟩
theorem tyW : ty16.W := ⟨byts_c _ (by decide), byts_c _ (by decide), by decide, by decide, by decide⟩
theorem x1 : encA abcA = [128, 0, 0, 0, 32, 0, 0, 0, 0, 0, 24, 0, 0, 0, 2, 0, 3, 0, 0, 0, 24, 0, 0, 0, 97, 98, 99, 0, 0, 0, 0, 0] := by kernel_rfl
theorem x2 : errA abcA = 0 := by kernel_rfl
theorem x3 : movOV abcA [⟨9, 1⟩] = (o1, 0) := by kernel_rfl
theorem x4 : ((encA o1).length : Int) = 48 := by kernel_rfl
theorem x5 : errA o1 = 0 := by kernel_rfl
theorem x6 : splV strA 1 = (s1, s2, 0) := by kernel_rfl
theorem x7 : errA ty16 = 20 := by kernel_rfl
theorem y1 : ((str [128, 0, 0, 0, 32, 0, 0, 0, 0, 0, 24, 0, 0, 0, 2, 0, 3, 0, 0, 0, 24, 0, 0, 0, 97, 98, 99, 0, 0, 0, 0, 0]) = (⟨#[128, 0, 0, 0, 32, 0, 0, 0, 0, 0, 24, 0, 0, 0, 2, 0, 3, 0, 0, 0, 24, 0, 0, 0, 97, 98, 99, 0, 0, 0, 0, 0]⟩ : ByteArray)) = True := eq_true (by kernel_rfl)
theorem y2 : ((str [53, 43, 49]) = (⟨#[53, 43, 49]⟩ : ByteArray)) = True := eq_true (by kernel_rfl)
theorem y3 : ((str [54, 43, 51]) = (⟨#[54, 43, 51]⟩ : ByteArray)) = True := eq_true (by kernel_rfl)
theorem y4 : ((str [56, 48, 58, 115, 58, 49]) = (⟨#[56, 48, 58, 115, 58, 49]⟩ : ByteArray)) = True := eq_true (by kernel_rfl)
theorem awake_e : EV G8 (T2 G8) 11 [] [] = some (vb true, []) := by
  have h52 := t2 (abc_v (G := G8) (bb := false))
  have h35 := t2 (encodeA_v (G := G8) (bb := false) abcA abcW)
  have h13 := t2 (movedOut_v (G := G8) (bb := false) abcA abcW [⟨9, 1⟩] (by decide))
  have h36 := t2 (bytesOf_v (G := G8) (bb := false) o1 o1W)
  have h53 := t2 (stream_v (G := G8) (bb := false))
  have h22 := t2 (split_v (G := G8) (bb := false) strA strW 1)
  have h44 := t2 (key_v (G := G8) (bb := false) s2)
  have h34 := t2 (checkA_v (G := G8) (bb := false) ty16 tyW)
  have h54 := f1_q
  have h55 := f2_q
  have h45 := k_q
  rw [x1, x2] at h35
  rw [x3] at h13
  rw [x4, x5] at h36
  rw [x6] at h22
  rw [x7] at h34
  simp only [runsV, rtv, spv, Att.v, Att.c, Att.t, abcA, strA, o1, s1, s2, ty16, List.map_cons, List.map_nil, Run.e] at h52 h35 h13 h36 h53 h22 h44 h34 h54 h55
  refine EV_run (h := h11) rfl ?_
  simp (disch := omega) only [go_sem, Nat.reduceAdd, Nat.reduceSub, Nat.reduceMul, Nat.reduceLeDiff, Nat.reduceEqDiff, h11c, h52, h35, h13, h36, h53, h22, h44, h34, h54, h55, h45, y1, y2, y3, y4, str_nil]
theorem awake_q : QC Tryz.prog G8 11 [] (vb true) := EV_qc T2_ok bsW_ok awake_e
end
section
set_option maxRecDepth 4000
set_option linter.unusedSimpArgs false
set_option linter.unusedVariables false
variable {G : Glob} {bb : Bool}
end
section
set_option maxRecDepth 4000
set_option linter.unusedSimpArgs false
set_option linter.unusedVariables false
variable {G : Glob} {bb : Bool}
theorem ixA (l : List Att) (k : Nat) (hk : k < l.length) : (l.map Att.e)[k]? = some l[k].e := by
  rw [List.getElem?_map, List.getElem?_eq_getElem hk]; rfl
end
section
set_option maxRecDepth 4000
set_option linter.unusedSimpArgs false
set_option linter.unusedVariables false
variable {G : Glob} {bb : Bool}
def fewB (a : Att) : Bool := decide (a.rs.length ≤ 80) && (decide (a.va.length ≤ 500) && decide (a.nm.length ≤ 60))
theorem getD_lt {α : Type} (l : List α) (d : α) (k : Nat) (h : k < l.length) : l.getD k d = l[k] := by
  rw [List.getD_eq_getElem?_getD, List.getElem?_eq_getElem h]; rfl
theorem all_ix {α : Type} (l : List α) (d : α) (p : α → Bool) : (ix (fun k => p (l.getD k d) = false) l.length = l.length) ↔ l.all p = true := by
  obtain ⟨h1, h2, h3⟩ := ix_spec (fun k => p (l.getD k d) = false) l.length
  constructor
  · intro e
    rw [List.all_eq_true]
    intro x hx
    obtain ⟨k, hk, rfl⟩ := List.getElem_of_mem hx
    have := h3 k (by omega)
    have e1 := getD_lt l d k hk
    rw [e1] at this
    simpa using this
  · intro h
    rcases h2 with h2 | ⟨h2, h4⟩
    · exact h2
    · have e1 := getD_lt l d _ h2
      rw [e1] at h4
      rw [List.all_eq_true.1 h _ (List.getElem_mem h2)] at h4
      cases h4
theorem fews_v (l : List Att) (hl : l.length ≤ 9223372036854775807) : EV G (Tb (bs bb)) 25 [vl (l.map Att.e)] [] = some (vb (l.all fewB && decide (l.length ≤ 40)), []) := by
  refine EV_run rfl ?_
  simp (disch := omega) only [go_sem, Nat.reduceAdd, Nat.reduceSub, Nat.reduceMul, Nat.reduceLeDiff, Nat.reduceEqDiff, h25c]
  rw [EL_fst (fun k => ⟨(vl (l.map Att.e) :: jk 2 (vi k :: jk 15 [])), []⟩) (fun k => fewB (l.getD k Att.nil) = false) l.length ?_ ?_]
  rotate_left
  · rfl
  · intro k hk hn
    have h1 := hn k (Nat.le_refl _)
    rw [getDA l k hk] at h1
    have h2 : fewB l[k] = true := by simpa using h1
    have q := few_v (G := G) (bb := bb) l[k]
    unfold fewB at h2
    rw [h2] at q
    simp (disch := omega) only [go_sem, Nat.reduceAdd, Nat.reduceSub, Nat.reduceMul, Nat.reduceLeDiff, Nat.reduceEqDiff, h25l0, List.length_map, ixA, Att.e, q]
  have hx := all_ix l Att.nil fewB
  obtain ⟨hk, hp, hn⟩ := ix_spec (fun k => fewB (l.getD k Att.nil) = false) l.length
  generalize ix (fun k => fewB (l.getD k Att.nil) = false) l.length = k at *
  rcases hp with rfl | ⟨hk', hp⟩
  · rw [hx.1 rfl]
    by_cases c : l.length ≤ 40
    · have c' : (l.length : Int) ≤ 40 := by omega
      simp (disch := omega) only [go_sem, Nat.reduceAdd, Nat.reduceSub, Nat.reduceMul, Nat.reduceLeDiff, Nat.reduceEqDiff, h25l0, List.length_map, eq_true c']
      simp [c]
    · have c' : ¬ (l.length : Int) ≤ 40 := by omega
      simp (disch := omega) only [go_sem, Nat.reduceAdd, Nat.reduceSub, Nat.reduceMul, Nat.reduceLeDiff, Nat.reduceEqDiff, h25l0, List.length_map, c']
      simp [c]
  · have e : l.all fewB = false := by
      cases h : l.all fewB with
      | false => rfl
      | true => have := hx.2 h; omega
    rw [e]
    rw [getDA l k hk'] at hp
    have q := few_v (G := G) (bb := bb) l[k]
    unfold fewB at hp
    rw [hp] at q
    simp (disch := omega) only [go_sem, Nat.reduceAdd, Nat.reduceSub, Nat.reduceMul, Nat.reduceLeDiff, Nat.reduceEqDiff, h25l0, List.length_map, ixA, Att.e, q]
theorem takeA (l : List Att) (k : Nat) (hk : k < l.length) : (l.take (k + 1)).map Att.e = (l.take k).map Att.e ++ [l[k].e] := by
  rw [List.take_succ_eq_append_getElem hk, List.map_append]; rfl
theorem copyAs_v (l : List Att) (hl : l.length ≤ 1000) (hr : ∀ a ∈ l, a.rs.length ≤ 1000000) : EV G (Tb (bs bb)) 26 [vl (l.map Att.e)] [] = some (vl (l.map Att.e), []) := by
  refine EV_run rfl ?_
  simp (disch := omega) only [go_sem, Nat.reduceAdd, Nat.reduceSub, Nat.reduceMul, Nat.reduceLeDiff, Nat.reduceEqDiff, h26c]
  rw [EL_loop (fun k => ⟨(vl (l.map Att.e) :: jk 2 (.one (.bld 0 ((l.take k).map Att.e).length) :: vi k :: jk 15 [])), [.arr 0 11 ((l.take k).map Att.e)]⟩) l.length ?_ ?_]
  · simp (disch := omega) only [go_sem, Nat.reduceAdd, Nat.reduceSub, Nat.reduceMul, Nat.reduceLeDiff, Nat.reduceEqDiff, h26l0, List.length_map, List.take_length]
  · rfl
  · intro k hk
    have q := copyA_v (G := G) (bb := bb) l[k] (hr _ (List.getElem_mem hk))
    have hb : ((l.take k).map Att.e).length ≤ 1000 := by rw [List.length_map, List.length_take]; omega
    have hall := all_att (l.take k)
    rw [takeA l k hk]
    generalize (l.take k).map Att.e = C at hb hall ⊢
    simp (disch := omega) only [go_sem, Nat.reduceAdd, Nat.reduceSub, Nat.reduceMul, Nat.reduceLeDiff, Nat.reduceEqDiff, h26l0, List.length_map, ixA, Att.e, q, hall]
    rw [List.length_append]
    rfl
end
section
set_option maxRecDepth 4000
set_option linter.unusedSimpArgs false
set_option linter.unusedVariables false
variable {G : Glob} {bb : Bool}
theorem aw_v : EV G (Tb (bs true)) 11 [] [] = some (vb true, []) := EV_base rfl rfl
end
section
set_option maxRecDepth 4000
set_option linter.unusedSimpArgs false
set_option linter.unusedVariables false
variable {G : Glob} {bb : Bool}
def allV (l : List Att) (k : Nat) : AV := if k = 0 then rawV (.slice none 0 0) else runsV (allK l k)
theorem allV_s (l : List Att) (k : Nat) : allV l (k + 1) = runsV (allK l (k + 1)) := if_neg (by omega)
theorem allV_n {l : List Att} {k : Nat} (h : k ≠ 0) : allV l k = runsV (allK l k) := if_neg h
set_option maxHeartbeats 4000000 in
theorem wholeR_v (l : List Att) (hW : ∀ a ∈ l, a.W) (hl : l.length ≤ 1000) : EV G (Tb (bs bb)) 27 [vl (l.map Att.e)] [] = some (rtv (wholeRV l), []) := by
  refine EV_run rfl ?_
  unfold wholeRV
  by_cases c0 : l = []
  · rw [if_pos c0]
    subst c0
    simp only [Att.nil]
    simp (disch := omega) only [go_sem, Nat.reduceAdd, Nat.reduceSub, Nat.reduceMul, Nat.reduceLeDiff, Nat.reduceEqDiff, h27c, List.length_map, List.length_nil, List.map_nil, str_nil]
    rfl
  rw [if_neg c0]
  have hp0 : 0 < l.length := List.length_pos_iff.2 c0
  have d1 : ¬ (l.length : Int) = 0 := by omega
  by_cases c1 : l.length > 32
  · rw [if_pos c1]
    have d2 : 32 < (l.length : Int) := by omega
    simp only [Att.nil]
    simp (disch := omega) only [go_sem, Nat.reduceAdd, Nat.reduceSub, Nat.reduceMul, Nat.reduceLeDiff, Nat.reduceEqDiff, h27c, List.length_map, d1, eq_true d2, str_nil]
    rfl
  rw [if_neg c1]
  have d2 : ¬ 32 < (l.length : Int) := by omega
  have hh : l.headD Att.nil = l[0] := by
    match l, hp0 with
    | a :: l, _ => rfl
  have hW0 := hW _ (List.getElem_mem hp0)
  simp (disch := omega) only [go_sem, Nat.reduceAdd, Nat.reduceSub, Nat.reduceMul, Nat.reduceLeDiff, Nat.reduceEqDiff, h27c, List.length_map, d1, d2, str_nil]
  rw [EL_fst (fun k => ⟨(vl (l.map Att.e) :: jk 1 (.one (.ptr 0 0) :: jk 1 (vi (endA (l.take k)) :: rawV (.slice none 0 0) :: vi k :: jk 119 []))), [.box nilC]⟩) (fun k => whE l k ≠ 0) l.length ?_ ?_]
  rotate_left
  · rfl
  · intro k hk hn
    have h1 := whS_0 (Classical.not_not.1 (hn k (Nat.le_refl _)))
    rw [getDA l k hk, hh] at h1
    obtain ⟨e0, e1, e2, e3, e4, e5⟩ := h1
    have hWk := hW _ (List.getElem_mem hk)
    have q := errR_v (G := G) (bb := bb) l[k] hWk
    have q1 := length_r (G := G) (B := bs bb) l[k].rs (by have := hWk.rl; omega)
    obtain ⟨g1, g2, g3⟩ := res_bd e0 e1
    have g4 := (chk_bd g1).2.1
    have g5 := endA_bd l k (by omega) (fun j hj => Classical.not_not.1 (hn j (by omega)))
    rw [endA_take l k hk]
    have s3 : (str l[k].nm = str l[0].nm) = True := by rw [e3]; exact eq_self _
    simp only [Att.v, Att.c, e1] at q
    simp (disch := omega) only [go_sem, Nat.reduceAdd, Nat.reduceSub, Nat.reduceMul, Nat.reduceLeDiff, Nat.reduceEqDiff, h27l0, List.length_map, ixA, List.getElem_map, Att.e, str_nil, e1, q, e0, q1, eq_true e2, s3, eq_true e4, eq_true e5]
  obtain ⟨hk, hp, hn⟩ := ix_spec (fun k => whE l k ≠ 0) l.length
  generalize ix (fun k => whE l k ≠ 0) l.length = k at *
  rcases hp with rfl | ⟨hk', hp⟩
  · rw [if_neg (Nat.lt_irrefl _)]
    have hc : ∀ a ∈ l, (chk a.rs).2 = 0 := by
      intro a ha
      obtain ⟨k, hk, rfl⟩ := List.getElem_of_mem ha
      have h1 := whS_0 (Classical.not_not.1 (hn k hk))
      rw [getDA l k hk] at h1
      exact (res_bd h1.1 h1.2.1).1
    simp (disch := omega) only [go_sem, Nat.reduceAdd, Nat.reduceSub, Nat.reduceMul, Nat.reduceLeDiff, Nat.reduceEqDiff, h27l0, List.length_map, str_nil]
    rw [EL_fst (fun k => ⟨(vl (l.map Att.e) :: jk 1 (.one (.ptr 0 0) :: jk 2 (allV l k :: jk 2 (vi k :: jk 117 [])))), [.box nilC]⟩) (fun k => resE (allK l (k + 1)) ≠ 0) l.length ?_ ?_]
    rotate_left
    · rfl
    · intro k hk hn2
      have hA := ak_all hc k (by omega) (fun j hj => Classical.not_not.1 (hn2 j (by omega)))
      have hAl := hA.len
      obtain ⟨_, hF⟩ := ak_next hk (hc _ (List.getElem_mem hk)) hA
      have hlen := hF.len
      have q := resE_v (G := G) (B := bs bb) (allK l (k + 1)) hF hlen
      rw [Classical.not_not.1 (hn2 k (Nat.le_refl _))] at q
      have hrl := chk_len (hc _ (List.getElem_mem hk))
      rw [allK_succ l k hk] at q
      have q1 := copyRuns_v (G := G) (B := bs bb) (allK l k) (by omega)
      rw [allV_s, allK_succ l k hk]
      by_cases h0 : k = 0
      · subst h0
        have i0 : (l.map Att.e)[(0 : Nat)]? = some l[0].e := ixA l 0 hk
        have eA : allK l 0 = [] := rfl
        rw [eA] at q q1 ⊢
        simp only [List.nil_append, List.length_nil, List.map_nil] at q q1 ⊢
        show rnK _ _ (EC _ _ _ ⟨(vl (l.map Att.e) :: jk 1 (.one (.ptr 0 0) :: jk 2 (rawV (.slice none 0 0) :: jk 2 (vi 0 :: jk 117 [])))), [.box nilC]⟩) = _
        have q2 : EV G (Tb (bs bb)) 15 [vl []] [] = some (.one (.bld 0 0), [.arr 0 2 []]) := q1
        have q3 : EV G (Tb (bs bb)) 78 [vl (l[0].rs.map Run.e)] [] = some (vi 0, []) := q
        simp (disch := omega) only [go_sem, Nat.reduceAdd, Nat.reduceSub, Nat.reduceMul, Nat.reduceLeDiff, Nat.reduceEqDiff, h27l1, List.length_map, i0, Att.e, str_nil, q3, q2, Int.toNat_zero, List.nil_append, List.take_length, Nat.zero_add, take_map_len, Nat.le_refl, if_true]
        rfl
      · rw [allV_n h0]
        have q3 : EV G (Tb (bs bb)) 78 [vl ((allK l k).map Run.e ++ l[k].rs.map Run.e)] [] = some (vi 0, []) := by rw [← List.map_append]; exact q
        have eT : ((allK l k).map Run.e ++ l[k].rs.map Run.e).take ((allK l k).length + l[k].rs.length) = (allK l k).map Run.e ++ l[k].rs.map Run.e := List.take_of_length_le (by simp)
        simp (disch := omega) only [go_sem, Nat.reduceAdd, Nat.reduceSub, Nat.reduceMul, Nat.reduceLeDiff, Nat.reduceEqDiff, h27l1, List.length_map, List.length_append, ixA, Att.e, str_nil, q3, q1, eT, Nat.le_refl, if_true]
        rw [← List.map_append]
    obtain ⟨hk2, hp2, hn2⟩ := ix_spec (fun k => resE (allK l (k + 1)) ≠ 0) l.length
    generalize ix (fun k => resE (allK l (k + 1)) ≠ 0) l.length = k at *
    rcases hp2 with rfl | ⟨hk', hp2⟩
    · rw [if_neg (Nat.lt_irrefl _), allV_n (by omega)]
      have hA := ak_all hc l.length (Nat.le_refl _) (fun j hj => Classical.not_not.1 (hn2 j (by omega)))
      have hAl := hA.len
      have hF := fine_of hA.rg (by have := hA.sm; omega) (by omega)
      have q3 := join_v (G := G) (B := bs bb) (allK l l.length) hF
      have q4 := copyA_v (G := G) (bb := bb) l[0] (by have := hW0.rl; omega)
      have hal := (addL_good (R := []) (by simp) hF.el).2.2
      have hWo : (setRs l[0] (addL [] (allK l l.length))).W := ⟨hW0.nm, hW0.va, hW0.nl, hW0.vl, by
        show (addL [] (allK l l.length)).length ≤ 100000
        simp only [List.length_nil] at hal
        omega⟩
      have q5 := errR_v (G := G) (bb := bb) (setRs l[0] (addL [] (allK l l.length))) hWo
      have i0 : (l.map Att.e)[(0 : Nat)]? = some l[0].e := ixA l 0 hp0
      rw [hh]
      unfold resA
      by_cases ce : errA (setRs l[0] (addL [] (allK l l.length))) = 0
      · rw [if_pos ce]
        rw [ce] at q5
        simp only [setRs, Att.v, Att.c] at q5 ⊢
        simp (disch := omega) only [go_sem, Nat.reduceAdd, Nat.reduceSub, Nat.reduceMul, Nat.reduceLeDiff, Nat.reduceEqDiff, h27l1, List.length_map, i0, Att.e, str_nil, q3, q4, q5, Int.toNat_zero]
      · rw [if_neg ce]
        generalize errA (setRs l[0] (addL [] (allK l l.length))) = e at ce q5
        simp only [setRs, Att.v, Att.c] at q5
        simp only [Att.nil]
        simp (disch := omega) only [go_sem, Nat.reduceAdd, Nat.reduceSub, Nat.reduceMul, Nat.reduceLeDiff, Nat.reduceEqDiff, h27l1, List.length_map, i0, Att.e, str_nil, q3, q4, q5, Int.toNat_zero, ce]
        rfl
    · rw [if_pos hk']
      have hA := ak_all hc k (by omega) (fun j hj => Classical.not_not.1 (hn2 j (by omega)))
      have hAl := hA.len
      obtain ⟨_, hF⟩ := ak_next hk' (hc _ (List.getElem_mem hk')) hA
      have hlen := hF.len
      have q := resE_v (G := G) (B := bs bb) (allK l (k + 1)) hF hlen
      have hrl := chk_len (hc _ (List.getElem_mem hk'))
      generalize hre : resE (allK l (k + 1)) = re at hp2 q ⊢
      rw [allK_succ l k hk'] at q
      have q1 := copyRuns_v (G := G) (B := bs bb) (allK l k) (by omega)
      simp only [Att.nil]
      by_cases h0 : k = 0
      · subst h0
        have i0 : (l.map Att.e)[(0 : Nat)]? = some l[0].e := ixA l 0 hk'
        have eA : allK l 0 = [] := rfl
        rw [eA] at q q1
        simp only [List.nil_append, List.length_nil, List.map_nil] at q q1
        have q2 : EV G (Tb (bs bb)) 15 [vl []] [] = some (.one (.bld 0 0), [.arr 0 2 []]) := q1
        have q3 : EV G (Tb (bs bb)) 78 [vl (l[0].rs.map Run.e)] [] = some (vi re, []) := q
        have e0 : allV l 0 = rawV (.slice none 0 0) := rfl
        rw [e0]
        simp (disch := omega) only [go_sem, Nat.reduceAdd, Nat.reduceSub, Nat.reduceMul, Nat.reduceLeDiff, Nat.reduceEqDiff, h27l1, List.length_map, i0, Att.e, str_nil, q3, q2, Int.toNat_zero, List.nil_append, List.take_length, Nat.zero_add, take_map_len, Nat.le_refl, if_true, Int.natCast_zero, hp2]
        rfl
      · rw [allV_n h0]
        have q3 : EV G (Tb (bs bb)) 78 [vl ((allK l k).map Run.e ++ l[k].rs.map Run.e)] [] = some (vi re, []) := by rw [← List.map_append]; exact q
        have eT : ((allK l k).map Run.e ++ l[k].rs.map Run.e).take ((allK l k).length + l[k].rs.length) = (allK l k).map Run.e ++ l[k].rs.map Run.e := List.take_of_length_le (by simp)
        simp (disch := omega) only [go_sem, Nat.reduceAdd, Nat.reduceSub, Nat.reduceMul, Nat.reduceLeDiff, Nat.reduceEqDiff, h27l1, List.length_map, List.length_append, ixA, Att.e, str_nil, q3, q1, eT, Nat.le_refl, if_true, hp2]
        rfl
  · rw [if_pos hk']
    have hWk := hW _ (List.getElem_mem hk')
    have q := errR_v (G := G) (bb := bb) l[k] hWk
    have hE : whE l k = firstE [errA l[k], un (!l[k].res) 20, un (likeB l[0] l[k]) 13, un (decide (l[k].fi = endA (l.take k))) 14] := by
      unfold whE
      rw [getDA l k hk', hh]
      rfl
    have sE := str_inj hWk.nm hW0.nm
    rw [hE] at hp ⊢
    by_cases d3 : errA l[k] = 0
    · rw [d3] at q hp
      rw [d3]
      rw [firstE_0] at hp ⊢
      cases d4 : l[k].res with
      | true =>
        simp only [Att.v, Att.c, d4] at q
        simp only [Att.nil]
        simp (disch := omega) only [go_sem, Nat.reduceAdd, Nat.reduceSub, Nat.reduceMul, Nat.reduceLeDiff, Nat.reduceEqDiff, h27l0, List.length_map, ixA, List.getElem_map, Att.e, str_nil, q, d4]
        rfl
      | false =>
        simp only [Att.v, Att.c, d4] at q
        rw [d4] at hp
        simp only [Bool.not_false, un_t, firstE_0] at hp ⊢
        by_cases c2 : l[k].ty = l[0].ty
        · by_cases c3 : l[k].nm = l[0].nm
          · have s3 : (str l[k].nm = str l[0].nm) = True := by rw [sE]; exact eq_true c3
            by_cases c4 : l[k].fl = l[0].fl
            · have eL : likeB l[0] l[k] = true := by simp [likeB, c2, c3, c4]
              rw [eL] at hp ⊢
              simp only [un_t, firstE_0] at hp ⊢
              by_cases c5 : l[k].fi = endA (l.take k)
              · rw [decide_eq_true c5] at hp
                exact absurd rfl hp
              · rw [decide_eq_false c5]
                simp only [Att.nil]
                simp (disch := omega) only [go_sem, Nat.reduceAdd, Nat.reduceSub, Nat.reduceMul, Nat.reduceLeDiff, Nat.reduceEqDiff, h27l0, List.length_map, ixA, List.getElem_map, Att.e, str_nil, q, d4, eq_true c2, s3, eq_true c4, c5]
                rfl
            · have eL : likeB l[0] l[k] = false := by simp [likeB, c4]
              rw [eL]
              simp only [Att.nil]
              simp (disch := omega) only [go_sem, Nat.reduceAdd, Nat.reduceSub, Nat.reduceMul, Nat.reduceLeDiff, Nat.reduceEqDiff, h27l0, List.length_map, ixA, List.getElem_map, Att.e, str_nil, q, d4, eq_true c2, s3, c4]
              rfl
          · have s3 : (str l[k].nm = str l[0].nm) = False := by rw [sE]; exact eq_false c3
            have eL : likeB l[0] l[k] = false := by simp [likeB, c3]
            rw [eL]
            simp only [Att.nil]
            simp (disch := omega) only [go_sem, Nat.reduceAdd, Nat.reduceSub, Nat.reduceMul, Nat.reduceLeDiff, Nat.reduceEqDiff, h27l0, List.length_map, ixA, List.getElem_map, Att.e, str_nil, q, d4, eq_true c2, s3]
            rfl
        · have eL : likeB l[0] l[k] = false := by simp [likeB, c2]
          rw [eL]
          simp only [Att.nil]
          simp (disch := omega) only [go_sem, Nat.reduceAdd, Nat.reduceSub, Nat.reduceMul, Nat.reduceLeDiff, Nat.reduceEqDiff, h27l0, List.length_map, ixA, List.getElem_map, Att.e, str_nil, q, d4, c2]
          rfl
    · rw [firstE_n _ _ d3]
      simp only [Att.nil]
      simp (disch := omega) only [go_sem, Nat.reduceAdd, Nat.reduceSub, Nat.reduceMul, Nat.reduceLeDiff, Nat.reduceEqDiff, h27l0, List.length_map, ixA, List.getElem_map, Att.e, str_nil, q, d3]
      rfl
theorem wholeV_W (l : List Att) (hW : ∀ a ∈ l, a.W) : (wholeV l).1.W ∧ ((wholeV l).2 = 0 ∨ (wholeV l).1 = Att.nil) := by
  unfold wholeV
  split
  · exact ⟨Att.nil_W, .inr rfl⟩
  · rename_i c0
    have hp0 : 0 < l.length := List.length_pos_iff.2 c0
    have hW0 := hW _ (List.getElem_mem hp0)
    have hh : l.headD Att.nil = l[0] := by
      match l, hp0 with
      | a :: l, _ => rfl
    split
    · exact ⟨Att.nil_W, .inr rfl⟩
    · split
      · exact ⟨Att.nil_W, .inr rfl⟩
      · split
        · exact ⟨Att.nil_W, .inr rfl⟩
        · have hWo : (outW l (l.length - 1)).W := by
            unfold outW setRs
            rw [hh]
            exact ⟨hW0.nm, hW0.va, hW0.nl, hW0.vl, ownK_len l (by rw [hh]; exact hW0.rl) _⟩
          unfold resA
          split
          · exact ⟨hWo, .inl rfl⟩
          · exact ⟨Att.nil_W, .inr rfl⟩
theorem wholes_v (l : List Att) (h1 : ∀ a ∈ l, Byts a.nm ∧ Byts a.va) (hl : l.length ≤ 9223372036854775807) : EV G (Tb (bs true)) 5 [vl (l.map Att.e)] [] = some (vb true, []) := by
  refine EV_run rfl ?_
  have q0 := fews_v (G := G) (bb := true) l hl
  have qw := aw_v (G := G)
  cases c0 : (l.all fewB && decide (l.length ≤ 40)) with
  | false =>
    rw [c0] at q0
    simp (disch := omega) only [go_sem, Nat.reduceAdd, Nat.reduceSub, Nat.reduceMul, Nat.reduceLeDiff, Nat.reduceEqDiff, h5c, qw, q0]
  | true =>
    rw [c0] at q0
    simp only [Bool.and_eq_true, decide_eq_true_eq, List.all_eq_true] at c0
    have hW : ∀ a ∈ l, a.W := fun a ha => by
      have h2 := c0.1 a ha
      simp only [fewB, Bool.and_eq_true, decide_eq_true_eq] at h2
      exact ⟨(h1 a ha).1, (h1 a ha).2, by omega, by omega, by omega⟩
    have q1 := copyAs_v (G := G) (bb := true) l (by omega) (fun a ha => by have := (hW a ha).rl; omega)
    have q2 := whole_v (G := G) (bb := true) l hW (by omega)
    have q3 := wholeR_v (G := G) (bb := true) l hW (by omega)
    have hx : (wholeV l).1.W ∧ ((wholeV l).2 = 0 ∨ (wholeV l).1 = Att.nil) := wholeV_W l hW
    rw [whole_eq l] at q2 hx
    generalize wholeRV l = x at q2 q3 hx
    have q8 := same8_v (G := G) (bb := true) x.1 x.1 x.2 x.2 hx.1 hx.1
    rw [asB_refl _ _ hx.2] at q8
    simp (disch := omega) only [go_sem, Nat.reduceAdd, Nat.reduceSub, Nat.reduceMul, Nat.reduceLeDiff, Nat.reduceEqDiff, h5c, qw, q0, q1, q2, q3, q8]
end
end Go.Proofs.YtmognenhkecngaaGreatDoor
