/- Lists of attributes: few, copied; the attribute that has some parts, by the reference. Conditions: none. -/
import Derived.Test.YtmognenhkecngaaGreatDoorUm
import Derived.Test.YtmognenhkecngaaGreatDoorMb
import Derived.KernelRfl
namespace Go.Proofs.YtmognenhkecngaaGreatDoor
set_option linter.unusedSimpArgs false
set_option linter.unusedVariables false
set_option maxRecDepth 4000
section
variable {G : Glob} {bb : Bool}
def tbl8 : Tbl := fun f => match Tbt f with
  | some h => some (h.code.er, h.rs, h.nt)
  | none => none
theorem tbl8_ok : TOK Tryz.prog tbl8 := by
  intro f c rs nt h
  unfold tbl8 at h
  split at h
  · rename_i x hx
    injection h with h; injection h with h1 h; injection h with h2 h3; subst h1; subst h2; subst h3
    exact Tb_ok (fun _ _ _ => none) f x hx
  · cases h
def tab64 : List Int := [0, 1, 56, 2, 57, 49, 28, 3, 61, 58, 42, 50, 38, 29, 17, 4, 62, 47, 59, 36, 45, 43, 51, 22, 53, 39, 33, 30, 24, 18, 12, 5, 63, 55, 48, 27, 60, 41, 37, 16, 46, 35, 44, 21, 52, 32, 23, 11, 54, 26, 40, 15, 34, 20, 31, 10, 25, 14, 19, 9, 13, 8, 7, 6]
def G8 : Glob := fun g => if g = 5 then some (tab64.map fun n => .raw (.int .u8 n)) else none
noncomputable def bsW (G : Glob) : CallT := fun f args hp =>
  if f = 54 ∨ f = 45 then (if hp.isEmpty then (quietCall (callF tbl8 (evC G tbl8 3000)) f args).map fun v => (v, []) else none) else EV G (Tb (bs false)) f args hp
theorem bsW_ok {G : Glob} : CallOK Tryz.prog G (bsW G) := by
  intro f args hp av o' h hp0 hh
  unfold bsW at h
  split at h
  · rename_i hf
    split at h
    · rename_i he
      obtain ⟨v, h1, h2⟩ := Option.map_eq_some_iff.1 h
      injection h2 with h2 h3
      subst h2; subst h3
      have hnil : hp0 = [] := by
        rw [← hh] at he
        simpa using he
      subst hnil
      have hq := QC.run tbl8_ok 3000 h1
      refine ⟨?_, hq.gh (fun a o ⟨h1, h2⟩ _ => ⟨a, o, Gh.refl, Nat.zero_le _, h1, by rw [h2]; rfl⟩)⟩
      rcases hf with rfl | rfl
      · kernel_rfl
      · kernel_rfl
    · cases h
  · obtain ⟨n, hn⟩ := lim_some h
    exact callN_ok (Tb_ok (bs false)) (bs_ok (fun h => by cases h)) n f args hp av o' hn hp0 hh
def tbW : FuncId → Option HF := fun f => if f = 11 then some h11 else none
noncomputable def T2 (G : Glob) : HT := ⟨tbW, bsW G⟩
theorem T2_ok {G : Glob} : HTOK Tryz.prog (T2 G) := by
  intro f h hf
  change tbW f = some h at hf
  unfold tbW at hf
  split at hf
  · rename_i e
    subst e
    injection hf with hf; subst hf; exact ⟨by kernel_rfl, _, Tryz.func11, Tryz.ntmps11, h11_ok, r11_ok⟩
  · cases hf
theorem t2 {f : FuncId} {args : List AV} {hp : List AObj} {r : AV × List AObj} (h : EV G (Tb (bs false)) f args hp = some r) (h1 : f ≠ 11 := by decide) (h2 : ¬(f = 54 ∨ f = 45) := by decide) : EV G (T2 G) f args hp = some r :=
  EV_base (by show tbW f = none; exact if_neg h1) (by show bsW G f args hp = some r; unfold bsW; rw [if_neg h2]; exact h)
theorem t2q {f : FuncId} {args : List AV} {v : AV} (h2 : f = 54 ∨ f = 45) (h : quietCall (callF tbl8 (evC G tbl8 3000)) f args = some v) : EV G (T2 G) f args [] = some (v, []) :=
  EV_base (by show tbW f = none; rcases h2 with rfl | rfl <;> rfl) (by show bsW G f args [] = some _; unfold bsW; rw [if_pos h2]; simp [h])
theorem f1_q : EV G8 (T2 G8) 54 [runsV [⟨5, 1⟩]] [] = some (sv [53, 43, 49], []) := t2q (.inl rfl) (by kernel_rfl)
theorem f2_q : EV G8 (T2 G8) 54 [runsV [⟨6, 3⟩]] [] = some (sv [54, 43, 51], []) := t2q (.inl rfl) (by kernel_rfl)
theorem k_q : EV G8 (T2 G8) 45 [.agg [.dc (ci 128), .dc (.raw (.string (str [115]))), .dc (ci 1)]] [] = some (sv [56, 48, 58, 115, 58, 49], []) := t2q (.inr rfl) (by kernel_rfl)
theorem key_v (a : Att) : EV G (Tb (bs bb)) 44 [a.v] [] = some (.agg [.dc (ci a.ty), .dc (.raw (.string (str a.nm))), .dc (ci a.fi)], []) := by
  refine EV_run rfl ?_
  simp (disch := omega) only [go_sem, h44c, str_nil]
def o1 : Att := ⟨128, [], 2, 0, false, [], 0, [⟨9, 1⟩], 256, 3, 3⟩
def s1 : Att := ⟨128, [115], 3, 0, false, [], 0, [⟨5, 1⟩], 1024, 1000, 900⟩
def s2 : Att := ⟨128, [115], 3, 0, false, [], 1, [⟨6, 3⟩], 0, 0, 0⟩
def ty16 : Att := ⟨16, [], 0, 0, false, [], 0, [], 0, 0, 0⟩
theorem abcW : abcA.W := ⟨byts_c _ (by decide), byts_c _ (by decide), by decide, by decide, by decide⟩
theorem strW : strA.W := ⟨byts_c _ (by decide), byts_c _ (by decide), by decide, by decide, by decide⟩
theorem o1W : o1.W := ⟨byts_c _ (by decide), byts_c _ (by decide), by decide, by decide, by decide⟩
theorem tyW : ty16.W := ⟨byts_c _ (by decide), byts_c _ (by decide), by decide, by decide, by decide⟩
theorem x1 : encA abcA = [128, 0, 0, 0, 32, 0, 0, 0, 0, 0, 24, 0, 0, 0, 2, 0, 3, 0, 0, 0, 24, 0, 0, 0, 97, 98, 99, 0, 0, 0, 0, 0] := by kernel_rfl
theorem x2 : errA abcA = 0 := by kernel_rfl
theorem x3 : movOV abcA [⟨9, 1⟩] = (o1, 0) := by kernel_rfl
theorem x4 : ((encA o1).length : Int) = 48 := by kernel_rfl
theorem x5 : errA o1 = 0 := by kernel_rfl
theorem x6 : splV strA 1 = (s1, s2, 0) := by kernel_rfl
theorem x7 : errA ty16 = 20 := by kernel_rfl
theorem y1 : ((str [128, 0, 0, 0, 32, 0, 0, 0, 0, 0, 24, 0, 0, 0, 2, 0, 3, 0, 0, 0, 24, 0, 0, 0, 97, 98, 99, 0, 0, 0, 0, 0]) = (⟨#[128, 0, 0, 0, 32, 0, 0, 0, 0, 0, 24, 0, 0, 0, 2, 0, 3, 0, 0, 0, 24, 0, 0, 0, 97, 98, 99, 0, 0, 0, 0, 0]⟩ : ByteArray)) = True := eq_true (by kernel_rfl)
theorem y2 : ((str [53, 43, 49]) = (⟨#[53, 43, 49]⟩ : ByteArray)) = True := eq_true (by kernel_rfl)
theorem y3 : ((str [54, 43, 51]) = (⟨#[54, 43, 51]⟩ : ByteArray)) = True := eq_true (by kernel_rfl)
theorem y4 : ((str [56, 48, 58, 115, 58, 49]) = (⟨#[56, 48, 58, 115, 58, 49]⟩ : ByteArray)) = True := eq_true (by kernel_rfl)
theorem awake_e : EV G8 (T2 G8) 11 [] [] = some (vb true, []) := by
  have h52 := t2 (abc_v (G := G8) (bb := false))
  have h35 := t2 (encodeA_v (G := G8) (bb := false) abcA abcW)
  have h13 := t2 (movedOut_v (G := G8) (bb := false) abcA abcW [⟨9, 1⟩] (by decide))
  have h36 := t2 (bytesOf_v (G := G8) (bb := false) o1 o1W)
  have h53 := t2 (stream_v (G := G8) (bb := false))
  have h22 := t2 (split_v (G := G8) (bb := false) strA strW 1)
  have h44 := t2 (key_v (G := G8) (bb := false) s2)
  have h34 := t2 (checkA_v (G := G8) (bb := false) ty16 tyW)
  have h54 := f1_q
  have h55 := f2_q
  have h45 := k_q
  rw [x1, x2] at h35
  rw [x3] at h13
  rw [x4, x5] at h36
  rw [x6] at h22
  rw [x7] at h34
  simp only [runsV, rtv, spv, Att.v, Att.c, Att.t, abcA, strA, o1, s1, s2, ty16, List.map_cons, List.map_nil, Run.e] at h52 h35 h13 h36 h53 h22 h44 h34 h54 h55
  refine EV_run (h := h11) rfl ?_
  simp (disch := omega) only [go_sem, h11c, h52, h35, h13, h36, h53, h22, h44, h34, h54, h55, h45, y1, y2, y3, y4, str_nil]
theorem awake_q : QC Tryz.prog G8 11 [] (vb true) := EV_qc T2_ok bsW_ok awake_e
end
section
variable {G : Glob} {bb : Bool}
def cmpI (a b : Int) : Int := if a < b then -1 else if a > b then 1 else 0
theorem nanI_v (a : Int) : EV G (Tb (bs bb)) 162 [vi a] [] = some (vb false, []) := by
  refine EV_run rfl ?_
  simp (disch := omega) only [go_sem, h162c]
theorem cmpI_v (a b : Int) : EV G (Tb (bs bb)) 132 [vi a, vi b] [] = some (vi (cmpI a b), []) := by
  refine EV_run rfl ?_
  unfold cmpI
  by_cases c1 : a < b
  · rw [if_pos c1]
    simp (disch := omega) only [go_sem, h132c, nanI_v, eq_true c1]
  · rw [if_neg c1]
    by_cases c2 : b < a
    · rw [if_pos c2]
      simp (disch := omega) only [go_sem, h132c, nanI_v, c1, eq_true c2]
    · rw [if_neg c2]
      simp (disch := omega) only [go_sem, h132c, nanI_v, c1, c2]
theorem numbers_v (a b : Int) : EV G (Tb (bs bb)) 87 [vi a, vi b] [] = some (vi (cmpI a b), []) := by
  refine EV_run rfl ?_
  unfold cmpI
  by_cases c1 : a < b
  · rw [if_pos c1]
    simp (disch := omega) only [go_sem, h87c, eq_true c1]
  · rw [if_neg c1]
    by_cases c2 : b < a
    · rw [if_pos c2]
      simp (disch := omega) only [go_sem, h87c, c1, eq_true c2]
    · rw [if_neg c2]
      simp (disch := omega) only [go_sem, h87c, c1, c2]
theorem nanS_v (s : ByteArray) : EV G (Tb (bs bb)) 163 [.one (.dc (.raw (.string s)))] [] = some (vb false, []) := by
  refine EV_run rfl ?_
  simp (disch := omega) only [go_sem, h163c]
def ltS (a b : List Int) : Bool := Op.bytesLess (str a).toList (str b).toList
def gtS (a b : List Int) : Bool := !(Op.bytesLess (str a).toList (str b).toList || (str a).toList == (str b).toList)
theorem binV_ltS (a b : List Int) : binV .lss (sv a) (sv b) = some (vb (ltS a b)) := rfl
theorem binV_gtS (a b : List Int) : binV .gtr (sv a) (sv b) = some (vb (gtS a b)) := rfl
def cmpS (a b : List Int) : Int := if ltS a b = true then -1 else if gtS a b = true then 1 else 0
theorem cmpS_v (a b : List Int) : EV G (Tb (bs bb)) 133 [sv a, sv b] [] = some (vi (cmpS a b), []) := by
  refine EV_run rfl ?_
  unfold cmpS
  cases c1 : ltS a b with
  | true =>
    rw [if_pos rfl]
    simp (disch := omega) only [go_sem, h133c, nanS_v, binV_ltS, c1]
  | false =>
    rw [if_neg (by decide)]
    cases c2 : gtS a b with
    | true =>
      rw [if_pos rfl]
      simp (disch := omega) only [go_sem, h133c, nanS_v, binV_ltS, binV_gtS, c1, c2]
    | false =>
      rw [if_neg (by decide)]
      simp (disch := omega) only [go_sem, h133c, nanS_v, binV_ltS, binV_gtS, c1, c2]
theorem or_v (l : List Int) (hl : l.length ≤ 1000) : EV G (Tb (bs bb)) 131 [vl (el l)] [] = some (vi (firstE l), []) := by
  refine EV_run rfl ?_
  simp (disch := omega) only [go_sem, h131c, List.length_map]
  have round : ∀ k (hk : k < l.length), ¬ l.getD k 0 ≠ 0 → rnK [3, 2, 0, 0] 0 (EC (EV G (Tb (bs bb))) G h131l0 ⟨(jk 3 (vi 0 :: jk 2 (vl (el l) :: vi l.length :: vi k :: jk 9 []))), []⟩) = some ⟨(jk 3 (vi 0 :: jk 2 (vl (el l) :: vi l.length :: vi (k + 1 : Nat) :: jk 9 []))), []⟩ := fun k hk hz => by
    rw [getD_at l k hk] at hz
    simp (disch := omega) only [go_sem, h131l0, List.length_map, ci1]
  rcases fstN (fun k => l.getD k 0 ≠ 0) l.length with h | ⟨j, hj, h1, h2⟩
  · rw [EL_loop (fun k => ⟨(jk 3 (vi 0 :: jk 2 (vl (el l) :: vi l.length :: vi k :: jk 9 []))), []⟩) l.length ?_ ?_]
    · rw [firstE_none l h]
      simp (disch := omega) only [go_sem, h131l0]
    · rfl
    · exact fun k hk => round k hk (h k hk)
  · rw [EL_loop (fun k => ⟨(jk 3 (vi 0 :: jk 2 (vl (el l) :: vi l.length :: vi k :: jk 9 []))), []⟩) j ?_ ?_]
    · rw [firstE_at l j hj h2 h1]
      rw [getD_at l j hj] at h1
      simp (disch := omega) only [go_sem, h131l0, List.length_map, ci1]
    · rfl
    · exact fun k hk => round k (by omega) (h2 k hk)
def cmpA (a b : Att) : Int := firstE [cmpI a.ty b.ty, cmpS a.nm b.nm, cmpI a.fi b.fi, cmpI a.id b.id]
theorem compare_v (a b : Att) : EV G (Tb (bs bb)) 81 [a.v, b.v] [] = some (vi (cmpA a b), []) := by
  refine EV_run rfl ?_
  have q := or_v (G := G) (bb := bb) [cmpI a.ty b.ty, cmpS a.nm b.nm, cmpI a.fi b.fi, cmpI a.id b.id] (by simp)
  simp only [el, List.map_cons, List.map_nil, ci1] at q
  simp (disch := omega) only [go_sem, h81c, cmpI_v, cmpS_v, q]
  rfl
def keyB (a b : Att) : Bool := decide (a.ty = b.ty) && (decide (a.nm = b.nm) && decide (a.fi = b.fi))
theorem sameKey_v (a b : Att) (ha : Byts a.nm) (hb : Byts b.nm) : EV G (Tb (bs bb)) 82 [a.v, b.v] [] = some (vb (keyB a b), []) := by
  refine EV_run rfl ?_
  have e := str_inj ha hb
  unfold keyB
  by_cases c1 : a.ty = b.ty
  · by_cases c2 : a.nm = b.nm
    · simp (disch := omega) only [go_sem, h82c, e, eq_true c1, eq_true c2]
    · simp (disch := omega) only [go_sem, h82c, e, eq_true c1, c2]
  · simp (disch := omega) only [go_sem, h82c, e, c1]
abbrev keyC (ty : Int) (nm : List Int) (fi : Int) : List Cel := [.dc (ci ty), .dc (.raw (.string (str nm))), .dc (ci fi)]
theorem keys_v (a b : Att) : EV G (Tb (bs bb)) 86 [.agg (keyC a.ty a.nm a.fi), .agg (keyC b.ty b.nm b.fi)] [] = some (vi (firstE [cmpI a.ty b.ty, cmpS a.nm b.nm, cmpI a.fi b.fi]), []) := by
  refine EV_run rfl ?_
  have q1 := numbers_v (G := G) (bb := bb) a.ty b.ty
  have q2 := numbers_v (G := G) (bb := bb) a.fi b.fi
  by_cases c1 : cmpI a.ty b.ty = 0
  · rw [c1] at q1
    rw [c1, firstE_0]
    unfold cmpS
    cases c2 : ltS a.nm b.nm with
    | true =>
      rw [if_pos rfl]
      simp (disch := omega) only [go_sem, h86c, q1, binV_ltS, c2]
      rfl
    | false =>
      rw [if_neg (by decide)]
      cases c3 : gtS a.nm b.nm with
      | true =>
        rw [if_pos rfl]
        simp (disch := omega) only [go_sem, h86c, q1, binV_ltS, binV_gtS, c2, c3]
        rfl
      | false =>
        rw [if_neg (by decide)]
        have e : firstE [0, cmpI a.fi b.fi] = cmpI a.fi b.fi := by
          rw [firstE_0]
          by_cases h : cmpI a.fi b.fi = 0
          · rw [h]; rfl
          · rw [firstE_n _ _ h]
        rw [e]
        simp (disch := omega) only [go_sem, h86c, q1, q2, binV_ltS, binV_gtS, c2, c3]
  · rw [firstE_n _ _ c1]
    generalize cmpI a.ty b.ty = e at c1 q1
    simp (disch := omega) only [go_sem, h86c, q1, c1]
theorem firstE_app (l : List Int) (e : Int) : firstE (l ++ [e]) = if firstE l ≠ 0 then firstE l else e := by
  induction l with
  | nil =>
    show firstE [e] = if (0 : Int) ≠ 0 then 0 else e
    rw [if_neg (by decide)]
    by_cases h : e = 0
    · rw [h]; rfl
    · rw [firstE_n _ _ h]
  | cons x l ih =>
    by_cases h : x = 0
    · rw [h, List.cons_append, firstE_0, firstE_0, ih]
    · rw [List.cons_append, firstE_n _ _ h, firstE_n _ _ h, if_pos h]
theorem compareR_v (a b : Att) : EV G (Tb (bs bb)) 32 [a.v, b.v] [] = some (vi (cmpA a b), []) := by
  refine EV_run rfl ?_
  have q1 := key_v (G := G) (bb := bb) a
  have q2 := key_v (G := G) (bb := bb) b
  have q3 := keys_v (G := G) (bb := bb) a b
  have q4 := numbers_v (G := G) (bb := bb) a.id b.id
  have e := firstE_app [cmpI a.ty b.ty, cmpS a.nm b.nm, cmpI a.fi b.fi] (cmpI a.id b.id)
  unfold cmpA
  rw [show [cmpI a.ty b.ty, cmpS a.nm b.nm, cmpI a.fi b.fi, cmpI a.id b.id] = [cmpI a.ty b.ty, cmpS a.nm b.nm, cmpI a.fi b.fi] ++ [cmpI a.id b.id] from rfl, e]
  generalize firstE [cmpI a.ty b.ty, cmpS a.nm b.nm, cmpI a.fi b.fi] = x at q3 ⊢
  by_cases c : x = 0
  · rw [if_neg (fun h => h c)]
    simp (disch := omega) only [go_sem, h32c, q1, q2, q3, q4, eq_true c]
  · rw [if_pos c]
    simp (disch := omega) only [go_sem, h32c, q1, q2, q3, c]
end
section
variable {G : Glob} {bb : Bool}
theorem getDA (l : List Att) (k : Nat) (hk : k < l.length) : l.getD k Att.nil = l[k] := by simp [List.getD, hk]
theorem all_att (l : List Att) : ((l.map Att.e).all fun e => decide (e.length = 11)) = true := by simp [Att.e]
end
section
variable {G : Glob} {bb : Bool}
theorem ixA (l : List Att) (k : Nat) (hk : k < l.length) : (l.map Att.e)[k]? = some l[k].e := by
  rw [List.getElem?_map, List.getElem?_eq_getElem hk]; rfl
noncomputable def idxV (p : Att → Bool) (l : List Att) : Int := if ix (fun k => p (l.getD k Att.nil) = true) l.length = l.length then -1 else (ix (fun k => p (l.getD k Att.nil) = true) l.length : Nat)
theorem isId_v (l : List Att) (i : Nat) (hi : i < l.length) (a : Att) :
    EV G (Tb (bs bb)) 130 [a.v, .one (.ptr 0 0), .one (.ptr 1 0)] [.box [.dc (.slc (l.map Att.e))], .box [.dc (ci i)]] = some (vb (decide (a.id = l[i].id)), [.box [.dc (.slc (l.map Att.e))], .box [.dc (ci i)]]) := by
  refine EV_run rfl ?_
  simp (disch := omega) only [go_sem, h130c, List.length_map, ixA, Att.e]
theorem idxI_v (l : List Att) (i : Nat) (hi : i < l.length) (m : List Att) (hm : m.length ≤ 1000000) :
    EV G (Tb (bs bb)) 83 [vl (m.map Att.e), .one (.fn 130 [.ptr 0 0, .ptr 1 0])] [.box [.dc (.slc (l.map Att.e))], .box [.dc (ci i)]] = some (vi (idxV (fun a => decide (a.id = l[i].id)) m), [.box [.dc (.slc (l.map Att.e))], .box [.dc (ci i)]]) := by
  refine EV_run rfl ?_
  simp (disch := omega) only [go_sem, h83c, List.length_map]
  unfold idxV
  rw [EL_fst (fun k => ⟨(vl (m.map Att.e) :: .one (.fn 130 [.ptr 0 0, .ptr 1 0]) :: jk 5 (vi m.length :: vi k :: jk 10 [])), [.box [.dc (.slc (l.map Att.e))], .box [.dc (ci i)]]⟩) (fun k => decide ((m.getD k Att.nil).id = l[i].id) = true) m.length ?_ ?_]
  rotate_left
  · rfl
  · intro k hk hn
    have h3 := hn k (Nat.le_refl _)
    rw [getDA m k hk] at h3
    have h4 : decide (m[k].id = l[i].id) = false := by simpa using h3
    have q := isId_v (G := G) (bb := bb) l i hi m[k]
    rw [h4] at q
    simp (disch := omega) only [go_sem, h83l0, List.length_map, ixA, Att.e, q]
  obtain ⟨hk, hp, hn⟩ := ix_spec (fun k => decide ((m.getD k Att.nil).id = l[i].id) = true) m.length
  generalize ix (fun k => decide ((m.getD k Att.nil).id = l[i].id) = true) m.length = k at *
  rcases hp with rfl | ⟨hk', hp⟩
  · rw [if_pos rfl]
    simp (disch := omega) only [go_sem, h83l0, List.length_map]
  · rw [if_neg (by omega)]
    rw [getDA m k hk'] at hp
    have q := isId_v (G := G) (bb := bb) l i hi m[k]
    rw [hp] at q
    simp (disch := omega) only [go_sem, h83l0, List.length_map, ixA, Att.e, q]
theorem idxV_pos (p : Att → Bool) (l : List Att) : decide (0 ≤ idxV p l) = l.any p := by
  unfold idxV
  obtain ⟨hk, hp, hn⟩ := ix_spec (fun k => p (l.getD k Att.nil) = true) l.length
  generalize ix (fun k => p (l.getD k Att.nil) = true) l.length = k at *
  rcases hp with rfl | ⟨hk', hp⟩
  · rw [if_pos rfl]
    symm
    rw [show decide ((0 : Int) ≤ -1) = false from rfl, List.any_eq_false]
    intro x hx
    obtain ⟨j, hj, rfl⟩ := List.getElem_of_mem hx
    have := hn j hj
    rw [getDA l j hj] at this
    exact this
  · rw [if_neg (by omega), decide_eq_true (by omega)]
    symm
    rw [List.any_eq_true]
    rw [getDA l k hk'] at hp
    exact ⟨l[k], List.getElem_mem hk', hp⟩
theorem contI_v (l : List Att) (i : Nat) (hi : i < l.length) (m : List Att) (hm : m.length ≤ 1000000) :
    EV G (Tb (bs bb)) 129 [vl (m.map Att.e), .one (.fn 130 [.ptr 0 0, .ptr 1 0])] [.box [.dc (.slc (l.map Att.e))], .box [.dc (ci i)]] = some (vb (m.any fun a => decide (a.id = l[i].id)), [.box [.dc (.slc (l.map Att.e))], .box [.dc (ci i)]]) := by
  refine EV_run rfl ?_
  have q := idxI_v (G := G) (bb := bb) l i hi m hm
  rw [← idxV_pos]
  simp (disch := omega) only [go_sem, h129c, q]
theorem mapM2 {α β : Type} (f : α → Option β) (x y : α) : [x, y].mapM f = (f x).bind fun a => (f y).map fun b => [a, b] := by
  simp only [List.mapM_cons, List.mapM_nil]
  cases f x with
  | none => rfl
  | some a => cases f y <;> rfl
def dupA (l : List Att) (i : Nat) : Bool := (l.take i).any fun a => decide (a.id = (l.getD i Att.nil).id)
def sngE (l : List Att) (i : Nat) : Int := firstE [errA (l.getD i Att.nil), un (!dupA l i) 23]
theorem single_v (l : List Att) (hW : ∀ a ∈ l, a.W) (hl : l.length ≤ 1000) (i : Nat) (hi : i < l.length) : EV G (Tb (bs bb)) 80 [vl (l.map Att.e), vi i] [] = some (vi (sngE l i), []) := by
  refine EV_run rfl ?_
  have q := contI_v (G := G) (bb := bb) l i hi (l.take i) (by rw [List.length_take]; omega)
  have q1 := checkA_v (G := G) (bb := bb) l[i] (hW _ (List.getElem_mem hi))
  rw [List.map_take] at q
  unfold sngE dupA
  rw [getDA l i hi]
  simp (disch := omega) only [go_sem, h80c, List.length_map, ixA, Att.e, q, q1, all_att, unless8_u, first8_2, mapM2, Option.map_some, Option.bind_some]
end
section
variable {G : Glob} {bb : Bool}
def ordE (l : List Att) (k : Nat) : Int := if k = 0 then sngE l 0 else
  firstE [sngE l k, un (decide (cmpA (l.getD (k - 1) Att.nil) (l.getD k Att.nil) ≤ 0)) 9, un (!keyB (l.getD (k - 1) Att.nil) (l.getD k Att.nil) || decide ((l.getD k Att.nil).ty = 48)) 5]
noncomputable def ordV (l : List Att) : Int × Int := if l.length > 32 then (0, 8) else
  if ix (fun k => ordE l k ≠ 0) l.length < l.length then ((ix (fun k => ordE l k ≠ 0) l.length : Nat), ordE l (ix (fun k => ordE l k ≠ 0) l.length)) else (0, 0)
abbrev iiv (p : Int × Int) : AV := .tup [.one (.dc (ci p.1)), .one (.dc (ci p.2))]
theorem ixP (l : List Att) (k : Nat) (hk : k < l.length) (h0 : 0 < k) : (l.map Att.e)[((k : Int) - 1).toNat]? = some l[k - 1].e := by
  rw [show ((k : Int) - 1).toNat = k - 1 by omega]
  exact ixA l (k - 1) (by omega)
set_option maxHeartbeats 4000000 in
theorem order_v (l : List Att) (hW : ∀ a ∈ l, a.W) (hl : l.length ≤ 1000) : EV G (Tb (bs bb)) 28 [vl (l.map Att.e)] [] = some (iiv (ordV l), []) := by
  refine EV_run rfl ?_
  unfold ordV
  by_cases c1 : l.length > 32
  · rw [if_pos c1]
    have d2 : 32 < (l.length : Int) := by omega
    simp (disch := omega) only [go_sem, h28c, List.length_map, eq_true d2]
  rw [if_neg c1]
  have d2 : ¬ 32 < (l.length : Int) := by omega
  simp (disch := omega) only [go_sem, h28c, List.length_map, d2]
  rw [EL_fst (fun k => ⟨(vl (l.map Att.e) :: jk 10 (vl (l.map Att.e) :: vi l.length :: vi k :: jk 37 [])), []⟩) (fun k => ordE l k ≠ 0) l.length ?_ ?_]
  rotate_left
  · rfl
  · intro k hk hn
    have hz := Classical.not_not.1 (hn k (Nat.le_refl _))
    have q := single_v (G := G) (bb := bb) l hW hl k hk
    by_cases h0 : k = 0
    · subst h0
      simp only [ordE, if_true] at hz
      rw [hz] at q
      have q0 : EV G (Tb (bs bb)) 80 [vl (l.map Att.e), vi 0] [] = some (vi 0, []) := q
      have i0 : (l.map Att.e)[(0 : Nat)]? = some l[0].e := ixA l 0 hk
      simp (disch := omega) only [go_sem, h28l0, List.length_map, ixA, i0, Att.e, str_nil, q0, Int.natCast_zero, Int.lt_irrefl, decide_false, Int.toNat_zero]
      rfl
    · have d0 : 0 < (k : Int) := by omega
      unfold ordE at hz
      rw [if_neg h0, getDA l (k - 1) (by omega), getDA l k hk] at hz
      have iP := ixP l k hk (by omega)
      have q1 := compare_v (G := G) (bb := bb) l[k - 1] l[k]
      have q2 := sameKey_v (G := G) (bb := bb) l[k - 1] l[k] (hW _ (List.getElem_mem _)).nm (hW _ (List.getElem_mem _)).nm
      cases hb : keyB l[k - 1] l[k] with
      | false =>
        rw [hb] at hz q2
        simp only [Bool.not_false, Bool.true_or] at hz
        simp (disch := omega) only [go_sem, h28l0, List.length_map, ixA, iP, Att.e, str_nil, q, eq_true d0, q1, q2, unless8_u, first8_3, hz]
      | true =>
        rw [hb] at hz q2
        simp only [Bool.not_true, Bool.false_or] at hz
        simp (disch := omega) only [go_sem, h28l0, List.length_map, ixA, iP, Att.e, str_nil, q, eq_true d0, q1, q2, unless8_u, first8_3, hz]
  obtain ⟨hk, hp, hn⟩ := ix_spec (fun k => ordE l k ≠ 0) l.length
  generalize ix (fun k => ordE l k ≠ 0) l.length = k at *
  rcases hp with rfl | ⟨hk', hz⟩
  · rw [if_neg (Nat.lt_irrefl _)]
    simp (disch := omega) only [go_sem, h28l0, List.length_map]
  · rw [if_pos hk']
    have q := single_v (G := G) (bb := bb) l hW hl k hk'
    by_cases h0 : k = 0
    · subst h0
      simp only [ordE, if_true] at hz ⊢
      have q0 : EV G (Tb (bs bb)) 80 [vl (l.map Att.e), vi 0] [] = some (vi (sngE l 0), []) := q
      have i0 : (l.map Att.e)[(0 : Nat)]? = some l[0].e := ixA l 0 hk'
      simp (disch := omega) only [go_sem, h28l0, List.length_map, ixA, i0, Att.e, str_nil, q0, Int.natCast_zero, Int.lt_irrefl, decide_false, Int.toNat_zero, hz]
    · have d0 : 0 < (k : Int) := by omega
      unfold ordE at hz ⊢
      rw [if_neg h0, getDA l (k - 1) (by omega), getDA l k hk'] at hz ⊢
      have iP := ixP l k hk' (by omega)
      have q1 := compare_v (G := G) (bb := bb) l[k - 1] l[k]
      have q2 := sameKey_v (G := G) (bb := bb) l[k - 1] l[k] (hW _ (List.getElem_mem _)).nm (hW _ (List.getElem_mem _)).nm
      cases hb : keyB l[k - 1] l[k] with
      | false =>
        rw [hb] at hz q2
        simp only [Bool.not_false, Bool.true_or] at hz ⊢
        simp (disch := omega) only [go_sem, h28l0, List.length_map, ixA, iP, Att.e, str_nil, q, eq_true d0, q1, q2, unless8_u, first8_3, hz]
      | true =>
        rw [hb] at hz q2
        simp only [Bool.not_true, Bool.false_or] at hz ⊢
        simp (disch := omega) only [go_sem, h28l0, List.length_map, ixA, iP, Att.e, str_nil, q, eq_true d0, q1, q2, unless8_u, first8_3, hz]
end
section
variable {G : Glob} {bb : Bool}
theorem each_v (l : List Att) (hW : ∀ a ∈ l, a.W) (hl : l.length ≤ 1000) (i : Nat) (hi : i < l.length) : EV G (Tb (bs bb)) 85 [vl (l.map Att.e), vi i] [] = some (vi (sngE l i), []) := by
  refine EV_run rfl ?_
  have q := errR_v (G := G) (bb := bb) l[i] (hW _ (List.getElem_mem hi))
  unfold sngE dupA
  rw [getDA l i hi]
  by_cases c : errA l[i] = 0
  · rw [c] at q
    rw [c, firstE_0]
    simp (disch := omega) only [go_sem, h85c, List.length_map, ixA, Att.e, q]
    rw [EL_fst (fun k => ⟨(vl (l.map Att.e) :: vi i :: jk 4 (vi k :: jk 24 [])), []⟩) (fun k => (l.getD k Att.nil).id = l[i].id) i ?_ ?_]
    rotate_left
    · rfl
    · intro k hk hn
      have h1 := hn k (Nat.le_refl _)
      rw [getDA l k (by omega)] at h1
      simp (disch := omega) only [go_sem, h85l0, List.length_map, ixA, Att.e, h1]
    obtain ⟨hk, hp, hn⟩ := ix_spec (fun k => (l.getD k Att.nil).id = l[i].id) i
    generalize ix (fun k => (l.getD k Att.nil).id = l[i].id) i = k at *
    rcases hp with rfl | ⟨hk', hp⟩
    · have e : ((l.take k).any fun a => decide (a.id = l[k].id)) = false := by
        rw [List.any_eq_false]
        intro x hx
        obtain ⟨j, hj, rfl⟩ := List.getElem_of_mem hx
        rw [List.length_take] at hj
        have := hn j (by omega)
        rw [getDA l j (by omega)] at this
        simpa using this
      rw [e]
      simp (disch := omega) only [go_sem, h85l0, List.length_map]
      rfl
    · rw [getDA l k (by omega)] at hp
      have e : ((l.take i).any fun a => decide (a.id = l[i].id)) = true := by
        rw [List.any_eq_true]
        refine ⟨l[k], ?_, decide_eq_true hp⟩
        rw [List.mem_take_iff_getElem]
        exact ⟨k, by omega, rfl⟩
      rw [e]
      simp (disch := omega) only [go_sem, h85l0, List.length_map, ixA, Att.e, eq_true hp]
      rfl
  · rw [firstE_n _ _ c]
    simp (disch := omega) only [go_sem, h85c, List.length_map, ixA, Att.e, q, c]
theorem keyB_t {a b : Att} : keyB a b = true ↔ a.ty = b.ty ∧ a.nm = b.nm ∧ a.fi = b.fi := by simp [keyB]
end
section
variable {G : Glob} {bb : Bool}
end
section
variable {G : Glob} {B : CallT}
end
section
variable {G : Glob} {bb : Bool}
end
section
variable {G : Glob} {bb : Bool}
end
section
variable {G : Glob} {bb : Bool}
def fewB (a : Att) : Bool := decide (a.rs.length ≤ 80) && (decide (a.va.length ≤ 500) && decide (a.nm.length ≤ 60))
theorem getD_lt {α : Type} (l : List α) (d : α) (k : Nat) (h : k < l.length) : l.getD k d = l[k] := by
  rw [List.getD_eq_getElem?_getD, List.getElem?_eq_getElem h]; rfl
theorem all_ix {α : Type} (l : List α) (d : α) (p : α → Bool) : (ix (fun k => p (l.getD k d) = false) l.length = l.length) ↔ l.all p = true := by
  obtain ⟨h1, h2, h3⟩ := ix_spec (fun k => p (l.getD k d) = false) l.length
  constructor
  · intro e
    rw [List.all_eq_true]
    intro x hx
    obtain ⟨k, hk, rfl⟩ := List.getElem_of_mem hx
    have := h3 k (by omega)
    have e1 := getD_lt l d k hk
    rw [e1] at this
    simpa using this
  · intro h
    rcases h2 with h2 | ⟨h2, h4⟩
    · exact h2
    · have e1 := getD_lt l d _ h2
      rw [e1] at h4
      rw [List.all_eq_true.1 h _ (List.getElem_mem h2)] at h4
      cases h4
theorem fews_v (l : List Att) (hl : l.length ≤ 9223372036854775807) : EV G (Tb (bs bb)) 25 [vl (l.map Att.e)] [] = some (vb (l.all fewB && decide (l.length ≤ 40)), []) := by
  refine EV_run rfl ?_
  simp (disch := omega) only [go_sem, h25c]
  rw [EL_fst (fun k => ⟨(vl (l.map Att.e) :: jk 2 (vi k :: jk 15 [])), []⟩) (fun k => fewB (l.getD k Att.nil) = false) l.length ?_ ?_]
  rotate_left
  · rfl
  · intro k hk hn
    have h1 := hn k (Nat.le_refl _)
    rw [getDA l k hk] at h1
    have h2 : fewB l[k] = true := by simpa using h1
    have q := few_v (G := G) (bb := bb) l[k]
    unfold fewB at h2
    rw [h2] at q
    simp (disch := omega) only [go_sem, h25l0, List.length_map, ixA, Att.e, q]
  have hx := all_ix l Att.nil fewB
  obtain ⟨hk, hp, hn⟩ := ix_spec (fun k => fewB (l.getD k Att.nil) = false) l.length
  generalize ix (fun k => fewB (l.getD k Att.nil) = false) l.length = k at *
  rcases hp with rfl | ⟨hk', hp⟩
  · rw [hx.1 rfl]
    by_cases c : l.length ≤ 40
    · have c' : (l.length : Int) ≤ 40 := by omega
      simp (disch := omega) only [go_sem, h25l0, List.length_map, eq_true c']
      simp [c]
    · have c' : ¬ (l.length : Int) ≤ 40 := by omega
      simp (disch := omega) only [go_sem, h25l0, List.length_map, c']
      simp [c]
  · have e : l.all fewB = false := by
      cases h : l.all fewB with
      | false => rfl
      | true => have := hx.2 h; omega
    rw [e]
    rw [getDA l k hk'] at hp
    have q := few_v (G := G) (bb := bb) l[k]
    unfold fewB at hp
    rw [hp] at q
    simp (disch := omega) only [go_sem, h25l0, List.length_map, ixA, Att.e, q]
theorem takeA (l : List Att) (k : Nat) (hk : k < l.length) : (l.take (k + 1)).map Att.e = (l.take k).map Att.e ++ [l[k].e] := by
  rw [List.take_succ_eq_append_getElem hk, List.map_append]; rfl
theorem copyAs_v (l : List Att) (hl : l.length ≤ 1000) (hr : ∀ a ∈ l, a.rs.length ≤ 1000000) : EV G (Tb (bs bb)) 26 [vl (l.map Att.e)] [] = some (vl (l.map Att.e), []) := by
  refine EV_run rfl ?_
  simp (disch := omega) only [go_sem, h26c]
  rw [EL_loop (fun k => ⟨(vl (l.map Att.e) :: jk 2 (.one (.bld 0 ((l.take k).map Att.e).length) :: vi k :: jk 15 [])), [.arr 0 11 ((l.take k).map Att.e)]⟩) l.length ?_ ?_]
  · simp (disch := omega) only [go_sem, h26l0, List.length_map, List.take_length]
  · rfl
  · intro k hk
    have q := copyA_v (G := G) (bb := bb) l[k] (hr _ (List.getElem_mem hk))
    have hb : ((l.take k).map Att.e).length ≤ 1000 := by rw [List.length_map, List.length_take]; omega
    have hall := all_att (l.take k)
    rw [takeA l k hk]
    generalize (l.take k).map Att.e = C at hb hall ⊢
    simp (disch := omega) only [go_sem, h26l0, List.length_map, ixA, Att.e, q, hall]
    rw [List.length_append]
    rfl
end
end Go.Proofs.YtmognenhkecngaaGreatDoor
