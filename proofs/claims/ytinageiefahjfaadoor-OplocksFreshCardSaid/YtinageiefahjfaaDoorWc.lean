/- The chapter's examples. Conditions: none. -/
import Derived.Test.YtinageiefahjfaaDoorSb
import Derived.Test.YtinageiefahjfaaDoorUm
import Derived.Test.YtinageiefahjfaaDoorTh
import Derived.Test.YtinageiefahjfaaDoorWb
import Derived.Test.YtinageiefahjfaaDoorUs
import Derived.Test.YtinageiefahjfaaDoorMb
import Derived.KernelRfl
namespace Go.Proofs.YtinageiefahjfaaDoor
set_option linter.unusedSimpArgs false
set_option linter.unusedVariables false
set_option maxRecDepth 4000
section
def ust (x : Ca) (a : Cu) : Ca × Int := usF x a.k a.c a.l a.u
def runC (x : Ca) (l : List Cu) : Ca := l.foldl (fun y a => (ust y a).1) x
theorem runC_s (x : Ca) (a : Cu) (l : List Cu) : runC x (a :: l) = runC (ust x a).1 l := rfl
theorem runC_t (x : Ca) (l : List Cu) (i : Nat) (h : i < l.length) : runC x (l.take (i + 1)) = (ust (runC x (l.take i)) l[i]).1 := by
  unfold runC
  rw [List.take_add_one, List.getElem?_eq_getElem h, Option.toList_some, List.foldl_append]
  rfl
def okN (x : Ca) (l : List Cu) (m : Nat) : Prop := ∀ i (h : i < l.length), i < m → (ust (runC x (l.take i)) l[i]).2 = 0
theorem cuX_e : ∀ (l : List Cu) (x : Ca) (n : Nat), ∃ m, m ≤ l.length ∧ okN x l m ∧ ((m = l.length ∧ cuX x n l = (runC x l, 0, 0)) ∨ (m < l.length ∧ (cuX x n l).2.2 ≠ 0 ∧ (cuX x n l).2.1 = ((n + m : Nat) : Int)))
  | [], x, n => ⟨0, Nat.le_refl _, fun i h => by simp at h, .inl ⟨rfl, rfl⟩⟩
  | a :: l, x, n => by
    rw [cuX]
    by_cases he : (usF x a.k a.c a.l a.u).2 = 0
    · rw [if_pos he]
      obtain ⟨m, h1, h2, h3⟩ := cuX_e l (usF x a.k a.c a.l a.u).1 (n + 1)
      refine ⟨m + 1, by simpa using h1, fun i hi hm => ?_, ?_⟩
      · cases i with
        | zero => exact he
        | succ i =>
          have := h2 i (by simpa using hi) (by omega)
          exact this
      · rcases h3 with ⟨h3, h4⟩ | ⟨h3, h4, h5⟩
        · left
          exact ⟨by simpa using h3, h4⟩
        · right
          refine ⟨by simpa using h3, h4, ?_⟩
          rw [h5]; omega
    · rw [if_neg he]
      exact ⟨0, Nat.zero_le _, fun i hi hm => by omega, .inr ⟨by simp, he, by simp⟩⟩
theorem cuX_of {l : List Cu} {x : Ca} {n : Nat} (h : okN x l l.length) : cuX x n l = (runC x l, 0, 0) := by
  induction l generalizing x n with
  | nil => rfl
  | cons a l ih =>
    have h0 : (usF x a.k a.c a.l a.u).2 = 0 := h 0 (by simp) (by simp)
    have h1 : okN (usF x a.k a.c a.l a.u).1 l l.length := fun i hi _ => h (i + 1) (by simpa using hi) (by simpa using hi)
    rw [cuX, if_pos h0, ih h1]
    rfl
theorem okN_take {x : Ca} {l : List Cu} {m k : Nat} (h : okN x l m) (hk : k ≤ m) (hm : m ≤ l.length) : okN x (l.take k) (l.take k).length := by
  intro i hi _
  have hi2 : i < k ∧ i < l.length := by simpa [Nat.lt_min] using hi
  have := h i hi2.2 (by omega)
  rw [List.take_take, show min i k = i by omega, List.getElem_take]
  exact this
theorem crF_ok {l : List Cu} (hl : l.length ≤ 100) (h : okN (ca1 9) l l.length) : crF l = ((runC (ca1 9) l).k, (l.length : Int), 0) := by
  unfold crF
  rw [if_neg (by omega), cuX_of h, if_neg (by simp)]
theorem crF_e {l : List Cu} (hl : l.length ≤ 100) : ∃ m, m ≤ l.length ∧ okN (ca1 9) l m ∧ ((m = l.length ∧ crF l = ((runC (ca1 9) l).k, (l.length : Int), 0)) ∨ (m < l.length ∧ (crF l).2.2 ≠ 0 ∧ (crF l).2.1 = (m : Int))) := by
  obtain ⟨m, h1, h2, h3⟩ := cuX_e l (ca1 9) 0
  refine ⟨m, h1, h2, ?_⟩
  rcases h3 with ⟨h3, h4⟩ | ⟨h3, h4, h5⟩
  · left
    refine ⟨h3, crF_ok hl ?_⟩
    rw [h3] at h2; exact h2
  · right
    unfold crF
    rw [if_neg (by omega), if_pos h4]
    refine ⟨h3, h4, ?_⟩
    simp only
    rw [h5]; simp
def spL : Ca → (Int → Int) → Int × List Int → List Cu → (Int → Int) × Int × List Int
  | _, vals, p, [] => (vals, p)
  | x, vals, p, a :: l => spL (ust x a).1 (vls vals a.k a.c a.u) (spc vals a.k a.c a.u x.ws (ust x a).1.ws p.1 p.2) l
theorem rv0 : Rv (ca1 9) (fun _ => 0) (0, []) := by
  refine ⟨Vd.nil, Hd.nil, ⟨fun n hn hd => ?_, fun n hn hk => ?_, fun _ => rfl, fun a ha => ?_⟩, rfl, fun w hw => ?_⟩
  · cases hd
  · exact absurd (if_pos hn) hk
  · cases ha
  · cases hw
theorem spL_rv : ∀ (l : List Cu) (x : Ca) (vals : Int → Int) (p : Int × List Int), Rv x vals p → okN x l l.length → Rv (runC x l) (spL x vals p l).1 (spL x vals p l).2
  | [], x, vals, p, h, _ => h
  | a :: l, x, vals, p, h, ho => by
    rw [runC_s, spL]
    refine spL_rv l _ _ _ (us_rv h (ho 0 (by simp) (by simp))).1 (fun i hi _ => ho (i + 1) (by simpa using hi) (by simpa using hi))
theorem spL_t : ∀ (l : List Cu) (x : Ca) (vals : Int → Int) (p : Int × List Int) (i : Nat) (h : i < l.length),
    spL x vals p (l.take (i + 1)) = (vls (spL x vals p (l.take i)).1 l[i].k l[i].c l[i].u, spc (spL x vals p (l.take i)).1 l[i].k l[i].c l[i].u (runC x (l.take i)).ws (ust (runC x (l.take i)) l[i]).1.ws (spL x vals p (l.take i)).2.1 (spL x vals p (l.take i)).2.2)
  | [], x, vals, p, i, h => by simp at h
  | a :: l, x, vals, p, 0, h => rfl
  | a :: l, x, vals, p, i + 1, h => by
    rw [List.take_succ_cons, spL, spL_t l _ _ _ i (by simpa using h)]
    rfl
def endF (x : Ca) : Nat → Int
  | 0 => x.v
  | n + 1 => if x.D (n + 1) = true then x.K (n + 1) else endF x n
theorem end_last {x : Ca} {last : Int} (h : Iv x last) (hv : Vd x.gs x.ws) : endF x 8 = last := by
  have h0 : x.D 0 = false := by
    cases h1 : x.D 0 with
    | false => rfl
    | true =>
      have h2 := (h.d 0 (by omega) h1).1
      obtain ⟨g, hg, h3, _⟩ := lvF_ge hv.so (c := ((0 : Nat) : Int)) (by omega)
      have := (hv.rg g hg).1
      omega
  have key : ∀ n, n < 9 → endF x n = last ∨ (endF x n = x.v ∧ ∀ m, m ≤ n → x.D m = false) := by
    intro n
    induction n with
    | zero => intro _; exact .inr ⟨rfl, fun m hm => by rw [show m = 0 by omega]; exact h0⟩
    | succ n ih =>
      intro hn
      rw [endF]
      cases h1 : x.D (n + 1) with
      | true =>
        rw [if_pos rfl]
        exact .inl (h.d (n + 1) hn h1).2.2
      | false =>
        rw [if_neg (by simp)]
        rcases ih (by omega) with h2 | ⟨h2, h3⟩
        · exact .inl h2
        · refine .inr ⟨h2, fun m hm => ?_⟩
          by_cases hm2 : m = n + 1
          · rw [hm2]; exact h1
          · exact h3 m (by omega)
  rcases key 8 (by omega) with h1 | ⟨h1, h2⟩
  · exact h1
  · rw [h1]
    exact h.v (fun n hn => h2 n (by omega))
end
section
variable {G : Glob} {bb : Bool}
theorem rwithin_v (n lo hi : Int) : EV G (Tb (bs bb)) 7 [vi n, vi lo, vi hi] [] = some (vb (wi n lo hi), []) := by
  refine EV_run rfl ?_
  unfold wi
  by_cases h : lo ≤ n
  all_goals simp (disch := omega) only [go_sem, h7c]
  all_goals simp [h]
end
section
variable {G : Glob} {bb : Bool}
end
section
variable {G : Glob} {bb : Bool}
noncomputable def wtI (ws : List Wt) (c : Int) : Int := idxG (fun g => decide (g.c = c)) ws ⟨0, 0⟩
theorem wtI_in (ws : List Wt) (c : Int) : decide (0 ≤ wtI ws c) = isW ws c := idxG_pos _ _ _
theorem rwaiting_v (gs : List Gr) (ws : List Wt) (c : Int) (hl : ws.length ≤ 100000) : EV G (Tb (bs bb)) 8 [flV gs ws, vi c] [] = some (vi (wtI ws c), []) := by
  refine EV_run rfl ?_
  simp (disch := omega) only [go_sem, h8c]
  unfold wtI idxG
  rw [EL_fst (fun j => ⟨(jk 1 (vi c :: .one (.ptr 0 0) :: jk 2 (vi j :: jk 16 []))), [.box [.dc (.slc (gs.map Gr.e)), .dc (.slc (ws.map Wt.e))]]⟩) (fun j => decide ((ws.getD j ⟨0, 0⟩).c = c) = true) ws.length ?_ ?_]
  rotate_left
  · rfl
  · intro j hj hn
    have h3 := hn j (Nat.le_refl _)
    rw [getDz ws _ j hj] at h3
    have eg : (ws.map Wt.e)[j]? = some [ci ws[j].c, ci ws[j].k] := by rw [List.getElem?_map, List.getElem?_eq_getElem hj]; rfl
    generalize ws[j] = g at *
    have h1 : ¬ g.c = c := by simpa using h3
    simp (disch := omega) only [go_sem, h8l0, eg, h1]
  obtain ⟨hk, hp, hn⟩ := ix_spec (fun j => decide ((ws.getD j ⟨0, 0⟩).c = c) = true) ws.length
  generalize ix (fun j => decide ((ws.getD j ⟨0, 0⟩).c = c) = true) ws.length = j at *
  rcases hp with rfl | ⟨hj, hp⟩
  · rw [if_pos rfl]
    simp (disch := omega) only [go_sem, h8l0]
  · rw [if_neg (by omega)]
    rw [getDz ws _ j hj] at hp
    have eg : (ws.map Wt.e)[j]? = some [ci ws[j].c, ci ws[j].k] := by rw [List.getElem?_map, List.getElem?_eq_getElem hj]; rfl
    generalize ws[j] = g at *
    have h1 : g.c = c := by simpa using hp
    simp (disch := omega) only [go_sem, h8l0, eg, eq_true h1]
end
section
def u8 (n : Int) : UInt8 := UInt8.ofNat n.toNat
def str (l : List Int) : ByteArray := ⟨(l.map u8).toArray⟩
abbrev sv (l : List Int) : AV := .one (.dc (.raw (.string (str l))))
theorem str_nil : (⟨#[]⟩ : ByteArray) = str [] := rfl
theorem str_size (l : List Int) : (str l).size = l.length := by simp [str, ByteArray.size]
theorem str_app (a b : List Int) : str a ++ str b = str (a ++ b) := by
  apply ByteArray.ext
  simp [str, ByteArray.data_append]
theorem sadd_s {a b : List Int} (h : a.length + b.length ≤ 9223372036854775807) : binV .add (sv a) (sv b) = some (sv (a ++ b)) := by
  rw [bin_sadd (by rw [str_size, str_size]; exact h), str_app]
theorem str_data (l : List Int) : (str l).data.toList = l.map u8 := by simp [str]
def jnI (s : List Int) : List (List Int) → List Int
  | [] => []
  | [a] => a
  | a :: b :: l => a ++ s ++ jnI s (b :: l)
theorem jnI_join (s : List Int) : ∀ l : List (List Int), Lib.join (l.map (·.map u8)) (s.map u8) = (jnI s l).map u8
  | [] => rfl
  | [a] => by rw [List.map_cons, List.map_nil, Lib.join_one]; rfl
  | a :: b :: l => by
    have ih := jnI_join s (b :: l)
    rw [jnI, List.map_append, List.map_append, ← ih]
    simp [Lib.join, List.intercalate]
theorem joinS_s (s : List Int) (l : List (List Int)) : joinS (l.map str) (str s) = str (jnI s l) := by
  apply ByteArray.ext
  apply Array.ext'
  simp only [joinS, str_data, List.map_map, Function.comp_def]
  rw [jnI_join]
def sS (l : List Int) : List DC := [.raw (.string (str l))]
theorem allLen_s : ∀ l : List (List Int), allLen 1 (l.map sS) = true
  | [] => rfl
  | g :: gs => by rw [List.map_cons, allLen, allLen_s gs]; rfl
end
section
variable {G : Glob} {bb : Bool}
def ltr (k : Int) : List Int := if k = 0 then [111] else if k = 2 then [114] else if k = 3 then [119] else [63]
theorem c58 : (⟨#[58]⟩ : ByteArray) = str [58] := rfl
theorem c62 : (⟨#[62]⟩ : ByteArray) = str [62] := rfl
theorem c44 : (⟨#[44]⟩ : ByteArray) = str [44] := rfl
theorem c59 : (⟨#[59]⟩ : ByteArray) = str [59] := rfl
theorem c111 : (⟨#[111]⟩ : ByteArray) = str [111] := rfl
theorem c114 : (⟨#[114]⟩ : ByteArray) = str [114] := rfl
theorem c119 : (⟨#[119]⟩ : ByteArray) = str [119] := rfl
theorem c63 : (⟨#[63]⟩ : ByteArray) = str [63] := rfl
theorem letter_v (k : Int) : EV G (Tb (bs bb)) 38 [vi k] [] = some (sv (ltr k), []) := by
  refine EV_run rfl ?_
  unfold ltr
  by_cases h0 : k = 0
  · simp (disch := omega) only [go_sem, h38c, eq_true h0, c111]
  · by_cases h2 : k = 2
    · simp (disch := omega) only [go_sem, h38c, h0, eq_true h2, c114]
    · by_cases h3 : k = 3
      · simp (disch := omega) only [go_sem, h38c, h0, h2, eq_true h3, c119]
      · simp (disch := omega) only [go_sem, h38c, h0, h2, h3, c63]
section
variable (D : Int → List Int)
def txG (g : Gr) : List Int := D g.c ++ [58] ++ D g.l ++ [62] ++ D g.t
def txW (w : Wt) : List Int := D w.c ++ ltr w.k
def txF (gs : List Gr) (ws : List Wt) : List Int := jnI [44] (gs.map (txG D)) ++ [59] ++ jnI [44] (ws.map (txW D))
abbrev foH (gs : List Gr) (ws : List Wt) (a b : List (List Int)) : List AObj := [.box [.dc (.slc (gs.map Gr.e)), .dc (.slc (ws.map Wt.e))], .arr 0 1 (a.map sS), .arr 0 1 (b.map sS)]
def fo0 (gs : List Gr) (ws : List Wt) (k : Nat) : AS := ⟨(jk 1 (.one (.ptr 0 0) :: jk 1 (.one (.bld 1 k) :: .one (.bld 2 0) :: jk 5 (vl (gs.map Gr.e) :: vi gs.length :: vi k :: jk 44 [])))), foH gs ws ((gs.take k).map (txG D)) []⟩
theorem fo0_round (hD : ∀ n, (D n).length ≤ 20) (gs : List Gr) (ws : List Wt) (hl : gs.length ≤ 1000000) (k : Nat) (hk : k < gs.length) (g : Gr) (hg : gs[k] = g) (h1 : EV G (Tb (bs bb)) 37 [vi g.c] [] = some (sv (D g.c), [])) (h2 : EV G (Tb (bs bb)) 37 [vi g.l] [] = some (sv (D g.l), [])) (h3 : EV G (Tb (bs bb)) 37 [vi g.t] [] = some (sv (D g.t), [])) :
    rnK [1, 1, 0, 5, 0, 0] 3 (EC (EV G (Tb (bs bb))) G h17l0 (fo0 D gs ws k)) = some (fo0 D gs ws (k + 1)) := by
  have eg : (gs.map Gr.e)[k]? = some [ci g.c, ci g.l, ci g.t] := by rw [List.getElem?_map, List.getElem?_eq_getElem hk, hg]; rfl
  have a1 := hD g.c
  have a2 := hD g.l
  have a3 := hD g.t
  have s1 : binV .add (sv (D g.c)) (sv [58]) = some (sv (D g.c ++ [58])) := sadd_s (by simp; omega)
  have s2 : binV .add (sv (D g.c ++ [58])) (sv (D g.l)) = some (sv (D g.c ++ [58] ++ D g.l)) := sadd_s (by simp; omega)
  have s3 : binV .add (sv (D g.c ++ [58] ++ D g.l)) (sv [62]) = some (sv (D g.c ++ [58] ++ D g.l ++ [62])) := sadd_s (by simp; omega)
  have s4 : binV .add (sv (D g.c ++ [58] ++ D g.l ++ [62])) (sv (D g.t)) = some (sv (txG D g)) := sadd_s (by simp; omega)
  have al := allLen_s ((gs.take k).map (txG D))
  have et : (gs.take (k + 1)).map (txG D) = (gs.take k).map (txG D) ++ [txG D g] := by rw [List.take_add_one, List.getElem?_eq_getElem hk, hg]; simp
  have ln : ((gs.take k).map (txG D)).length = k := by simp; omega
  have lm : (((gs.take k).map (txG D)).map sS).length = k := by simp; omega
  unfold fo0
  rw [et]
  generalize (gs.take k).map (txG D) = X at *
  subst ln
  generalize txG D g = y at *
  simp only [foH, List.map_append, List.map_cons, List.map_nil, sS]
  simp (disch := omega) only [go_sem, h17l0, eg, h1, h2, h3, c58, c62, s1, s2, s3, s4, al, List.take_length]
def fo1 (gs : List Gr) (ws : List Wt) (k : Nat) : AS := ⟨(jk 3 (.one (.bld 1 gs.length) :: .one (.bld 2 k) :: jk 29 (vl (ws.map Wt.e) :: vi ws.length :: vi k :: jk 20 []))), foH gs ws (gs.map (txG D)) ((ws.take k).map (txW D))⟩
theorem ltr_len (k : Int) : (ltr k).length = 1 := by
  unfold ltr
  repeat' split
  all_goals rfl
theorem fo1_round (hD : ∀ n, (D n).length ≤ 20) (gs : List Gr) (ws : List Wt) (hl : ws.length ≤ 1000000) (k : Nat) (hk : k < ws.length) (g : Wt) (hg : ws[k] = g) (h1 : EV G (Tb (bs bb)) 37 [vi g.c] [] = some (sv (D g.c), [])) :
    rnK [3, 0, 29, 0, 0] 3 (EC (EV G (Tb (bs bb))) G h17l1 (fo1 D gs ws k)) = some (fo1 D gs ws (k + 1)) := by
  have eg : (ws.map Wt.e)[k]? = some [ci g.c, ci g.k] := by rw [List.getElem?_map, List.getElem?_eq_getElem hk, hg]; rfl
  have a1 := hD g.c
  have a2 := ltr_len g.k
  have h2 := letter_v (G := G) (bb := bb) g.k
  have s1 : binV .add (sv (D g.c)) (sv (ltr g.k)) = some (sv (txW D g)) := sadd_s (by omega)
  have al := allLen_s ((ws.take k).map (txW D))
  have et : (ws.take (k + 1)).map (txW D) = (ws.take k).map (txW D) ++ [txW D g] := by rw [List.take_add_one, List.getElem?_eq_getElem hk, hg]; simp
  have ln : ((ws.take k).map (txW D)).length = k := by simp; omega
  have lm : (((ws.take k).map (txW D)).map sS).length = k := by simp; omega
  unfold fo1
  rw [et]
  generalize (ws.take k).map (txW D) = X at *
  subst ln
  generalize txW D g = y at *
  simp only [foH, List.map_append, List.map_cons, List.map_nil, sS]
  simp (disch := omega) only [go_sem, h17l1, eg, h1, h2, s1, al, List.take_length]
theorem jnI_len (s : List Int) (m : Nat) (hs : s.length ≤ 1) : ∀ l : List (List Int), (∀ a ∈ l, a.length ≤ m) → (jnI s l).length ≤ l.length * (m + 1)
  | [], h => by simp [jnI]
  | [a], h => by
    have := h a (by simp)
    rw [jnI]; simp; omega
  | a :: b :: l, h => by
    have h1 := h a (by simp)
    have ih := jnI_len s m hs (b :: l) (fun x hx => h x (by simp at hx ⊢; right; exact hx))
    rw [jnI]
    simp only [List.length_append, List.length_cons] at ih ⊢
    rw [Nat.add_mul (l.length + 1) 1 (m + 1)]
    omega
theorem joinV (l : List (List Int)) (h1 : l.length ≤ 1000) (h2 : (jnI [44] l).length ≤ 1000000) : EV G (Tb (bs bb)) 39 [vl (l.map sS), sv [44]] [] = some (sv (jnI [44] l), []) := by
  refine EV_base rfl ?_
  have e1 : strsO (l.map sS) = some (l.map str) := by
    rw [← strsO_of (l.map str), List.map_map]; rfl
  have e2 : Lib.join ((l.map str).map (·.data.toList)) (str [44]).data.toList = (jnI [44] l).map u8 := by
    rw [← jnI_join]
    simp only [List.map_map, Function.comp_def, str_data]
  rw [show (Tb (bs bb)).base = bs bb from rfl]
  show joinO (str [44]) (strsO (l.map sS)) = _
  rw [e1]
  unfold joinO
  simp only
  rw [if_pos ⟨by simpa using h1, by rw [e2]; simpa using h2⟩, joinS_s]
theorem format_v (hD : ∀ n, (D n).length ≤ 20) (gs : List Gr) (ws : List Wt) (hl : gs.length ≤ 1000) (hw : ws.length ≤ 1000)
    (h1 : ∀ g ∈ gs, EV G (Tb (bs bb)) 37 [vi g.c] [] = some (sv (D g.c), []) ∧ EV G (Tb (bs bb)) 37 [vi g.l] [] = some (sv (D g.l), []) ∧ EV G (Tb (bs bb)) 37 [vi g.t] [] = some (sv (D g.t), []))
    (h2 : ∀ w ∈ ws, EV G (Tb (bs bb)) 37 [vi w.c] [] = some (sv (D w.c), [])) :
    EV G (Tb (bs bb)) 17 [.agg [.dc (.slc (gs.map Gr.e)), .dc (.slc (ws.map Wt.e))]] [] = some (sv (txF D gs ws), []) := by
  refine EV_run rfl ?_
  have b1 : (jnI [44] (gs.map (txG D))).length ≤ 1000 * 63 := by
    have := jnI_len [44] 62 (by simp) (gs.map (txG D)) (fun a ha => by
      obtain ⟨g, _, rfl⟩ := List.mem_map.1 ha
      have := hD g.c
      have := hD g.l
      have := hD g.t
      simp [txG]; omega)
    rw [List.length_map] at this
    omega
  have b2 : (jnI [44] (ws.map (txW D))).length ≤ 1000 * 63 := by
    have := jnI_len [44] 62 (by simp) (ws.map (txW D)) (fun a ha => by
      obtain ⟨g, _, rfl⟩ := List.mem_map.1 ha
      have := hD g.c
      have := ltr_len g.k
      simp [txW]; omega)
    rw [List.length_map] at this
    omega
  have j1 := joinV (G := G) (bb := bb) (gs.map (txG D)) (by simpa using hl) (by omega)
  have j2 := joinV (G := G) (bb := bb) (ws.map (txW D)) (by simpa using hw) (by omega)
  have s1 : binV .add (sv (jnI [44] (gs.map (txG D)))) (sv [59]) = some (sv (jnI [44] (gs.map (txG D)) ++ [59])) := sadd_s (by simp; omega)
  have s2 : binV .add (sv (jnI [44] (gs.map (txG D)) ++ [59])) (sv (jnI [44] (ws.map (txW D)))) = some (sv (txF D gs ws)) := sadd_s (by simp; omega)
  simp (disch := omega) only [go_sem, h17c, str_nil]
  rw [EL_loop (fun k => fo0 D gs ws k) gs.length ?_ (fun k hk => fo0_round D hD gs ws (by omega) k hk gs[k] rfl (h1 _ (List.getElem_mem hk)).1 (h1 _ (List.getElem_mem hk)).2.1 (h1 _ (List.getElem_mem hk)).2.2)]
  rotate_left
  · rfl
  unfold fo0
  rw [List.take_length]
  simp (disch := omega) only [go_sem, h17l0]
  rw [EL_loop (fun k => fo1 D gs ws k) ws.length ?_ (fun k hk => fo1_round D hD gs ws (by omega) k hk ws[k] rfl (h2 _ (List.getElem_mem hk)))]
  rotate_left
  · rfl
  unfold fo1
  rw [List.take_length]
  have lX : (gs.map (txG D)).length = gs.length := List.length_map ..
  have lY : (ws.map (txW D)).length = ws.length := List.length_map ..
  generalize gs.map (txG D) = X at *
  generalize ws.map (txW D) = Y at *
  generalize gs.length = n at *
  generalize ws.length = m at *
  subst lX
  subst lY
  have mX : (X.map sS).take X.length = X.map sS := List.take_of_length_le (by simp)
  have mY : (Y.map sS).take Y.length = Y.map sS := List.take_of_length_le (by simp)
  simp (disch := omega) only [go_sem, h17l1, c44, c59, List.length_map, j1, j2, s1, s2, mX, mY]
end
end
section
variable {G : Glob} {bb : Bool}
theorem rnX_M : ∀ (l : List Ac) (gs : List Gr) (ws : List Wt) (out : List An) (n : Nat), (∀ a ∈ l, True) → runM gs ws out n l = if (rnX gs ws out n l).2.2 = 0 then ((rnX gs ws out n l).1, ((n + l.length : Nat) : Int), 0) else (([], [], []), (rnX gs ws out n l).2)
  | [], gs, ws, out, n, _ => by rw [rnX, runM, if_pos rfl]; rfl
  | a :: l, gs, ws, out, n, _ => by
    rw [rnX, runM]
    by_cases he : acErr gs ws a = 0
    · rw [if_pos he, if_pos he, rnX_M l _ _ _ _ (fun _ _ => trivial), List.length_cons, show n + 1 + l.length = n + (l.length + 1) by omega]
    · rw [if_neg he, if_neg he, if_neg (by simpa using he)]
abbrev runV (r : (List Gr × List Wt × List An) × Int × Int) : AV := .tup [.agg [.dc (.slc (r.1.1.map Gr.e)), .dc (.slc (r.1.2.1.map Wt.e))], .one (.dc (.slc (r.1.2.2.map An.e))), .one (.dc (.raw (.int .i64 r.2.1))), .one (.dc (.raw (.int .i64 r.2.2)))]
set_option maxHeartbeats 1000000 in
theorem runOf_v (hG : G 0 = some alD) (l : List Ac) (hl : l.length ≤ 1000000) : EV G (Tb (bs bb)) 16 [acsV l] [] = some (runV (runF l), []) := by
  refine EV_run rfl ?_
  unfold runF
  by_cases h : l.length > 100
  · rw [if_pos h]
    simp (disch := omega) only [go_sem, h16c, h]
    try rfl
  · rw [if_neg h, rnX_M l [] [] [] 0 (fun _ _ => trivial)]
    have q := each61_v (bb := bb) hG l (by omega)
    generalize rnX [] [] [] 0 l = r at *
    obtain ⟨⟨gs, ws, out⟩, n, e⟩ := r
    simp only [runH, List.length_nil, List.map_nil] at q
    by_cases he : e = 0
    · subst he
      rw [if_pos rfl]
      simp (disch := omega) only [go_sem, h16c, h, evJ_6, q, List.take_length]
      rw [fvT_b (by rfl) (by simp)]
      simp (disch := omega) only [go_sem, List.take_length]
    · rw [if_neg (by simpa using he)]
      simp (disch := omega) only [go_sem, h16c, h, evJ_6, q, he]
      rfl
end
section
variable {G : Glob} {bb : Bool}
def inS (a b : List Int) (k : Nat) : AS := ⟨(vl (a.map ci0) :: vl (b.map ci0) :: jk 3 (vi k :: jk 20 [])), []⟩
theorem ints_key (a b : List Int) (hl : a.length = b.length) (hb : a.length ≤ 1000000000) : ∀ (n k : Nat), a.length - k = n → k ≤ a.length →
    retZ false [RetV.tmp 4] 0 (sqK (EV G (Tb (bs bb))) G ((HC.region [Oo 4 (AI.mov (AArg.k (.bool true)))]).seq HC.ret) (blkK 0 (EL (EV G (Tb (bs bb))) G h9l0 [0, 0, 3] 0 (inS a b k)))) = some (vb (decide (a.drop k = b.drop k)), [])
  | 0, k, hn, hk => by
    have hkl : k = a.length := by omega
    subst hkl
    rw [EL_unf, List.drop_length, hl, List.drop_length]
    unfold inS
    simp (disch := omega) only [go_sem, h9l0, hl]
    try rfl
  | n + 1, k, hn, hk => by
    have hkl : k < a.length := by omega
    have hkb : k < b.length := by omega
    have ea : (a.map ci0)[k]? = some [ci a[k]] := by rw [List.getElem?_map, List.getElem?_eq_getElem hkl]; rfl
    have eb : (b.map ci0)[k]? = some [ci b[k]] := by rw [List.getElem?_map, List.getElem?_eq_getElem hkb]; rfl
    rw [List.drop_eq_getElem_cons hkl, List.drop_eq_getElem_cons hkb]
    by_cases h : a[k] = b[k]
    · have hr : rnK [0, 0, 3] 0 (EC (EV G (Tb (bs bb))) G h9l0 (inS a b k)) = some (inS a b (k + 1)) := by
        unfold inS
        rw [h] at ea
        generalize b[k] = x at *
        simp (disch := omega) only [go_sem, h9l0, ea, eb]
      have e : (a[k] :: a.drop (k + 1) = b[k] :: b.drop (k + 1)) = (a.drop (k + 1) = b.drop (k + 1)) := by rw [List.cons.injEq, eq_true h, true_and]
      rw [EL_unf, fnK_of hr, ints_key a b hl hb n (k + 1) (by omega) (by omega)]
      simp only [e]
    · have e : (a[k] :: a.drop (k + 1) = b[k] :: b.drop (k + 1)) = False := by rw [List.cons.injEq, eq_false h, false_and]
      rw [EL_unf]
      simp only [e, decide_false]
      generalize a[k] = x at *
      generalize b[k] = y at *
      unfold inS
      simp (disch := omega) only [go_sem, h9l0, ea, eb, h]
      try rfl
theorem ints_v (a b : List Int) (ha : a.length ≤ 1000000000) : EV G (Tb (bs bb)) 9 [vl (a.map ci0), vl (b.map ci0)] [] = some (vb (decide (a = b)), []) := by
  refine EV_run rfl ?_
  by_cases hl : a.length = b.length
  · have q := ints_key (G := G) (bb := bb) a b hl ha a.length 0 rfl (by omega)
    simp only [List.drop_zero] at q
    rw [← q]
    have hl2 : (b.length : Int) = a.length := by omega
    simp (disch := omega) only [go_sem, h9c, eq_true hl, hl2]
    try rfl
  · have e : (a = b) = False := by simp; intro h; exact hl (by rw [h])
    have hl2 : ¬ (a.length : Int) = b.length := by omega
    simp only [e, decide_false]
    simp (disch := omega) only [go_sem, h9c, hl, hl2]
    try rfl
end
end Go.Proofs.YtinageiefahjfaaDoor
