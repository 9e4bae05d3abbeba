/- The law of errors. Conditions: none. -/
import Derived.Test.YtinageiefahjfaaGreatDoorVc
import Derived.Test.YtinageiefahjfaaGreatDoorRb
import Derived.Test.YtinageiefahjfaaGreatDoorSp
import Derived.Test.YtinageiefahjfaaGreatDoorUs
import Derived.Test.YtinageiefahjfaaGreatDoorUg
import Derived.Test.YtinageiefahjfaaGreatDoorTh
import Derived.Test.YtinageiefahjfaaGreatDoorWm
import Derived.Test.YtinageiefahjfaaGreatDoorMb
import Derived.KernelRfl
import Derived.Test.YtinageiefahjfaaGreatDoorSw
namespace Go.Proofs.YtinageiefahjfaaGreatDoor
set_option linter.unusedSimpArgs false
set_option linter.unusedVariables false
set_option maxRecDepth 4000
section
def Nb (gs : List Gr) (ws : List Wt) : Prop := ∀ w ∈ ws, ∀ g ∈ gs, g.c = w.c → g.l ≤ 1
theorem Nb.nil {gs : List Gr} : Nb gs [] := fun w hw => by cases hw
end
section
variable {G : Glob} {bb : Bool}
theorem sameW_v (l : List Wt) (hl : l.length ≤ 1000000) : EV G (Tb (bs bb)) 65 [vl (l.map Wt.e), vl (l.map Wt.e)] [] = some (vb true, []) := by
  refine EV_run rfl ?_
  simp (disch := omega) only [go_sem, h65c]
  rw [EL_loop (fun j => ⟨(vl (l.map Wt.e) :: vl (l.map Wt.e) :: jk 3 (vi j :: jk 20 [])), []⟩) l.length ?_ ?_]
  rotate_left
  · rfl
  · intro j hj
    have eg : (l.map Wt.e)[j]? = some [ci l[j].c, ci l[j].k] := by rw [List.getElem?_map, List.getElem?_eq_getElem hj]; rfl
    generalize l[j] = g at *
    simp (disch := omega) only [go_sem, h65l0, eg]
  simp (disch := omega) only [go_sem, h65l0]
theorem same_v (gs : List Gr) (ws : List Wt) (hl : gs.length ≤ 1000000) (hw : ws.length ≤ 1000000) : EV G (Tb (bs bb)) 17 [flV gs ws, flV gs ws] [] = some (vb true, []) := by
  refine EV_run rfl ?_
  have q := sameW_v (G := G) (bb := bb) ws hw
  simp (disch := omega) only [go_sem, h17c, q]
  rw [EL_loop (fun j => ⟨(jk 2 (.one (.ptr 0 0) :: .one (.ptr 1 0) :: jk 1 (vi j :: jk 33 []))), [.box [.dc (.slc (gs.map Gr.e)), .dc (.slc (ws.map Wt.e))], .box [.dc (.slc (gs.map Gr.e)), .dc (.slc (ws.map Wt.e))]]⟩) gs.length ?_ ?_]
  rotate_left
  · rfl
  · intro j hj
    have eg : (gs.map Gr.e)[j]? = some [ci gs[j].c, ci gs[j].l, ci gs[j].t] := by rw [List.getElem?_map, List.getElem?_eq_getElem hj]; rfl
    generalize gs[j] = g at *
    simp (disch := omega) only [go_sem, h17l0, eg]
  simp (disch := omega) only [go_sem, h17l0]
end
section
def u8 (n : Int) : UInt8 := UInt8.ofNat n.toNat
def str (l : List Int) : ByteArray := ⟨(l.map u8).toArray⟩
abbrev sv (l : List Int) : AV := .one (.dc (.raw (.string (str l))))
theorem str_nil : (⟨#[]⟩ : ByteArray) = str [] := rfl
theorem str_size (l : List Int) : (str l).size = l.length := by simp [str, ByteArray.size]
theorem str_app (a b : List Int) : str a ++ str b = str (a ++ b) := by
  apply ByteArray.ext
  simp [str, ByteArray.data_append]
theorem sadd_s {a b : List Int} (h : a.length + b.length ≤ 9223372036854775807) : binV .add (sv a) (sv b) = some (sv (a ++ b)) := by
  rw [bin_sadd (by rw [str_size, str_size]; exact h), str_app]
theorem str_data (l : List Int) : (str l).data.toList = l.map u8 := by simp [str]
def jnI (s : List Int) : List (List Int) → List Int
  | [] => []
  | [a] => a
  | a :: b :: l => a ++ s ++ jnI s (b :: l)
theorem jnI_join (s : List Int) : ∀ l : List (List Int), Lib.join (l.map (·.map u8)) (s.map u8) = (jnI s l).map u8
  | [] => rfl
  | [a] => by rw [List.map_cons, List.map_nil, Lib.join_one]; rfl
  | a :: b :: l => by
    have ih := jnI_join s (b :: l)
    rw [jnI, List.map_append, List.map_append, ← ih]
    simp [Lib.join, List.intercalate]
theorem joinS_s (s : List Int) (l : List (List Int)) : joinS (l.map str) (str s) = str (jnI s l) := by
  apply ByteArray.ext
  apply Array.ext'
  simp only [joinS, str_data, List.map_map, Function.comp_def]
  rw [jnI_join]
def sS (l : List Int) : List DC := [.raw (.string (str l))]
theorem allLen_s : ∀ l : List (List Int), allLen 1 (l.map sS) = true
  | [] => rfl
  | g :: gs => by rw [List.map_cons, allLen, allLen_s gs]; rfl
end
section
variable {G : Glob} {bb : Bool}
def ltr (k : Int) : List Int := if k = 0 then [111] else if k = 2 then [114] else if k = 3 then [119] else [63]
theorem c58 : (⟨#[58]⟩ : ByteArray) = str [58] := rfl
theorem c62 : (⟨#[62]⟩ : ByteArray) = str [62] := rfl
theorem c44 : (⟨#[44]⟩ : ByteArray) = str [44] := rfl
theorem c59 : (⟨#[59]⟩ : ByteArray) = str [59] := rfl
theorem c111 : (⟨#[111]⟩ : ByteArray) = str [111] := rfl
theorem c114 : (⟨#[114]⟩ : ByteArray) = str [114] := rfl
theorem c119 : (⟨#[119]⟩ : ByteArray) = str [119] := rfl
theorem c63 : (⟨#[63]⟩ : ByteArray) = str [63] := rfl
theorem letter_v (k : Int) : EV G (Tb (bs bb)) 80 [vi k] [] = some (sv (ltr k), []) := by
  refine EV_run rfl ?_
  unfold ltr
  by_cases h0 : k = 0
  · simp (disch := omega) only [go_sem, h80c, eq_true h0, c111]
  · by_cases h2 : k = 2
    · simp (disch := omega) only [go_sem, h80c, h0, eq_true h2, c114]
    · by_cases h3 : k = 3
      · simp (disch := omega) only [go_sem, h80c, h0, h2, eq_true h3, c119]
      · simp (disch := omega) only [go_sem, h80c, h0, h2, h3, c63]
section
variable (D : Int → List Int)
def txG (g : Gr) : List Int := D g.c ++ [58] ++ D g.l ++ [62] ++ D g.t
def txW (w : Wt) : List Int := D w.c ++ ltr w.k
def txF (gs : List Gr) (ws : List Wt) : List Int := jnI [44] (gs.map (txG D)) ++ [59] ++ jnI [44] (ws.map (txW D))
abbrev foH (gs : List Gr) (ws : List Wt) (a b : List (List Int)) : List AObj := [.box [.dc (.slc (gs.map Gr.e)), .dc (.slc (ws.map Wt.e))], .arr 0 1 (a.map sS), .arr 0 1 (b.map sS)]
def fo0 (gs : List Gr) (ws : List Wt) (k : Nat) : AS := ⟨(jk 1 (.one (.ptr 0 0) :: jk 1 (.one (.bld 1 k) :: .one (.bld 2 0) :: jk 5 (vl (gs.map Gr.e) :: vi gs.length :: vi k :: jk 44 [])))), foH gs ws ((gs.take k).map (txG D)) []⟩
theorem fo0_round (hD : ∀ n, (D n).length ≤ 20) (gs : List Gr) (ws : List Wt) (hl : gs.length ≤ 1000000) (k : Nat) (hk : k < gs.length) (g : Gr) (hg : gs[k] = g) (h1 : EV G (Tb (bs bb)) 79 [vi g.c] [] = some (sv (D g.c), [])) (h2 : EV G (Tb (bs bb)) 79 [vi g.l] [] = some (sv (D g.l), [])) (h3 : EV G (Tb (bs bb)) 79 [vi g.t] [] = some (sv (D g.t), [])) :
    rnK [1, 1, 0, 5, 0, 0] 3 (EC (EV G (Tb (bs bb))) G h34l0 (fo0 D gs ws k)) = some (fo0 D gs ws (k + 1)) := by
  have eg : (gs.map Gr.e)[k]? = some [ci g.c, ci g.l, ci g.t] := by rw [List.getElem?_map, List.getElem?_eq_getElem hk, hg]; rfl
  have a1 := hD g.c
  have a2 := hD g.l
  have a3 := hD g.t
  have s1 : binV .add (sv (D g.c)) (sv [58]) = some (sv (D g.c ++ [58])) := sadd_s (by simp; omega)
  have s2 : binV .add (sv (D g.c ++ [58])) (sv (D g.l)) = some (sv (D g.c ++ [58] ++ D g.l)) := sadd_s (by simp; omega)
  have s3 : binV .add (sv (D g.c ++ [58] ++ D g.l)) (sv [62]) = some (sv (D g.c ++ [58] ++ D g.l ++ [62])) := sadd_s (by simp; omega)
  have s4 : binV .add (sv (D g.c ++ [58] ++ D g.l ++ [62])) (sv (D g.t)) = some (sv (txG D g)) := sadd_s (by simp; omega)
  have al := allLen_s ((gs.take k).map (txG D))
  have et : (gs.take (k + 1)).map (txG D) = (gs.take k).map (txG D) ++ [txG D g] := by rw [List.take_add_one, List.getElem?_eq_getElem hk, hg]; simp
  have ln : ((gs.take k).map (txG D)).length = k := by simp; omega
  have lm : (((gs.take k).map (txG D)).map sS).length = k := by simp; omega
  unfold fo0
  rw [et]
  generalize (gs.take k).map (txG D) = X at *
  subst ln
  generalize txG D g = y at *
  simp only [foH, List.map_append, List.map_cons, List.map_nil, sS]
  simp (disch := omega) only [go_sem, h34l0, eg, h1, h2, h3, c58, c62, s1, s2, s3, s4, al, List.take_length]
def fo1 (gs : List Gr) (ws : List Wt) (k : Nat) : AS := ⟨(jk 3 (.one (.bld 1 gs.length) :: .one (.bld 2 k) :: jk 29 (vl (ws.map Wt.e) :: vi ws.length :: vi k :: jk 20 []))), foH gs ws (gs.map (txG D)) ((ws.take k).map (txW D))⟩
theorem ltr_len (k : Int) : (ltr k).length = 1 := by
  unfold ltr
  repeat' split
  all_goals rfl
theorem fo1_round (hD : ∀ n, (D n).length ≤ 20) (gs : List Gr) (ws : List Wt) (hl : ws.length ≤ 1000000) (k : Nat) (hk : k < ws.length) (g : Wt) (hg : ws[k] = g) (h1 : EV G (Tb (bs bb)) 79 [vi g.c] [] = some (sv (D g.c), [])) :
    rnK [3, 0, 29, 0, 0] 3 (EC (EV G (Tb (bs bb))) G h34l1 (fo1 D gs ws k)) = some (fo1 D gs ws (k + 1)) := by
  have eg : (ws.map Wt.e)[k]? = some [ci g.c, ci g.k] := by rw [List.getElem?_map, List.getElem?_eq_getElem hk, hg]; rfl
  have a1 := hD g.c
  have a2 := ltr_len g.k
  have h2 := letter_v (G := G) (bb := bb) g.k
  have s1 : binV .add (sv (D g.c)) (sv (ltr g.k)) = some (sv (txW D g)) := sadd_s (by omega)
  have al := allLen_s ((ws.take k).map (txW D))
  have et : (ws.take (k + 1)).map (txW D) = (ws.take k).map (txW D) ++ [txW D g] := by rw [List.take_add_one, List.getElem?_eq_getElem hk, hg]; simp
  have ln : ((ws.take k).map (txW D)).length = k := by simp; omega
  have lm : (((ws.take k).map (txW D)).map sS).length = k := by simp; omega
  unfold fo1
  rw [et]
  generalize (ws.take k).map (txW D) = X at *
  subst ln
  generalize txW D g = y at *
  simp only [foH, List.map_append, List.map_cons, List.map_nil, sS]
  simp (disch := omega) only [go_sem, h34l1, eg, h1, h2, s1, al, List.take_length]
theorem jnI_len (s : List Int) (m : Nat) (hs : s.length ≤ 1) : ∀ l : List (List Int), (∀ a ∈ l, a.length ≤ m) → (jnI s l).length ≤ l.length * (m + 1)
  | [], h => by simp [jnI]
  | [a], h => by
    have := h a (by simp)
    rw [jnI]; simp; omega
  | a :: b :: l, h => by
    have h1 := h a (by simp)
    have ih := jnI_len s m hs (b :: l) (fun x hx => h x (by simp at hx ⊢; right; exact hx))
    rw [jnI]
    simp only [List.length_append, List.length_cons] at ih ⊢
    rw [Nat.add_mul (l.length + 1) 1 (m + 1)]
    omega
theorem joinV (l : List (List Int)) (h1 : l.length ≤ 1000) (h2 : (jnI [44] l).length ≤ 1000000) : EV G (Tb (bs bb)) 81 [vl (l.map sS), sv [44]] [] = some (sv (jnI [44] l), []) := by
  refine EV_base rfl ?_
  have e1 : strsO (l.map sS) = some (l.map str) := by
    rw [← strsO_of (l.map str), List.map_map]; rfl
  have e2 : Lib.join ((l.map str).map (·.data.toList)) (str [44]).data.toList = (jnI [44] l).map u8 := by
    rw [← jnI_join]
    simp only [List.map_map, Function.comp_def, str_data]
  rw [show (Tb (bs bb)).base = bs bb from rfl]
  show joinO (str [44]) (strsO (l.map sS)) = _
  rw [e1]
  unfold joinO
  simp only
  rw [if_pos ⟨by simpa using h1, by rw [e2]; simpa using h2⟩, joinS_s]
theorem format_v (hD : ∀ n, (D n).length ≤ 20) (gs : List Gr) (ws : List Wt) (hl : gs.length ≤ 1000) (hw : ws.length ≤ 1000)
    (h1 : ∀ g ∈ gs, EV G (Tb (bs bb)) 79 [vi g.c] [] = some (sv (D g.c), []) ∧ EV G (Tb (bs bb)) 79 [vi g.l] [] = some (sv (D g.l), []) ∧ EV G (Tb (bs bb)) 79 [vi g.t] [] = some (sv (D g.t), []))
    (h2 : ∀ w ∈ ws, EV G (Tb (bs bb)) 79 [vi w.c] [] = some (sv (D w.c), [])) :
    EV G (Tb (bs bb)) 34 [.agg [.dc (.slc (gs.map Gr.e)), .dc (.slc (ws.map Wt.e))]] [] = some (sv (txF D gs ws), []) := by
  refine EV_run rfl ?_
  have b1 : (jnI [44] (gs.map (txG D))).length ≤ 1000 * 63 := by
    have := jnI_len [44] 62 (by simp) (gs.map (txG D)) (fun a ha => by
      obtain ⟨g, _, rfl⟩ := List.mem_map.1 ha
      have := hD g.c
      have := hD g.l
      have := hD g.t
      simp [txG]; omega)
    rw [List.length_map] at this
    omega
  have b2 : (jnI [44] (ws.map (txW D))).length ≤ 1000 * 63 := by
    have := jnI_len [44] 62 (by simp) (ws.map (txW D)) (fun a ha => by
      obtain ⟨g, _, rfl⟩ := List.mem_map.1 ha
      have := hD g.c
      have := ltr_len g.k
      simp [txW]; omega)
    rw [List.length_map] at this
    omega
  have j1 := joinV (G := G) (bb := bb) (gs.map (txG D)) (by simpa using hl) (by omega)
  have j2 := joinV (G := G) (bb := bb) (ws.map (txW D)) (by simpa using hw) (by omega)
  have s1 : binV .add (sv (jnI [44] (gs.map (txG D)))) (sv [59]) = some (sv (jnI [44] (gs.map (txG D)) ++ [59])) := sadd_s (by simp; omega)
  have s2 : binV .add (sv (jnI [44] (gs.map (txG D)) ++ [59])) (sv (jnI [44] (ws.map (txW D)))) = some (sv (txF D gs ws)) := sadd_s (by simp; omega)
  simp (disch := omega) only [go_sem, h34c, str_nil]
  rw [EL_loop (fun k => fo0 D gs ws k) gs.length ?_ (fun k hk => fo0_round D hD gs ws (by omega) k hk gs[k] rfl (h1 _ (List.getElem_mem hk)).1 (h1 _ (List.getElem_mem hk)).2.1 (h1 _ (List.getElem_mem hk)).2.2)]
  rotate_left
  · rfl
  unfold fo0
  rw [List.take_length]
  simp (disch := omega) only [go_sem, h34l0]
  rw [EL_loop (fun k => fo1 D gs ws k) ws.length ?_ (fun k hk => fo1_round D hD gs ws (by omega) k hk ws[k] rfl (h2 _ (List.getElem_mem hk)))]
  rotate_left
  · rfl
  unfold fo1
  rw [List.take_length]
  have lX : (gs.map (txG D)).length = gs.length := List.length_map ..
  have lY : (ws.map (txW D)).length = ws.length := List.length_map ..
  generalize gs.map (txG D) = X at *
  generalize ws.map (txW D) = Y at *
  generalize gs.length = n at *
  generalize ws.length = m at *
  subst lX
  subst lY
  have mX : (X.map sS).take X.length = X.map sS := List.take_of_length_le (by simp)
  have mY : (Y.map sS).take Y.length = Y.map sS := List.take_of_length_le (by simp)
  simp (disch := omega) only [go_sem, h34l1, c44, c59, List.length_map, j1, j2, s1, s2, mX, mY]
end
end
section
variable {G : Glob} {bb : Bool}
def inS (a b : List Int) (k : Nat) : AS := ⟨(vl (a.map ci0) :: vl (b.map ci0) :: jk 3 (vi k :: jk 20 [])), []⟩
theorem ints_key (a b : List Int) (hl : a.length = b.length) (hb : a.length ≤ 1000000000) : ∀ (n k : Nat), a.length - k = n → k ≤ a.length →
    retZ false [RetV.tmp 4] 0 (sqK (EV G (Tb (bs bb))) G ((HC.region [Oo 4 (AI.mov (AArg.k (.bool true)))]).seq HC.ret) (blkK 0 (EL (EV G (Tb (bs bb))) G h31l0 [0, 0, 3] 0 (inS a b k)))) = some (vb (decide (a.drop k = b.drop k)), [])
  | 0, k, hn, hk => by
    have hkl : k = a.length := by omega
    subst hkl
    rw [EL_unf, List.drop_length, hl, List.drop_length]
    unfold inS
    simp (disch := omega) only [go_sem, h31l0, hl]
    try rfl
  | n + 1, k, hn, hk => by
    have hkl : k < a.length := by omega
    have hkb : k < b.length := by omega
    have ea : (a.map ci0)[k]? = some [ci a[k]] := by rw [List.getElem?_map, List.getElem?_eq_getElem hkl]; rfl
    have eb : (b.map ci0)[k]? = some [ci b[k]] := by rw [List.getElem?_map, List.getElem?_eq_getElem hkb]; rfl
    rw [List.drop_eq_getElem_cons hkl, List.drop_eq_getElem_cons hkb]
    by_cases h : a[k] = b[k]
    · have hr : rnK [0, 0, 3] 0 (EC (EV G (Tb (bs bb))) G h31l0 (inS a b k)) = some (inS a b (k + 1)) := by
        unfold inS
        rw [h] at ea
        generalize b[k] = x at *
        simp (disch := omega) only [go_sem, h31l0, ea, eb]
      have e : (a[k] :: a.drop (k + 1) = b[k] :: b.drop (k + 1)) = (a.drop (k + 1) = b.drop (k + 1)) := by rw [List.cons.injEq, eq_true h, true_and]
      rw [EL_unf, fnK_of hr, ints_key a b hl hb n (k + 1) (by omega) (by omega)]
      simp only [e]
    · have e : (a[k] :: a.drop (k + 1) = b[k] :: b.drop (k + 1)) = False := by rw [List.cons.injEq, eq_false h, false_and]
      rw [EL_unf]
      simp only [e, decide_false]
      generalize a[k] = x at *
      generalize b[k] = y at *
      unfold inS
      simp (disch := omega) only [go_sem, h31l0, ea, eb, h]
      try rfl
theorem ints_v (a b : List Int) (ha : a.length ≤ 1000000000) : EV G (Tb (bs bb)) 31 [vl (a.map ci0), vl (b.map ci0)] [] = some (vb (decide (a = b)), []) := by
  refine EV_run rfl ?_
  by_cases hl : a.length = b.length
  · have q := ints_key (G := G) (bb := bb) a b hl ha a.length 0 rfl (by omega)
    simp only [List.drop_zero] at q
    rw [← q]
    have hl2 : (b.length : Int) = a.length := by omega
    simp (disch := omega) only [go_sem, h31c, eq_true hl, hl2]
    try rfl
  · have e : (a = b) = False := by simp; intro h; exact hl (by rw [h])
    have hl2 : ¬ (a.length : Int) = b.length := by omega
    simp only [e, decide_false]
    simp (disch := omega) only [go_sem, h31c, hl, hl2]
    try rfl
end
section
variable {G : Glob} {bb : Bool}
theorem alo_W (x : Ca) (V : Nat → Int) (k c u : Int) : aloF { x with W := V } k c u = (aloF x k c u).map fun z => { z with W := V } := by
  unfold aloF
  simp only
  split
  · rfl
  · split <;> rfl
def Pos (x : Ca) : Prop := x.v ≥ -1 ∧ (∀ n, x.K n ≥ -1) ∧ ∀ n, x.W n ≥ -1
theorem upd_ge {f : Nat → Int} {n : Nat} {y : Int} (h : ∀ m, f m ≥ -1) (hy : y ≥ -1) : ∀ m, upd f n y m ≥ -1 := by
  intro m
  unfold upd
  split
  · exact hy
  · exact h m
theorem Pos.eff {x : Ca} (h : Pos x) (c k : Int) : Pos (effF x c k) := by
  obtain ⟨h1, h2, h3⟩ := h
  unfold effF
  repeat' split
  · exact ⟨h1, upd_ge h2 h1, h3⟩
  · exact ⟨h1, h2, h3⟩
  · exact ⟨h3 _, upd_ge h2 (h3 _), h3⟩
  · exact ⟨h3 _, h2, h3⟩
  · exact ⟨h1, h2, h3⟩
theorem Pos.effs : ∀ (l : List Wt) {x : Ca}, Pos x → Pos (effL x l)
  | [], x, h => h
  | w :: l, x, h => Pos.effs l (h.eff w.c w.k)
theorem Pos.drp {x : Ca} (h : Pos x) : Pos (drpF x 9) := by
  refine ⟨h.1, fun n => ?_, h.2.2⟩
  simp only [drpF]
  split
  · omega
  · exact h.2.1 n
theorem Pos.us {x : Ca} (h : Pos x) {k c l u : Int} (he : (usF x k c l u).2 = 0) : Pos (usF x k c l u).1 := by
  unfold usF at he ⊢
  by_cases hu : usE x k c l u ≠ 0
  · rw [if_pos hu] at he; exact absurd he hu
  rw [if_neg hu] at he ⊢
  have hu0 := (usE_0 (Classical.not_not.1 hu)).1
  cases ha : aloF x k c u with
  | some y =>
    simp only
    unfold aloF at ha
    split at ha
    · injection ha with ha; subst ha; exact h
    · split at ha
      · injection ha with ha; subst ha
        exact ⟨h.1, upd_ge h.2.1 (by omega), h.2.2⟩
      · cases ha
  | none =>
    rw [ha] at he
    simp only at he ⊢
    by_cases hac : acErr x.gs x.ws ⟨k, c, l⟩ ≠ 0
    · rw [if_pos hac] at he; exact absurd he hac
    rw [if_neg hac]
    rw [actF_e]
    have hg : Pos (aft x k c l u) := by
      unfold aft giv
      split
      · exact ⟨h.2.1 _, h.2.1, upd_ge h.2.2 (by omega)⟩
      · exact ⟨h.1, h.2.1, upd_ge h.2.2 (by omega)⟩
    refine Pos.drp (Pos.effs _ ?_)
    split
    · exact hg.eff _ _
    · exact hg
theorem acErr_us {gs : List Gr} {ws : List Wt} {a : Ac} (h : usErr gs ws a ≠ 0) : acErr gs ws a = usErr gs ws a := by
  unfold acErr; rw [if_pos h]
theorem raB_alo {x : Ca} (h : Pos x) {k c l u : Int} (hu : usErr x.gs x.ws ⟨k, c, l⟩ = 0) : raB x k c = (aloF x k c u).isSome := by
  obtain ⟨h1, h2, _, h4, h5⟩ := us_ok hu
  simp only at h1 h2 h4 h5
  have hK := h.2.1 c.toNat
  have hc : isCl c = true := by unfold isCl; exact decide_eq_true h2
  unfold raB aloF
  rw [h4, hc]
  by_cases k2 : k = 2
  · have hi : isIn x.gs c = true := by
      cases hi : isIn x.gs c with
      | true => rfl
      | false => have := h5.2 hi; omega
    rw [hi, if_pos k2]
    unfold lvF
    rw [if_pos hi]
    by_cases h6 : (grE x.gs c).l ≥ 1 ∧ x.K c.toNat ≠ -1
    · rw [if_pos ⟨k2, h6⟩, decide_eq_true h6.1, decide_eq_true (by omega)]
      rfl
    · rw [if_neg (fun h => h6 h.2), if_neg (fun h => by have := h.1; omega)]
      by_cases h7 : (grE x.gs c).l ≥ 1
      · rw [decide_eq_false (p := x.K c.toNat ≥ 0) (fun h8 => h6 ⟨h7, by omega⟩)]
        simp
      · rw [decide_eq_false h7]
        simp
  · rw [if_neg k2, if_neg (fun h => k2 h.1)]
    by_cases k3 : k = 3
    · have hi : isIn x.gs c = true := by
        cases hi : isIn x.gs c with
        | true => rfl
        | false => have := h5.2 hi; omega
      rw [hi]
      unfold lvF brF
      rw [if_pos hi, if_pos hi]
      by_cases h6 : (grE x.gs c).l ≥ 2 ∧ (grE x.gs c).t = (grE x.gs c).l
      · rw [if_pos ⟨k3, h6.1, by simp [h6.2]⟩, decide_eq_true k3, decide_eq_true h6.1, decide_eq_true h6.2]
        rfl
      · rw [if_neg (fun h => h6 ⟨h.2.1, by simpa using h.2.2⟩), decide_eq_true k3]
        by_cases h7 : (grE x.gs c).l ≥ 2
        · rw [decide_eq_false (p := (grE x.gs c).t = (grE x.gs c).l) (fun h8 => h6 ⟨h7, h8⟩)]
          simp
        · rw [decide_eq_false h7]
          simp
    · rw [if_neg (fun h => k3 h.1), decide_eq_false k3]
      simp
theorem rue_us {x : Ca} (h : Pos x) (a : Cu) : rueE x a = (usF x a.k a.c a.l a.u).2 := by
  unfold rueE usF
  have eu : usE x a.k a.c a.l a.u = if wi a.u 0 (if a.k = 3 then 999 else 0) = false then 2 else usErr x.gs x.ws ⟨a.k, a.c, a.l⟩ := by
    unfold usE
    cases wi a.u 0 (if a.k = 3 then 999 else 0)
    · rfl
    · rw [if_neg (by simp)]
      show (if (if true = true then (0 : Int) else 2) = 0 then (if usErr x.gs x.ws ⟨a.k, a.c, a.l⟩ = 0 then 0 else usErr x.gs x.ws ⟨a.k, a.c, a.l⟩) else _) = _
      rw [if_pos (if_pos rfl)]
      split
      · rename_i h; rw [h]
      · rfl
  cases hw : wi a.u 0 (if a.k = 3 then 999 else 0) with
  | false =>
    rw [hw, if_pos rfl] at eu
    rw [if_pos rfl, if_pos (by omega), eu]
  | true =>
    rw [hw, if_neg (by simp)] at eu
    rw [if_neg (by simp), eu]
    by_cases hu : usErr x.gs x.ws ⟨a.k, a.c, a.l⟩ = 0
    · rw [raB_alo h (u := a.u) hu]
      have hu' : ¬ usErr x.gs x.ws ⟨a.k, a.c, a.l⟩ ≠ 0 := fun h => h hu
      rw [if_neg hu']
      cases ha : aloF x a.k a.c a.u with
      | some y => simp only [Option.isSome_some, if_true]; exact hu
      | none =>
        simp only [Option.isSome_none]
        rw [if_neg (by simp)]
        by_cases he : acErr x.gs x.ws ⟨a.k, a.c, a.l⟩ = 0
        · rw [if_neg (by omega)]; exact he
        · rw [if_pos he]
    · rw [if_pos hu]
      split
      · rfl
      · exact acErr_us hu
def rU (x : Ca) (a : Cu) : Ca := match aloF x a.k a.c a.u with
  | some y => y
  | none => actR x a.k a.c a.l a.u
def cuR : Ca → Nat → List Cu → Ca × Int × Int
  | x, n, [] => (x, 0, 0)
  | x, n, a :: l => if rueE x a = 0 then cuR (rU x a) (n + 1) l else (x, n, rueE x a)
theorem rU_eqv {x y : Ca} (h : Eqv x y) (hv : Vd x.gs x.ws) (hx : Pos x) (hy : Pos y) (a : Cu) : rueE y a = (usF x a.k a.c a.l a.u).2 ∧ ((usF x a.k a.c a.l a.u).2 = 0 → Eqv (usF x a.k a.c a.l a.u).1 (rU y a)) := by
  have he : rueE y a = rueE x a := by
    rw [h.1]; rfl
  refine ⟨by rw [he, rue_us hx], fun h0 => ?_⟩
  unfold usF at h0 ⊢
  by_cases hu : usE x a.k a.c a.l a.u ≠ 0
  · rw [if_pos hu] at h0; exact absurd h0 hu
  rw [if_neg hu] at h0 ⊢
  have ey : aloF y a.k a.c a.u = (aloF x a.k a.c a.u).map fun z => { z with W := y.W } := by
    conv => lhs; rw [h.1]
    exact alo_W x y.W a.k a.c a.u
  unfold rU
  rw [ey]
  cases ha : aloF x a.k a.c a.u with
  | some z =>
    simp only [Option.map_some]
    have hz : z.ws = x.ws ∧ z.W = x.W := by
      unfold aloF at ha
      split at ha
      · injection ha with ha; subst ha; exact ⟨rfl, rfl⟩
      · split at ha
        · injection ha with ha; subst ha; exact ⟨rfl, rfl⟩
        · cases ha
    refine ⟨rfl, fun w hw h3 => ?_⟩
    rw [hz.1] at hw
    rw [hz.2]
    exact h.2 w hw h3
  | none =>
    rw [ha] at h0
    simp only [Option.map_none] at h0 ⊢
    by_cases hac : acErr x.gs x.ws ⟨a.k, a.c, a.l⟩ ≠ 0
    · rw [if_pos hac] at h0; exact absurd h0 hac
    rw [if_neg hac]
    exact act_eqv h hv (Classical.not_not.1 hac)
theorem Pos.rU {x : Ca} (h : Pos x) {a : Cu} (hu : 0 ≤ a.u) : Pos (rU x a) := by
  unfold Go.Proofs.YtinageiefahjfaaGreatDoor.rU
  cases ha : aloF x a.k a.c a.u with
  | some y =>
    simp only
    unfold aloF at ha
    split at ha
    · injection ha with ha; subst ha; exact h
    · split at ha
      · injection ha with ha; subst ha
        exact ⟨h.1, upd_ge h.2.1 (by omega), h.2.2⟩
      · cases ha
  | none =>
    simp only
    unfold actR
    have hg : Pos (aftR x a.k a.c a.l a.u) := by
      unfold aftR givR
      split
      · exact ⟨h.2.1 _, h.2.1, h.2.2⟩
      · split
        · exact ⟨h.1, h.2.1, upd_ge h.2.2 (by omega)⟩
        · exact h
    refine Pos.drp (Pos.effs _ ?_)
    split
    · exact hg.drp.eff _ _
    · exact hg.drp
theorem cuR_eqv : ∀ (l : List Cu) (x y : Ca) (n : Nat), Eqv x y → Vd x.gs x.ws → Hd x.gs x.ws → Pos x → Pos y → (cuR y n l).2 = (cuX x n l).2 ∧ Eqv (cuX x n l).1 (cuR y n l).1
  | [], x, y, n, h, _, _, _, _ => ⟨rfl, h⟩
  | a :: l, x, y, n, h, hv, hh, hx, hy => by
    obtain ⟨h1, h2⟩ := rU_eqv h hv hx hy a
    obtain ⟨h3, h4⟩ := usF_ok x hv hh a.k a.c a.l a.u
    rw [cuR, cuX, h1]
    by_cases he : (usF x a.k a.c a.l a.u).2 = 0
    · rw [if_pos he, if_pos he]
      refine cuR_eqv l _ _ (n + 1) (h2 he) h3 h4 (hx.us he) (hy.rU ?_)
      unfold usF at he
      by_cases hu : usE x a.k a.c a.l a.u ≠ 0
      · rw [if_pos hu] at he; exact absurd he hu
      · exact (usE_0 (Classical.not_not.1 hu)).1
    · rw [if_neg he, if_neg he]
      refine ⟨rfl, ?_⟩
      have e : (usF x a.k a.c a.l a.u).1 = x := by
        unfold usF at he ⊢
        by_cases hu : usE x a.k a.c a.l a.u ≠ 0
        · rw [if_pos hu]
        · rw [if_neg hu] at he ⊢
          cases ha : aloF x a.k a.c a.u with
          | some z => rw [ha] at he; exact absurd rfl he
          | none =>
            rw [ha] at he
            simp only at he ⊢
            by_cases hac : acErr x.gs x.ws ⟨a.k, a.c, a.l⟩ ≠ 0
            · rw [if_pos hac]
            · rw [if_neg hac] at he; exact absurd rfl he
      rw [e]; exact h
end
section
variable {G : Glob} {bb : Bool}
theorem awake_b : EV G (Tb (bs true)) 10 [] [] = some (vb true, []) := EV_base rfl rfl
end
end Go.Proofs.YtinageiefahjfaaGreatDoor
