/- The files of oplocks as lists: their steps, and what stays of them. Conditions: none. -/
import Derived.Test.YtinageiefahjfaaGreatDoorNg
namespace Go.Proofs.YtinageiefahjfaaGreatDoor
set_option linter.unusedSimpArgs false
set_option linter.unusedVariables false
structure Gr where
  c : Int
  l : Int
  t : Int
structure Wt where
  c : Int
  k : Int
structure Ac where
  k : Int
  c : Int
  l : Int
structure Br where
  c : Int
  t : Int
structure An where
  d : Bool
  b : List Br
  f : List Wt
def isCl (n : Int) : Bool := decide (1 ≤ n ∧ n ≤ 8)
def isUs (k : Int) : Bool := decide (k = 0 ∨ k = 2 ∨ k = 3)
def firstE : List Int → Int
  | [] => 0
  | e :: l => if e = 0 then firstE l else e
def eachE : Nat → List Int → Int × Int
  | _, [] => (0, 0)
  | i, e :: l => if e = 0 then eachE (i + 1) l else (i, e)
def Srt (gs : List Gr) : Prop := gs.Pairwise fun a b => a.c < b.c
def pos (gs : List Gr) (c : Int) : Nat := gs.countP fun g => decide (g.c < c)
def isIn (gs : List Gr) (c : Int) : Bool := gs.any fun g => decide (g.c = c)
def isW (ws : List Wt) (c : Int) : Bool := ws.any fun g => decide (g.c = c)
def grE (gs : List Gr) (c : Int) : Gr := gs.getD (pos gs c) ⟨0, 0, 0⟩
def al (k : Int) : Int := if k = 0 then 2 else if k = 2 then 1 else 0
def brG (c m : Int) (g : Gr) : Gr := if g.c = c ∨ g.l ≤ m then g else if g.l = 1 then ⟨g.c, 0, 0⟩ else if g.t ≤ m then g else ⟨g.c, g.l, m⟩
def brB (c m : Int) (g : Gr) : List Br := if g.c = c ∨ g.l ≤ m then [] else if g.l = 1 then [⟨g.c, 0⟩] else if g.t ≤ m then [] else [⟨g.c, m⟩]
def brGs (gs : List Gr) (c k : Int) : List Gr := gs.map (brG c (al k))
def brBs (gs : List Gr) (c k : Int) : List Br := gs.flatMap (brB c (al k))
def held (gs : List Gr) (c k : Int) : Bool := gs.any fun g => decide (g.c ≠ c) && decide (g.l > al k)
def insG (gs : List Gr) (c : Int) : List Gr := gs.take (pos gs c) ++ ⟨c, 0, 0⟩ :: gs.drop (pos gs c)
def did (gs : List Gr) (c k : Int) : List Gr := if k = 0 ∧ isIn gs c = false then insG gs c else gs
def thr : List Gr → List Wt → List Gr × List Wt × List Br × List Wt
  | gs, [] => (gs, [], [], [])
  | gs, w :: ws =>
    if held (brGs gs w.c w.k) w.c w.k = true then (brGs gs w.c w.k, w :: ws, brBs gs w.c w.k, [])
    else ((thr (did (brGs gs w.c w.k) w.c w.k) ws).1, (thr (did (brGs gs w.c w.k) w.c w.k) ws).2.1, brBs gs w.c w.k ++ (thr (did (brGs gs w.c w.k) w.c w.k) ws).2.2.1, w :: (thr (did (brGs gs w.c w.k) w.c w.k) ws).2.2.2)
def useF (gs : List Gr) (ws : List Wt) (c k : Int) : List Gr × List Wt × An :=
  if ws.length = 0 then
    (if held (brGs gs c k) c k = true then (brGs gs c k, [⟨c, k⟩], ⟨false, brBs gs c k, []⟩) else (did (brGs gs c k) c k, [], ⟨true, brBs gs c k, []⟩))
  else (gs, ws ++ [⟨c, k⟩], ⟨false, [], []⟩)
def ackG (gs : List Gr) (c : Int) : List Gr := gs.set (pos gs c) ⟨(grE gs c).c, (grE gs c).t, (grE gs c).t⟩
def reqG (gs : List Gr) (c l : Int) : List Gr := gs.set (pos gs c) ⟨(grE gs c).c, l, l⟩
def delG (gs : List Gr) (c : Int) : List Gr := gs.take (pos gs c) ++ gs.drop (pos gs c + 1)
def thA (p : List Gr × List Wt × List Br × List Wt) : List Gr × List Wt × An := (p.1, p.2.1, ⟨true, p.2.2.1, p.2.2.2⟩)
def stp (gs : List Gr) (ws : List Wt) (a : Ac) : List Gr × List Wt × An :=
  if a.k = 1 then (reqG gs a.c a.l, ws, ⟨true, [], []⟩)
  else if a.k = 4 then thA (thr (ackG gs a.c) ws)
  else if a.k = 5 then thA (thr (delG gs a.c) ws)
  else useF gs ws a.c a.k
def ifE (b : Bool) (e : Int) : Int := if b = true then 0 else e
def clash (gs : List Gr) (g : Gr) : Bool := decide (g.l ≥ 2) && gs.any (fun h => decide (h.c ≠ g.c) && decide (h.l ≥ 1)) || decide (g.l = 3) && gs.any (fun h => decide (h.c ≠ g.c))
def gErr (gs : List Gr) (i : Nat) (g : Gr) : Int := firstE [ifE (isCl g.c && decide (0 ≤ g.l ∧ g.l ≤ 3) && decide (0 ≤ g.t ∧ g.t ≤ g.l)) 2, ifE (decide (i = 0) || decide ((gs.getD (i - 1) ⟨0, 0, 0⟩).c < g.c)) 9, ifE (decide (g.l ≠ 1) || decide (g.t = g.l)) 20, ifE (!clash gs g) 13]
def wErr (gs : List Gr) (ws : List Wt) (i : Nat) (a : Wt) : Int := firstE [ifE (isCl a.c) 2, ifE (isUs a.k) 15, ifE (!isW (ws.take i) a.c) 23, ifE (decide (a.k ≠ 0) || !isIn gs a.c) 5, ifE (decide (a.k = 0) || isIn gs a.c) 6]
def gErrs (gs : List Gr) : List Int := (List.range gs.length).map fun i => gErr gs i (gs.getD i ⟨0, 0, 0⟩)
def wErrs (gs : List Gr) (ws : List Wt) : List Int := (List.range ws.length).map fun i => wErr gs ws i (ws.getD i ⟨0, 0⟩)
def chk (gs : List Gr) (ws : List Wt) : Int × Int :=
  if gs.length > 8 ∨ ws.length > 8 then (0, 8)
  else if (eachE 0 (gErrs gs)).2 ≠ 0 then eachE 0 (gErrs gs)
  else if (eachE 0 (wErrs gs ws)).2 ≠ 0 then eachE 0 (wErrs gs ws)
  else match ws with
    | [] => (0, 0)
    | w :: _ => (0, ifE (decide ((brBs gs w.c w.k).length = 0) && held (brGs gs w.c w.k) w.c w.k) 20)
def lvOK (a : Ac) : Bool := if a.k = 1 then decide (1 ≤ a.l ∧ a.l ≤ 3) else decide (a.l = 0)
def usErr (gs : List Gr) (ws : List Wt) (a : Ac) : Int := firstE [ifE (decide (0 ≤ a.k ∧ a.k ≤ 5)) 15, ifE (isCl a.c && lvOK a) 2, ifE (!isW ws a.c) 18, ifE (decide (a.k ≠ 0) || !isIn gs a.c) 5, ifE (decide (a.k = 0) || isIn gs a.c) 6]
def othG (gs : List Gr) (c : Int) : List Gr := gs.filter fun g => decide (g.c ≠ c)
def mayH (gs : List Gr) (ws : List Wt) (a : Ac) : Bool :=
  if ws.length > 0 then false else if a.l = 3 then decide ((othG gs a.c).length = 0) else if a.l = 2 then !(othG gs a.c).any (fun g => decide (g.l > 0)) else !(othG gs a.c).any (fun g => decide (g.l > 1))
def wrong (g : Gr) (a : Ac) : Bool := if a.k = 4 then decide (g.t = g.l) else if a.k = 5 then false else if a.k = 1 then decide (g.t ≠ g.l) || decide (a.l ≤ g.l) else decide (g.t ≠ g.l)
def acErr (gs : List Gr) (ws : List Wt) (a : Ac) : Int :=
  if usErr gs ws a ≠ 0 then usErr gs ws a
  else if isIn gs a.c = true ∧ wrong (grE gs a.c) a = true then 20
  else if a.k = 1 ∧ mayH gs ws a = false then 24
  else if isUs a.k = true ∧ ws.length = 8 then 16 else 0
def runM : List Gr → List Wt → List An → Nat → List Ac → (List Gr × List Wt × List An) × Int × Int
  | gs, ws, out, n, [] => ((gs, ws, out), n, 0)
  | gs, ws, out, n, a :: l => if acErr gs ws a = 0 then runM (stp gs ws a).1 (stp gs ws a).2.1 (out ++ [(stp gs ws a).2.2]) (n + 1) l else (([], [], []), n, acErr gs ws a)
def runF (l : List Ac) : (List Gr × List Wt × List An) × Int × Int := if l.length > 100 then (([], [], []), 0, 8) else runM [] [] [] 0 l
theorem pos_le (gs : List Gr) (c : Int) : pos gs c ≤ gs.length := List.countP_le_length
theorem pos_iff {gs : List Gr} (hs : Srt gs) (c : Int) : ∀ k (hk : k < gs.length), gs[k].c < c ↔ k < pos gs c := by
  induction gs with
  | nil => intro k hk; simp at hk
  | cons g gs ih =>
    intro k hk
    obtain ⟨h1, h2⟩ := List.pairwise_cons.1 hs
    by_cases hg : g.c < c
    · have e : pos (g :: gs) c = pos gs c + 1 := by simp [pos, hg]
      rw [e]
      cases k with
      | zero => simp [hg]
      | succ k =>
        have := ih h2 k (by simpa using hk)
        simp only [List.getElem_cons_succ]
        omega
    · have h0 : pos gs c = 0 := by
        unfold pos
        rw [List.countP_eq_zero]
        intro x hx
        have := h1 x hx
        simp; omega
      have e : pos (g :: gs) c = 0 := by simp only [pos, List.countP_cons, hg]; simpa [pos] using h0
      rw [e]
      cases k with
      | zero => simp; omega
      | succ k =>
        have := h1 _ (List.getElem_mem (show k < gs.length by simpa using hk))
        simp only [List.getElem_cons_succ]
        omega
theorem isIn_mem {gs : List Gr} {c : Int} : isIn gs c = true ↔ ∃ g ∈ gs, g.c = c := by simp [isIn]
theorem isIn_iff {gs : List Gr} (hs : Srt gs) (c : Int) : isIn gs c = true ↔ ∃ h : pos gs c < gs.length, (gs[pos gs c]'h).c = c := by
  rw [isIn_mem]
  constructor
  · rintro ⟨g, hg, hc⟩
    obtain ⟨k, hk, rfl⟩ := List.getElem_of_mem hg
    have h1 : ¬ k < pos gs c := fun h => by have := (pos_iff hs c k hk).2 h; omega
    have h2 : k = pos gs c := by
      have h3 : ¬ pos gs c < k := fun h => by
        have h4 : pos gs c < gs.length := by omega
        have h5 := (pos_iff hs c (pos gs c) h4)
        have h6 := (List.pairwise_iff_getElem.1 hs) (pos gs c) k h4 hk h
        omega
      omega
    subst h2
    exact ⟨hk, hc⟩
  · rintro ⟨h, hc⟩
    exact ⟨_, List.getElem_mem h, hc⟩
theorem grAt (gs : List Gr) (k : Nat) (h : k < gs.length) : gs.getD k ⟨0, 0, 0⟩ = gs[k] := by simp [List.getD_eq_getElem?_getD, List.getElem?_eq_getElem h]
theorem wtAt (ws : List Wt) (k : Nat) (h : k < ws.length) : ws.getD k ⟨0, 0⟩ = ws[k] := by simp [List.getD_eq_getElem?_getD, List.getElem?_eq_getElem h]
theorem firstE_drop (l : List Int) (k : Nat) (h : ∀ j, j < k → l.getD j 0 = 0) : firstE l = firstE (l.drop k) := by
  induction k generalizing l with
  | zero => rfl
  | succ k ih =>
    cases l with
    | nil => rfl
    | cons e l =>
      have h0 : e = 0 := by simpa using h 0 (by omega)
      subst h0
      simp only [firstE, if_true, List.drop_succ_cons]
      exact ih l (fun j hj => by simpa using h (j + 1) (by omega))
theorem getD_at (l : List Int) (k : Nat) (h : k < l.length) : l.getD k 0 = l[k] := by simp [List.getD_eq_getElem?_getD, List.getElem?_eq_getElem h]
theorem firstE_ix (l : List Int) (j : Nat) (h2 : ∀ k, k < j → ¬ l.getD k 0 ≠ 0) (h3 : j = l.length ∨ (j < l.length ∧ l.getD j 0 ≠ 0)) : firstE l = l.getD j 0 := by
  rw [firstE_drop l j (fun k hk => by have := h2 k hk; omega)]
  rcases h3 with rfl | ⟨h3, h4⟩
  · rw [List.drop_length]; simp [firstE, List.getD_eq_getElem?_getD]
  · rw [List.drop_eq_getElem_cons h3, firstE, ← getD_at l j h3, if_neg h4]
theorem eachE_ix (l : List Int) (j n : Nat) (h2 : ∀ k, k < j → ¬ l.getD k 0 ≠ 0) (h3 : j < l.length) (h4 : l.getD j 0 ≠ 0) : eachE n l = (((n + j : Nat) : Int), l.getD j 0) := by
  induction j generalizing l n with
  | zero =>
    cases l with
    | nil => simp at h3
    | cons e l => simp at h4; simp [eachE, h4]
  | succ j ih =>
    cases l with
    | nil => simp at h3
    | cons e l =>
      have h0 : e = 0 := by simpa using h2 0 (by omega)
      subst h0
      rw [eachE, if_pos rfl, ih l (n + 1) (fun k hk => by simpa using h2 (k + 1) (by omega)) (by simpa using h3) (by simpa using h4)]
      rw [show n + 1 + j = n + (j + 1) by omega]
      simp
theorem eachE_no (l : List Int) (n : Nat) (h : ∀ k, k < l.length → ¬ l.getD k 0 ≠ 0) : eachE n l = (0, 0) := by
  induction l generalizing n with
  | nil => rfl
  | cons e l ih =>
    have h0 : e = 0 := by simpa using h 0 (by simp)
    subst h0
    rw [eachE, if_pos rfl]
    exact ih (n + 1) (fun k hk => by simpa using h (k + 1) (by simpa using hk))
theorem eachE_0 {l : List Int} {n : Nat} (h : (eachE n l).2 = 0) : ∀ e ∈ l, e = 0 := by
  induction l generalizing n with
  | nil => simp
  | cons e l ih =>
    rw [eachE] at h
    split at h
    · rename_i h0
      intro x hx
      rcases List.mem_cons.1 hx with rfl | hx
      · exact h0
      · exact ih h x hx
    · rename_i h0
      exact absurd h h0
structure Vd (gs : List Gr) (ws : List Wt) : Prop where
  rg : ∀ g ∈ gs, (1 ≤ g.c ∧ g.c ≤ 8) ∧ (0 ≤ g.l ∧ g.l ≤ 3) ∧ 0 ≤ g.t ∧ g.t ≤ g.l ∧ (g.l = 1 → g.t = 1)
  so : Srt gs
  cl : ∀ g ∈ gs, ∀ h ∈ gs, h.c ≠ g.c → (g.l ≥ 2 → h.l ≤ 0) ∧ g.l ≤ 2
  wl : ws.length ≤ 8
  wr : ∀ w ∈ ws, (1 ≤ w.c ∧ w.c ≤ 8) ∧ (w.k = 0 ∨ w.k = 2 ∨ w.k = 3) ∧ (w.k = 0 ↔ isIn gs w.c = false)
  wd : ws.Pairwise fun a b => a.c ≠ b.c
def Hd (gs : List Gr) (ws : List Wt) : Prop := ∀ w, ws.head? = some w → brBs gs w.c w.k = [] ∧ held gs w.c w.k = true
theorem srt_len {gs : List Gr} (hs : Srt gs) (lo : Int) (h : ∀ g ∈ gs, lo ≤ g.c ∧ g.c ≤ 8) (hlo : lo ≤ 9) : (gs.length : Int) ≤ 9 - lo := by
  induction gs generalizing lo with
  | nil => simp; omega
  | cons g gs ih =>
    obtain ⟨h1, h2⟩ := List.pairwise_cons.1 hs
    have hg := h g List.mem_cons_self
    have := ih h2 (g.c + 1) (fun x hx => by
      have := h1 x hx
      have := h x (List.mem_cons_of_mem _ hx)
      omega) (by omega)
    simp only [List.length_cons]
    omega
theorem Vd.gl {gs : List Gr} {ws : List Wt} (h : Vd gs ws) : gs.length ≤ 8 := by
  have := srt_len h.so 1 (fun g hg => (h.rg g hg).1) (by omega)
  omega
theorem brG_c (c m : Int) (g : Gr) : (brG c m g).c = g.c := by
  unfold brG
  repeat' split
  all_goals rfl
theorem al_r (k : Int) : 0 ≤ al k ∧ al k ≤ 2 := by
  unfold al
  repeat' split
  all_goals omega
theorem isIn_map {gs : List Gr} {f : Gr → Gr} (hf : ∀ g, (f g).c = g.c) (c : Int) : isIn (gs.map f) c = isIn gs c := by
  simp only [isIn, List.any_map]
  congr 1
  funext g
  simp [hf]
theorem brGs_len (gs : List Gr) (c k : Int) : (brGs gs c k).length = gs.length := by simp [brGs]
theorem brGs_in (gs : List Gr) (c k x : Int) : isIn (brGs gs c k) x = isIn gs x := isIn_map (fun g => brG_c _ _ g) x
theorem Srt_map {gs : List Gr} {f : Gr → Gr} (hf : ∀ g, (f g).c = g.c) (hs : Srt gs) : Srt (gs.map f) := by
  unfold Srt at *
  rw [List.pairwise_map]
  exact hs.imp (fun h => by rw [hf, hf]; exact h)
theorem Vd.map {gs : List Gr} {ws : List Wt} {f : Gr → Gr} (h : Vd gs ws) (hc : ∀ g, (f g).c = g.c)
    (hf : ∀ g ∈ gs, (f g).l ≤ g.l ∧ 0 ≤ (f g).l ∧ 0 ≤ (f g).t ∧ (f g).t ≤ (f g).l ∧ ((f g).l = 1 → (f g).t = 1)) : Vd (gs.map f) ws where
  rg := by
    intro x hx
    obtain ⟨g, hg, rfl⟩ := List.mem_map.1 hx
    have h1 := h.rg g hg
    have h2 := hf g hg
    rw [hc]
    refine ⟨h1.1, ⟨h2.2.1, by omega⟩, h2.2.2.1, h2.2.2.2.1, h2.2.2.2.2⟩
  so := Srt_map hc h.so
  cl := by
    intro x hx y hy
    obtain ⟨g, hg, rfl⟩ := List.mem_map.1 hx
    obtain ⟨k, hk, rfl⟩ := List.mem_map.1 hy
    rw [hc, hc]
    intro hne
    have h1 := h.cl g hg k hk hne
    have h2 := hf g hg
    have h3 := hf k hk
    exact ⟨fun h4 => by have := h1.1 (by omega); omega, by omega⟩
  wl := h.wl
  wr := by
    intro w hw
    rw [isIn_map hc]
    exact h.wr w hw
  wd := h.wd
theorem Vd.br {gs : List Gr} {ws : List Wt} (h : Vd gs ws) (c k : Int) : Vd (brGs gs c k) ws := by
  refine h.map (fun g => brG_c _ _ g) (fun g hg => ?_)
  have h1 := h.rg g hg
  have h2 := al_r k
  unfold brG
  split
  · omega
  · split
    · simp; omega
    · split
      · omega
      · simp only; omega
theorem brB_br (c m : Int) (g : Gr) (hm : 0 ≤ m) : brB c m (brG c m g) = [] := by
  unfold brG
  split
  · rename_i h; unfold brB; rw [if_pos h]
  · rename_i h
    split
    · unfold brB; rw [if_pos (.inr hm)]
    · rename_i h1
      split
      · rename_i h2; unfold brB; rw [if_neg h, if_neg h1, if_pos h2]
      · unfold brB; rw [if_neg h, if_neg h1, if_pos (Int.le_refl _)]
theorem brBs_br (gs : List Gr) (c k : Int) : brBs (brGs gs c k) c k = [] := by
  unfold brBs brGs
  rw [List.flatMap_eq_nil_iff]
  intro x hx
  obtain ⟨g, hg, rfl⟩ := List.mem_map.1 hx
  exact brB_br _ _ _ (al_r k).1
theorem brG_no {c m : Int} {g : Gr} (h : brB c m g = []) : brG c m g = g := by
  unfold brB at h
  unfold brG
  repeat' split at h
  all_goals first | (cases h; done) | skip
  · rename_i h1; rw [if_pos h1]
  · rename_i h1 h2 h3; rw [if_neg h1, if_neg h2, if_pos h3]
theorem brGs_no {gs : List Gr} {c k : Int} (h : brBs gs c k = []) : brGs gs c k = gs := by
  unfold brBs at h
  rw [List.flatMap_eq_nil_iff] at h
  unfold brGs
  exact (List.map_congr_left (g := fun g => g) (fun g hg => brG_no (h g hg))).trans (List.map_id' _)
theorem held_n {gs : List Gr} {c k : Int} (h : ¬ held gs c k = true) : ∀ g ∈ gs, g.c ≠ c → g.l ≤ al k := by
  intro g hg hc
  apply Classical.byContradiction
  intro h1
  apply h
  unfold held
  rw [List.any_eq_true]
  exact ⟨g, hg, by simp [hc]; omega⟩
theorem insG_mem {gs : List Gr} {c : Int} {g : Gr} : g ∈ insG gs c ↔ g = ⟨c, 0, 0⟩ ∨ g ∈ gs := by
  unfold insG
  rw [List.mem_append, List.mem_cons]
  constructor
  · rintro (h | h | h)
    · exact .inr (List.mem_of_mem_take h)
    · exact .inl h
    · exact .inr (List.mem_of_mem_drop h)
  · rintro (h | h)
    · exact .inr (.inl h)
    · rw [← List.take_append_drop (pos gs c) gs, List.mem_append] at h
      rcases h with h | h
      · exact .inl h
      · exact .inr (.inr h)
theorem isIn_false {gs : List Gr} {c : Int} : isIn gs c = false ↔ ∀ g ∈ gs, g.c ≠ c := by
  rw [Bool.eq_false_iff, Ne, isIn_mem]
  constructor
  · intro h g hg hc; exact h ⟨g, hg, hc⟩
  · rintro h ⟨g, hg, hc⟩; exact h g hg hc
theorem Srt_ins {gs : List Gr} {c : Int} (hs : Srt gs) (hn : isIn gs c = false) : Srt (insG gs c) := by
  have hn := isIn_false.1 hn
  unfold Srt insG at *
  have h1 : ∀ g ∈ gs.take (pos gs c), g.c < c := by
    intro g hg
    obtain ⟨k, hk, rfl⟩ := List.getElem_of_mem hg
    have hk2 : k < pos gs c ∧ k < gs.length := by simpa [Nat.lt_min] using hk
    rw [List.getElem_take]
    exact (pos_iff hs c k hk2.2).2 hk2.1
  have h2 : ∀ g ∈ gs.drop (pos gs c), c < g.c := by
    intro g hg
    have hne := hn g (List.mem_of_mem_drop hg)
    obtain ⟨k, hk, rfl⟩ := List.getElem_of_mem hg
    rw [List.getElem_drop] at *
    have hk2 : pos gs c + k < gs.length := by simp at hk; omega
    have := pos_iff hs c (pos gs c + k) hk2
    omega
  rw [List.pairwise_append]
  refine ⟨List.Pairwise.sublist (List.take_sublist _ _) hs, List.pairwise_cons.2 ⟨fun g hg => h2 g hg, List.Pairwise.sublist (List.drop_sublist _ _) hs⟩, ?_⟩
  intro a ha b hb
  rcases List.mem_cons.1 hb with rfl | hb
  · exact h1 a ha
  · have := h1 a ha; have := h2 b hb; omega
theorem isIn_ins {gs : List Gr} {c x : Int} : isIn (insG gs c) x = (decide (c = x) || isIn gs x) := by
  rw [Bool.eq_iff_iff, isIn_mem]
  simp only [insG_mem, Bool.or_eq_true, decide_eq_true_eq, isIn_mem]
  constructor
  · rintro ⟨g, rfl | h, h2⟩
    · exact .inl h2
    · exact .inr ⟨g, h, h2⟩
  · rintro (h | ⟨g, h, h2⟩)
    · exact ⟨_, .inl rfl, h⟩
    · exact ⟨g, .inr h, h2⟩
theorem Vd.dn {gs : List Gr} {ws : List Wt} {c k : Int} (h : Vd gs ws) (hc : 1 ≤ c ∧ c ≤ 8) (hw : ∀ w ∈ ws, w.c ≠ c) (hh : ¬ held gs c k = true) : Vd (did gs c k) ws := by
  unfold did
  split
  case isFalse => exact h
  rename_i hk
  obtain ⟨rfl, hn⟩ := hk
  have hn' := isIn_false.1 hn
  have hl := held_n hh
  have e : al 0 = 2 := rfl
  rw [e] at hl
  refine ⟨?_, Srt_ins h.so hn, ?_, h.wl, ?_, h.wd⟩
  · intro g hg
    rcases insG_mem.1 hg with rfl | hg
    · simp; omega
    · exact h.rg g hg
  · intro g hg k hk hne
    rcases insG_mem.1 hg with rfl | hg
    · simp
    · have h1 := hl g hg (hn' g hg)
      rcases insG_mem.1 hk with rfl | hk
      · simp; omega
      · exact h.cl g hg k hk hne
  · intro w hw'
    obtain ⟨h1, h2, h3⟩ := h.wr w hw'
    refine ⟨h1, h2, ?_⟩
    rw [isIn_ins]
    have := hw w hw'
    rw [show decide (c = w.c) = false by simp; omega, Bool.false_or]
    exact h3
theorem Vd.tail {gs : List Gr} {w : Wt} {ws : List Wt} (h : Vd gs (w :: ws)) : Vd gs ws :=
  ⟨h.rg, h.so, h.cl, by have := h.wl; simp at this; omega, fun x hx => h.wr x (List.mem_cons_of_mem _ hx), (List.pairwise_cons.1 h.wd).2⟩
theorem thr_ok : ∀ (ws : List Wt) (gs : List Gr), Vd gs ws → Vd (thr gs ws).1 (thr gs ws).2.1 ∧ Hd (thr gs ws).1 (thr gs ws).2.1
  | [], gs, h => ⟨h, fun w hw => by cases hw⟩
  | w :: ws, gs, h => by
    have hb := h.br w.c w.k
    rw [thr]
    split
    · rename_i hh
      refine ⟨hb, fun x hx => ?_⟩
      injection hx with hx; subst hx
      exact ⟨brBs_br _ _ _, hh⟩
    · rename_i hh
      obtain ⟨h1, h2, h3⟩ := h.wr w List.mem_cons_self
      exact thr_ok ws _ (hb.tail.dn h1 (fun x hx => Ne.symm ((List.pairwise_cons.1 h.wd).1 x hx)) hh)
theorem firstE_0 : ∀ {l : List Int}, firstE l = 0 ↔ ∀ e ∈ l, e = 0
  | [] => by simp [firstE]
  | e :: l => by
    rw [firstE]
    split
    · rename_i h
      rw [firstE_0]
      simp [h]
    · rename_i h
      simp [h]
theorem ifE_0 {b : Bool} {e : Int} (he : e ≠ 0) : ifE b e = 0 ↔ b = true := by
  unfold ifE
  split <;> simp_all
theorem us_ok {gs : List Gr} {ws : List Wt} {a : Ac} (h : usErr gs ws a = 0) : (0 ≤ a.k ∧ a.k ≤ 5) ∧ (1 ≤ a.c ∧ a.c ≤ 8) ∧ lvOK a = true ∧ isW ws a.c = false ∧ (a.k = 0 ↔ isIn gs a.c = false) := by
  unfold usErr at h
  rw [firstE_0] at h
  simp only [List.mem_cons, List.not_mem_nil, or_false, forall_eq_or_imp, forall_eq] at h
  obtain ⟨h1, h2, h3, h4, h5⟩ := h
  rw [ifE_0 (by decide)] at h1 h2 h3 h4 h5
  simp only [Bool.and_eq_true, isCl, decide_eq_true_eq] at h2
  refine ⟨by simpa using h1, h2.1, h2.2, by simpa using h3, ?_⟩
  cases hi : isIn gs a.c with
  | true => simp [hi] at h4 ⊢; exact h4
  | false => simp [hi] at h5 ⊢; exact h5
theorem isW_false {ws : List Wt} {c : Int} : isW ws c = false ↔ ∀ w ∈ ws, w.c ≠ c := by simp [isW]
theorem Vd.snoc {gs : List Gr} {ws : List Wt} {c k : Int} (h : Vd gs ws) (hl : ws.length < 8) (hc : 1 ≤ c ∧ c ≤ 8) (hk : k = 0 ∨ k = 2 ∨ k = 3) (hn : isW ws c = false) (hi : k = 0 ↔ isIn gs c = false) : Vd gs (ws ++ [⟨c, k⟩]) := by
  refine ⟨h.rg, h.so, h.cl, by simp; omega, ?_, ?_⟩
  · intro w hw
    rw [List.mem_append, List.mem_singleton] at hw
    rcases hw with hw | rfl
    · exact h.wr w hw
    · exact ⟨hc, hk, hi⟩
  · rw [List.pairwise_append]
    refine ⟨h.wd, List.pairwise_singleton _ _, ?_⟩
    intro a ha b hb
    rw [List.mem_singleton] at hb
    subst hb
    exact isW_false.1 hn a ha
theorem Hd_snoc {gs : List Gr} {ws : List Wt} {w : Wt} (h : Hd gs ws) (hl : ws.length ≠ 0) : Hd gs (ws ++ [w]) := by
  intro x hx
  cases ws with
  | nil => simp at hl
  | cons y ws => exact h x hx
theorem set_map {gs : List Gr} (hs : Srt gs) {c : Int} (hi : isIn gs c = true) (g' : Gr) (hg : g'.c = c) : ∃ f : Gr → Gr, gs.set (pos gs c) g' = gs.map f ∧ (∀ g, (f g).c = g.c) ∧ (∀ g, g.c = c → f g = g') ∧ ∀ g, g.c ≠ c → f g = g := by
  refine ⟨fun g => if g.c = c then g' else g, ?_, ?_, ?_, ?_⟩
  · apply List.ext_getElem
    · simp
    · intro k h1 h2
      have hk : k < gs.length := by simpa using h1
      rw [List.getElem_set, List.getElem_map]
      obtain ⟨hp, he⟩ := (isIn_iff hs c).1 hi
      by_cases hkp : pos gs c = k
      · subst hkp
        rw [if_pos rfl, if_pos he]
      · rw [if_neg hkp, if_neg]
        intro h3
        have h4 := pos_iff hs c k hk
        have h5 : pos gs c < k := by omega
        have h6 := (List.pairwise_iff_getElem.1 hs) (pos gs c) k hp hk h5
        omega
  · intro g
    simp only
    split
    · omega
    · rfl
  · intro g h
    simp only
    rw [if_pos h]
  · intro g h
    simp only
    rw [if_neg h]
theorem grE_mem {gs : List Gr} (hs : Srt gs) {c : Int} (hi : isIn gs c = true) : grE gs c ∈ gs ∧ (grE gs c).c = c := by
  obtain ⟨hp, he⟩ := (isIn_iff hs c).1 hi
  have e : grE gs c = gs[pos gs c] := grAt gs _ hp
  rw [e]
  exact ⟨List.getElem_mem hp, he⟩
theorem grE_uniq {gs : List Gr} (hs : Srt gs) {c : Int} {g : Gr} (hg : g ∈ gs) (hc : g.c = c) : g = grE gs c := by
  have hi : isIn gs c = true := isIn_mem.2 ⟨g, hg, hc⟩
  obtain ⟨hp, he⟩ := (isIn_iff hs c).1 hi
  have e : grE gs c = gs[pos gs c] := grAt gs _ hp
  rw [e]
  obtain ⟨k, hk, rfl⟩ := List.getElem_of_mem hg
  have h4 := pos_iff hs c k hk
  by_cases h : k = pos gs c
  · subst h; rfl
  · have h5 : pos gs c < k := by omega
    have h6 := (List.pairwise_iff_getElem.1 hs) (pos gs c) k hp hk h5
    omega
theorem Vd.ack {gs : List Gr} {ws : List Wt} {c : Int} (h : Vd gs ws) (hi : isIn gs c = true) : Vd (ackG gs c) ws := by
  obtain ⟨f, h1, h2, h3, h4⟩ := set_map h.so hi ⟨(grE gs c).c, (grE gs c).t, (grE gs c).t⟩ (grE_mem h.so hi).2
  unfold ackG
  rw [h1]
  refine h.map h2 (fun g hg => ?_)
  have h5 := h.rg g hg
  by_cases hc : g.c = c
  · rw [h3 g hc, ← grE_uniq h.so hg hc]
    refine ⟨h5.2.2.2.1, h5.2.2.1, h5.2.2.1, Int.le_refl _, id⟩
  · rw [h4 g hc]
    exact ⟨Int.le_refl _, h5.2.1.1, h5.2.2.1, h5.2.2.2.1, h5.2.2.2.2⟩
theorem delG_eq {gs : List Gr} (hs : Srt gs) {c : Int} (hi : isIn gs c = true) : delG gs c = othG gs c := by
  obtain ⟨hp, he⟩ := (isIn_iff hs c).1 hi
  have h1 : ∀ g ∈ gs.take (pos gs c), g.c ≠ c := by
    intro g hg
    obtain ⟨k, hk, rfl⟩ := List.getElem_of_mem hg
    have hk2 : k < pos gs c ∧ k < gs.length := by simpa [Nat.lt_min] using hk
    rw [List.getElem_take]
    have := (pos_iff hs c k hk2.2).2 hk2.1
    omega
  have h2 : ∀ g ∈ gs.drop (pos gs c + 1), g.c ≠ c := by
    intro g hg
    obtain ⟨k, hk, rfl⟩ := List.getElem_of_mem hg
    rw [List.getElem_drop]
    have hk2 : pos gs c + 1 + k < gs.length := by simp at hk; omega
    have h6 := (List.pairwise_iff_getElem.1 hs) (pos gs c) (pos gs c + 1 + k) hp hk2 (by omega)
    omega
  have e : gs = gs.take (pos gs c) ++ gs[pos gs c] :: gs.drop (pos gs c + 1) := by
    rw [← List.drop_eq_getElem_cons hp, List.take_append_drop]
  unfold delG othG
  conv => rhs; rw [e]
  rw [List.filter_append, List.filter_cons_of_neg (by simp [he]), List.filter_eq_self.2 (fun g hg => by simpa using h1 g hg), List.filter_eq_self.2 (fun g hg => by simpa using h2 g hg)]
theorem Vd.del {gs : List Gr} {ws : List Wt} {c : Int} (h : Vd gs ws) (hi : isIn gs c = true) (hw : isW ws c = false) : Vd (delG gs c) ws := by
  rw [delG_eq h.so hi]
  have hm : ∀ g, g ∈ othG gs c → g ∈ gs ∧ g.c ≠ c := fun g hg => by simpa [othG] using hg
  refine ⟨fun g hg => h.rg g (hm g hg).1, List.Pairwise.sublist List.filter_sublist h.so, fun g hg k hk => h.cl g (hm g hg).1 k (hm k hk).1, h.wl, ?_, h.wd⟩
  intro w hw'
  obtain ⟨h1, h2, h3⟩ := h.wr w hw'
  refine ⟨h1, h2, h3.trans ?_⟩
  have hne := isW_false.1 hw w hw'
  have e : isIn (othG gs c) w.c = isIn gs w.c := by
    rw [Bool.eq_iff_iff, isIn_mem, isIn_mem]
    constructor
    · rintro ⟨g, hg, hc⟩; exact ⟨g, (hm g hg).1, hc⟩
    · rintro ⟨g, hg, hc⟩; exact ⟨g, by simp [othG]; exact ⟨hg, by omega⟩, hc⟩
  rw [e]
theorem Vd.req {gs : List Gr} {a : Ac} (h : Vd gs []) (hi : isIn gs a.c = true) (hl : 1 ≤ a.l ∧ a.l ≤ 3) (hm : mayH gs [] a = true) : Vd (reqG gs a.c a.l) [] := by
  obtain ⟨f, h1, h2, h3, h4⟩ := set_map h.so hi ⟨(grE gs a.c).c, a.l, a.l⟩ (grE_mem h.so hi).2
  unfold reqG
  rw [h1]
  have ho : ∀ g ∈ gs, g.c ≠ a.c → a.l ≠ 3 ∧ (a.l = 2 → g.l ≤ 0) ∧ g.l ≤ 1 := by
    intro g hg hc
    have hmem : g ∈ othG gs a.c := by simp [othG]; exact ⟨hg, hc⟩
    unfold mayH at hm
    rw [if_neg (by simp)] at hm
    split at hm
    · rename_i h5
      simp only [decide_eq_true_eq, List.length_eq_zero_iff] at hm
      rw [hm] at hmem
      cases hmem
    · split at hm
      · simp only [Bool.not_eq_true', List.any_eq_false, decide_eq_true_eq] at hm
        have := hm g hmem
        exact ⟨by omega, fun _ => by omega, by omega⟩
      · simp only [Bool.not_eq_true', List.any_eq_false, decide_eq_true_eq] at hm
        have := hm g hmem
        exact ⟨by omega, fun _ => by omega, by omega⟩
  refine ⟨?_, Srt_map h2 h.so, ?_, h.wl, (fun w hw => by cases hw), h.wd⟩
  · intro x hx
    obtain ⟨g, hg, rfl⟩ := List.mem_map.1 hx
    have h5 := h.rg g hg
    by_cases hc : g.c = a.c
    · rw [h3 g hc, ← grE_uniq h.so hg hc]
      exact ⟨h5.1, ⟨by simp only; omega, hl.2⟩, by simp only; omega, Int.le_refl _, id⟩
    · rw [h4 g hc]; exact h5
  · intro x hx y hy
    obtain ⟨g, hg, rfl⟩ := List.mem_map.1 hx
    obtain ⟨k, hk, rfl⟩ := List.mem_map.1 hy
    rw [h2, h2]
    intro hne
    have h5 := h.cl g hg k hk hne
    by_cases hc : g.c = a.c
    · have hc' : k.c ≠ a.c := by omega
      rw [h3 g hc, h4 k hc']
      have := ho k hk hc'
      exact ⟨fun h6 => by simp only at h6; exact this.2.1 (by omega), by simp only; omega⟩
    · rw [h4 g hc]
      by_cases hc' : k.c = a.c
      · have := ho g hg hc
        rw [h3 k hc']
        exact ⟨fun h6 => by omega, by omega⟩
      · rw [h4 k hc']
        exact h5
theorem stp_ok {gs : List Gr} {ws : List Wt} {a : Ac} (h : Vd gs ws) (hd : Hd gs ws) (he : acErr gs ws a = 0) : Vd (stp gs ws a).1 (stp gs ws a).2.1 ∧ Hd (stp gs ws a).1 (stp gs ws a).2.1 := by
  unfold acErr at he
  split at he
  · rename_i h1; exact absurd he h1
  rename_i h1
  have h1 : usErr gs ws a = 0 := Classical.not_not.1 h1
  obtain ⟨k1, k2, k3, k4, k5⟩ := us_ok h1
  split at he
  · cases he
  rename_i h2
  split at he
  · cases he
  rename_i h3
  split at he
  · cases he
  rename_i h4
  unfold stp
  split
  · rename_i hk
    have hm : mayH gs ws a = true := by
      cases hm : mayH gs ws a with
      | true => rfl
      | false => exact absurd ⟨hk, hm⟩ h3
    have hws : ws = [] := by
      cases ws with
      | nil => rfl
      | cons w ws => simp [mayH] at hm
    subst hws
    have hi : isIn gs a.c = true := by
      cases hi : isIn gs a.c with
      | true => rfl
      | false => have := k5.2 hi; omega
    have hl : 1 ≤ a.l ∧ a.l ≤ 3 := by simpa [lvOK, hk] using k3
    exact ⟨h.req hi hl hm, fun w hw => by cases hw⟩
  rename_i n1
  have hi : a.k ≠ 0 → isIn gs a.c = true := fun h0 => by
    cases hi : isIn gs a.c with
    | true => rfl
    | false => exact absurd (k5.2 hi) h0
  split
  · rename_i hk
    exact thr_ok ws _ (h.ack (hi (by omega)))
  rename_i n4
  split
  · rename_i hk
    exact thr_ok ws _ (h.del (hi (by omega)) k4)
  rename_i n5
  have hu : a.k = 0 ∨ a.k = 2 ∨ a.k = 3 := by omega
  have hl : ws.length < 8 := by
    have := h.wl
    have h6 : ¬ ws.length = 8 := fun h6 => h4 ⟨by simpa [isUs] using hu, h6⟩
    omega
  unfold useF
  split
  · rename_i hws
    have hws := List.length_eq_zero_iff.1 hws
    subst hws
    have hb := h.br a.c a.k
    split
    · rename_i hh
      refine ⟨hb.snoc (by simp) k2 hu rfl (by rw [brGs_in]; exact k5), fun x hx => ?_⟩
      injection hx with hx; subst hx
      exact ⟨brBs_br _ _ _, hh⟩
    · rename_i hh
      exact ⟨hb.dn k2 (fun w hw => by cases hw) hh, (fun w hw => by cases hw)⟩
  · rename_i hws
    exact ⟨h.snoc hl k2 hu k4 k5, Hd_snoc hd hws⟩
theorem chk_ok {gs : List Gr} {ws : List Wt} (h : (chk gs ws).2 = 0) : Vd gs ws ∧ Hd gs ws := by
  unfold chk at h
  split at h
  · cases h
  rename_i hl
  split at h
  · rename_i h1; exact absurd h h1
  rename_i h1
  split at h
  · rename_i h2; exact absurd h h2
  rename_i h2
  have h1 : ∀ i (hi : i < gs.length), gErr gs i gs[i] = 0 := by
    intro i hi
    have := eachE_0 (Classical.not_not.1 h1) (gErr gs i (gs.getD i ⟨0, 0, 0⟩)) (List.mem_map.2 ⟨i, List.mem_range.2 hi, rfl⟩)
    rw [grAt gs i hi] at this
    exact this
  have h2 : ∀ i (hi : i < ws.length), wErr gs ws i ws[i] = 0 := by
    intro i hi
    have := eachE_0 (Classical.not_not.1 h2) (wErr gs ws i (ws.getD i ⟨0, 0⟩)) (List.mem_map.2 ⟨i, List.mem_range.2 hi, rfl⟩)
    rw [wtAt ws i hi] at this
    exact this
  have g1 : ∀ i (hi : i < gs.length), (1 ≤ gs[i].c ∧ gs[i].c ≤ 8) ∧ (0 ≤ gs[i].l ∧ gs[i].l ≤ 3) ∧ (0 ≤ gs[i].t ∧ gs[i].t ≤ gs[i].l) ∧ (i = 0 ∨ (gs.getD (i - 1) ⟨0, 0, 0⟩).c < gs[i].c) ∧ (gs[i].l ≠ 1 ∨ gs[i].t = gs[i].l) ∧ clash gs gs[i] = false := by
    intro i hi
    have := h1 i hi
    unfold gErr at this
    rw [firstE_0] at this
    simp only [List.mem_cons, List.not_mem_nil, or_false, forall_eq_or_imp, forall_eq] at this
    obtain ⟨a1, a2, a3, a4⟩ := this
    rw [ifE_0 (by decide)] at a1 a2 a3 a4
    simp only [Bool.and_eq_true, Bool.or_eq_true, isCl, decide_eq_true_eq, Bool.not_eq_true'] at a1 a2 a3 a4
    exact ⟨a1.1.1, a1.1.2, a1.2, a2, a3, a4⟩
  have g2 : ∀ i (hi : i < ws.length), (1 ≤ ws[i].c ∧ ws[i].c ≤ 8) ∧ (ws[i].k = 0 ∨ ws[i].k = 2 ∨ ws[i].k = 3) ∧ isW (ws.take i) ws[i].c = false ∧ (ws[i].k = 0 ↔ isIn gs ws[i].c = false) := by
    intro i hi
    have := h2 i hi
    unfold wErr at this
    rw [firstE_0] at this
    simp only [List.mem_cons, List.not_mem_nil, or_false, forall_eq_or_imp, forall_eq] at this
    obtain ⟨a1, a2, a3, a4, a5⟩ := this
    rw [ifE_0 (by decide)] at a1 a2 a3 a4 a5
    simp only [Bool.or_eq_true, isCl, isUs, decide_eq_true_eq, Bool.not_eq_true'] at a1 a2 a3 a4 a5
    refine ⟨a1, a2, a3, ?_⟩
    cases hi : isIn gs ws[i].c with
    | true => simp [hi] at a4 ⊢; exact a4
    | false => simp [hi] at a5 ⊢; exact a5
  have hs : Srt gs := by
    have key : ∀ j (hj : j < gs.length) i (hi : i < j), (gs[i]'(by omega)).c < gs[j].c := by
      intro j
      induction j with
      | zero => intro _ i hi; omega
      | succ j ih =>
        intro hj i hi
        have h5 := (g1 (j + 1) hj).2.2.2.1
        rw [Nat.add_sub_cancel, grAt gs j (by omega)] at h5
        have h5 : gs[j].c < gs[j + 1].c := by omega
        by_cases hij : i = j
        · subst hij; exact h5
        · have := ih (by omega) i (by omega)
          omega
    exact List.pairwise_iff_getElem.2 (fun i j hi hj hij => key j hj i hij)
  have hV : Vd gs ws := by
    refine ⟨?_, hs, ?_, by omega, ?_, ?_⟩
    · intro g hg
      obtain ⟨i, hi, rfl⟩ := List.getElem_of_mem hg
      have := g1 i hi
      refine ⟨this.1, this.2.1, this.2.2.1.1, this.2.2.1.2, by omega⟩
    · intro g hg k hk hne
      obtain ⟨i, hi, rfl⟩ := List.getElem_of_mem hg
      obtain ⟨h3, h4, h5, h6, h7, h8⟩ := g1 i hi
      unfold clash at h8
      rw [Bool.or_eq_false_iff, Bool.and_eq_false_iff, Bool.and_eq_false_iff] at h8
      simp only [decide_eq_false_iff_not, List.any_eq_false, Bool.and_eq_true, decide_eq_true_eq] at h8
      obtain ⟨h9, h10⟩ := h8
      refine ⟨fun h11 => ?_, ?_⟩
      · rcases h9 with h9 | h9
        · exact absurd h11 h9
        · have := h9 k hk
          have : ¬ k.l ≥ 1 := fun h => this ⟨hne, h⟩
          omega
      · rcases h10 with h10 | h10
        · omega
        · exact absurd hne (h10 k hk)
    · intro w hw
      obtain ⟨i, hi, rfl⟩ := List.getElem_of_mem hw
      have := g2 i hi
      exact ⟨this.1, this.2.1, this.2.2.2⟩
    · refine List.pairwise_iff_getElem.2 (fun i j hi hj hij => ?_)
      have := isW_false.1 (g2 j hj).2.2.1 ws[i] (by
        rw [List.mem_take_iff_getElem]
        exact ⟨i, by omega, rfl⟩)
      exact this
  refine ⟨hV, ?_⟩
  intro w hw
  cases ws with
  | nil => cases hw
  | cons x ws =>
    injection hw with hw; subst hw
    have h : ifE (decide ((brBs gs x.c x.k).length = 0) && held (brGs gs x.c x.k) x.c x.k) 20 = 0 := h
    rw [ifE_0 (by decide), Bool.and_eq_true, decide_eq_true_eq, List.length_eq_zero_iff] at h
    rw [brGs_no h.1] at h
    exact h
theorem Vd.nil : Vd [] [] := ⟨by simp, List.Pairwise.nil, by simp, by simp, by simp, List.Pairwise.nil⟩
theorem Hd.nil {gs : List Gr} : Hd gs [] := fun w hw => by cases hw
end Go.Proofs.YtinageiefahjfaaGreatDoor
