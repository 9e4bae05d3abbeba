/- Caches: nobody sees an old value (mathematics). Conditions: none. -/
import Derived.Test.YtinageiefahjfaaDoorWb
namespace Go.Proofs.YtinageiefahjfaaDoor
set_option linter.unusedSimpArgs false
set_option linter.unusedVariables false
theorem lvF_mem {gs : List Gr} (hs : Srt gs) {g : Gr} (hg : g ∈ gs) : lvF gs g.c = g.l := by
  unfold lvF
  rw [if_pos (isIn_mem.2 ⟨g, hg, rfl⟩), ← grE_uniq hs hg rfl]
theorem lvF_ge {gs : List Gr} (hs : Srt gs) {c : Int} (h : lvF gs c ≥ 0) : ∃ g ∈ gs, g.c = c ∧ g.l = lvF gs c := by
  unfold lvF at h ⊢
  cases hi : isIn gs c with
  | false => rw [hi, if_neg (by simp)] at h; omega
  | true =>
    rw [if_pos rfl]
    exact ⟨grE gs c, (grE_mem hs hi).1, (grE_mem hs hi).2, rfl⟩
theorem lvF_no {gs : List Gr} {c : Int} (h : isIn gs c = false) : lvF gs c = -1 := by
  unfold lvF; rw [h, if_neg (by simp)]
theorem lv2 {gs : List Gr} {ws : List Wt} (h : Vd gs ws) {a b : Int} (ha : lvF gs a ≥ 2) (hb : b ≠ a) : lvF gs b ≤ 0 := by
  obtain ⟨g, hg, h1, h2⟩ := lvF_ge h.so (c := a) (by omega)
  by_cases h3 : lvF gs b ≥ 0
  · obtain ⟨k, hk, h4, h5⟩ := lvF_ge h.so h3
    have := (h.cl g hg k hk (by omega)).1 (by omega)
    omega
  · omega
theorem brG_hi {c m : Int} {g : Gr} (h : g.l ≥ 2) : (brG c m g).l = g.l := by
  unfold brG
  repeat' split
  all_goals first | rfl | omega
theorem brG_lo {c m : Int} {g : Gr} : (brG c m g).l = g.l ∨ (brG c m g).l = 0 := by
  unfold brG
  repeat' split
  all_goals first | exact .inl rfl | exact .inr rfl
theorem brGs_mem {gs : List Gr} {c k : Int} {g : Gr} (h : g ∈ gs) : brG c (al k) g ∈ brGs gs c k := List.mem_map.2 ⟨g, h, rfl⟩
theorem did_mem {gs : List Gr} {c k : Int} {g : Gr} (h : g ∈ gs) : g ∈ did gs c k := by
  unfold did
  split
  · exact insG_mem.2 (.inr h)
  · exact h
theorem did_mem' {gs : List Gr} {c k : Int} {g : Gr} (h : g ∈ did gs c k) : g ∈ gs ∨ g = ⟨c, 0, 0⟩ := by
  unfold did at h
  split at h
  · exact (insG_mem.1 h).symm
  · exact .inl h
theorem thr_hi : ∀ (ws : List Wt) (gs : List Gr) (g : Gr), g ∈ gs → g.l ≥ 2 → ∃ k ∈ (thr gs ws).1, k.c = g.c ∧ k.l = g.l
  | [], gs, g, h, _ => ⟨g, h, rfl, rfl⟩
  | w :: ws, gs, g, h, hl => by
    have h1 := brGs_mem (c := w.c) (k := w.k) h
    have h2 := brG_hi (c := w.c) (m := al w.k) hl
    rw [thr]
    split
    · exact ⟨_, h1, brG_c _ _ _, h2⟩
    · obtain ⟨k, h3, h4, h5⟩ := thr_hi ws _ _ (did_mem (c := w.c) (k := w.k) h1) (by omega)
      exact ⟨k, h3, by rw [h4, brG_c], by rw [h5, h2]⟩
theorem thr_lo : ∀ (ws : List Wt) (gs : List Gr) (k : Gr), k ∈ (thr gs ws).1 → k.l = 0 ∨ ∃ g ∈ gs, g.c = k.c ∧ k.l = g.l
  | [], gs, k, h => .inr ⟨k, h, rfl, rfl⟩
  | w :: ws, gs, k, h => by
    have hb : ∀ x ∈ brGs gs w.c w.k, x.l = 0 ∨ ∃ g ∈ gs, g.c = x.c ∧ x.l = g.l := by
      intro x hx
      obtain ⟨g, hg, rfl⟩ := List.mem_map.1 hx
      rcases brG_lo (c := w.c) (m := al w.k) (g := g) with h1 | h1
      · exact .inr ⟨g, hg, (brG_c _ _ _).symm, h1⟩
      · exact .inl h1
    rw [thr] at h
    split at h
    · exact hb k h
    · rcases thr_lo ws _ k h with h1 | ⟨g, hg, h1, h2⟩
      · exact .inl h1
      · rcases did_mem' hg with hg | rfl
        · rcases hb g hg with h3 | ⟨g', h3, h4, h5⟩
          · left; omega
          · exact .inr ⟨g', h3, by omega, by omega⟩
        · left; simpa using h2
theorem thr_wr : ∀ (ws : List Wt) (gs : List Gr) (w : Wt), w ∈ (thr gs ws).2.2.2 → w.k = 3 → ∀ g ∈ (thr gs ws).1, g.c ≠ w.c → g.l ≤ 0
  | [], gs, w, h, _ => by simp [thr] at h
  | a :: ws, gs, w, h, hk => by
    rw [thr] at h ⊢
    split at h
    · simp at h
    · rename_i hh
      rw [if_neg hh]
      simp only [List.mem_cons] at h
      rcases h with rfl | h
      · intro g hg hne
        have e : did (brGs gs w.c w.k) w.c w.k = brGs gs w.c w.k := by unfold did; rw [if_neg (fun h => by have := h.1; omega)]
        rw [e] at hg
        rcases thr_lo ws _ g hg with h1 | ⟨x, hx, h1, h2⟩
        · omega
        · have := held_n hh x hx (by omega)
          have e2 : al w.k = 0 := by rw [hk]; rfl
          omega
      · exact thr_wr ws _ w h hk
theorem thr_rw : ∀ (ws : List Wt) (gs : List Gr) (w : Wt), w ∈ (thr gs ws).2.2.2 → (w.k = 2 ∨ w.k = 3) → ∀ g ∈ gs, g.l ≥ 2 → g.c = w.c
  | [], gs, w, h, _ => by simp [thr] at h
  | a :: ws, gs, w, h, hk => by
    rw [thr] at h
    split at h
    · simp at h
    · rename_i hh
      intro g hg hl
      have h1 := brGs_mem (c := a.c) (k := a.k) hg
      have h2 := brG_hi (c := a.c) (m := al a.k) hl
      simp only [List.mem_cons] at h
      rcases h with rfl | h
      · apply Classical.byContradiction
        intro hne
        have := held_n hh _ h1 (by rw [brG_c]; exact hne)
        have e2 : al w.k ≤ 1 := by
          unfold al
          rcases hk with hk | hk <;> rw [hk] <;> decide
        omega
      · have := thr_rw ws _ w h hk _ (did_mem (c := a.c) (k := a.k) h1) (by omega)
        rw [brG_c] at this
        exact this
theorem thr_split : ∀ (ws : List Wt) (gs : List Gr), (thr gs ws).2.2.2 ++ (thr gs ws).2.1 = ws
  | [], gs => rfl
  | w :: ws, gs => by
    rw [thr]
    split
    · rfl
    · simp only [List.cons_append, thr_split ws]
def frd (W : Int → Int) : List Wt → Int × List Int → Int × List Int
  | [], p => p
  | w :: l, p => frd W l (if w.k = 3 then W w.c else p.1, if w.k = 2 then p.2 ++ [p.1] else p.2)
theorem effF_v (x : Ca) (c k : Int) : (effF x c k).v = (if k = 3 then x.W c.toNat else x.v) ∧ (effF x c k).sn = (if k = 2 then x.sn ++ [x.v] else x.sn) ∧ (effF x c k).W = x.W := by
  unfold effF
  by_cases h2 : k = 2
  · have h3 : ¬ k = 3 := by omega
    rw [if_pos h2, if_pos h2, if_neg h3]
    split <;> exact ⟨rfl, rfl, rfl⟩
  · rw [if_neg h2, if_neg h2]
    by_cases h3 : k = 3
    · rw [if_pos h3, if_pos h3]
      split <;> exact ⟨rfl, rfl, rfl⟩
    · rw [if_neg h3, if_neg h3]
      exact ⟨rfl, rfl, rfl⟩
theorem effL_frd : ∀ (l : List Wt) (x : Ca), ((effL x l).v, (effL x l).sn) = frd (fun c => x.W c.toNat) l (x.v, x.sn) ∧ (effL x l).W = x.W
  | [], x => ⟨rfl, rfl⟩
  | w :: l, x => by
    have h1 := effF_v x w.c w.k
    have h2 := effL_frd l (effF x w.c w.k)
    have e : effL x (w :: l) = effL (effF x w.c w.k) l := rfl
    rw [e, h2.1, h2.2, h1.2.2]
    refine ⟨?_, rfl⟩
    rw [frd, h1.1, h1.2.1]
theorem frd_no (W : Int → Int) : ∀ (l : List Wt) (p : Int × List Int), (∀ w ∈ l, w.k ≠ 2 ∧ w.k ≠ 3) → frd W l p = p
  | [], p, _ => rfl
  | w :: l, p, h => by
    have h1 := h w List.mem_cons_self
    rw [frd, if_neg h1.2, if_neg h1.1]
    exact frd_no W l p (fun x hx => h x (List.mem_cons_of_mem _ hx))
theorem effL_no : ∀ (l : List Wt) (x : Ca), (∀ w ∈ l, w.k ≠ 2 ∧ w.k ≠ 3) → effL x l = x
  | [], x, _ => rfl
  | w :: l, x, h => by
    have h1 := h w List.mem_cons_self
    have e : effL x (w :: l) = effL (effF x w.c w.k) l := rfl
    have e2 : effF x w.c w.k = x := by unfold effF; rw [if_neg h1.1, if_neg h1.2]
    rw [e, e2]
    exact effL_no l x (fun y hy => h y (List.mem_cons_of_mem _ hy))
structure Cln (x : Ca) : Prop where
  d : ∀ n : Nat, n < 9 → x.D n = false
  k : ∀ n : Nat, n < 9 → lvF x.gs n ≥ 1 → x.K n = -1 ∨ x.K n = x.v
theorem Cln.eff {x : Ca} (h : Cln x) {c k : Int} (hc : 1 ≤ c ∧ c ≤ 8) (hw : k = 3 → ∀ n : Nat, (n : Int) ≠ c → lvF x.gs n ≤ 0) : Cln (effF x c k) := by
  have hcc : ((c.toNat : Nat) : Int) = c := by omega
  have hg := (effF_gs x c k).1
  constructor
  · intro n hn
    unfold effF
    repeat' split
    all_goals first | exact h.d n hn | skip
    all_goals
      simp only [upd]
      split
      · rfl
      · exact h.d n hn
  · intro n hn
    rw [hg]
    intro hl
    have h0 := h.k n hn hl
    unfold effF
    split
    · split
      · simp only [upd]
        split
        · exact .inr rfl
        · exact h0
      · exact h0
    · split
      · rename_i h3
        have hnc : (n : Int) = c := by
          apply Classical.byContradiction
          intro hne
          have := hw h3 n hne
          omega
        have e : n = c.toNat := by omega
        split
        · simp only [upd]
          rw [if_pos e]
          exact .inr rfl
        · rename_i h4
          rw [hnc] at hl
          exact absurd hl h4
      · exact h0
theorem Cln.effL : ∀ (l : List Wt) {x : Ca}, Cln x → (∀ w ∈ l, (1 ≤ w.c ∧ w.c ≤ 8) ∧ (w.k = 3 → ∀ n : Nat, (n : Int) ≠ w.c → lvF x.gs n ≤ 0)) → Cln (effL x l)
  | [], x, h, _ => h
  | w :: l, x, h, hw => by
    have h1 := hw w List.mem_cons_self
    have h2 := h.eff h1.1 h1.2
    have e : Go.Proofs.YtinageiefahjfaaDoor.effL x (w :: l) = Go.Proofs.YtinageiefahjfaaDoor.effL (effF x w.c w.k) l := rfl
    rw [e]
    refine Cln.effL l h2 (fun a ha => ?_)
    rw [(effF_gs x w.c w.k).1]
    exact hw a (List.mem_cons_of_mem _ ha)
structure Iv (x : Ca) (last : Int) : Prop where
  d : ∀ n, n < 9 → x.D n = true → lvF x.gs n ≥ 2 ∧ x.K n ≠ -1 ∧ x.K n = last
  k : ∀ n, n < 9 → x.K n ≠ -1 → lvF x.gs n ≥ 1 ∧ (x.D n = true ∨ x.K n = x.v)
  v : (∀ n, n < 9 → x.D n = false) → x.v = last
  w : ∀ a ∈ x.ws, x.D a.c.toNat = false
theorem Iv.one {x : Ca} {last : Int} (h : Iv x last) (hv : Vd x.gs x.ws) {c : Nat} (hc : c < 9) (hd : x.D c = true) : ∀ n, n < 9 → n ≠ c → x.K n = -1 ∧ x.D n = false := by
  intro n hn hne
  have h1 := (h.d c hc hd).1
  have h2 := lv2 hv h1 (b := (n : Int)) (by omega)
  constructor
  · apply Classical.byContradiction
    intro h3
    have := (h.k n hn h3).1
    omega
  · cases h3 : x.D n with
    | false => rfl
    | true => have := (h.d n hn h3).1; omega
theorem Cln.drp {x : Ca} (h : Cln x) (hw : ∀ a ∈ x.ws, a.c.toNat < 9) : Iv (drpF x 9) x.v := by
  have e : ∀ n, n < 9 → (drpF x 9).D n = false := by
    intro n hn
    simp only [drpF]
    split
    · rfl
    · exact h.d n hn
  refine ⟨fun n hn hd => ?_, fun n hn hk => ?_, fun _ => rfl, fun a ha => ?_⟩
  · rw [e n hn] at hd; cases hd
  · simp only [drpF] at hk ⊢
    split at hk
    · exact absurd rfl hk
    · rename_i h1
      have h2 : lvF x.gs n ≥ 1 := by omega
      rw [if_neg h1, if_neg h1]
      exact ⟨h2, .inr ((h.k n hn h2).resolve_left hk)⟩
  · simp only [drpF]
    split
    · rfl
    · rename_i h1
      exact h.d _ (hw a ha)
theorem Iv.keep {x y : Ca} {last : Int} (h : Iv x last) (eK : y.K = x.K) (eD : y.D = x.D) (ev : y.v = x.v) (hl : ∀ n : Nat, n < 9 → x.D n = true → lvF y.gs n ≥ 2) (hw : ∀ a ∈ y.ws, x.D a.c.toNat = false) : Iv (drpF y 9) last := by
  have key : ∀ n, n < 9 → ((drpF y 9).D n = true ↔ x.D n = true) := by
    intro n hn
    simp only [drpF, eD]
    constructor
    · intro h1
      split at h1
      · cases h1
      · exact h1
    · intro h1
      rw [if_neg (by have := hl n hn h1; omega)]
      exact h1
  refine ⟨fun n hn hd => ?_, fun n hn hk => ?_, fun hv => ?_, fun a ha => ?_⟩
  · have h1 := (key n hn).1 hd
    have h2 := hl n hn h1
    have h3 := h.d n hn h1
    simp only [drpF]
    rw [if_neg (by omega), eK]
    exact ⟨h2, h3.2⟩
  · simp only [drpF] at hk ⊢
    split at hk
    · exact absurd rfl hk
    · rename_i h1
      rw [if_neg h1, if_neg h1, eD, eK, ev]
      rw [eK] at hk
      exact ⟨by omega, (h.k n hn hk).2⟩
  · show y.v = last
    rw [ev]
    refine h.v (fun n hn => ?_)
    cases h1 : x.D n with
    | false => rfl
    | true => have := hv n hn; rw [(key n hn).2 h1] at this; cases this
  · simp only [drpF, eD]
    split
    · rfl
    · exact hw a ha
theorem frd_congr {W V : Int → Int} : ∀ (l : List Wt) (p : Int × List Int), (∀ w ∈ l, w.k = 3 → W w.c = V w.c) → frd W l p = frd V l p
  | [], p, _ => rfl
  | w :: l, p, h => by
    rw [frd, frd]
    have e : (if w.k = 3 then W w.c else p.1) = if w.k = 3 then V w.c else p.1 := by
      split
      · rename_i h3; exact h w List.mem_cons_self h3
      · rfl
    rw [e]
    exact frd_congr l _ (fun x hx => h x (List.mem_cons_of_mem _ hx))
theorem isW_mem {ws : List Wt} {w : Wt} (h : w ∈ ws) : isW ws w.c = true := by
  unfold isW
  rw [List.any_eq_true]
  exact ⟨w, h, by simp⟩
theorem fil_all {ws vs : List Wt} (h : ∀ w ∈ ws, w ∈ vs) : ws.filter (fun w => !isW vs w.c) = [] := by
  rw [List.filter_eq_nil_iff]
  intro w hw
  rw [isW_mem (h w hw)]
  simp
theorem fil_split {f r : List Wt} (hd : (f ++ r).Pairwise fun a b => a.c ≠ b.c) : (f ++ r).filter (fun w => !isW r w.c) = f := by
  rw [List.filter_append, fil_all (fun w h => h), List.append_nil, List.filter_eq_self]
  intro w hw
  have h1 := (List.pairwise_append.1 hd).2.2
  have : isW r w.c = false := isW_false.2 (fun x hx => Ne.symm (h1 w hw x hx))
  rw [this]; rfl
def updI (f : Int → Int) (c x : Int) : Int → Int := fun m => if m = c then x else f m
def vls (vals : Int → Int) (k c u : Int) : Int → Int := if k = 3 then updI vals c u else vals
def spc (vals : Int → Int) (k c u : Int) (ws ws' : List Wt) (last : Int) (seen : List Int) : Int × List Int :=
  frd (vls vals k c u) (ws.filter fun w => !isW ws' w.c) (if k = 3 ∧ isW ws' c = false then u else last, if k = 2 ∧ isW ws' c = false then seen ++ [if k = 3 ∧ isW ws' c = false then u else last] else seen)
theorem usE_0 {x : Ca} {k c l u : Int} (h : usE x k c l u = 0) : 0 ≤ u ∧ usErr x.gs x.ws ⟨k, c, l⟩ = 0 := by
  unfold usE at h
  rw [firstE_0] at h
  simp only [List.mem_cons, List.not_mem_nil, or_false, forall_eq_or_imp, forall_eq] at h
  obtain ⟨h1, h2⟩ := h
  rw [ifE_0 (by decide)] at h1
  unfold wi at h1
  simp at h1
  exact ⟨h1.1, h2⟩
theorem acErr_0 {gs : List Gr} {ws : List Wt} {a : Ac} (h : acErr gs ws a = 0) : ¬ (isIn gs a.c = true ∧ wrong (grE gs a.c) a = true) := by
  unfold acErr at h
  intro hw
  split at h
  · rename_i h1; exact h1 h
  · first | (cases h; done) | (rw [if_pos hw] at h; cases h)
theorem vls_W {x : Ca} {vals : Int → Int} {k c u : Int} {ws : List Wt} (hv : ∀ w ∈ ws, w.k = 3 → vals w.c = x.W w.c.toNat) (hr : ∀ w ∈ ws, 1 ≤ w.c) (hc : 1 ≤ c) (hn : ∀ w ∈ ws, w.c ≠ c) : ∀ w ∈ ws, w.k = 3 → vls vals k c u w.c = upd x.W c.toNat u w.c.toNat := by
  intro w hw hk
  have h1 := hn w hw
  have h2 := hr w hw
  have e : vls vals k c u w.c = vals w.c := by
    unfold vls updI
    split
    · simp only; rw [if_neg h1]
    · rfl
  rw [e, hv w hw hk]
  unfold upd
  rw [if_neg (by omega)]
structure Rv (x : Ca) (vals : Int → Int) (p : Int × List Int) : Prop where
  vd : Vd x.gs x.ws
  hd : Hd x.gs x.ws
  iv : Iv x p.1
  sn : x.sn = p.2
  w : ∀ w ∈ x.ws, w.k = 3 → vals w.c = x.W w.c.toNat
theorem lvF_brGs {gs : List Gr} (hs : Srt gs) {c k : Int} {n : Int} (h : lvF gs n ≥ 2) : lvF (brGs gs c k) n ≥ 2 := by
  obtain ⟨g, hg, h1, h2⟩ := lvF_ge hs (c := n) (by omega)
  have h3 := lvF_mem (Srt_map (fun g => brG_c c (al k) g) hs) (brGs_mem (c := c) (k := k) hg)
  rw [brG_c, h1] at h3
  have h4 : lvF (brGs gs c k) n = (brG c (al k) g).l := h3
  rw [h4, brG_hi (by omega)]
  omega
theorem lvF_in {gs gs' : List Gr} (hs : Srt gs) (hs' : Srt gs') {n : Int} (h : lvF gs n ≥ 2) (hm : ∀ g ∈ gs, g.c = n → g.l ≥ 2 → ∃ k ∈ gs', k.c = g.c ∧ k.l = g.l) : lvF gs' n ≥ 2 := by
  obtain ⟨g, hg, h1, h2⟩ := lvF_ge hs (c := n) (by omega)
  obtain ⟨k, hk, h3, h4⟩ := hm g hg h1 (by omega)
  have h5 := lvF_mem hs' hk
  rw [h3, h1] at h5
  omega
theorem ack_oth {gs : List Gr} (hs : Srt gs) {c : Int} (hi : isIn gs c = true) {g : Gr} (hg : g ∈ gs) (hc : g.c ≠ c) : g ∈ ackG gs c := by
  obtain ⟨f, h1, h2, h3, h4⟩ := set_map hs hi ⟨(grE gs c).c, (grE gs c).t, (grE gs c).t⟩ (grE_mem hs hi).2
  unfold ackG
  rw [h1]
  exact List.mem_map.2 ⟨g, hg, h4 g hc⟩
theorem del_oth {gs : List Gr} (hs : Srt gs) {c : Int} (hi : isIn gs c = true) {g : Gr} (hg : g ∈ gs) (hc : g.c ≠ c) : g ∈ delG gs c := by
  rw [delG_eq hs hi]
  simp [othG, hg, hc]
theorem thr_rv {x : Ca} {vals : Int → Int} {p : Int × List Int} (h : Rv x vals p) {k c u : Int} (hk : k = 4 ∨ k = 5) (hc : 1 ≤ c ∧ c ≤ 8) (hnw : isW x.ws c = false) (gs0 : List Gr)
    (ho : ∀ g ∈ x.gs, g.c ≠ c → g ∈ gs0) (hV : Vd (thr gs0 x.ws).1 (thr gs0 x.ws).2.1) (hH : Hd (thr gs0 x.ws).1 (thr gs0 x.ws).2.1) :
    Rv (drpF (effL ⟨(thr gs0 x.ws).1, (thr gs0 x.ws).2.1, (giv x k c u).v, (giv x k c u).K, (giv x k c u).D, (giv x k c u).W, (giv x k c u).sn⟩ (thr gs0 x.ws).2.2.2) 9) (vls vals k c u) (spc vals k c u x.ws (thr gs0 x.ws).2.1 p.1 p.2) := by
  have hsp := thr_split x.ws gs0
  have hwr := thr_wr x.ws gs0
  have hrw := thr_rw x.ws gs0
  have hhi := thr_hi x.ws gs0
  generalize thr gs0 x.ws = t at *
  obtain ⟨gs', ws', bs, f⟩ := t
  simp only at *
  have hcc : ((c.toNat : Nat) : Int) = c := by omega
  have hfm : ∀ w ∈ f, w ∈ x.ws := fun w hw => by rw [← hsp]; exact List.mem_append_left _ hw
  have hwm : ∀ w ∈ ws', w ∈ x.ws := fun w hw => by rw [← hsp]; exact List.mem_append_right _ hw
  have hne : ∀ w ∈ x.ws, w.c ≠ c := isW_false.1 hnw
  have hrg : ∀ w ∈ x.ws, 1 ≤ w.c ∧ w.c ≤ 8 := fun w hw => (h.vd.wr w hw).1
  have e1 : vls vals k c u = vals := by unfold vls; rw [if_neg (by omega)]
  have e2 : isW ws' c = false := isW_false.2 (fun w hw => hne w (hwm w hw))
  have e3 : x.ws.filter (fun w => !isW ws' w.c) = f := by
    conv => lhs; rw [← hsp]
    exact fil_split (by rw [hsp]; exact h.vd.wd)
  have eS : spc vals k c u x.ws ws' p.1 p.2 = frd vals f p := by
    unfold spc
    rw [e3, e1, if_neg (by omega), if_neg (by omega)]
  rw [eS, e1]
  have gW : (giv x k c u).W = upd x.W c.toNat u := by unfold giv; split <;> rfl
  have gsn : (giv x k c u).sn = x.sn := (giv_gs x k c u).2.2
  have hfW : ∀ w ∈ f, w.k = 3 → upd x.W c.toNat u w.c.toNat = vals w.c := by
    intro w hw h3
    rw [h.w w (hfm w hw) h3]
    unfold upd
    have := hne w (hfm w hw)
    have := hrg w (hfm w hw)
    rw [if_neg (by omega)]
  have hWW : ∀ w ∈ ws', w.k = 3 → vals w.c = upd x.W c.toNat u w.c.toNat := by
    intro w hw h3
    rw [h.w w (hwm w hw) h3]
    unfold upd
    have := hne w (hwm w hw)
    have := hrg w (hwm w hw)
    rw [if_neg (by omega)]
  -- when all is clean
  have clean : ∀ (v : Int) (K : Nat → Int) (D : Nat → Bool), Cln ⟨gs', ws', v, K, D, upd x.W c.toNat u, x.sn⟩ → v = p.1 →
      Rv (drpF (effL ⟨gs', ws', v, K, D, upd x.W c.toNat u, x.sn⟩ f) 9) vals (frd vals f p) := by
    intro v K D hC hvp
    have g1 := effL_gs ⟨gs', ws', v, K, D, upd x.W c.toNat u, x.sn⟩ f
    have g2 := effL_frd f ⟨gs', ws', v, K, D, upd x.W c.toNat u, x.sn⟩
    have g3 := Cln.effL f hC (fun w hw => ⟨hrg w (hfm w hw), fun h3 n hn => by
      by_cases h4 : lvF gs' n ≥ 0
      · obtain ⟨g, hg, h5, h6⟩ := lvF_ge hV.so h4
        have := hwr w hw h3 g hg (by rw [h5]; exact hn)
        show lvF gs' n ≤ 0
        omega
      · show lvF gs' n ≤ 0
        omega⟩)
    simp only at g1 g2
    have e4 : frd vals f p = ((effL ⟨gs', ws', v, K, D, upd x.W c.toNat u, x.sn⟩ f).v, (effL ⟨gs', ws', v, K, D, upd x.W c.toNat u, x.sn⟩ f).sn) := by
      rw [g2.1, hvp, h.sn]
      exact frd_congr f _ (fun w hw h3 => (hfW w hw h3).symm)
    rw [e4]
    generalize effL ⟨gs', ws', v, K, D, upd x.W c.toNat u, x.sn⟩ f = y at *
    refine ⟨?_, ?_, ?_, rfl, ?_⟩
    · show Vd y.gs y.ws
      rw [g1.1, g1.2.1]; exact hV
    · show Hd y.gs y.ws
      rw [g1.1, g1.2.1]; exact hH
    · refine g3.drp (fun a ha => ?_)
      rw [g1.2.1] at ha
      have := hrg a (hwm a ha)
      omega
    · intro w hw h3
      show vals w.c = y.W w.c.toNat
      have hw' : w ∈ ws' := by rw [← g1.2.1]; exact hw
      rw [g2.2]
      exact hWW w hw' h3
  by_cases hd : x.D c.toNat = true
  · -- c was dirty
    have e5 : giv x k c u = { x with v := x.K c.toNat, D := upd x.D c.toNat false, W := upd x.W c.toNat u } := by unfold giv; rw [if_pos ⟨hk, hd⟩]
    rw [e5]
    have ho1 := h.iv.one h.vd (by omega) hd
    have hd1 := h.iv.d _ (by omega) hd
    refine clean _ _ _ ⟨fun n hn => ?_, fun n hn _ => ?_⟩ hd1.2.2
    · simp only [upd]
      split
      · rfl
      · rename_i hnc; exact (ho1 n hn hnc).2
    · simp only
      by_cases hnc : n = c.toNat
      · right; rw [hnc]
      · left; exact (ho1 n hn hnc).1
  · have e5 : giv x k c u = { x with W := upd x.W c.toNat u } := by unfold giv; rw [if_neg (fun h => hd h.2)]
    rw [e5]
    simp only
    have hdc : ∀ n : Nat, n < 9 → x.D n = true → (n : Int) ≠ c := fun n hn h1 h2 => hd (by rw [← h1]; congr 1; omega)
    by_cases hf : ∃ w ∈ f, w.k = 2 ∨ w.k = 3
    · obtain ⟨w, hw, hw2⟩ := hf
      have hnd : ∀ n, n < 9 → x.D n = false := by
        intro n hn
        cases h1 : x.D n with
        | false => rfl
        | true =>
          obtain ⟨h2, h3, h4⟩ := h.iv.d n hn h1
          obtain ⟨g, hg, h5, h6⟩ := lvF_ge h.vd.so (c := (n : Int)) (by omega)
          have h7 := hrw w hw hw2 g (ho g hg (by rw [h5]; exact hdc n hn h1)) (by omega)
          have h8 := h.iv.w w (hfm w hw)
          rw [show w.c.toNat = n by omega, h1] at h8
          cases h8
      refine clean _ _ _ ⟨hnd, fun n hn _ => ?_⟩ (h.iv.v hnd)
      simp only
      by_cases hK : x.K n = -1
      · exact .inl hK
      · right
        rcases (h.iv.k n hn hK).2 with h1 | h1
        · rw [hnd n hn] at h1; cases h1
        · exact h1
    · have hf : ∀ w ∈ f, w.k ≠ 2 ∧ w.k ≠ 3 := fun w hw => ⟨fun h1 => hf ⟨w, hw, .inl h1⟩, fun h1 => hf ⟨w, hw, .inr h1⟩⟩
      rw [frd_no _ _ _ hf, effL_no _ _ hf]
      refine ⟨hV, hH, ?_, h.sn, fun w hw h3 => hWW w hw h3⟩
      refine h.iv.keep rfl rfl rfl (fun n hn h1 => ?_) (fun a ha => h.iv.w a (hwm a ha))
      simp only
      refine lvF_in h.vd.so hV.so (h.iv.d n hn h1).1 (fun g hg h2 h3 => ?_)
      exact hhi g (ho g hg (by rw [h2]; exact hdc n hn h1)) h3
theorem effF_sn (x : Ca) (c k : Int) : x.sn.length ≤ (effF x c k).sn.length := by
  rw [(effF_v x c k).2.1]
  split
  · simp
  · exact Nat.le_refl _
theorem effL_sn : ∀ (l : List Wt) (x : Ca), x.sn.length ≤ (effL x l).sn.length
  | [], x => Nat.le_refl _
  | w :: l, x => Nat.le_trans (effF_sn x w.c w.k) (effL_sn l (effF x w.c w.k))
theorem us_rv {x : Ca} {vals : Int → Int} {p : Int × List Int} (h : Rv x vals p) {k c l u : Int} (he : (usF x k c l u).2 = 0) :
    Rv (usF x k c l u).1 (vls vals k c u) (spc vals k c u x.ws (usF x k c l u).1.ws p.1 p.2) ∧ 1 ≤ c ∧ c ≤ 8 ∧ x.sn.length ≤ (usF x k c l u).1.sn.length := by
  obtain ⟨hV, hH⟩ := usF_ok x h.vd h.hd k c l u
  unfold usF at he hV hH ⊢
  by_cases hu : usE x k c l u ≠ 0
  · rw [if_pos hu] at he
    exact absurd he hu
  rw [if_neg hu] at he hV hH ⊢
  obtain ⟨hu0, hus⟩ := usE_0 (Classical.not_not.1 hu)
  obtain ⟨hk, hc, _, hnw, hin⟩ := us_ok hus
  simp only at hk hc hnw hin
  have hcc : ((c.toNat : Nat) : Int) = c := by omega
  have hne : ∀ w ∈ x.ws, w.c ≠ c := isW_false.1 hnw
  have hrg : ∀ w ∈ x.ws, 1 ≤ w.c ∧ w.c ≤ 8 := fun w hw => (h.vd.wr w hw).1
  cases ha : aloF x k c u with
  | some y =>
    rw [ha] at hV hH
    simp only at hV hH ⊢
    have eF : x.ws.filter (fun w => !isW x.ws w.c) = [] := fil_all (fun w h => h)
    unfold aloF at ha
    by_cases h1 : k = 2 ∧ lvF x.gs c ≥ 1 ∧ x.K c.toNat ≠ -1
    · rw [if_pos h1] at ha
      injection ha with ha; subst ha
      obtain ⟨k2, h2, h3⟩ := h1
      have hKl : x.K c.toNat = p.1 := by
        by_cases hd : x.D c.toNat = true
        · exact (h.iv.d _ (by omega) hd).2.2
        · rw [((h.iv.k _ (by omega) h3).2).resolve_left hd]
          refine h.iv.v (fun n hn => ?_)
          cases h5 : x.D n with
          | false => rfl
          | true =>
            have hnc : c.toNat ≠ n := fun e => hd (by rw [e]; exact h5)
            exact absurd (h.iv.one h.vd hn h5 c.toNat (by omega) hnc).1 h3
      have eS : spc vals k c u x.ws x.ws p.1 p.2 = (p.1, p.2 ++ [p.1]) := by
        unfold spc
        rw [eF, frd, if_neg (by omega), if_pos ⟨k2, hnw⟩]
      rw [eS]
      refine ⟨⟨h.vd, h.hd, ⟨h.iv.d, h.iv.k, h.iv.v, h.iv.w⟩, ?_, ?_⟩, hc.1, hc.2, by simp⟩
      · show x.sn ++ [x.K c.toNat] = p.2 ++ [p.1]
        rw [h.sn, hKl]
      · have e1 : vls vals k c u = vals := by unfold vls; rw [if_neg (by omega)]
        rw [e1]; exact h.w
    · rw [if_neg h1] at ha
      by_cases h1 : k = 3 ∧ lvF x.gs c ≥ 2 ∧ brF x.gs c = false
      · rw [if_pos h1] at ha
        injection ha with ha; subst ha
        obtain ⟨k3, h2, h3⟩ := h1
        have hlo : ∀ n : Nat, n ≠ c.toNat → lvF x.gs n ≤ 0 := fun n hn => lv2 h.vd h2 (by omega)
        have eS : spc vals k c u x.ws x.ws p.1 p.2 = (u, p.2) := by
          unfold spc
          rw [eF, frd, if_pos ⟨k3, hnw⟩, if_neg (by omega)]
        rw [eS]
        refine ⟨⟨h.vd, h.hd, ⟨fun n hn hd => ?_, fun n hn hK => ?_, fun hv => ?_, fun a ha => ?_⟩, h.sn, ?_⟩, hc.1, hc.2, Nat.le_refl _⟩
        · simp only [upd] at hd ⊢
          by_cases hnc : n = c.toNat
          · subst hnc
            rw [if_pos rfl]
            exact ⟨by rw [hcc]; exact h2, by omega, rfl⟩
          · rw [if_neg hnc] at hd
            have := (h.iv.d n hn hd).1
            have := hlo n hnc
            omega
        · simp only [upd] at hK ⊢
          by_cases hnc : n = c.toNat
          · subst hnc
            rw [if_pos rfl]
            exact ⟨by rw [hcc]; omega, .inl rfl⟩
          · rw [if_neg hnc] at hK
            have := (h.iv.k n hn hK).1
            have := hlo n hnc
            omega
        · have := hv c.toNat (by omega)
          simp [upd] at this
        · have h4 := hne a ha
          have h5 := hrg a ha
          simp only [upd]
          rw [if_neg (by omega)]
          exact h.iv.w a ha
        · intro w hw h4
          unfold vls updI
          rw [if_pos k3]
          simp only
          rw [if_neg (hne w hw)]
          exact h.w w hw h4
      · rw [if_neg h1] at ha; cases ha
  | none =>
    rw [ha] at hV hH he
    simp only at hV hH he ⊢
    by_cases hac : acErr x.gs x.ws ⟨k, c, l⟩ ≠ 0
    · rw [if_pos hac] at he
      exact absurd he hac
    rw [if_neg hac] at hV hH he ⊢
    simp only at hV hH ⊢
    have hac := acErr_0 (Classical.not_not.1 hac)
    simp only at hac
    have hD : (k = 0 ∨ k = 2 ∨ k = 3) → x.D c.toNat = false := by
      intro hk3
      cases h1 : x.D c.toNat with
      | false => rfl
      | true =>
        exfalso
        obtain ⟨h2, h3, h4⟩ := h.iv.d _ (by omega) h1
        rw [hcc] at h2
        have h6 : isIn x.gs c = true := by
          cases h6 : isIn x.gs c with
          | true => rfl
          | false => rw [lvF_no h6] at h2; omega
        unfold aloF at ha
        rcases hk3 with k0 | k2 | k3
        · rw [hin.1 k0] at h6; cases h6
        · rw [if_pos ⟨k2, by omega, h3⟩] at ha; cases ha
        · rw [if_neg (by omega)] at ha
          by_cases h5 : brF x.gs c = false
          · rw [if_pos ⟨k3, h2, h5⟩] at ha; cases ha
          · refine hac ⟨h6, ?_⟩
            unfold brF at h5
            rw [if_pos h6] at h5
            unfold wrong
            simp only
            rw [if_neg (by omega), if_neg (by omega), if_neg (by omega)]
            simpa using h5
    have gW : (giv x k c u).W = upd x.W c.toNat u := by unfold giv; split <;> rfl
    have gsn : (giv x k c u).sn = x.sn := (giv_gs x k c u).2.2
    have esn : x.sn.length ≤ (actF x k c l u).sn.length := by
      rw [actF_e]
      have h1 := effL_sn (stp x.gs x.ws ⟨k, c, l⟩).2.2.f (if (stp x.gs x.ws ⟨k, c, l⟩).2.2.d = true then effF (aft x k c l u) c k else aft x k c l u)
      have h2 : x.sn.length ≤ (if (stp x.gs x.ws ⟨k, c, l⟩).2.2.d = true then effF (aft x k c l u) c k else aft x k c l u).sn.length := by
        have h3 : (aft x k c l u).sn = x.sn := gsn
        split
        · have := effF_sn (aft x k c l u) c k
          rw [h3] at this; exact this
        · rw [h3]; exact Nat.le_refl _
      exact Nat.le_trans h2 h1
    refine ⟨?_, hc.1, hc.2, esn⟩
    have eA := actF_e x k c l u
    unfold aft at eA
    have hidE : (k ≠ 2 ∧ k ≠ 3) → ∀ y : Ca, effF y c k = y := fun hk y => by unfold effF; rw [if_neg hk.1, if_neg hk.2]
    have gks : (k ≠ 4 ∧ k ≠ 5) → giv x k c u = { x with W := upd x.W c.toNat u } := fun hk => by unfold giv; rw [if_neg (fun h => by omega)]
    have hvW := vls_W (k := k) (u := u) h.w (fun w hw => (hrg w hw).1) hc.1 hne
    have hisW : isW x.ws c = false := hnw
    by_cases k1 : k = 1
    · have es : stp x.gs x.ws ⟨k, c, l⟩ = (reqG x.gs c l, x.ws, ⟨true, [], []⟩) := by unfold stp; exact if_pos k1
      rw [es, hidE (by omega), gks (by omega)] at eA
      have eB : actF x k c l u = drpF ⟨reqG x.gs c l, x.ws, x.v, x.K, x.D, upd x.W c.toNat u, x.sn⟩ 9 := eA
      rw [eB] at hV hH ⊢
      have hV' : Vd (reqG x.gs c l) x.ws := hV
      have eS : spc vals k c u x.ws x.ws p.1 p.2 = p := by
        unfold spc
        rw [fil_all (fun w h => h), frd, if_neg (by omega), if_neg (by omega)]
      show Rv _ _ (spc vals k c u x.ws x.ws p.1 p.2)
      rw [eS]
      refine ⟨hV, hH, ?_, h.sn, hvW⟩
      refine h.iv.keep rfl rfl rfl (fun n hn h1 => ?_) (fun a ha => h.iv.w a ha)
      simp only
      have h2 := (h.iv.d n hn h1).1
      have h6 : isIn x.gs c = true := by
        cases h6 : isIn x.gs c with
        | true => rfl
        | false => have := hin.2 h6; omega
      obtain ⟨f, f1, f2, f3, f4⟩ := set_map h.vd.so h6 ⟨(grE x.gs c).c, l, l⟩ (grE_mem h.vd.so h6).2
      have hm := grE_mem h.vd.so h6
      by_cases hnc : (n : Int) = c
      · have h7 : (⟨(grE x.gs c).c, l, l⟩ : Gr) ∈ reqG x.gs c l := by
          unfold reqG
          rw [f1]
          exact List.mem_map.2 ⟨_, hm.1, f3 _ hm.2⟩
        have h8 := lvF_mem hV'.so h7
        have h9 : lvF (reqG x.gs c l) c = l := by
          have e : (⟨(grE x.gs c).c, l, l⟩ : Gr).c = c := hm.2
          rw [e] at h8; exact h8
        have h10 := lvF_mem h.vd.so hm.1
        rw [hm.2] at h10
        have h11 : ¬ l ≤ (grE x.gs c).l := fun hle => hac ⟨h6, by
          unfold wrong
          simp only
          rw [if_neg (by omega), if_neg (by omega), if_pos k1]
          simp [hle]⟩
        rw [hnc] at h2 ⊢
        omega
      · refine lvF_in h.vd.so hV'.so h2 (fun g hg h3 h4 => ⟨g, ?_, rfl, rfl⟩)
        unfold reqG
        rw [f1]
        exact List.mem_map.2 ⟨g, hg, f4 g (by omega)⟩
    by_cases k4 : k = 4
    · have es : stp x.gs x.ws ⟨k, c, l⟩ = thA (thr (ackG x.gs c) x.ws) := by unfold stp; rw [if_neg k1]; exact if_pos k4
      rw [es, hidE (by omega)] at eA
      have hi : isIn x.gs c = true := by
        cases h6 : isIn x.gs c with
        | true => rfl
        | false => have := hin.2 h6; omega
      have eB : actF x k c l u = drpF (effL ⟨(thr (ackG x.gs c) x.ws).1, (thr (ackG x.gs c) x.ws).2.1, (giv x k c u).v, (giv x k c u).K, (giv x k c u).D, (giv x k c u).W, (giv x k c u).sn⟩ (thr (ackG x.gs c) x.ws).2.2.2) 9 := eA
      have eC : (actF x k c l u).ws = (thr (ackG x.gs c) x.ws).2.1 := by
        rw [eB]; exact (effL_gs _ _).2.1
      have eD : (actF x k c l u).gs = (thr (ackG x.gs c) x.ws).1 := by
        rw [eB]; exact (effL_gs _ _).1
      rw [eC, eD] at hV hH
      rw [eC, eB]
      exact thr_rv h (.inl k4) hc hnw (ackG x.gs c) (fun g hg h1 => ack_oth h.vd.so hi hg h1) hV hH
    by_cases k5 : k = 5
    · have es : stp x.gs x.ws ⟨k, c, l⟩ = thA (thr (delG x.gs c) x.ws) := by unfold stp; rw [if_neg k1, if_neg k4]; exact if_pos k5
      rw [es, hidE (by omega)] at eA
      have hi : isIn x.gs c = true := by
        cases h6 : isIn x.gs c with
        | true => rfl
        | false => have := hin.2 h6; omega
      have eB : actF x k c l u = drpF (effL ⟨(thr (delG x.gs c) x.ws).1, (thr (delG x.gs c) x.ws).2.1, (giv x k c u).v, (giv x k c u).K, (giv x k c u).D, (giv x k c u).W, (giv x k c u).sn⟩ (thr (delG x.gs c) x.ws).2.2.2) 9 := eA
      have eC : (actF x k c l u).ws = (thr (delG x.gs c) x.ws).2.1 := by
        rw [eB]; exact (effL_gs _ _).2.1
      have eD : (actF x k c l u).gs = (thr (delG x.gs c) x.ws).1 := by
        rw [eB]; exact (effL_gs _ _).1
      rw [eC, eD] at hV hH
      rw [eC, eB]
      exact thr_rv h (.inr k5) hc hnw (delG x.gs c) (fun g hg h1 => del_oth h.vd.so hi hg h1) hV hH
    have hku : k = 0 ∨ k = 2 ∨ k = 3 := by omega
    have hDc := hD hku
    have es : stp x.gs x.ws ⟨k, c, l⟩ = useF x.gs x.ws c k := by unfold stp; rw [if_neg k1, if_neg k4]; exact if_neg k5
    rw [es, gks (by omega)] at eA
    have hlw : ∀ w ∈ x.ws ++ [(⟨c, k⟩ : Wt)], x.D w.c.toNat = false := by
      intro w hw
      rw [List.mem_append, List.mem_singleton] at hw
      rcases hw with hw | rfl
      · exact h.iv.w w hw
      · exact hDc
    have hvW2 : ∀ w ∈ x.ws ++ [(⟨c, k⟩ : Wt)], w.k = 3 → vls vals k c u w.c = upd x.W c.toNat u w.c.toNat := by
      intro w hw h3
      rw [List.mem_append, List.mem_singleton] at hw
      rcases hw with hw | rfl
      · exact hvW w hw h3
      · simp only at h3 ⊢
        unfold vls updI upd
        rw [if_pos h3]
        simp
    have wW : ∀ ws : List Wt, isW (ws ++ [(⟨c, k⟩ : Wt)]) c = true := fun ws => isW_mem (w := ⟨c, k⟩) (List.mem_append_right _ List.mem_cons_self)
    by_cases hws : x.ws.length = 0
    · have hws0 : x.ws = [] := List.length_eq_zero_iff.1 hws
      by_cases hh : held (brGs x.gs c k) c k = true
      · have eu : useF x.gs x.ws c k = (brGs x.gs c k, [⟨c, k⟩], ⟨false, brBs x.gs c k, []⟩) := by unfold useF; rw [if_pos hws, if_pos hh]
        rw [eu] at eA
        have eB : actF x k c l u = drpF ⟨brGs x.gs c k, [⟨c, k⟩], x.v, x.K, x.D, upd x.W c.toNat u, x.sn⟩ 9 := eA
        rw [eB] at hV hH ⊢
        have eS : spc vals k c u x.ws [⟨c, k⟩] p.1 p.2 = p := by
          have e0 : isW [(⟨c, k⟩ : Wt)] c = true := wW []
          unfold spc
          rw [hws0, List.filter_nil, frd, e0, if_neg (by simp), if_neg (by simp)]
        show Rv _ _ (spc vals k c u x.ws [⟨c, k⟩] p.1 p.2)
        rw [eS]
        rw [hws0] at hlw hvW2
        refine ⟨hV, hH, ?_, h.sn, hvW2⟩
        refine h.iv.keep rfl rfl rfl (fun n hn h1 => lvF_brGs h.vd.so (h.iv.d n hn h1).1) hlw
      · have eu : useF x.gs x.ws c k = (did (brGs x.gs c k) c k, [], ⟨true, brBs x.gs c k, []⟩) := by unfold useF; rw [if_pos hws, if_neg hh]
        rw [eu] at eA
        have eB : actF x k c l u = drpF (effF ⟨did (brGs x.gs c k) c k, [], x.v, x.K, x.D, upd x.W c.toNat u, x.sn⟩ c k) 9 := eA
        have eC : (actF x k c l u).ws = [] := by rw [eB]; exact (effF_gs _ _ _).2.1
        have eD : (actF x k c l u).gs = did (brGs x.gs c k) c k := by rw [eB]; exact (effF_gs _ _ _).1
        have hV0 := hV
        have hH0 := hH
        rw [eC, eD] at hV0
        have eS : spc vals k c u x.ws [] p.1 p.2 = (if k = 3 then u else p.1, if k = 2 then p.2 ++ [p.1] else p.2) := by
          have e0 : isW ([] : List Wt) c = false := rfl
          unfold spc
          rw [hws0, List.filter_nil, frd, e0]
          by_cases k2 : k = 2
          · rw [if_neg (by omega), if_pos ⟨k2, rfl⟩, if_neg (by omega), if_pos k2]
          · by_cases k3 : k = 3
            · rw [if_pos ⟨k3, rfl⟩, if_neg (by omega), if_pos k3, if_neg k2]
            · rw [if_neg (by omega), if_neg (by omega), if_neg k3, if_neg k2]
        rw [eC, eS]
        rw [eB] at hV hH ⊢
        by_cases k0 : k = 0
        · rw [if_neg (by omega), if_neg (by omega)]
          rw [hidE (by omega)] at hV hH ⊢
          refine ⟨hV, hH, ?_, h.sn, fun w hw => by cases hw⟩
          refine h.iv.keep rfl rfl rfl (fun n hn h1 => ?_) (fun a ha => by cases ha)
          simp only
          refine lvF_in h.vd.so hV0.so (h.iv.d n hn h1).1 (fun g hg h2 h3 => ⟨_, did_mem (brGs_mem (c := c) (k := k) hg), brG_c _ _ _, brG_hi h3⟩)
        · have hnd : ∀ n, n < 9 → x.D n = false := by
            intro n hn
            cases h1 : x.D n with
            | false => rfl
            | true =>
              have h2 := (h.iv.d n hn h1).1
              obtain ⟨g, hg, h3, h4⟩ := lvF_ge h.vd.so (c := (n : Int)) (by omega)
              have h5 := brGs_mem (c := c) (k := k) hg
              have h6 := brG_hi (c := c) (m := al k) (g := g) (by omega)
              have hnc : (n : Int) ≠ c := fun e => by rw [show c.toNat = n by omega, h1] at hDc; cases hDc
              have h7 := held_n hh _ h5 (by rw [brG_c, h3]; exact hnc)
              have e2 : al k ≤ 1 := by
                unfold al
                rcases hku with hk | hk | hk
                · exact absurd hk k0
                · rw [hk]; decide
                · rw [hk]; decide
              omega
          have hC : Cln ⟨did (brGs x.gs c k) c k, [], x.v, x.K, x.D, upd x.W c.toNat u, x.sn⟩ := by
            refine ⟨hnd, fun n hn _ => ?_⟩
            simp only
            by_cases hK : x.K n = -1
            · exact .inl hK
            · right
              rcases (h.iv.k n hn hK).2 with h1 | h1
              · rw [hnd n hn] at h1; cases h1
              · exact h1
          have hC2 := hC.eff (k := k) hc (fun k3 n hn => by
            by_cases h4 : lvF (did (brGs x.gs c k) c k) n ≥ 0
            · obtain ⟨g, hg, h5, h6⟩ := lvF_ge hV0.so h4
              have e : did (brGs x.gs c k) c k = brGs x.gs c k := by unfold did; rw [if_neg (fun h => k0 h.1)]
              rw [e] at hg
              have h7 := held_n hh g hg (by omega)
              have e2 : al k = 0 := by rw [k3]; rfl
              show lvF (did (brGs x.gs c k) c k) n ≤ 0
              omega
            · show lvF (did (brGs x.gs c k) c k) n ≤ 0
              omega)
          have g0 := effF_gs ⟨did (brGs x.gs c k) c k, [], x.v, x.K, x.D, upd x.W c.toNat u, x.sn⟩ c k
          have g1 := effF_v ⟨did (brGs x.gs c k) c k, [], x.v, x.K, x.D, upd x.W c.toNat u, x.sn⟩ c k
          have hpv := h.iv.v hnd
          generalize effF ⟨did (brGs x.gs c k) c k, [], x.v, x.K, x.D, upd x.W c.toNat u, x.sn⟩ c k = y at *
          simp only at g0 g1
          have hu : upd x.W c.toNat u c.toNat = u := by unfold upd; rw [if_pos rfl]
          rw [hu, hpv] at g1
          rw [← g1.1]
          refine ⟨hV, hH, hC2.drp (fun a ha => ?_), ?_, fun w hw => ?_⟩
          · rw [g0.2.1] at ha; cases ha
          · show y.sn = _
            rw [g1.2.1, h.sn]
          · have hw : w ∈ y.ws := hw
            rw [g0.2.1] at hw; cases hw
    · have eu : useF x.gs x.ws c k = (x.gs, x.ws ++ [⟨c, k⟩], ⟨false, [], []⟩) := by unfold useF; rw [if_neg hws]
      rw [eu] at eA
      have eB : actF x k c l u = drpF ⟨x.gs, x.ws ++ [⟨c, k⟩], x.v, x.K, x.D, upd x.W c.toNat u, x.sn⟩ 9 := eA
      rw [eB] at hV hH ⊢
      have eS : spc vals k c u x.ws (x.ws ++ [⟨c, k⟩]) p.1 p.2 = p := by
        unfold spc
        rw [fil_all (fun w h => List.mem_append_left _ h), frd, wW, if_neg (by simp), if_neg (by simp)]
      show Rv _ _ (spc vals k c u x.ws (x.ws ++ [⟨c, k⟩]) p.1 p.2)
      rw [eS]
      refine ⟨hV, hH, ?_, h.sn, hvW2⟩
      exact h.iv.keep rfl rfl rfl (fun n hn h1 => (h.iv.d n hn h1).1) hlw
end Go.Proofs.YtinageiefahjfaaDoor
