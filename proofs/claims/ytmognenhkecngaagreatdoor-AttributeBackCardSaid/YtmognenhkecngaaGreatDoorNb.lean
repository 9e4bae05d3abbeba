/- The evaluator's answers come of finitely many calls. Conditions: none. -/
import Derived.Test.YtmognenhkecngaaGreatDoorNa
namespace Go.Proofs.YtmognenhkecngaaGreatDoor
section
variable {α : Type}
theorem lim_of {f : Nat → Option α} (hm : ∀ n r, f n = some r → f (n + 1) = some r) {n : Nat} {r : α} (h : f n = some r) : lim f = some r := by
  have mono : ∀ n r, f n = some r → ∀ m, n ≤ m → f m = some r := by
    intro n r h m hle
    induction m with
    | zero => simp at hle; subst hle; exact h
    | succ m ih =>
      by_cases he : n = m + 1
      · subst he; exact h
      · exact hm _ _ (ih (by omega))
  have hx : ∃ n r, f n = some r := ⟨n, r, h⟩
  unfold lim
  rw [dif_pos hx]
  obtain ⟨r', hr'⟩ := hx.choose_spec
  have h1 := mono _ _ hr' (max hx.choose n) (Nat.le_max_left _ _)
  have h2 := mono _ _ h (max hx.choose n) (Nat.le_max_right _ _)
  rw [hr', ← h1, h2]
theorem lim_some {f : Nat → Option α} {r : α} (h : lim f = some r) : ∃ n, f n = some r := by
  unfold lim at h
  split at h
  · exact ⟨_, h⟩
  · cases h
end
section
variable {run : AS → Option (Exit × AS)} {L : List Nat} {m : Nat}
theorem lpN_mono : ∀ (n : Nat) (st : AS) r, lpN run L m n st = some r → lpN run L m (n + 1) st = some r
  | 0, st, r, h => by simp [lpN] at h
  | n + 1, st, r, h => by
    rw [lpN] at h ⊢
    split at h
    · exact lpN_mono n _ r h
    · exact h
theorem loopE_of {n : Nat} {st : AS} {r : Exit × AS} (h : lpN run L m n st = some r) : loopE run L m st = some r := lim_of (fun n r h => lpN_mono n st r h) h
/-- a round of a loop -/
theorem loopE_eq (st : AS) {s : AS} (h : run st = some (.normal, s)) : loopE run L m st = loopE run L m (trimA L m s) := by
  have e : ∀ n, lpN run L m (n + 1) st = lpN run L m n (trimA L m s) := fun n => by rw [lpN, h]
  cases hr : loopE run L m (trimA L m s) with
  | some r =>
    obtain ⟨n, hn⟩ := lim_some hr
    exact loopE_of (n := n + 1) (by rw [e]; exact hn)
  | none =>
    cases hl : loopE run L m st with
    | none => rfl
    | some r =>
      obtain ⟨n, hn⟩ := lim_some hl
      have : loopE run L m (trimA L m s) = some r := loopE_of (n := n) (by rw [← e]; exact lpN_mono _ _ _ hn)
      rw [hr] at this; cases this
theorem loopE_end {st : AS} {e : Exit} {s : AS} (h : run st = some (e, s)) (he : e ≠ .normal) : loopE run L m st = some (e, s) := by
  refine loopE_of (n := 1) ?_
  rw [lpN, h]
  split
  · rename_i h1; injection h1 with h1; injection h1 with h1; exact absurd h1 he
  · rfl
end
/-- what a call answers, all calls behind some answer -/
def Sup (calls : Nat → CallT) (call : CallT) : Prop := ∀ f a hp r, call f a hp = some r → ∃ n, ∀ m, n ≤ m → calls m f a hp = some r
section
variable {calls : Nat → CallT} {call : CallT} {G : Glob}
theorem dtK_sup (hs : Sup calls call) {d : Option Nat} {f : FuncId} {xs : List AArg} {st s : AS} (h : dtK call G d f xs st = some s) : ∃ n, ∀ m, n ≤ m → dtK (calls m) G d f xs st = some s := by
  unfold dtK at *
  cases hk : (nzAs G st.sl xs).all (keepV fun _ => true) with
  | false => rw [hk] at h; cases h
  | true =>
    rw [hk] at h
    simp only [cond_true] at h ⊢
    cases hc : call f (nzAs G st.sl xs) [] with
    | none => rw [hc] at h; cases h
    | some r =>
      obtain ⟨n, hn⟩ := hs _ _ _ _ hc
      rw [hc] at h
      exact ⟨n, fun m hm => by rw [hn m hm]; exact h⟩
theorem dnZ_sup (hs : Sup calls call) {d : Option Nat} {f : FuncId} {xs : List AArg} {st s : AS} (h : dnZ call G d f xs st = some s) : ∃ n, ∀ m, n ≤ m → dnZ (calls m) G d f xs st = some s := by
  unfold dnZ at *
  cases hk : (nzAs G st.sl xs).all (keepV fun _ => true) with
  | false => rw [hk] at h; cases h
  | true =>
    rw [hk] at h
    simp only [cond_true] at h ⊢
    cases hc : call f (nzAs G st.sl xs) [] with
    | none => rw [hc] at h; cases h
    | some r =>
      obtain ⟨n, hn⟩ := hs _ _ _ _ hc
      rw [hc] at h
      exact ⟨n, fun m hm => by rw [hn m hm]; exact h⟩
theorem vwK_sup (hs : Sup calls call) {d : Option Nat} {f : FuncId} {xs : List AArg} {st s : AS} (h : vwK call G d f xs st (call f (vwAs G st xs) []) = some s) :
    ∃ n, ∀ m, n ≤ m → vwK (calls m) G d f xs st (calls m f (vwAs G st xs) []) = some s := by
  cases hc : call f (vwAs G st xs) [] with
  | none => rw [hc] at h; cases h
  | some r =>
    rw [hc] at h
    obtain ⟨n, hn⟩ := hs _ _ _ _ hc
    obtain ⟨av, os⟩ := r
    cases os with
    | nil =>
      simp only [vwK] at h
      cases hr : rawA? av with
      | true => rw [hr] at h; exact ⟨n, fun m hm => by rw [hn m hm]; simp only [vwK, hr]; exact h⟩
      | false =>
        rw [hr] at h
        obtain ⟨n2, hn2⟩ := dtK_sup hs h
        exact ⟨max n n2, fun m hm => by rw [hn m (by omega)]; simp only [vwK, hr]; exact hn2 m (by omega)⟩
    | cons o os =>
      obtain ⟨n2, hn2⟩ := dtK_sup hs (st := frzIds (bldAs G st.sl xs) st) h
      exact ⟨max n n2, fun m hm => by rw [hn m (by omega)]; exact hn2 m (by omega)⟩
theorem dvK_sup (hs : Sup calls call) {d : Option Nat} {f : FuncId} {xs : List AArg} {st s : AS} (h : dvK call G d f xs st (call f (vwAs G st xs) []) = some s) :
    ∃ n, ∀ m, n ≤ m → dvK (calls m) G d f xs st (calls m f (vwAs G st xs) []) = some s := by
  cases hc : call f (vwAs G st xs) [] with
  | none => rw [hc] at h; cases h
  | some r =>
    rw [hc] at h
    obtain ⟨n, hn⟩ := hs _ _ _ _ hc
    obtain ⟨av, os⟩ := r
    cases os with
    | nil =>
      simp only [dvK] at h
      cases hr : rawA? av with
      | true => rw [hr] at h; exact ⟨n, fun m hm => by rw [hn m hm]; simp only [dvK, hr]; exact h⟩
      | false =>
        rw [hr] at h
        obtain ⟨n2, hn2⟩ := dnZ_sup hs h
        exact ⟨max n n2, fun m hm => by rw [hn m (by omega)]; simp only [dvK, hr]; exact hn2 m (by omega)⟩
    | cons o os =>
      obtain ⟨n2, hn2⟩ := dnZ_sup hs (st := st) h
      exact ⟨max n n2, fun m hm => by rw [hn m (by omega)]; exact hn2 m (by omega)⟩
theorem evCall_sup (hs : Sup calls call) {d : Option Nat} {f : FuncId} {avs : List AV} {st s : AS} (h : evCall call d f avs st = some s) : ∃ n, ∀ m, n ≤ m → evCall (calls m) d f avs st = some s := by
  unfold evCall at *
  simp only at h ⊢
  split at h
  · rename_i hk
    simp only [hk, if_true]
    obtain ⟨r, h1, h2⟩ := Option.map_eq_some_iff.1 h
    obtain ⟨n, hn⟩ := hs _ _ _ _ h1
    exact ⟨n, fun m hm => by rw [hn m hm]; exact congrArg some h2⟩
  · cases h
theorem nzCall_sup (hs : Sup calls call) : Sup (fun n => nzCall (calls n)) (nzCall call) := fun f a hp r h => hs f (a.map nzV) hp r h
theorem clZ_sup (hs : Sup calls call) {d : Option Nat} {f : FuncId} {xs : List AArg} {st s : AS} (h : clZ call G d f xs st = some s) : ∃ n, ∀ m, n ≤ m → clZ (calls m) G d f xs st = some s := by
  unfold clZ at *
  cases hp : plainAs G st.sl xs with
  | true => rw [hp] at h; exact vwK_sup hs h
  | false => rw [hp] at h; exact evCall_sup (nzCall_sup hs) h
theorem cvZ_sup (hs : Sup calls call) {d : Option Nat} {x : AArg} {xs : List AArg} {st s : AS} (h : cvZ call G d x xs st = some s) : ∃ n, ∀ m, n ≤ m → cvZ (calls m) G d x xs st = some s := by
  unfold cvZ at *
  unfold cvK at *
  split at h
  · exact evCall_sup (nzCall_sup hs) h
  · cases h
theorem stZ_sup (hs : Sup calls call) {st s : AS} {l : List AOp} {d : Option Nat} {ai : AI} (h : stZ call G st l d ai = some s) : ∃ n, ∀ m, n ≤ m → stZ (calls m) G st l d ai = some s := by
  cases ai with
  | call f xs => exact clZ_sup hs h
  | callv x xs => exact cvZ_sup hs h
  | _ => exact ⟨0, fun _ _ => h⟩
theorem stO_sup (hs : Sup calls call) {st s : AS} {l : List AOp} {d : Option Nat} {ai : AI} {g : Option (Nat × Bool)} (h : stO call G st l d ai g = some s) : ∃ n, ∀ m, n ≤ m → stO (calls m) G st l d ai g = some s := by
  cases g with
  | none => exact stZ_sup hs h
  | some g =>
    simp only [stO] at h ⊢
    cases hg : gK g.2 (evA G st.sl (.t g.1)) with
    | none => rw [hg] at h; cases h
    | some b =>
      rw [hg] at h
      cases b with
      | true => exact stZ_sup hs h
      | false => exact ⟨0, fun _ _ => h⟩
theorem evR_sup (hs : Sup calls call) : ∀ (l : List AOp) (st s : AS), evR call G l (some st) = some s → ∃ n, ∀ m, n ≤ m → evR (calls m) G l (some st) = some s
  | [], st, s, h => ⟨0, fun _ _ => h⟩
  | o :: l, st, s, h => by
    simp only [evR] at h ⊢
    cases ho : stO call G st l o.dst o.ai o.guard with
    | none => rw [ho] at h; cases l <;> cases h
    | some s1 =>
      rw [ho] at h
      obtain ⟨n1, h1⟩ := stO_sup hs ho
      obtain ⟨n2, h2⟩ := evR_sup hs l s1 s h
      exact ⟨max n1 n2, fun m hm => by rw [h1 m (by omega)]; exact h2 m (by omega)⟩
theorem stR_sup (hs : Sup calls call) {st s : AS} {l : List AOp} {d : Option Nat} {ai : AI} {g : Option (Nat × Bool)} {b : Bool} (h : stR call G st l d ai g b = some s) : ∃ n, ∀ m, n ≤ m → stR (calls m) G st l d ai g b = some s := by
  cases b with
  | false => exact stO_sup hs h
  | true =>
    cases ai with
    | call f xs => exact evCall_sup (nzCall_sup hs) h
    | mk => exact ⟨0, fun _ _ => h⟩
    | _ => cases h
theorem evRR_sup (hs : Sup calls call) {L : List Nat} : ∀ (l : List AOp) (st s : AS), evRR call G L l (some st) = some s → ∃ n, ∀ m, n ≤ m → evRR (calls m) G L l (some st) = some s
  | [], st, s, h => ⟨0, fun _ _ => h⟩
  | o :: l, st, s, h => by
    simp only [evRR] at h ⊢
    cases ho : stR call G st l o.dst o.ai o.guard (isRef L o.ai o.guard) with
    | none => rw [ho] at h; cases l <;> cases h
    | some s1 =>
      rw [ho] at h
      obtain ⟨n1, h1⟩ := stR_sup hs ho
      obtain ⟨n2, h2⟩ := evRR_sup hs l s1 s h
      exact ⟨max n1 n2, fun m hm => by rw [h1 m (by omega)]; exact h2 m (by omega)⟩
theorem drZ_sup (hs : Sup calls call) {st s : AS} {q : Bool} {d : Option Nat} {ai : AI} (h : drZ call G st d ai q = some s) : ∃ n, ∀ m, n ≤ m → drZ (calls m) G st d ai q = some s := by
  cases q with
  | true =>
    simp only [drZ] at h ⊢
    cases ai with
    | call f xs =>
      simp only [qtZ] at h ⊢
      cases hk : (nzAs G st.sl xs).all (keepV fun _ => true) with
      | false => rw [hk] at h; cases h
      | true =>
        rw [hk] at h
        simp only [cond_true] at h ⊢
        cases hc : call f (nzAs G st.sl xs) [] with
        | none => rw [hc] at h; cases h
        | some r =>
          obtain ⟨n, hn⟩ := hs _ _ _ _ hc
          rw [hc] at h
          exact ⟨n, fun m hm => by rw [hn m hm]; exact h⟩
    | _ => exact ⟨0, fun _ _ => h⟩
  | false =>
    simp only [drZ] at h ⊢
    cases ai with
    | call f xs => exact dvK_sup hs h
    | callv x xs => exact cvZ_sup hs h
    | _ => exact ⟨0, fun _ _ => h⟩
theorem drO_sup (hs : Sup calls call) {st s : AS} {q : Bool} {d : Option Nat} {ai : AI} {g : Option (Nat × Bool)} (h : drO call G st q d ai g = some s) : ∃ n, ∀ m, n ≤ m → drO (calls m) G st q d ai g = some s := by
  cases g with
  | none => exact drZ_sup hs h
  | some g =>
    simp only [drO] at h ⊢
    cases hg : gK g.2 (evA G st.sl (.t g.1)) with
    | none => rw [hg] at h; cases h
    | some b =>
      rw [hg] at h
      cases b with
      | true => exact drZ_sup hs h
      | false => exact ⟨0, fun _ _ => h⟩
theorem evDr_sup (hs : Sup calls call) : ∀ (l : List (Bool × AOp)) (st s : AS), evDr call G l (some st) = some s → ∃ n, ∀ m, n ≤ m → evDr (calls m) G l (some st) = some s
  | [], st, s, h => ⟨0, fun _ _ => h⟩
  | o :: l, st, s, h => by
    simp only [evDr] at h ⊢
    cases ho : drO call G st o.1 o.2.dst o.2.ai o.2.guard with
    | none => rw [ho] at h; cases l <;> cases h
    | some s1 =>
      rw [ho] at h
      obtain ⟨n1, h1⟩ := drO_sup hs ho
      obtain ⟨n2, h2⟩ := evDr_sup hs l s1 s h
      exact ⟨max n1 n2, fun m hm => by rw [h1 m (by omega)]; exact h2 m (by omega)⟩
theorem nrm_some {x : Option AS} {r : Exit × AS} (h : nrm x = some r) : ∃ s, x = some s ∧ r = (.normal, s) := by
  cases x with
  | none => cases h
  | some s => injection h with h; exact ⟨s, rfl, h.symm⟩
theorem fvP_sup {R : List Nat} {x : Nat → Option AS} {y : Option AS} {q : AS × FP} (h : fvP R y = some q) (hx : ∀ s, y = some s → ∃ n, ∀ m, n ≤ m → x m = some s) : ∃ n, ∀ m, n ≤ m → fvP R (x m) = some q := by
  cases y with
  | none => cases h
  | some s =>
    obtain ⟨n, hn⟩ := hx s rfl
    exact ⟨n, fun m hm => by rw [hn m hm]; exact h⟩
theorem fvA_sup (hs : Sup calls call) {st : AS} {d : Option Nat} {r : Nat} {ai : AI} {q : AS × FP} (h : fvA call G st d r ai = some q) : ∃ n, ∀ m, n ≤ m → fvA (calls m) G st d r ai = some q := by
  cases ai with
  | call f xs =>
    simp only [fvA] at h ⊢
    generalize (xs.map (evA G st.sl)).flatMap idsV = J at h ⊢
    match J with
    | [] => exact fvP_sup (x := fun m => qtZ (calls m) G st d (.call f xs)) h (fun s hq => drZ_sup hs (show drZ call G st d (.call f xs) true = some s from hq))
    | [id] =>
      simp only [fvC] at h ⊢
      unfold fvB at h ⊢
      split at h
      · rename_i cs _
        cases hk : (keepL (fun _ => true) cs && (xs.map (evA G st.sl)).all (keepV (outJ [id]))) with
        | false => rw [hk] at h; cases h
        | true =>
          rw [hk] at h
          simp only [cond_true] at h ⊢
          cases hc : nzCall call f ((xs.map (evA G st.sl)).map (renV (idxN [id]))) [.box cs] with
          | none => rw [hc] at h; cases h
          | some q =>
            obtain ⟨n, hn⟩ := nzCall_sup hs _ _ _ _ hc
            refine ⟨n, fun m hm => ?_⟩
            have h' := hn m hm
            simp only at h'
            rw [h', ← hc]
            exact h
      · cases h
    | _ :: _ :: _ => cases h
  | alloc z => exact ⟨0, fun _ _ => h⟩
  | store size x v => exact ⟨0, fun _ _ => h⟩
  | cpys x y => exact ⟨0, fun _ _ => h⟩
  | _ => exact ⟨0, fun _ _ => h⟩
theorem fvO_sup (hs : Sup calls call) {st : AS} {d : Option Nat} {r : Nat} {ai : AI} {g : Option (Nat × Bool)} {q : AS × FP} (h : fvO call G st d r ai g = some q) : ∃ n, ∀ m, n ≤ m → fvO (calls m) G st d r ai g = some q := by
  cases g with
  | none => exact fvA_sup hs h
  | some g =>
    simp only [fvO] at h ⊢
    cases hg : gK g.2 (evA G st.sl (.t g.1)) with
    | none => rw [hg] at h; cases h
    | some b =>
      rw [hg] at h
      cases b with
      | true => exact fvA_sup hs h
      | false => exact ⟨0, fun _ _ => h⟩
theorem fvR_sup (hs : Sup calls call) {prs : List (Nat × Nat)} : ∀ (l : List AOp) (acc : List FP) (r : Nat) (st s : AS), fvR call G prs acc r l (some st) = some s → ∃ n, ∀ m, n ≤ m → fvR (calls m) G prs acc r l (some st) = some s
  | [], acc, r, st, s, h => ⟨0, fun _ _ => h⟩
  | o :: l, acc, r, st, s, h => by
    simp only [fvR] at h ⊢
    cases ho : fvO call G st o.dst r o.ai o.guard with
    | none => rw [ho] at h; cases h
    | some q =>
      obtain ⟨s1, f⟩ := q
      rw [ho] at h
      obtain ⟨n1, h1⟩ := fvO_sup hs ho
      obtain ⟨n2, h2⟩ := fvR_sup hs l _ _ s1 s h
      exact ⟨max n1 n2, fun m hm => by rw [h1 m (by omega)]; exact h2 m (by omega)⟩
theorem lpN_sup {runs : Nat → AS → Option (Exit × AS)} {run : AS → Option (Exit × AS)} (hr : ∀ st r, run st = some r → ∃ n, ∀ m, n ≤ m → runs m st = some r) {L : List Nat} {k : Nat} : ∀ (i : Nat) (st : AS) r, lpN run L k i st = some r → ∃ n, ∀ m, n ≤ m → lpN (runs m) L k i st = some r
  | 0, st, r, h => by simp [lpN] at h
  | i + 1, st, r, h => by
    simp only [lpN] at h
    cases hrun : run st with
    | none => rw [hrun] at h; cases h
    | some q =>
      obtain ⟨n1, h1⟩ := hr _ _ hrun
      rw [hrun] at h
      obtain ⟨e, s⟩ := q
      cases e with
      | normal =>
        simp only at h
        obtain ⟨n2, h2⟩ := lpN_sup hr i _ r h
        exact ⟨max n1 n2, fun m hm => by rw [lpN, h1 m (by omega)]; exact h2 m (by omega)⟩
      | _ => exact ⟨n1, fun m hm => by rw [lpN, h1 m hm]; exact h⟩
theorem EC_sup (hs : Sup calls call) : ∀ (c : HC) (st : AS) r, EC call G c st = some r → ∃ n, ∀ m, n ≤ m → EC (calls m) G c st = some r := by
  intro c
  induction c with
  | skip => exact fun st r h => ⟨0, fun _ _ => h⟩
  | ret => exact fun st r h => ⟨0, fun _ _ => h⟩
  | exit id => exact fun st r h => ⟨0, fun _ _ => h⟩
  | region ops =>
    intro st r h
    simp only [EC] at h ⊢
    obtain ⟨s, h1, rfl⟩ := nrm_some h
    obtain ⟨n, hn⟩ := evR_sup hs ops st s h1
    exact ⟨n, fun m hm => by rw [hn m hm]; rfl⟩
  | regR L ops =>
    intro st r h
    simp only [EC] at h ⊢
    obtain ⟨s, h1, rfl⟩ := nrm_some h
    obtain ⟨n, hn⟩ := evRR_sup hs ops st s h1
    exact ⟨n, fun m hm => by rw [hn m hm]; rfl⟩
  | drawnF prs ops =>
    intro st r h
    simp only [EC] at h ⊢
    obtain ⟨s, h1, rfl⟩ := nrm_some h
    obtain ⟨n, hn⟩ := fvR_sup hs ops _ _ _ s h1
    exact ⟨n, fun m hm => by rw [hn m hm]; rfl⟩
  | drawn ops =>
    intro st r h
    simp only [EC] at h ⊢
    obtain ⟨s, h1, rfl⟩ := nrm_some h
    obtain ⟨n, hn⟩ := evDr_sup hs ops st s h1
    exact ⟨n, fun m hm => by rw [hn m hm]; rfl⟩
  | seq a b iha ihb =>
    intro st r h
    simp only [EC] at h ⊢
    cases ha : EC call G a st with
    | none => rw [ha] at h; cases h
    | some q =>
      obtain ⟨n1, h1⟩ := iha _ _ ha
      rw [ha] at h
      obtain ⟨e, s⟩ := q
      cases e with
      | normal =>
        obtain ⟨n2, h2⟩ := ihb s r h
        exact ⟨max n1 n2, fun m hm => by rw [h1 m (by omega)]; exact h2 m (by omega)⟩
      | _ => exact ⟨n1, fun m hm => by rw [h1 m hm]; exact h⟩
  | cond c a b iha ihb =>
    intro st r h
    simp only [EC] at h ⊢
    cases hb : asBool? (evA G st.sl c) with
    | none => rw [hb] at h; cases h
    | some t => rw [hb] at h; cases t with
      | true => exact iha st r h
      | false => exact ihb st r h
  | block id a iha =>
    intro st r h
    simp only [EC] at h ⊢
    cases ha : EC call G a st with
    | none => rw [ha] at h; cases h
    | some q =>
      obtain ⟨n1, h1⟩ := iha _ _ ha
      rw [ha] at h
      exact ⟨n1, fun m hm => by rw [h1 m hm]; exact h⟩
  | loop L a iha =>
    intro st r h
    simp only [EC] at h ⊢
    obtain ⟨i, hi⟩ := lim_some h
    obtain ⟨n, hn⟩ := lpN_sup (runs := fun m => EC (calls m) G a) (fun st r h => iha st r h) i _ r hi
    exact ⟨n, fun m hm => loopE_of (hn m hm)⟩
  | gh g a iha => exact fun st r h => iha _ r h
  | bad => intro st r h; cases h
theorem funE_sup (hs : Sup calls call) {h : HF} {args : List AV} {hp : List AObj} {r : AV × List AObj} (he : funE call G h args hp = some r) : ∃ n, ∀ m, n ≤ m → funE (calls m) G h args hp = some r := by
  unfold funE at *
  cases hc : EC call G h.code ⟨args ++ junks (h.nt - args.length), hp⟩ with
  | none => rw [hc] at he; cases he
  | some q =>
    obtain ⟨n, hn⟩ := EC_sup hs _ _ _ hc
    rw [hc] at he
    exact ⟨n, fun m hm => by rw [hn m hm]; exact he⟩
theorem callN_mono {T : HT} : ∀ (n : Nat) (f : FuncId) (args : List AV) (hp : List AObj) (r : AV × List AObj), callN G T n f args hp = some r → callN G T (n + 1) f args hp = some r
  | 0, f, args, hp, r, h => by simp [callN] at h
  | n + 1, f, args, hp, r, h => by
    rw [callN] at h ⊢
    cases hT : T.tab f with
    | none => rw [hT] at h; exact h
    | some x =>
      rw [hT] at h
      obtain ⟨m, hm⟩ := funE_sup (calls := fun _ => callN G T (n + 1)) (fun f a hp r h => ⟨0, fun _ _ => callN_mono n f a hp r h⟩) h
      exact hm m (Nat.le_refl _)
theorem callN_sup (T : HT) : Sup (callN G T) (EV G T) := by
  intro f a hp r h
  obtain ⟨n, hn⟩ := lim_some h
  refine ⟨n, fun m hm => ?_⟩
  induction m with
  | zero => simp at hm; subst hm; exact hn
  | succ m ih =>
    by_cases he : n = m + 1
    · subst he; exact hn
    · exact callN_mono _ _ _ _ _ (ih (by omega))
/-- what a function's code answers is its answer -/
theorem EV_of {T : HT} {f : FuncId} {h : HF} {args : List AV} {hp : List AObj} {r : AV × List AObj} (hT : T.tab f = some h) (he : funE (EV G T) G h args hp = some r) : EV G T f args hp = some r := by
  obtain ⟨n, hn⟩ := funE_sup (callN_sup T) he
  refine lim_of (n := n + 1) (fun n r h => callN_mono n f args hp r h) ?_
  rw [callN, hT]
  exact hn n (Nat.le_refl _)
theorem EV_base {T : HT} {f : FuncId} {args : List AV} {hp : List AObj} {r : AV × List AObj} (hT : T.tab f = none) (he : T.base f args hp = some r) : EV G T f args hp = some r := by
  refine lim_of (n := 1) (fun n r h => callN_mono n f args hp r h) ?_
  rw [callN, hT]
  exact he
end
end Go.Proofs.YtmognenhkecngaaGreatDoor
