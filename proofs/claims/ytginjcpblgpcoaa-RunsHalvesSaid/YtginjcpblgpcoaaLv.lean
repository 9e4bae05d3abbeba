/- Calls whose answers are known: a table of contracts, and code run by it. Conditions: none. -/
import Derived.Test.YtginjcpblgpcoaaLu
namespace Go.Proofs.Ytginjcpblgpcoaa

def eqVal : Value → Value → Bool
  | .int k n, .int k' n' => decide (k = k') && decide (n = n')
  | .bool b, .bool b' => b == b'
  | .string ⟨⟨l⟩⟩, .string ⟨⟨l'⟩⟩ => decide (l = l')
  | _, _ => false
def eqL {α : Type} (q : α → α → Bool) : List α → List α → Bool
  | [], [] => true
  | x :: l, y :: l' => q x y && eqL q l l'
  | _, _ => false
def eqD0 : DC → DC → Bool
  | .raw v, .raw v' => eqVal v v'
  | _, _ => false
def eqD1 : DC → DC → Bool
  | .raw v, .raw v' => eqVal v v'
  | .slc es, .slc es' => eqL (eqL eqD0) es es'
  | _, _ => false
def eqAV : AV → AV → Bool
  | .one (.dc d), .one (.dc d') => match d, d' with
    | .raw v, .raw v' => eqVal v v'
    | .slc es, .slc es' => eqL (eqL eqD1) es es'
    | _, _ => false
  | _, _ => false
def eqAVs : List AV → List AV → Bool
  | [], [] => true
  | x :: l, x' :: l' => eqAV x x' && eqAVs l l'
  | _, _ => false

theorem eqVal_ok {v v' : Value} (h : eqVal v v' = true) : v = v' := by
  unfold eqVal at h
  split at h <;> simp_all
theorem eqL_ok {α : Type} {q : α → α → Bool} (hq : ∀ x y, q x y = true → x = y) : ∀ (l l' : List α), eqL q l l' = true → l = l'
  | [], [], _ => rfl
  | x :: l, y :: l', h => by
    simp only [eqL, Bool.and_eq_true] at h
    rw [hq x y h.1, eqL_ok hq l l' h.2]
  | [], _ :: _, h => by simp [eqL] at h
  | _ :: _, [], h => by simp [eqL] at h
theorem eqD0_ok (d d' : DC) (h : eqD0 d d' = true) : d = d' := by
  cases d <;> cases d' <;> simp only [eqD0, Bool.false_eq_true] at h
  rw [eqVal_ok h]
theorem eqD1_ok (d d' : DC) (h : eqD1 d d' = true) : d = d' := by
  cases d <;> cases d' <;> simp only [eqD1, Bool.false_eq_true] at h
  · rw [eqVal_ok h]
  · rw [eqL_ok (eqL_ok eqD0_ok) _ _ h]
theorem eqAV_ok {v v' : AV} (h : eqAV v v' = true) : v = v' := by
  unfold eqAV at h
  split at h
  · split at h
    · rw [eqVal_ok h]
    · rw [eqL_ok (eqL_ok eqD1_ok) _ _ h]
    · cases h
  · cases h
theorem eqAVs_ok : ∀ (l l' : List AV), eqAVs l l' = true → l = l'
  | [], [], _ => rfl
  | x :: l, x' :: l', h => by
    simp only [eqAVs, Bool.and_eq_true] at h
    rw [eqAV_ok h.1, eqAVs_ok l l' h.2]
  | [], _ :: _, h => by simp [eqAVs] at h
  | _ :: _, [], h => by simp [eqAVs] at h

/-- a call whose result becomes data -/
def quietCall (call : CallT) (f : FuncId) (args : List AV) : Option AV :=
  (call f args []).bind fun r =>
    let v := killV (fun id => decide (0 ≤ id)) ((frzIds (idsV r.1) ⟨[r.1], r.2⟩).sl.getD 0 .junk)
    if keepV (fun _ => true) v then some v else none

abbrev Memo := List (FuncId × List AV × AV)
def memoF (m : Memo) : CallT := fun f args hp => if hp.isEmpty then (m.find? fun e => e.1 == f && eqAVs e.2.1 args).map fun e => (e.2.2, []) else none

/-- code whose calls are all known -/
def evM (call : CallT) (G : Glob) : Nat → ACode → AS → Option (Exit × AS)
  | 0, _, _ => none
  | n + 1, c, st =>
    match c with
    | .skip => some (.normal, st)
    | .ret => some (.ret, st)
    | .exit id => some (.exit id, st)
    | .region ops => (evOps call G ops st).map fun s => (.normal, s)
    | .drawn ops => (evD call G ops st).map fun s => (.normal, s)
    | .seq a b => (evM call G n a st).bind fun r => match r.1 with
      | .normal => evM call G n b r.2
      | e => some (e, r.2)
    | .cond c a b => (asBool? (evA G st.sl c)).bind fun t => if t then evM call G n a st else evM call G n b st
    | .block id a => (evM call G n a st).map fun r => match r.1 with
      | .exit id' => if id' = id then (.normal, r.2) else (.exit id', r.2)
      | e => (e, r.2)
    | .loop a => (evM call G n a st).bind fun r => match r.1 with
      | .normal => evM call G n (.loop a) r.2
      | e => some (e, r.2)

section
variable {P : Program} {G : Glob} {k : Nat}

theorem QC.quiet {call : CallT} (hcall : CallOK P G call) {f : FuncId} {args : List AV} {v : AV} (h : quietCall call f args = some v) : QC P G f args v := by
  unfold quietCall at h
  obtain ⟨⟨av, o'⟩, h1, h⟩ := Option.bind_eq_some_iff.1 h
  simp only at h
  split at h
  · rename_i hkv
    injection h with h
    obtain ⟨_, g2⟩ := hcall _ _ _ _ _ h1 [] rfl
    refine g2.gh (fun a o ⟨h3, h4⟩ _ => ?_)
    subst h3
    obtain ⟨s1, hgh, hn⟩ := frzIds_ok (k := 0) (idsV a) ⟨[a], o⟩
    have hn' : norm s1 = frzIds (idsV a) ⟨[a], o'⟩ := by rw [hn]; simp only [norm, h4]
    have hlen : s1.sl.length = 1 := by
      have := congrArg (fun q => q.sl.length) hn'
      simp only [norm, frzIds_len] at this
      simpa using this
    obtain ⟨y, hy⟩ := List.length_eq_one_iff.1 hlen
    have hgd := Gh.drop (k := 0) (as := s1) 0 (Nat.le_refl _)
    refine ⟨v, [], ?_, Nat.zero_le _, rfl, rfl⟩
    have hv : v = killV (fun id => decide (0 ≤ id)) y := by
      rw [← h, ← hn']
      simp [norm, hy]
    have := hgh.trans hgd
    rw [hy] at this
    simpa [hv] using this
  · cases h

theorem QC.run {T : Tbl} (hT : TOK P T) (n : Nat) {f : FuncId} {args : List AV} {v : AV} (h : quietCall (callF T (evC G T n)) f args = some v) : QC P G f args v :=
  QC.quiet (callF_ok hT (evC_ok hT n)) h

theorem memo_ok {m : Memo} (h : ∀ e ∈ m, okF P e.1 = true ∧ QC P G e.1 e.2.1 e.2.2) : CallOK P G (memoF m) := by
  intro f args hp av o' hf hp0 hhp
  unfold memoF at hf
  split at hf
  · rename_i he
    obtain ⟨e, h1, h2⟩ := Option.map_eq_some_iff.1 hf
    injection h2 with h2 h3
    have hm := h e (List.mem_of_find?_eq_some h1)
    have hq := List.find?_some h1
    simp only [Bool.and_eq_true, beq_iff_eq] at hq
    obtain ⟨hq1, hq2⟩ := hq
    have hq2 := eqAVs_ok _ _ hq2
    subst hq1; subst hq2; subst h2; subst h3
    have hnil : hp0 = [] := by
      rw [← hhp] at he
      simpa using he
    subst hnil
    refine ⟨hm.1, ?_⟩
    have := hm.2
    refine AC.gh this (fun a o ho _ => ⟨a, o, Gh.refl, Nat.zero_le _, ho.1, by rw [ho.2]; rfl⟩)
  · cases hf

theorem evM_ok {call : CallT} (hcall : CallOK P G call) : ∀ (n : Nat) (c : ACode) (s : AS) (e : Exit) (st' : AS), evM call G n c (norm s) = some (e, st') → ∀ k, AW P G k c (fun e' s' => e' = e ∧ norm s' = st') s := by
  intro n
  induction n using Nat.strongRecOn with
  | ind n0 ihs =>
    intro c s e st' h k
    cases n0 with
    | zero => simp [evM] at h
    | succ n =>
    have ih := ihs n (Nat.lt_succ_self n)
    cases c with
    | skip => simp only [evM, Option.some.injEq, Prod.mk.injEq] at h; obtain ⟨rfl, rfl⟩ := h; exact AW.skip ⟨rfl, rfl⟩
    | ret => simp only [evM, Option.some.injEq, Prod.mk.injEq] at h; obtain ⟨rfl, rfl⟩ := h; exact AW.ret ⟨rfl, rfl⟩
    | exit id => simp only [evM, Option.some.injEq, Prod.mk.injEq] at h; obtain ⟨rfl, rfl⟩ := h; exact AW.exit ⟨rfl, rfl⟩
    | region ops =>
      simp only [evM] at h
      obtain ⟨s1, h1, h2⟩ := Option.map_eq_some_iff.1 h
      injection h2 with h2 h3
      subst h2; subst h3
      exact AW.region ((evOps_ok hcall ops s s1 h1).mono (fun s' h => ⟨rfl, h⟩))
    | drawn ops =>
      simp only [evM] at h
      obtain ⟨s1, h1, h2⟩ := Option.map_eq_some_iff.1 h
      injection h2 with h2 h3
      subst h2; subst h3
      exact AW.drawn (AWL.mono (fun s' h => ⟨rfl, h⟩) _ _ (evD_ok hcall ops s s1 h1))
    | seq a b =>
      simp only [evM] at h
      obtain ⟨⟨e1, s1⟩, h1, h2⟩ := Option.bind_eq_some_iff.1 h
      refine AW.seq ((ih a s e1 s1 h1 k).mono ?_)
      rintro e' s' ⟨rfl, rfl⟩
      cases e' with
      | normal => exact ih b s' e st' h2 k
      | _ => simp only [Option.some.injEq, Prod.mk.injEq] at h2; obtain ⟨rfl, rfl⟩ := h2; exact ⟨rfl, rfl⟩
    | cond c a b =>
      simp only [evM] at h
      obtain ⟨t, h1, h2⟩ := Option.bind_eq_some_iff.1 h
      refine AW.cond h1 (fun ht => ?_) (fun ht => ?_)
      · subst ht; exact ih a s e st' h2 k
      · subst ht; exact ih b s e st' h2 k
    | block id a =>
      simp only [evM] at h
      obtain ⟨⟨e1, s1⟩, h1, h2⟩ := Option.map_eq_some_iff.1 h
      refine AW.block ((ih a s e1 s1 h1 k).mono ?_)
      rintro e' s' ⟨rfl, rfl⟩
      cases e' with
      | exit id' =>
        simp only at h2 ⊢
        split at h2
        · rename_i heq
          injection h2 with h2 h3
          subst h2; subst h3
          rw [if_pos heq]; exact ⟨rfl, rfl⟩
        · rename_i heq
          injection h2 with h2 h3
          subst h2; subst h3
          rw [if_neg heq]; exact ⟨rfl, rfl⟩
      | _ => simp only [Prod.mk.injEq] at h2; obtain ⟨rfl, rfl⟩ := h2; exact ⟨rfl, rfl⟩
    | loop a =>
      refine AW.loop (α := Nat) (fun m s' => m ≤ n + 1 ∧ evM call G m (.loop a) (norm s') = some (e, st')) id (n + 1) ⟨Nat.le_refl _, h⟩ (fun m s' hm => ?_)
      obtain ⟨hm, hI⟩ := hm
      cases m with
      | zero => simp [evM] at hI
      | succ m =>
        simp only [evM] at hI
        obtain ⟨⟨e1, s1⟩, h1, h2⟩ := Option.bind_eq_some_iff.1 hI
        refine (ihs m (by omega) a s' e1 s1 h1 k).mono ?_
        rintro e' s'' ⟨rfl, rfl⟩
        cases e' with
        | normal => exact ⟨m, ⟨by omega, h2⟩, by simp⟩
        | _ => simp only [Option.some.injEq, Prod.mk.injEq] at h2; obtain ⟨rfl, rfl⟩ := h2; exact ⟨rfl, rfl⟩

def oneT (f : FuncId) (c : ACode) (rs : List RetV) (nt : Nat) : Tbl := fun g => if g = f then some (c, rs, nt) else none

/-- a function all of whose calls are known -/
theorem QC.memo {m : Memo} (hm : ∀ e ∈ m, okF P e.1 = true ∧ QC P G e.1 e.2.1 e.2.2) (n : Nat) {T : Tbl} (hT : TOK P T) {f : FuncId} {c : ACode} {rs : List RetV} {nt : Nat} (hf : T f = some (c, rs, nt)) {args : List AV} {v : AV}
    (h : quietCall (callF (oneT f c rs nt) (evM (memoF m) G n)) f args = some v) : QC P G f args v := by
  refine QC.quiet (callF_ok (T := oneT f c rs nt) (fun g c' rs' nt' hg => ?_) (evM_ok (memo_ok hm) n)) h
  unfold oneT at hg
  split at hg
  · rename_i he
    subst he
    injection hg with hg; injection hg with h1 hg; injection hg with h2 h3
    subst h1; subst h2; subst h3
    exact hT _ _ _ _ hf
  · cases hg
end
end Go.Proofs.Ytginjcpblgpcoaa
