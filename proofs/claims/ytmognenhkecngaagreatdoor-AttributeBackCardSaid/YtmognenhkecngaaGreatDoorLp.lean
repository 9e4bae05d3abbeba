/- The forms of code over the abstract states; a function's contract from its body; steps that the world doesn't see. Conditions: none. -/
import Derived.Test.YtmognenhkecngaaGreatDoorLx
namespace Go.Proofs.YtmognenhkecngaaGreatDoor
set_option linter.unusedSimpArgs false
set_option linter.unusedVariables false

inductive ACode where
  | skip | ret
  | region (ops : List AOp)
  | drawn (ops : List (Bool × AOp))
  | drawnF (prs : List (Nat × Nat)) (ops : List AOp)
  | seq (a b : ACode)
  | cond (c : AArg) (a b : ACode)
  | block (id : Nat) (a : ACode)
  | loop (a : ACode)
  | exit (id : Nat)
  | bad

/-- does an operation write an object? -/
def isWr : AI → Bool
  | .alloc _ => true
  | .store _ _ _ => true
  | .call _ _ => true
  | .cpys _ _ => true
  | _ => false
/-- a call that answers nothing: it changes something -/
def isPr (P : Program) (o : AOp) : Bool := match o.ai with
  | .call f _ => match P.funcs[f]? with
    | some fn => fn.results.isEmpty
    | none => false
  | .cpys _ _ => true
  | _ => false
/-- the pairs of operations, by their places, that no order is given for and of which one writes -/
def prsF (c : List (List Nat)) (ops : List AOp) (ord : List Nat) : List (Nat × Nat) :=
  (List.range ord.length).flatMap fun q => (List.range q).filterMap fun p => if (c.getD (ord.getD q 0) []).contains (ord.getD p 0) || !(isWr (ops.getD p dummyA).ai || isWr (ops.getD q dummyA).ai) then none else some (p, q)
def statF (c : List (List Nat)) (ops : List AOp) (ord : List Nat) : Bool :=
  (List.range ord.length).all fun q => (List.range q).all fun p => (c.getD (ord.getD q 0) []).contains (ord.getD p 0) || apartO (ops.getD p dummyA) (ops.getD q dummyA)
def drawFC (opsA : Array Oper) (l : List AOp) (ord : List Nat) : Option ACode :=
  if drawOKF opsA.toList l.length ord && pairsOK (fun i j => i != j) ord && statF (cloL opsA.toList []) (ord.map fun i => l.getD i dummyA) ord then
    some (.drawnF (prsF (cloL opsA.toList []) (ord.map fun i => l.getD i dummyA) ord) (ord.map fun i => l.getD i dummyA)) else none
def regD (opsA : Array Oper) (l : List AOp) : Option (List (Bool × AOp)) :=
  ((drawC (cloL opsA.toList []) opsA.toList (quietsOf (cloL opsA.toList []) l) (orderO (cloL opsA.toList []) ((quietsOf (cloL opsA.toList []) l).map (·.1)) l.length (List.range l.length))).or
    (drawC (cloL opsA.toList []) opsA.toList (quietsOf (cloL opsA.toList []) l) (orderL (cloL opsA.toList []) ((quietsOf (cloL opsA.toList []) l).map (·.1)) (l.map fun o => lateAI o.ai) l.length (List.range l.length))))
def regC (P : Program) (opsA : Array Oper) (l : List AOp) (d : Bool) : Option ACode :=
  if d then
    if l.any (isPr P) then (drawFC opsA l (orderO (cloL opsA.toList []) [] l.length (List.range l.length))).or ((regD opsA l).map .drawn)
    else ((regD opsA l).map .drawn).or (drawFC opsA l (orderO (cloL opsA.toList []) [] l.length (List.range l.length)))
  else some (.region l)

theorem regC_form {P : Program} {opsA : Array Oper} {l : List AOp} {d : Bool} {x : ACode} (h : regC P opsA l d = some x) : (x = .region l ∧ d = false) ∨ (∃ lq lp ord, x = .drawn lp ∧ d = true ∧ lq.map (·.2) = l ∧ drawC (cloL opsA.toList []) opsA.toList lq ord = some lp) ∨
    ∃ prs ops ord, x = .drawnF prs ops ∧ d = true ∧ drawFC opsA l ord = some x := by
  unfold regC at h
  cases d with
  | false => simp at h; exact .inl ⟨h.symm, rfl⟩
  | true =>
    simp only [if_true] at h
    have hA : ∀ {x}, (regD opsA l).map ACode.drawn = some x → (x = .region l ∧ true = false) ∨ (∃ lq lp ord, x = .drawn lp ∧ true = true ∧ lq.map (·.2) = l ∧ drawC (cloL opsA.toList []) opsA.toList lq ord = some lp) ∨
        ∃ prs ops ord, x = .drawnF prs ops ∧ true = true ∧ drawFC opsA l ord = some x := by
      intro x h
      unfold regD at h
      obtain ⟨lp, h1, h2⟩ := Option.map_eq_some_iff.1 h
      rcases Option.or_eq_some_iff.1 h1 with h1 | ⟨_, h1⟩
      · exact .inr (.inl ⟨_, lp, _, h2.symm, rfl, quiets_snd, h1⟩)
      · exact .inr (.inl ⟨_, lp, _, h2.symm, rfl, quiets_snd, h1⟩)
    have hB : ∀ {x ord}, drawFC opsA l ord = some x → (x = .region l ∧ true = false) ∨ (∃ lq lp ord, x = .drawn lp ∧ true = true ∧ lq.map (·.2) = l ∧ drawC (cloL opsA.toList []) opsA.toList lq ord = some lp) ∨
        ∃ prs ops ord, x = .drawnF prs ops ∧ true = true ∧ drawFC opsA l ord = some x := by
      intro x ord h
      have h' := h
      unfold drawFC at h'
      split at h'
      · injection h' with h'
        exact .inr (.inr ⟨_, _, _, h'.symm, rfl, h⟩)
      · cases h'
    split at h
    · rcases Option.or_eq_some_iff.1 h with h | ⟨_, h⟩
      · exact hB h
      · exact hA h
    · rcases Option.or_eq_some_iff.1 h with h | ⟨_, h⟩
      · exact hA h
      · exact hB h

/-- what is not compiled is bad: it is never to be reached -/
def badO : Option ACode → Option ACode
  | some x => some x
  | none => some .bad
theorem badO_some {o : Option ACode} {x : ACode} (h : badO o = some x) (hx : x ≠ .bad) : o = some x := by
  cases o with
  | none => injection h with h; exact absurd h.symm hx
  | some y => exact h
def compileC (P : Program) : Code → Option ACode
  | .skip => some .skip
  | .ret => some .ret
  | .region _ ops d => badO ((compileOps P ops ops.toList).bind fun l => regC P ops l d)
  | .seq a b => (compileC P a).bind fun x => (compileC P b).map fun y => .seq x y
  | .cond c a b => (compileC P a).bind fun x => (compileC P b).map fun y => .cond (argOf c) x y
  | .block id a => (compileC P a).map fun x => .block id x
  | .loop a => (compileC P a).map fun x => .loop x
  | .exit id => some (.exit id)
  | _ => some .bad

/-- the code, run from an abstract state, ends so that Q holds -/
def AW (P : Program) (G : Glob) (k : Nat) (ac : ACode) (Q : Exit → AS → Prop) (as : AS) : Prop :=
  ∀ c, compileC P c = some ac → ∀ F γ a w, Inv F γ as.hp w → Slots F γ as.sl a → GlobOK F G → k ≤ γ.length →
    ∀ QE : Exit → Act → World → Prop, (∀ e a' w' F' γ' as', Q e as' → Ext k F γ w F' γ' w' → Inv F' γ' as'.hp w' → Slots F' γ' as'.sl a' → k ≤ γ'.length → QE e a' w') → c.wp P QE a w

section
variable {P : Program} {G : Glob} {k : Nat} {Q : Exit → AS → Prop} {as as' : AS} {x y : ACode}

theorem AW.ghost (h : Gh k as as') (hw : AW P G k x Q as') : AW P G k x Q as := by
  intro c hc F γ a w hi hs hg hk QE hq
  obtain ⟨F', γ', he, hi', hs', hk'⟩ := h F γ a w hi hs hk
  exact hw c hc F' γ' a w hi' hs' (hg.sub he.sub) hk' QE (fun e a' w' F'' γ'' as'' h1 h2 h3 h4 => hq e a' w' F'' γ'' as'' h1 (he.trans h2) h3 h4)

theorem AW.mono {Q' : Exit → AS → Prop} (h : AW P G k x Q as) (hq : ∀ e as, Q e as → Q' e as) : AW P G k x Q' as := by
  intro c hc F γ a w hi hs hg hk QE hqe
  exact h c hc F γ a w hi hs hg hk QE (fun e a' w' F' γ' as' h1 => hqe e a' w' F' γ' as' (hq _ _ h1))

theorem AW.skip (h : Q .normal as) : AW P G k .skip Q as := by
  intro c hc F γ a w hi hs hg hk QE hq
  cases c <;> simp only [compileC] at hc <;> first | (cases hc; done) | skip
  · exact wp_skip (hq .normal a w F γ as h (Ext.refl _ _ _ _) hi hs hk)
  all_goals first | (exfalso; revert hc; simp [Option.bind_eq_some_iff]; done) | (exfalso; obtain ⟨l, _, hc⟩ := Option.bind_eq_some_iff.1 (badO_some hc (by simp)); rcases regC_form hc with ⟨h, _⟩ | ⟨_, _, _, h, _⟩ | ⟨_, _, _, h, _⟩ <;> cases h)
  
theorem AW.ret (h : Q .ret as) : AW P G k .ret Q as := by
  intro c hc F γ a w hi hs hg hk QE hq
  cases c <;> simp only [compileC] at hc <;> first | (cases hc; done) | skip
  case ret => exact wp_ret (hq .ret a w F γ as h (Ext.refl _ _ _ _) hi hs hk)
  all_goals first | (exfalso; revert hc; simp [Option.bind_eq_some_iff]; done) | (exfalso; obtain ⟨l, _, hc⟩ := Option.bind_eq_some_iff.1 (badO_some hc (by simp)); rcases regC_form hc with ⟨h, _⟩ | ⟨_, _, _, h, _⟩ | ⟨_, _, _, h, _⟩ <;> cases h)

theorem AW.exit {id : Nat} (h : Q (.exit id) as) : AW P G k (.exit id) Q as := by
  intro c hc F γ a w hi hs hg hk QE hq
  cases c <;> simp only [compileC] at hc <;> first | (cases hc; done) | skip
  case exit id' =>
    injection hc with hc; injection hc with hc; subst hc
    exact wp_exit (hq (.exit id') a w F γ as h (Ext.refl _ _ _ _) hi hs hk)
  all_goals first | (exfalso; revert hc; simp [Option.bind_eq_some_iff]; done) | (exfalso; obtain ⟨l, _, hc⟩ := Option.bind_eq_some_iff.1 (badO_some hc (by simp)); rcases regC_form hc with ⟨h, _⟩ | ⟨_, _, _, h, _⟩ | ⟨_, _, _, h, _⟩ <;> cases h)

theorem AW.region {ops : List AOp} (h : WR P G k ops (Q .normal) as) : AW P G k (.region ops) Q as := by
  intro c hc F γ a w hi hs hg hk QE hq
  cases c <;> simp only [compileC] at hc <;> first | (cases hc; done) | skip
  case region id opsA d =>
    have hc := badO_some hc (by simp)
    cases ho : compileOps P opsA opsA.toList with
    | none => simp [ho] at hc
    | some l =>
      simp only [ho, Option.bind_some] at hc
      rcases regC_form hc with ⟨h1, rfl⟩ | ⟨_, _, _, h1, _⟩ | ⟨_, _, _, h1, _⟩
      · injection h1 with h1; subst h1
        exact wp_region_list (h opsA _ ho F γ a w hi hs hg hk QE (fun a' w' F' γ' as' h1 => hq .normal a' w' F' γ' as' h1))
      · cases h1
      · cases h1
  all_goals first | (exfalso; revert hc; simp [Option.bind_eq_some_iff]; done) | (exfalso; obtain ⟨l, _, hc⟩ := Option.bind_eq_some_iff.1 (badO_some hc (by simp)); rcases regC_form hc with ⟨h, _⟩ | ⟨_, _, _, h, _⟩ | ⟨_, _, _, h, _⟩ <;> cases h)

theorem AW.drawn {ops : List (Bool × AOp)} (h : AWL P G k (Q .normal) ops as) : AW P G k (.drawn ops) Q as := by
  intro c hc F γ a w hi hs hg hk QE hq
  cases c <;> simp only [compileC] at hc <;> first | (cases hc; done) | skip
  case region id opsA d =>
    have hc := badO_some hc (by simp)
    cases ho : compileOps P opsA opsA.toList with
    | none => simp [ho] at hc
    | some l =>
      simp only [ho, Option.bind_some] at hc
      rcases regC_form hc with ⟨h1, _⟩ | ⟨lq, lp, ord, h1, rfl, hl, hd⟩ | ⟨_, _, _, h1, _⟩
      · cases h1
      · injection h1 with h1; subst h1
        exact drawn_ok (by rw [hl]; exact ho) hd h hi hs hg hk (fun a' w' F' γ' as' h1 => hq .normal a' w' F' γ' as' h1)
      · cases h1
  all_goals first | (exfalso; revert hc; simp [Option.bind_eq_some_iff]; done) | (exfalso; obtain ⟨l, _, hc⟩ := Option.bind_eq_some_iff.1 (badO_some hc (by simp)); rcases regC_form hc with ⟨h, _⟩ | ⟨_, _, _, h, _⟩ | ⟨_, _, _, h, _⟩ <;> cases h)

def dummyE : FE := (dummyA, [], [])
def dsj (f g : List Nat × List Nat) : Bool := disjF f.1 (g.2 ++ g.1) && disjF g.1 f.2
theorem StepF.noWr {o : AOp} {st : AS} {v : AV} {u : Option (Nat × AObj)} {R : List Nat} (h : StepF P G k o st v u R) (hw : isWr o.ai = false) : u = none := by
  cases h with
  | skip h => rfl
  | pur _ _ h hv hR => rfl
  | call f args cargs r _ h ha hq hn => rfl
  | lit size len z ps es h ha hf hes hlen => rfl
  | alloc z id h ha hd hk => rw [ha] at hw; cases hw
  | callB f args cargs id cs cs' h ha hb hac hargs hr => rw [ha] at hw; cases hw
  | cpy x y id lo n bs cs h ha hx hy hb hle => rw [ha] at hw; cases hw
  | store size x v id off cs vs h ha hd0 hx hv hb hsz hle => rw [ha] at hw; cases hw
theorem RunF.noWr {K : AS → Prop} : ∀ {l : List FE} {st : AS}, RunF P G k K l st → ∀ e ∈ l, isWr e.1.ai = false → e.2.1 = []
  | [], _, _, e, he, _ => by cases he
  | (o, f) :: l, st, h, e, he, hw => by
    obtain ⟨v, u, R, s, e1, e2, h⟩ := h
    rcases List.mem_cons.1 he with rfl | he
    · rw [← e1, s.noWr hw]; rfl
    · exact RunF.noWr h e he hw
theorem AW.drawnF {prs : List (Nat × Nat)} {ops : List AOp} {L : List FE} (hL : L.map (·.1) = ops) (hp : ∀ p ∈ prs, dsj (L.getD p.1 dummyE).2 (L.getD p.2 dummyE).2 = true) (h : RunF P G k (Q .normal) L as) : AW P G k (.drawnF prs ops) Q as := by
  intro c hc F γ a w hi hs hg hk QE hq
  cases c <;> simp only [compileC] at hc <;> first | (cases hc; done) | skip
  case region id opsA d =>
    have hc := badO_some hc (by simp)
    cases ho : compileOps P opsA opsA.toList with
    | none => simp [ho] at hc
    | some l =>
      simp only [ho, Option.bind_some] at hc
      rcases regC_form hc with ⟨h1, _⟩ | ⟨_, _, _, h1, _⟩ | ⟨prs', ops', ord, h1, rfl, hd⟩
      · cases h1
      · cases h1
      · unfold drawFC at hd
        split at hd
        · rename_i hok
          simp only [Bool.and_eq_true] at hok
          obtain ⟨⟨hok1, hnd⟩, hst⟩ := hok
          injection hd with hd
          injection hd with hd1 hd2
          have hpw0 := pairs_ok _ hnd
          have hnodup : ord.Nodup := hpw0.imp (fun h e => by simp [e] at h)
          have hok1' := hok1
          simp only [drawOKF, Bool.and_eq_true] at hok1'
          obtain ⟨⟨_, hall⟩, hlt⟩ := hok1'
          have hlen : L.length = ord.length := by
            have := congrArg List.length (hL.trans hd2.symm)
            simpa using this
          have hE1 : ∀ p (hp : p < ord.length), (L[p]'(by omega)).1 = l.getD ord[p] dummyA := fun p hp => by
            have : (L.map (·.1))[p]? = (ord.map fun i => l.getD i dummyA)[p]? := by rw [hL, hd2]
            rw [List.getElem?_map, List.getElem?_map, List.getElem?_eq_getElem (by omega), List.getElem?_eq_getElem hp] at this
            simpa using this
          let E : Nat → FE := fun i => L.getD (ord.idxOf i) dummyE
          have hEp : ∀ p (hp : p < ord.length), E ord[p] = L[p]'(by omega) := fun p hp => by
            show L.getD (ord.idxOf ord[p]) dummyE = _
            rw [hnodup.idxOf_getElem p hp, List.getD_eq_getElem?_getD, List.getElem?_eq_getElem (by omega)]; rfl
          have hmap : ord.map E = L := List.ext_getElem (by simp [hlen]) (fun p h1 h2 => by
            rw [List.getElem_map]; exact hEp p (by omega))
          refine drawnF_ok (E := E) ho hok1 (fun i hil => ?_) ?_ (by rw [hmap]; exact h) hi hs hg hk (fun a' w' F' γ' as' h1 => hq .normal a' w' F' γ' as' h1)
          · have hm : i ∈ ord := by
              have := List.all_eq_true.1 hall i (by simpa using hil)
              simpa using this
            have hix := List.idxOf_lt_length_of_mem hm
            have e1 := hEp _ hix
            have e2 := hE1 _ hix
            rw [List.getElem_idxOf hix] at e1 e2
            rw [e1, e2]
          · rw [List.pairwise_iff_getElem]
            intro p q hp1 hq1 hpq
            have hne : ord[p] ≠ ord[q] := fun e => by
              have := (List.pairwise_iff_getElem.1 hnodup) p q hp1 hq1 hpq
              exact this e
            refine ⟨hne, ?_⟩
            have hgp : ord.getD p 0 = ord[p] := by rw [List.getD_eq_getElem?_getD, List.getElem?_eq_getElem hp1]; rfl
            have hgq : ord.getD q 0 = ord[q] := by rw [List.getD_eq_getElem?_getD, List.getElem?_eq_getElem hq1]; rfl
            cases hcl : ((cloL opsA.toList []).getD ord[q] []).contains ord[p] with
            | true => exact .inl rfl
            | false =>
              right
              rw [hEp p hp1, hEp q hq1]
              have hop : ∀ r (hr : r < ord.length), (ord.map fun i => l.getD i dummyA).getD r dummyA = (L[r]'(by omega)).1 := fun r hr => by
                rw [hE1 r hr, List.getD_eq_getElem?_getD, List.getElem?_map, List.getElem?_eq_getElem hr]; rfl
              have hs1 := List.all_eq_true.1 (List.all_eq_true.1 hst q (by simpa using hq1)) p (by simpa using hpq)
              rw [hgp, hgq, hcl, Bool.false_or, hop p hp1, hop q hq1] at hs1
              by_cases hw : (isWr (L[p]'(by omega)).1.ai || isWr (L[q]'(by omega)).1.ai) = true
              · have hmem : (p, q) ∈ prs := by
                  rw [← hd1]
                  simp only [prsF, List.mem_flatMap, List.mem_filterMap, List.mem_range]
                  refine ⟨q, hq1, p, hpq, ?_⟩
                  rw [hgp, hgq, hcl, hop p hp1, hop q hq1, hw]
                  rfl
                have := hp _ hmem
                simp only [List.getD_eq_getElem?_getD] at this
                rw [List.getElem?_eq_getElem (show p < L.length by omega), List.getElem?_eq_getElem (show q < L.length by omega)] at this
                simp only [dsj, Option.getD_some, Bool.and_eq_true] at this
                simp only [cmpF, hs1, this.1, this.2, Bool.and_self]
              · simp only [Bool.or_eq_true, not_or, Bool.not_eq_true] at hw
                have w1 := RunF.noWr h _ (List.getElem_mem (show p < L.length by omega)) hw.1
                have w2 := RunF.noWr h _ (List.getElem_mem (show q < L.length by omega)) hw.2
                simp only [cmpF, hs1, w1, w2, disjF, List.all_nil, Bool.and_self]
        · cases hd
  all_goals first | (exfalso; revert hc; simp [Option.bind_eq_some_iff]; done) | (exfalso; obtain ⟨l, _, hc⟩ := Option.bind_eq_some_iff.1 (badO_some hc (by simp)); rcases regC_form hc with ⟨h, _⟩ | ⟨_, _, _, h, _⟩ | ⟨_, _, _, h, _⟩ <;> cases h)

theorem AW.seq (h : AW P G k x (fun e as => match e with | .normal => AW P G k y Q as | e => Q e as) as) : AW P G k (.seq x y) Q as := by
  intro c hc F γ a w hi hs hg hk QE hq
  cases c <;> simp only [compileC] at hc <;> first | (cases hc; done) | skip
  case seq c1 c2 =>
    cases h1 : compileC P c1 with
    | none => simp [h1] at hc
    | some x' => cases h2 : compileC P c2 with
      | none => simp [h1, h2] at hc
      | some y' =>
        simp only [h1, h2, Option.bind_some, Option.map_some, Option.some.injEq, ACode.seq.injEq] at hc
        obtain ⟨rfl, rfl⟩ := hc
        refine wp_seq (h c1 h1 F γ a w hi hs hg hk _ (fun e a' w' F' γ' as' q1 q2 q3 q4 q5 => ?_))
        cases e with
        | normal => exact q1 c2 h2 F' γ' a' w' q3 q4 (hg.sub q2.sub) q5 QE (fun e a'' w'' F'' γ'' as'' p1 p2 p3 p4 => hq e a'' w'' F'' γ'' as'' p1 (q2.trans p2) p3 p4)
        | exit id => exact hq _ a' w' F' γ' as' q1 q2 q3 q4 q5
        | goto l => exact hq _ a' w' F' γ' as' q1 q2 q3 q4 q5
        | ret => exact hq _ a' w' F' γ' as' q1 q2 q3 q4 q5
        | panic ch => exact hq _ a' w' F' γ' as' q1 q2 q3 q4 q5
        | outgrown => exact hq _ a' w' F' γ' as' q1 q2 q3 q4 q5
  all_goals first | (exfalso; revert hc; simp [Option.bind_eq_some_iff]; done) | (exfalso; obtain ⟨l, _, hc⟩ := Option.bind_eq_some_iff.1 (badO_some hc (by simp)); rcases regC_form hc with ⟨h, _⟩ | ⟨_, _, _, h, _⟩ | ⟨_, _, _, h, _⟩ <;> cases h)

theorem AW.cond {c : AArg} {b : Bool} (hb : asBool? (evA G as.sl c) = some b) (h1 : b = true → AW P G k x Q as) (h2 : b = false → AW P G k y Q as) : AW P G k (.cond c x y) Q as := by
  intro c' hc F γ a w hi hs hg hk QE hq
  cases c' <;> simp only [compileC] at hc <;> first | (cases hc; done) | skip
  case cond cc c1 c2 =>
    cases g1 : compileC P c1 with
    | none => simp [g1] at hc
    | some x' => cases g2 : compileC P c2 with
      | none => simp [g1, g2] at hc
      | some y' =>
        simp only [g1, g2, Option.bind_some, Option.map_some, Option.some.injEq, ACode.cond.injEq] at hc
        obtain ⟨rfl, rfl, rfl⟩ := hc
        have := rv_bool (rv_arg hs hg cc) hb
        refine wp_cond_split this (fun e => ?_) (fun e => ?_)
        · exact h1 e c1 g1 F γ a w hi hs hg hk QE hq
        · exact h2 e c2 g2 F γ a w hi hs hg hk QE hq
  all_goals first | (exfalso; revert hc; simp [Option.bind_eq_some_iff]; done) | (exfalso; obtain ⟨l, _, hc⟩ := Option.bind_eq_some_iff.1 (badO_some hc (by simp)); rcases regC_form hc with ⟨h, _⟩ | ⟨_, _, _, h, _⟩ | ⟨_, _, _, h, _⟩ <;> cases h)

theorem AW.block {id : Nat} (h : AW P G k x (fun e as => match e with | .exit id' => if id' = id then Q .normal as else Q (.exit id') as | e => Q e as) as) : AW P G k (.block id x) Q as := by
  intro c hc F γ a w hi hs hg hk QE hq
  cases c <;> simp only [compileC] at hc <;> first | (cases hc; done) | skip
  case block id' c1 =>
    cases h1 : compileC P c1 with
    | none => simp [h1] at hc
    | some x' =>
      simp only [h1, Option.map_some, Option.some.injEq, ACode.block.injEq] at hc
      obtain ⟨rfl, rfl⟩ := hc
      refine wp_block (h c1 h1 F γ a w hi hs hg hk _ (fun e a' w' F' γ' as' q1 q2 q3 q4 q5 => ?_))
      cases e with
      | normal => exact hq _ a' w' F' γ' as' q1 q2 q3 q4 q5
      | exit id2 =>
        simp only [Exit.inBlock] at q1 ⊢
        split
        · rename_i heq
          rw [if_pos heq] at q1
          exact hq _ a' w' F' γ' as' q1 q2 q3 q4 q5
        · rename_i heq
          rw [if_neg heq] at q1
          exact hq _ a' w' F' γ' as' q1 q2 q3 q4 q5
      | goto l => exact hq _ a' w' F' γ' as' q1 q2 q3 q4 q5
      | ret => exact hq _ a' w' F' γ' as' q1 q2 q3 q4 q5
      | panic ch => exact hq _ a' w' F' γ' as' q1 q2 q3 q4 q5
      | outgrown => exact hq _ a' w' F' γ' as' q1 q2 q3 q4 q5
  all_goals first | (exfalso; revert hc; simp [Option.bind_eq_some_iff]; done) | (exfalso; obtain ⟨l, _, hc⟩ := Option.bind_eq_some_iff.1 (badO_some hc (by simp)); rcases regC_form hc with ⟨h, _⟩ | ⟨_, _, _, h, _⟩ | ⟨_, _, _, h, _⟩ <;> cases h)

theorem AW.loop {α : Type} (I : α → AS → Prop) (μ : α → Nat) (x0 : α) (h0 : I x0 as)
    (round : ∀ z as, I z as → AW P G k x (fun e as' => match e with | .normal => ∃ z', I z' as' ∧ μ z' < μ z | e => Q e as') as) : AW P G k (.loop x) Q as := by
  intro c hc F γ a w hi hs hg hk QE hq
  cases c <;> simp only [compileC] at hc <;> first | (cases hc; done) | skip
  case loop c1 =>
    cases h1 : compileC P c1 with
    | none => simp [h1] at hc
    | some x' =>
      simp only [h1, Option.map_some, Option.some.injEq, ACode.loop.injEq] at hc
      subst hc
      have key : ∀ n z as F' γ' a' w', μ z < n → I z as → Ext k F γ w F' γ' w' → Inv F' γ' as.hp w' → Slots F' γ' as.sl a' → k ≤ γ'.length → Code.rounds P c1 QE n a' w' := by
        intro n
        induction n with
        | zero => intro z as F' γ' a' w' h; omega
        | succ n ih =>
          intro z as F' γ' a' w' hn hI hE hInv hS hk'
          rw [rounds_succ]
          refine round z as hI c1 h1 F' γ' a' w' hInv hS (hg.sub hE.sub) hk' _ (fun e a'' w'' F'' γ'' as'' q1 q2 q3 q4 q5 => ?_)
          cases e with
          | normal =>
            obtain ⟨z', hz1, hz2⟩ := q1
            exact ih z' as'' F'' γ'' a'' w'' (by omega) hz1 (hE.trans q2) q3 q4 q5
          | exit id => exact hq _ a'' w'' F'' γ'' as'' q1 (hE.trans q2) q3 q4 q5
          | goto l => exact hq _ a'' w'' F'' γ'' as'' q1 (hE.trans q2) q3 q4 q5
          | ret => exact hq _ a'' w'' F'' γ'' as'' q1 (hE.trans q2) q3 q4 q5
          | panic ch => exact hq _ a'' w'' F'' γ'' as'' q1 (hE.trans q2) q3 q4 q5
          | outgrown => exact hq _ a'' w'' F'' γ'' as'' q1 (hE.trans q2) q3 q4 q5
      exact wp_loop_rounds (μ x0 + 1) (key _ x0 as F γ a w (Nat.lt_succ_self _) h0 (Ext.refl _ _ _ _) hi hs hk)
  all_goals first | (exfalso; revert hc; simp [Option.bind_eq_some_iff]; done) | (exfalso; obtain ⟨l, _, hc⟩ := Option.bind_eq_some_iff.1 (badO_some hc (by simp)); rcases regC_form hc with ⟨h, _⟩ | ⟨_, _, _, h, _⟩ | ⟨_, _, _, h, _⟩ <;> cases h)

end

/-- where a result stands -/
inductive RetV where
  | tmp (t : Nat)
  | cell (a : Nat) (isAgg : Bool) (size : Nat)

def retOf (P : Program) : ResultVar → Option RetV
  | .tmp t => some (.tmp t)
  | .cell a t => (aggP P t).bind fun g => (sizeP P t).map fun s => .cell a g (if g then s else 1)

def retOne (as : AS) : RetV → Option AV
  | .tmp t => some (as.sl.getD t .junk)
  | .cell a g s => loadV as.hp g s (as.sl.getD a .junk)

def toTV : AV → Option TV
  | .one c => some (.one c)
  | .agg cs => some (.agg cs)
  | _ => none

def retV (as : AS) : List RetV → Option AV
  | [r] => retOne as r
  | rs => (rs.mapM fun r => (retOne as r).bind toTV).map .tup

section
variable {P : Program} {G : Glob} {as : AS} {F : Fz} {γ : List OI} {w : World} {a : Act}

theorem retOne_ok (hi : Inv F γ as.hp w) (hs : Slots F γ as.sl a) {rv : ResultVar} {r : RetV} {av : AV} (hr : retOf P rv = some r) (h : retOne as r = some av) :
    ∃ v, (match rv with | .tmp t => pure (a.tmps.getD t undef) | .cell c t => do loadVar t (← asAddr (a.tmps.getD c undef)) : Sem Value).run P w = .ok v w ∧ RV F γ av v := by
  have ra := fun t => rv_arg (G := fun _ => none) hs (fun g cs h => by cases h) (.tmp t)
  cases rv with
  | tmp t =>
    simp only [retOf, Option.some.injEq] at hr
    subst hr
    simp only [retOne, Option.some.injEq] at h
    subst h
    exact ⟨_, rfl, ra t⟩
  | cell c t =>
    simp only [retOf] at hr
    cases h1 : aggP P t with
    | none => simp [h1] at hr
    | some g => cases h2 : sizeP P t with
      | none => simp [h1, h2] at hr
      | some s =>
        simp only [h1, h2, Option.bind_some, Option.map_some, Option.some.injEq] at hr
        subst hr
        have hx := ra c
        obtain ⟨y, hy, hv⟩ := load_ok (P := P) h hi hx h1 h2 rfl
        obtain ⟨cs, _, _, ⟨b, off, vs, hxe, _, _, _⟩⟩ := loadV_mem h hi hx
        refine ⟨y, ?_, hv⟩
        have hxe' : a.tmps.getD c undef = .pointer (some ⟨b, off, none⟩) := hxe
        simp only [Act.eval] at hy
        first | rw [hxe'] at hy | skip
        show ((do loadVar t (← asAddr (a.tmps.getD c undef))) : Sem Value).run P w = _
        rw [hxe']
        simpa [Instr.loadAt, Instr.sureAddr, asAddr] using hy

theorem retAll_ok (hi : Inv F γ as.hp w) (hs : Slots F γ as.sl a) : ∀ (rvs : List ResultVar) (rs : List RetV) (l : List TV), rvs.mapM (retOf P) = some rs → (rs.mapM fun r => (retOne as r).bind toTV) = some l →
    ∃ vs : List Value, (rvs.mapM fun rv => (match rv with | .tmp t => pure (a.tmps.getD t undef) | .cell c t => do loadVar t (← asAddr (a.tmps.getD c undef)) : Sem Value)).run P w = .ok vs w ∧ vs.length = l.length ∧
      ∀ (i : Nat) t v, l[i]? = some t → vs[i]? = some v → RT F γ t v
  | [], rs, l, h1, h2 => by
    simp at h1; subst h1; simp at h2; subst h2
    exact ⟨[], rfl, rfl, fun i t v h => by simp at h⟩
  | rv :: rvs, rs, l, h1, h2 => by
    rw [List.mapM_cons] at h1
    cases hr : retOf P rv with
    | none => rw [hr] at h1; cases h1
    | some r =>
      rw [hr] at h1
      cases hrs : rvs.mapM (retOf P) with
      | none => rw [hrs] at h1; cases h1
      | some rs' =>
        rw [hrs] at h1
        have e1 : r :: rs' = rs := by injection h1
        subst e1
        rw [List.mapM_cons] at h2
        cases ho : (retOne as r).bind toTV with
        | none => rw [ho] at h2; cases h2
        | some t =>
          rw [ho] at h2
          cases hl : (rs'.mapM fun r => (retOne as r).bind toTV) with
          | none => rw [hl] at h2; cases h2
          | some l' =>
            rw [hl] at h2
            have e2 : t :: l' = l := by injection h2
            subst e2
            obtain ⟨vs, hv1, hv2, hv3⟩ := retAll_ok hi hs rvs rs' l' hrs hl
            cases ho1 : retOne as r with
            | none => rw [ho1] at ho; cases ho
            | some av =>
              rw [ho1] at ho
              obtain ⟨v, hv, hrv⟩ := retOne_ok hi hs hr ho1
              refine ⟨v :: vs, ?_, by simp [hv2], fun i t' v' h3 h4 => ?_⟩
              · rw [List.mapM_cons]
                simp only [Sem.run_bind, hv, Result.andThen_ok, hv1, Sem.run_pure]
              · cases i with
                | zero =>
                  simp at h3 h4; subst h3; subst h4
                  cases av with
                  | one c => simp [toTV] at ho; subst ho; cases hrv with | one _ _ h => exact .one _ _ h
                  | agg cs => simp [toTV] at ho; subst ho; cases hrv with | agg _ vs h h' => exact .agg _ _ h h'
                  | tup _ => simp [toTV] at ho
                  | junk => simp [toTV] at ho
                | succ i => exact hv3 i t' v' (by simpa using h3) (by simpa using h4)

theorem results_ok {fn : Func} {rs : List RetV} {av : AV} (hi : Inv F γ as.hp w) (hs : Slots F γ as.sl a) (hr : fn.results.toList.mapM (retOf P) = some rs) (h : retV as rs = some av) :
    ∃ v, (results fn a.tmps).run P w = .ok v w ∧ RV F γ av v := by
  have hmap : (results fn a.tmps) = (do
      let vs ← List.toArray <$> fn.results.toList.mapM fun rv => (match rv with | .tmp t => pure (a.tmps.getD t undef) | .cell c t => do loadVar t (← asAddr (a.tmps.getD c undef)) : Sem Value)
      pure (if h : vs.size = 1 then vs[0] else .tuple vs)) := by
    unfold results
    rw [Array.mapM_eq_mapM_toList]
    rfl
  rw [hmap]
  by_cases h1 : ∃ r, rs = [r]
  · obtain ⟨r, rfl⟩ := h1
    simp only [retV] at h
    have : ∃ rv, fn.results.toList = [rv] ∧ retOf P rv = some r := by
      cases hl : fn.results.toList with
      | nil => rw [hl] at hr; simp at hr
      | cons rv t =>
        rw [hl, List.mapM_cons] at hr
        cases hq : retOf P rv with
        | none => rw [hq] at hr; cases hr
        | some r0 =>
          rw [hq] at hr
          cases hq2 : t.mapM (retOf P) with
          | none => rw [hq2] at hr; cases hr
          | some rs0 =>
            rw [hq2] at hr
            have e : r0 :: rs0 = [r] := by injection hr
            injection e with e1 e2
            subst e1; subst e2
            cases t with
            | nil => exact ⟨rv, rfl, hq⟩
            | cons t1 t2 =>
              rw [List.mapM_cons] at hq2
              cases hq3 : retOf P t1 with
              | none => rw [hq3] at hq2; cases hq2
              | some z =>
                rw [hq3] at hq2
                cases hq4 : t2.mapM (retOf P) with
                | none => rw [hq4] at hq2; cases hq2
                | some z2 => rw [hq4] at hq2; injection hq2 with hq2; cases hq2
    obtain ⟨rv, hl, hrv⟩ := this
    obtain ⟨v, hv, hvv⟩ := retOne_ok hi hs hrv h
    refine ⟨v, ?_, hvv⟩
    rw [hl, List.mapM_cons]
    simp only [Sem.run_bind, Sem.run_map, hv, Result.andThen_ok, List.mapM_nil, Sem.run_pure]
    rfl
  · have h' : (rs.mapM fun r => (retOne as r).bind toTV).map AV.tup = some av := by
      cases rs with
      | nil => exact h
      | cons r t => cases t with
        | nil => exact absurd ⟨r, rfl⟩ h1
        | cons r2 t2 => exact h
    cases hl : (rs.mapM fun r => (retOne as r).bind toTV) with
    | none => rw [hl] at h'; cases h'
    | some l =>
      rw [hl] at h'
      injection h' with h'
      subst h'
      obtain ⟨vs, hv1, hv2, hv3⟩ := retAll_ok hi hs fn.results.toList rs l hr hl
      refine ⟨.tuple vs.toArray, ?_, .tup _ _ (by simpa using hv2) (fun i t v h1 h2 => hv3 i t v h1 (by simpa using h2))⟩
      simp only [Sem.run_bind, Sem.run_map, hv1, Result.andThen_ok, Sem.run_pure]
      have hne : ¬ vs.toArray.size = 1 := by
        intro e
        have hll : l.length = rs.length := by
          clear hv3 hv2 hv1 h h1 hr
          have : ∀ (rs : List RetV) (l : List TV), (rs.mapM fun r => (retOne as r).bind toTV) = some l → l.length = rs.length := by
            intro rs
            induction rs with
            | nil => intro l h; simp at h; subst h; rfl
            | cons r rs ih =>
              intro l h
              rw [List.mapM_cons] at h
              cases ho : (retOne as r).bind toTV with
              | none => rw [ho] at h; cases h
              | some t => rw [ho] at h; cases hl : (rs.mapM fun r => (retOne as r).bind toTV) with
                | none => rw [hl] at h; cases h
                | some l' => rw [hl] at h; injection h with h; subst h; simp [ih l' hl]
          exact this rs l hl
        have : rs.length = 1 := by rw [← hll, ← hv2]; simpa using e
        match rs, this with
        | [r], _ => exact h1 ⟨r, rfl⟩
      rw [dif_neg hne]

/-- A FUNCTION's CONTRACT FROM ITS BODY. -/
theorem AC.of_body {f : FuncId} {fn : Func} {c : Code} {n : Nat} {rs : List RetV} {ac : ACode} {args : List AV} {objs : List AObj} {Q : AV → List AObj → Prop} (hf : P.funcs[f]? = some fn) (hb : fn.body = some c) (hn : fn.ntmps = n)
    (hr : fn.results.toList.mapM (retOf P) = some rs) (hc : compileC P c = some ac)
    (h : AW P G objs.length ac (fun e as => (e = .normal ∨ e = .ret) ∧ objs.length ≤ as.hp.length ∧ ∃ av, retV as rs = some av ∧ Q av as.hp) ⟨args ++ List.replicate (n - args.length) .junk, objs⟩) : AC P G f args objs Q := by
  intro F γ vs w hi hg hv
  refine calls_of_wp hf hb ?_
  have hs : Slots F γ (args ++ List.replicate (n - args.length) .junk) { tmps := vs ++ Array.replicate (fn.ntmps - vs.size) undef, defers := [] } := by
    refine ⟨rfl, by simp [hn, hv.1], fun i av v h1 h2 => ?_⟩
    by_cases hil : i < args.length
    · rw [List.getElem?_append_left hil] at h1
      simp only at h2
      rw [Array.getElem?_append_left (by rw [hv.1]; exact hil)] at h2
      exact hv.2 i av v h1 h2
    · rw [List.getElem?_append_right (by omega)] at h1
      have := List.mem_of_getElem? h1
      rw [List.mem_replicate] at this
      rw [this.2]
      exact .junk _
  refine h c hc F γ _ w hi hs hg (by rw [hi.len]; exact Nat.le_refl _) _ (fun e a' w' F' γ' as' hq hE hI hS hk => ?_)
  obtain ⟨he, hlen, av, hrv, hQ⟩ := hq
  obtain ⟨v, hv1, hv2⟩ := results_ok hI hS hr hrv
  rcases he with rfl | rfl
  · exact ⟨hS.1, v, hv1, v, av, as'.hp, F', γ', rfl, hQ, hlen, hE, hI, hv2⟩
  · exact ⟨hS.1, v, hv1, v, av, as'.hp, F', γ', rfl, hQ, hlen, hE, hI, hv2⟩
end

section
variable {P : Program} {G : Glob} {k : Nat} {as as' : AS}

theorem Gh.refl : Gh k as as := fun F γ _ w hi hs hk => ⟨F, γ, Ext.refl _ _ _ _, hi, hs, hk⟩
theorem Gh.trans {as'' : AS} (h : Gh k as as') (h' : Gh k as' as'') : Gh k as as'' := by
  intro F γ a w hi hs hk
  obtain ⟨F1, γ1, e1, i1, s1, k1⟩ := h F γ a w hi hs hk
  obtain ⟨F2, γ2, e2, i2, s2, k2⟩ := h' F1 γ1 a w i1 s1 k1
  exact ⟨F2, γ2, e1.trans e2, i2, s2, k2⟩

/-- a cell says no less than another -/
inductive CLe : Cel → Cel → Prop where
  | refl (c : Cel) : CLe c c
  | junk (c : Cel) : CLe c .junk
  | nil : CLe (rawC (.slice none 0 0)) (.dc (.slc []))

theorem CLe.ok {F : Fz} {γ : List OI} {c d : Cel} {v : Value} (h : CLe c d) (hc : RC F γ c v) : RC F γ d v := by
  cases h with
  | refl => exact hc
  | junk => exact .junk _ hc.is1
  | nil => cases hc with | dc _ _ h => cases h; exact .dc _ _ (.nil _ _)

/-- cells that say no less than others -/
def CsLe (cs ds : List Cel) : Prop := cs.length = ds.length ∧ ∀ (i : Nat) c d, cs[i]? = some c → ds[i]? = some d → CLe c d

inductive VLe : AV → AV → Prop where
  | refl (v : AV) : VLe v v
  | junk (v : AV) : VLe v .junk
  | one {c d : Cel} (h : CLe c d) : VLe (.one c) (.one d)
  | agg {cs ds : List Cel} (h : CsLe cs ds) : VLe (.agg cs) (.agg ds)

theorem CsLe.ok {F : Fz} {γ : List OI} {cs ds : List Cel} (h : CsLe cs ds) {vs : Array Value} (hr : ∀ (i : Nat) c v, cs[i]? = some c → vs[i]? = some v → RC F γ c v) : ∀ (i : Nat) c v, ds[i]? = some c → vs[i]? = some v → RC F γ c v := by
  intro i d v hd hv
  have hlt : i < cs.length := by rw [h.1]; exact lt_of_get hd
  exact (h.2 i _ d (List.getElem?_eq_getElem hlt) hd).ok (hr i _ v (List.getElem?_eq_getElem hlt) hv)

theorem VLe.ok {F : Fz} {γ : List OI} {x y : AV} {v : Value} (h : VLe x y) (hx : RV F γ x v) : RV F γ y v := by
  cases h with
  | refl => exact hx
  | junk => exact .junk _
  | one h => cases hx with | one _ _ hc => exact .one _ _ (h.ok hc)
  | agg h => cases hx with | agg _ vs hs hr => exact .agg _ _ (by rw [hs, h.1]) (h.ok hr)

/-- slots that say no less than others -/
def SLe : List AV → List AV → Prop
  | [], [] => True
  | x :: xs, y :: ys => VLe x y ∧ SLe xs ys
  | _, _ => False

theorem SLe.get : ∀ {xs ys : List AV}, SLe xs ys → xs.length = ys.length ∧ ∀ (i : Nat) y, ys[i]? = some y → ∃ x, xs[i]? = some x ∧ VLe x y
  | [], [], _ => ⟨rfl, fun i y h => by simp at h⟩
  | x :: xs, y :: ys, h => by
    obtain ⟨h1, h2⟩ := SLe.get h.2
    refine ⟨by simp [h1], fun i z hz => ?_⟩
    cases i with
    | zero => simp at hz; subst hz; exact ⟨x, rfl, h.1⟩
    | succ i => simpa using h2 i z (by simpa using hz)
  | [], _ :: _, h => h.elim
  | _ :: _, [], h => h.elim

theorem Slots.le {F : Fz} {γ : List OI} {xs ys : List AV} {a : Act} (h : SLe xs ys) (hs : Slots F γ xs a) : Slots F γ ys a := by
  obtain ⟨h1, h2⟩ := h.get
  refine ⟨hs.1, by rw [hs.2.1, h1], fun i y v hy hv => ?_⟩
  obtain ⟨x, hx, hle⟩ := h2 i y hy
  exact hle.ok (hs.2.2 i x v hx hv)

theorem Gh.slots {ys : List AV} (h : SLe as.sl ys) : Gh k as ⟨ys, as.hp⟩ := fun F γ _ w hi hs hk => ⟨F, γ, Ext.refl _ _ _ _, hi, Slots.le h hs, hk⟩

/-- the last objects are forgotten, and what names them -/
theorem Gh.drop (n : Nat) (hkn : k ≤ n) : Gh k as ⟨as.sl.map (killV fun id => decide (n ≤ id)), (as.hp.take n).map (killO fun id => decide (n ≤ id))⟩ := by
  intro F γ a w hi hs hk
  have hg : ∀ (id : Nat) (o : OI), decide (n ≤ id) = false → γ[id]? = some o → (γ.take n)[id]? = some o := by
    intro id o hp h
    simp at hp
    rw [List.getElem?_take, if_pos hp]; exact h
  have hb : ∀ i b, blkAt (γ.take n) i = some b → blkAt γ i = some b := by
    intro i b h
    obtain ⟨y, hy, hyb⟩ := blkAt_some h
    rw [List.getElem?_take] at hy
    split at hy
    · exact blkAt_of hy hyb
    · cases hy
  refine ⟨F, γ.take n, ⟨fun _ _ h => h, rfl, rfl, rfl, Nat.le_refl _, fun _ _ _ => rfl, fun _ _ h => .inl h, fun i b h => .inl ⟨i, hb i b h⟩, fun i hik b h => ?_⟩, ⟨hi.fz, by simp [hi.len], fun i j b h1 h2 => hi.nd i j b (hb i b h1) (hb j b h2), fun i b h => hi.disj i b (hb i b h), ?_⟩, hs.kill (fun _ _ h => h) hg, by simp; omega⟩
  · rw [List.getElem?_take, if_pos (by omega)]; exact h
  · intro i o x h1 h2
    rw [List.getElem?_take] at h2
    split at h2
    · rename_i hin
      rw [List.getElem?_map, List.getElem?_take, if_pos hin] at h1
      cases ho : as.hp[i]? with
      | none => simp [ho] at h1
      | some o0 =>
        simp only [ho, Option.map_some, Option.some.injEq] at h1; subst h1
        exact (hi.ok i o0 x ho h2).kill (fun _ _ h => h) hg (fun _ _ => rfl)
    · cases h2

/-- an array of one's own becomes data -/
def frzC (id : Nat) (es : List (List DC)) : Cel → Cel
  | .bld j n => if j = id ∧ n ≤ es.length then .dc (.slc (es.take n)) else .bld j n
  | c => c
def frzT (id : Nat) (es : List (List DC)) : TV → TV
  | .one c => .one (frzC id es c)
  | .agg cs => .agg (cs.map (frzC id es))
def frzV (id : Nat) (es : List (List DC)) : AV → AV
  | .one c => .one (frzC id es c)
  | .agg cs => .agg (cs.map (frzC id es))
  | .tup l => .tup (l.map (frzT id es))
  | .junk => .junk
def frzO (id : Nat) (es : List (List DC)) : AObj → AObj
  | .box cs => .box (cs.map (frzC id es))
  | o => o

/-- a nil slice as an array of one's own -/
theorem Gh.nil {d : Nat} (size : Nat) (h : as.sl[d]? = some (rawV (.slice none 0 0))) : Gh k as ⟨as.sl.set d (.one (.bld as.hp.length 0)), as.hp ++ [.arr 0 size []]⟩ := by
  intro F γ a w hi hs hk
  have hext : ∀ (id : Nat) (o : OI), γ[id]? = some o → (γ ++ [OI.arr none 0])[id]? = some o := fun _ _ h => get_append_left h
  have hb : ∀ i b, blkAt (γ ++ [OI.arr none 0]) i = some b → blkAt γ i = some b := by
    intro i b h
    obtain ⟨y, hy, hyb⟩ := blkAt_some h
    rcases append_one hy with h1 | ⟨_, rfl⟩
    · exact blkAt_of h1 hyb
    · simp [OI.blk] at hyb
  have hlt : d < as.sl.length := lt_of_get h
  have hlt2 : d < a.tmps.size := hs.2.1 ▸ hlt
  have hv : a.tmps[d]? = some (a.tmps[d]'hlt2) := Array.getElem?_eq_getElem hlt2
  have hval := rv_raw (hs.2.2 d _ _ h hv)
  refine ⟨F, γ ++ [OI.arr none 0], ⟨fun _ _ h => h, rfl, rfl, rfl, Nat.le_refl _, fun _ _ _ => rfl, fun _ _ h => .inl h, fun i b h => .inl ⟨i, hb i b h⟩, fun i _ b h => hext _ _ h⟩,
    ⟨hi.fz, by simp [hi.len], fun i j b h1 h2 => hi.nd i j b (hb i b h1) (hb j b h2), fun i b h => hi.disj i b (hb i b h), ?_⟩, ?_, by simp; omega⟩
  · intro i o x h1 h2
    rcases append_one h2 with h3 | ⟨h3, rfl⟩
    · have hl : i < as.hp.length := by rw [← hi.len]; exact lt_of_get h3
      rw [List.getElem?_append_left hl] at h1
      exact (hi.ok i o x h1 h3).ext (fun _ _ h => h) hext (fun _ _ => rfl)
    · rw [h3, hi.len] at h1
      simp at h1
      subst h1
      exact ⟨rfl, rfl, rfl⟩
  · have hs' := hs.ext (F' := F) (fun _ _ h => h) hext
    refine ⟨hs.1, by simpa using hs.2.1, fun i av v h1 h2 => ?_⟩
    by_cases hdi : d = i
    · subst hdi
      rw [List.getElem?_set_self hlt] at h1
      injection h1 with h1; subst h1
      rw [hv, hval] at h2
      injection h2 with h2; subst h2
      exact .one _ _ (.bldN _ 0 (by rw [← hi.len]; simp))
    · rw [List.getElem?_set_ne hdi] at h1
      exact hs'.2.2 i av v h1 h2
/-- places for objects to come -/
theorem Gh.dead (n : Nat) : Gh k as ⟨as.sl, as.hp ++ List.replicate n .dead⟩ := by
  intro F γ a w hi hs hk
  have hext : ∀ (id : Nat) (o : OI), γ[id]? = some o → (γ ++ List.replicate n OI.dead)[id]? = some o := fun _ _ h => get_append_left h
  have hb : ∀ i b, blkAt (γ ++ List.replicate n OI.dead) i = some b → blkAt γ i = some b := by
    intro i b h
    obtain ⟨y, hy, hyb⟩ := blkAt_some h
    rcases Nat.lt_or_ge i γ.length with hl | hl
    · rw [List.getElem?_append_left hl] at hy; exact blkAt_of hy hyb
    · rw [List.getElem?_append_right hl, List.getElem?_replicate] at hy
      split at hy
      · injection hy with hy; subst hy; cases hyb
      · cases hy
  refine ⟨F, γ ++ List.replicate n .dead, ⟨fun _ _ h => h, rfl, rfl, rfl, Nat.le_refl _, fun _ _ _ => rfl, fun _ _ h => .inl h, fun i b h => .inl ⟨i, hb i b h⟩, fun i hi b h => hext i _ h⟩, ⟨hi.fz, by simp [hi.len], fun i j b h1 h2 => hi.nd i j b (hb i b h1) (hb j b h2), fun i b h => hi.disj i b (hb i b h), fun i ob x h1 h2 => ?_⟩, hs.ext (fun _ _ h => h) hext, by simp; omega⟩
  rcases Nat.lt_or_ge i γ.length with hl | hl
  · rw [List.getElem?_append_left hl] at h2
    rw [List.getElem?_append_left (by rw [← hi.len]; exact hl)] at h1
    exact (hi.ok i ob x h1 h2).ext (fun _ _ h => h) hext (fun _ _ => rfl)
  · rw [List.getElem?_append_right hl, List.getElem?_replicate] at h2
    rw [List.getElem?_append_right (by rw [← hi.len]; exact hl), List.getElem?_replicate] at h1
    split at h1
    · split at h2
      · injection h1 with h1; injection h2 with h2; subst h1; subst h2; trivial
      · cases h2
    · cases h1
end
end Go.Proofs.YtmognenhkecngaaGreatDoor
