/- A region's operations, one after the other, over the abstract states. Conditions: none. -/
import Derived.Test.YtginjcpblgpcoaaLg
namespace Go.Proofs.Ytginjcpblgpcoaa
set_option linter.unusedSimpArgs false
set_option linter.unusedVariables false

def compileGuard (opsA : Array Oper) : Option (Nat × Bool) → Option (Option (Nat × Bool))
  | none => some none
  | some (j, b) => ((opsA[j]?).bind (·.dst)).map fun d => some (d, b)

def compileOpr (P : Program) (opsA : Array Oper) (o : Oper) : Option AOp :=
  (compileOp P o).bind fun ai => (compileGuard opsA o.guard).map fun g => ⟨o.dst, ai, g⟩

def compileOps (P : Program) (opsA : Array Oper) : List Oper → Option (List AOp)
  | [] => some []
  | o :: l => (compileOpr P opsA o).bind fun x => (compileOps P opsA l).map (x :: ·)

/-- the region's rest, run from an abstract state, ends in one of which Q holds -/
def WR (P : Program) (G : Glob) (k : Nat) (aops : List AOp) (Q : AS → Prop) (as : AS) : Prop :=
  ∀ (opsA : Array Oper) (l : List Oper), compileOps P opsA l = some aops → ∀ F γ a w, Inv F γ as.hp w → Slots F γ as.sl a → GlobOK F G → k ≤ γ.length →
    ∀ QE : Exit → Act → World → Prop, (∀ a' w' F' γ' as', Q as' → Ext k F γ w F' γ' w' → Inv F' γ' as'.hp w' → Slots F' γ' as'.sl a' → k ≤ γ'.length → QE .normal a' w') → wpList P opsA QE l a w

/-- a step that the world doesn't see -/
def Gh (k : Nat) (as as' : AS) : Prop :=
  ∀ F γ a w, Inv F γ as.hp w → Slots F γ as.sl a → k ≤ γ.length → ∃ F' γ', Ext k F γ w F' γ' w ∧ Inv F' γ' as'.hp w ∧ Slots F' γ' as'.sl a ∧ k ≤ γ'.length

def gOK (G : Glob) (as : AS) : Option (Nat × Bool) → Prop
  | none => True
  | some (g, b) => asBool? (evA G as.sl (.t g)) = some b

def gNo (G : Glob) (as : AS) : Option (Nat × Bool) → Prop
  | none => False
  | some (g, b) => asBool? (evA G as.sl (.t g)) = some (!b) ∨ evA G as.sl (.t g) = .tup []

section
variable {P : Program} {G : Glob} {k : Nat} {Q : AS → Prop} {as as' : AS} {o : AOp} {rest ops : List AOp}

theorem WR.nil (h : Q as) : WR P G k [] Q as := by
  intro opsA l hc F γ a w hi hs hg hk QE hq
  cases l with
  | nil => exact hq a w F γ as h (Ext.refl _ _ _ _) hi hs hk
  | cons o l =>
    simp only [compileOps] at hc
    cases h1 : compileOpr P opsA o with
    | none => simp [h1] at hc
    | some x => simp [h1] at hc

theorem WR.ghost (h : Gh k as as') (hw : WR P G k ops Q as') : WR P G k ops Q as := by
  intro opsA l hc F γ a w hi hs hg hk QE hq
  obtain ⟨F', γ', he, hi', hs', hk'⟩ := h F γ a w hi hs hk
  exact hw opsA l hc F' γ' a w hi' hs' (hg.sub he.sub) hk' QE (fun a' w' F'' γ'' as'' h1 h2 h3 h4 => hq a' w' F'' γ'' as'' h1 (he.trans h2) h3 h4)

theorem WR.mono {Q' : AS → Prop} (h : WR P G k ops Q as) (hq : ∀ as, Q as → Q' as) : WR P G k ops Q' as := by
  intro opsA l hc F γ a w hi hs hg hk QE hqe
  exact h opsA l hc F γ a w hi hs hg hk QE (fun a' w' F' γ' as' h1 => hqe a' w' F' γ' as' (hq _ h1))

/-- what an operation comes to, of which R holds -/
def StepTo (P : Program) (k : Nat) (oper : Oper) (dst : Option Nat) (a : Act) (w : World) (F : Fz) (γ : List OI) (R : AS → Prop) : Prop :=
  (∃ nx v w' as' F' γ', (execOp a.eval oper).run P w = .ok nx w' ∧ (nx = .value v ∨ (nx = .skip ∧ v = undef)) ∧ R as' ∧ Ext k F γ w F' γ' w' ∧ Inv F' γ' as'.hp w' ∧ Slots F' γ' as'.sl (a.put dst v) ∧ k ≤ γ'.length) ∨
  (∃ f vs, (execOp a.eval oper).run P w = .ok (.enter f vs) w ∧ Calls P f vs w fun e w' => ∃ r as' F' γ', e = .returned r ∧ R as' ∧ Ext k F γ w F' γ' w' ∧ Inv F' γ' as'.hp w' ∧ Slots F' γ' as'.sl (a.put dst r) ∧ k ≤ γ'.length)

theorem asBool_tmp {F : Fz} {γ : List OI} {a : Act} {d : Nat} {b : Bool} (hs : Slots F γ as.sl a) (h : asBool? (evA G as.sl (.t d)) = some b) : a.tmps[d]? = some (.bool b) := by
  simp only [evA, List.getD_eq_getElem?_getD] at h
  cases hi : as.sl[d]? with
  | none => simp [hi, asBool?] at h
  | some av =>
    simp [hi] at h
    have hlt : d < a.tmps.size := hs.2.1 ▸ lt_of_get hi
    have hv : a.tmps[d]? = some (a.tmps[d]'hlt) := Array.getElem?_eq_getElem hlt
    rw [hv, rv_bool (hs.2.2 d av _ hi hv) h]

theorem undef_ok {F : Fz} {γ : List OI} : RV F γ (.tup []) undef := .tup [] #[] rfl (fun i t v h => by simp at h)

theorem undef_tmp {F : Fz} {γ : List OI} {a : Act} {d : Nat} (hs : Slots F γ as.sl a) (h : evA G as.sl (.t d) = .tup []) : a.tmps[d]? = some undef ∨ a.tmps[d]? = none := by
  simp only [evA, List.getD_eq_getElem?_getD] at h
  cases hi : as.sl[d]? with
  | none => simp [hi] at h
  | some av =>
    simp [hi] at h
    subst h
    have hlt : d < a.tmps.size := hs.2.1 ▸ lt_of_get hi
    have hv : a.tmps[d]? = some (a.tmps[d]'hlt) := Array.getElem?_eq_getElem hlt
    have h3 := hs.2.2 d _ _ hi hv
    left
    rw [hv]
    generalize a.tmps[d]'hlt = x at h3
    cases h3 with
    | tup l vs hsz hr =>
      have : vs = #[] := Array.eq_empty_of_size_eq_zero (by simpa using hsz)
      subst this; rfl

theorem wanted_of {F : Fz} {γ : List OI} {a : Act} {opsA : Array Oper} {og : Option (Nat × Bool)} {oper : Oper} {b' : Bool} (hs : Slots F γ as.sl a) (hc : compileGuard opsA oper.guard = some og) :
    (gOK G as og → Region.wanted oper (yielded opsA a.tmps) = true) ∧ (gNo G as og → Region.wanted oper (yielded opsA a.tmps) = false) := by
  unfold compileGuard at hc
  unfold Region.wanted
  split at hc
  · injection hc with hc; subst hc
    rename_i hn
    rw [hn]
    exact ⟨fun _ => rfl, fun h => h.elim⟩
  · rename_i j b hn
    rw [hn]
    cases hd : (opsA[j]?).bind (·.dst) with
    | none => simp [hd] at hc
    | some d =>
      simp only [hd, Option.map_some, Option.some.injEq] at hc
      subst hc
      refine ⟨fun h => ?_, fun h => ?_⟩
      · have := asBool_tmp hs h
        simp [yielded, hd, this]
      · rcases h with h | h
        · have := asBool_tmp hs h
          simp [yielded, hd, this]
        · have := undef_tmp hs h
          rcases this with this | this <;> simp [yielded, hd, this, undef]

theorem compile_cons {opsA : Array Oper} {l : List Oper} (hc : compileOps P opsA l = some (o :: rest)) :
    ∃ oper l', l = oper :: l' ∧ compileOp P oper = some o.ai ∧ compileGuard opsA oper.guard = some o.guard ∧ oper.dst = o.dst ∧ compileOps P opsA l' = some rest := by
  cases l with
  | nil => simp [compileOps] at hc
  | cons oper l' =>
    simp only [compileOps, compileOpr] at hc
    cases h1 : compileOp P oper with
    | none => simp [h1] at hc
    | some ai =>
      cases h2 : compileGuard opsA oper.guard with
      | none => simp [h1, h2] at hc
      | some g =>
        cases h3 : compileOps P opsA l' with
        | none => simp [h1, h2, h3] at hc
        | some r =>
          simp only [h1, h2, h3, Option.bind_some, Option.map_some, Option.some.injEq, List.cons.injEq] at hc
          obtain ⟨rfl, rfl⟩ := hc
          exact ⟨oper, l', rfl, (by first | exact h1 | rfl), (by first | exact h2 | rfl), rfl, h3⟩

theorem WR.step (hgd : gOK G as o.guard)
    (h : ∀ F γ a w (oper : Oper), compileOp P oper = some o.ai → oper.dst = o.dst → Inv F γ as.hp w → Slots F γ as.sl a → GlobOK F G → k ≤ γ.length → StepTo P k oper o.dst a w F γ (fun as' => WR P G k rest Q as')) :
    WR P G k (o :: rest) Q as := by
  intro opsA l hc F γ a w hi hs hg hk QE hq
  obtain ⟨oper, l', rfl, h1, h2, h3, h4⟩ := compile_cons hc
  refine wpList_step (fun K hK => ?_)
  rw [(wanted_of (b' := true) hs h2).1 hgd, if_pos rfl]
  unfold Oper.wp
  rcases h F γ a w oper h1 h3 hi hs hg hk with ⟨nx, v, w', as', F', γ', hr, hn, hR, hE, hI, hS, hk'⟩ | ⟨f, vs, hr, hcl⟩
  · have go : K (a.put oper.dst v) w' := by
      rw [h3]
      exact hK _ _ (hR opsA l' h4 F' γ' _ w' hI hS (hg.sub hE.sub) hk' QE (fun a'' w'' F'' γ'' as'' q1 q2 q3 q4 => hq a'' w'' F'' γ'' as'' q1 (hE.trans q2) q3 q4))
    rw [hr]
    rcases hn with rfl | ⟨rfl, rfl⟩
    · exact go
    · exact go
  · rw [hr, Oper.upon_enter]
    refine hcl.mono ?_
    rintro e w' ⟨r, as', F', γ', rfl, hR, hE, hI, hS, hk'⟩
    show K (a.put oper.dst r) w'
    rw [h3]
    exact hK _ _ (hR opsA l' h4 F' γ' _ w' hI hS (hg.sub hE.sub) hk' QE (fun a'' w'' F'' γ'' as'' q1 q2 q3 q4 => hq a'' w'' F'' γ'' as'' q1 (hE.trans q2) q3 q4))

theorem WR.skip (hgd : gNo G as o.guard) (h : WR P G k rest Q ⟨putS as.sl o.dst (.tup []), as.hp⟩) : WR P G k (o :: rest) Q as := by
  intro opsA l hc F γ a w hi hs hg hk QE hq
  obtain ⟨oper, l', rfl, h1, h2, h3, h4⟩ := compile_cons hc
  refine wpList_step (fun K hK => ?_)
  rw [(wanted_of (b' := true) hs h2).2 hgd, if_neg (by simp), h3]
  exact hK _ _ (h opsA l' h4 F γ _ w hi (hs.put _ undef_ok) hg hk QE hq)

theorem WR.pur {v : AV} (hgd : gOK G as o.guard) (he : evP G as o.ai = some v) (h : WR P G k rest Q ⟨putS as.sl o.dst v, as.hp⟩) : WR P G k (o :: rest) Q as := by
  refine WR.step hgd (fun F γ a w oper hc hd hi hs hg hk => ?_)
  obtain ⟨x, hr, hv⟩ := evP_ok hc he hi hs hg
  exact .inl ⟨_, x, w, ⟨putS as.sl o.dst v, as.hp⟩, F, γ, hr, .inl rfl, h, Ext.refl _ _ _ _, hi, hs.put _ hv, hk⟩

def AI.isPure : AI → Bool
  | .alloc _ => false
  | .box _ => false
  | .store _ _ _ => false
  | .bslc _ _ _ _ => false
  | .call _ _ => false
  | .callv _ _ => false
  | .app _ _ _ _ _ => false
  | .apps _ _ => false
  | .mk _ _ _ _ _ => false
  | .clr _ _ _ => false
  | _ => true

/-- the instructions that change nothing and are not guarded, as far as they go -/
def runP (G : Glob) : List AOp → AS → Option (List AOp × AS)
  | [], as => some ([], as)
  | o :: rest, as =>
    match o.guard, o.ai.isPure with
    | none, true => (evP G as o.ai).bind fun v => runP G rest ⟨putS as.sl o.dst v, as.hp⟩
    | _, _ => some (o :: rest, as)

theorem WR.run : ∀ (ops : List AOp) (as : AS) (rest : List AOp) (as' : AS), runP G ops as = some (rest, as') → WR P G k rest Q as' → WR P G k ops Q as
  | [], as, rest, as', h, hw => by simp [runP] at h; obtain ⟨rfl, rfl⟩ := h; exact hw
  | o :: ops, as, rest, as', h, hw => by
    simp only [runP] at h
    split at h
    · rename_i hg _
      cases he : evP G as o.ai with
      | none => simp [he] at h
      | some v =>
        simp only [he, Option.bind_some] at h
        exact WR.pur (by rw [hg]; trivial) he (WR.run ops _ rest as' h hw)
    · injection h with h; injection h with h1 h2; subst h1; subst h2; exact hw

/-- the same for those that a known test guards -/
def runG (G : Glob) (g : Nat) (b : Bool) : List AOp → AS → Option (List AOp × AS)
  | [], as => some ([], as)
  | o :: rest, as =>
    if o.guard = some (g, b) ∧ o.ai.isPure = true ∧ o.dst ≠ some g then (evP G as o.ai).bind fun v => runG G g b rest ⟨putS as.sl o.dst v, as.hp⟩
    else some (o :: rest, as)

theorem evA_put {sl : List AV} {d : Option Nat} {v : AV} {g : Nat} (h : d ≠ some g) : evA G (putS sl d v) (.t g) = evA G sl (.t g) := by
  cases d with
  | none => rfl
  | some d =>
    have hne : d ≠ g := fun e => h (by rw [e])
    simp only [evA, putS, List.getD_eq_getElem?_getD, List.getElem?_set_ne hne]

theorem WR.runG {g : Nat} {b : Bool} : ∀ (ops : List AOp) (as : AS) (rest : List AOp) (as' : AS), asBool? (evA G as.sl (.t g)) = some b → runG G g b ops as = some (rest, as') → WR P G k rest Q as' → WR P G k ops Q as
  | [], as, rest, as', hb, h, hw => by simp [Go.Proofs.Ytginjcpblgpcoaa.runG] at h; obtain ⟨rfl, rfl⟩ := h; exact hw
  | o :: ops, as, rest, as', hb, h, hw => by
    simp only [Go.Proofs.Ytginjcpblgpcoaa.runG] at h
    split at h
    · rename_i hc
      cases he : evP G as o.ai with
      | none => simp [he] at h
      | some v =>
        simp only [he, Option.bind_some] at h
        exact WR.pur (by rw [hc.1]; exact hb) he (WR.runG ops _ rest as' (by rw [evA_put hc.2.2]; exact hb) h hw)
    · injection h with h; injection h with h1 h2; subst h1; subst h2; exact hw

/-- those that a test leaves out -/
def skipG (g : Nat) (b : Bool) : List AOp → AS → List AOp × AS
  | [], as => ([], as)
  | o :: rest, as =>
    if o.guard = some (g, b) ∧ o.dst ≠ some g then skipG g b rest ⟨putS as.sl o.dst (.tup []), as.hp⟩
    else (o :: rest, as)

theorem WR.skipG {g : Nat} {b : Bool} : ∀ (ops : List AOp) (as : AS) (rest : List AOp) (as' : AS), gNo G as (some (g, b)) → skipG g b ops as = (rest, as') → WR P G k rest Q as' → WR P G k ops Q as
  | [], as, rest, as', hb, h, hw => by simp [Go.Proofs.Ytginjcpblgpcoaa.skipG] at h; obtain ⟨rfl, rfl⟩ := h; exact hw
  | o :: ops, as, rest, as', hb, h, hw => by
    simp only [Go.Proofs.Ytginjcpblgpcoaa.skipG] at h
    split at h
    · rename_i hc
      exact WR.skip (by rw [hc.1]; exact hb) (WR.skipG ops _ rest as' (by simp only [gNo]; rw [evA_put hc.2]; exact hb) h hw)
    · injection h with h1 h2; subst h1; subst h2; exact hw

end
end Go.Proofs.Ytginjcpblgpcoaa
