/- Calls of functions by their contracts, over the abstract states. Conditions: none. -/
import Derived.Test.YtginjcpblgpcoaaLl
namespace Go.Proofs.Ytginjcpblgpcoaa

def argsOK (F : Fz) (γ : List OI) (args : List AV) (vs : Array Value) : Prop := vs.size = args.length ∧ ∀ (i : Nat) av v, args[i]? = some av → vs[i]? = some v → RV F γ av v

/-- A FUNCTION's CONTRACT: called with such arguments, over these objects, it returns; of its result and of the objects behind it Q holds; nothing else that was there has turned. -/
def AC (P : Program) (G : Glob) (f : FuncId) (args : List AV) (objs : List AObj) (Q : AV → List AObj → Prop) : Prop :=
  ∀ F γ (vs : Array Value) w, Inv F γ objs w → GlobOK F G → argsOK F γ args vs →
    Calls P f vs w fun e w' => ∃ r av objs' F' γ', e = .returned r ∧ Q av objs' ∧ objs.length ≤ objs'.length ∧ Ext objs.length F γ w F' γ' w' ∧ Inv F' γ' objs' w' ∧ RV F' γ' av r

/-- a contract of a function that only computes -/
def QC (P : Program) (G : Glob) (f : FuncId) (args : List AV) (r : AV) : Prop := AC P G f args [] fun av objs' => av = r ∧ objs' = []

mutual
def renC (ρ : Nat → Nat) : Cel → Cel
  | .ptr id o => .ptr (ρ id) o
  | .bld id n => .bld (ρ id) n
  | .ept id i s o => .ept (ρ id) i s o
  | .bls id l n s => .bls (ρ id) l n s
  | .fn f caps => .fn f (renL ρ caps)
  | .dc d => .dc d
  | .ref cs => .ref cs
  | .junk => .junk
def renL (ρ : Nat → Nat) : List Cel → List Cel
  | [] => []
  | c :: cs => renC ρ c :: renL ρ cs
end
def renT (ρ : Nat → Nat) : TV → TV
  | .one c => .one (renC ρ c)
  | .agg cs => .agg (cs.map (renC ρ))
def renV (ρ : Nat → Nat) : AV → AV
  | .one c => .one (renC ρ c)
  | .agg cs => .agg (cs.map (renC ρ))
  | .tup l => .tup (l.map (renT ρ))
  | .junk => .junk
def renO (ρ : Nat → Nat) : AObj → AObj
  | .box cs => .box (cs.map (renC ρ))
  | o => o

section
variable {P : Program} {G : Glob} {k : Nat} {F F' : Fz} {γ γ' : List OI} {w w' : World} {ρ : Nat → Nat}

theorem renL_get : ∀ (cs : List Cel) (i : Nat), (renL ρ cs)[i]? = (cs[i]?).map (renC ρ)
  | [], i => by simp [renL]
  | c :: cs, 0 => by simp [renL]
  | c :: cs, i + 1 => by simp [renL, renL_get cs i]
theorem renL_len : ∀ (cs : List Cel), (renL ρ cs).length = cs.length
  | [] => rfl
  | c :: cs => by simp [renL, renL_len cs]

/-- from the callee's names to the caller's -/
theorem RC.ren (hg : ∀ (id : Nat) (o : OI), γ[id]? = some o → γ'[ρ id]? = some o) {c : Cel} {v : Value} (h : RC F γ c v) : RC F γ' (renC ρ c) v := by
  induction h with
  | dc d v h => exact .dc d v h
  | ptr id off b h => exact .ptr _ _ _ (hg _ _ h)
  | bldN id cap h => exact .bldN _ _ (hg _ _ h)
  | bld id n b cap h => exact .bld _ _ _ _ (hg _ _ h)
  | ept id i size off b cap h => exact .ept _ _ _ _ _ _ (hg _ _ h)
  | bls id lo n size b cap c off h ho hc => exact .bls _ _ _ _ _ _ _ _ (hg _ _ h) ho hc
  | ref cs b off g hr hc => exact .ref cs b off g hr hc
  | fn f caps g hr ih =>
    simp only [renC]
    rw [← renL_len (ρ := ρ) caps]
    refine .fn f (renL ρ caps) g (fun i c hc => ?_)
    rw [renL_get] at hc
    cases hci : caps[i]? with
    | none => simp [hci] at hc
    | some c0 => simp [hci] at hc; subst hc; exact ih i c0 hci
  | junk v h => exact .junk v h

theorem RC.unren {c : Cel} : ∀ {v : Value}, RC F γ (renC ρ c) v → (∀ (id : Nat) (o : OI), γ[ρ id]? = some o → γ'[id]? = some o) → RC F γ' c v := by
  have key : ∀ n, ∀ c : Cel, SizeOf.sizeOf c ≤ n → ∀ {v : Value}, RC F γ (renC ρ c) v → (∀ (id : Nat) (o : OI), γ[ρ id]? = some o → γ'[id]? = some o) → RC F γ' c v := by
    intro n
    induction n with
    | zero => intro c h; cases c <;> simp at h
    | succ n ih =>
      intro c hsz v h hg
      cases c with
      | dc d => cases h with | dc _ _ h => exact .dc _ _ h
      | ptr id off => cases h with | ptr _ _ b h => exact .ptr _ _ _ (hg _ _ h)
      | bld id n => cases h with
        | bldN _ cap h => exact .bldN _ _ (hg _ _ h)
        | bld _ _ b cap h => exact .bld _ _ _ _ (hg _ _ h)
      | ept id i size off => cases h with | ept _ _ _ _ b cap h => exact .ept _ _ _ _ _ _ (hg _ _ h)
      | bls id lo n size => cases h with | bls _ _ _ _ b cap c off h ho hc => exact .bls _ _ _ _ _ _ _ _ (hg _ _ h) ho hc
      | ref cs => cases h with | ref _ b off g hr hc => exact .ref _ b off g hr hc
      | junk => cases h with | junk _ h => exact .junk _ h
      | fn f caps =>
        simp only [renC] at h
        have hmem : ∀ c ∈ caps, SizeOf.sizeOf c < SizeOf.sizeOf caps := fun c hc => List.sizeOf_lt_of_mem hc
        have hs' : SizeOf.sizeOf caps ≤ n := by simp at hsz; omega
        generalize hx : renL ρ caps = cs at h
        cases h with
        | fn _ _ g hr =>
          have hl : cs.length = caps.length := by rw [← hx, renL_len]
          rw [hl]
          refine .fn f caps g (fun i c hc => ?_)
          have h1 : cs[i]? = some (renC ρ c) := by rw [← hx, renL_get, hc]; rfl
          exact ih c (by have := hmem c (List.mem_of_getElem? hc); omega) (hr i _ h1) hg
  intro v h hg
  exact key _ c (Nat.le_refl _) h hg

theorem RCs.renAll {cs : List Cel} {vs : Array Value} (hg : ∀ (id : Nat) (o : OI), γ[id]? = some o → γ'[ρ id]? = some o) (h : ∀ (i : Nat) c v, cs[i]? = some c → vs[i]? = some v → RC F γ c v) :
    ∀ (i : Nat) c v, (cs.map (renC ρ))[i]? = some c → vs[i]? = some v → RC F γ' c v := by
  intro i c v hc hv
  rw [List.getElem?_map] at hc
  cases hci : cs[i]? with
  | none => simp [hci] at hc
  | some c0 => simp [hci] at hc; subst hc; exact (h i c0 v hci hv).ren hg

theorem RCs.unrenAll {cs : List Cel} {vs : Array Value} (hg : ∀ (id : Nat) (o : OI), γ[ρ id]? = some o → γ'[id]? = some o) (h : ∀ (i : Nat) c v, (cs.map (renC ρ))[i]? = some c → vs[i]? = some v → RC F γ c v) :
    ∀ (i : Nat) c v, cs[i]? = some c → vs[i]? = some v → RC F γ' c v := by
  intro i c v hc hv
  exact (h i (renC ρ c) v (by rw [List.getElem?_map, hc]; rfl) hv).unren hg

theorem RV.ren (hg : ∀ (id : Nat) (o : OI), γ[id]? = some o → γ'[ρ id]? = some o) {av : AV} {v : Value} (h : RV F γ av v) : RV F γ' (renV ρ av) v := by
  cases h with
  | one c v h => exact .one _ _ (h.ren hg)
  | agg cs vs hs h => exact .agg _ _ (by simpa using hs) (RCs.renAll hg h)
  | tup l vs hs h =>
    refine .tup _ _ (by simpa using hs) (fun i t v ht hv => ?_)
    rw [List.getElem?_map] at ht
    cases hti : l[i]? with
    | none => simp [hti] at ht
    | some t0 =>
      simp [hti] at ht; subst ht
      cases h i t0 v hti hv with
      | one c v h => exact .one _ _ (h.ren hg)
      | agg cs vs hs h => exact .agg _ _ (by simpa using hs) (RCs.renAll hg h)
  | junk v => exact .junk v

theorem RV.unren (hg : ∀ (id : Nat) (o : OI), γ[ρ id]? = some o → γ'[id]? = some o) {av : AV} {v : Value} (h : RV F γ (renV ρ av) v) : RV F γ' av v := by
  cases av with
  | one c => cases h with | one _ _ h => exact .one _ _ (h.unren hg)
  | agg cs => cases h with | agg _ vs hs h => exact .agg _ _ (by simpa using hs) (RCs.unrenAll hg h)
  | junk => exact .junk _
  | tup l =>
    cases h with
    | tup _ vs hs h =>
      refine .tup _ _ (by simpa using hs) (fun i t v ht hv => ?_)
      have := h i (renT ρ t) v (by rw [List.getElem?_map, ht]; rfl) hv
      cases t with
      | one c => cases this with | one _ _ h => exact .one _ _ (h.unren hg)
      | agg cs => cases this with | agg _ vs hs h => exact .agg _ _ (by simpa using hs) (RCs.unrenAll hg h)

theorem OK.ren {o : AObj} {x : OI} (hg : ∀ (id : Nat) (o : OI), γ[id]? = some o → γ'[ρ id]? = some o) (h : OK F γ w o x) : OK F γ' w (renO ρ o) x := by
  cases o with
  | box cs =>
    cases x with
    | box b => obtain ⟨vs, T, h1, h2, h3⟩ := h; exact ⟨vs, T, h1, by simpa using h2, RCs.renAll hg h3⟩
    | arr b c => exact h.elim
    | dead => exact h.elim
  | arr cap size es => cases x with
    | box b => exact h.elim
    | arr b c => cases b with
      | none => exact h
      | some b => exact h
    | dead => exact h.elim
  | dead => cases x <;> exact h

theorem OK.unren {o : AObj} {x : OI} (hg : ∀ (id : Nat) (o : OI), γ[ρ id]? = some o → γ'[id]? = some o) (h : OK F γ w (renO ρ o) x) : OK F γ' w o x := by
  cases o with
  | box cs =>
    cases x with
    | box b => obtain ⟨vs, T, h1, h2, h3⟩ := h; exact ⟨vs, T, h1, by simpa using h2, RCs.unrenAll hg h3⟩
    | arr b c => exact h.elim
    | dead => exact h.elim
  | arr cap size es => cases x with
    | box b => exact h.elim
    | arr b c => cases b with
      | none => exact h
      | some b => exact h
    | dead => exact h.elim
  | dead => cases x <;> exact h

end
end Go.Proofs.Ytginjcpblgpcoaa
