/- Calls in a region; the forms of code; functions by their bodies. Conditions: none. -/
import Derived.Test.YtmognenhkecngaaGreatDoorLl
namespace Go.Proofs.YtmognenhkecngaaGreatDoor
section

def argsOK (F : Fz) (γ : List OI) (args : List AV) (vs : Array Value) : Prop := vs.size = args.length ∧ ∀ (i : Nat) av v, args[i]? = some av → vs[i]? = some v → RV F γ av v

/-- A FUNCTION's CONTRACT: called with such arguments, over these objects, it returns; of its result and of the objects behind it Q holds; nothing else that was there has turned. -/
def AC (P : Program) (G : Glob) (f : FuncId) (args : List AV) (objs : List AObj) (Q : AV → List AObj → Prop) : Prop :=
  ∀ F γ (vs : Array Value) w, Inv F γ objs w → GlobOK F G → argsOK F γ args vs →
    Calls P f vs w fun e w' => ∃ r av objs' F' γ', e = .returned r ∧ Q av objs' ∧ objs.length ≤ objs'.length ∧ Ext objs.length F γ w F' γ' w' ∧ Inv F' γ' objs' w' ∧ RV F' γ' av r

/-- a contract of a function that only computes -/
def QC (P : Program) (G : Glob) (f : FuncId) (args : List AV) (r : AV) : Prop := AC P G f args [] fun av objs' => av = r ∧ objs' = []

mutual
def renC (ρ : Nat → Nat) : Cel → Cel
  | .ptr id o => .ptr (ρ id) o
  | .bld id n => .bld (ρ id) n
  | .ept id i s o => .ept (ρ id) i s o
  | .bls id l n s => .bls (ρ id) l n s
  | .fn f caps => .fn f (renL ρ caps)
  | .dc d => .dc d
  | .ref cs => .ref cs
  | .mpc es => .mpc es
  | .junk => .junk
def renL (ρ : Nat → Nat) : List Cel → List Cel
  | [] => []
  | c :: cs => renC ρ c :: renL ρ cs
end
def renT (ρ : Nat → Nat) : TV → TV
  | .one c => .one (renC ρ c)
  | .agg cs => .agg (cs.map (renC ρ))
def renV (ρ : Nat → Nat) : AV → AV
  | .one c => .one (renC ρ c)
  | .agg cs => .agg (cs.map (renC ρ))
  | .tup l => .tup (l.map (renT ρ))
  | .junk => .junk
def renO (ρ : Nat → Nat) : AObj → AObj
  | .box cs => .box (cs.map (renC ρ))
  | o => o

section
variable {P : Program} {G : Glob} {k : Nat} {F F' : Fz} {γ γ' : List OI} {w w' : World} {ρ : Nat → Nat}

theorem renL_get : ∀ (cs : List Cel) (i : Nat), (renL ρ cs)[i]? = (cs[i]?).map (renC ρ)
  | [], i => by simp [renL]
  | c :: cs, 0 => by simp [renL]
  | c :: cs, i + 1 => by simp [renL, renL_get cs i]
theorem renL_len : ∀ (cs : List Cel), (renL ρ cs).length = cs.length
  | [] => rfl
  | c :: cs => by simp [renL, renL_len cs]

/-- from the callee's names to the caller's -/
theorem RC.ren (hg : ∀ (id : Nat) (o : OI), γ[id]? = some o → γ'[ρ id]? = some o) {c : Cel} {v : Value} (h : RC F γ c v) : RC F γ' (renC ρ c) v := by
  induction h with
  | dc d v h => exact .dc d v h
  | ptr id off b h => exact .ptr _ _ _ (hg _ _ h)
  | bldN id cap h => exact .bldN _ _ (hg _ _ h)
  | bld id n b cap h => exact .bld _ _ _ _ (hg _ _ h)
  | ept id i size off b cap h => exact .ept _ _ _ _ _ _ (hg _ _ h)
  | bls id lo n size b cap c off h ho hc => exact .bls _ _ _ _ _ _ _ _ (h.imp (hg _ _) (hg _ _)) ho hc
  | ref cs b off g hr hc => exact .ref cs b off g hr hc
  | mpc es r clk ents h he h1 => exact .mpc es r clk ents h he h1
  | fn f caps g hr ih =>
    simp only [renC]
    rw [← renL_len (ρ := ρ) caps]
    refine .fn f (renL ρ caps) g (fun i c hc => ?_)
    rw [renL_get] at hc
    cases hci : caps[i]? with
    | none => simp [hci] at hc
    | some c0 => simp [hci] at hc; subst hc; exact ih i c0 hci
  | junk v h => exact .junk v h

theorem RC.unren {c : Cel} : ∀ {v : Value}, RC F γ (renC ρ c) v → (∀ (id : Nat) (o : OI), γ[ρ id]? = some o → γ'[id]? = some o) → RC F γ' c v := by
  have key : ∀ n, ∀ c : Cel, SizeOf.sizeOf c ≤ n → ∀ {v : Value}, RC F γ (renC ρ c) v → (∀ (id : Nat) (o : OI), γ[ρ id]? = some o → γ'[id]? = some o) → RC F γ' c v := by
    intro n
    induction n with
    | zero => intro c h; cases c <;> simp at h
    | succ n ih =>
      intro c hsz v h hg
      cases c with
      | dc d => cases h with | dc _ _ h => exact .dc _ _ h
      | ptr id off => cases h with | ptr _ _ b h => exact .ptr _ _ _ (hg _ _ h)
      | bld id n => cases h with
        | bldN _ cap h => exact .bldN _ _ (hg _ _ h)
        | bld _ _ b cap h => exact .bld _ _ _ _ (hg _ _ h)
      | ept id i size off => cases h with | ept _ _ _ _ b cap h => exact .ept _ _ _ _ _ _ (hg _ _ h)
      | bls id lo n size => cases h with | bls _ _ _ _ b cap c off h ho hc => exact .bls _ _ _ _ _ _ _ _ (h.imp (hg _ _) (hg _ _)) ho hc
      | ref cs => cases h with | ref _ b off g hr hc => exact .ref _ b off g hr hc
      | mpc es => cases h with | mpc _ r clk ents h he h1 => exact .mpc es r clk ents h he h1
      | junk => cases h with | junk _ h => exact .junk _ h
      | fn f caps =>
        simp only [renC] at h
        have hmem : ∀ c ∈ caps, SizeOf.sizeOf c < SizeOf.sizeOf caps := fun c hc => List.sizeOf_lt_of_mem hc
        have hs' : SizeOf.sizeOf caps ≤ n := by simp at hsz; omega
        generalize hx : renL ρ caps = cs at h
        cases h with
        | fn _ _ g hr =>
          have hl : cs.length = caps.length := by rw [← hx, renL_len]
          rw [hl]
          refine .fn f caps g (fun i c hc => ?_)
          have h1 : cs[i]? = some (renC ρ c) := by rw [← hx, renL_get, hc]; rfl
          exact ih c (by have := hmem c (List.mem_of_getElem? hc); omega) (hr i _ h1) hg
  intro v h hg
  exact key _ c (Nat.le_refl _) h hg

theorem RCs.renAll {cs : List Cel} {vs : Array Value} (hg : ∀ (id : Nat) (o : OI), γ[id]? = some o → γ'[ρ id]? = some o) (h : ∀ (i : Nat) c v, cs[i]? = some c → vs[i]? = some v → RC F γ c v) :
    ∀ (i : Nat) c v, (cs.map (renC ρ))[i]? = some c → vs[i]? = some v → RC F γ' c v := by
  intro i c v hc hv
  rw [List.getElem?_map] at hc
  cases hci : cs[i]? with
  | none => simp [hci] at hc
  | some c0 => simp [hci] at hc; subst hc; exact (h i c0 v hci hv).ren hg

theorem RCs.unrenAll {cs : List Cel} {vs : Array Value} (hg : ∀ (id : Nat) (o : OI), γ[ρ id]? = some o → γ'[id]? = some o) (h : ∀ (i : Nat) c v, (cs.map (renC ρ))[i]? = some c → vs[i]? = some v → RC F γ c v) :
    ∀ (i : Nat) c v, cs[i]? = some c → vs[i]? = some v → RC F γ' c v := by
  intro i c v hc hv
  exact (h i (renC ρ c) v (by rw [List.getElem?_map, hc]; rfl) hv).unren hg

theorem RV.ren (hg : ∀ (id : Nat) (o : OI), γ[id]? = some o → γ'[ρ id]? = some o) {av : AV} {v : Value} (h : RV F γ av v) : RV F γ' (renV ρ av) v := by
  cases h with
  | one c v h => exact .one _ _ (h.ren hg)
  | agg cs vs hs h => exact .agg _ _ (by simpa using hs) (RCs.renAll hg h)
  | tup l vs hs h =>
    refine .tup _ _ (by simpa using hs) (fun i t v ht hv => ?_)
    rw [List.getElem?_map] at ht
    cases hti : l[i]? with
    | none => simp [hti] at ht
    | some t0 =>
      simp [hti] at ht; subst ht
      cases h i t0 v hti hv with
      | one c v h => exact .one _ _ (h.ren hg)
      | agg cs vs hs h => exact .agg _ _ (by simpa using hs) (RCs.renAll hg h)
  | junk v => exact .junk v

theorem RV.unren (hg : ∀ (id : Nat) (o : OI), γ[ρ id]? = some o → γ'[id]? = some o) {av : AV} {v : Value} (h : RV F γ (renV ρ av) v) : RV F γ' av v := by
  cases av with
  | one c => cases h with | one _ _ h => exact .one _ _ (h.unren hg)
  | agg cs => cases h with | agg _ vs hs h => exact .agg _ _ (by simpa using hs) (RCs.unrenAll hg h)
  | junk => exact .junk _
  | tup l =>
    cases h with
    | tup _ vs hs h =>
      refine .tup _ _ (by simpa using hs) (fun i t v ht hv => ?_)
      have := h i (renT ρ t) v (by rw [List.getElem?_map, ht]; rfl) hv
      cases t with
      | one c => cases this with | one _ _ h => exact .one _ _ (h.unren hg)
      | agg cs => cases this with | agg _ vs hs h => exact .agg _ _ (by simpa using hs) (RCs.unrenAll hg h)

theorem OK.ren {o : AObj} {x : OI} (hg : ∀ (id : Nat) (o : OI), γ[id]? = some o → γ'[ρ id]? = some o) (h : OK F γ w o x) : OK F γ' w (renO ρ o) x := by
  cases o with
  | box cs =>
    cases x with
    | box b => obtain ⟨vs, T, h1, h2, h3⟩ := h; exact ⟨vs, T, h1, by simpa using h2, RCs.renAll hg h3⟩
    | arr b c => exact h.elim
    | dead => exact h.elim
  | arr cap size es => cases x with
    | box b => exact h.elim
    | arr b c => cases b with
      | none => exact h
      | some b => exact h
    | dead => exact h.elim
  | dead => cases x <;> exact h

theorem OK.unren {o : AObj} {x : OI} (hg : ∀ (id : Nat) (o : OI), γ[ρ id]? = some o → γ'[id]? = some o) (h : OK F γ w (renO ρ o) x) : OK F γ' w o x := by
  cases o with
  | box cs =>
    cases x with
    | box b => obtain ⟨vs, T, h1, h2, h3⟩ := h; exact ⟨vs, T, h1, by simpa using h2, RCs.unrenAll hg h3⟩
    | arr b c => exact h.elim
    | dead => exact h.elim
  | arr cap size es => cases x with
    | box b => exact h.elim
    | arr b c => cases b with
      | none => exact h
      | some b => exact h
    | dead => exact h.elim
  | dead => cases x <;> exact h

end
end
section

/-- the callee's name of an object as the caller's -/
def jmap (J : List Nat) (n : Nat) (t : Nat) : Nat := match J[t]? with | some j => j | none => n + (t - J.length)

def setJ {α : Type} : List Nat → List α → List α → List α
  | j :: J, x :: xs, l => setJ J xs (l.set j x)
  | _, _, l => l

def isBoxO : AObj → Bool
  | .box _ => true
  | _ => false

section
variable {α : Type}
theorem setJ_len : ∀ (J : List Nat) (xs l : List α), (setJ J xs l).length = l.length
  | [], _, l => by simp [setJ]
  | j :: J, [], l => by simp [setJ]
  | j :: J, x :: xs, l => by simp [setJ, setJ_len J xs]
theorem setJ_not : ∀ (J : List Nat) (xs l : List α) (i : Nat), i ∉ J → (setJ J xs l)[i]? = l[i]?
  | [], _, l, i, _ => by simp [setJ]
  | j :: J, [], l, i, _ => by simp [setJ]
  | j :: J, x :: xs, l, i, h => by
    simp only [setJ]
    rw [setJ_not J xs _ i (fun hm => h (List.mem_cons_of_mem _ hm)), List.getElem?_set_ne (fun e => h (by subst e; exact List.mem_cons_self))]
theorem setJ_at : ∀ (J : List Nat) (xs l : List α) (t j : Nat) (x : α), J.Nodup → J[t]? = some j → xs[t]? = some x → j < l.length → (setJ J xs l)[j]? = some x
  | [], _, l, t, j, x, _, h, _, _ => by simp at h
  | j0 :: J, [], l, t, j, x, _, _, h, _ => by simp at h
  | j0 :: J, x0 :: xs, l, t, j, x, hn, hj, hx, hl => by
    simp only [setJ]
    rw [List.nodup_cons] at hn
    cases t with
    | zero =>
      simp at hj hx; subst hj; subst hx
      rw [setJ_not J xs _ j0 hn.1, List.getElem?_set_self hl]
    | succ t => exact setJ_at J xs _ t j x hn.2 (by simpa using hj) (by simpa using hx) (by simpa using hl)
end

theorem nodup_get {J : List Nat} (h : J.Nodup) {s t j : Nat} (hs : J[s]? = some j) (ht : J[t]? = some j) : s = t := by
  have h1 := lt_of_get hs
  have h2 := lt_of_get ht
  have e1 := (List.getElem?_eq_some_iff.1 hs).2
  have e2 := (List.getElem?_eq_some_iff.1 ht).2
  exact (List.getElem_inj h).1 (e1.trans e2.symm)

section
variable {P : Program} {G : Glob} {k : Nat} {F : Fz} {γ : List OI} {w : World} {as : AS} {a : Act}

/-- what a call leaves to its caller -/
theorem call_step {f : FuncId} {cargs : List AV} {objs : List AObj} {J : List Nat} {Qc : AV → List AObj → Prop} (hac : AC P G f cargs objs Qc) (hJ : J.Nodup) (hlen : objs.length = J.length)
    (hobj : ∀ (t j : Nat) o, J[t]? = some j → objs[t]? = some o → as.hp[j]? = some (renO (jmap J as.hp.length) o))
    (hi : Inv F γ as.hp w) (hs : Slots F γ as.sl a) (hg : GlobOK F G) (hk : k ≤ γ.length) {vs : Array Value} (hv : argsOK F γ (cargs.map (renV (jmap J as.hp.length))) vs) :
    Calls P f vs w fun e w' => ∃ r av objs', e = .returned r ∧ Qc av objs' ∧ ∃ F' γ', Ext k F γ w F' γ' w' ∧
      Inv F' γ' (setJ J (objs'.map (renO (jmap J as.hp.length))) (as.hp.map (killO fun id => J.contains id && !isBoxO (hpGet as.hp id))) ++ (objs'.drop J.length).map (renO (jmap J as.hp.length))) w' ∧
      Slots F' γ' (as.sl.map (killV fun id => J.contains id && !isBoxO (hpGet as.hp id))) a ∧ RV F' γ' (renV (jmap J as.hp.length) av) r ∧ k ≤ γ'.length := by
  generalize hρ : jmap J as.hp.length = ρ at *
  have ρ1 : ∀ (t j : Nat), J[t]? = some j → ρ t = j := fun t j h => by rw [← hρ]; simp [jmap, h]
  have ρ2 : ∀ t, J.length ≤ t → ρ t = as.hp.length + (t - J.length) := fun t h => by rw [← hρ]; simp [jmap, List.getElem?_eq_none h]
  -- every object of the call is one of the caller's
  have hJlt : ∀ (t j : Nat), J[t]? = some j → j < as.hp.length := by
    intro t j h
    have ht : t < objs.length := hlen ▸ lt_of_get h
    exact lt_of_get (hobj t j _ h (List.getElem?_eq_getElem ht))
  let γe : List OI := J.map fun j => γ.getD j .dead
  have ge : ∀ (t j : Nat), J[t]? = some j → γe[t]? = γ[j]? := by
    intro t j h
    have hj : j < γ.length := by rw [hi.len]; exact hJlt t j h
    simp [γe, h, List.getD_eq_getElem?_getD, List.getElem?_eq_getElem hj]
  have geN : ∀ (t : Nat), J.length ≤ t → γe[t]? = none := fun t h => List.getElem?_eq_none (by simpa [γe] using h)
  have hback : ∀ (id : Nat) (o : OI), γ[ρ id]? = some o → γe[id]? = some o := by
    intro id o h
    by_cases hid : id < J.length
    · have hj : J[id]? = some (J[id]'hid) := List.getElem?_eq_getElem hid
      rw [ρ1 _ _ hj] at h
      rw [ge _ _ hj]; exact h
    · rw [ρ2 id (by omega)] at h
      rw [List.getElem?_eq_none (by rw [hi.len]; omega)] at h
      cases h
  have be : ∀ t b, blkAt γe t = some b → ∃ j, J[t]? = some j ∧ blkAt γ j = some b := by
    intro t b h
    obtain ⟨y, hy, hyb⟩ := blkAt_some h
    have ht : t < J.length := by have := lt_of_get hy; simpa [γe] using this
    have hj : J[t]? = some (J[t]'ht) := List.getElem?_eq_getElem ht
    rw [ge _ _ hj] at hy
    exact ⟨_, hj, blkAt_of hy hyb⟩
  have hie : Inv F γe objs w := by
    refine ⟨hi.fz, by simp [γe, hlen], ?_, ?_, ?_⟩
    · intro s t b h1 h2
      obtain ⟨j1, hj1, hb1⟩ := be s b h1
      obtain ⟨j2, hj2, hb2⟩ := be t b h2
      have := hi.nd _ _ _ hb1 hb2
      subst this
      exact nodup_get hJ hj1 hj2
    · intro t b h
      obtain ⟨j, _, hb⟩ := be t b h
      exact hi.disj j b hb
    · intro t o x h1 h2
      have ht : t < J.length := by have := lt_of_get h2; simpa [γe] using this
      have hj : J[t]? = some (J[t]'ht) := List.getElem?_eq_getElem ht
      rw [ge _ _ hj] at h2
      exact (hi.ok _ _ x (hobj t _ o hj h1) h2).unren hback
  have hve : argsOK F γe cargs vs := by
    refine ⟨by simpa using hv.1, fun i av v h1 h2 => ?_⟩
    exact (hv.2 i (renV ρ av) v (by rw [List.getElem?_map, h1]; rfl) h2).unren hback
  refine (hac F γe vs w hie hg hve).mono ?_
  rintro e w' ⟨r, av, objs', F', γ', rfl, hq, hlo, hE, hI, hR⟩
  refine ⟨r, av, objs', rfl, hq, F', setJ J γ' γ ++ γ'.drop J.length, ?_⟩
  have hγl : γ'.length = objs'.length := hI.len
  -- names of the callee's objects behind the call
  have hfwd : ∀ (id : Nat) (o : OI), γ'[id]? = some o → (setJ J γ' γ ++ γ'.drop J.length)[ρ id]? = some o := by
    intro id o h
    by_cases hid : id < J.length
    · have hj : J[id]? = some (J[id]'hid) := List.getElem?_eq_getElem hid
      rw [ρ1 _ _ hj]
      have hjl : J[id]'hid < γ.length := by rw [hi.len]; exact hJlt _ _ hj
      exact get_append_left (setJ_at J γ' γ id _ o hJ hj h hjl)
    · rw [ρ2 id (by omega), List.getElem?_append_right (by rw [setJ_len, hi.len]; omega), setJ_len, hi.len, Nat.add_sub_cancel_left, List.getElem?_drop]
      rw [show J.length + (id - J.length) = id by omega]; exact h
  have hold : ∀ (i : Nat) (o : OI), i ∉ J → γ[i]? = some o → (setJ J γ' γ ++ γ'.drop J.length)[i]? = some o := fun i o hn h => get_append_left (by rw [setJ_not J γ' γ i hn]; exact h)
  have hkeep : ∀ (id : Nat) (o : OI), (J.contains id && !isBoxO (hpGet as.hp id)) = false → γ[id]? = some o → (setJ J γ' γ ++ γ'.drop J.length)[id]? = some o := by
    intro id o hp h
    by_cases hm : id ∈ J
    · simp only [Bool.and_eq_false_iff, List.contains_eq_mem, decide_eq_false_iff_not, Bool.not_eq_false'] at hp
      rcases hp with hp | hp
      · exact absurd hm hp
      · obtain ⟨t, ht⟩ := List.getElem?_of_mem hm
        have hl : id < as.hp.length := by rw [← hi.len]; exact lt_of_get h
        have hgd : as.hp[id]? = some (hpGet as.hp id) := by simp [hpGet, List.getD_eq_getElem?_getD, List.getElem?_eq_getElem hl]
        have hok := hi.ok id _ o hgd h
        cases hob : hpGet as.hp id with
        | box cs =>
          rw [hob] at hok
          cases o with
          | box b =>
            have htl := lt_of_get ht
            have := hE.box t (by omega) b (by rw [ge _ _ ht]; exact h)
            have h2 := hfwd t _ this
            rwa [ρ1 _ _ ht] at h2
          | arr b c => exact hok.elim
          | dead => exact hok.elim
        | arr _ _ _ => rw [hob] at hp; simp [isBoxO] at hp
        | dead => rw [hob] at hp; simp [isBoxO] at hp
    · exact hold id o hm h
  -- the blocks
  have hnew : ∀ i b, blkAt (setJ J γ' γ ++ γ'.drop J.length) i = some b → (i ∉ J ∧ blkAt γ i = some b) ∨ (∃ t, ρ t = i ∧ blkAt γ' t = some b) := by
    intro i b h
    obtain ⟨y, hy, hyb⟩ := blkAt_some h
    by_cases hil : i < γ.length
    · rw [List.getElem?_append_left (by rw [setJ_len]; exact hil)] at hy
      by_cases hm : i ∈ J
      · obtain ⟨t, ht⟩ := List.getElem?_of_mem hm
        have htl := lt_of_get ht
        have htγ : t < γ'.length := by omega
        have h2 := setJ_at J γ' γ t i _ hJ ht (List.getElem?_eq_getElem htγ) hil
        rw [h2] at hy
        injection hy with hy
        subst hy
        exact .inr ⟨t, ρ1 _ _ ht, blkAt_of (List.getElem?_eq_getElem htγ) hyb⟩
      · rw [setJ_not J γ' γ i hm] at hy
        exact .inl ⟨hm, blkAt_of hy hyb⟩
    · rw [List.getElem?_append_right (by rw [setJ_len]; omega), setJ_len, List.getElem?_drop] at hy
      refine .inr ⟨J.length + (i - γ.length), ?_, blkAt_of hy hyb⟩
      rw [ρ2 _ (by omega), ← hi.len]; omega
  have hlt' : ∀ t b, blkAt γ' t = some b → (∃ j, j ∈ J ∧ blkAt γ j = some b) ∨ w.heap.size ≤ b := by
    intro t b h
    rcases hE.blk t b h with ⟨s, hs'⟩ | h
    · obtain ⟨j, hj, hb⟩ := be s b hs'
      exact .inl ⟨j, List.mem_of_getElem? hj, hb⟩
    · exact .inr h
  have hfar : ∀ i b, i ∉ J → blkAt γ i = some b → w'.heap[b]? = w.heap[b]? := by
    intro i b hn hb
    refine hE.far b (hi.lt hb) (fun t ht => ?_)
    obtain ⟨j, hj, hjb⟩ := be t b ht
    exact hn (by rw [hi.nd _ _ _ hb hjb]; exact List.mem_of_getElem? hj)
  have hρinj : ∀ s t b, blkAt γ' s = some b → blkAt γ' t = some b → ρ s = ρ t := fun s t b h1 h2 => by rw [hI.nd _ _ _ h1 h2]
  refine ⟨?_, ?_, hs.kill hE.sub hkeep, hR.ren hfwd, by simp [setJ_len]; omega⟩
  · refine ⟨hE.sub, hE.os, hE.tape, hE.output, hE.size, fun b hb hn => ?_, fun b o h => ?_, fun i b h => ?_, fun i hik b h => ?_⟩
    · exact hE.far b hb (fun t ht => by obtain ⟨j, _, hjb⟩ := be t b ht; exact hn j hjb)
    · rcases hE.new b o h with h | h | ⟨t, ht⟩
      · exact .inl h
      · exact .inr (.inl h)
      · obtain ⟨j, _, hjb⟩ := be t b ht; exact .inr (.inr ⟨j, hjb⟩)
    · rcases hnew i b h with ⟨_, h⟩ | ⟨t, _, h⟩
      · exact .inl ⟨i, h⟩
      · rcases hlt' t b h with ⟨j, _, h⟩ | h
        · exact .inl ⟨j, h⟩
        · exact .inr h
    · have hl : i < as.hp.length := by rw [← hi.len]; exact lt_of_get h
      have hgd : as.hp[i]? = some (hpGet as.hp i) := by simp [hpGet, List.getD_eq_getElem?_getD, List.getElem?_eq_getElem hl]
      have hok := hi.ok i _ _ hgd h
      refine hkeep i _ ?_ h
      cases hob : hpGet as.hp i with
      | box cs => simp [isBoxO]
      | arr _ _ _ => rw [hob] at hok; exact hok.elim
      | dead => rw [hob] at hok; exact hok.elim
  · refine ⟨hI.fz, by simp [setJ_len, hi.len, hγl], ?_, ?_, ?_⟩
    · intro i j b h1 h2
      rcases hnew i b h1 with ⟨a1, a2⟩ | ⟨t, a1, a2⟩ <;> rcases hnew j b h2 with ⟨c1, c2⟩ | ⟨s, c1, c2⟩
      · exact hi.nd _ _ _ a2 c2
      · exfalso
        rcases hlt' s b c2 with ⟨j', hj', hb'⟩ | h
        · exact a1 (by rw [hi.nd _ _ _ a2 hb']; exact hj')
        · have := hi.lt a2; omega
      · exfalso
        rcases hlt' t b a2 with ⟨j', hj', hb'⟩ | h
        · exact c1 (by rw [hi.nd _ _ _ c2 hb']; exact hj')
        · have := hi.lt c2; omega
      · rw [← a1, ← c1]; exact hρinj _ _ _ a2 c2
    · intro i b h
      rcases hnew i b h with ⟨a1, a2⟩ | ⟨t, _, a2⟩
      · cases hF : F' b with
        | none => rfl
        | some o =>
          exfalso
          rcases hE.new b o hF with h | h | ⟨t, ht⟩
          · rw [hi.disj i b a2] at h; cases h
          · have := hi.lt a2; omega
          · obtain ⟨j, hj, hjb⟩ := be t b ht
            exact a1 (by rw [hi.nd _ _ _ a2 hjb]; exact List.mem_of_getElem? hj)
      · exact hI.disj t b a2
    · intro i o x h1 h2
      by_cases hil : i < γ.length
      · rw [List.getElem?_append_left (by rw [setJ_len]; exact hil)] at h2
        rw [List.getElem?_append_left (by rw [setJ_len, List.length_map, ← hi.len]; exact hil)] at h1
        by_cases hm : i ∈ J
        · obtain ⟨t, ht⟩ := List.getElem?_of_mem hm
          have htl := lt_of_get ht
          have htγ : t < γ'.length := by omega
          have hto : t < objs'.length := by omega
          rw [setJ_at J γ' γ t i _ hJ ht (List.getElem?_eq_getElem htγ) hil] at h2
          rw [setJ_at J _ _ t i (renO ρ (objs'[t]'hto)) hJ ht (by rw [List.getElem?_map, List.getElem?_eq_getElem hto]; rfl) (by rw [List.length_map, ← hi.len]; exact hil)] at h1
          injection h1 with h1; injection h2 with h2; subst h1; subst h2
          exact (hI.ok t _ _ (List.getElem?_eq_getElem hto) (List.getElem?_eq_getElem htγ)).ren hfwd
        · rw [setJ_not J _ _ i hm] at h1 h2
          rw [List.getElem?_map] at h1
          cases ho : as.hp[i]? with
          | none => simp [ho] at h1
          | some o0 =>
            simp only [ho, Option.map_some, Option.some.injEq] at h1; subst h1
            exact (hi.ok i o0 x ho h2).kill hE.sub hkeep (fun b hb => hfar i b hm (blkAt_of h2 hb))
      · rw [List.getElem?_append_right (by rw [setJ_len]; omega), setJ_len, List.getElem?_drop] at h2
        rw [List.getElem?_append_right (by rw [setJ_len, List.length_map, ← hi.len]; omega), setJ_len, List.length_map, ← hi.len, List.getElem?_map, List.getElem?_drop] at h1
        cases ho : objs'[J.length + (i - γ.length)]? with
        | none => simp [ho] at h1
        | some o0 =>
          simp [ho] at h1; subst h1
          exact (hI.ok _ o0 x ho h2).ren hfwd

end
end
section

theorem killC_none {p : Nat → Bool} (hp : ∀ id, p id = false) (c : Cel) : killC p c = c := by
  have : p = fun _ => false := funext hp
  subst this
  simp [killC, Cel.keep_none]
theorem killT_none {p : Nat → Bool} (hp : ∀ id, p id = false) (t : TV) : killT p t = t := by
  cases t <;> simp [killT, killC_none hp, List.map_id'']
theorem killV_none {p : Nat → Bool} (hp : ∀ id, p id = false) (v : AV) : killV p v = v := by
  cases v <;> simp [killV, killC_none hp, killT_none hp, List.map_id'']
theorem killO_none {p : Nat → Bool} (hp : ∀ id, p id = false) (o : AObj) : killO p o = o := by
  cases o <;> simp [killO, killC_none hp, List.map_id'']
theorem mapV_none {p : Nat → Bool} (hp : ∀ id, p id = false) (l : List AV) : l.map (killV p) = l := by simp [killV_none hp, List.map_id'']
theorem mapO_none {p : Nat → Bool} (hp : ∀ id, p id = false) (l : List AObj) : l.map (killO p) = l := by simp [killO_none hp, List.map_id'']

/-- can a function be called by its body? -/
def okF (P : Program) (f : FuncId) : Bool :=
  match P.funcs[f]? with
  | some fn => !(fn.name == "runtime.NumGoroutine" || fn.body.isNone)
  | none => false

section
variable {P : Program} {G : Glob} {k : Nat} {Q : AS → Prop} {as as' : AS} {o : AOp} {rest ops : List AOp} {F : Fz} {γ : List OI} {w : World} {a : Act}

theorem run_callFunc {f : FuncId} (h : okF P f = true) (args : Array Value) : (callFunc f args).run P w = .ok (.enter f args) w := by
  unfold okF at h
  cases hf : P.funcs[f]? with
  | none => simp [hf] at h
  | some fn =>
    simp only [hf, Bool.not_eq_true', Bool.or_eq_false_iff] at h
    obtain ⟨h1, h2⟩ := h
    have h1' : ¬ fn.name = "runtime.NumGoroutine" := by simpa using h1
    have h2' : ¬ fn.body = none := by intro h; simp [h] at h2
    simp [callFunc, hf, h1', h2']

theorem call_inv {oper : Oper} {f : FuncId} {args : List AArg} (hc : compileOp P oper = some (.call f args)) :
    ∃ c, oper.op = .call c ∧ c.callee = .value (.func f) ∧ args = c.args.toList.map argOf ∧ okF P f = true := by
  have hk := kind_of hc rfl
  obtain ⟨c, he⟩ := op_call (.inl hk)
  obtain ⟨dst, op, type, pos, after, guard⟩ := oper
  obtain ⟨callee, cargs, argTypes⟩ := c
  simp only at he
  subst he
  simp only [kindOp] at hk
  split at hk
  · rename_i f'
    simp only [compileOp, compileCall] at hc
    cases hf : P.funcs[f']? with
    | none => simp [hf] at hc
    | some fn =>
      simp only [hf] at hc
      split at hc
      · cases hc
      · rename_i hcond
        simp only [Option.some.injEq, AI.call.injEq] at hc
        obtain ⟨rfl, rfl⟩ := hc
        exact ⟨_, rfl, rfl, rfl, by simp only [okF, hf, Bool.not_eq_true']; exact Bool.eq_false_iff.2 hcond⟩
  · simp [kindAI] at hk
  · simp [kindAI] at hk
  · simp [kindAI] at hk
  · simp [kindAI] at hk
  · simp [kindAI] at hk

theorem callv_inv {oper : Oper} {x : AArg} {args : List AArg} (hc : compileOp P oper = some (.callv x args)) :
    ∃ c t, oper.op = .call c ∧ c.callee = .value (.tmp t) ∧ args = c.args.toList.map argOf ∧ x = .t t := by
  have hk := kind_of hc rfl
  obtain ⟨c, he⟩ := op_call (.inr (.inl hk))
  obtain ⟨dst, op, type, pos, after, guard⟩ := oper
  obtain ⟨callee, cargs, argTypes⟩ := c
  simp only at he
  subst he
  simp only [kindOp] at hk
  split at hk
  · simp [kindAI] at hk
  · rename_i f' hne
    cases f' with
    | tmp t =>
      simp only [compileOp, compileCall, Option.some.injEq, AI.callv.injEq] at hc
      obtain ⟨rfl, rfl⟩ := hc
      exact ⟨_, t, rfl, rfl, rfl, rfl⟩
    | const v => simp [compileOp, compileCall] at hc
    | global g => simp [compileOp, compileCall] at hc
    | func f => exact absurd rfl (hne f)
  · simp [kindAI] at hk
  · simp [kindAI] at hk
  · simp [kindAI] at hk
  · simp [kindAI] at hk

theorem args_ok (hs : Slots F γ as.sl a) (hg : GlobOK F G) (xs : Array Operand) : argsOK F γ ((xs.toList.map argOf).map (evA G as.sl)) (xs.map a.eval) := by
  refine ⟨by simp, fun i av v h1 h2 => ?_⟩
  simp only [List.map_map, List.getElem?_map, Array.getElem?_map, Array.getElem?_toList] at h1 h2
  cases hx : xs[i]? with
  | none => simp [hx] at h1
  | some x =>
    simp [hx] at h1 h2
    subst h1; subst h2
    exact rv_arg hs hg x

/-- the state behind a call -/
def afterC (J : List Nat) (as : AS) (dst : Option Nat) (av : AV) (objs' : List AObj) : AS :=
  ⟨putS (as.sl.map (killV fun id => J.contains id && !isBoxO (hpGet as.hp id))) dst (renV (jmap J as.hp.length) av),
   setJ J (objs'.map (renO (jmap J as.hp.length))) (as.hp.map (killO fun id => J.contains id && !isBoxO (hpGet as.hp id))) ++ (objs'.drop J.length).map (renO (jmap J as.hp.length))⟩

theorem WR.call {f : FuncId} {args : List AArg} {cargs : List AV} {objs : List AObj} {J : List Nat} {Qc : AV → List AObj → Prop} (hgd : gOK G as o.guard) (ha : o.ai = .call f args) (hac : AC P G f cargs objs Qc) (hJ : J.Nodup)
    (hlen : objs.length = J.length) (hobj : ∀ (t j : Nat) o, J[t]? = some j → objs[t]? = some o → as.hp[j]? = some (renO (jmap J as.hp.length) o))
    (hargs : args.map (evA G as.sl) = cargs.map (renV (jmap J as.hp.length))) (h : ∀ av objs', Qc av objs' → WR P G k rest Q (afterC J as o.dst av objs')) : WR P G k (o :: rest) Q as := by
  refine WR.step hgd (fun F γ a w oper hc hd hi hs hg hk => ?_)
  rw [ha] at hc
  obtain ⟨c, hop, hcal, rfl, hok⟩ := call_inv hc
  obtain ⟨dst, op, type, pos, after, guard⟩ := oper
  simp only at hop
  subst hop
  have hv := args_ok (G := G) hs hg c.args
  rw [hargs] at hv
  refine .inr ⟨f, c.args.map a.eval, ?_, (call_step hac hJ hlen hobj hi hs hg hk hv).mono ?_⟩
  · simp [execOp, resolve, hcal, Act.eval, Deferred.ofValue, invoke, run_callFunc hok]
  · rintro e w' ⟨r, av, objs', rfl, hq, F', γ', hE, hI, hS, hR, hk'⟩
    exact ⟨r, _, F', γ', rfl, h av objs' hq, hE, hI, hS.put _ hR, hk'⟩

theorem WR.callv {f : FuncId} {caps : List Cel} {x : AArg} {args : List AArg} {cargs : List AV} {objs : List AObj} {J : List Nat} {Qc : AV → List AObj → Prop} (hgd : gOK G as o.guard) (ha : o.ai = .callv x args) (hx : evA G as.sl x = .one (.fn f caps))
    (hok : okF P f = true) (hac : AC P G f cargs objs Qc) (hJ : J.Nodup)
    (hlen : objs.length = J.length) (hobj : ∀ (t j : Nat) o, J[t]? = some j → objs[t]? = some o → as.hp[j]? = some (renO (jmap J as.hp.length) o))
    (hargs : args.map (evA G as.sl) ++ caps.map AV.one = cargs.map (renV (jmap J as.hp.length))) (h : ∀ av objs', Qc av objs' → WR P G k rest Q (afterC J as o.dst av objs')) : WR P G k (o :: rest) Q as := by
  refine WR.step hgd (fun F γ a w oper hc hd hi hs hg hk => ?_)
  rw [ha] at hc
  obtain ⟨c, t, hop, hcal, rfl, rfl⟩ := callv_inv hc
  obtain ⟨dst, op, type, pos, after, guard⟩ := oper
  simp only at hop
  subst hop
  have hv := args_ok (G := G) hs hg c.args
  have hf := rv_arg (G := G) hs hg (.tmp t)
  rw [show argOf (.tmp t) = .t t from rfl, hx] at hf
  generalize hfv : a.eval (.tmp t) = fv at hf
  cases hf with | one _ _ hf => cases hf with | fn _ _ g hr =>
  have hv2 : argsOK F γ (cargs.map (renV (jmap J as.hp.length))) (c.args.map a.eval ++ ((List.range caps.length).map g).toArray) := by
    rw [← hargs]
    refine ⟨by simp, fun i av v h1 h2 => ?_⟩
    by_cases hi' : i < c.args.size
    · rw [List.getElem?_append_left (by simpa using hi')] at h1
      rw [Array.getElem?_append_left (by simpa using hi')] at h2
      exact hv.2 i av v h1 h2
    · rw [List.getElem?_append_right (by simpa using hi')] at h1
      rw [Array.getElem?_append_right (by simpa using hi')] at h2
      simp only [List.length_map, Array.length_toList, Array.size_map] at h1 h2
      simp only [List.getElem?_map, List.getElem?_toArray] at h1 h2
      cases hcp : caps[i - c.args.size]? with
      | none => simp [hcp] at h1
      | some cc =>
        simp [hcp] at h1
        have hlt := lt_of_get hcp
        simp [List.getElem?_range hlt] at h2
        subst h1; subst h2
        exact .one _ _ (hr _ _ hcp)
  refine .inr ⟨f, c.args.map a.eval ++ ((List.range caps.length).map g).toArray, ?_, (call_step hac hJ hlen hobj hi hs hg hk hv2).mono ?_⟩
  · simp [execOp, resolve, hcal, hfv, Deferred.ofValue, invoke, run_callFunc hok]
  · rintro e w' ⟨r, av, objs', rfl, hq, F', γ', hE, hI, hS, hR, hk'⟩
    exact ⟨r, _, F', γ', rfl, h av objs' hq, hE, hI, hS.put _ hR, hk'⟩

/-- a call that only computes -/
theorem WR.callQ {f : FuncId} {args : List AArg} {cargs : List AV} {r : AV} (hgd : gOK G as o.guard) (ha : o.ai = .call f args) (hac : QC P G f cargs r)
    (hargs : args.map (evA G as.sl) = cargs.map (renV (jmap [] as.hp.length))) (h : WR P G k rest Q ⟨putS as.sl o.dst (renV (jmap [] as.hp.length) r), as.hp⟩) : WR P G k (o :: rest) Q as := by
  refine WR.call (J := []) hgd ha hac List.nodup_nil rfl (fun t j o h => by simp at h) hargs (fun av objs' hq => ?_)
  obtain ⟨rfl, rfl⟩ := hq
  have e1 : afterC [] as o.dst av [] = ⟨putS as.sl o.dst (renV (jmap [] as.hp.length) av), as.hp⟩ := by
    simp only [afterC, setJ, List.map_nil, List.drop_nil, List.append_nil]
    rw [mapV_none (by simp), mapO_none (by simp)]
  rw [e1]
  exact h

/-- a call that makes new objects alone -/
theorem WR.callN {f : FuncId} {args : List AArg} {cargs : List AV} {Qc : AV → List AObj → Prop} (hgd : gOK G as o.guard) (ha : o.ai = .call f args) (hac : AC P G f cargs [] Qc)
    (hargs : args.map (evA G as.sl) = cargs.map (renV (jmap [] as.hp.length)))
    (h : ∀ av objs', Qc av objs' → WR P G k rest Q ⟨putS as.sl o.dst (renV (jmap [] as.hp.length) av), as.hp ++ objs'.map (renO (jmap [] as.hp.length))⟩) : WR P G k (o :: rest) Q as := by
  refine WR.call (J := []) hgd ha hac List.nodup_nil rfl (fun t j o h => by simp at h) hargs (fun av objs' hq => ?_)
  have e1 : afterC [] as o.dst av objs' = ⟨putS as.sl o.dst (renV (jmap [] as.hp.length) av), as.hp ++ objs'.map (renO (jmap [] as.hp.length))⟩ := by
    simp only [afterC, setJ, List.length_nil, List.drop_zero]
    rw [mapV_none (by simp), mapO_none (by simp)]
  rw [e1]
  exact h av objs' hq
end
end
end Go.Proofs.YtmognenhkecngaaGreatDoor
