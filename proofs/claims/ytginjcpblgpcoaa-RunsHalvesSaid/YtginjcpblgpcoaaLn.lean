/- A call by a contract: the caller's state behind it. Conditions: none. -/
import Derived.Test.YtginjcpblgpcoaaLm
namespace Go.Proofs.Ytginjcpblgpcoaa

/-- the callee's name of an object as the caller's -/
def jmap (J : List Nat) (n : Nat) (t : Nat) : Nat := match J[t]? with | some j => j | none => n + (t - J.length)

def setJ {α : Type} : List Nat → List α → List α → List α
  | j :: J, x :: xs, l => setJ J xs (l.set j x)
  | _, _, l => l

def isBoxO : AObj → Bool
  | .box _ => true
  | _ => false

section
variable {α : Type}
theorem setJ_len : ∀ (J : List Nat) (xs l : List α), (setJ J xs l).length = l.length
  | [], _, l => by simp [setJ]
  | j :: J, [], l => by simp [setJ]
  | j :: J, x :: xs, l => by simp [setJ, setJ_len J xs]
theorem setJ_not : ∀ (J : List Nat) (xs l : List α) (i : Nat), i ∉ J → (setJ J xs l)[i]? = l[i]?
  | [], _, l, i, _ => by simp [setJ]
  | j :: J, [], l, i, _ => by simp [setJ]
  | j :: J, x :: xs, l, i, h => by
    simp only [setJ]
    rw [setJ_not J xs _ i (fun hm => h (List.mem_cons_of_mem _ hm)), List.getElem?_set_ne (fun e => h (by subst e; exact List.mem_cons_self))]
theorem setJ_at : ∀ (J : List Nat) (xs l : List α) (t j : Nat) (x : α), J.Nodup → J[t]? = some j → xs[t]? = some x → j < l.length → (setJ J xs l)[j]? = some x
  | [], _, l, t, j, x, _, h, _, _ => by simp at h
  | j0 :: J, [], l, t, j, x, _, _, h, _ => by simp at h
  | j0 :: J, x0 :: xs, l, t, j, x, hn, hj, hx, hl => by
    simp only [setJ]
    rw [List.nodup_cons] at hn
    cases t with
    | zero =>
      simp at hj hx; subst hj; subst hx
      rw [setJ_not J xs _ j0 hn.1, List.getElem?_set_self hl]
    | succ t => exact setJ_at J xs _ t j x hn.2 (by simpa using hj) (by simpa using hx) (by simpa using hl)
end

theorem nodup_get {J : List Nat} (h : J.Nodup) {s t j : Nat} (hs : J[s]? = some j) (ht : J[t]? = some j) : s = t := by
  have h1 := lt_of_get hs
  have h2 := lt_of_get ht
  have e1 := (List.getElem?_eq_some_iff.1 hs).2
  have e2 := (List.getElem?_eq_some_iff.1 ht).2
  exact (List.getElem_inj h).1 (e1.trans e2.symm)

section
variable {P : Program} {G : Glob} {k : Nat} {F : Fz} {γ : List OI} {w : World} {as : AS} {a : Act}

/-- what a call leaves to its caller -/
theorem call_step {f : FuncId} {cargs : List AV} {objs : List AObj} {J : List Nat} {Qc : AV → List AObj → Prop} (hac : AC P G f cargs objs Qc) (hJ : J.Nodup) (hlen : objs.length = J.length)
    (hobj : ∀ (t j : Nat) o, J[t]? = some j → objs[t]? = some o → as.hp[j]? = some (renO (jmap J as.hp.length) o))
    (hi : Inv F γ as.hp w) (hs : Slots F γ as.sl a) (hg : GlobOK F G) (hk : k ≤ γ.length) {vs : Array Value} (hv : argsOK F γ (cargs.map (renV (jmap J as.hp.length))) vs) :
    Calls P f vs w fun e w' => ∃ r av objs', e = .returned r ∧ Qc av objs' ∧ ∃ F' γ', Ext k F γ w F' γ' w' ∧
      Inv F' γ' (setJ J (objs'.map (renO (jmap J as.hp.length))) (as.hp.map (killO fun id => J.contains id && !isBoxO (hpGet as.hp id))) ++ (objs'.drop J.length).map (renO (jmap J as.hp.length))) w' ∧
      Slots F' γ' (as.sl.map (killV fun id => J.contains id && !isBoxO (hpGet as.hp id))) a ∧ RV F' γ' (renV (jmap J as.hp.length) av) r ∧ k ≤ γ'.length := by
  generalize hρ : jmap J as.hp.length = ρ at *
  have ρ1 : ∀ (t j : Nat), J[t]? = some j → ρ t = j := fun t j h => by rw [← hρ]; simp [jmap, h]
  have ρ2 : ∀ t, J.length ≤ t → ρ t = as.hp.length + (t - J.length) := fun t h => by rw [← hρ]; simp [jmap, List.getElem?_eq_none h]
  -- every object of the call is one of the caller's
  have hJlt : ∀ (t j : Nat), J[t]? = some j → j < as.hp.length := by
    intro t j h
    have ht : t < objs.length := hlen ▸ lt_of_get h
    exact lt_of_get (hobj t j _ h (List.getElem?_eq_getElem ht))
  let γe : List OI := J.map fun j => γ.getD j .dead
  have ge : ∀ (t j : Nat), J[t]? = some j → γe[t]? = γ[j]? := by
    intro t j h
    have hj : j < γ.length := by rw [hi.len]; exact hJlt t j h
    simp [γe, h, List.getD_eq_getElem?_getD, List.getElem?_eq_getElem hj]
  have geN : ∀ (t : Nat), J.length ≤ t → γe[t]? = none := fun t h => List.getElem?_eq_none (by simpa [γe] using h)
  have hback : ∀ (id : Nat) (o : OI), γ[ρ id]? = some o → γe[id]? = some o := by
    intro id o h
    by_cases hid : id < J.length
    · have hj : J[id]? = some (J[id]'hid) := List.getElem?_eq_getElem hid
      rw [ρ1 _ _ hj] at h
      rw [ge _ _ hj]; exact h
    · rw [ρ2 id (by omega)] at h
      rw [List.getElem?_eq_none (by rw [hi.len]; omega)] at h
      cases h
  have be : ∀ t b, blkAt γe t = some b → ∃ j, J[t]? = some j ∧ blkAt γ j = some b := by
    intro t b h
    obtain ⟨y, hy, hyb⟩ := blkAt_some h
    have ht : t < J.length := by have := lt_of_get hy; simpa [γe] using this
    have hj : J[t]? = some (J[t]'ht) := List.getElem?_eq_getElem ht
    rw [ge _ _ hj] at hy
    exact ⟨_, hj, blkAt_of hy hyb⟩
  have hie : Inv F γe objs w := by
    refine ⟨hi.fz, by simp [γe, hlen], ?_, ?_, ?_⟩
    · intro s t b h1 h2
      obtain ⟨j1, hj1, hb1⟩ := be s b h1
      obtain ⟨j2, hj2, hb2⟩ := be t b h2
      have := hi.nd _ _ _ hb1 hb2
      subst this
      exact nodup_get hJ hj1 hj2
    · intro t b h
      obtain ⟨j, _, hb⟩ := be t b h
      exact hi.disj j b hb
    · intro t o x h1 h2
      have ht : t < J.length := by have := lt_of_get h2; simpa [γe] using this
      have hj : J[t]? = some (J[t]'ht) := List.getElem?_eq_getElem ht
      rw [ge _ _ hj] at h2
      exact (hi.ok _ _ x (hobj t _ o hj h1) h2).unren hback
  have hve : argsOK F γe cargs vs := by
    refine ⟨by simpa using hv.1, fun i av v h1 h2 => ?_⟩
    exact (hv.2 i (renV ρ av) v (by rw [List.getElem?_map, h1]; rfl) h2).unren hback
  refine (hac F γe vs w hie hg hve).mono ?_
  rintro e w' ⟨r, av, objs', F', γ', rfl, hq, hlo, hE, hI, hR⟩
  refine ⟨r, av, objs', rfl, hq, F', setJ J γ' γ ++ γ'.drop J.length, ?_⟩
  have hγl : γ'.length = objs'.length := hI.len
  -- names of the callee's objects behind the call
  have hfwd : ∀ (id : Nat) (o : OI), γ'[id]? = some o → (setJ J γ' γ ++ γ'.drop J.length)[ρ id]? = some o := by
    intro id o h
    by_cases hid : id < J.length
    · have hj : J[id]? = some (J[id]'hid) := List.getElem?_eq_getElem hid
      rw [ρ1 _ _ hj]
      have hjl : J[id]'hid < γ.length := by rw [hi.len]; exact hJlt _ _ hj
      exact get_append_left (setJ_at J γ' γ id _ o hJ hj h hjl)
    · rw [ρ2 id (by omega), List.getElem?_append_right (by rw [setJ_len, hi.len]; omega), setJ_len, hi.len, Nat.add_sub_cancel_left, List.getElem?_drop]
      rw [show J.length + (id - J.length) = id by omega]; exact h
  have hold : ∀ (i : Nat) (o : OI), i ∉ J → γ[i]? = some o → (setJ J γ' γ ++ γ'.drop J.length)[i]? = some o := fun i o hn h => get_append_left (by rw [setJ_not J γ' γ i hn]; exact h)
  have hkeep : ∀ (id : Nat) (o : OI), (J.contains id && !isBoxO (hpGet as.hp id)) = false → γ[id]? = some o → (setJ J γ' γ ++ γ'.drop J.length)[id]? = some o := by
    intro id o hp h
    by_cases hm : id ∈ J
    · simp only [Bool.and_eq_false_iff, List.contains_eq_mem, decide_eq_false_iff_not, Bool.not_eq_false'] at hp
      rcases hp with hp | hp
      · exact absurd hm hp
      · obtain ⟨t, ht⟩ := List.getElem?_of_mem hm
        have hl : id < as.hp.length := by rw [← hi.len]; exact lt_of_get h
        have hgd : as.hp[id]? = some (hpGet as.hp id) := by simp [hpGet, List.getD_eq_getElem?_getD, List.getElem?_eq_getElem hl]
        have hok := hi.ok id _ o hgd h
        cases hob : hpGet as.hp id with
        | box cs =>
          rw [hob] at hok
          cases o with
          | box b =>
            have htl := lt_of_get ht
            have := hE.box t (by omega) b (by rw [ge _ _ ht]; exact h)
            have h2 := hfwd t _ this
            rwa [ρ1 _ _ ht] at h2
          | arr b c => exact hok.elim
          | dead => exact hok.elim
        | arr _ _ _ => rw [hob] at hp; simp [isBoxO] at hp
        | dead => rw [hob] at hp; simp [isBoxO] at hp
    · exact hold id o hm h
  -- the blocks
  have hnew : ∀ i b, blkAt (setJ J γ' γ ++ γ'.drop J.length) i = some b → (i ∉ J ∧ blkAt γ i = some b) ∨ (∃ t, ρ t = i ∧ blkAt γ' t = some b) := by
    intro i b h
    obtain ⟨y, hy, hyb⟩ := blkAt_some h
    by_cases hil : i < γ.length
    · rw [List.getElem?_append_left (by rw [setJ_len]; exact hil)] at hy
      by_cases hm : i ∈ J
      · obtain ⟨t, ht⟩ := List.getElem?_of_mem hm
        have htl := lt_of_get ht
        have htγ : t < γ'.length := by omega
        have h2 := setJ_at J γ' γ t i _ hJ ht (List.getElem?_eq_getElem htγ) hil
        rw [h2] at hy
        injection hy with hy
        subst hy
        exact .inr ⟨t, ρ1 _ _ ht, blkAt_of (List.getElem?_eq_getElem htγ) hyb⟩
      · rw [setJ_not J γ' γ i hm] at hy
        exact .inl ⟨hm, blkAt_of hy hyb⟩
    · rw [List.getElem?_append_right (by rw [setJ_len]; omega), setJ_len, List.getElem?_drop] at hy
      refine .inr ⟨J.length + (i - γ.length), ?_, blkAt_of hy hyb⟩
      rw [ρ2 _ (by omega), ← hi.len]; omega
  have hlt' : ∀ t b, blkAt γ' t = some b → (∃ j, j ∈ J ∧ blkAt γ j = some b) ∨ w.heap.size ≤ b := by
    intro t b h
    rcases hE.blk t b h with ⟨s, hs'⟩ | h
    · obtain ⟨j, hj, hb⟩ := be s b hs'
      exact .inl ⟨j, List.mem_of_getElem? hj, hb⟩
    · exact .inr h
  have hfar : ∀ i b, i ∉ J → blkAt γ i = some b → w'.heap[b]? = w.heap[b]? := by
    intro i b hn hb
    refine hE.far b (hi.lt hb) (fun t ht => ?_)
    obtain ⟨j, hj, hjb⟩ := be t b ht
    exact hn (by rw [hi.nd _ _ _ hb hjb]; exact List.mem_of_getElem? hj)
  have hρinj : ∀ s t b, blkAt γ' s = some b → blkAt γ' t = some b → ρ s = ρ t := fun s t b h1 h2 => by rw [hI.nd _ _ _ h1 h2]
  refine ⟨?_, ?_, hs.kill hE.sub hkeep, hR.ren hfwd, by simp [setJ_len]; omega⟩
  · refine ⟨hE.sub, hE.os, hE.tape, hE.output, hE.size, fun b hb hn => ?_, fun b o h => ?_, fun i b h => ?_, fun i hik b h => ?_⟩
    · exact hE.far b hb (fun t ht => by obtain ⟨j, _, hjb⟩ := be t b ht; exact hn j hjb)
    · rcases hE.new b o h with h | h | ⟨t, ht⟩
      · exact .inl h
      · exact .inr (.inl h)
      · obtain ⟨j, _, hjb⟩ := be t b ht; exact .inr (.inr ⟨j, hjb⟩)
    · rcases hnew i b h with ⟨_, h⟩ | ⟨t, _, h⟩
      · exact .inl ⟨i, h⟩
      · rcases hlt' t b h with ⟨j, _, h⟩ | h
        · exact .inl ⟨j, h⟩
        · exact .inr h
    · have hl : i < as.hp.length := by rw [← hi.len]; exact lt_of_get h
      have hgd : as.hp[i]? = some (hpGet as.hp i) := by simp [hpGet, List.getD_eq_getElem?_getD, List.getElem?_eq_getElem hl]
      have hok := hi.ok i _ _ hgd h
      refine hkeep i _ ?_ h
      cases hob : hpGet as.hp i with
      | box cs => simp [isBoxO]
      | arr _ _ _ => rw [hob] at hok; exact hok.elim
      | dead => rw [hob] at hok; exact hok.elim
  · refine ⟨hI.fz, by simp [setJ_len, hi.len, hγl], ?_, ?_, ?_⟩
    · intro i j b h1 h2
      rcases hnew i b h1 with ⟨a1, a2⟩ | ⟨t, a1, a2⟩ <;> rcases hnew j b h2 with ⟨c1, c2⟩ | ⟨s, c1, c2⟩
      · exact hi.nd _ _ _ a2 c2
      · exfalso
        rcases hlt' s b c2 with ⟨j', hj', hb'⟩ | h
        · exact a1 (by rw [hi.nd _ _ _ a2 hb']; exact hj')
        · have := hi.lt a2; omega
      · exfalso
        rcases hlt' t b a2 with ⟨j', hj', hb'⟩ | h
        · exact c1 (by rw [hi.nd _ _ _ c2 hb']; exact hj')
        · have := hi.lt c2; omega
      · rw [← a1, ← c1]; exact hρinj _ _ _ a2 c2
    · intro i b h
      rcases hnew i b h with ⟨a1, a2⟩ | ⟨t, _, a2⟩
      · cases hF : F' b with
        | none => rfl
        | some o =>
          exfalso
          rcases hE.new b o hF with h | h | ⟨t, ht⟩
          · rw [hi.disj i b a2] at h; cases h
          · have := hi.lt a2; omega
          · obtain ⟨j, hj, hjb⟩ := be t b ht
            exact a1 (by rw [hi.nd _ _ _ a2 hjb]; exact List.mem_of_getElem? hj)
      · exact hI.disj t b a2
    · intro i o x h1 h2
      by_cases hil : i < γ.length
      · rw [List.getElem?_append_left (by rw [setJ_len]; exact hil)] at h2
        rw [List.getElem?_append_left (by rw [setJ_len, List.length_map, ← hi.len]; exact hil)] at h1
        by_cases hm : i ∈ J
        · obtain ⟨t, ht⟩ := List.getElem?_of_mem hm
          have htl := lt_of_get ht
          have htγ : t < γ'.length := by omega
          have hto : t < objs'.length := by omega
          rw [setJ_at J γ' γ t i _ hJ ht (List.getElem?_eq_getElem htγ) hil] at h2
          rw [setJ_at J _ _ t i (renO ρ (objs'[t]'hto)) hJ ht (by rw [List.getElem?_map, List.getElem?_eq_getElem hto]; rfl) (by rw [List.length_map, ← hi.len]; exact hil)] at h1
          injection h1 with h1; injection h2 with h2; subst h1; subst h2
          exact (hI.ok t _ _ (List.getElem?_eq_getElem hto) (List.getElem?_eq_getElem htγ)).ren hfwd
        · rw [setJ_not J _ _ i hm] at h1 h2
          rw [List.getElem?_map] at h1
          cases ho : as.hp[i]? with
          | none => simp [ho] at h1
          | some o0 =>
            simp only [ho, Option.map_some, Option.some.injEq] at h1; subst h1
            exact (hi.ok i o0 x ho h2).kill hE.sub hkeep (fun b hb => hfar i b hm (blkAt_of h2 hb))
      · rw [List.getElem?_append_right (by rw [setJ_len]; omega), setJ_len, List.getElem?_drop] at h2
        rw [List.getElem?_append_right (by rw [setJ_len, List.length_map, ← hi.len]; omega), setJ_len, List.length_map, ← hi.len, List.getElem?_map, List.getElem?_drop] at h1
        cases ho : objs'[J.length + (i - γ.length)]? with
        | none => simp [ho] at h1
        | some o0 =>
          simp [ho] at h1; subst h1
          exact (hI.ok _ o0 x ho h2).ren hfwd

end
end Go.Proofs.Ytginjcpblgpcoaa
