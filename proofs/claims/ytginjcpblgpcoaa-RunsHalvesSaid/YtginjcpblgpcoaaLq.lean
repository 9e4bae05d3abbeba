/- An array of one's own becomes data. Conditions: none. -/
import Derived.Test.YtginjcpblgpcoaaLp
namespace Go.Proofs.Ytginjcpblgpcoaa
section
variable {k : Nat} {as : AS} {F : Fz} {γ : List OI} {w : World}

/-- the frozen memory with one block more -/
def Fz.add (F : Fz) (w : World) (b : Nat) : Fz := fun b' => if b' = b then w.heap[b]? else F b'

theorem frz_ok {F' : Fz} {γ' : List OI} {id cap size : Nat} {es : List (List DC)} (hi : Inv F γ as.hp w) (hb : hpGet as.hp id = .arr cap size es) (hs : F.sub F') (hg : ∀ (i : Nat) (o : OI), (i == id) = false → γ[i]? = some o → γ'[i]? = some o)
    (hF : ∀ b c, γ[id]? = some (.arr (some b) c) → F' b = w.heap[b]?) {c : Cel} {v : Value} (h : RC F γ c v) : RC F' γ' (killC (· == id) (frzC id es c)) v := by
  by_cases hc : ∃ n, c = .bld id n ∧ n ≤ es.length
  · obtain ⟨n, rfl, hn⟩ := hc
    have e1 : frzC id es (.bld id n) = .dc (.slc (es.take n)) := by simp [frzC, hn]
    rw [e1]
    have e2 : killC (· == id) (.dc (.slc (es.take n))) = .dc (.slc (es.take n)) := by simp [killC, Cel.keep]
    rw [e2]
    refine .dc _ _ ?_
    cases h with
    | bldN _ c hgm => simp; exact .nil _ _
    | bld _ _ b c hgm =>
      obtain ⟨hcc, hec, hes, vs, T, hh, hvs, hr⟩ := hi.arr hb hgm
      have hlen : (es.take n).length = n := by simp; omega
      have hget : ∀ (i : Nat) e, (es.take n)[i]? = some e → es[i]? = some e := by
        intro i e h
        rw [List.getElem?_take] at h
        split at h
        · exact h
        · cases h
      have key : ∀ (i j : Nat) e d, es[i]? = some e → e[j]? = some d → ∃ u, vs[i * size + j]? = some u := by
        intro i j e d h1 h2
        have hj : j < size := by have := lt_of_get h2; have := hes _ (List.mem_of_getElem? h1); omega
        have := mul_lt_cap (lt_of_get h1) hec hj
        exact ⟨_, Array.getElem?_eq_getElem (by omega)⟩
      have := RD.slc (F := F') b 0 c size (es.take n) (fun i j => vs.toList.getD (i * size + j) undef) (fun e he => hes e (List.mem_of_mem_take he)) (fun i j e d h1 h2 => by
          obtain ⟨u, hu⟩ := key i j e d (hget i e h1) h2
          simp only [List.getD_eq_getElem?_getD, Array.getElem?_toList, hu, Option.getD_some]
          exact (hr i j e d u (hget i e h1) h2 hu).mono hs) (fun i j e d h1 h2 => by
          obtain ⟨u, hu⟩ := key i j e d (hget i e h1) h2
          simp only [List.getD_eq_getElem?_getD, Array.getElem?_toList, hu, Option.getD_some, Fz.cell?, Nat.zero_add]
          rw [hF b c hgm, hh]
          simpa using hu) (by rw [hlen]; omega)
      rwa [hlen] at this
  · have e1 : frzC id es c = c := by
      cases c <;> try rfl
      rename_i j n
      simp only [frzC]
      split
      · rename_i hcond
        obtain ⟨rfl, hn⟩ := hcond
        exact absurd ⟨n, rfl, hn⟩ hc
      · rfl
    rw [e1]
    exact h.kill hs hg

theorem Gh.freeze {id cap size : Nat} {es : List (List DC)} (hb : hpGet as.hp id = .arr cap size es) :
    Gh k as ⟨as.sl.map fun v => killV (· == id) (frzV id es v), (as.hp.map fun o => killO (· == id) (frzO id es o)).set id .dead⟩ := by
  intro F γ a w hi hs hk
  have hho := hpGet_some hb (by simp)
  have hlt : id < γ.length := by rw [hi.len]; exact lt_of_get hho
  have hx : γ[id]? = some (γ[id]'hlt) := List.getElem?_eq_getElem hlt
  generalize hxe : γ[id]'hlt = x at hx
  have hok := hi.ok id _ _ hho hx
  let F' : Fz := match x.blk with | some b => F.add w b | none => F
  have hFb : ∀ b, x.blk = some b → F' b = w.heap[b]? := by intro b hb'; simp [F', hb', Fz.add]
  have hFo : ∀ b', x.blk ≠ some b' → F' b' = F b' := by
    intro b' hne
    cases hxb : x.blk with
    | none => simp [F', hxb]
    | some b => simp only [F', hxb, Fz.add]; rw [if_neg (fun e => hne (by rw [hxb, e]))]
  have hsub : F.sub F' := by
    intro b o h
    rw [hFo b (fun e => by rw [hi.disj id b (blkAt_of hx e)] at h; cases h)]; exact h
  have hg : ∀ (i : Nat) (o : OI), (i == id) = false → γ[i]? = some o → (γ.set id .dead)[i]? = some o := fun i o h1 h2 => get_set_other h2 h1
  have hF2 : ∀ b c, γ[id]? = some (.arr (some b) c) → F' b = w.heap[b]? := fun b c h => hFb b (by rw [hx] at h; injection h with h; rw [h]; rfl)
  have hb : ∀ i b, blkAt (γ.set id .dead) i = some b → i ≠ id ∧ blkAt γ i = some b := by
    intro i b h
    obtain ⟨y, hy, hyb⟩ := blkAt_some h
    by_cases hii : id = i
    · subst hii
      rw [List.getElem?_set_self hlt] at hy
      injection hy with hy; subst hy
      simp [OI.blk] at hyb
    · rw [List.getElem?_set_ne hii] at hy
      exact ⟨Ne.symm hii, blkAt_of hy hyb⟩
  have frz := fun {c : Cel} {v : Value} (h : RC F γ c v) => frz_ok (F' := F') (γ' := γ.set id .dead) hi ‹hpGet as.hp id = _› hsub hg hF2 h
  have frzs : ∀ {cs : List Cel} {vs : Array Value}, (∀ (i : Nat) c v, cs[i]? = some c → vs[i]? = some v → RC F γ c v) → ∀ (i : Nat) c v, ((cs.map (frzC id es)).map (killC (· == id)))[i]? = some c → vs[i]? = some v → RC F' (γ.set id .dead) c v := by
    intro cs vs h i c v hc hv
    rw [List.map_map, List.getElem?_map] at hc
    cases hci : cs[i]? with
    | none => simp [hci] at hc
    | some c0 =>
      simp only [hci, Option.map_some, Option.some.injEq, Function.comp] at hc; subst hc
      exact frz (h i c0 v hci hv)
  refine ⟨F', γ.set id .dead, ⟨hsub, rfl, rfl, rfl, Nat.le_refl _, fun _ _ _ => rfl, fun b o h => ?_, fun i b h => .inl ⟨i, (hb i b h).2⟩, fun i _ b h => ?_⟩,
    ⟨fun b o h => ?_, by simp [hi.len], fun i j b h1 h2 => hi.nd i j b (hb i b h1).2 (hb j b h2).2, fun i b h => ?_, fun i o y h1 h2 => ?_⟩, ?_, by simpa using hk⟩
  · by_cases hxb : x.blk = some b
    · exact .inr (.inr ⟨id, blkAt_of hx hxb⟩)
    · rw [hFo b hxb] at h; exact .inl h
  · by_cases hii : id = i
    · subst hii
      rw [hx] at h
      injection h with h
      subst h
      exact hok.elim
    · rw [List.getElem?_set_ne hii]; exact h
  · by_cases hxb : x.blk = some b
    · rw [hFb b hxb] at h; exact h
    · rw [hFo b hxb] at h; exact hi.fz b o h
  · obtain ⟨hne, hbb⟩ := hb i b h
    rw [hFo b (fun e => hne (hi.nd _ _ _ hbb (blkAt_of hx e)))]
    exact hi.disj i b hbb
  · by_cases hii : id = i
    · subst hii
      rw [List.getElem?_set_self hlt] at h2
      rw [List.getElem?_set_self (by rw [List.length_map, ← hi.len]; exact hlt)] at h1
      injection h1 with h1; injection h2 with h2; subst h1; subst h2
      trivial
    · rw [List.getElem?_set_ne hii] at h1 h2
      rw [List.getElem?_map] at h1
      cases ho : as.hp[i]? with
      | none => simp [ho] at h1
      | some o0 =>
        simp only [ho, Option.map_some, Option.some.injEq] at h1; subst h1
        have h3 := hi.ok i o0 y ho h2
        cases o0 with
        | box cs =>
          cases y with
          | box b =>
            obtain ⟨vs, T, g1, g2, g3⟩ := h3
            exact ⟨vs, T, g1, by simpa [frzO] using g2, frzs g3⟩
          | arr _ _ => exact h3.elim
          | dead => exact h3.elim
        | arr c2 s2 es2 =>
          have := h3.kill (p := (· == id)) (F' := F') (γ' := γ.set id .dead) (w' := w) hsub hg (fun _ _ => rfl)
          exact this
        | dead =>
          have := h3.kill (p := (· == id)) (F' := F') (γ' := γ.set id .dead) (w' := w) hsub hg (fun _ _ => rfl)
          exact this
  · refine ⟨hs.1, by simpa using hs.2.1, fun i av v h1 h2 => ?_⟩
    rw [List.getElem?_map] at h1
    cases hsi : as.sl[i]? with
    | none => simp [hsi] at h1
    | some av0 =>
      simp only [hsi, Option.map_some, Option.some.injEq] at h1; subst h1
      have h3 := hs.2.2 i av0 v hsi h2
      cases h3 with
      | one c v h => exact .one _ _ (frz h)
      | agg cs vs hsz h => exact .agg _ _ (by simpa [frzV] using hsz) (frzs h)
      | tup l vs hsz h =>
        refine .tup _ _ (by simpa [frzV] using hsz) (fun i t v h1 h2 => ?_)
        rw [List.map_map, List.getElem?_map] at h1
        obtain ⟨t0, h4, rfl⟩ := Option.map_eq_some_iff.1 h1
        cases h i t0 v h4 h2 with
        | one c v h => exact .one _ _ (frz h)
        | agg cs vs hsz h => exact .agg _ _ (by simpa [frzT] using hsz) (frzs h)
      | junk v => exact .junk v
end
end Go.Proofs.Ytginjcpblgpcoaa
