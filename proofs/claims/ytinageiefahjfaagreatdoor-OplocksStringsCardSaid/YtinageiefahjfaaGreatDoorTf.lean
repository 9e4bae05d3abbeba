/- slices.Insert and slices.Delete of one element as contracts over arrays of one's own. Conditions: none. -/
import Derived.Test.YtinageiefahjfaaGreatDoorTe
import Derived.Test.YtinageiefahjfaaGreatDoorNg
namespace Go.Proofs.YtinageiefahjfaaGreatDoor
section
variable {F : Fz} {γ : List OI} {w w' : World}
theorem setCells_at {b : Nat} {T : TypeId} : ∀ (vs : List Value) (o : Nat) (w : World) (ws : Array Value), w.heap[b]? = some (.cells ws T (0, 0)) →
    ∃ ws', (w.setCells b o vs).heap[b]? = some (.cells ws' T (0, 0)) ∧ ws'.size = ws.size ∧ (∀ n, ws'[n]? = if o ≤ n ∧ n < o + vs.length ∧ n < ws.size then vs[n - o]? else ws[n]?) ∧
      (∀ b', b' ≠ b → (w.setCells b o vs).heap[b']? = w.heap[b']?) ∧ (w.setCells b o vs).os = w.os ∧ (w.setCells b o vs).tape = w.tape ∧ (w.setCells b o vs).output = w.output ∧ (w.setCells b o vs).heap.size = w.heap.size
  | [], o, w, ws, h => ⟨ws, h, rfl, fun n => by rw [if_neg (by simp; omega)], fun _ _ => rfl, rfl, rfl, rfl, rfl⟩
  | v :: vs, o, w, ws, h => by
    have h1 : w.setCell ⟨b, o, none⟩ v = setB w b (ws.setIfInBounds o v) T := setCell_setB h
    have hb := heap_lt h
    have h2 : (setB w b (ws.setIfInBounds o v) T).heap[b]? = some (.cells (ws.setIfInBounds o v) T (0, 0)) := setB_same hb
    obtain ⟨ws', g1, g2, g3, g4, g5, g6, g7, g8⟩ := setCells_at vs (o + 1) _ _ h2
    have e : w.setCells b o (v :: vs) = (setB w b (ws.setIfInBounds o v) T).setCells b (o + 1) vs := by rw [World.setCells, h1]
    rw [e]
    refine ⟨ws', g1, by rw [g2]; simp, fun n => ?_, fun b' hb' => (g4 b' hb').trans (setB_far hb'), g5.trans rfl, g6.trans rfl, g7.trans rfl, g8.trans (by simp [setB])⟩
    rw [g3 n]
    simp only [Array.size_setIfInBounds, List.length_cons]
    by_cases hn : n = o
    · subst hn
      rw [if_neg (by omega)]
      by_cases hs : n < ws.size
      · rw [if_pos ⟨Nat.le_refl _, by omega, hs⟩]
        simp [hs]
      · rw [if_neg (by omega)]
        simp [hs]
    · have hne : (ws.setIfInBounds o v)[n]? = ws[n]? := by rw [Array.getElem?_setIfInBounds_ne (Ne.symm hn)]
      rw [hne]
      by_cases hc : o + 1 ≤ n ∧ n < o + 1 + vs.length ∧ n < ws.size
      · rw [if_pos hc, if_pos ⟨by omega, by omega, hc.2.2⟩]
        have : n - o = (n - (o + 1)) + 1 := by omega
        rw [this, List.getElem?_cons_succ]
      · rw [if_neg hc, if_neg (by omega)]
theorem arr_post {A : Option Nat} {c cap sz b' c' : Nat} {es es' : List (List DC)} {ws' : Array Value} {T : TypeId} (hi : Inv F [OI.arr A c] [.arr cap sz es] w) (hblk : A = some b' ∨ b' = w.heap.size)
    (hfar : ∀ b, b < w.heap.size → A ≠ some b → w'.heap[b]? = w.heap[b]?) (h1 : w'.os = w.os) (h2 : w'.tape = w.tape) (h3 : w'.output = w.output) (h4 : w.heap.size ≤ w'.heap.size)
    (hh : w'.heap[b']? = some (.cells ws' T (0, 0))) (hws : ws'.size = c' * sz) (hle : es'.length ≤ c') (hsz : ∀ e ∈ es', e.length = sz)
    (hr : ∀ (i j : Nat) e d v, es'[i]? = some e → e[j]? = some d → ws'[i * sz + j]? = some v → RD F d v) :
    Ext 1 F [OI.arr A c] w F [OI.arr (some b') c'] w' ∧ Inv F [OI.arr (some b') c'] [.arr c' sz es'] w' := by
  have hx : [OI.arr A c][0]? = some (OI.arr A c) := rfl
  have hb : ∀ b, (OI.arr (some b') c').blk = some b → (OI.arr A c).blk = some b ∨ b = w.heap.size := by
    intro b h
    simp only [OI.blk, Option.some.injEq] at h
    subst h
    rcases hblk with h | h
    · exact .inl h
    · exact .inr h
  have hf : ∀ b, b < w.heap.size → (OI.arr A c).blk ≠ some b → w'.heap[b]? = w.heap[b]? := fun b hb hne => hfar b hb hne
  exact ⟨Ext.setArr (k := 1) hi hx (by simp) hb hf h1 h2 h3 h4, Inv.setArr hi hx hb hf ⟨rfl, hle, hsz, ws', T, hh, hws, hr⟩⟩
theorem one_slc {d : List DC} {v : Value} {sz : Nat} (h : RD F (.slc [d]) v) (hd : d.length = sz) (hF : ∀ b o, F b = some o → w.heap[b]? = some o) (hs : 0 < sz) :
    ∃ b off c, v = .slice (some ⟨b, off, none⟩) 1 c ∧ ∃ vs : List Value, vs.length = sz ∧ (∀ (j : Nat) u, vs[j]? = some u → w.cell? ⟨b, off + j, none⟩ = some u) ∧ (∀ (j : Nat) e u, d[j]? = some e → vs[j]? = some u → RD F e u) ∧ (∃ o, F b = some o) ∧ (∃ T k, w.shape? b = some (T, k) ∧ k ≠ 0) := by
  cases h with
  | slc b off c size es g hsz hr hc hcap =>
    have hsize : d.length = size := hsz d (by simp)
    refine ⟨b, off, c, rfl, (List.range sz).map (g 0), by simp, fun j u hj => ?_, fun j e u he hu => ?_, ?_, ?_⟩
    · have hlt := lt_of_get hj
      simp only [List.length_map, List.length_range] at hlt
      rw [List.getElem?_map, List.getElem?_range hlt] at hj
      simp only [Option.map_some, Option.some.injEq] at hj
      subst hj
      have := hc 0 j d (d[j]'(by omega)) rfl (List.getElem?_eq_getElem (by omega))
      rw [Nat.zero_mul, Nat.zero_add] at this
      exact Fz.cell_world hF this
    · have hlt := lt_of_get he
      rw [List.getElem?_map, List.getElem?_range (by omega)] at hu
      simp only [Option.map_some, Option.some.injEq] at hu
      subst hu
      exact hr 0 j d e rfl he
    · have := hc 0 0 d (d[0]'(by omega)) rfl (List.getElem?_eq_getElem (by omega))
      unfold Fz.cell? at this
      simp only at this
      cases hb : F b with
      | none => rw [hb] at this; cases this
      | some o => exact ⟨o, rfl⟩
    · have h0 := hc 0 0 d (d[0]'(by omega)) rfl (List.getElem?_eq_getElem (by omega))
      have h1 := Fz.cell_world hF h0
      unfold World.cell? at h1
      split at h1
      · rename_i cs T fr hb
        simp only at hb
        refine ⟨T, cs.size, by simp [World.shape?, hb], fun e => ?_⟩
        simp only [Option.isSome_none, Bool.false_eq_true, if_false] at h1
        have := (Array.getElem?_eq_some_iff.1 h1).1
        omega
      · cases h1
end
end Go.Proofs.YtinageiefahjfaaGreatDoor
