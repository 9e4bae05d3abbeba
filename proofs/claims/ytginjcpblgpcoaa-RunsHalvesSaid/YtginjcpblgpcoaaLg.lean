/- How the abstract heap follows the world: new blocks, stores, what is frozen, what is forgotten. Conditions: none. -/
import Derived.Test.YtginjcpblgpcoaaLf
namespace Go.Proofs.Ytginjcpblgpcoaa
set_option linter.unusedSimpArgs false
set_option linter.unusedVariables false
section
variable {P : Program} {F F' : Fz} {γ γ' : List OI} {w w' : World} {hp : List AObj} {p : Nat → Bool}

theorem OK.kill {o : AObj} {x : OI} (h : OK F γ w o x) (hs : F.sub F') (hg : ∀ (id : Nat) (o : OI), p id = false → γ[id]? = some o → γ'[id]? = some o)
    (hb : ∀ b, x.blk = some b → w'.heap[b]? = w.heap[b]?) : OK F' γ' w' (killO p o) x := by
  cases o with
  | box cs =>
    cases x with
    | box b =>
      obtain ⟨vs, T, h1, h2, h3⟩ := h
      exact ⟨vs, T, (hb b rfl).trans h1, by simpa using h2, RCs.kill hs hg h3⟩
    | arr b c => exact h.elim
    | dead => exact h.elim
  | arr cap size es =>
    cases x with
    | box b => exact h.elim
    | arr b c =>
      cases b with
      | none => exact h
      | some b =>
        obtain ⟨h1, h2, h3, vs, T, h4, h5, h6⟩ := h
        exact ⟨h1, h2, h3, vs, T, (hb b rfl).trans h4, h5, fun i j e d v a1 a2 a3 => (h6 i j e d v a1 a2 a3).mono hs⟩
    | dead => exact h.elim
  | dead =>
    cases x with
    | dead => trivial
    | box b => exact h.elim
    | arr b c => exact h.elim

theorem OK.ext {o : AObj} {x : OI} (h : OK F γ w o x) (hs : F.sub F') (hg : ∀ (id : Nat) (o : OI), γ[id]? = some o → γ'[id]? = some o)
    (hb : ∀ b, x.blk = some b → w'.heap[b]? = w.heap[b]?) : OK F' γ' w' o x := by
  cases o with
  | box cs =>
    cases x with
    | box b =>
      obtain ⟨vs, T, h1, h2, h3⟩ := h
      exact ⟨vs, T, (hb b rfl).trans h1, h2, fun i c v a b => (h3 i c v a b).ext hs hg⟩
    | arr b c => exact h.elim
    | dead => exact h.elim
  | arr cap size es =>
    cases x with
    | box b => exact h.elim
    | arr b c =>
      cases b with
      | none => exact h
      | some b =>
        obtain ⟨h1, h2, h3, vs, T, h4, h5, h6⟩ := h
        exact ⟨h1, h2, h3, vs, T, (hb b rfl).trans h4, h5, fun i j e d v a1 a2 a3 => (h6 i j e d v a1 a2 a3).mono hs⟩
    | dead => exact h.elim
  | dead =>
    cases x with
    | dead => trivial
    | box b => exact h.elim
    | arr b c => exact h.elim

theorem heap_lt {b : Nat} {o : Obj} (h : w.heap[b]? = some o) : b < w.heap.size := (Array.getElem?_eq_some_iff.1 h).1

theorem OK.lt {o : AObj} {x : OI} (h : OK F γ w o x) {b : Nat} (hb : x.blk = some b) : b < w.heap.size := by
  cases x with
  | dead => simp [OI.blk] at hb
  | box b' =>
    simp [OI.blk] at hb; subst hb
    cases o with
    | box cs => obtain ⟨vs, T, h1, _⟩ := h; exact heap_lt h1
    | arr _ _ _ => exact h.elim
    | dead => exact h.elim
  | arr b' c =>
    simp [OI.blk] at hb; subst hb
    cases o with
    | arr cap size es => obtain ⟨_, _, _, vs, T, h1, _⟩ := h; exact heap_lt h1
    | box _ => exact h.elim
    | dead => exact h.elim

theorem blkAt_some {i b : Nat} (h : blkAt γ i = some b) : ∃ x, γ[i]? = some x ∧ x.blk = some b := by
  unfold blkAt at h
  cases hx : γ[i]? with
  | none => simp [hx] at h
  | some x => simp [hx] at h; exact ⟨x, rfl, h⟩

theorem blkAt_of {i b : Nat} {x : OI} (h : γ[i]? = some x) (hb : x.blk = some b) : blkAt γ i = some b := by simp [blkAt, h, hb]

theorem Inv.lt (hi : Inv F γ hp w) {i b : Nat} (hb : blkAt γ i = some b) : b < w.heap.size := by
  obtain ⟨x, hx, hxb⟩ := blkAt_some hb
  have hlt : i < hp.length := by rw [← hi.len]; exact lt_of_get hx
  exact (hi.ok i _ x (List.getElem?_eq_getElem hlt) hx).lt hxb

theorem Inv.fzlt (hi : Inv F γ hp w) {b : Nat} {o : Obj} (h : F b = some o) : b < w.heap.size := heap_lt (hi.fz b o h)

theorem Inv.drawn (hi : Inv F γ hp w) (n : Nat) : Inv F γ hp { w with drawn := n } :=
  ⟨hi.fz, hi.len, hi.nd, hi.disj, fun i o x h1 h2 => (hi.ok i o x h1 h2).ext (fun _ _ h => h) (fun _ _ h => h) (fun _ _ => rfl)⟩

theorem Ext.drawn (k : Nat) (F : Fz) (γ : List OI) (w : World) (n : Nat) : Ext k F γ w F γ { w with drawn := n } :=
  ⟨fun _ _ h => h, rfl, rfl, rfl, Nat.le_refl _, fun _ _ _ => rfl, fun _ _ h => .inl h, fun i _ h => .inl ⟨i, h⟩, fun _ _ _ h => h⟩

def pushW (w : World) (o : Obj) : World := { w with heap := w.heap.push o }

theorem push_old {o : Obj} {b : Nat} (h : b < w.heap.size) : (pushW w o).heap[b]? = w.heap[b]? := by
  show (w.heap.push o)[b]? = _
  rw [Array.getElem?_push, if_neg (Nat.ne_of_lt h)]
theorem push_new {o : Obj} : (pushW w o).heap[w.heap.size]? = some o := by
  show (w.heap.push o)[w.heap.size]? = _
  rw [Array.getElem?_push, if_pos rfl]

theorem get_append_left {α : Type} {l r : List α} {i : Nat} {x : α} (h : l[i]? = some x) : (l ++ r)[i]? = some x := by
  rw [List.getElem?_append_left (lt_of_get h)]; exact h

theorem append_one {α : Type} {l : List α} {y x : α} {i : Nat} (h : (l ++ [y])[i]? = some x) : l[i]? = some x ∨ (i = l.length ∧ x = y) := by
  rcases Nat.lt_trichotomy i l.length with h1 | h1 | h1
  · rw [List.getElem?_append_left h1] at h; exact .inl h
  · subst h1; simp at h; exact .inr ⟨rfl, h.symm⟩
  · rw [List.getElem?_eq_none (by simp; omega)] at h; cases h

theorem Inv.push (hi : Inv F γ hp w) (ob : Obj) (o : AObj) (x : OI) (hx : ∀ b, x.blk = some b → b = w.heap.size) (hok : OK F (γ ++ [x]) (pushW w ob) o x) :
    Inv F (γ ++ [x]) (hp ++ [o]) (pushW w ob) := by
  have hb : ∀ i b, blkAt (γ ++ [x]) i = some b → blkAt γ i = some b ∨ (i = γ.length ∧ b = w.heap.size) := by
    intro i b h
    obtain ⟨y, hy, hyb⟩ := blkAt_some h
    rcases append_one hy with h1 | ⟨h1, rfl⟩
    · exact .inl (blkAt_of h1 hyb)
    · exact .inr ⟨h1, hx b hyb⟩
  refine ⟨fun b o' h => by rw [push_old (hi.fzlt h)]; exact hi.fz b o' h, by simp [hi.len], ?_, ?_, ?_⟩
  · intro i j b h1 h2
    rcases hb i b h1 with h1 | ⟨h1, h1'⟩ <;> rcases hb j b h2 with h2 | ⟨h2, h2'⟩
    · exact hi.nd i j b h1 h2
    · have := hi.lt h1; omega
    · have := hi.lt h2; omega
    · omega
  · intro i b h
    rcases hb i b h with h | ⟨_, h⟩
    · exact hi.disj i b h
    · cases hF : F b with
      | none => rfl
      | some o' => have := hi.fzlt hF; omega
  · intro i o' y h1 h2
    rcases append_one h2 with h3 | ⟨h3, rfl⟩
    · have hlt : i < hp.length := by rw [← hi.len]; exact lt_of_get h3
      rw [List.getElem?_append_left hlt] at h1
      refine (hi.ok i o' y h1 h3).ext (fun _ _ h => h) (fun _ _ h => get_append_left h) (fun b hyb => ?_)
      exact push_old ((hi.ok i o' y h1 h3).lt hyb)
    · rw [h3, hi.len] at h1
      simp at h1
      subst h1
      exact hok

theorem Ext.push {k : Nat} (hi : Inv F γ hp w) (ob : Obj) (x : OI) (hx : ∀ b, x.blk = some b → b = w.heap.size) : Ext k F γ w F (γ ++ [x]) (pushW w ob) := by
  refine ⟨fun _ _ h => h, rfl, rfl, rfl, by simp [pushW], fun b hb _ => push_old hb, fun _ _ h => .inl h, fun i b h => ?_, fun i _ b h => get_append_left h⟩
  obtain ⟨y, hy, hyb⟩ := blkAt_some h
  rcases append_one hy with h1 | ⟨h1, rfl⟩
  · exact .inl ⟨i, blkAt_of h1 hyb⟩
  · exact .inr (by rw [hx b hyb]; exact Nat.le_refl _)

/-- a block's cells put anew -/
def setB (w : World) (b : Nat) (vs : Array Value) (T : TypeId) : World := { w with heap := w.heap.setIfInBounds b (.cells vs T (0, 0)) }

theorem setB_same {b : Nat} {vs : Array Value} {T : TypeId} (h : b < w.heap.size) : (setB w b vs T).heap[b]? = some (.cells vs T (0, 0)) := by
  simp [setB, Array.getElem?_setIfInBounds, h]
theorem setB_far {b b' : Nat} {vs : Array Value} {T : TypeId} (h : b' ≠ b) : (setB w b vs T).heap[b']? = w.heap[b']? := by
  simp [setB, Array.getElem?_setIfInBounds, Ne.symm h]

theorem setB_setB {b : Nat} {vs vs' : Array Value} {T T' : TypeId} : setB (setB w b vs T) b vs' T' = setB w b vs' T' := by
  simp only [setB]
  congr 1
  apply Array.ext_getElem?
  intro i
  simp only [Array.getElem?_setIfInBounds, Array.size_setIfInBounds]
  split <;> simp_all

theorem setCell_setB {b j : Nat} {vs : Array Value} {T : TypeId} {v : Value} (h : w.heap[b]? = some (.cells vs T (0, 0))) : w.setCell ⟨b, j, none⟩ v = setB w b (vs.setIfInBounds j v) T := by
  simp only [World.setCell, setB]
  congr 1
  apply Array.ext_getElem?
  intro i
  rw [Array.getElem?_modify, Array.getElem?_setIfInBounds]
  by_cases hi : b = i
  · subst hi
    rw [if_pos rfl, if_pos rfl, if_pos (heap_lt h), h]
    rfl
  · simp [hi]

/-- cells put one after the other -/
def splice (vs : Array Value) (k : Nat) (l : List Value) (i : Nat := 0) : Array Value := (l.zipIdx i).foldl (fun cs (c, j) => cs.setIfInBounds (k + j) c) vs

theorem splice_size (l : List Value) : ∀ (vs : Array Value) (k i : Nat), (splice vs k l i).size = vs.size := by
  induction l with
  | nil => intro vs k i; rfl
  | cons x l ih => intro vs k i; simp only [splice, List.zipIdx_cons, List.foldl_cons]; exact (ih _ k (i + 1)).trans (by simp)

theorem run_storeCells_blk {b off : Nat} {T : TypeId} : ∀ (l : List Value) (i : Nat) (w : World) (vs : Array Value), w.heap[b]? = some (.cells vs T (0, 0)) → (∀ v ∈ l, is1 v = true) → off + i + l.length ≤ vs.size →
    (storeCells ⟨b, off, none⟩ l i).run P w = .ok () (if l = [] then w else setB w b (splice vs off l i) T)
  | [], i, w, vs, h, h1, hl => rfl
  | v :: l, i, w, vs, h, h1, hl => by
    have hv := h1 v (List.mem_cons_self)
    simp only [List.length_cons] at hl
    have hst : (store (⟨b, off + i, none⟩ : Addr) v).run P w = .ok () (setB w b (vs.setIfInBounds (off + i) v) T) := by
      have hc : w.cell? ⟨b, off + i, none⟩ = some (vs[off + i]'(by omega)) := by
        rw [cell_heap h]; exact Array.getElem?_eq_getElem (by omega)
      have hf : w.frozen? ⟨b, off + i, none⟩ = false := by simp [World.frozen?, h]
      rw [← setCell_setB h]
      cases v <;> first | (simp [is1] at hv; done) | (unfold store; simp only [Sem.run, hc, hf]; rfl)
    have ih := run_storeCells_blk (off := off) l (i + 1) (setB w b (vs.setIfInBounds (off + i) v) T) (vs.setIfInBounds (off + i) v) (setB_same (heap_lt h)) (fun x hx => h1 x (List.mem_cons_of_mem _ hx)) (by simp; omega)
    simp only [storeCells, Sem.run_bind, addr_add, hst, Result.andThen_ok, ih]
    simp only [reduceCtorEq, if_false]
    congr 1
    split
    · rename_i hl0; subst hl0; rfl
    · rw [setB_setB]; rfl

theorem run_storeVar_blk {b off : Nat} {T t : TypeId} {x : Value} {vs : Array Value} (h : w.heap[b]? = some (.cells vs T (0, 0))) (hs : sizeP P t = some x.cells.size) (h1 : ∀ v ∈ x.cells.toList, is1 v = true)
    (hl : off + x.cells.size ≤ vs.size) : (Instr.storeAt t (.pointer (some ⟨b, off, none⟩)) x).run P w = .ok () (if x.cells.toList = [] then w else setB w b (splice vs off x.cells.toList) T) := by
  unfold sizeP at hs
  cases hin : P.info? t with
  | none => simp [hin] at hs
  | some inf =>
    simp only [hin, Option.map_some, Option.some.injEq] at hs
    have := run_storeCells_blk (P := P) (b := b) (off := off) x.cells.toList 0 w vs h h1 (by simpa using hl)
    simp [Instr.storeAt, Instr.sureAddr, storeVar, sizeOf, typeInfo, hin, hs, this]

/-- an object of the heap turned into another over the same block -/
theorem Inv.setObj (hi : Inv F γ hp w) {id b : Nat} {x : OI} {o' : AObj} {vs : Array Value} {T : TypeId} (hx : γ[id]? = some x) (hb : x.blk = some b) (hok : OK F γ (setB w b vs T) o' x) :
    Inv F γ (hp.set id o') (setB w b vs T) := by
  refine ⟨fun b' o h => ?_, by simp [hi.len], hi.nd, hi.disj, fun i o y h1 h2 => ?_⟩
  · have hne : b' ≠ b := fun e => by subst e; rw [hi.disj id _ (blkAt_of hx hb)] at h; cases h
    rw [setB_far hne]; exact hi.fz b' o h
  · by_cases hii : i = id
    · subst hii
      rw [hx] at h2; injection h2 with h2; subst h2
      rw [List.getElem?_set_self (by rw [← hi.len]; exact lt_of_get hx)] at h1
      injection h1 with h1; subst h1
      exact hok
    · rw [List.getElem?_set_ne (Ne.symm hii)] at h1
      refine (hi.ok i o y h1 h2).ext (fun _ _ h => h) (fun _ _ h => h) (fun b' hb' => ?_)
      exact setB_far (fun e => hii (by subst e; exact hi.nd _ _ _ (blkAt_of h2 hb') (blkAt_of hx hb)))

theorem Ext.setB {k : Nat} (hi : Inv F γ hp w) {id b : Nat} {x : OI} {vs : Array Value} {T : TypeId} (hx : γ[id]? = some x) (hb : x.blk = some b) : Ext k F γ w F γ (setB w b vs T) :=
  ⟨fun _ _ h => h, rfl, rfl, rfl, by simp [Go.Proofs.Ytginjcpblgpcoaa.setB], fun b' _ hn => setB_far (fun e => hn id (by subst e; exact blkAt_of hx hb)), fun _ _ h => .inl h, fun i _ h => .inl ⟨i, h⟩, fun _ _ _ h => h⟩

theorem Slots.ext {sl : List AV} {a : Act} (h : Slots F γ sl a) (hs : F.sub F') (hg : ∀ (id : Nat) (o : OI), γ[id]? = some o → γ'[id]? = some o) : Slots F' γ' sl a :=
  ⟨h.1, h.2.1, fun i av v h1 h2 => (h.2.2 i av v h1 h2).ext hs hg⟩

theorem Slots.kill {sl : List AV} {a : Act} (h : Slots F γ sl a) (hs : F.sub F') (hg : ∀ (id : Nat) (o : OI), p id = false → γ[id]? = some o → γ'[id]? = some o) : Slots F' γ' (sl.map (killV p)) a := by
  refine ⟨h.1, by simpa using h.2.1, fun i av v h1 h2 => ?_⟩
  rw [List.getElem?_map] at h1
  cases hi : sl[i]? with
  | none => simp [hi] at h1
  | some av0 => simp [hi] at h1; subst h1; exact (h.2.2 i av0 v hi h2).kill hs hg

theorem Slots.put {sl : List AV} {a : Act} (h : Slots F γ sl a) (dst : Option Nat) {av : AV} {v : Value} (hv : RV F γ av v) : Slots F γ (putS sl dst av) (a.put dst v) := by
  cases dst with
  | none => exact h
  | some d =>
    refine ⟨h.1, by simpa [putS, Act.put] using h.2.1, fun i av' v' h1 h2 => ?_⟩
    simp only [putS, Act.put] at h1 h2
    by_cases hd : d = i
    · subst hd
      have hlt : d < sl.length := by have := lt_of_get h1; simpa using this
      rw [List.getElem?_set_self hlt] at h1
      have hlt2 : d < a.tmps.size := h.2.1 ▸ hlt
      rw [Array.getElem?_setIfInBounds_self_of_lt hlt2] at h2
      injection h1 with h1; injection h2 with h2
      subst h1; subst h2
      exact hv
    · rw [List.getElem?_set_ne hd] at h1
      rw [Array.getElem?_setIfInBounds_ne hd] at h2
      exact h.2.2 i av' v' h1 h2

end
end Go.Proofs.Ytginjcpblgpcoaa
