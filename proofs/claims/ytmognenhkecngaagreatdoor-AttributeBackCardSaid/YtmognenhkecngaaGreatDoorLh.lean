/- A region's operations, one after the other, over the abstract states. Conditions: none. -/
import Derived.Test.YtmognenhkecngaaGreatDoorLf
namespace Go.Proofs.YtmognenhkecngaaGreatDoor
section
set_option linter.unusedSimpArgs false
set_option linter.unusedVariables false
section
variable {P : Program} {F F' : Fz} {γ γ' : List OI} {w w' : World} {hp : List AObj} {p : Nat → Bool}

theorem OK.kill {o : AObj} {x : OI} (h : OK F γ w o x) (hs : F.sub F') (hg : ∀ (id : Nat) (o : OI), p id = false → γ[id]? = some o → γ'[id]? = some o)
    (hb : ∀ b, x.blk = some b → w'.heap[b]? = w.heap[b]?) : OK F' γ' w' (killO p o) x := by
  cases o with
  | box cs =>
    cases x with
    | box b =>
      obtain ⟨vs, T, h1, h2, h3⟩ := h
      exact ⟨vs, T, (hb b rfl).trans h1, by simpa using h2, RCs.kill hs hg h3⟩
    | arr b c => exact h.elim
    | dead => exact h.elim
  | arr cap size es =>
    cases x with
    | box b => exact h.elim
    | arr b c =>
      cases b with
      | none => exact h
      | some b =>
        obtain ⟨h1, h2, h3, vs, T, h4, h5, h6⟩ := h
        exact ⟨h1, h2, h3, vs, T, (hb b rfl).trans h4, h5, fun i j e d v a1 a2 a3 => (h6 i j e d v a1 a2 a3).mono hs⟩
    | dead => exact h.elim
  | dead =>
    cases x with
    | dead => trivial
    | box b => exact h.elim
    | arr b c => exact h.elim

theorem OK.ext {o : AObj} {x : OI} (h : OK F γ w o x) (hs : F.sub F') (hg : ∀ (id : Nat) (o : OI), γ[id]? = some o → γ'[id]? = some o)
    (hb : ∀ b, x.blk = some b → w'.heap[b]? = w.heap[b]?) : OK F' γ' w' o x := by
  cases o with
  | box cs =>
    cases x with
    | box b =>
      obtain ⟨vs, T, h1, h2, h3⟩ := h
      exact ⟨vs, T, (hb b rfl).trans h1, h2, fun i c v a b => (h3 i c v a b).ext hs hg⟩
    | arr b c => exact h.elim
    | dead => exact h.elim
  | arr cap size es =>
    cases x with
    | box b => exact h.elim
    | arr b c =>
      cases b with
      | none => exact h
      | some b =>
        obtain ⟨h1, h2, h3, vs, T, h4, h5, h6⟩ := h
        exact ⟨h1, h2, h3, vs, T, (hb b rfl).trans h4, h5, fun i j e d v a1 a2 a3 => (h6 i j e d v a1 a2 a3).mono hs⟩
    | dead => exact h.elim
  | dead =>
    cases x with
    | dead => trivial
    | box b => exact h.elim
    | arr b c => exact h.elim

theorem heap_lt {b : Nat} {o : Obj} (h : w.heap[b]? = some o) : b < w.heap.size := (Array.getElem?_eq_some_iff.1 h).1

theorem OK.lt {o : AObj} {x : OI} (h : OK F γ w o x) {b : Nat} (hb : x.blk = some b) : b < w.heap.size := by
  cases x with
  | dead => simp [OI.blk] at hb
  | box b' =>
    simp [OI.blk] at hb; subst hb
    cases o with
    | box cs => obtain ⟨vs, T, h1, _⟩ := h; exact heap_lt h1
    | arr _ _ _ => exact h.elim
    | dead => exact h.elim
  | arr b' c =>
    simp [OI.blk] at hb; subst hb
    cases o with
    | arr cap size es => obtain ⟨_, _, _, vs, T, h1, _⟩ := h; exact heap_lt h1
    | box _ => exact h.elim
    | dead => exact h.elim

theorem blkAt_some {i b : Nat} (h : blkAt γ i = some b) : ∃ x, γ[i]? = some x ∧ x.blk = some b := by
  unfold blkAt at h
  cases hx : γ[i]? with
  | none => simp [hx] at h
  | some x => simp [hx] at h; exact ⟨x, rfl, h⟩

theorem blkAt_of {i b : Nat} {x : OI} (h : γ[i]? = some x) (hb : x.blk = some b) : blkAt γ i = some b := by simp [blkAt, h, hb]

theorem Inv.lt (hi : Inv F γ hp w) {i b : Nat} (hb : blkAt γ i = some b) : b < w.heap.size := by
  obtain ⟨x, hx, hxb⟩ := blkAt_some hb
  have hlt : i < hp.length := by rw [← hi.len]; exact lt_of_get hx
  exact (hi.ok i _ x (List.getElem?_eq_getElem hlt) hx).lt hxb

theorem Inv.fzlt (hi : Inv F γ hp w) {b : Nat} {o : Obj} (h : F b = some o) : b < w.heap.size := heap_lt (hi.fz b o h)

theorem Inv.drawn (hi : Inv F γ hp w) (n : Nat) : Inv F γ hp { w with drawn := n } :=
  ⟨hi.fz, hi.len, hi.nd, hi.disj, fun i o x h1 h2 => (hi.ok i o x h1 h2).ext (fun _ _ h => h) (fun _ _ h => h) (fun _ _ => rfl)⟩

theorem Ext.drawn (k : Nat) (F : Fz) (γ : List OI) (w : World) (n : Nat) : Ext k F γ w F γ { w with drawn := n } :=
  ⟨fun _ _ h => h, rfl, rfl, rfl, Nat.le_refl _, fun _ _ _ => rfl, fun _ _ h => .inl h, fun i _ h => .inl ⟨i, h⟩, fun _ _ _ h => h⟩

def pushW (w : World) (o : Obj) : World := { w with heap := w.heap.push o }

theorem push_old {o : Obj} {b : Nat} (h : b < w.heap.size) : (pushW w o).heap[b]? = w.heap[b]? := by
  show (w.heap.push o)[b]? = _
  rw [Array.getElem?_push, if_neg (Nat.ne_of_lt h)]
theorem push_new {o : Obj} : (pushW w o).heap[w.heap.size]? = some o := by
  show (w.heap.push o)[w.heap.size]? = _
  rw [Array.getElem?_push, if_pos rfl]

theorem get_append_left {α : Type} {l r : List α} {i : Nat} {x : α} (h : l[i]? = some x) : (l ++ r)[i]? = some x := by
  rw [List.getElem?_append_left (lt_of_get h)]; exact h

theorem append_one {α : Type} {l : List α} {y x : α} {i : Nat} (h : (l ++ [y])[i]? = some x) : l[i]? = some x ∨ (i = l.length ∧ x = y) := by
  rcases Nat.lt_trichotomy i l.length with h1 | h1 | h1
  · rw [List.getElem?_append_left h1] at h; exact .inl h
  · subst h1; simp at h; exact .inr ⟨rfl, h.symm⟩
  · rw [List.getElem?_eq_none (by simp; omega)] at h; cases h

theorem Inv.push (hi : Inv F γ hp w) (ob : Obj) (o : AObj) (x : OI) (hx : ∀ b, x.blk = some b → b = w.heap.size) (hok : OK F (γ ++ [x]) (pushW w ob) o x) :
    Inv F (γ ++ [x]) (hp ++ [o]) (pushW w ob) := by
  have hb : ∀ i b, blkAt (γ ++ [x]) i = some b → blkAt γ i = some b ∨ (i = γ.length ∧ b = w.heap.size) := by
    intro i b h
    obtain ⟨y, hy, hyb⟩ := blkAt_some h
    rcases append_one hy with h1 | ⟨h1, rfl⟩
    · exact .inl (blkAt_of h1 hyb)
    · exact .inr ⟨h1, hx b hyb⟩
  refine ⟨fun b o' h => by rw [push_old (hi.fzlt h)]; exact hi.fz b o' h, by simp [hi.len], ?_, ?_, ?_⟩
  · intro i j b h1 h2
    rcases hb i b h1 with h1 | ⟨h1, h1'⟩ <;> rcases hb j b h2 with h2 | ⟨h2, h2'⟩
    · exact hi.nd i j b h1 h2
    · have := hi.lt h1; omega
    · have := hi.lt h2; omega
    · omega
  · intro i b h
    rcases hb i b h with h | ⟨_, h⟩
    · exact hi.disj i b h
    · cases hF : F b with
      | none => rfl
      | some o' => have := hi.fzlt hF; omega
  · intro i o' y h1 h2
    rcases append_one h2 with h3 | ⟨h3, rfl⟩
    · have hlt : i < hp.length := by rw [← hi.len]; exact lt_of_get h3
      rw [List.getElem?_append_left hlt] at h1
      refine (hi.ok i o' y h1 h3).ext (fun _ _ h => h) (fun _ _ h => get_append_left h) (fun b hyb => ?_)
      exact push_old ((hi.ok i o' y h1 h3).lt hyb)
    · rw [h3, hi.len] at h1
      simp at h1
      subst h1
      exact hok

theorem Ext.push {k : Nat} (hi : Inv F γ hp w) (ob : Obj) (x : OI) (hx : ∀ b, x.blk = some b → b = w.heap.size) : Ext k F γ w F (γ ++ [x]) (pushW w ob) := by
  refine ⟨fun _ _ h => h, rfl, rfl, rfl, by simp [pushW], fun b hb _ => push_old hb, fun _ _ h => .inl h, fun i b h => ?_, fun i _ b h => get_append_left h⟩
  obtain ⟨y, hy, hyb⟩ := blkAt_some h
  rcases append_one hy with h1 | ⟨h1, rfl⟩
  · exact .inl ⟨i, blkAt_of h1 hyb⟩
  · exact .inr (by rw [hx b hyb]; exact Nat.le_refl _)

/-- a block's cells put anew -/
def setB (w : World) (b : Nat) (vs : Array Value) (T : TypeId) : World := { w with heap := w.heap.setIfInBounds b (.cells vs T (0, 0)) }

theorem setB_same {b : Nat} {vs : Array Value} {T : TypeId} (h : b < w.heap.size) : (setB w b vs T).heap[b]? = some (.cells vs T (0, 0)) := by
  simp [setB, Array.getElem?_setIfInBounds, h]
theorem setB_far {b b' : Nat} {vs : Array Value} {T : TypeId} (h : b' ≠ b) : (setB w b vs T).heap[b']? = w.heap[b']? := by
  simp [setB, Array.getElem?_setIfInBounds, Ne.symm h]

theorem setB_setB {b : Nat} {vs vs' : Array Value} {T T' : TypeId} : setB (setB w b vs T) b vs' T' = setB w b vs' T' := by
  simp only [setB]
  congr 1
  apply Array.ext_getElem?
  intro i
  simp only [Array.getElem?_setIfInBounds, Array.size_setIfInBounds]
  split <;> simp_all

theorem setCell_setB {b j : Nat} {vs : Array Value} {T : TypeId} {v : Value} (h : w.heap[b]? = some (.cells vs T (0, 0))) : w.setCell ⟨b, j, none⟩ v = setB w b (vs.setIfInBounds j v) T := by
  simp only [World.setCell, setB]
  congr 1
  apply Array.ext_getElem?
  intro i
  rw [Array.getElem?_modify, Array.getElem?_setIfInBounds]
  by_cases hi : b = i
  · subst hi
    rw [if_pos rfl, if_pos rfl, if_pos (heap_lt h), h]
    rfl
  · simp [hi]

/-- cells put one after the other -/
def splice (vs : Array Value) (k : Nat) (l : List Value) (i : Nat := 0) : Array Value := (l.zipIdx i).foldl (fun cs (c, j) => cs.setIfInBounds (k + j) c) vs

theorem splice_size (l : List Value) : ∀ (vs : Array Value) (k i : Nat), (splice vs k l i).size = vs.size := by
  induction l with
  | nil => intro vs k i; rfl
  | cons x l ih => intro vs k i; simp only [splice, List.zipIdx_cons, List.foldl_cons]; exact (ih _ k (i + 1)).trans (by simp)

theorem run_storeCells_blk {b off : Nat} {T : TypeId} : ∀ (l : List Value) (i : Nat) (w : World) (vs : Array Value), w.heap[b]? = some (.cells vs T (0, 0)) → (∀ v ∈ l, is1 v = true) → off + i + l.length ≤ vs.size →
    (storeCells ⟨b, off, none⟩ l i).run P w = .ok () (if l = [] then w else setB w b (splice vs off l i) T)
  | [], i, w, vs, h, h1, hl => rfl
  | v :: l, i, w, vs, h, h1, hl => by
    have hv := h1 v (List.mem_cons_self)
    simp only [List.length_cons] at hl
    have hst : (store (⟨b, off + i, none⟩ : Addr) v).run P w = .ok () (setB w b (vs.setIfInBounds (off + i) v) T) := by
      have hc : w.cell? ⟨b, off + i, none⟩ = some (vs[off + i]'(by omega)) := by
        rw [cell_heap h]; exact Array.getElem?_eq_getElem (by omega)
      have hf : w.frozen? ⟨b, off + i, none⟩ = false := by simp [World.frozen?, h]
      rw [← setCell_setB h]
      cases v <;> first | (simp [is1] at hv; done) | (unfold store; simp only [Sem.run, hc, hf]; rfl)
    have ih := run_storeCells_blk (off := off) l (i + 1) (setB w b (vs.setIfInBounds (off + i) v) T) (vs.setIfInBounds (off + i) v) (setB_same (heap_lt h)) (fun x hx => h1 x (List.mem_cons_of_mem _ hx)) (by simp; omega)
    simp only [storeCells, Sem.run_bind, addr_add, hst, Result.andThen_ok, ih]
    simp only [reduceCtorEq, if_false]
    congr 1
    split
    · rename_i hl0; subst hl0; rfl
    · rw [setB_setB]; rfl

theorem run_storeVar_blk {b off : Nat} {T t : TypeId} {x : Value} {vs : Array Value} (h : w.heap[b]? = some (.cells vs T (0, 0))) (hs : sizeP P t = some x.cells.size) (h1 : ∀ v ∈ x.cells.toList, is1 v = true)
    (hl : off + x.cells.size ≤ vs.size) : (Instr.storeAt t (.pointer (some ⟨b, off, none⟩)) x).run P w = .ok () (if x.cells.toList = [] then w else setB w b (splice vs off x.cells.toList) T) := by
  unfold sizeP at hs
  cases hin : P.info? t with
  | none => simp [hin] at hs
  | some inf =>
    simp only [hin, Option.map_some, Option.some.injEq] at hs
    have := run_storeCells_blk (P := P) (b := b) (off := off) x.cells.toList 0 w vs h h1 (by simpa using hl)
    simp [Instr.storeAt, Instr.sureAddr, storeVar, sizeOf, typeInfo, hin, hs, this]

/-- an object of the heap turned into another over the same block -/
theorem Inv.setObj (hi : Inv F γ hp w) {id b : Nat} {x : OI} {o' : AObj} {vs : Array Value} {T : TypeId} (hx : γ[id]? = some x) (hb : x.blk = some b) (hok : OK F γ (setB w b vs T) o' x) :
    Inv F γ (hp.set id o') (setB w b vs T) := by
  refine ⟨fun b' o h => ?_, by simp [hi.len], hi.nd, hi.disj, fun i o y h1 h2 => ?_⟩
  · have hne : b' ≠ b := fun e => by subst e; rw [hi.disj id _ (blkAt_of hx hb)] at h; cases h
    rw [setB_far hne]; exact hi.fz b' o h
  · by_cases hii : i = id
    · subst hii
      rw [hx] at h2; injection h2 with h2; subst h2
      rw [List.getElem?_set_self (by rw [← hi.len]; exact lt_of_get hx)] at h1
      injection h1 with h1; subst h1
      exact hok
    · rw [List.getElem?_set_ne (Ne.symm hii)] at h1
      refine (hi.ok i o y h1 h2).ext (fun _ _ h => h) (fun _ _ h => h) (fun b' hb' => ?_)
      exact setB_far (fun e => hii (by subst e; exact hi.nd _ _ _ (blkAt_of h2 hb') (blkAt_of hx hb)))

theorem Ext.setB {k : Nat} (hi : Inv F γ hp w) {id b : Nat} {x : OI} {vs : Array Value} {T : TypeId} (hx : γ[id]? = some x) (hb : x.blk = some b) : Ext k F γ w F γ (setB w b vs T) :=
  ⟨fun _ _ h => h, rfl, rfl, rfl, by simp [Go.Proofs.YtmognenhkecngaaGreatDoor.setB], fun b' _ hn => setB_far (fun e => hn id (by subst e; exact blkAt_of hx hb)), fun _ _ h => .inl h, fun i _ h => .inl ⟨i, h⟩, fun _ _ _ h => h⟩

theorem Slots.ext {sl : List AV} {a : Act} (h : Slots F γ sl a) (hs : F.sub F') (hg : ∀ (id : Nat) (o : OI), γ[id]? = some o → γ'[id]? = some o) : Slots F' γ' sl a :=
  ⟨h.1, h.2.1, fun i av v h1 h2 => (h.2.2 i av v h1 h2).ext hs hg⟩

theorem Slots.kill {sl : List AV} {a : Act} (h : Slots F γ sl a) (hs : F.sub F') (hg : ∀ (id : Nat) (o : OI), p id = false → γ[id]? = some o → γ'[id]? = some o) : Slots F' γ' (sl.map (killV p)) a := by
  refine ⟨h.1, by simpa using h.2.1, fun i av v h1 h2 => ?_⟩
  rw [List.getElem?_map] at h1
  cases hi : sl[i]? with
  | none => simp [hi] at h1
  | some av0 => simp [hi] at h1; subst h1; exact (h.2.2 i av0 v hi h2).kill hs hg

theorem Slots.put {sl : List AV} {a : Act} (h : Slots F γ sl a) (dst : Option Nat) {av : AV} {v : Value} (hv : RV F γ av v) : Slots F γ (putS sl dst av) (a.put dst v) := by
  cases dst with
  | none => exact h
  | some d =>
    refine ⟨h.1, by simpa [putS, Act.put] using h.2.1, fun i av' v' h1 h2 => ?_⟩
    simp only [putS, Act.put] at h1 h2
    by_cases hd : d = i
    · subst hd
      have hlt : d < sl.length := by have := lt_of_get h1; simpa using this
      rw [List.getElem?_set_self hlt] at h1
      have hlt2 : d < a.tmps.size := h.2.1 ▸ hlt
      rw [Array.getElem?_setIfInBounds_self_of_lt hlt2] at h2
      injection h1 with h1; injection h2 with h2
      subst h1; subst h2
      exact hv
    · rw [List.getElem?_set_ne hd] at h1
      rw [Array.getElem?_setIfInBounds_ne hd] at h2
      exact h.2.2 i av' v' h1 h2

end
end
section
set_option linter.unusedSimpArgs false
set_option linter.unusedVariables false

def compileGuard (opsA : Array Oper) : Option (Nat × Bool) → Option (Option (Nat × Bool))
  | none => some none
  | some (j, b) => ((opsA[j]?).bind (·.dst)).map fun d => some (d, b)

def compileOpr (P : Program) (opsA : Array Oper) (o : Oper) : Option AOp :=
  (compileOp P o).bind fun ai => (compileGuard opsA o.guard).map fun g => ⟨o.dst, ai, g⟩

def compileOps (P : Program) (opsA : Array Oper) : List Oper → Option (List AOp)
  | [] => some []
  | o :: l => (compileOpr P opsA o).bind fun x => (compileOps P opsA l).map (x :: ·)

/-- the region's rest, run from an abstract state, ends in one of which Q holds -/
def WR (P : Program) (G : Glob) (k : Nat) (aops : List AOp) (Q : AS → Prop) (as : AS) : Prop :=
  ∀ (opsA : Array Oper) (l : List Oper), compileOps P opsA l = some aops → ∀ F γ a w, Inv F γ as.hp w → Slots F γ as.sl a → GlobOK F G → k ≤ γ.length →
    ∀ QE : Exit → Act → World → Prop, (∀ a' w' F' γ' as', Q as' → Ext k F γ w F' γ' w' → Inv F' γ' as'.hp w' → Slots F' γ' as'.sl a' → k ≤ γ'.length → QE .normal a' w') → wpList P opsA QE l a w

/-- a step that the world doesn't see -/
def Gh (k : Nat) (as as' : AS) : Prop :=
  ∀ F γ a w, Inv F γ as.hp w → Slots F γ as.sl a → k ≤ γ.length → ∃ F' γ', Ext k F γ w F' γ' w ∧ Inv F' γ' as'.hp w ∧ Slots F' γ' as'.sl a ∧ k ≤ γ'.length

def gOK (G : Glob) (as : AS) : Option (Nat × Bool) → Prop
  | none => True
  | some (g, b) => asBool? (evA G as.sl (.t g)) = some b

def gNo (G : Glob) (as : AS) : Option (Nat × Bool) → Prop
  | none => False
  | some (g, b) => asBool? (evA G as.sl (.t g)) = some (!b) ∨ evA G as.sl (.t g) = .tup []

section
variable {P : Program} {G : Glob} {k : Nat} {Q : AS → Prop} {as as' : AS} {o : AOp} {rest ops : List AOp}

theorem WR.nil (h : Q as) : WR P G k [] Q as := by
  intro opsA l hc F γ a w hi hs hg hk QE hq
  cases l with
  | nil => exact hq a w F γ as h (Ext.refl _ _ _ _) hi hs hk
  | cons o l =>
    simp only [compileOps] at hc
    cases h1 : compileOpr P opsA o with
    | none => simp [h1] at hc
    | some x => simp [h1] at hc

theorem WR.ghost (h : Gh k as as') (hw : WR P G k ops Q as') : WR P G k ops Q as := by
  intro opsA l hc F γ a w hi hs hg hk QE hq
  obtain ⟨F', γ', he, hi', hs', hk'⟩ := h F γ a w hi hs hk
  exact hw opsA l hc F' γ' a w hi' hs' (hg.sub he.sub) hk' QE (fun a' w' F'' γ'' as'' h1 h2 h3 h4 => hq a' w' F'' γ'' as'' h1 (he.trans h2) h3 h4)

theorem WR.mono {Q' : AS → Prop} (h : WR P G k ops Q as) (hq : ∀ as, Q as → Q' as) : WR P G k ops Q' as := by
  intro opsA l hc F γ a w hi hs hg hk QE hqe
  exact h opsA l hc F γ a w hi hs hg hk QE (fun a' w' F' γ' as' h1 => hqe a' w' F' γ' as' (hq _ h1))

/-- what an operation comes to, of which R holds -/
def StepTo (P : Program) (k : Nat) (oper : Oper) (dst : Option Nat) (a : Act) (w : World) (F : Fz) (γ : List OI) (R : AS → Prop) : Prop :=
  (∃ nx v w' as' F' γ', (execOp a.eval oper).run P w = .ok nx w' ∧ (nx = .value v ∨ (nx = .skip ∧ v = undef)) ∧ R as' ∧ Ext k F γ w F' γ' w' ∧ Inv F' γ' as'.hp w' ∧ Slots F' γ' as'.sl (a.put dst v) ∧ k ≤ γ'.length) ∨
  (∃ f vs, (execOp a.eval oper).run P w = .ok (.enter f vs) w ∧ Calls P f vs w fun e w' => ∃ r as' F' γ', e = .returned r ∧ R as' ∧ Ext k F γ w F' γ' w' ∧ Inv F' γ' as'.hp w' ∧ Slots F' γ' as'.sl (a.put dst r) ∧ k ≤ γ'.length)

theorem asBool_tmp {F : Fz} {γ : List OI} {a : Act} {d : Nat} {b : Bool} (hs : Slots F γ as.sl a) (h : asBool? (evA G as.sl (.t d)) = some b) : a.tmps[d]? = some (.bool b) := by
  simp only [evA, List.getD_eq_getElem?_getD] at h
  cases hi : as.sl[d]? with
  | none => simp [hi, asBool?] at h
  | some av =>
    simp [hi] at h
    have hlt : d < a.tmps.size := hs.2.1 ▸ lt_of_get hi
    have hv : a.tmps[d]? = some (a.tmps[d]'hlt) := Array.getElem?_eq_getElem hlt
    rw [hv, rv_bool (hs.2.2 d av _ hi hv) h]

theorem undef_ok {F : Fz} {γ : List OI} : RV F γ (.tup []) undef := .tup [] #[] rfl (fun i t v h => by simp at h)

theorem undef_tmp {F : Fz} {γ : List OI} {a : Act} {d : Nat} (hs : Slots F γ as.sl a) (h : evA G as.sl (.t d) = .tup []) : a.tmps[d]? = some undef ∨ a.tmps[d]? = none := by
  simp only [evA, List.getD_eq_getElem?_getD] at h
  cases hi : as.sl[d]? with
  | none => simp [hi] at h
  | some av =>
    simp [hi] at h
    subst h
    have hlt : d < a.tmps.size := hs.2.1 ▸ lt_of_get hi
    have hv : a.tmps[d]? = some (a.tmps[d]'hlt) := Array.getElem?_eq_getElem hlt
    have h3 := hs.2.2 d _ _ hi hv
    left
    rw [hv]
    generalize a.tmps[d]'hlt = x at h3
    cases h3 with
    | tup l vs hsz hr =>
      have : vs = #[] := Array.eq_empty_of_size_eq_zero (by simpa using hsz)
      subst this; rfl

theorem wanted_of {F : Fz} {γ : List OI} {a : Act} {opsA : Array Oper} {og : Option (Nat × Bool)} {oper : Oper} {b' : Bool} (hs : Slots F γ as.sl a) (hc : compileGuard opsA oper.guard = some og) :
    (gOK G as og → Region.wanted oper (yielded opsA a.tmps) = true) ∧ (gNo G as og → Region.wanted oper (yielded opsA a.tmps) = false) := by
  unfold compileGuard at hc
  unfold Region.wanted
  split at hc
  · injection hc with hc; subst hc
    rename_i hn
    rw [hn]
    exact ⟨fun _ => rfl, fun h => h.elim⟩
  · rename_i j b hn
    rw [hn]
    cases hd : (opsA[j]?).bind (·.dst) with
    | none => simp [hd] at hc
    | some d =>
      simp only [hd, Option.map_some, Option.some.injEq] at hc
      subst hc
      refine ⟨fun h => ?_, fun h => ?_⟩
      · have := asBool_tmp hs h
        simp [yielded, hd, this]
      · rcases h with h | h
        · have := asBool_tmp hs h
          simp [yielded, hd, this]
        · have := undef_tmp hs h
          rcases this with this | this <;> simp [yielded, hd, this, undef]

theorem compile_cons {opsA : Array Oper} {l : List Oper} (hc : compileOps P opsA l = some (o :: rest)) :
    ∃ oper l', l = oper :: l' ∧ compileOp P oper = some o.ai ∧ compileGuard opsA oper.guard = some o.guard ∧ oper.dst = o.dst ∧ compileOps P opsA l' = some rest := by
  cases l with
  | nil => simp [compileOps] at hc
  | cons oper l' =>
    simp only [compileOps, compileOpr] at hc
    cases h1 : compileOp P oper with
    | none => simp [h1] at hc
    | some ai =>
      cases h2 : compileGuard opsA oper.guard with
      | none => simp [h1, h2] at hc
      | some g =>
        cases h3 : compileOps P opsA l' with
        | none => simp [h1, h2, h3] at hc
        | some r =>
          simp only [h1, h2, h3, Option.bind_some, Option.map_some, Option.some.injEq, List.cons.injEq] at hc
          obtain ⟨rfl, rfl⟩ := hc
          exact ⟨oper, l', rfl, (by first | exact h1 | rfl), (by first | exact h2 | rfl), rfl, h3⟩

theorem WR.step (hgd : gOK G as o.guard)
    (h : ∀ F γ a w (oper : Oper), compileOp P oper = some o.ai → oper.dst = o.dst → Inv F γ as.hp w → Slots F γ as.sl a → GlobOK F G → k ≤ γ.length → StepTo P k oper o.dst a w F γ (fun as' => WR P G k rest Q as')) :
    WR P G k (o :: rest) Q as := by
  intro opsA l hc F γ a w hi hs hg hk QE hq
  obtain ⟨oper, l', rfl, h1, h2, h3, h4⟩ := compile_cons hc
  refine wpList_step (fun K hK => ?_)
  rw [(wanted_of (b' := true) hs h2).1 hgd, if_pos rfl]
  unfold Oper.wp
  rcases h F γ a w oper h1 h3 hi hs hg hk with ⟨nx, v, w', as', F', γ', hr, hn, hR, hE, hI, hS, hk'⟩ | ⟨f, vs, hr, hcl⟩
  · have go : K (a.put oper.dst v) w' := by
      rw [h3]
      exact hK _ _ (hR opsA l' h4 F' γ' _ w' hI hS (hg.sub hE.sub) hk' QE (fun a'' w'' F'' γ'' as'' q1 q2 q3 q4 => hq a'' w'' F'' γ'' as'' q1 (hE.trans q2) q3 q4))
    rw [hr]
    rcases hn with rfl | ⟨rfl, rfl⟩
    · exact go
    · exact go
  · rw [hr, Oper.upon_enter]
    refine hcl.mono ?_
    rintro e w' ⟨r, as', F', γ', rfl, hR, hE, hI, hS, hk'⟩
    show K (a.put oper.dst r) w'
    rw [h3]
    exact hK _ _ (hR opsA l' h4 F' γ' _ w' hI hS (hg.sub hE.sub) hk' QE (fun a'' w'' F'' γ'' as'' q1 q2 q3 q4 => hq a'' w'' F'' γ'' as'' q1 (hE.trans q2) q3 q4))

theorem WR.skip (hgd : gNo G as o.guard) (h : WR P G k rest Q ⟨putS as.sl o.dst (.tup []), as.hp⟩) : WR P G k (o :: rest) Q as := by
  intro opsA l hc F γ a w hi hs hg hk QE hq
  obtain ⟨oper, l', rfl, h1, h2, h3, h4⟩ := compile_cons hc
  refine wpList_step (fun K hK => ?_)
  rw [(wanted_of (b' := true) hs h2).2 hgd, if_neg (by simp), h3]
  exact hK _ _ (h opsA l' h4 F γ _ w hi (hs.put _ undef_ok) hg hk QE hq)

theorem WR.pur {v : AV} (hgd : gOK G as o.guard) (he : evP G as o.ai = some v) (h : WR P G k rest Q ⟨putS as.sl o.dst v, as.hp⟩) : WR P G k (o :: rest) Q as := by
  refine WR.step hgd (fun F γ a w oper hc hd hi hs hg hk => ?_)
  obtain ⟨x, hr, hv⟩ := evP_ok hc he hi hs hg
  exact .inl ⟨_, x, w, ⟨putS as.sl o.dst v, as.hp⟩, F, γ, hr, .inl rfl, h, Ext.refl _ _ _ _, hi, hs.put _ hv, hk⟩

def AI.isPure : AI → Bool
  | .alloc _ => false
  | .box _ => false
  | .store _ _ _ => false
  | .bslc _ _ _ _ => false
  | .call _ _ => false
  | .callv _ _ => false
  | .app _ _ _ _ _ => false
  | .apps _ _ => false
  | .mk _ _ _ _ _ => false
  | .clr _ _ _ => false
  | .cpys _ _ => false
  | .cvsb _ => false
  | _ => true

/-- the instructions that change nothing and are not guarded, as far as they go -/
def runP (G : Glob) : List AOp → AS → Option (List AOp × AS)
  | [], as => some ([], as)
  | o :: rest, as =>
    match o.guard, o.ai.isPure with
    | none, true => (evP G as o.ai).bind fun v => runP G rest ⟨putS as.sl o.dst v, as.hp⟩
    | _, _ => some (o :: rest, as)

theorem WR.run : ∀ (ops : List AOp) (as : AS) (rest : List AOp) (as' : AS), runP G ops as = some (rest, as') → WR P G k rest Q as' → WR P G k ops Q as
  | [], as, rest, as', h, hw => by simp [runP] at h; obtain ⟨rfl, rfl⟩ := h; exact hw
  | o :: ops, as, rest, as', h, hw => by
    simp only [runP] at h
    split at h
    · rename_i hg _
      cases he : evP G as o.ai with
      | none => simp [he] at h
      | some v =>
        simp only [he, Option.bind_some] at h
        exact WR.pur (by rw [hg]; trivial) he (WR.run ops _ rest as' h hw)
    · injection h with h; injection h with h1 h2; subst h1; subst h2; exact hw

/-- the same for those that a known test guards -/
def runG (G : Glob) (g : Nat) (b : Bool) : List AOp → AS → Option (List AOp × AS)
  | [], as => some ([], as)
  | o :: rest, as =>
    if o.guard = some (g, b) ∧ o.ai.isPure = true ∧ o.dst ≠ some g then (evP G as o.ai).bind fun v => runG G g b rest ⟨putS as.sl o.dst v, as.hp⟩
    else some (o :: rest, as)

theorem evA_put {sl : List AV} {d : Option Nat} {v : AV} {g : Nat} (h : d ≠ some g) : evA G (putS sl d v) (.t g) = evA G sl (.t g) := by
  cases d with
  | none => rfl
  | some d =>
    have hne : d ≠ g := fun e => h (by rw [e])
    simp only [evA, putS, List.getD_eq_getElem?_getD, List.getElem?_set_ne hne]

theorem WR.runG {g : Nat} {b : Bool} : ∀ (ops : List AOp) (as : AS) (rest : List AOp) (as' : AS), asBool? (evA G as.sl (.t g)) = some b → runG G g b ops as = some (rest, as') → WR P G k rest Q as' → WR P G k ops Q as
  | [], as, rest, as', hb, h, hw => by simp [Go.Proofs.YtmognenhkecngaaGreatDoor.runG] at h; obtain ⟨rfl, rfl⟩ := h; exact hw
  | o :: ops, as, rest, as', hb, h, hw => by
    simp only [Go.Proofs.YtmognenhkecngaaGreatDoor.runG] at h
    split at h
    · rename_i hc
      cases he : evP G as o.ai with
      | none => simp [he] at h
      | some v =>
        simp only [he, Option.bind_some] at h
        exact WR.pur (by rw [hc.1]; exact hb) he (WR.runG ops _ rest as' (by rw [evA_put hc.2.2]; exact hb) h hw)
    · injection h with h; injection h with h1 h2; subst h1; subst h2; exact hw

/-- those that a test leaves out -/
def skipG (g : Nat) (b : Bool) : List AOp → AS → List AOp × AS
  | [], as => ([], as)
  | o :: rest, as =>
    if o.guard = some (g, b) ∧ o.dst ≠ some g then skipG g b rest ⟨putS as.sl o.dst (.tup []), as.hp⟩
    else (o :: rest, as)

theorem WR.skipG {g : Nat} {b : Bool} : ∀ (ops : List AOp) (as : AS) (rest : List AOp) (as' : AS), gNo G as (some (g, b)) → skipG g b ops as = (rest, as') → WR P G k rest Q as' → WR P G k ops Q as
  | [], as, rest, as', hb, h, hw => by simp [Go.Proofs.YtmognenhkecngaaGreatDoor.skipG] at h; obtain ⟨rfl, rfl⟩ := h; exact hw
  | o :: ops, as, rest, as', hb, h, hw => by
    simp only [Go.Proofs.YtmognenhkecngaaGreatDoor.skipG] at h
    split at h
    · rename_i hc
      exact WR.skip (by rw [hc.1]; exact hb) (WR.skipG ops _ rest as' (by simp only [gNo]; rw [evA_put hc.2]; exact hb) h hw)
    · injection h with h1 h2; subst h1; subst h2; exact hw

end
end
end Go.Proofs.YtmognenhkecngaaGreatDoor
