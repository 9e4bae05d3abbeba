/- The abstract values and the relation between them and the model's values and worlds. Conditions: none. -/
import Derived.Calls
import Derived.LoopN
import Derived.Tactics
import Derived.Orders
namespace Go.Proofs.Ytginjcpblgpcoaa

def is1 : Value → Bool
  | .agg _ => false
  | .tuple _ => false
  | _ => true

/-- one cell of data: a value as it stands, or a slice that reads as a list of elements (each a list of cells) -/
inductive DC where
  | raw (v : Value)
  | slc (es : List (List DC))

/-- one cell: data; a pointer into a box; a slice over an array of one's own; a pointer to an element of such; a pointer to data; a function value; anything -/
inductive Cel where
  | dc (d : DC)
  | ptr (id off : Nat)
  | bld (id n : Nat)
  | ept (id i size off : Nat)
  | bls (id lo n size : Nat)
  | ref (cs : List DC)
  | fn (f : FuncId) (caps : List Cel)
  | junk

inductive TV where
  | one (c : Cel)
  | agg (cs : List Cel)

inductive AV where
  | one (c : Cel)
  | agg (cs : List Cel)
  | tup (l : List TV)
  | junk

inductive AObj where
  | box (cs : List Cel)
  | arr (cap size : Nat) (es : List (List DC))
  | dead

structure AS where
  sl : List AV
  hp : List AObj

/-- what an object is in the world -/
inductive OI where
  | box (b : Nat)
  | arr (b : Option Nat) (cap : Nat)
  | dead

def OI.blk : OI → Option Nat
  | .box b => some b
  | .arr b _ => b
  | .dead => none

abbrev Fz := Nat → Option Obj

def Fz.cell? (F : Fz) (a : Addr) : Option Value :=
  match F a.block with
  | some (.cells c _ _) => if a.spot.isSome then none else c[a.off]?
  | _ => none

def Fz.sub (F F' : Fz) : Prop := ∀ b o, F b = some o → F' b = some o

inductive RD (F : Fz) : DC → Value → Prop where
  | raw (v : Value) (h : is1 v = true) : RD F (.raw v) v
  | nil (A : Option Addr) (c : Nat) : RD F (.slc []) (.slice A 0 c)
  | slc (b off c size : Nat) (es : List (List DC)) (g : Nat → Nat → Value)
      (hsz : ∀ e ∈ es, e.length = size)
      (hr : ∀ (i j : Nat) e d, es[i]? = some e → e[j]? = some d → RD F d (g i j))
      (hc : ∀ (i j : Nat) e d, es[i]? = some e → e[j]? = some d → F.cell? ⟨b, off + (i * size + j), none⟩ = some (g i j))
      (hcap : es.length ≤ c) : RD F (.slc es) (.slice (some ⟨b, off, none⟩) es.length c)

inductive RC (F : Fz) (γ : List OI) : Cel → Value → Prop where
  | dc (d : DC) (v : Value) (h : RD F d v) : RC F γ (.dc d) v
  | ptr (id off b : Nat) (h : γ[id]? = some (.box b)) : RC F γ (.ptr id off) (.pointer (some ⟨b, off, none⟩))
  | bldN (id cap : Nat) (h : γ[id]? = some (.arr none cap)) : RC F γ (.bld id 0) (.slice none 0 0)
  | bld (id n b cap : Nat) (h : γ[id]? = some (.arr (some b) cap)) : RC F γ (.bld id n) (.slice (some ⟨b, 0, none⟩) n cap)
  | ept (id i size off b cap : Nat) (h : γ[id]? = some (.arr (some b) cap)) : RC F γ (.ept id i size off) (.pointer (some ⟨b, i * size + off, none⟩))
  | bls (id lo n size b cap c off : Nat) (h : γ[id]? = some (.arr (some b) cap)) (ho : n ≠ 0 → off = lo * size) (hc : n ≤ c) : RC F γ (.bls id lo n size) (.slice (some ⟨b, off, none⟩) n c)
  | ref (cs : List DC) (b off : Nat) (g : Nat → Value) (hr : ∀ (j : Nat) d, cs[j]? = some d → RD F d (g j))
      (hc : ∀ (j : Nat) d, cs[j]? = some d → F.cell? ⟨b, off + j, none⟩ = some (g j)) : RC F γ (.ref cs) (.pointer (some ⟨b, off, none⟩))
  | fn (f : FuncId) (caps : List Cel) (g : Nat → Value) (hr : ∀ (i : Nat) c, caps[i]? = some c → RC F γ c (g i)) :
      RC F γ (.fn f caps) (.func (.func f) #[] ((List.range caps.length).map g).toArray)
  | junk (v : Value) (h : is1 v = true) : RC F γ .junk v

inductive RT (F : Fz) (γ : List OI) : TV → Value → Prop where
  | one (c : Cel) (v : Value) (h : RC F γ c v) : RT F γ (.one c) v
  | agg (cs : List Cel) (vs : Array Value) (hs : vs.size = cs.length) (h : ∀ (i : Nat) c v, cs[i]? = some c → vs[i]? = some v → RC F γ c v) : RT F γ (.agg cs) (.agg vs)

inductive RV (F : Fz) (γ : List OI) : AV → Value → Prop where
  | one (c : Cel) (v : Value) (h : RC F γ c v) : RV F γ (.one c) v
  | agg (cs : List Cel) (vs : Array Value) (hs : vs.size = cs.length) (h : ∀ (i : Nat) c v, cs[i]? = some c → vs[i]? = some v → RC F γ c v) : RV F γ (.agg cs) (.agg vs)
  | tup (l : List TV) (vs : Array Value) (hs : vs.size = l.length) (h : ∀ (i : Nat) t v, l[i]? = some t → vs[i]? = some v → RT F γ t v) : RV F γ (.tup l) (.tuple vs)
  | junk (v : Value) : RV F γ .junk v

theorem RD.is1 {F : Fz} {d : DC} {v : Value} (h : RD F d v) : is1 v = true := by cases h <;> first | rfl | assumption
theorem RC.is1 {F : Fz} {γ : List OI} {c : Cel} {v : Value} (h : RC F γ c v) : is1 v = true := by
  cases h <;> first | rfl | assumption | exact RD.is1 (by assumption)

theorem Fz.sub.cell {F F' : Fz} (h : F.sub F') {a : Addr} {v : Value} (hc : F.cell? a = some v) : F'.cell? a = some v := by
  unfold Fz.cell? at *
  cases hF : F a.block with
  | none => simp [hF] at hc
  | some o => rw [h _ _ hF]; rw [hF] at hc; exact hc

theorem Fz.cell_world {F : Fz} {w : World} (h : ∀ b o, F b = some o → w.heap[b]? = some o) {a : Addr} {v : Value} (hc : F.cell? a = some v) : w.cell? a = some v := by
  unfold Fz.cell? at hc
  unfold World.cell?
  cases hF : F a.block with
  | none => simp [hF] at hc
  | some o => rw [h _ _ hF]; rw [hF] at hc; exact hc

theorem RD.mono {F F' : Fz} (hs : F.sub F') {d : DC} {v : Value} (h : RD F d v) : RD F' d v := by
  induction h with
  | raw v h => exact .raw v h
  | nil A c => exact .nil A c
  | slc b off c size es g hsz hr hc hcap ih => exact .slc b off c size es g hsz (fun i j e d h1 h2 => ih i j e d h1 h2) (fun i j e d h1 h2 => hs.cell (hc i j e d h1 h2)) hcap

mutual
/-- does the cell name no object of p? -/
def Cel.keep (p : Nat → Bool) : Cel → Bool
  | .ptr id _ => !p id
  | .bld id _ => !p id
  | .ept id _ _ _ => !p id
  | .bls id _ _ _ => !p id
  | .fn _ caps => keepL p caps
  | .dc _ => true
  | .ref _ => true
  | .junk => true
def keepL (p : Nat → Bool) : List Cel → Bool
  | [] => true
  | c :: cs => c.keep p && keepL p cs
end

theorem keepL_get {p : Nat → Bool} : ∀ {cs : List Cel} {i : Nat} {c : Cel}, keepL p cs = true → cs[i]? = some c → c.keep p = true
  | [], _, _, _, h => by simp at h
  | c :: cs, 0, c', h, h' => by simp [keepL] at h h'; rw [← h']; exact h.1
  | c :: cs, i + 1, c', h, h' => by simp [keepL] at h h'; exact keepL_get h.2 h'

theorem RC.mono {F F' : Fz} {γ γ' : List OI} (hs : F.sub F') {p : Nat → Bool} (hg : ∀ (id : Nat) (o : OI), p id = false → γ[id]? = some o → γ'[id]? = some o)
    {c : Cel} {v : Value} (h : RC F γ c v) : c.keep p = true → RC F' γ' c v := by
  induction h with
  | dc d v h => intro _; exact .dc d v (h.mono hs)
  | ptr id off b h => intro hk; exact .ptr id off b (hg _ _ (by simpa [Cel.keep] using hk) h)
  | bldN id cap h => intro hk; exact .bldN id cap (hg _ _ (by simpa [Cel.keep] using hk) h)
  | bld id n b cap h => intro hk; exact .bld id n b cap (hg _ _ (by simpa [Cel.keep] using hk) h)
  | ept id i size off b cap h => intro hk; exact .ept id i size off b cap (hg _ _ (by simpa [Cel.keep] using hk) h)
  | bls id lo n size b cap c off h ho hc => intro hk; exact .bls id lo n size b cap c off (hg _ _ (by simpa [Cel.keep] using hk) h) ho hc
  | ref cs b off g hr hc => intro _; exact .ref cs b off g (fun j d h => (hr j d h).mono hs) (fun j d h => hs.cell (hc j d h))
  | fn f caps g hr ih => intro hk; exact .fn f caps g (fun i c h => ih i c h (keepL_get (by simpa [Cel.keep] using hk) h))
  | junk v h => intro _; exact .junk v h

def killC (p : Nat → Bool) (c : Cel) : Cel := if c.keep p then c else .junk
def killT (p : Nat → Bool) : TV → TV
  | .one c => .one (killC p c)
  | .agg cs => .agg (cs.map (killC p))
def killV (p : Nat → Bool) : AV → AV
  | .one c => .one (killC p c)
  | .agg cs => .agg (cs.map (killC p))
  | .tup l => .tup (l.map (killT p))
  | .junk => .junk
def killO (p : Nat → Bool) : AObj → AObj
  | .box cs => .box (cs.map (killC p))
  | o => o

section
variable {F F' : Fz} {γ γ' : List OI} {p : Nat → Bool}

theorem RC.kill (hs : F.sub F') (hg : ∀ (id : Nat) (o : OI), p id = false → γ[id]? = some o → γ'[id]? = some o) {c : Cel} {v : Value} (h : RC F γ c v) : RC F' γ' (killC p c) v := by
  unfold killC
  split
  · exact h.mono hs hg (by assumption)
  · exact .junk v h.is1

theorem RCs.kill (hs : F.sub F') (hg : ∀ (id : Nat) (o : OI), p id = false → γ[id]? = some o → γ'[id]? = some o) {cs : List Cel} {vs : Array Value}
    (h : ∀ (i : Nat) c v, cs[i]? = some c → vs[i]? = some v → RC F γ c v) : ∀ (i : Nat) c v, (cs.map (killC p))[i]? = some c → vs[i]? = some v → RC F' γ' c v := by
  intro i c v hc hv
  rw [List.getElem?_map] at hc
  cases hci : cs[i]? with
  | none => simp [hci] at hc
  | some c0 => simp [hci] at hc; subst hc; exact (h i c0 v hci hv).kill hs hg

theorem RT.kill (hs : F.sub F') (hg : ∀ (id : Nat) (o : OI), p id = false → γ[id]? = some o → γ'[id]? = some o) {t : TV} {v : Value} (h : RT F γ t v) : RT F' γ' (killT p t) v := by
  cases h with
  | one c v h => exact .one _ _ (h.kill hs hg)
  | agg cs vs hsz h => exact .agg _ _ (by simpa using hsz) (RCs.kill hs hg h)

theorem RV.kill (hs : F.sub F') (hg : ∀ (id : Nat) (o : OI), p id = false → γ[id]? = some o → γ'[id]? = some o) {a : AV} {v : Value} (h : RV F γ a v) : RV F' γ' (killV p a) v := by
  cases h with
  | one c v h => exact .one _ _ (h.kill hs hg)
  | agg cs vs hsz h => exact .agg _ _ (by simpa using hsz) (RCs.kill hs hg h)
  | tup l vs hsz h =>
    refine .tup _ _ (by simpa using hsz) (fun i t v ht hv => ?_)
    rw [List.getElem?_map] at ht
    cases hti : l[i]? with
    | none => simp [hti] at ht
    | some t0 => simp [hti] at ht; subst ht; exact (h i t0 v hti hv).kill hs hg
  | junk v => exact .junk v

theorem Cel.keep_none (c : Cel) : c.keep (fun _ => false) = true := by
  have key : ∀ n, ∀ c : Cel, SizeOf.sizeOf c ≤ n → c.keep (fun _ => false) = true := by
    intro n
    induction n with
    | zero => intro c h; cases c <;> simp at h
    | succ n ih =>
      intro c h
      cases c with
      | fn f caps =>
        simp only [Cel.keep]
        have : ∀ cs : List Cel, SizeOf.sizeOf cs ≤ n → keepL (fun _ => false) cs = true := by
          intro cs
          induction cs with
          | nil => intro _; rfl
          | cons x xs ihx =>
            intro hx
            simp at hx
            simp [keepL, ih x (by omega), ihx (by omega)]
        exact this caps (by simp at h; omega)
      | _ => simp [Cel.keep]
  exact key _ c (Nat.le_refl _)

theorem RC.ext (hs : F.sub F') (hg : ∀ (id : Nat) (o : OI), γ[id]? = some o → γ'[id]? = some o) {c : Cel} {v : Value} (h : RC F γ c v) : RC F' γ' c v :=
  h.mono (p := fun _ => false) hs (fun id o _ h => hg id o h) (Cel.keep_none c)
theorem RT.ext (hs : F.sub F') (hg : ∀ (id : Nat) (o : OI), γ[id]? = some o → γ'[id]? = some o) {t : TV} {v : Value} (h : RT F γ t v) : RT F' γ' t v := by
  cases h with
  | one c v h => exact .one _ _ (h.ext hs hg)
  | agg cs vs hsz h => exact .agg _ _ hsz (fun i c v h1 h2 => (h i c v h1 h2).ext hs hg)
theorem RV.ext (hs : F.sub F') (hg : ∀ (id : Nat) (o : OI), γ[id]? = some o → γ'[id]? = some o) {a : AV} {v : Value} (h : RV F γ a v) : RV F' γ' a v := by
  cases h with
  | one c v h => exact .one _ _ (h.ext hs hg)
  | agg cs vs hsz h => exact .agg _ _ hsz (fun i c v h1 h2 => (h i c v h1 h2).ext hs hg)
  | tup l vs hsz h => exact .tup _ _ hsz (fun i t v h1 h2 => (h i t v h1 h2).ext hs hg)
  | junk v => exact .junk v
end

/-- an object as the world has it -/
def OK (F : Fz) (γ : List OI) (w : World) : AObj → OI → Prop
  | .box cs, .box b => ∃ (vs : Array Value) (T : TypeId), w.heap[b]? = some (.cells vs T (0, 0)) ∧ vs.size = cs.length ∧ ∀ (i : Nat) c v, cs[i]? = some c → vs[i]? = some v → RC F γ c v
  | .arr cap _ es, .arr none cap' => cap = 0 ∧ cap' = 0 ∧ es = []
  | .arr cap size es, .arr (some b) cap' => cap' = cap ∧ es.length ≤ cap ∧ (∀ e ∈ es, e.length = size) ∧
      ∃ (vs : Array Value) (T : TypeId), w.heap[b]? = some (.cells vs T (0, 0)) ∧ vs.size = cap * size ∧
        ∀ (i j : Nat) e d v, es[i]? = some e → e[j]? = some d → vs[i * size + j]? = some v → RD F d v
  | .dead, .dead => True
  | _, _ => False

def blkAt (γ : List OI) (i : Nat) : Option Nat := (γ[i]?).bind OI.blk

structure Inv (F : Fz) (γ : List OI) (hp : List AObj) (w : World) : Prop where
  fz : ∀ b o, F b = some o → w.heap[b]? = some o
  len : γ.length = hp.length
  nd : ∀ i j b, blkAt γ i = some b → blkAt γ j = some b → i = j
  disj : ∀ i b, blkAt γ i = some b → F b = none
  ok : ∀ (i : Nat) o x, hp[i]? = some o → γ[i]? = some x → OK F γ w o x

structure Ext (k : Nat) (F : Fz) (γ : List OI) (w : World) (F' : Fz) (γ' : List OI) (w' : World) : Prop where
  sub : F.sub F'
  os : w'.os = w.os
  tape : w'.tape = w.tape
  output : w'.output = w.output
  size : w.heap.size ≤ w'.heap.size
  far : ∀ b, b < w.heap.size → (∀ i, blkAt γ i ≠ some b) → w'.heap[b]? = w.heap[b]?
  new : ∀ b o, F' b = some o → F b = some o ∨ w.heap.size ≤ b ∨ ∃ i, blkAt γ i = some b
  blk : ∀ i b, blkAt γ' i = some b → (∃ j, blkAt γ j = some b) ∨ w.heap.size ≤ b
  box : ∀ i, i < k → ∀ b, γ[i]? = some (.box b) → γ'[i]? = some (.box b)

theorem Ext.refl (k : Nat) (F : Fz) (γ : List OI) (w : World) : Ext k F γ w F γ w :=
  ⟨fun _ _ h => h, rfl, rfl, rfl, Nat.le_refl _, fun _ _ _ => rfl, fun _ _ h => .inl h, fun i _ h => .inl ⟨i, h⟩, fun _ _ _ h => h⟩

theorem Ext.trans {k : Nat} {F F1 F2 : Fz} {γ γ1 γ2 : List OI} {w w1 w2 : World} (h : Ext k F γ w F1 γ1 w1) (g : Ext k F1 γ1 w1 F2 γ2 w2) : Ext k F γ w F2 γ2 w2 := by
  refine ⟨fun b o hb => g.sub b o (h.sub b o hb), g.os.trans h.os, g.tape.trans h.tape, g.output.trans h.output, Nat.le_trans h.size g.size, ?_, ?_, ?_, ?_⟩
  · intro b hb hn
    rw [g.far b (Nat.lt_of_lt_of_le hb h.size) ?_, h.far b hb hn]
    intro i hi
    rcases h.blk i b hi with ⟨j, hj⟩ | hge
    · exact hn j hj
    · omega
  · intro b o hb
    rcases g.new b o hb with h1 | h1 | ⟨i, hi⟩
    · exact h.new b o h1
    · exact .inr (.inl (Nat.le_trans h.size h1))
    · rcases h.blk i b hi with hj | hge
      · exact .inr (.inr hj)
      · exact .inr (.inl hge)
  · intro i b hb
    rcases g.blk i b hb with ⟨j, hj⟩ | hge
    · exact h.blk j b hj
    · exact .inr (Nat.le_trans h.size hge)
  · intro i hi b hb
    exact g.box i hi b (h.box i hi b hb)

theorem Ext.le {k k' : Nat} {F F' : Fz} {γ γ' : List OI} {w w' : World} (h : Ext k F γ w F' γ' w') (hk : k' ≤ k) : Ext k' F γ w F' γ' w' :=
  ⟨h.sub, h.os, h.tape, h.output, h.size, h.far, h.new, h.blk, fun i hi => h.box i (Nat.lt_of_lt_of_le hi hk)⟩

/-- the frame's slots are as the abstract ones say -/
def Slots (F : Fz) (γ : List OI) (sl : List AV) (a : Act) : Prop :=
  a.defers = [] ∧ a.tmps.size = sl.length ∧ ∀ (i : Nat) av v, sl[i]? = some av → a.tmps[i]? = some v → RV F γ av v

end Go.Proofs.Ytginjcpblgpcoaa
