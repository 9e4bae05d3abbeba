/- The instructions that the abstract states are run by, and what each does. Conditions: none. -/
import Derived.Calls
import Derived.LoopN
import Derived.Tactics
import Derived.Orders
namespace Go.Proofs.YtmognenhkecngaaGreatDoor
section

def is1 : Value → Bool
  | .agg _ => false
  | .tuple _ => false
  | _ => true

/-- one cell of data: a value as it stands, or a slice that reads as a list of elements (each a list of cells) -/
inductive DC where
  | raw (v : Value)
  | slc (es : List (List DC))

/-- one cell: data; a pointer into a box; a slice over an array of one's own; a pointer to an element of such; a pointer to data; a function value; anything -/
inductive Cel where
  | dc (d : DC)
  | ptr (id off : Nat)
  | bld (id n : Nat)
  | ept (id i size off : Nat)
  | bls (id lo n size : Nat)
  | ref (cs : List DC)
  | mpc (es : List (Int × Value))
  | fn (f : FuncId) (caps : List Cel)
  | junk

inductive TV where
  | one (c : Cel)
  | agg (cs : List Cel)

inductive AV where
  | one (c : Cel)
  | agg (cs : List Cel)
  | tup (l : List TV)
  | junk

inductive AObj where
  | box (cs : List Cel)
  | arr (cap size : Nat) (es : List (List DC))
  | dead

structure AS where
  sl : List AV
  hp : List AObj

/-- what an object is in the world -/
inductive OI where
  | box (b : Nat)
  | arr (b : Option Nat) (cap : Nat)
  | dead

def OI.blk : OI → Option Nat
  | .box b => some b
  | .arr b _ => b
  | .dead => none

abbrev Fz := Nat → Option Obj

def Fz.cell? (F : Fz) (a : Addr) : Option Value :=
  match F a.block with
  | some (.cells c _ _) => if a.spot.isSome then none else c[a.off]?
  | _ => none

def Fz.sub (F F' : Fz) : Prop := ∀ b o, F b = some o → F' b = some o

inductive RD (F : Fz) : DC → Value → Prop where
  | raw (v : Value) (h : is1 v = true) : RD F (.raw v) v
  | nil (A : Option Addr) (c : Nat) : RD F (.slc []) (.slice A 0 c)
  | slc (b off c size : Nat) (es : List (List DC)) (g : Nat → Nat → Value)
      (hsz : ∀ e ∈ es, e.length = size)
      (hr : ∀ (i j : Nat) e d, es[i]? = some e → e[j]? = some d → RD F d (g i j))
      (hc : ∀ (i j : Nat) e d, es[i]? = some e → e[j]? = some d → F.cell? ⟨b, off + (i * size + j), none⟩ = some (g i j))
      (hcap : es.length ≤ c) : RD F (.slc es) (.slice (some ⟨b, off, none⟩) es.length c)

inductive RC (F : Fz) (γ : List OI) : Cel → Value → Prop where
  | dc (d : DC) (v : Value) (h : RD F d v) : RC F γ (.dc d) v
  | ptr (id off b : Nat) (h : γ[id]? = some (.box b)) : RC F γ (.ptr id off) (.pointer (some ⟨b, off, none⟩))
  | bldN (id cap : Nat) (h : γ[id]? = some (.arr none cap)) : RC F γ (.bld id 0) (.slice none 0 0)
  | bld (id n b cap : Nat) (h : γ[id]? = some (.arr (some b) cap)) : RC F γ (.bld id n) (.slice (some ⟨b, 0, none⟩) n cap)
  | ept (id i size off b cap : Nat) (h : γ[id]? = some (.arr (some b) cap)) : RC F γ (.ept id i size off) (.pointer (some ⟨b, i * size + off, none⟩))
  | bls (id lo n size b cap c off : Nat) (h : γ[id]? = some (.arr (some b) cap) ∨ γ[id]? = some (.box b)) (ho : n ≠ 0 → off = lo * size) (hc : n ≤ c) : RC F γ (.bls id lo n size) (.slice (some ⟨b, off, none⟩) n c)
  | ref (cs : List DC) (b off : Nat) (g : Nat → Value) (hr : ∀ (j : Nat) d, cs[j]? = some d → RD F d (g j))
      (hc : ∀ (j : Nat) d, cs[j]? = some d → F.cell? ⟨b, off + j, none⟩ = some (g j)) : RC F γ (.ref cs) (.pointer (some ⟨b, off, none⟩))
  | mpc (es : List (Int × Value)) (r clk : Nat) (ents : Array MapEntry) (h : F r = some (.map ents clk)) (he : ents.toList.map (fun e => (e.key, e.val)) = es.map (fun p => (Value.int .i64 p.1, p.2)))
      (h1 : ∀ p ∈ es, is1 p.2 = true) : RC F γ (.mpc es) (.map (some r))
  | fn (f : FuncId) (caps : List Cel) (g : Nat → Value) (hr : ∀ (i : Nat) c, caps[i]? = some c → RC F γ c (g i)) :
      RC F γ (.fn f caps) (.func (.func f) #[] ((List.range caps.length).map g).toArray)
  | junk (v : Value) (h : is1 v = true) : RC F γ .junk v

inductive RT (F : Fz) (γ : List OI) : TV → Value → Prop where
  | one (c : Cel) (v : Value) (h : RC F γ c v) : RT F γ (.one c) v
  | agg (cs : List Cel) (vs : Array Value) (hs : vs.size = cs.length) (h : ∀ (i : Nat) c v, cs[i]? = some c → vs[i]? = some v → RC F γ c v) : RT F γ (.agg cs) (.agg vs)

inductive RV (F : Fz) (γ : List OI) : AV → Value → Prop where
  | one (c : Cel) (v : Value) (h : RC F γ c v) : RV F γ (.one c) v
  | agg (cs : List Cel) (vs : Array Value) (hs : vs.size = cs.length) (h : ∀ (i : Nat) c v, cs[i]? = some c → vs[i]? = some v → RC F γ c v) : RV F γ (.agg cs) (.agg vs)
  | tup (l : List TV) (vs : Array Value) (hs : vs.size = l.length) (h : ∀ (i : Nat) t v, l[i]? = some t → vs[i]? = some v → RT F γ t v) : RV F γ (.tup l) (.tuple vs)
  | junk (v : Value) : RV F γ .junk v

theorem RD.is1 {F : Fz} {d : DC} {v : Value} (h : RD F d v) : is1 v = true := by cases h <;> first | rfl | assumption
theorem RC.is1 {F : Fz} {γ : List OI} {c : Cel} {v : Value} (h : RC F γ c v) : is1 v = true := by
  cases h <;> first | rfl | assumption | exact RD.is1 (by assumption)

theorem Fz.sub.cell {F F' : Fz} (h : F.sub F') {a : Addr} {v : Value} (hc : F.cell? a = some v) : F'.cell? a = some v := by
  unfold Fz.cell? at *
  cases hF : F a.block with
  | none => simp [hF] at hc
  | some o => rw [h _ _ hF]; rw [hF] at hc; exact hc

theorem Fz.cell_world {F : Fz} {w : World} (h : ∀ b o, F b = some o → w.heap[b]? = some o) {a : Addr} {v : Value} (hc : F.cell? a = some v) : w.cell? a = some v := by
  unfold Fz.cell? at hc
  unfold World.cell?
  cases hF : F a.block with
  | none => simp [hF] at hc
  | some o => rw [h _ _ hF]; rw [hF] at hc; exact hc

theorem RD.mono {F F' : Fz} (hs : F.sub F') {d : DC} {v : Value} (h : RD F d v) : RD F' d v := by
  induction h with
  | raw v h => exact .raw v h
  | nil A c => exact .nil A c
  | slc b off c size es g hsz hr hc hcap ih => exact .slc b off c size es g hsz (fun i j e d h1 h2 => ih i j e d h1 h2) (fun i j e d h1 h2 => hs.cell (hc i j e d h1 h2)) hcap

mutual
/-- does the cell name no object of p? -/
def Cel.keep (p : Nat → Bool) : Cel → Bool
  | .ptr id _ => !p id
  | .bld id _ => !p id
  | .ept id _ _ _ => !p id
  | .bls id _ _ _ => !p id
  | .fn _ caps => keepL p caps
  | .dc _ => true
  | .ref _ => true
  | .mpc _ => true
  | .junk => true
def keepL (p : Nat → Bool) : List Cel → Bool
  | [] => true
  | c :: cs => c.keep p && keepL p cs
end

theorem keepL_get {p : Nat → Bool} : ∀ {cs : List Cel} {i : Nat} {c : Cel}, keepL p cs = true → cs[i]? = some c → c.keep p = true
  | [], _, _, _, h => by simp at h
  | c :: cs, 0, c', h, h' => by simp [keepL] at h h'; rw [← h']; exact h.1
  | c :: cs, i + 1, c', h, h' => by simp [keepL] at h h'; exact keepL_get h.2 h'

theorem RC.mono {F F' : Fz} {γ γ' : List OI} (hs : F.sub F') {p : Nat → Bool} (hg : ∀ (id : Nat) (o : OI), p id = false → γ[id]? = some o → γ'[id]? = some o)
    {c : Cel} {v : Value} (h : RC F γ c v) : c.keep p = true → RC F' γ' c v := by
  induction h with
  | dc d v h => intro _; exact .dc d v (h.mono hs)
  | ptr id off b h => intro hk; exact .ptr id off b (hg _ _ (by simpa [Cel.keep] using hk) h)
  | bldN id cap h => intro hk; exact .bldN id cap (hg _ _ (by simpa [Cel.keep] using hk) h)
  | bld id n b cap h => intro hk; exact .bld id n b cap (hg _ _ (by simpa [Cel.keep] using hk) h)
  | ept id i size off b cap h => intro hk; exact .ept id i size off b cap (hg _ _ (by simpa [Cel.keep] using hk) h)
  | bls id lo n size b cap c off h ho hc => intro hk; exact .bls id lo n size b cap c off (h.imp (hg _ _ (by simpa [Cel.keep] using hk)) (hg _ _ (by simpa [Cel.keep] using hk))) ho hc
  | ref cs b off g hr hc => intro _; exact .ref cs b off g (fun j d h => (hr j d h).mono hs) (fun j d h => hs.cell (hc j d h))
  | mpc es r clk ents h he h1 => intro _; exact .mpc es r clk ents (hs _ _ h) he h1
  | fn f caps g hr ih => intro hk; exact .fn f caps g (fun i c h => ih i c h (keepL_get (by simpa [Cel.keep] using hk) h))
  | junk v h => intro _; exact .junk v h

def killC (p : Nat → Bool) (c : Cel) : Cel := if c.keep p then c else .junk
def killT (p : Nat → Bool) : TV → TV
  | .one c => .one (killC p c)
  | .agg cs => .agg (cs.map (killC p))
def killV (p : Nat → Bool) : AV → AV
  | .one c => .one (killC p c)
  | .agg cs => .agg (cs.map (killC p))
  | .tup l => .tup (l.map (killT p))
  | .junk => .junk
def killO (p : Nat → Bool) : AObj → AObj
  | .box cs => .box (cs.map (killC p))
  | o => o

section
variable {F F' : Fz} {γ γ' : List OI} {p : Nat → Bool}

theorem RC.kill (hs : F.sub F') (hg : ∀ (id : Nat) (o : OI), p id = false → γ[id]? = some o → γ'[id]? = some o) {c : Cel} {v : Value} (h : RC F γ c v) : RC F' γ' (killC p c) v := by
  unfold killC
  split
  · exact h.mono hs hg (by assumption)
  · exact .junk v h.is1

theorem RCs.kill (hs : F.sub F') (hg : ∀ (id : Nat) (o : OI), p id = false → γ[id]? = some o → γ'[id]? = some o) {cs : List Cel} {vs : Array Value}
    (h : ∀ (i : Nat) c v, cs[i]? = some c → vs[i]? = some v → RC F γ c v) : ∀ (i : Nat) c v, (cs.map (killC p))[i]? = some c → vs[i]? = some v → RC F' γ' c v := by
  intro i c v hc hv
  rw [List.getElem?_map] at hc
  cases hci : cs[i]? with
  | none => simp [hci] at hc
  | some c0 => simp [hci] at hc; subst hc; exact (h i c0 v hci hv).kill hs hg

theorem RT.kill (hs : F.sub F') (hg : ∀ (id : Nat) (o : OI), p id = false → γ[id]? = some o → γ'[id]? = some o) {t : TV} {v : Value} (h : RT F γ t v) : RT F' γ' (killT p t) v := by
  cases h with
  | one c v h => exact .one _ _ (h.kill hs hg)
  | agg cs vs hsz h => exact .agg _ _ (by simpa using hsz) (RCs.kill hs hg h)

theorem RV.kill (hs : F.sub F') (hg : ∀ (id : Nat) (o : OI), p id = false → γ[id]? = some o → γ'[id]? = some o) {a : AV} {v : Value} (h : RV F γ a v) : RV F' γ' (killV p a) v := by
  cases h with
  | one c v h => exact .one _ _ (h.kill hs hg)
  | agg cs vs hsz h => exact .agg _ _ (by simpa using hsz) (RCs.kill hs hg h)
  | tup l vs hsz h =>
    refine .tup _ _ (by simpa using hsz) (fun i t v ht hv => ?_)
    rw [List.getElem?_map] at ht
    cases hti : l[i]? with
    | none => simp [hti] at ht
    | some t0 => simp [hti] at ht; subst ht; exact (h i t0 v hti hv).kill hs hg
  | junk v => exact .junk v

theorem Cel.keep_none (c : Cel) : c.keep (fun _ => false) = true := by
  have key : ∀ n, ∀ c : Cel, SizeOf.sizeOf c ≤ n → c.keep (fun _ => false) = true := by
    intro n
    induction n with
    | zero => intro c h; cases c <;> simp at h
    | succ n ih =>
      intro c h
      cases c with
      | fn f caps =>
        simp only [Cel.keep]
        have : ∀ cs : List Cel, SizeOf.sizeOf cs ≤ n → keepL (fun _ => false) cs = true := by
          intro cs
          induction cs with
          | nil => intro _; rfl
          | cons x xs ihx =>
            intro hx
            simp at hx
            simp [keepL, ih x (by omega), ihx (by omega)]
        exact this caps (by simp at h; omega)
      | _ => simp [Cel.keep]
  exact key _ c (Nat.le_refl _)

theorem RC.ext (hs : F.sub F') (hg : ∀ (id : Nat) (o : OI), γ[id]? = some o → γ'[id]? = some o) {c : Cel} {v : Value} (h : RC F γ c v) : RC F' γ' c v :=
  h.mono (p := fun _ => false) hs (fun id o _ h => hg id o h) (Cel.keep_none c)
theorem RT.ext (hs : F.sub F') (hg : ∀ (id : Nat) (o : OI), γ[id]? = some o → γ'[id]? = some o) {t : TV} {v : Value} (h : RT F γ t v) : RT F' γ' t v := by
  cases h with
  | one c v h => exact .one _ _ (h.ext hs hg)
  | agg cs vs hsz h => exact .agg _ _ hsz (fun i c v h1 h2 => (h i c v h1 h2).ext hs hg)
theorem RV.ext (hs : F.sub F') (hg : ∀ (id : Nat) (o : OI), γ[id]? = some o → γ'[id]? = some o) {a : AV} {v : Value} (h : RV F γ a v) : RV F' γ' a v := by
  cases h with
  | one c v h => exact .one _ _ (h.ext hs hg)
  | agg cs vs hsz h => exact .agg _ _ hsz (fun i c v h1 h2 => (h i c v h1 h2).ext hs hg)
  | tup l vs hsz h => exact .tup _ _ hsz (fun i t v h1 h2 => (h i t v h1 h2).ext hs hg)
  | junk v => exact .junk v
end

/-- an object as the world has it -/
def OK (F : Fz) (γ : List OI) (w : World) : AObj → OI → Prop
  | .box cs, .box b => ∃ (vs : Array Value) (T : TypeId), w.heap[b]? = some (.cells vs T (0, 0)) ∧ vs.size = cs.length ∧ ∀ (i : Nat) c v, cs[i]? = some c → vs[i]? = some v → RC F γ c v
  | .arr cap _ es, .arr none cap' => cap = 0 ∧ cap' = 0 ∧ es = []
  | .arr cap size es, .arr (some b) cap' => cap' = cap ∧ es.length ≤ cap ∧ (∀ e ∈ es, e.length = size) ∧
      ∃ (vs : Array Value) (T : TypeId), w.heap[b]? = some (.cells vs T (0, 0)) ∧ vs.size = cap * size ∧
        ∀ (i j : Nat) e d v, es[i]? = some e → e[j]? = some d → vs[i * size + j]? = some v → RD F d v
  | .dead, .dead => True
  | _, _ => False

def blkAt (γ : List OI) (i : Nat) : Option Nat := (γ[i]?).bind OI.blk

structure Inv (F : Fz) (γ : List OI) (hp : List AObj) (w : World) : Prop where
  fz : ∀ b o, F b = some o → w.heap[b]? = some o
  len : γ.length = hp.length
  nd : ∀ i j b, blkAt γ i = some b → blkAt γ j = some b → i = j
  disj : ∀ i b, blkAt γ i = some b → F b = none
  ok : ∀ (i : Nat) o x, hp[i]? = some o → γ[i]? = some x → OK F γ w o x

structure Ext (k : Nat) (F : Fz) (γ : List OI) (w : World) (F' : Fz) (γ' : List OI) (w' : World) : Prop where
  sub : F.sub F'
  os : w'.os = w.os
  tape : w'.tape = w.tape
  output : w'.output = w.output
  size : w.heap.size ≤ w'.heap.size
  far : ∀ b, b < w.heap.size → (∀ i, blkAt γ i ≠ some b) → w'.heap[b]? = w.heap[b]?
  new : ∀ b o, F' b = some o → F b = some o ∨ w.heap.size ≤ b ∨ ∃ i, blkAt γ i = some b
  blk : ∀ i b, blkAt γ' i = some b → (∃ j, blkAt γ j = some b) ∨ w.heap.size ≤ b
  box : ∀ i, i < k → ∀ b, γ[i]? = some (.box b) → γ'[i]? = some (.box b)

theorem Ext.refl (k : Nat) (F : Fz) (γ : List OI) (w : World) : Ext k F γ w F γ w :=
  ⟨fun _ _ h => h, rfl, rfl, rfl, Nat.le_refl _, fun _ _ _ => rfl, fun _ _ h => .inl h, fun i _ h => .inl ⟨i, h⟩, fun _ _ _ h => h⟩

theorem Ext.trans {k : Nat} {F F1 F2 : Fz} {γ γ1 γ2 : List OI} {w w1 w2 : World} (h : Ext k F γ w F1 γ1 w1) (g : Ext k F1 γ1 w1 F2 γ2 w2) : Ext k F γ w F2 γ2 w2 := by
  refine ⟨fun b o hb => g.sub b o (h.sub b o hb), g.os.trans h.os, g.tape.trans h.tape, g.output.trans h.output, Nat.le_trans h.size g.size, ?_, ?_, ?_, ?_⟩
  · intro b hb hn
    rw [g.far b (Nat.lt_of_lt_of_le hb h.size) ?_, h.far b hb hn]
    intro i hi
    rcases h.blk i b hi with ⟨j, hj⟩ | hge
    · exact hn j hj
    · omega
  · intro b o hb
    rcases g.new b o hb with h1 | h1 | ⟨i, hi⟩
    · exact h.new b o h1
    · exact .inr (.inl (Nat.le_trans h.size h1))
    · rcases h.blk i b hi with hj | hge
      · exact .inr (.inr hj)
      · exact .inr (.inl hge)
  · intro i b hb
    rcases g.blk i b hb with ⟨j, hj⟩ | hge
    · exact h.blk j b hj
    · exact .inr (Nat.le_trans h.size hge)
  · intro i hi b hb
    exact g.box i hi b (h.box i hi b hb)

theorem Ext.le {k k' : Nat} {F F' : Fz} {γ γ' : List OI} {w w' : World} (h : Ext k F γ w F' γ' w') (hk : k' ≤ k) : Ext k' F γ w F' γ' w' :=
  ⟨h.sub, h.os, h.tape, h.output, h.size, h.far, h.new, h.blk, fun i hi => h.box i (Nat.lt_of_lt_of_le hi hk)⟩

/-- the frame's slots are as the abstract ones say -/
def Slots (F : Fz) (γ : List OI) (sl : List AV) (a : Act) : Prop :=
  a.defers = [] ∧ a.tmps.size = sl.length ∧ ∀ (i : Nat) av v, sl[i]? = some av → a.tmps[i]? = some v → RV F γ av v

end
section

inductive AArg where
  | t (n : Nat) | k (v : Value) | g (n : Nat) | f (n : FuncId)

inductive EK where
  | b | i | s

inductive AI where
  | mov (x : AArg) | pick (c a b : AArg)
  | alloc (zero : List Value) | box (x : AArg)
  | load (isAgg : Bool) (size : Nat) (x : AArg) | store (size : Nat) (x v : AArg)
  | nilc (x : AArg) | bin (op : BinOp) (x y : AArg) | un (op : UnOp) (x : AArg)
  | binb (neg : Bool) (x y : AArg) | eqs (neg : Bool) (ks : List EK) (x y : AArg)
  | conv (k : IntKind) (x : AArg) | cvid (x : AArg) | cvbs (x : AArg)
  | addo (off : Nat) (x : AArg) | fld (isAgg : Bool) (size off : Nat) (x : AArg)
  | ixA (n size : Nat) (x i : AArg) | ixL (size : Nat) (x i : AArg) | ixS (x i : AArg)
  | slS (x : AArg) (lo hi : Option AArg) | slL (size : Nat) (x : AArg) (lo hi : Option AArg)
  | bslc (size len : Nat) (zero : List Value) (parts : List (Nat × AArg))
  | build (zero : List Value) (parts : List (Nat × Nat × AArg))
  | ext (x : AArg) (n : Nat) | lenS (x : AArg) | lenL (x : AArg) | lenA (n : Nat)
  | min2 (x y : AArg) | max2 (x y : AArg)
  | mkfn (f : FuncId) (caps : List AArg)
  | call (f : FuncId) (args : List AArg) | callv (x : AArg) (args : List AArg)
  | app (size bytes : Nat) (zero : List Value) (s x : AArg) | apps (s x : AArg)
  | mk (size bytes : Nat) (zero : List Value) (l c : AArg)
  | clr (size : Nat) (zero : List Value) (x : AArg)
  | isnil (p neg : Bool) (x : AArg)
  | mpx (ok : Bool) (zero : Value) (x k : AArg)
  | cpys (d x : AArg) | cvsb (x : AArg) | slA (n size : Nat) (x : AArg) (lo hi : Option AArg)

structure AOp where
  dst : Option Nat
  ai : AI
  guard : Option (Nat × Bool)

abbrev Glob := Nat → Option (List DC)

abbrev rawC (v : Value) : Cel := .dc (.raw v)
abbrev rawV (v : Value) : AV := .one (.dc (.raw v))

def avOf : Value → AV
  | .agg cs => if cs.toList.all is1 then .agg (cs.toList.map rawC) else .junk
  | .tuple _ => .junk
  | v => rawV v

def evA (G : Glob) (sl : List AV) : AArg → AV
  | .t n => sl.getD n .junk
  | .k v => avOf v
  | .g n => match G n with | some cs => .one (.ref cs) | none => .junk
  | .f n => .one (.fn n [])

def asRaw : AV → Option Value
  | .one (.dc (.raw v)) => some v
  | _ => none
def asInt? : AV → Option Int
  | .one (.dc (.raw (.int _ n))) => some n
  | _ => none
def asBool? : AV → Option Bool
  | .one (.dc (.raw (.bool b))) => some b
  | _ => none
def asStr? : AV → Option ByteArray
  | .one (.dc (.raw (.string b))) => some b
  | _ => none

def cellsOf : AV → Option (List Cel)
  | .one c => some [c]
  | .agg cs => some cs
  | _ => none

def pack (isAgg : Bool) (cs : List Cel) : Option AV :=
  match isAgg, cs with
  | true, cs => some (.agg cs)
  | false, [c] => some (.one c)
  | _, _ => none

def eqR : EK → Value → Value → Option Bool
  | .b, .bool a, .bool b => some (a == b)
  | .i, .int j a, .int k b => if j = k then some (a == b) else none
  | .s, .string a, .string b => some (a.toList == b.toList)
  | _, _, _ => none

def eqCs : List EK → List Cel → List Cel → Option Bool
  | [], [], [] => some true
  | k :: ks, .dc (.raw a) :: as, .dc (.raw b) :: bs => (eqR k a b).bind fun x => (eqCs ks as bs).bind fun y => some (x && y)
  | _, _, _ => none

def intOp (op : BinOp) (k : IntKind) (a b : Int) : Option Value :=
  match op with
  | .add => some (.int k (k.wrap (a + b)))
  | .sub => some (.int k (k.wrap (a - b)))
  | .mul => some (.int k (k.wrap (a * b)))
  | .quo => if b = 0 then none else some (.int k (k.wrap (a.tdiv b)))
  | .rem => if b = 0 then none else some (.int k (a.tmod b))
  | .and => some (.int k (k.wrap (BitVec.ofInt k.bits a &&& BitVec.ofInt k.bits b).toNat))
  | .or => some (.int k (k.wrap (BitVec.ofInt k.bits a ||| BitVec.ofInt k.bits b).toNat))
  | .xor => some (.int k (k.wrap (BitVec.ofInt k.bits a ^^^ BitVec.ofInt k.bits b).toNat))
  | .andNot => some (.int k (k.wrap (BitVec.ofInt k.bits a &&& ~~~BitVec.ofInt k.bits b).toNat))
  | .eql => some (.bool (a == b))
  | .neq => some (.bool (a != b))
  | .lss => some (.bool (a < b))
  | .leq => some (.bool (a ≤ b))
  | .gtr => some (.bool (a > b))
  | .geq => some (.bool (a ≥ b))
  | _ => none

def strOp (op : BinOp) (a b : ByteArray) : Option Value :=
  match op with
  | .add => if a.size + b.size ≤ 9223372036854775807 then some (.string (a ++ b)) else none
  | .eql => some (.bool (a.toList == b.toList))
  | .neq => some (.bool !(a.toList == b.toList))
  | .lss => some (.bool (Op.bytesLess a.toList b.toList))
  | .leq => some (.bool (Op.bytesLess a.toList b.toList || a.toList == b.toList))
  | .gtr => some (.bool !(Op.bytesLess a.toList b.toList || a.toList == b.toList))
  | .geq => some (.bool !(Op.bytesLess a.toList b.toList))
  | _ => none

def binV (op : BinOp) (x y : AV) : Option AV :=
  match x, y with
  | .one (.dc (.raw (.int j a))), .one (.dc (.raw (.int k b))) =>
    match op with
    | .shl => if b < 0 then none else some (rawV (.int j (j.wrap (a * 2 ^ (min b.toNat j.bits)))))
    | .shr => if b < 0 then none else some (rawV (.int j (a.fdiv (2 ^ (min b.toNat j.bits)))))
    | op => if j = k then (intOp op j a b).map rawV else none
  | .one (.dc (.raw (.string a))), .one (.dc (.raw (.string b))) => (strOp op a b).map rawV
  | _, _ => none

def binbV (neg : Bool) (x y : AV) : Option AV :=
  match x, y with
  | .one (.dc (.raw (.bool a))), .one (.dc (.raw (.bool b))) => some (rawV (.bool (if neg then !(a == b) else a == b)))
  | _, _ => none

def eqsV (neg : Bool) (ks : List EK) (x y : AV) : Option AV :=
  match x, y with
  | .agg as, .agg bs => (eqCs ks as bs).map fun b => rawV (.bool (if neg then !b else b))
  | _, _ => none

def unV (op : UnOp) (x : AV) : Option AV :=
  match op, x with
  | .neg, .one (.dc (.raw (.int k n))) => some (rawV (.int k (k.wrap (0 - n))))
  | .not, .one (.dc (.raw (.bool b))) => some (rawV (.bool !b))
  | .xor, .one (.dc (.raw (.int k n))) => (intOp .xor k (if k.signed then -1 else k.max) n).map rawV
  | _, _ => none

def addoV (off : Nat) : AV → Option AV
  | .one (.ptr id o) => some (.one (.ptr id (o + off)))
  | .one (.ept id i s o) => some (.one (.ept id i s (o + off)))
  | .one (.ref cs) => some (.one (.ref (cs.drop off)))
  | _ => none

def hpGet (hp : List AObj) (id : Nat) : AObj := hp.getD id .dead

def loadV (hp : List AObj) (isAgg : Bool) (size : Nat) : AV → Option AV
  | .one (.ptr id o) =>
    match hpGet hp id with
    | .box cs => if o + size ≤ cs.length then pack isAgg ((cs.drop o).take size) else none
    | _ => none
  | .one (.ept id i s o) =>
    match hpGet hp id with
    | .arr _ s' es =>
      match es[i]? with
      | some e => if s = s' ∧ o + size ≤ e.length then pack isAgg (((e.drop o).take size).map .dc) else none
      | none => none
    | _ => none
  | .one (.ref cs) => if size ≤ cs.length then pack isAgg ((cs.take size).map .dc) else none
  | _ => none

def fldV (isAgg : Bool) (size off : Nat) : AV → Option AV
  | .agg cs => if off + size ≤ cs.length then pack isAgg ((cs.drop off).take size) else none
  | _ => none

def ixAV (n size : Nat) (x : AV) (i : Int) : Option AV :=
  if 0 ≤ i ∧ i < n then addoV (i.toNat * size) x else none

def ixLV (hp : List AObj) (size : Nat) (x : AV) (i : Int) : Option AV :=
  match x with
  | .one (.dc (.slc es)) =>
    if 0 ≤ i then
      match es[i.toNat]? with
      | some e => if e.length = size then some (.one (.ref e)) else none
      | none => none
    else none
  | .one (.bld id n) =>
    match hpGet hp id with
    | .arr _ s es => if 0 ≤ i ∧ i < n ∧ n ≤ es.length ∧ s = size then some (.one (.ept id i.toNat size 0)) else none
    | _ => none
  | .one (.bls id k n z) =>
    match hpGet hp id with
    | .arr _ s es => if 0 ≤ i ∧ i < n ∧ k + n ≤ es.length ∧ s = size ∧ z = size then some (.one (.ept id (k + i.toNat) size 0)) else none
    | .box _ => if 0 ≤ i ∧ i < n ∧ z = size then some (.one (.ptr id ((k + i.toNat) * size))) else none
    | _ => none
  | _ => none

def ixSV (x : AV) (i : Int) : Option AV :=
  match asStr? x with
  | some s => if 0 ≤ i then match s.data.toList[i.toNat]? with | some b => some (rawV (.int .u8 b.toNat)) | none => none else none
  | none => none

def bound (x : Option AV) (top dflt : Nat) : Option Nat :=
  match x with
  | none => some dflt
  | some v => match asInt? v with | some i => if 0 ≤ i ∧ i ≤ top then some i.toNat else none | none => none

def slSV (x : AV) (lo hi : Option AV) : Option AV :=
  (asStr? x).bind fun s => (bound hi s.size s.size).bind fun h => (bound lo h 0).bind fun l => some (rawV (.string (s.extract l h)))

def slLV (hp : List AObj) (size : Nat) (x : AV) (lo hi : Option AV) : Option AV :=
  match x with
  | .one (.dc (.slc es)) =>
    (bound hi es.length es.length).bind fun h => (bound lo h 0).bind fun l => if es.all (fun e => e.length = size) then some (.one (.dc (.slc ((es.take h).drop l)))) else none
  | .one (.dc (.raw (.slice none 0 0))) =>
    (bound hi 0 0).bind fun h => (bound lo h 0).bind fun _ => some x
  | .one (.bld id n) =>
    match hpGet hp id, lo with
    | .arr _ _ es, none => if n ≤ es.length then (bound hi n n).bind fun h => some (.one (.bld id h)) else none
    | .arr _ s es, some lo => if n ≤ es.length ∧ s = size then (bound hi n n).bind fun h => (bound (some lo) h 0).bind fun l => some (.one (if l = 0 then .bld id h else .bls id l (h - l) size)) else none
    | _, _ => none
  | .one (.bls id k n s) =>
    match hpGet hp id with
    | .arr _ s' es => if k + n ≤ es.length ∧ s' = size ∧ s = size then (bound hi n n).bind fun h => (bound lo h 0).bind fun l => some (.one (.bls id (k + l) (h - l) size)) else none
    | .box _ => if s = size then (bound hi n n).bind fun h => (bound lo h 0).bind fun l => some (.one (.bls id (k + l) (h - l) size)) else none
    | _ => none
  | _ => none

/-- a slice of an array in a box -/
def slAV (n size : Nat) (x : AV) (lo hi : Option AV) : Option AV :=
  match x with
  | .one (.ptr id off) => if off % size = 0 then (bound hi n n).bind fun h => (bound lo h 0).bind fun l => some (.one (.bls id (off / size + l) (h - l) size)) else none
  | _ => none

def lenLV : AV → Option AV
  | .one (.dc (.slc es)) => some (rawV (.int .i64 es.length))
  | .one (.dc (.raw (.slice _ n _))) => some (rawV (.int .i64 n))
  | .one (.bld _ n) => some (rawV (.int .i64 n))
  | .one (.bls _ _ n _) => some (rawV (.int .i64 n))
  | _ => none

def putAt (cs : List Cel) (off : Nat) (vs : List Cel) : List Cel := cs.take off ++ vs ++ cs.drop (off + vs.length)

def fillV (zero : List Cel) : List (Nat × Nat × AV) → Option (List Cel)
  | [] => some zero
  | (off, size, v) :: rest => (cellsOf v).bind fun vs => if vs.length = size ∧ off + size ≤ zero.length then fillV (putAt zero off vs) rest else none

def extV (x : AV) (n : Nat) : Option AV :=
  match x with
  | .tup l => match l[n]? with | some (.one c) => some (.one c) | some (.agg cs) => some (.agg cs) | none => none
  | _ => none

def minV (x y : AV) : Option AV :=
  match x, y with
  | .one (.dc (.raw (.int k a))), .one (.dc (.raw (.int _ b))) => some (rawV (.int k (if b < a then b else a)))
  | _, _ => none
def maxV (x y : AV) : Option AV :=
  match x, y with
  | .one (.dc (.raw (.int k a))), .one (.dc (.raw (.int _ b))) => some (rawV (.int k (if b > a then b else a)))
  | _, _ => none

def nilcV : AV → Option AV
  | .one (.ptr id o) => some (.one (.ptr id o))
  | .one (.ept id i s o) => some (.one (.ept id i s o))
  | .one (.ref cs) => some (.one (.ref cs))
  | _ => none

/-- is a slice nil? a pointer? of an empty slice it isn't known -/
def nilS : AV → Option Bool
  | .one (.dc (.raw (.slice none 0 0))) => some true
  | .one (.dc (.slc (_ :: _))) => some false
  | .one (.bld _ (_ + 1)) => some false
  | .one (.bls _ _ _ _) => some false
  | _ => none
def nilP : AV → Option Bool
  | .one (.dc (.raw (.pointer none))) => some true
  | .one (.ptr _ _) => some false
  | .one (.ept _ _ _ _) => some false
  | .one (.ref _) => some false
  | _ => none
def nilV (p neg : Bool) (v : AV) : Option AV := (bif p then nilP v else nilS v).map fun b => rawV (.bool (b != neg))

/-- an entry of a map with numbers as keys -/
def mpGet : List (Int × Value) → Int → Option Value
  | [], _ => none
  | (a, v) :: es, k => if a = k then some v else mpGet es k
def mpR : Bool → Value → Option Value → AV
  | true, _, some v => .tup [.one (rawC v), .one (rawC (.bool true))]
  | true, z, none => .tup [.one (rawC z), .one (rawC (.bool false))]
  | false, _, some v => rawV v
  | false, z, none => rawV z
def mpxV (ok : Bool) (z : Value) : AV → AV → Option AV
  | .one (.mpc es), .one (.dc (.raw (.int .i64 k))) => some (mpR ok z (mpGet es k))
  | _, _ => none

def pickV (c a b : AV) : Option AV :=
  match asBool? c with
  | some c => some (if c then a else b)
  | none => none

def dcs : List Cel → Option (List DC)
  | [] => some []
  | .dc d :: cs => (dcs cs).map (d :: ·)
  | _ => none

/-- the bytes of a slice of bytes -/
def bytesOf (es : List (List DC)) : Option (List UInt8) :=
  match es with
  | [] => some []
  | [.raw (.int .u8 n)] :: rest => (bytesOf rest).map (UInt8.ofNat n.toNat :: ·)
  | _ => none

def bytesC : List Cel → Option (List UInt8)
  | [] => some []
  | .dc (.raw (.int .u8 n)) :: rest => (bytesC rest).map (UInt8.ofNat n.toNat :: ·)
  | _ => none

def cvbsV (hp : List AObj) : AV → Option AV
  | .one (.dc (.slc es)) => (bytesOf es).map fun l => rawV (.string ⟨l.toArray⟩)
  | .one (.dc (.raw (.slice none _ _))) => some (rawV (.string ⟨#[]⟩))
  | .one (.bld id n) =>
    match hpGet hp id with
    | .arr _ _ es => if n ≤ es.length then (bytesOf (es.take n)).map fun l => rawV (.string ⟨l.toArray⟩) else none
    | _ => none
  | .one (.bls id k n z) =>
    match hpGet hp id with
    | .box cs => if z = 1 ∧ k + n ≤ cs.length then (bytesC ((cs.drop k).take n)).map fun l => rawV (.string ⟨l.toArray⟩) else none
    | _ => none
  | _ => none

def oneOf : AV → Option Cel
  | .one c => some c
  | _ => none

/-- what an instruction that changes nothing gives -/
def evP (G : Glob) (as : AS) : AI → Option AV
  | .mov x => some (evA G as.sl x)
  | .pick c a b => pickV (evA G as.sl c) (evA G as.sl a) (evA G as.sl b)
  | .load g s x => loadV as.hp g s (evA G as.sl x)
  | .nilc x => nilcV (evA G as.sl x)
  | .isnil p n x => nilV p n (evA G as.sl x)
  | .mpx ok z x k => mpxV ok z (evA G as.sl x) (evA G as.sl k)
  | .bin op x y => binV op (evA G as.sl x) (evA G as.sl y)
  | .binb n x y => binbV n (evA G as.sl x) (evA G as.sl y)
  | .eqs n ks x y => eqsV n ks (evA G as.sl x) (evA G as.sl y)
  | .un op x => unV op (evA G as.sl x)
  | .conv k x => (asInt? (evA G as.sl x)).map fun n => rawV (.int k (k.wrap n))
  | .cvid x => (asStr? (evA G as.sl x)).map fun s => rawV (.string s)
  | .cvbs x => cvbsV as.hp (evA G as.sl x)
  | .addo o x => addoV o (evA G as.sl x)
  | .fld g s o x => fldV g s o (evA G as.sl x)
  | .ixA n s x i => (asInt? (evA G as.sl i)).bind fun i => ixAV n s (evA G as.sl x) i
  | .ixL s x i => (asInt? (evA G as.sl i)).bind fun i => ixLV as.hp s (evA G as.sl x) i
  | .ixS x i => (asInt? (evA G as.sl i)).bind fun i => ixSV (evA G as.sl x) i
  | .slS x lo hi => slSV (evA G as.sl x) (lo.map (evA G as.sl)) (hi.map (evA G as.sl))
  | .slL s x lo hi => slLV as.hp s (evA G as.sl x) (lo.map (evA G as.sl)) (hi.map (evA G as.sl))
  | .slA n s x lo hi => slAV n s (evA G as.sl x) (lo.map (evA G as.sl)) (hi.map (evA G as.sl))
  | .build z ps => (fillV (z.map rawC) (ps.map fun (o, s, x) => (o, s, evA G as.sl x))).map .agg
  | .ext x n => extV (evA G as.sl x) n
  | .lenS x => (asStr? (evA G as.sl x)).map fun s => rawV (.int .i64 s.size)
  | .lenL x => lenLV (evA G as.sl x)
  | .lenA n => some (rawV (.int .i64 n))
  | .min2 x y => minV (evA G as.sl x) (evA G as.sl y)
  | .max2 x y => maxV (evA G as.sl x) (evA G as.sl y)
  | .mkfn f caps => (caps.mapM fun c => oneOf (evA G as.sl c)).map fun cs => .one (.fn f cs)
  | _ => none

def putS (sl : List AV) (dst : Option Nat) (v : AV) : List AV :=
  match dst with
  | some d => sl.set d v
  | none => sl

end
end Go.Proofs.YtmognenhkecngaaGreatDoor
