/- An instruction that changes nothing gives what the model's operation gives. Conditions: none. -/
import Derived.Test.YtmognenhkecngaaGreatDoorLb
import Derived.WalkKit
namespace Go.Proofs.YtmognenhkecngaaGreatDoor
section

def argOf : Operand → AArg
  | .tmp t => .t t
  | .const v => .k v
  | .global g => .g g
  | .func f => .f f

def sizeP (P : Program) (t : TypeId) : Option Nat := (P.info? t).map (·.size)
def aggD : TypeDesc → Bool
  | .struct _ => true
  | .array _ _ => true
  | _ => false
def aggP (P : Program) (t : TypeId) : Option Bool := (P.underlying t).map aggD

def ekD : TypeDesc → Option EK
  | .bool => some .b
  | .int _ => some .i
  | .string => some .s
  | _ => none

/-- fields that can be compared cell by cell, one after the other from an offset -/
def flatFs (P : Program) : List Field → Nat → Option (List EK)
  | [], _ => some []
  | f :: fs, off => if f.offset = off ∧ f.name ≠ "_" then ((P.underlying f.type).bind ekD).bind fun k => (flatFs P fs (off + 1)).map (k :: ·) else none

def nilK : TypeDesc → Operand → Option Bool
  | .slice _, .const (.slice none 0 0) => some false
  | .pointer _, .const (.pointer none) => some true
  | _, _ => none
def compileNil (op : BinOp) (d : TypeDesc) (x y : Operand) : Option AI :=
  match op with
  | .eql => (nilK d y).map fun p => .isnil p false (argOf x)
  | .neq => (nilK d y).map fun p => .isnil p true (argOf x)
  | _ => none
def compileBin (P : Program) (op : BinOp) (t : TypeId) (x y : Operand) : Option AI :=
  match P.underlying t with
  | some .bool => match op with | .eql => some (.binb false (argOf x) (argOf y)) | .neq => some (.binb true (argOf x) (argOf y)) | _ => none
  | some (.int _) => some (.bin op (argOf x) (argOf y))
  | some .string => some (.bin op (argOf x) (argOf y))
  | some (.struct fs) =>
    if P.stoodInHeld t = false ∧ P.eqGuardType P.depth t = false then
      match op with
      | .eql => (flatFs P fs.toList 0).map fun ks => .eqs false ks (argOf x) (argOf y)
      | .neq => (flatFs P fs.toList 0).map fun ks => .eqs true ks (argOf x) (argOf y)
      | _ => none
    else none
  | some d => compileNil op d x y
  | none => none

def compileConv (P : Program) (s d : TypeId) (x : Operand) : Option AI :=
  match P.underlying s, P.underlying d with
  | some (.int _), some (.int k) => some (.conv k (argOf x))
  | some .string, some .string => some (.cvid (argOf x))
  | some (.slice e), some .string => if P.underlying e matches some (.int .u8) then some (.cvbs (argOf x)) else none
  | some .string, some (.slice e) => if P.underlying e matches some (.int .u8) then some (.cvsb (argOf x)) else none
  | _, _ => none

def fieldP (P : Program) (s : TypeId) (f : Nat) : Option Field :=
  match P.underlying s with
  | some (.struct fs) => fs[f]?
  | _ => none

def placesP (P : Program) (t : TypeId) : Option (List (Nat × Nat) ⊕ Nat) :=
  match P.underlying t with
  | some (.struct fs) => (fs.toList.mapM (fun f => (P.info? f.type).map fun i => (f.offset, i.size))).map .inl
  | some (.array _ e) => (P.info? e).map fun i => .inr i.size
  | _ => none

def placeAt (p : List (Nat × Nat) ⊕ Nat) (i : Nat) : Option (Nat × Nat) :=
  match p with
  | .inl l => l[i]?
  | .inr s => some (i * s, s)

def buildPart (p : List (Nat × Nat) ⊕ Nat) : Nat × Operand → Option (Nat × Nat × AArg)
  | (i, x) => (placeAt p i).map fun (o, s) => (o, s, argOf x)

def compileCall (P : Program) (c : Call) : Option AI :=
  match c.callee with
  | .builtin .len =>
    match c.argTypes[0]?, c.args[0]? with
    | some t, some x =>
      match P.underlying t with
      | some .string => some (.lenS (argOf x))
      | some (.slice _) => some (.lenL (argOf x))
      | some (.array n _) => some (.lenA n)
      | some (.pointer e) => match P.underlying e with | some (.array n _) => some (.lenA n) | _ => none
      | _ => none
    | _, _ => none
  | .builtin .min => match c.args.toList with | [x, y] => some (.min2 (argOf x) (argOf y)) | _ => none
  | .builtin .max => match c.args.toList with | [x, y] => some (.max2 (argOf x) (argOf y)) | _ => none
  | .builtin .append =>
    match c.argTypes.toList, c.args.toList with
    | [t, u], [s, x] =>
      match P.underlying t, P.underlying u with
      | some (.slice e), some (.slice e') =>
        if e = e' then (P.info? e).bind fun i => i.zero.bind fun z => if z.cells.size = i.size ∧ 0 < i.bytes then some (.app i.size i.bytes z.cells.toList (argOf s) (argOf x)) else none else none
      | some (.slice e), some .string => if P.underlying e matches some (.int .u8) then (P.info? e).bind fun i => i.zero.bind fun z => if i.size = 1 ∧ i.bytes = 1 ∧ z.cells.size = 1 then some (.apps (argOf s) (argOf x)) else none else none
      | _, _ => none
    | _, _ => none
  | .builtin .clear =>
    match c.argTypes.toList, c.args.toList with
    | [t], [x] =>
      match P.underlying t with
      | some (.slice e) => (P.info? e).bind fun i => i.zero.bind fun z => if z.cells.size = i.size ∧ 0 < i.size ∧ z.cells.toList.all is1 then some (.clr i.size z.cells.toList (argOf x)) else none
      | _ => none
    | _, _ => none
  | .builtin .copy =>
    match c.argTypes.toList, c.args.toList with
    | [t, u], [d, x] =>
      match P.underlying t, P.underlying u with
      | some (.slice e), some .string => if (P.info? e).map (·.size) = some 1 then some (.cpys (argOf d) (argOf x)) else none
      | _, _ => none
    | _, _ => none
  | .value (.func f) =>
    match P.funcs[f]? with
    | some fn => if fn.name == "runtime.NumGoroutine" || fn.body.isNone then none else some (.call f (c.args.toList.map argOf))
    | none => none
  | .value (.tmp t) => some (.callv (.t t) (c.args.toList.map argOf))
  | _ => none

def compileOp (P : Program) (o : Oper) : Option AI :=
  match o.op with
  | .move x => some (.mov (argOf x))
  | .assign x => some (.mov (argOf x))
  | .pick c a b => some (.pick (argOf c) (argOf a) (argOf b))
  | .alloc e => (P.info? e).bind fun i => i.zero.bind fun z => if z.cells.toList.all is1 then some (.alloc z.cells.toList) else none
  | .box _ x => some (.box (argOf x))
  | .load t x => (aggP P t).bind fun g => (sizeP P t).map fun s => .load g (if g then s else 1) (argOf x)
  | .store t x v => (sizeP P t).map fun s => .store s (argOf x) (argOf v)
  | .nilCheck x => some (.nilc (argOf x))
  | .binOp op t x y _ => compileBin P op t x y
  | .unOp op _ x => some (.un op (argOf x))
  | .convert s d x => compileConv P s d x
  | .fieldAddr s x f => (fieldP P s f).bind fun fl => (sizeP P fl.type).bind fun n => if n = 0 then none else some (.addo fl.offset (argOf x))
  | .field s x f => (fieldP P s f).bind fun fl => (aggP P fl.type).bind fun g => (sizeP P fl.type).map fun n => .fld g (if g then n else 1) fl.offset (argOf x)
  | .indexAddr t x i =>
    match P.underlying t with
    | some (.array n e) => (sizeP P e).map fun s => .ixA n s (argOf x) (argOf i)
    | some (.slice e) => (sizeP P e).map fun s => .ixL s (argOf x) (argOf i)
    | _ => none
  | .index t x i => if P.underlying t matches some .string then some (.ixS (argOf x) (argOf i)) else none
  | .slice t x lo hi none =>
    match P.underlying t with
    | some .string => some (.slS (argOf x) (lo.map argOf) (hi.map argOf))
    | some (.slice e) => (sizeP P e).map fun s => .slL s (argOf x) (lo.map argOf) (hi.map argOf)
    | some (.array n e) => (sizeP P e).bind fun s => if s = 0 then none else some (.slA n s (argOf x) (lo.map argOf) (hi.map argOf))
    | _ => none
  | .lookup t x ix ok =>
    match P.underlying t with
    | some (.map kt et) => if P.underlying kt matches some (.int .i64) then ((P.info? et).bind fun i => i.zero).bind fun z => if is1 z then some (.mpx ok z (argOf x) (argOf ix)) else none else none
    | _ => none
  | .build t ps => (placesP P t).bind fun p => (P.info? t).bind fun i => i.zero.bind fun z => if z.cells.toList.all is1 then (ps.toList.mapM (buildPart p)).map fun l => .build z.cells.toList l else none
  | .buildSlice t len ps =>
    match P.underlying t with
    | some (.slice e) => (P.info? e).bind fun i => i.zero.bind fun z => if len * i.size ≤ 16777216 ∧ z.cells.size = i.size ∧ 0 < i.size ∧ z.cells.toList.all is1 then some (.bslc i.size len z.cells.toList (ps.toList.map fun (j, x) => (j, argOf x))) else none
    | _ => none
  | .extract x n => some (.ext (argOf x) n)
  | .makeSlice t l c =>
    match P.underlying t with
    | some (.slice e) => (P.info? e).bind fun i => i.zero.bind fun z => if z.cells.size = i.size ∧ 0 < i.bytes ∧ 0 < i.size ∧ z.cells.toList.all is1 then some (.mk i.size i.bytes z.cells.toList (argOf l) (argOf c)) else none
    | _ => none
  | .makeFunc (.func f) first caps => if first.isEmpty then some (.mkfn f (caps.toList.map argOf)) else none
  | .call c => compileCall P c
  | _ => none

theorem rv_avOf (F : Fz) (γ : List OI) (v : Value) : RV F γ (avOf v) v := by
  cases v with
  | agg cs =>
    simp only [avOf]
    split
    · rename_i h
      refine .agg _ _ (by simp) (fun i c v hc hv => ?_)
      simp only [List.getElem?_map, Array.getElem?_toList, hv, Option.map_some, Option.some.injEq] at hc
      subst hc
      refine .dc _ _ (.raw _ (List.all_eq_true.1 h v (by simpa using Array.mem_of_getElem? hv)))
    · exact .junk _
  | tuple vs => exact .junk _
  | _ => exact .one _ _ (.dc _ _ (.raw _ rfl))

def GlobOK (F : Fz) (G : Glob) : Prop := ∀ g cs, G g = some cs → ∀ γ, RC F γ (.ref cs) (.pointer (some ⟨g, 0, none⟩))

theorem GlobOK.sub {F F' : Fz} {G : Glob} (h : GlobOK F G) (hs : F.sub F') : GlobOK F' G := fun g cs hg γ => (h g cs hg γ).ext hs (fun _ _ h => h)

section
variable {F : Fz} {γ : List OI} {G : Glob} {sl : List AV} {a : Act}

theorem rv_arg (hs : Slots F γ sl a) (hg : GlobOK F G) (x : Operand) : RV F γ (evA G sl (argOf x)) (a.eval x) := by
  cases x with
  | tmp t =>
    simp only [argOf, evA, Act.eval]
    obtain ⟨_, hsz, hr⟩ := hs
    rw [Array.getD_eq_getD_getElem?, List.getD_eq_getElem?_getD]
    cases hi : sl[t]? with
    | none => exact .junk _
    | some av =>
      have hlt : t < sl.length := by
        rcases Nat.lt_or_ge t sl.length with h | h
        · exact h
        · rw [List.getElem?_eq_none h] at hi; cases hi
      have hlt2 : t < a.tmps.size := hsz ▸ hlt
      have hv : a.tmps[t]? = some (a.tmps[t]'hlt2) := Array.getElem?_eq_getElem hlt2
      rw [hv]
      exact hr t av _ hi hv
  | const v => exact rv_avOf F γ v
  | global g =>
    simp only [argOf, evA, Act.eval]
    cases hi : G g with
    | none => exact .junk _
    | some cs => exact .one _ _ (hg g cs hi γ)
  | func f => exact .one _ _ (.fn f [] (fun _ => default) (fun i c h => by simp at h))

theorem rv_raw {v x : Value} (h : RV F γ (.one (.dc (.raw v))) x) : x = v := by
  cases h with
  | one c v h => cases h with | dc d v h => cases h; rfl
theorem rv_int {av : AV} {x : Value} {n : Int} (h : RV F γ av x) (hi : asInt? av = some n) : ∃ k, x = .int k n := by
  unfold asInt? at hi
  split at hi
  · injection hi with hi; subst hi; exact ⟨_, rv_raw h⟩
  · cases hi
theorem rv_bool {av : AV} {x : Value} {b : Bool} (h : RV F γ av x) (hi : asBool? av = some b) : x = .bool b := by
  unfold asBool? at hi
  split at hi
  · injection hi with hi; subst hi; exact rv_raw h
  · cases hi
theorem rv_str {av : AV} {x : Value} {b : ByteArray} (h : RV F γ av x) (hi : asStr? av = some b) : x = .string b := by
  unfold asStr? at hi
  split at hi
  · injection hi with hi; subst hi; exact rv_raw h
  · cases hi
theorem rv_rawV {v : Value} (h : is1 v = true) : RV F γ (rawV v) v := .one _ _ (.dc _ _ (.raw _ h))

theorem rv_pack {g : Bool} {cs : List Cel} {av : AV} (hp : pack g cs = some av) {vs : List Value} (hl : vs.length = cs.length)
    (h : ∀ (i : Nat) c v, cs[i]? = some c → vs[i]? = some v → RC F γ c v) : (g = true → RV F γ av (.agg vs.toArray)) ∧ (g = false → ∃ v, vs = [v] ∧ RV F γ av v) := by
  unfold pack at hp
  split at hp
  · injection hp with hp; subst hp
    exact ⟨fun _ => .agg _ _ (by simpa using hl) (fun i c v h1 h2 => h i c v h1 (by simpa using h2)), (fun h => by cases h)⟩
  · injection hp with hp; subst hp
    refine ⟨(fun h => by cases h), fun _ => ?_⟩
    match vs, hl with
    | [v], _ => exact ⟨v, rfl, .one _ _ (h 0 _ _ rfl rfl)⟩
  · cases hp
end

end
section
section
variable {P : Program} {F : Fz} {γ : List OI} {w : World} {hp : List AObj}

theorem hpGet_some {id : Nat} {o : AObj} (h : hpGet hp id = o) (hn : o ≠ .dead) : hp[id]? = some o := by
  unfold hpGet at h
  rw [List.getD_eq_getElem?_getD] at h
  cases hi : hp[id]? with
  | none => simp [hi] at h; exact absurd h.symm hn
  | some x => simp [hi] at h; rw [h]

theorem Inv.box {id b : Nat} {cs : List Cel} (hi : Inv F γ hp w) (h : hpGet hp id = .box cs) (hg : γ[id]? = some (.box b)) :
    ∃ (vs : Array Value) (T : TypeId), w.heap[b]? = some (.cells vs T (0, 0)) ∧ vs.size = cs.length ∧ ∀ (i : Nat) c v, cs[i]? = some c → vs[i]? = some v → RC F γ c v :=
  hi.ok id _ _ (hpGet_some h (by simp)) hg

theorem Inv.arr {id b cap cap' size : Nat} {es : List (List DC)} (hi : Inv F γ hp w) (h : hpGet hp id = .arr cap size es) (hg : γ[id]? = some (.arr (some b) cap')) :
    cap' = cap ∧ es.length ≤ cap ∧ (∀ e ∈ es, e.length = size) ∧ ∃ (vs : Array Value) (T : TypeId), w.heap[b]? = some (.cells vs T (0, 0)) ∧ vs.size = cap * size ∧
        ∀ (i j : Nat) e d v, es[i]? = some e → e[j]? = some d → vs[i * size + j]? = some v → RD F d v :=
  hi.ok id _ _ (hpGet_some h (by simp)) hg

theorem Inv.noArr {id b cap size : Nat} {es : List (List DC)} (hi : Inv F γ hp w) (h : hpGet hp id = .arr cap size es) : γ[id]? ≠ some (.box b) := fun hg => hi.ok id _ _ (hpGet_some h (by simp)) hg
theorem Inv.noBox {id cap : Nat} {A : Option Nat} {cs : List Cel} (hi : Inv F γ hp w) (h : hpGet hp id = .box cs) : γ[id]? ≠ some (.arr A cap) := fun hg => by
  cases A <;> exact hi.ok id _ _ (hpGet_some h (by simp)) hg
theorem Inv.arrN {id cap cap' size : Nat} {es : List (List DC)} (hi : Inv F γ hp w) (h : hpGet hp id = .arr cap size es) (hg : γ[id]? = some (.arr none cap')) : cap = 0 ∧ cap' = 0 ∧ es = [] :=
  hi.ok id _ _ (hpGet_some h (by simp)) hg

theorem cell_heap {b : Nat} {vs : Array Value} {T : TypeId} {fz : Nat × Nat} (h : w.heap[b]? = some (.cells vs T fz)) (j : Nat) : w.cell? ⟨b, j, none⟩ = vs[j]? := by
  simp [World.cell?, h]

/-- the cells behind an address -/
structure Mem (F : Fz) (γ : List OI) (w : World) (x : Value) (cs : List Cel) where
  b : Nat
  off : Nat
  vs : List Value
  hx : x = .pointer (some ⟨b, off, none⟩)
  hl : vs.length = cs.length
  hc : ∀ (j : Nat) v, vs[j]? = some v → w.cell? ⟨b, off + j, none⟩ = some v
  hr : ∀ (j : Nat) c v, cs[j]? = some c → vs[j]? = some v → RC F γ c v

theorem addr_add (b o j : Nat) : (⟨b, o, none⟩ : Addr).add j = ⟨b, o + j, none⟩ := by
  unfold Addr.add; split <;> simp_all

theorem mul_lt_cap {i j size cap n : Nat} (hi : i < n) (hn : n ≤ cap) (hj : j < size) : i * size + j < cap * size := by
  have h1 : (i + 1) * size ≤ cap * size := Nat.mul_le_mul_right size (by omega)
  rw [Nat.add_mul] at h1
  omega

theorem loadV_mem {g : Bool} {s : Nat} {av v : AV} {x : Value} (h : loadV hp g s av = some v) (hi : Inv F γ hp w) (hx : RV F γ av x) :
    ∃ cs, pack g cs = some v ∧ cs.length = s ∧ Nonempty (Mem F γ w x cs) := by
  unfold loadV at h
  split at h
  · rename_i id o
    split at h
    · rename_i cs hb
      split at h
      · rename_i hle
        cases hx with | one c v hc => cases hc with | ptr _ _ b hgm =>
        obtain ⟨vs, T, hh, hsz, hr⟩ := hi.box hb hgm
        refine ⟨_, h, by simp; omega, ⟨⟨b, o, (vs.toList.drop o).take s, rfl, by simp; omega, fun j v hj => ?_, fun j c v hj hv => ?_⟩⟩⟩
        · rw [cell_heap hh]
          simp only [List.getElem?_take, List.getElem?_drop] at hj
          split at hj
          · simpa using hj
          · cases hj
        · simp only [List.getElem?_take, List.getElem?_drop] at hj hv
          split at hj
          · rename_i hlt
            rw [if_pos hlt] at hv
            exact hr _ _ _ hj (by simpa using hv)
          · cases hj
      · cases h
    · cases h
  · rename_i id i s0 o
    split at h
    · rename_i cap s' es hb
      split at h
      · rename_i e he
        split at h
        · rename_i hle
          obtain ⟨rfl, hle⟩ := hle
          cases hx with | one c v hc => cases hc with | ept _ _ _ _ b cap' hgm =>
          obtain ⟨_, hec, hes, vs, T, hh, hsz, hr⟩ := hi.arr hb hgm
          have hel : e.length = s0 := hes e (List.mem_of_getElem? he)
          have hil : i < es.length := by
            rcases Nat.lt_or_ge i es.length with h' | h'
            · exact h'
            · rw [List.getElem?_eq_none h'] at he; cases he
          refine ⟨_, h, by simp; omega, ⟨⟨b, i * s0 + o, (vs.toList.drop (i * s0 + o)).take s, rfl, ?_, fun j v hj => ?_, fun j c v hj hv => ?_⟩⟩⟩
          · simp
            have h1 : (i + 1) * s0 ≤ cap * s0 := Nat.mul_le_mul_right s0 (by omega)
            rw [Nat.add_mul] at h1
            omega
          · rw [cell_heap hh]
            simp only [List.getElem?_take, List.getElem?_drop] at hj
            split at hj
            · simpa using hj
            · cases hj
          · simp only [List.getElem?_map, List.getElem?_take, List.getElem?_drop] at hj hv
            split at hj
            · rename_i hlt
              rw [if_pos hlt] at hv
              cases hd : e[o + j]? with
              | none => simp [hd] at hj
              | some d =>
                simp [hd] at hj
                subst hj
                exact .dc _ _ (hr i (o + j) e d v he hd (by simpa [Nat.add_assoc] using hv))
            · cases hj
        · cases h
      · cases h
    · cases h
  · rename_i cs
    split at h
    · rename_i hle
      cases hx with | one c v hc => cases hc with | ref _ b off gg hr hcc =>
      refine ⟨_, h, by simp; omega, ⟨⟨b, off, (List.range s).map gg, rfl, by simp; omega, fun j v hj => ?_, fun j c v hj hv => ?_⟩⟩⟩
      · simp only [List.getElem?_map] at hj
        cases hjr : (List.range s)[j]? with
        | none => simp [hjr] at hj
        | some k =>
          simp [hjr] at hj
          have hk : j < s := by
            rcases Nat.lt_or_ge j s with h' | h'
            · exact h'
            · rw [List.getElem?_eq_none (by simpa using h')] at hjr; cases hjr
          have : k = j := by simpa [List.getElem?_range hk] using hjr.symm
          subst this
          rw [← hj]
          exact Fz.cell_world hi.fz (hcc k _ (List.getElem?_eq_getElem (by omega)))
      · simp only [List.getElem?_map, List.getElem?_take] at hj hv
        split at hj
        · rename_i hk
          simp [List.getElem?_range hk] at hv
          cases hd : cs[j]? with
          | none => simp [hd] at hj
          | some d =>
            simp [hd] at hj
            subst hj; subst hv
            exact .dc _ _ (hr j d hd)
        · simp at hj
    · cases h
  · cases h

theorem load_ok {g : Bool} {s s0 : Nat} {av v : AV} {x : Value} {t : TypeId} (h : loadV hp g s av = some v) (hi : Inv F γ hp w) (hx : RV F γ av x)
    (hg : aggP P t = some g) (hsz : sizeP P t = some s0) (hs : s = if g then s0 else 1) :
    ∃ y, (Instr.loadAt t x).run P w = .ok y w ∧ RV F γ v y := by
  obtain ⟨cs, hp', hl, ⟨b, off, vs, rfl, hlv, hcv, hrv⟩⟩ := loadV_mem h hi hx
  obtain ⟨h1, h2⟩ := rv_pack hp' hlv hrv
  unfold aggP at hg
  cases hu : P.underlying t with
  | none => simp [hu] at hg
  | some d =>
    simp only [hu, Option.map_some, Option.some.injEq] at hg
    unfold sizeP at hsz
    cases hin : P.info? t with
    | none => simp [hin] at hsz
    | some inf =>
      simp only [hin, Option.map_some, Option.some.injEq] at hsz
      cases g with
      | true =>
        refine ⟨_, ?_, h1 rfl⟩
        have hc := run_loadCells_list (P := P) w ⟨b, off, none⟩ vs (fun j v hj => by rw [addr_add]; exact hcv j v hj)
        have hlen : vs.length = inf.size := by rw [hlv, hl, hs, hsz]; simp
        rw [hlen] at hc
        unfold aggD at hg
        split at hg
        · simp [Instr.loadAt, Instr.sureAddr, loadVar, isAgg, sizeOf, typeInfo, run_underlying hu, hin, hc]
        · simp [Instr.loadAt, Instr.sureAddr, loadVar, isAgg, sizeOf, typeInfo, run_underlying hu, hin, hc]
        · cases hg
      | false =>
        obtain ⟨y, hy, hv⟩ := h2 rfl
        refine ⟨y, ?_, hv⟩
        have hc := hcv 0 y (by rw [hy]; rfl)
        simp only [Nat.add_zero] at hc
        cases d <;> first | (simp [aggD] at hg; done) | simp [Instr.loadAt, Instr.sureAddr, loadVar, isAgg, run_underlying hu, hc]

theorem addoV_ok {o : Nat} {av v : AV} {x : Value} (h : addoV o av = some v) (hx : RV F γ av x) : ∃ b off, x = .pointer (some ⟨b, off, none⟩) ∧ RV F γ v (.pointer (some ⟨b, off + o, none⟩)) := by
  unfold addoV at h
  split at h
  · injection h with h; subst h
    cases hx with | one c v hc => cases hc with | ptr _ _ b hgm =>
    exact ⟨b, _, rfl, .one _ _ (.ptr _ _ _ hgm)⟩
  · injection h with h; subst h
    cases hx with | one c v hc => cases hc with | ept _ _ _ _ b cap hgm =>
    exact ⟨b, _, rfl, .one _ _ (by rw [Nat.add_assoc]; exact .ept _ _ _ _ _ _ hgm)⟩
  · injection h with h; subst h
    cases hx with | one c v hc => cases hc with | ref cs b off gg hr hcc =>
    refine ⟨b, off, rfl, .one _ _ (.ref _ _ _ (fun j => gg (o + j)) (fun j d hj => ?_) (fun j d hj => ?_))⟩
    · simp only [List.getElem?_drop] at hj; exact hr _ _ hj
    · simp only [List.getElem?_drop] at hj; rw [Nat.add_assoc]; exact hcc _ _ hj
  · cases h

theorem nilc_ok {av v : AV} {x : Value} (h : nilcV av = some v) (hx : RV F γ av x) : v = av ∧ ∃ a, x = .pointer (some a) := by
  unfold nilcV at h
  split at h
  · injection h with h; subst h
    cases hx with | one c v hc => cases hc with | ptr _ _ b hgm => exact ⟨rfl, _, rfl⟩
  · injection h with h; subst h
    cases hx with | one c v hc => cases hc with | ept _ _ _ _ b cap hgm => exact ⟨rfl, _, rfl⟩
  · injection h with h; subst h
    cases hx with | one c v hc => cases hc with | ref cs b off gg hr hcc => exact ⟨rfl, _, rfl⟩
  · cases h

theorem intOp_ok {op : BinOp} {t : TypeId} {k : IntKind} {a b : Int} {v : Value} (h : intOp op k a b = some v) : is1 v = true ∧ (Go.binOp op t (.int k a) (.int k b)).run P w = .ok v w := by
  cases op <;> simp only [intOp] at h <;> first
    | (cases h; done)
    | (injection h with h; subst h; exact ⟨rfl, by simp [Go.binOp, Op.intArith, Op.intBits, Op.intCmp]⟩)
    | (split at h
       · cases h
       · rename_i hne
         injection h with h; subst h; exact ⟨rfl, by simp [Go.binOp, Op.intDiv, hne]⟩)

theorem maxI64 : IntKind.i64.max = 9223372036854775807 := by decide

theorem strOp_ok {op : BinOp} {t : TypeId} {a b : ByteArray} {v : Value} (h : strOp op a b = some v) : is1 v = true ∧ (Go.binOp op t (.string a) (.string b)).run P w = .ok v w := by
  cases op <;> simp only [strOp] at h <;> first
    | (cases h; done)
    | (injection h with h; subst h; exact ⟨rfl, by simp [Go.binOp, Op.stringOp]⟩)
    | (split at h
       · rename_i hle
         injection h with h; subst h
         refine ⟨rfl, ?_⟩
         have : ¬ (IntKind.i64.max < (a.size : Int) + (b.size : Int)) := by rw [maxI64]; omega
         simp only [Go.binOp, Op.stringOp, Sem.run_ite, Sem.run_pure]
         rw [if_neg (by have := this; push_cast; omega)]
       · cases h)

theorem eqR_ok {t : TypeId} {dsc : TypeDesc} {k : EK} {a b : Value} {r : Bool} (h : eqR k a b = some r) (ht : P.underlying t = some dsc) (hd : ekD dsc = some k) (d : Nat) :
    (Op.equalIn (d + 1) t a b).run P w = .ok r w := by
  unfold eqR at h
  split at h
  · injection h with h; subst h
    cases dsc <;> simp [ekD] at hd
    exact run_equalIn_bool' w d t _ _ ht
  · split at h
    · rename_i hjk
      injection h with h; subst h; subst hjk
      cases dsc <;> simp [ekD] at hd
      exact run_equalIn_int w d t _ _ _ _ ht
    · cases h
  · injection h with h; subst h
    cases dsc <;> simp [ekD] at hd
    exact run_equalIn_string w d t _ _ ht
  · cases h

theorem run_part1 {t : TypeId} {dsc : TypeDesc} {k : EK} (ht : P.underlying t = some dsc) (hk : ekD dsc = some k) (xs : Array Value) (off : Nat) (x : Value) (hx : xs[off]? = some x) :
    (part t xs off).run P w = .ok x w := by
  cases dsc <;> simp [ekD] at hk <;> simp [part, isAgg, run_underlying ht, hx]

theorem eqFields_ok (d : Nat) (xs ys : Array Value) : ∀ (fs : List Field) (off : Nat) (ks : List EK) (as bs : List Cel) (r : Bool), flatFs P fs off = some ks → eqCs ks as bs = some r →
    (∀ (i : Nat) c, as[i]? = some c → ∃ v, xs[off + i]? = some v ∧ RC F γ c v) → (∀ (i : Nat) c, bs[i]? = some c → ∃ v, ys[off + i]? = some v ∧ RC F γ c v) →
    (Op.eqFields (d + 1) xs ys fs).run P w = .ok r w
  | [], off, ks, as, bs, r, hf, he, hx, hy => by
    simp only [flatFs, Option.some.injEq] at hf
    subst hf
    cases as <;> cases bs <;> simp [eqCs] at he
    subst he
    simp [Op.eqFields]
  | f :: fs, off, ks, as, bs, r, hf, he, hx, hy => by
    simp only [flatFs] at hf
    split at hf
    · rename_i hfo
      cases hu : P.underlying f.type with
      | none => simp [hu] at hf
      | some dsc =>
        simp only [hu, Option.bind_some] at hf
        cases hk : ekD dsc with
        | none => simp [hk] at hf
        | some k =>
          simp only [hk, Option.bind_some] at hf
          cases hfs : flatFs P fs (off + 1) with
          | none => simp [hfs] at hf
          | some ks' =>
            simp only [hfs, Option.map_some, Option.some.injEq] at hf
            subst hf
            match as, bs, he with
            | .dc (.raw a) :: as, .dc (.raw b) :: bs, he =>
              simp only [eqCs] at he
              cases hr : eqR k a b with
              | none => simp [hr] at he
              | some x =>
                simp only [hr, Option.bind_some] at he
                cases hrs : eqCs ks' as bs with
                | none => simp [hrs] at he
                | some y =>
                  simp only [hrs, Option.bind_some, Option.some.injEq] at he
                  subst he
                  obtain ⟨va, hva, hra⟩ := hx 0 _ rfl
                  obtain ⟨vb, hvb, hrb⟩ := hy 0 _ rfl
                  have hva' : va = a := rv_raw (.one _ _ hra)
                  have hvb' : vb = b := rv_raw (.one _ _ hrb)
                  subst hva'; subst hvb'
                  have ih := eqFields_ok d xs ys fs (off + 1) ks' as bs y hfs hrs (fun i c hc => by have := hx (i + 1) c hc; rwa [show off + (i + 1) = off + 1 + i by omega] at this)
                    (fun i c hc => by have := hy (i + 1) c hc; rwa [show off + (i + 1) = off + 1 + i by omega] at this)
                  have h1 := run_part1 (P := P) (w := w) hu hk xs f.offset va (by rw [hfo.1]; exact hva)
                  have h2 := run_part1 (P := P) (w := w) hu hk ys f.offset vb (by rw [hfo.1]; exact hvb)
                  have h3 := eqR_ok (P := P) (w := w) hr hu hk d
                  cases x <;> simp [Op.eqFields, hfo.2, h1, h2, h3, ih]
    · cases hf

theorem bin_ok {op : BinOp} {t : TypeId} {xo yo : Operand} {av bv v : AV} {x y : Value} (h : binV op av bv = some v) (hx : RV F γ av x) (hy : RV F γ bv y)
 : ∃ r, ((do eqGuard op t xo yo x y; Go.binOp op t x y) : Sem Value).run P w = .ok r w ∧ RV F γ v r := by
  unfold binV at h
  split at h
  · rename_i j a k b
    rw [rv_raw hx, rv_raw hy]
    have hgd : (eqGuard op t xo yo (.int j a) (.int k b)).run P w = .ok () w := by cases op <;> simp [eqGuard]
    split at h
    · split at h
      · cases h
      · rename_i hb
        injection h with h; subst h
        exact ⟨_, by simp [hgd, Go.binOp, Op.shift, hb], rv_rawV rfl⟩
    · split at h
      · cases h
      · rename_i hb
        injection h with h; subst h
        exact ⟨_, by simp [hgd, Go.binOp, Op.shift, hb], rv_rawV rfl⟩
    · split at h
      · rename_i hjk
        subst hjk
        cases hio : intOp op j a b with
        | none => simp [hio] at h
        | some r =>
          simp only [hio, Option.map_some, Option.some.injEq] at h
          subst h
          obtain ⟨h1, h2⟩ := intOp_ok (P := P) (w := w) (t := t) hio
          exact ⟨r, by simp [hgd, h2], rv_rawV h1⟩
      · cases h
  · rename_i a b
    rw [rv_raw hx, rv_raw hy]
    have hgd : (eqGuard op t xo yo (.string a) (.string b)).run P w = .ok () w := by cases op <;> simp [eqGuard]
    cases hio : strOp op a b with
    | none => simp [hio] at h
    | some r =>
      simp only [hio, Option.map_some, Option.some.injEq] at h
      subst h
      obtain ⟨h1, h2⟩ := strOp_ok (P := P) (w := w) (t := t) hio
      exact ⟨r, by simp [hgd, h2], rv_rawV h1⟩
  · cases h

theorem run_equal_bool {t : TypeId} {a b : Bool} (ht : P.underlying t = some .bool) : (Op.equal t (.bool a) (.bool b)).run P w = .ok (a == b) w := run_equalIn_bool' w 9999 t a b ht

theorem binb_ok {neg : Bool} {t : TypeId} {xo yo : Operand} {av bv v : AV} {x y : Value} (h : binbV neg av bv = some v) (hx : RV F γ av x) (hy : RV F γ bv y)
    (ht : P.underlying t = some .bool) : ∃ r, ((do eqGuard (if neg then .neq else .eql) t xo yo x y; Go.binOp (if neg then .neq else .eql) t x y) : Sem Value).run P w = .ok r w ∧ RV F γ v r := by
  unfold binbV at h
  split at h
  · rename_i a b
    rw [rv_raw hx, rv_raw hy]
    injection h with h; subst h
    cases neg
    · exact ⟨_, by simp [eqGuard, Go.binOp, run_equal_bool ht], rv_rawV rfl⟩
    · exact ⟨_, by simp [eqGuard, Go.binOp, run_equal_bool ht], rv_rawV rfl⟩
  · cases h

theorem eqs_ok {neg : Bool} {t : TypeId} {fs : Array Field} {ks : List EK} {xo yo : Operand} {av bv v : AV} {x y : Value} (h : eqsV neg ks av bv = some v) (hx : RV F γ av x) (hy : RV F γ bv y)
    (ht : P.underlying t = some (.struct fs)) (hf : flatFs P fs.toList 0 = some ks) (hs : P.stoodInHeld t = false) (hq : P.eqGuardType P.depth t = false) :
    ∃ r, ((do eqGuard (if neg then .neq else .eql) t xo yo x y; Go.binOp (if neg then .neq else .eql) t x y) : Sem Value).run P w = .ok r w ∧ RV F γ v r := by
  unfold eqsV at h
  split at h
  · rename_i as bs
    cases hx with | agg _ xs hxs hxr =>
    cases hy with | agg _ ys hys hyr =>
    cases he : eqCs ks as bs with
    | none => simp [he] at h
    | some r =>
      simp only [he, Option.map_some, Option.some.injEq] at h
      subst h
      have hfo : P.fieldsOf t = fs := by simp [Program.fieldsOf, ht]
      have g : ∀ {as : List Cel} {xs : Array Value}, xs.size = as.length → (∀ (i : Nat) c v, as[i]? = some c → xs[i]? = some v → RC F γ c v) →
          ∀ (i : Nat) c, as[i]? = some c → ∃ v, xs[0 + i]? = some v ∧ RC F γ c v := by
        intro as xs hsz hr i c hc
        have hi : i < as.length := by
          rcases Nat.lt_or_ge i as.length with h' | h'
          · exact h'
          · rw [List.getElem?_eq_none h'] at hc; cases hc
        have hi2 : i < xs.size := hsz ▸ hi
        refine ⟨xs[i]'hi2, by simp [hi2], hr i c _ hc (Array.getElem?_eq_getElem hi2)⟩
      have h1 := eqFields_ok (P := P) (w := w) 9998 xs ys fs.toList 0 ks as bs r hf he (g hxs hxr) (g hys hyr)
      have h2 : (Op.equalIn 10000 t (.agg xs) (.agg ys)).run P w = .ok r w := by
        rw [show (10000 : Nat) = 9999 + 1 from rfl, run_equalIn_agg w 9999 t xs ys (by rw [hfo]; exact ht) hs, hfo]
        exact h1
      cases neg
      · exact ⟨.bool r, by simp [run_eqGuard_agg w .eql t xo yo xs ys hq, run_eql_struct, h2], rv_rawV rfl⟩
      · exact ⟨.bool !r, by simp [run_eqGuard_agg w .neq t xo yo xs ys hq, run_neq_struct, h2], rv_rawV rfl⟩
  · cases h
end
end
end Go.Proofs.YtmognenhkecngaaGreatDoor
