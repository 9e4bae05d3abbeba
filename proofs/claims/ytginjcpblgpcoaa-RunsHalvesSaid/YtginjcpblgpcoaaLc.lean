/- The model's operations as instructions of the abstract states, and that an instruction that changes nothing gives what the operation gives. Conditions: none. -/
import Derived.Test.YtginjcpblgpcoaaLb
import Derived.WalkKit
namespace Go.Proofs.Ytginjcpblgpcoaa

def argOf : Operand → AArg
  | .tmp t => .t t
  | .const v => .k v
  | .global g => .g g
  | .func f => .f f

def sizeP (P : Program) (t : TypeId) : Option Nat := (P.info? t).map (·.size)
def aggD : TypeDesc → Bool
  | .struct _ => true
  | .array _ _ => true
  | _ => false
def aggP (P : Program) (t : TypeId) : Option Bool := (P.underlying t).map aggD

def ekD : TypeDesc → Option EK
  | .bool => some .b
  | .int _ => some .i
  | .string => some .s
  | _ => none

/-- fields that can be compared cell by cell, one after the other from an offset -/
def flatFs (P : Program) : List Field → Nat → Option (List EK)
  | [], _ => some []
  | f :: fs, off => if f.offset = off ∧ f.name ≠ "_" then ((P.underlying f.type).bind ekD).bind fun k => (flatFs P fs (off + 1)).map (k :: ·) else none

def nilK : TypeDesc → Operand → Option Bool
  | .slice _, .const (.slice none 0 0) => some false
  | .pointer _, .const (.pointer none) => some true
  | _, _ => none
def compileNil (op : BinOp) (d : TypeDesc) (x y : Operand) : Option AI :=
  match op with
  | .eql => (nilK d y).map fun p => .isnil p false (argOf x)
  | .neq => (nilK d y).map fun p => .isnil p true (argOf x)
  | _ => none
def compileBin (P : Program) (op : BinOp) (t : TypeId) (x y : Operand) : Option AI :=
  match P.underlying t with
  | some .bool => match op with | .eql => some (.binb false (argOf x) (argOf y)) | .neq => some (.binb true (argOf x) (argOf y)) | _ => none
  | some (.int _) => some (.bin op (argOf x) (argOf y))
  | some .string => some (.bin op (argOf x) (argOf y))
  | some (.struct fs) =>
    if P.stoodInHeld t = false ∧ P.eqGuardType P.depth t = false then
      match op with
      | .eql => (flatFs P fs.toList 0).map fun ks => .eqs false ks (argOf x) (argOf y)
      | .neq => (flatFs P fs.toList 0).map fun ks => .eqs true ks (argOf x) (argOf y)
      | _ => none
    else none
  | some d => compileNil op d x y
  | none => none

def compileConv (P : Program) (s d : TypeId) (x : Operand) : Option AI :=
  match P.underlying s, P.underlying d with
  | some (.int _), some (.int k) => some (.conv k (argOf x))
  | some .string, some .string => some (.cvid (argOf x))
  | some (.slice e), some .string => if P.underlying e matches some (.int .u8) then some (.cvbs (argOf x)) else none
  | _, _ => none

def fieldP (P : Program) (s : TypeId) (f : Nat) : Option Field :=
  match P.underlying s with
  | some (.struct fs) => fs[f]?
  | _ => none

def placesP (P : Program) (t : TypeId) : Option (List (Nat × Nat) ⊕ Nat) :=
  match P.underlying t with
  | some (.struct fs) => (fs.toList.mapM (fun f => (P.info? f.type).map fun i => (f.offset, i.size))).map .inl
  | some (.array _ e) => (P.info? e).map fun i => .inr i.size
  | _ => none

def placeAt (p : List (Nat × Nat) ⊕ Nat) (i : Nat) : Option (Nat × Nat) :=
  match p with
  | .inl l => l[i]?
  | .inr s => some (i * s, s)

def buildPart (p : List (Nat × Nat) ⊕ Nat) : Nat × Operand → Option (Nat × Nat × AArg)
  | (i, x) => (placeAt p i).map fun (o, s) => (o, s, argOf x)

def compileCall (P : Program) (c : Call) : Option AI :=
  match c.callee with
  | .builtin .len =>
    match c.argTypes[0]?, c.args[0]? with
    | some t, some x =>
      match P.underlying t with
      | some .string => some (.lenS (argOf x))
      | some (.slice _) => some (.lenL (argOf x))
      | some (.array n _) => some (.lenA n)
      | some (.pointer e) => match P.underlying e with | some (.array n _) => some (.lenA n) | _ => none
      | _ => none
    | _, _ => none
  | .builtin .min => match c.args.toList with | [x, y] => some (.min2 (argOf x) (argOf y)) | _ => none
  | .builtin .max => match c.args.toList with | [x, y] => some (.max2 (argOf x) (argOf y)) | _ => none
  | .builtin .append =>
    match c.argTypes.toList, c.args.toList with
    | [t, u], [s, x] =>
      match P.underlying t, P.underlying u with
      | some (.slice e), some (.slice e') =>
        if e = e' then (P.info? e).bind fun i => i.zero.bind fun z => if z.cells.size = i.size ∧ 0 < i.bytes then some (.app i.size i.bytes z.cells.toList (argOf s) (argOf x)) else none else none
      | some (.slice e), some .string => if P.underlying e matches some (.int .u8) then (P.info? e).bind fun i => i.zero.bind fun z => if i.size = 1 ∧ i.bytes = 1 ∧ z.cells.size = 1 then some (.apps (argOf s) (argOf x)) else none else none
      | _, _ => none
    | _, _ => none
  | .builtin .clear =>
    match c.argTypes.toList, c.args.toList with
    | [t], [x] =>
      match P.underlying t with
      | some (.slice e) => (P.info? e).bind fun i => i.zero.bind fun z => if z.cells.size = i.size ∧ 0 < i.size ∧ z.cells.toList.all is1 then some (.clr i.size z.cells.toList (argOf x)) else none
      | _ => none
    | _, _ => none
  | .value (.func f) =>
    match P.funcs[f]? with
    | some fn => if fn.name == "runtime.NumGoroutine" || fn.body.isNone then none else some (.call f (c.args.toList.map argOf))
    | none => none
  | .value (.tmp t) => some (.callv (.t t) (c.args.toList.map argOf))
  | _ => none

def compileOp (P : Program) (o : Oper) : Option AI :=
  match o.op with
  | .move x => some (.mov (argOf x))
  | .assign x => some (.mov (argOf x))
  | .pick c a b => some (.pick (argOf c) (argOf a) (argOf b))
  | .alloc e => (P.info? e).bind fun i => i.zero.bind fun z => if z.cells.toList.all is1 then some (.alloc z.cells.toList) else none
  | .box _ x => some (.box (argOf x))
  | .load t x => (aggP P t).bind fun g => (sizeP P t).map fun s => .load g (if g then s else 1) (argOf x)
  | .store t x v => (sizeP P t).map fun s => .store s (argOf x) (argOf v)
  | .nilCheck x => some (.nilc (argOf x))
  | .binOp op t x y _ => compileBin P op t x y
  | .unOp op _ x => some (.un op (argOf x))
  | .convert s d x => compileConv P s d x
  | .fieldAddr s x f => (fieldP P s f).bind fun fl => (sizeP P fl.type).bind fun n => if n = 0 then none else some (.addo fl.offset (argOf x))
  | .field s x f => (fieldP P s f).bind fun fl => (aggP P fl.type).bind fun g => (sizeP P fl.type).map fun n => .fld g (if g then n else 1) fl.offset (argOf x)
  | .indexAddr t x i =>
    match P.underlying t with
    | some (.array n e) => (sizeP P e).map fun s => .ixA n s (argOf x) (argOf i)
    | some (.slice e) => (sizeP P e).map fun s => .ixL s (argOf x) (argOf i)
    | _ => none
  | .index t x i => if P.underlying t matches some .string then some (.ixS (argOf x) (argOf i)) else none
  | .slice t x lo hi none =>
    match P.underlying t with
    | some .string => some (.slS (argOf x) (lo.map argOf) (hi.map argOf))
    | some (.slice e) => (sizeP P e).map fun s => .slL s (argOf x) (lo.map argOf) (hi.map argOf)
    | _ => none
  | .build t ps => (placesP P t).bind fun p => (P.info? t).bind fun i => i.zero.bind fun z => if z.cells.toList.all is1 then (ps.toList.mapM (buildPart p)).map fun l => .build z.cells.toList l else none
  | .buildSlice t len ps =>
    match P.underlying t with
    | some (.slice e) => (P.info? e).bind fun i => i.zero.bind fun z => if len * i.size ≤ 16777216 ∧ z.cells.size = i.size ∧ 0 < i.size ∧ z.cells.toList.all is1 then some (.bslc i.size len z.cells.toList (ps.toList.map fun (j, x) => (j, argOf x))) else none
    | _ => none
  | .extract x n => some (.ext (argOf x) n)
  | .makeSlice t l c =>
    match P.underlying t with
    | some (.slice e) => (P.info? e).bind fun i => i.zero.bind fun z => if z.cells.size = i.size ∧ 0 < i.bytes ∧ 0 < i.size ∧ z.cells.toList.all is1 then some (.mk i.size i.bytes z.cells.toList (argOf l) (argOf c)) else none
    | _ => none
  | .makeFunc (.func f) first caps => if first.isEmpty then some (.mkfn f (caps.toList.map argOf)) else none
  | .call c => compileCall P c
  | _ => none

theorem rv_avOf (F : Fz) (γ : List OI) (v : Value) : RV F γ (avOf v) v := by
  cases v with
  | agg cs =>
    simp only [avOf]
    split
    · rename_i h
      refine .agg _ _ (by simp) (fun i c v hc hv => ?_)
      simp only [List.getElem?_map, Array.getElem?_toList, hv, Option.map_some, Option.some.injEq] at hc
      subst hc
      refine .dc _ _ (.raw _ (List.all_eq_true.1 h v (by simpa using Array.mem_of_getElem? hv)))
    · exact .junk _
  | tuple vs => exact .junk _
  | _ => exact .one _ _ (.dc _ _ (.raw _ rfl))

def GlobOK (F : Fz) (G : Glob) : Prop := ∀ g cs, G g = some cs → ∀ γ, RC F γ (.ref cs) (.pointer (some ⟨g, 0, none⟩))

theorem GlobOK.sub {F F' : Fz} {G : Glob} (h : GlobOK F G) (hs : F.sub F') : GlobOK F' G := fun g cs hg γ => (h g cs hg γ).ext hs (fun _ _ h => h)

section
variable {F : Fz} {γ : List OI} {G : Glob} {sl : List AV} {a : Act}

theorem rv_arg (hs : Slots F γ sl a) (hg : GlobOK F G) (x : Operand) : RV F γ (evA G sl (argOf x)) (a.eval x) := by
  cases x with
  | tmp t =>
    simp only [argOf, evA, Act.eval]
    obtain ⟨_, hsz, hr⟩ := hs
    rw [Array.getD_eq_getD_getElem?, List.getD_eq_getElem?_getD]
    cases hi : sl[t]? with
    | none => exact .junk _
    | some av =>
      have hlt : t < sl.length := by
        rcases Nat.lt_or_ge t sl.length with h | h
        · exact h
        · rw [List.getElem?_eq_none h] at hi; cases hi
      have hlt2 : t < a.tmps.size := hsz ▸ hlt
      have hv : a.tmps[t]? = some (a.tmps[t]'hlt2) := Array.getElem?_eq_getElem hlt2
      rw [hv]
      exact hr t av _ hi hv
  | const v => exact rv_avOf F γ v
  | global g =>
    simp only [argOf, evA, Act.eval]
    cases hi : G g with
    | none => exact .junk _
    | some cs => exact .one _ _ (hg g cs hi γ)
  | func f => exact .one _ _ (.fn f [] (fun _ => default) (fun i c h => by simp at h))

theorem rv_raw {v x : Value} (h : RV F γ (.one (.dc (.raw v))) x) : x = v := by
  cases h with
  | one c v h => cases h with | dc d v h => cases h; rfl
theorem rv_int {av : AV} {x : Value} {n : Int} (h : RV F γ av x) (hi : asInt? av = some n) : ∃ k, x = .int k n := by
  unfold asInt? at hi
  split at hi
  · injection hi with hi; subst hi; exact ⟨_, rv_raw h⟩
  · cases hi
theorem rv_bool {av : AV} {x : Value} {b : Bool} (h : RV F γ av x) (hi : asBool? av = some b) : x = .bool b := by
  unfold asBool? at hi
  split at hi
  · injection hi with hi; subst hi; exact rv_raw h
  · cases hi
theorem rv_str {av : AV} {x : Value} {b : ByteArray} (h : RV F γ av x) (hi : asStr? av = some b) : x = .string b := by
  unfold asStr? at hi
  split at hi
  · injection hi with hi; subst hi; exact rv_raw h
  · cases hi
theorem rv_rawV {v : Value} (h : is1 v = true) : RV F γ (rawV v) v := .one _ _ (.dc _ _ (.raw _ h))

theorem rv_pack {g : Bool} {cs : List Cel} {av : AV} (hp : pack g cs = some av) {vs : List Value} (hl : vs.length = cs.length)
    (h : ∀ (i : Nat) c v, cs[i]? = some c → vs[i]? = some v → RC F γ c v) : (g = true → RV F γ av (.agg vs.toArray)) ∧ (g = false → ∃ v, vs = [v] ∧ RV F γ av v) := by
  unfold pack at hp
  split at hp
  · injection hp with hp; subst hp
    exact ⟨fun _ => .agg _ _ (by simpa using hl) (fun i c v h1 h2 => h i c v h1 (by simpa using h2)), (fun h => by cases h)⟩
  · injection hp with hp; subst hp
    refine ⟨(fun h => by cases h), fun _ => ?_⟩
    match vs, hl with
    | [v], _ => exact ⟨v, rfl, .one _ _ (h 0 _ _ rfl rfl)⟩
  · cases hp
end

end Go.Proofs.Ytginjcpblgpcoaa
