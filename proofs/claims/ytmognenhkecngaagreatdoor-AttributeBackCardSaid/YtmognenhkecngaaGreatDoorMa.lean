/- Whole stretches of a region run by one function. Conditions: none. -/
import Derived.Test.YtmognenhkecngaaGreatDoorLy
namespace Go.Proofs.YtmognenhkecngaaGreatDoor
section
variable {G : Glob}
theorem frz_sl : ∀ (ids : List Nat) (s t : AS), s.sl = t.sl → s.hp = t.hp.map nocap → (frzIds ids s).sl = (frzIds ids t).sl
  | [], s, t, h, _ => h
  | id :: r, s, t, h, hh => by
    simp only [frzIds, hh, hpGet_norm]
    cases hpGet t.hp id with
    | arr c z es =>
      simp only [nocap]
      refine frz_sl r _ _ (by simp only [h]) ?_
      simp only [List.map_set, List.map_map, nocap]
      congr 1
      exact List.map_congr_left (fun o _ => by simp only [Function.comp_apply, nocap_kill, frzO_nocap])
    | box cs => exact frz_sl r _ _ h hh
    | dead => exact frz_sl r _ _ h hh

theorem QC.frz {P : Program} {f : FuncId} {args : List AV} {v : AV} {R : AV → List AObj → Prop} (h : AC P G f args [] R)
    (hR : ∀ av o, R av o → killV (fun id => decide (0 ≤ id)) ((frzIds (idsV av) ⟨[av], o⟩).sl.getD 0 .junk) = v) : QC P G f args v := by
  refine h.gh (fun a o ho _ => ?_)
  obtain ⟨s1, hgh, hn⟩ := frzIds_ok (k := 0) (idsV a) ⟨[a], o⟩
  have hnn : (frzIds (idsV a) (norm ⟨[a], o⟩)).sl = (frzIds (idsV a) ⟨[a], o⟩).sl := frz_sl (idsV a) _ _ rfl rfl
  have hsl : s1.sl = (frzIds (idsV a) ⟨[a], o⟩).sl := by rw [← hnn, ← hn]; rfl
  have hlen : s1.sl.length = 1 := by rw [hsl, frzIds_len]; rfl
  obtain ⟨y, hy⟩ := List.length_eq_one_iff.1 hlen
  have hgd := Gh.drop (k := 0) (as := s1) 0 (Nat.le_refl _)
  refine ⟨v, [], ?_, Nat.zero_le _, rfl, rfl⟩
  have hv : v = killV (fun id => decide (0 ≤ id)) y := by rw [← hR a o ho, ← hsl, hy]; rfl
  have := hgh.trans hgd
  rw [hy] at this
  simpa [hv] using this
theorem QC.drop {P : Program} {f : FuncId} {args : List AV} {v : AV} (h : AC P G f args [] fun av _ => av = v) (hk : killV (fun id => decide (0 ≤ id)) v = v) : QC P G f args v := by
  refine h.gh (fun a o ho _ => ?_)
  subst ho
  refine ⟨a, [], ?_, Nat.zero_le _, rfl, rfl⟩
  have := Gh.drop (k := 0) (as := ⟨[a], o⟩) 0 (Nat.le_refl _)
  simp only [List.map_cons, List.map_nil, hk, List.take_zero] at this
  exact this

/-- the new objects are forgotten -/
theorem AC.drop {P : Program} {f : FuncId} {args : List AV} {objs : List AObj} {Q : AV → List AObj → Prop}
    (h : AC P G f args objs fun av o => Q (killV (fun id => decide (objs.length ≤ id)) av) ((o.take objs.length).map (killO fun id => decide (objs.length ≤ id)))) : AC P G f args objs Q := by
  refine h.gh (fun a o ho hl => ⟨_, _, Gh.drop (k := objs.length) («as» := ⟨[a], o⟩) objs.length (Nat.le_refl _), by simp only [List.length_map, List.length_take]; omega, ho⟩)
end
section
section
variable {P : Program} {G : Glob} {k : Nat} {st st' : AS} {R : AS → Prop}

/-- an object that names no other -/
structure Flat (o : AObj) : Prop where
  ren : ∀ ρ, renO ρ o = o
  kill : ∀ p, killO p o = o
theorem Flat.arr (cap size : Nat) (es : List (List DC)) : Flat (.arr cap size es) := ⟨fun _ => rfl, fun _ => rfl⟩
theorem Flat.dcs (ds : List DC) : Flat (.box (dcC ds)) := by
  constructor <;> intro p <;> simp only [renO, killO, dcC, List.map_map] <;> congr 1
theorem after_boxO {dst : Option Nat} {av : AV} {o : AObj} {j : Nat} (h : isBoxO (hpGet st.hp j) = true) :
    afterC [j] st dst av [o] = ⟨putS st.sl dst (renV (jmap [j] st.hp.length) av), st.hp.set j (renO (jmap [j] st.hp.length) o)⟩ := by
  have hp : ∀ id, (([j] : List Nat).contains id && !isBoxO (hpGet st.hp id)) = false := by
    intro id
    by_cases h0 : id = j
    · subst h0; simp [h]
    · simp [h0]
  simp only [afterC, mapV_none hp, mapO_none hp, setJ, List.map_cons, List.map_nil, List.drop_succ_cons, List.drop_nil, List.append_nil, List.length_cons, List.length_nil]

/-- a call that turns one object -/
theorem WR.callB {o : AOp} {rest : List AOp} {f : FuncId} {args : List AArg} {cargs : List AV} {j : Nat} {o0 o1 : AObj} {r r' : AV} (hgd : gOK G st o.guard) (ha : o.ai = .call f args)
    (hac : AC P G f cargs [o0] fun av os => av = r ∧ os = [o1]) (hf0 : Flat o0) (hf1 : Flat o1) (hj : hpGet st.hp j = o0) (hb : isBoxO o0 = true)
    (hargs : args.map (evA G st.sl) = cargs.map (renV (jmap [j] st.hp.length))) (hr : renV (jmap [j] st.hp.length) r = r')
    (hs : (⟨putS st.sl o.dst r', st.hp.set j o1⟩ : AS) = st') (h : WR P G k rest R st') : WR P G k (o :: rest) R st := by
  have hnd : o0 ≠ .dead := by intro e; rw [e] at hb; cases hb
  refine WR.call (J := [j]) hgd ha hac (by simp) rfl (fun t i x ht hx => ?_) hargs (fun av os hq => ?_)
  · cases t with
    | zero => simp at ht hx; subst ht; subst hx; rw [hf0.ren]; exact hpGet_some hj hnd
    | succ t => simp at ht
  · obtain ⟨rfl, rfl⟩ := hq
    rw [after_boxO (by rw [hj]; exact hb), hf1.ren, hr, hs]
    exact h

/-- a nil slice in a box as an array of one's own -/
theorem Gh.nilB {id j : Nat} {cs : List Cel} (size : Nat) (hb : hpGet st.hp id = .box cs) (hj : cs[j]? = some (rawC (.slice none 0 0))) : Gh k st ⟨st.sl, st.hp.set id (.box (cs.set j (.bld st.hp.length 0))) ++ [.arr 0 size []]⟩ := by
  intro F γ a w hi hs hk
  have hho := hpGet_some hb (by simp)
  have hlt : id < st.hp.length := lt_of_get hho
  obtain ⟨hi2, he⟩ := Inv.nilp (k := k) size hi
  have hext : ∀ (i : Nat) (o : OI), γ[i]? = some o → (γ ++ [OI.arr none 0])[i]? = some o := fun _ _ h => get_append_left h
  refine ⟨F, γ ++ [OI.arr none 0], he, ⟨hi2.fz, by simp [hi.len], hi2.nd, hi2.disj, fun i o x h1 h2 => ?_⟩, hs.ext (fun _ _ h => h) hext, by simp; omega⟩
  by_cases hii : id = i
  · subst hii
    rw [List.getElem?_append_left (by simpa using hlt), List.getElem?_set_self hlt] at h1
    injection h1 with h1; subst h1
    have hok := hi2.ok id _ x (by rw [List.getElem?_append_left hlt]; exact hho) h2
    cases x with
    | box b =>
      obtain ⟨vs, T, hh, hsz, hr⟩ := hok
      refine ⟨vs, T, hh, by simp [hsz], fun m c v hc hv => ?_⟩
      by_cases hm : j = m
      · subst hm
        rw [List.getElem?_set_self (lt_of_get hj)] at hc
        injection hc with hc; subst hc
        have h3 := hr j _ v hj hv
        cases h3 with | dc _ _ h3 =>
        cases h3
        exact .bldN _ 0 (by rw [← hi.len]; simp)
      · rw [List.getElem?_set_ne hm] at hc
        exact hr m c v hc hv
    | arr b c => exact hok.elim
    | dead => exact hok.elim
  · refine hi2.ok i o x ?_ h2
    by_cases hl : i < st.hp.length
    · rw [List.getElem?_append_left (by simpa using hl), List.getElem?_set_ne hii] at h1
      rw [List.getElem?_append_left hl]; exact h1
    · rw [List.getElem?_append_right (by simpa using Nat.le_of_not_lt hl)] at h1
      rw [List.getElem?_append_right (Nat.le_of_not_lt hl)]
      simpa using h1
end
end
section

/-- a store -/
def stX (G : Glob) (st : AS) (size : Nat) (x v : AArg) : Option AS :=
  match evA G st.sl x with
  | .one (.ptr id off) =>
    match cellsOf (evA G st.sl v) with
    | some vs =>
      match hpGet st.hp id with
      | .box cs => if vs.length = size ∧ off + size ≤ cs.length then some ⟨st.sl, st.hp.set id (.box (putAt cs off vs))⟩ else none
      | _ => none
    | none => none
  | .one (.ept id i s off) =>
    match (cellsOf (evA G st.sl v)).bind dcs with
    | some ds =>
      match hpGet st.hp id with
      | .arr cap s' es =>
        match es[i]? with
        | some e => if s = s' ∧ ds.length = size ∧ off + size ≤ e.length then some ⟨st.sl, st.hp.set id (.arr cap s' (es.set i (e.take off ++ ds ++ e.drop (off + size))))⟩ else none
        | none => none
      | _ => none
    | none => none
  | _ => none
def zs (z : List Value) : Nat → List Cel
  | 0 => []
  | n + 1 => zs z n ++ [rawC (z.getD (n % z.length) undef)]
def chunk (size : Nat) : Nat → List DC → List (List DC)
  | 0, _ => []
  | n + 1, ds => ds.take size :: chunk size n (ds.drop size)
/-- a slice's literal: empty it is one's own, else it is data -/
def bsX (G : Glob) (st : AS) (dst : Option Nat) (size len : Nat) (z : List Value) (ps : List (Nat × AArg)) : Option AS :=
  match len with
  | 0 => if ps.isEmpty then some ⟨putS st.sl dst (.one (.bld st.hp.length 0)), st.hp ++ [.arr 0 size []]⟩ else none
  | len + 1 => (fillV (zs z ((len + 1) * size)) (ps.map fun (j, x) => (j * size, size, evA G st.sl x))).bind fun cs => (dcs cs).bind fun ds =>
      if ds.length = (len + 1) * size then some ⟨putS st.sl dst (vl (chunk size (len + 1) ds)), st.hp⟩ else none
def exX (G : Glob) (st : AS) (o : AOp) : Option AS :=
  match o.ai with
  | .alloc z => some ⟨putS st.sl o.dst (.one (.ptr st.hp.length 0)), st.hp ++ [.box (z.map rawC)]⟩
  | .box x => (cellsOf (evA G st.sl x)).map fun cs => ⟨putS st.sl o.dst (.one (.ptr st.hp.length 0)), st.hp ++ [.box cs]⟩
  | .store size x v => match o.dst with | none => stX G st size x v | some _ => none
  | .bslc size len z ps => bsX G st o.dst size len z ps
  | ai => (evP G st ai).map fun v => ⟨putS st.sl o.dst v, st.hp⟩
/-- the same in forms that need no functions -/
def putX (st : AS) (d : Option Nat) : Option AV → Option AS
  | some v => some ⟨putS st.sl d v, st.hp⟩
  | none => none
def boxX (st : AS) (d : Option Nat) : Option (List Cel) → Option AS
  | some cs => some ⟨putS st.sl d (.one (.ptr st.hp.length 0)), st.hp ++ [.box cs]⟩
  | none => none
def stD (G : Glob) (st : AS) (size : Nat) (x v : AArg) : Option Nat → Option AS
  | none => stX G st size x v
  | some _ => none
def ixAo (n size : Nat) (x : AV) : Option Int → Option AV
  | some i => ixAV n size x i
  | none => none
def ixLo (hp : List AObj) (size : Nat) (x : AV) : Option Int → Option AV
  | some i => ixLV hp size x i
  | none => none
def ixSo (x : AV) : Option Int → Option AV
  | some i => ixSV x i
  | none => none
def convo (k : IntKind) : Option Int → Option AV
  | some n => some (rawV (.int k (k.wrap n)))
  | none => none
def lenSo : Option ByteArray → Option AV
  | some s => some (rawV (.int .i64 s.size))
  | none => none
def aggo : Option (List Cel) → Option AV
  | some cs => some (.agg cs)
  | none => none
def evX (G : Glob) (sl : List AV) (hp : List AObj) : AI → Option AV
  | .mov x => some (evA G sl x)
  | .pick c a b => pickV (evA G sl c) (evA G sl a) (evA G sl b)
  | .load g s x => loadV hp g s (evA G sl x)
  | .bin op x y => binV op (evA G sl x) (evA G sl y)
  | .un op x => unV op (evA G sl x)
  | .conv k x => convo k (asInt? (evA G sl x))
  | .addo o x => addoV o (evA G sl x)
  | .ixA n s x i => ixAo n s (evA G sl x) (asInt? (evA G sl i))
  | .ixL s x i => ixLo hp s (evA G sl x) (asInt? (evA G sl i))
  | .ixS x i => ixSo (evA G sl x) (asInt? (evA G sl i))
  | .build z ps => aggo (fillV (z.map rawC) (ps.map fun (o, s, x) => (o, s, evA G sl x)))
  | .ext x n => extV (evA G sl x) n
  | .lenS x => lenSo (asStr? (evA G sl x))
  | .lenL x => lenLV (evA G sl x)
  | ai => evP G ⟨sl, hp⟩ ai
def exY (G : Glob) (st : AS) (d : Option Nat) : AI → Option AS
  | .alloc z => some ⟨putS st.sl d (.one (.ptr st.hp.length 0)), st.hp ++ [.box (z.map rawC)]⟩
  | .box x => boxX st d (cellsOf (evA G st.sl x))
  | .store size x v => stD G st size x v d
  | .bslc size len z ps => bsX G st d size len z ps
  | ai => putX st d (evX G st.sl st.hp ai)
theorem evX_eq (G : Glob) (sl : List AV) (hp : List AObj) (ai : AI) : evX G sl hp ai = evP G ⟨sl, hp⟩ ai := by
  cases ai <;> first | rfl | skip
  case conv k x => simp only [evX, evP]; cases asInt? (evA G sl x) <;> rfl
  case ixA n s x i => simp only [evX, evP]; cases asInt? (evA G sl i) <;> rfl
  case ixL s x i => simp only [evX, evP]; cases asInt? (evA G sl i) <;> rfl
  case ixS x i => simp only [evX, evP]; cases asInt? (evA G sl i) <;> rfl
  case build z ps => simp only [evX, evP]; cases fillV (z.map rawC) (ps.map fun (o, s, x) => (o, s, evA G sl x)) <;> rfl
  case lenS x => simp only [evX, evP]; cases asStr? (evA G sl x) <;> rfl
theorem exY_eq (G : Glob) (st : AS) (o : AOp) : exY G st o.dst o.ai = exX G st o := by
  obtain ⟨d, ai, g⟩ := o
  have key : putX st d (evX G st.sl st.hp ai) = (evP G st ai).map fun v => ⟨putS st.sl d v, st.hp⟩ := by
    rw [evX_eq]; cases evP G st ai <;> rfl
  cases ai <;> first | rfl | exact key | skip
  case box x => simp only [exY, exX]; cases cellsOf (evA G st.sl x) <;> rfl
def AI.isCall : AI → Bool
  | .call _ _ => true
  | .callv _ _ => true
  | .app _ _ _ _ _ => true
  | .apps _ _ => true
  | .mk _ _ _ _ _ => true
  | .clr _ _ _ => true
  | .cpys _ _ => true
  | .cvsb _ => true
  | _ => false

/-- as far as the operations are unguarded and no calls -/
def runX (G : Glob) : List AOp → AS → Option (List AOp × AS)
  | [], st => some ([], st)
  | o :: l, st => if o.guard = none ∧ o.ai.isCall = false then (exX G st o).bind fun st' => runX G l st' else some (o :: l, st)
def unG : Option (Nat × Bool) → AI → Bool
  | none, ai => !ai.isCall
  | some _, _ => false
def runY (G : Glob) : List AOp → Option AS → Option (List AOp × AS)
  | _, none => none
  | [], some st => some ([], st)
  | o :: l, some st => bif unG o.guard o.ai then runY G l (exY G st o.dst o.ai) else some (o :: l, st)
theorem runY_none (G : Glob) (l : List AOp) : runY G l none = none := by cases l <;> rfl
theorem runY_eq (G : Glob) : ∀ (l : List AOp) (st : AS), runY G l (some st) = runX G l st
  | [], st => rfl
  | o :: l, st => by
    simp only [runY, runX, exY_eq]
    obtain ⟨d, ai, g⟩ := o
    cases g with
    | some g => simp [unG]
    | none =>
      cases hc : ai.isCall with
      | true => simp [unG, hc]
      | false =>
        simp only [unG, hc, Bool.not_false, cond_true, true_and, if_true]
        cases exX G st ⟨d, ai, none⟩ with
        | none => simp [runY_none]
        | some st' => simp [runY_eq G l st']
/-- as far as a known test guards them -/
def runGX (G : Glob) (g : Nat) (b : Bool) : List AOp → AS → Option (List AOp × AS)
  | [], st => some ([], st)
  | o :: l, st => if o.guard = some (g, b) ∧ o.ai.isCall = false ∧ o.dst ≠ some g then (exX G st o).bind fun st' => runGX G g b l st' else some (o :: l, st)

theorem dcs_dcC : ∀ {cs : List Cel} {ds : List DC}, dcs cs = some ds → cs = dcC ds
  | [], ds, h => by simp [dcs] at h; subst h; rfl
  | .dc d :: cs, ds, h => by
    simp only [dcs] at h
    cases hc : dcs cs with
    | none => simp [hc] at h
    | some ds' =>
      simp only [hc, Option.map_some, Option.some.injEq] at h
      subst h
      rw [dcs_dcC hc]; rfl
  | .ptr _ _ :: cs, ds, h => by simp [dcs] at h
  | .bld _ _ :: cs, ds, h => by simp [dcs] at h
  | .ept _ _ _ _ :: cs, ds, h => by simp [dcs] at h
  | .bls _ _ _ _ :: cs, ds, h => by simp [dcs] at h
  | .ref _ :: cs, ds, h => by simp [dcs] at h
  | .mpc _ :: cs, ds, h => by simp [dcs] at h
  | .fn _ _ :: cs, ds, h => by simp [dcs] at h
  | .junk :: cs, ds, h => by simp [dcs] at h
theorem zs_eq (z : List Value) : ∀ n, zs z n = (List.range n).map fun i => rawC (z.getD (i % z.length) undef)
  | 0 => rfl
  | n + 1 => by rw [zs, zs_eq z n, List.range_succ, List.map_append]; rfl
theorem chunk_flat (size : Nat) : ∀ (n : Nat) (ds : List DC), ds.length = n * size → (chunk size n ds).flatten = ds ∧ (∀ e ∈ chunk size n ds, e.length = size) ∧ (chunk size n ds).length = n
  | 0, ds, h => by simp at h; subst h; simp [chunk]
  | n + 1, ds, h => by
    have hh : ds.length = n * size + size := by rw [h, Nat.add_mul, Nat.one_mul]
    obtain ⟨h1, h2, h3⟩ := chunk_flat size n (ds.drop size) (by simp; omega)
    refine ⟨by simp [chunk, h1], fun e he => ?_, by simp [chunk, h3]⟩
    simp only [chunk, List.mem_cons] at he
    rcases he with rfl | he
    · simp; omega
    · exact h2 e he

section
variable {P : Program} {G : Glob} {k : Nat} {st st' : AS} {R : AS → Prop}

theorem WR.bsX {o : AOp} {rest : List AOp} {size len : Nat} {z : List Value} {ps : List (Nat × AArg)} (hgd : gOK G st o.guard) (ha : o.ai = .bslc size len z ps)
    (h : Go.Proofs.YtmognenhkecngaaGreatDoor.bsX G st o.dst size len z ps = some st') (hw : WR P G k rest R st') : WR P G k (o :: rest) R st := by
  unfold Go.Proofs.YtmognenhkecngaaGreatDoor.bsX at h
  cases len with
  | zero =>
    simp only at h
    split at h
    · rename_i he
      injection h with h; subst h
      have hps : ps = [] := by cases ps with | nil => rfl | cons => simp at he
      subst hps
      exact WR.bslc (es := []) hgd ha (by simp [fillV, dcC]) (by simp) rfl hw
    · cases h
  | succ len =>
    simp only at h
    cases hf : fillV (zs z ((len + 1) * size)) (ps.map fun (j, x) => (j * size, size, evA G st.sl x)) with
    | none => simp [hf] at h
    | some cs =>
      simp only [hf, Option.bind_some] at h
      cases hd : dcs cs with
      | none => simp [hd] at h
      | some ds =>
        simp only [hd, Option.bind_some] at h
        split at h
        · rename_i hl
          injection h with h; subst h
          obtain ⟨h1, h2, h3⟩ := chunk_flat size (len + 1) ds hl
          rw [zs_eq] at hf
          exact WR.bslcF (es := chunk size (len + 1) ds) hgd ha (by rw [h1, ← dcs_dcC hd]; exact hf) h2 h3 hw
        · cases h

theorem WR.stX {o : AOp} {rest : List AOp} {size : Nat} {x v : AArg} (hgd : gOK G st o.guard) (ha : o.ai = .store size x v) (hd0 : o.dst = none)
    (h : Go.Proofs.YtmognenhkecngaaGreatDoor.stX G st size x v = some st') (hw : WR P G k rest R st') : WR P G k (o :: rest) R st := by
  unfold Go.Proofs.YtmognenhkecngaaGreatDoor.stX at h
  split at h
  · rename_i id off hx
    split at h
    · rename_i vs hv
      split at h
      · rename_i cs hb
        split at h
        · rename_i hc
          injection h with h; subst h
          exact WR.store hgd ha hd0 hx hv hb hc.1 hc.2 hw
        · cases h
      · cases h
    · cases h
  · rename_i id i s off hx
    split at h
    · rename_i ds hv
      split at h
      · rename_i cap s' es hb
        split at h
        · rename_i e he
          split at h
          · rename_i hc
            injection h with h; subst h
            obtain ⟨rfl, hc1, hc2⟩ := hc
            obtain ⟨cs, hcs, hdc⟩ := Option.bind_eq_some_iff.1 hv
            exact WR.storeE hgd ha hd0 hx (by rw [hcs, dcs_dcC hdc]) hb he hc1 hc2 rfl hw
          · cases h
        · cases h
      · cases h
    · cases h
  · cases h

theorem WR.exX {o : AOp} {rest : List AOp} (hgd : gOK G st o.guard) (hc : o.ai.isCall = false) (h : Go.Proofs.YtmognenhkecngaaGreatDoor.exX G st o = some st') (hw : WR P G k rest R st') : WR P G k (o :: rest) R st := by
  obtain ⟨dst, ai, gd⟩ := o
  cases ai <;> first | (simp [AI.isCall] at hc; done) | skip
  case alloc z => simp only [Go.Proofs.YtmognenhkecngaaGreatDoor.exX, Option.some.injEq] at h; subst h; exact WR.alloc hgd rfl hw
  case box x =>
    simp only [Go.Proofs.YtmognenhkecngaaGreatDoor.exX] at h
    obtain ⟨cs, h1, rfl⟩ := Option.map_eq_some_iff.1 h
    exact WR.box hgd rfl h1 hw
  case store size x v =>
    simp only [Go.Proofs.YtmognenhkecngaaGreatDoor.exX] at h
    cases dst with
    | none => exact WR.stX hgd rfl rfl h hw
    | some d => cases h
  case bslc size len z ps => exact WR.bsX hgd rfl h hw
  all_goals
    simp only [Go.Proofs.YtmognenhkecngaaGreatDoor.exX] at h
    obtain ⟨v, h1, rfl⟩ := Option.map_eq_some_iff.1 h
    exact WR.pur hgd h1 hw

theorem exX_get {o : AOp} {g : Nat} (hc : o.ai.isCall = false) (hd : o.dst ≠ some g) (h : exX G st o = some st') : evA G st'.sl (.t g) = evA G st.sl (.t g) := by
  obtain ⟨dst, ai, gd⟩ := o
  cases ai <;> first | (simp [AI.isCall] at hc; done) | skip
  case alloc z => simp only [exX, Option.some.injEq] at h; subst h; exact evA_put hd
  case box x =>
    simp only [exX] at h
    obtain ⟨cs, h1, rfl⟩ := Option.map_eq_some_iff.1 h
    exact evA_put hd
  case store size x v =>
    simp only [exX] at h
    cases dst with
    | some d => cases h
    | none =>
      simp only [stX] at h
      repeat' (split at h)
      all_goals first | (cases h; done) | (injection h with h; subst h; rfl)
  case bslc size len z ps =>
    simp only [exX, bsX] at h
    split at h
    · split at h
      · injection h with h; subst h; exact evA_put hd
      · cases h
    · obtain ⟨cs, _, h⟩ := Option.bind_eq_some_iff.1 h
      obtain ⟨ds, _, h⟩ := Option.bind_eq_some_iff.1 h
      split at h
      · injection h with h; subst h; exact evA_put hd
      · cases h
  all_goals
    simp only [exX] at h
    obtain ⟨v, h1, rfl⟩ := Option.map_eq_some_iff.1 h
    exact evA_put hd

theorem WR.rX : ∀ (ops : List AOp) (st : AS) (rest : List AOp) (st' : AS), runX G ops st = some (rest, st') → WR P G k rest R st' → WR P G k ops R st
  | [], st, rest, st', h, hw => by simp [runX] at h; obtain ⟨rfl, rfl⟩ := h; exact hw
  | o :: ops, st, rest, st', h, hw => by
    simp only [runX] at h
    split at h
    · rename_i hc
      obtain ⟨s1, h1, h2⟩ := Option.bind_eq_some_iff.1 h
      exact WR.exX (by rw [hc.1]; trivial) hc.2 h1 (WR.rX ops s1 rest st' h2 hw)
    · injection h with h; injection h with h1 h2; subst h1; subst h2; exact hw
theorem WR.rGX {g : Nat} {b : Bool} : ∀ (ops : List AOp) (st : AS) (rest : List AOp) (st' : AS), asBool? (evA G st.sl (.t g)) = some b → runGX G g b ops st = some (rest, st') → WR P G k rest R st' → WR P G k ops R st
  | [], st, rest, st', hb, h, hw => by simp [runGX] at h; obtain ⟨rfl, rfl⟩ := h; exact hw
  | o :: ops, st, rest, st', hb, h, hw => by
    simp only [runGX] at h
    split at h
    · rename_i hc
      obtain ⟨s1, h1, h2⟩ := Option.bind_eq_some_iff.1 h
      exact WR.exX (by rw [hc.1]; exact hb) hc.2.1 h1 (WR.rGX ops s1 rest st' (by rw [exX_get hc.2.1 hc.2.2 h1]; exact hb) h2 hw)
    · injection h with h; injection h with h1 h2; subst h1; subst h2; exact hw
def nq : Nat → Nat → Bool
  | 0, 0 => true
  | 0, _ + 1 => false
  | _ + 1, 0 => false
  | n + 1, m + 1 => nq n m
theorem nq_eq : ∀ a b : Nat, nq a b = (a == b)
  | 0, 0 => rfl
  | 0, b + 1 => by simp [nq]
  | a + 1, 0 => by simp [nq]
  | a + 1, b + 1 => by rw [nq, nq_eq a b, Bool.eq_iff_iff]; simp
def neqO : Option Nat → Nat → Bool
  | none, _ => true
  | some d, g => !(nq d g)
def eqb : Bool → Bool → Bool
  | true, true => true
  | false, false => true
  | _, _ => false
theorem neqO_eq (d : Option Nat) (g : Nat) : neqO d g = decide (d ≠ some g) := by
  cases d with
  | none => simp [neqO]
  | some d => by_cases h : d = g <;> simp [neqO, nq_eq, h]
theorem eqb_eq (a b : Bool) : eqb a b = (a == b) := by cases a <;> cases b <;> rfl
/-- as far as a known test guards them -/
def guG (g : Nat) (b : Bool) : Option (Nat × Bool) → Option Nat → AI → Bool
  | some (g', b'), d, ai => nq g g' && (eqb b b' && !ai.isCall && neqO d g)
  | none, _, _ => false
def runYG (G : Glob) (g : Nat) (b : Bool) : List AOp → Option AS → Option (List AOp × AS)
  | _, none => none
  | [], some st => some ([], st)
  | o :: l, some st => bif guG g b o.guard o.dst o.ai then runYG G g b l (exY G st o.dst o.ai) else some (o :: l, st)
theorem runYG_none (G : Glob) (g : Nat) (b : Bool) (l : List AOp) : runYG G g b l none = none := by cases l <;> rfl
theorem runYG_eq (G : Glob) (g : Nat) (b : Bool) : ∀ (l : List AOp) (st : AS), runYG G g b l (some st) = runGX G g b l st
  | [], st => rfl
  | o :: l, st => by
    obtain ⟨d, ai, gd⟩ := o
    simp only [runYG, runGX]
    have e : exY G st d ai = exX G st ⟨d, ai, gd⟩ := exY_eq G st ⟨d, ai, gd⟩
    rw [e]
    have hg : guG g b gd d ai = decide (gd = some (g, b) ∧ ai.isCall = false ∧ d ≠ some g) := by
      cases gd with
      | none => simp [guG]
      | some q =>
        obtain ⟨g', b'⟩ := q
        simp only [guG, neqO_eq, eqb_eq, nq_eq]
        rw [Bool.eq_iff_iff]
        simp only [Bool.and_eq_true, beq_iff_eq, Bool.not_eq_true', decide_eq_true_eq, Option.some.injEq, Prod.mk.injEq]
        constructor
        · rintro ⟨rfl, ⟨rfl, h1⟩, h2⟩; exact ⟨⟨rfl, rfl⟩, h1, h2⟩
        · rintro ⟨⟨rfl, rfl⟩, h1, h2⟩; exact ⟨rfl, ⟨rfl, h1⟩, h2⟩
    rw [hg]
    by_cases hc : gd = some (g, b) ∧ ai.isCall = false ∧ d ≠ some g
    · simp only [decide_eq_true hc, cond_true, if_pos hc]
      cases exX G st ⟨d, ai, gd⟩ with
      | none => simp [runYG_none]
      | some st' => simp [runYG_eq G g b l st']
    · simp only [decide_eq_false hc, cond_false, if_neg hc]
theorem WR.x1 {o : AOp} {ops rest : List AOp} (_ : o.guard = none) (_ : o.ai.isCall = false) (h : runY G (o :: ops) (some st) = some (rest, st')) (hw : WR P G k rest R st') : WR P G k (o :: ops) R st := WR.rX _ _ _ _ (by rw [← runY_eq]; exact h) hw
theorem WR.xg {o : AOp} {ops rest : List AOp} {g : Nat} {b : Bool} (_ : o.guard = some (g, b)) (_ : o.ai.isCall = false) (hb : asBool? (evA G st.sl (.t g)) = some b) (h : runYG G g b (o :: ops) (some st) = some (rest, st')) (hw : WR P G k rest R st') : WR P G k (o :: ops) R st := WR.rGX _ _ _ _ hb (by rw [← runYG_eq]; exact h) hw

/-- the same in a region that draws its order: what floats only computes -/
def offD : AI → Bool
  | .alloc _ => true
  | .box _ => true
  | .store _ _ _ => true
  | _ => false
def okXD : Bool → AI → Bool
  | true, ai => pureD ai
  | false, ai => offD ai
def runXD (G : Glob) : List (Bool × AOp) → AS → Option (List (Bool × AOp) × AS)
  | [], st => some ([], st)
  | (b, o) :: l, st => if o.guard = none ∧ okXD b o.ai = true then (exX G st o).bind fun st' => runXD G l st' else some ((b, o) :: l, st)
def runYD (G : Glob) : List (Bool × AOp) → Option AS → Option (List (Bool × AOp) × AS)
  | _, none => none
  | [], some st => some ([], st)
  | o :: l, some st => bif unGD o.2.guard o.1 o.2.ai then runYD G l (exY G st o.2.dst o.2.ai) else some (o :: l, st)
where unGD : Option (Nat × Bool) → Bool → AI → Bool
  | none, b, ai => okXD b ai
  | some _, _, _ => false
theorem runYD_none (G : Glob) (l : List (Bool × AOp)) : runYD G l none = none := by cases l <;> rfl
theorem runYD_eq (G : Glob) : ∀ (l : List (Bool × AOp)) (st : AS), runYD G l (some st) = runXD G l st
  | [], st => rfl
  | o :: l, st => by
    obtain ⟨b, d, ai, g⟩ := o
    simp only [runYD, runXD]
    have e : exY G st d ai = exX G st ⟨d, ai, g⟩ := exY_eq G st ⟨d, ai, g⟩
    rw [e]
    cases g with
    | some g => simp [runYD.unGD]
    | none =>
      cases hc : okXD b ai with
      | false => simp [runYD.unGD, hc]
      | true =>
        simp only [runYD.unGD, hc, cond_true, true_and, if_true]
        cases exX G st ⟨d, ai, none⟩ with
        | none => simp [runYD_none]
        | some st' => simp [runYD_eq G l st']
theorem exX_pure {o : AOp} (h : o.ai.isPure = true) : exX G st o = (evP G st o.ai).map fun v => ⟨putS st.sl o.dst v, st.hp⟩ := by
  obtain ⟨dst, ai, gd⟩ := o
  cases ai <;> first | (simp [AI.isPure] at h; done) | rfl
theorem WD.rX : ∀ (ops : List (Bool × AOp)) (st : AS) (rest : List (Bool × AOp)) (st' : AS), runXD G ops st = some (rest, st') → AWL P G k R rest st' → AWL P G k R ops st
  | [], st, rest, st', h, hw => by simp [runXD] at h; obtain ⟨rfl, rfl⟩ := h; exact hw
  | (b, o) :: ops, st, rest, st', h, hw => by
    simp only [runXD] at h
    split at h
    · rename_i hc
      obtain ⟨s1, h1, h2⟩ := Option.bind_eq_some_iff.1 h
      have hr := WD.rX ops s1 rest st' h2 hw
      obtain ⟨hg, hp⟩ := hc
      cases b with
      | true =>
        simp only [okXD] at hp
        rw [exX_pure (pureD_pure hp)] at h1
        obtain ⟨v, hv, rfl⟩ := Option.map_eq_some_iff.1 h1
        exact ⟨v, .inr ⟨by rw [hg]; trivial, .inl (by rw [pureD_qhp hp]; exact hv)⟩, hr⟩
      | false =>
        simp only [okXD] at hp
        obtain ⟨dst, ai, gd⟩ := o
        simp only at hg; subst hg
        cases ai <;> first | (simp [offD] at hp; done) | skip
        case alloc z => simp only [exX, Option.some.injEq] at h1; subst h1; exact WD.allocE trivial rfl rfl hr
        case box x =>
          simp only [exX] at h1
          obtain ⟨cs, h3, rfl⟩ := Option.map_eq_some_iff.1 h1
          exact WD.boxE trivial rfl h3 rfl hr
        case store size x v =>
          simp only [exX] at h1
          cases dst with
          | some d => cases h1
          | none =>
            simp only [stX] at h1
            split at h1
            · rename_i id off hx
              split at h1
              · rename_i vs hv
                split at h1
                · rename_i cs hb
                  split at h1
                  · rename_i hc
                    injection h1 with h1
                    exact WD.storeX trivial rfl rfl hx hv hb hc.1 hc.2 h1 hr
                  · cases h1
                · cases h1
              · cases h1
            · rename_i id i s off hx
              split at h1
              · rename_i ds hv
                split at h1
                · rename_i cap s' es hb
                  split at h1
                  · rename_i e he
                    split at h1
                    · rename_i hc
                      injection h1 with h1; subst h1
                      obtain ⟨rfl, hc1, hc2⟩ := hc
                      obtain ⟨cs, hcs, hdc⟩ := Option.bind_eq_some_iff.1 hv
                      exact .inr ⟨trivial, rfl, .inr ⟨id, i, s, off, cap, es, e, ds, hx, by rw [hcs, dcs_dcC hdc], hb, he, hc1, hc2, hr⟩⟩
                    · cases h1
                  · cases h1
                · cases h1
              · cases h1
            · cases h1
    · injection h with h; injection h with h1 h2; subst h1; subst h2; exact hw
theorem WD.x1 {b : Bool} {o : AOp} {ops rest : List (Bool × AOp)} (_ : o.guard = none) (_ : okXD b o.ai = true) (h : runYD G ((b, o) :: ops) (some st) = some (rest, st')) (hw : AWL P G k R rest st') : AWL P G k R ((b, o) :: ops) st := WD.rX _ _ _ _ (by rw [← runYD_eq]; exact h) hw
def guD (g : Nat) (c : Bool) : Bool → Option (Nat × Bool) → Option Nat → AI → Bool
  | true, some (g', c'), d, ai => nq g g' && (eqb c c' && pureD ai && neqO d g)
  | _, _, _, _ => false
def runYE (G : Glob) (g : Nat) (c : Bool) : List (Bool × AOp) → Option AS → Option (List (Bool × AOp) × AS)
  | _, none => none
  | [], some st => some ([], st)
  | o :: l, some st => bif guD g c o.1 o.2.guard o.2.dst o.2.ai then runYE G g c l (exY G st o.2.dst o.2.ai) else some (o :: l, st)
theorem runYE_none (G : Glob) (g : Nat) (c : Bool) (l : List (Bool × AOp)) : runYE G g c l none = none := by cases l <;> rfl
theorem runYE_eq (G : Glob) (g : Nat) (c : Bool) : ∀ (l : List (Bool × AOp)) (st : AS), runYE G g c l (some st) = runDG G g c l st
  | [], st => rfl
  | o :: l, st => by
    obtain ⟨b, d, ai, gd⟩ := o
    simp only [runYE, runDG]
    have hg : guD g c b gd d ai = decide (b = true ∧ gd = some (g, c) ∧ pureD ai = true ∧ d ≠ some g) := by
      cases gd with
      | none => cases b <;> simp [guD]
      | some q =>
        obtain ⟨g', c'⟩ := q
        cases b with
        | false => simp [guD]
        | true =>
          simp only [guD, neqO_eq, eqb_eq, nq_eq]
          rw [Bool.eq_iff_iff]
          simp only [Bool.and_eq_true, beq_iff_eq, decide_eq_true_eq, Option.some.injEq, Prod.mk.injEq, true_and]
          constructor
          · rintro ⟨rfl, ⟨rfl, h1⟩, h2⟩; exact ⟨⟨rfl, rfl⟩, h1, h2⟩
          · rintro ⟨⟨rfl, rfl⟩, h1, h2⟩; exact ⟨rfl, ⟨rfl, h1⟩, h2⟩
    rw [hg]
    by_cases hc : b = true ∧ gd = some (g, c) ∧ pureD ai = true ∧ d ≠ some g
    · simp only [decide_eq_true hc, cond_true, if_pos hc]
      have e : exY G st d ai = exX G st ⟨d, ai, gd⟩ := exY_eq G st ⟨d, ai, gd⟩
      rw [e, exX_pure (o := ⟨d, ai, gd⟩) (pureD_pure hc.2.2.1)]
      cases evP G st ai with
      | none => simp [runYE_none]
      | some v => simp [runYE_eq G g c l]
    · simp only [decide_eq_false hc, cond_false, if_neg hc]
theorem WD.xg {b : Bool} {o : AOp} {ops rest : List (Bool × AOp)} {g : Nat} {c : Bool} (_ : o.guard = some (g, c)) (_ : o.ai.isPure = true) (hb : asBool? (evA G st.sl (.t g)) = some c) (h : runYE G g c ((b, o) :: ops) (some st) = some (rest, st')) (hw : AWL P G k R rest st') : AWL P G k R ((b, o) :: ops) st := WD.runG _ _ _ _ hb (by rw [← runYE_eq]; exact h) hw
/-- those that a test leaves out -/
def skO (g : Nat) (c : Bool) : Option (Nat × Bool) → Option Nat → Bool
  | some (g', c'), d => nq g g' && (eqb c c' && neqO d g)
  | none, _ => false
theorem skO_eq (g : Nat) (c : Bool) (gd : Option (Nat × Bool)) (d : Option Nat) : skO g c gd d = decide (gd = some (g, c) ∧ d ≠ some g) := by
  cases gd with
  | none => simp [skO]
  | some q =>
    obtain ⟨g', c'⟩ := q
    simp only [skO, neqO_eq, eqb_eq, nq_eq]
    rw [Bool.eq_iff_iff]
    simp only [Bool.and_eq_true, beq_iff_eq, decide_eq_true_eq, Option.some.injEq, Prod.mk.injEq]
    constructor
    · rintro ⟨rfl, rfl, h2⟩; exact ⟨⟨rfl, rfl⟩, h2⟩
    · rintro ⟨⟨rfl, rfl⟩, h2⟩; exact ⟨rfl, rfl, h2⟩
def skY (g : Nat) (c : Bool) : List AOp → AS → List AOp × AS
  | [], st => ([], st)
  | o :: l, st => bif skO g c o.guard o.dst then skY g c l ⟨putS st.sl o.dst (.tup []), st.hp⟩ else (o :: l, st)
theorem skY_eq (g : Nat) (c : Bool) : ∀ (l : List AOp) (st : AS), skY g c l st = skipG g c l st
  | [], st => rfl
  | o :: l, st => by
    simp only [skY, skipG, skO_eq]
    by_cases hc : o.guard = some (g, c) ∧ o.dst ≠ some g
    · rw [decide_eq_true hc, cond_true, if_pos hc, skY_eq g c l]
    · rw [decide_eq_false hc, cond_false, if_neg hc]
def skYD (g : Nat) (c : Bool) : List (Bool × AOp) → AS → List (Bool × AOp) × AS
  | [], st => ([], st)
  | o :: l, st => bif skO g c o.2.guard o.2.dst then skYD g c l ⟨putS st.sl o.2.dst (.tup []), st.hp⟩ else (o :: l, st)
theorem skYD_eq (g : Nat) (c : Bool) : ∀ (l : List (Bool × AOp)) (st : AS), skYD g c l st = skipDG g c l st
  | [], st => rfl
  | (b, o) :: l, st => by
    simp only [skYD, skipDG, skO_eq]
    by_cases hc : o.guard = some (g, c) ∧ o.dst ≠ some g
    · rw [decide_eq_true hc, cond_true, if_pos hc, skYD_eq g c l]
    · rw [decide_eq_false hc, cond_false, if_neg hc]
def gN (c : Bool) : AV → Bool
  | .one (.dc (.raw (.bool b))) => eqb b (!c)
  | .tup [] => true
  | _ => false
theorem gN_ok {g : Nat} {c : Bool} (h : gN c (evA G st.sl (.t g)) = true) : gNo G st (some (g, c)) := by
  show asBool? (evA G st.sl (.t g)) = some (!c) ∨ evA G st.sl (.t g) = .tup []
  generalize evA G st.sl (.t g) = v at h
  unfold gN at h
  split at h
  · rename_i b; rw [eqb_eq, beq_iff_eq] at h; subst h; exact .inl rfl
  · exact .inr rfl
  · cases h
theorem WR.xs {o : AOp} {ops rest : List AOp} {g : Nat} {c : Bool} (_ : o.guard = some (g, c)) (hb : gN c (evA G st.sl (.t g)) = true) (h : skY g c (o :: ops) st = (rest, st')) (hw : WR P G k rest R st') : WR P G k (o :: ops) R st := WR.skipG _ _ _ _ (gN_ok hb) (by rw [← skY_eq]; exact h) hw
theorem WD.xs {b : Bool} {o : AOp} {ops rest : List (Bool × AOp)} {g : Nat} {c : Bool} (_ : o.guard = some (g, c)) (hb : gN c (evA G st.sl (.t g)) = true) (h : skYD g c ((b, o) :: ops) st = (rest, st')) (hw : AWL P G k R rest st') : AWL P G k R ((b, o) :: ops) st := WD.skipG _ _ _ _ (gN_ok hb) (by rw [← skYD_eq]; exact h) hw
end
attribute [go_sem] pureD nq neqO skO skY skYD gN runYE guD runY runYG runYD runYD.unGD unG guG cond_true cond_false exY evX stD ixAo ixLo ixSo convo lenSo aggo offD okXD stX bsX zs chunk dcs AI.isCall fillV toTV List.getElem?_cons_succ List.isEmpty_nil List.isEmpty_cons
end
end Go.Proofs.YtmognenhkecngaaGreatDoor
