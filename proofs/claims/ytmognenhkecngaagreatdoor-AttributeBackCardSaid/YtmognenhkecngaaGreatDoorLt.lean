/- An interpreter of codes over abstract states: what it answers is a contract. Conditions: none. -/
import Derived.Test.YtmognenhkecngaaGreatDoorLp
namespace Go.Proofs.YtmognenhkecngaaGreatDoor
section
section
variable {k : Nat} {as : AS} {F : Fz} {γ : List OI} {w : World}

/-- the frozen memory with one block more -/
def Fz.add (F : Fz) (w : World) (b : Nat) : Fz := fun b' => if b' = b then w.heap[b]? else F b'

theorem frz_ok {F' : Fz} {γ' : List OI} {id cap size : Nat} {es : List (List DC)} (hi : Inv F γ as.hp w) (hb : hpGet as.hp id = .arr cap size es) (hs : F.sub F') (hg : ∀ (i : Nat) (o : OI), (i == id) = false → γ[i]? = some o → γ'[i]? = some o)
    (hF : ∀ b c, γ[id]? = some (.arr (some b) c) → F' b = w.heap[b]?) {c : Cel} {v : Value} (h : RC F γ c v) : RC F' γ' (killC (· == id) (frzC id es c)) v := by
  by_cases hc : ∃ n, c = .bld id n ∧ n ≤ es.length
  · obtain ⟨n, rfl, hn⟩ := hc
    have e1 : frzC id es (.bld id n) = .dc (.slc (es.take n)) := by simp [frzC, hn]
    rw [e1]
    have e2 : killC (· == id) (.dc (.slc (es.take n))) = .dc (.slc (es.take n)) := by simp [killC, Cel.keep]
    rw [e2]
    refine .dc _ _ ?_
    cases h with
    | bldN _ c hgm => simp; exact .nil _ _
    | bld _ _ b c hgm =>
      obtain ⟨hcc, hec, hes, vs, T, hh, hvs, hr⟩ := hi.arr hb hgm
      have hlen : (es.take n).length = n := by simp; omega
      have hget : ∀ (i : Nat) e, (es.take n)[i]? = some e → es[i]? = some e := by
        intro i e h
        rw [List.getElem?_take] at h
        split at h
        · exact h
        · cases h
      have key : ∀ (i j : Nat) e d, es[i]? = some e → e[j]? = some d → ∃ u, vs[i * size + j]? = some u := by
        intro i j e d h1 h2
        have hj : j < size := by have := lt_of_get h2; have := hes _ (List.mem_of_getElem? h1); omega
        have := mul_lt_cap (lt_of_get h1) hec hj
        exact ⟨_, Array.getElem?_eq_getElem (by omega)⟩
      have := RD.slc (F := F') b 0 c size (es.take n) (fun i j => vs.toList.getD (i * size + j) undef) (fun e he => hes e (List.mem_of_mem_take he)) (fun i j e d h1 h2 => by
          obtain ⟨u, hu⟩ := key i j e d (hget i e h1) h2
          simp only [List.getD_eq_getElem?_getD, Array.getElem?_toList, hu, Option.getD_some]
          exact (hr i j e d u (hget i e h1) h2 hu).mono hs) (fun i j e d h1 h2 => by
          obtain ⟨u, hu⟩ := key i j e d (hget i e h1) h2
          simp only [List.getD_eq_getElem?_getD, Array.getElem?_toList, hu, Option.getD_some, Fz.cell?, Nat.zero_add]
          rw [hF b c hgm, hh]
          simpa using hu) (by rw [hlen]; omega)
      rwa [hlen] at this
  · have e1 : frzC id es c = c := by
      cases c <;> try rfl
      rename_i j n
      simp only [frzC]
      split
      · rename_i hcond
        obtain ⟨rfl, hn⟩ := hcond
        exact absurd ⟨n, rfl, hn⟩ hc
      · rfl
    rw [e1]
    exact h.kill hs hg

theorem Gh.freeze {id cap size : Nat} {es : List (List DC)} (hb : hpGet as.hp id = .arr cap size es) :
    Gh k as ⟨as.sl.map fun v => killV (· == id) (frzV id es v), (as.hp.map fun o => killO (· == id) (frzO id es o)).set id .dead⟩ := by
  intro F γ a w hi hs hk
  have hho := hpGet_some hb (by simp)
  have hlt : id < γ.length := by rw [hi.len]; exact lt_of_get hho
  have hx : γ[id]? = some (γ[id]'hlt) := List.getElem?_eq_getElem hlt
  generalize hxe : γ[id]'hlt = x at hx
  have hok := hi.ok id _ _ hho hx
  let F' : Fz := match x.blk with | some b => F.add w b | none => F
  have hFb : ∀ b, x.blk = some b → F' b = w.heap[b]? := by intro b hb'; simp [F', hb', Fz.add]
  have hFo : ∀ b', x.blk ≠ some b' → F' b' = F b' := by
    intro b' hne
    cases hxb : x.blk with
    | none => simp [F', hxb]
    | some b => simp only [F', hxb, Fz.add]; rw [if_neg (fun e => hne (by rw [hxb, e]))]
  have hsub : F.sub F' := by
    intro b o h
    rw [hFo b (fun e => by rw [hi.disj id b (blkAt_of hx e)] at h; cases h)]; exact h
  have hg : ∀ (i : Nat) (o : OI), (i == id) = false → γ[i]? = some o → (γ.set id .dead)[i]? = some o := fun i o h1 h2 => get_set_other h2 h1
  have hF2 : ∀ b c, γ[id]? = some (.arr (some b) c) → F' b = w.heap[b]? := fun b c h => hFb b (by rw [hx] at h; injection h with h; rw [h]; rfl)
  have hb : ∀ i b, blkAt (γ.set id .dead) i = some b → i ≠ id ∧ blkAt γ i = some b := by
    intro i b h
    obtain ⟨y, hy, hyb⟩ := blkAt_some h
    by_cases hii : id = i
    · subst hii
      rw [List.getElem?_set_self hlt] at hy
      injection hy with hy; subst hy
      simp [OI.blk] at hyb
    · rw [List.getElem?_set_ne hii] at hy
      exact ⟨Ne.symm hii, blkAt_of hy hyb⟩
  have frz := fun {c : Cel} {v : Value} (h : RC F γ c v) => frz_ok (F' := F') (γ' := γ.set id .dead) hi ‹hpGet as.hp id = _› hsub hg hF2 h
  have frzs : ∀ {cs : List Cel} {vs : Array Value}, (∀ (i : Nat) c v, cs[i]? = some c → vs[i]? = some v → RC F γ c v) → ∀ (i : Nat) c v, ((cs.map (frzC id es)).map (killC (· == id)))[i]? = some c → vs[i]? = some v → RC F' (γ.set id .dead) c v := by
    intro cs vs h i c v hc hv
    rw [List.map_map, List.getElem?_map] at hc
    cases hci : cs[i]? with
    | none => simp [hci] at hc
    | some c0 =>
      simp only [hci, Option.map_some, Option.some.injEq, Function.comp] at hc; subst hc
      exact frz (h i c0 v hci hv)
  refine ⟨F', γ.set id .dead, ⟨hsub, rfl, rfl, rfl, Nat.le_refl _, fun _ _ _ => rfl, fun b o h => ?_, fun i b h => .inl ⟨i, (hb i b h).2⟩, fun i _ b h => ?_⟩,
    ⟨fun b o h => ?_, by simp [hi.len], fun i j b h1 h2 => hi.nd i j b (hb i b h1).2 (hb j b h2).2, fun i b h => ?_, fun i o y h1 h2 => ?_⟩, ?_, by simpa using hk⟩
  · by_cases hxb : x.blk = some b
    · exact .inr (.inr ⟨id, blkAt_of hx hxb⟩)
    · rw [hFo b hxb] at h; exact .inl h
  · by_cases hii : id = i
    · subst hii
      rw [hx] at h
      injection h with h
      subst h
      exact hok.elim
    · rw [List.getElem?_set_ne hii]; exact h
  · by_cases hxb : x.blk = some b
    · rw [hFb b hxb] at h; exact h
    · rw [hFo b hxb] at h; exact hi.fz b o h
  · obtain ⟨hne, hbb⟩ := hb i b h
    rw [hFo b (fun e => hne (hi.nd _ _ _ hbb (blkAt_of hx e)))]
    exact hi.disj i b hbb
  · by_cases hii : id = i
    · subst hii
      rw [List.getElem?_set_self hlt] at h2
      rw [List.getElem?_set_self (by rw [List.length_map, ← hi.len]; exact hlt)] at h1
      injection h1 with h1; injection h2 with h2; subst h1; subst h2
      trivial
    · rw [List.getElem?_set_ne hii] at h1 h2
      rw [List.getElem?_map] at h1
      cases ho : as.hp[i]? with
      | none => simp [ho] at h1
      | some o0 =>
        simp only [ho, Option.map_some, Option.some.injEq] at h1; subst h1
        have h3 := hi.ok i o0 y ho h2
        cases o0 with
        | box cs =>
          cases y with
          | box b =>
            obtain ⟨vs, T, g1, g2, g3⟩ := h3
            exact ⟨vs, T, g1, by simpa [frzO] using g2, frzs g3⟩
          | arr _ _ => exact h3.elim
          | dead => exact h3.elim
        | arr c2 s2 es2 =>
          have := h3.kill (p := (· == id)) (F' := F') (γ' := γ.set id .dead) (w' := w) hsub hg (fun _ _ => rfl)
          exact this
        | dead =>
          have := h3.kill (p := (· == id)) (F' := F') (γ' := γ.set id .dead) (w' := w) hsub hg (fun _ _ => rfl)
          exact this
  · refine ⟨hs.1, by simpa using hs.2.1, fun i av v h1 h2 => ?_⟩
    rw [List.getElem?_map] at h1
    cases hsi : as.sl[i]? with
    | none => simp [hsi] at h1
    | some av0 =>
      simp only [hsi, Option.map_some, Option.some.injEq] at h1; subst h1
      have h3 := hs.2.2 i av0 v hsi h2
      cases h3 with
      | one c v h => exact .one _ _ (frz h)
      | agg cs vs hsz h => exact .agg _ _ (by simpa [frzV] using hsz) (frzs h)
      | tup l vs hsz h =>
        refine .tup _ _ (by simpa [frzV] using hsz) (fun i t v h1 h2 => ?_)
        rw [List.map_map, List.getElem?_map] at h1
        obtain ⟨t0, h4, rfl⟩ := Option.map_eq_some_iff.1 h1
        cases h i t0 v h4 h2 with
        | one c v h => exact .one _ _ (frz h)
        | agg cs vs hsz h => exact .agg _ _ (by simpa [frzT] using hsz) (frzs h)
      | junk v => exact .junk v
end
end
section
section
variable {P : Program} {G : Glob} {k : Nat} {st st' : AS} {x y : ACode}

theorem AC.of_code {f : FuncId} {fn : Func} {n : Nat} {rs : List RetV} {ac : ACode} {args : List AV} {objs : List AObj} {Q : AV → List AObj → Prop} (hf : P.funcs[f]? = some fn) (hn : fn.ntmps = n)
    (hc : fn.body.bind (compileC P) = some ac) (hr : fn.results.toList.mapM (retOf P) = some rs)
    (h : AW P G objs.length ac (fun e s => (e = .normal ∨ e = .ret) ∧ objs.length ≤ s.hp.length ∧ ∃ av, retV s rs = some av ∧ Q av s.hp) ⟨args ++ List.replicate (n - args.length) .junk, objs⟩) : AC P G f args objs Q := by
  cases hb : fn.body with
  | none => rw [hb] at hc; cases hc
  | some c => rw [hb] at hc; exact AC.of_body hf hb hn hr hc h

/-- what a function's end must show -/
def Fin (k : Nat) (rs : List RetV) (Q : AV → List AObj → Prop) (e : Exit) (s : AS) : Prop :=
  (e = .normal ∨ e = .ret) ∧ k ≤ s.hp.length ∧ ∃ av, retV s rs = some av ∧ Q av s.hp

theorem AC.of_codeF {f : FuncId} {fn : Func} {n : Nat} {rs : List RetV} {ac : ACode} {args : List AV} {objs : List AObj} {Q : AV → List AObj → Prop} (hf : P.funcs[f]? = some fn) (hn : fn.ntmps = n)
    (hc : fn.body.bind (compileC P) = some ac) (hr : fn.results.toList.mapM (retOf P) = some rs)
    (h : AW P G objs.length ac (Fin objs.length rs Q) ⟨args ++ List.replicate (n - args.length) .junk, objs⟩) : AC P G f args objs Q := AC.of_code hf hn hc hr h

theorem Fin.ret {rs : List RetV} {Q : AV → List AObj → Prop} {s : AS} {av : AV} (h1 : k ≤ s.hp.length) (h2 : retV s rs = some av) (h3 : Q av s.hp) : Fin k rs Q .ret s := ⟨.inr rfl, h1, av, h2, h3⟩
theorem Fin.normal {rs : List RetV} {Q : AV → List AObj → Prop} {s : AS} {av : AV} (h1 : k ≤ s.hp.length) (h2 : retV s rs = some av) (h3 : Q av s.hp) : Fin k rs Q .normal s := ⟨.inl rfl, h1, av, h2, h3⟩

/-- the exits of the first part of a sequence, of a block, of a loop's round -/
def SeqQ (P : Program) (G : Glob) (k : Nat) (y : ACode) (Q : Exit → AS → Prop) : Exit → AS → Prop := fun e s => match e with | .normal => AW P G k y Q s | e => Q e s
def BlkQ (id : Nat) (Q : Exit → AS → Prop) : Exit → AS → Prop := fun e s => match e with | .exit id' => if id' = id then Q .normal s else Q (.exit id') s | e => Q e s
def RndQ (k : Nat) {α : Type} (H : α → AS) (I : α → Prop) (μ : α → Nat) (n : Nat) (Q : Exit → AS → Prop) : Exit → AS → Prop := fun e s => match e with | .normal => ∃ z', I z' ∧ μ z' < n ∧ Gh k s (H z') | e => Q e s

variable {Q : Exit → AS → Prop}
theorem AW.seqv (h : AW P G k x (SeqQ P G k y Q) st) : AW P G k (.seq x y) Q st := AW.seq h
theorem SeqQ.n (h : AW P G k y Q st) : SeqQ P G k y Q .normal st := h
theorem SeqQ.r (h : Q .ret st) : SeqQ P G k y Q .ret st := h
theorem SeqQ.e {id : Nat} (h : Q (.exit id) st) : SeqQ P G k y Q (.exit id) st := h
theorem BlkQ.n {id : Nat} (h : Q .normal st) : BlkQ id Q .normal st := h
theorem BlkQ.r {id : Nat} (h : Q .ret st) : BlkQ id Q .ret st := h
theorem BlkQ.e {id : Nat} (h : Q .normal st) : BlkQ id Q (.exit id) st := by show (if id = id then _ else _); rw [if_pos rfl]; exact h
theorem BlkQ.o {id id' : Nat} (hne : ¬ id' = id) (h : Q (.exit id') st) : BlkQ id Q (.exit id') st := by show (if id' = id then _ else _); rw [if_neg hne]; exact h
theorem RndQ.n {α : Type} {H : α → AS} {I : α → Prop} {μ : α → Nat} {n : Nat} (z : α) (h1 : I z) (h2 : μ z < n) (h3 : Gh k st (H z)) : RndQ k H I μ n Q .normal st := ⟨z, h1, h2, h3⟩
theorem RndQ.r {α : Type} {H : α → AS} {I : α → Prop} {μ : α → Nat} {n : Nat} (h : Q .ret st) : RndQ k H I μ n Q .ret st := h
theorem RndQ.e {α : Type} {H : α → AS} {I : α → Prop} {μ : α → Nat} {n id : Nat} (h : Q (.exit id) st) : RndQ k H I μ n Q (.exit id) st := h

theorem AW.loopG {α : Type} (H : α → AS) (I : α → Prop) (μ : α → Nat) (x0 : α) (hI : I x0) (h0 : Gh k st (H x0)) (round : ∀ z, I z → AW P G k x (RndQ k H I μ (μ z) Q) (H z)) : AW P G k (.loop x) Q st := by
  refine AW.loop (fun z s => I z ∧ Gh k s (H z)) μ x0 ⟨hI, h0⟩ (fun z s hz => ?_)
  refine AW.ghost hz.2 ((round z hz.1).mono (fun e s' h => ?_))
  cases e with
  | normal => obtain ⟨z', h1, h2, h3⟩ := h; exact ⟨z', ⟨h1, h3⟩, h2⟩
  | exit id => exact h
  | goto l => exact h
  | ret => exact h
  | panic c => exact h
  | outgrown => exact h

/-- a test in a region: both ways -/
theorem WR.split {o : AOp} {rest : List AOp} {R : AS → Prop} {g : Nat} {b c : Bool} (_ : o.guard = some (g, b)) (_ : asBool? (evA G st.sl (.t g)) = some c)
    (h1 : c = true → WR P G k (o :: rest) R st) (h2 : c = false → WR P G k (o :: rest) R st) : WR P G k (o :: rest) R st := by
  cases c with
  | true => exact h1 rfl
  | false => exact h2 rfl

theorem Gh.dropS (n : Nat) (hkn : k ≤ n) {ys : List AV} {hs : List AObj} (h1 : SLe (st.sl.map (killV fun id => decide (n ≤ id))) ys) (h2 : (st.hp.take n).map (killO fun id => decide (n ≤ id)) = hs) : Gh k st ⟨ys, hs⟩ := by
  subst h2
  exact Gh.trans (Gh.drop n hkn) (Gh.slots h1)
end

abbrev vi (n : Int) : AV := .one (.dc (.raw (.int .i64 n)))
abbrev vb (b : Bool) : AV := .one (.dc (.raw (.bool b)))
abbrev ci (n : Int) : DC := .raw (.int .i64 n)
abbrev vl (es : List (List DC)) : AV := .one (.dc (.slc es))

theorem wrap64 {n : Int} (h : -9223372036854775808 ≤ n ∧ n ≤ 9223372036854775807) : IntKind.i64.wrap n = n := by
  have e1 : (2 ^ IntKind.i64.bits : Int) = 18446744073709551616 := by decide
  have e2 : (2 ^ (IntKind.i64.bits - 1) : Int) = 9223372036854775808 := by decide
  unfold IntKind.wrap
  simp only [e1, e2, IntKind.signed, Bool.true_and, decide_eq_true_eq]
  split <;> omega

section
variable {P : Program} {G : Glob} {k : Nat} {st st' : AS} {R : AS → Prop} {o : AOp} {rest : List AOp}
theorem WR.allocE {zero : List Value} (hgd : gOK G st o.guard) (ha : o.ai = .alloc zero) (hs : (⟨putS st.sl o.dst (.one (.ptr st.hp.length 0)), st.hp ++ [.box (zero.map rawC)]⟩ : AS) = st') (h : WR P G k rest R st') : WR P G k (o :: rest) R st :=
  WR.alloc hgd ha (hs ▸ h)
theorem WR.boxE {x : AArg} {cs : List Cel} (hgd : gOK G st o.guard) (ha : o.ai = .box x) (hx : cellsOf (evA G st.sl x) = some cs) (hs : (⟨putS st.sl o.dst (.one (.ptr st.hp.length 0)), st.hp ++ [.box cs]⟩ : AS) = st') (h : WR P G k rest R st') : WR P G k (o :: rest) R st :=
  WR.box hgd ha hx (hs ▸ h)
theorem WR.storeX {size id off : Nat} {x v : AArg} {cs vs : List Cel} (hgd : gOK G st o.guard) (ha : o.ai = .store size x v) (hd0 : o.dst = none)
    (hx : evA G st.sl x = .one (.ptr id off)) (hv : cellsOf (evA G st.sl v) = some vs) (hb : hpGet st.hp id = .box cs) (hsz : vs.length = size) (hle : off + size ≤ cs.length)
    (hs : (⟨st.sl, st.hp.set id (.box (putAt cs off vs))⟩ : AS) = st') (h : WR P G k rest R st') : WR P G k (o :: rest) R st := WR.store hgd ha hd0 hx hv hb hsz hle (hs ▸ h)
theorem WR.bslcE {size len : Nat} {zero : List Value} {parts : List (Nat × AArg)} {es : List (List DC)} (hgd : gOK G st o.guard) (ha : o.ai = .bslc size len zero parts)
    (hf : fillV ((List.range (len * size)).map fun i => rawC (zero.getD (i % zero.length) undef)) (parts.map fun (j, x) => (j * size, size, evA G st.sl x)) = some (dcC es.flatten))
    (hes : ∀ e ∈ es, e.length = size) (hlen : es.length = len) (hs : (⟨putS st.sl o.dst (.one (.bld st.hp.length len)), st.hp ++ [.arr len size es]⟩ : AS) = st')
    (h : WR P G k rest R st') : WR P G k (o :: rest) R st := WR.bslc hgd ha hf hes hlen (hs ▸ h)
end

/-- pure, and no slice (a slice that floats has its own rule) -/
def pureD : AI → Bool
  | .alloc _ => false
  | .box _ => false
  | .store _ _ _ => false
  | .bslc _ _ _ _ => false
  | .call _ _ => false
  | .callv _ _ => false
  | .app _ _ _ _ _ => false
  | .apps _ _ => false
  | .mk _ _ _ _ _ => false
  | .clr _ _ _ => false
  | .cpys _ _ => false
  | .cvsb _ => false
  | .slL _ _ _ _ => false
  | _ => true
theorem pureD_pure {ai : AI} (h : pureD ai = true) : ai.isPure = true := by
  cases ai <;> first | rfl | (simp [pureD] at h; done)
theorem pureD_qhp {ai : AI} (h : pureD ai = true) {hp : List AObj} : qhp ai hp = hp := by
  cases ai <;> first | rfl | (simp [pureD] at h; done)
def runD (G : Glob) : List (Bool × AOp) → AS → Option (List (Bool × AOp) × AS)
  | [], st => some ([], st)
  | (b, o) :: l, st => if b = true ∧ o.guard = none ∧ pureD o.ai = true then (evP G st o.ai).bind fun v => runD G l ⟨putS st.sl o.dst v, st.hp⟩ else some ((b, o) :: l, st)
def runDG (G : Glob) (g : Nat) (c : Bool) : List (Bool × AOp) → AS → Option (List (Bool × AOp) × AS)
  | [], st => some ([], st)
  | (b, o) :: l, st => if b = true ∧ o.guard = some (g, c) ∧ pureD o.ai = true ∧ o.dst ≠ some g then (evP G st o.ai).bind fun v => runDG G g c l ⟨putS st.sl o.dst v, st.hp⟩ else some ((b, o) :: l, st)
def skipDG (g : Nat) (c : Bool) : List (Bool × AOp) → AS → List (Bool × AOp) × AS
  | [], st => ([], st)
  | (b, o) :: l, st => if o.guard = some (g, c) ∧ o.dst ≠ some g then skipDG g c l ⟨putS st.sl o.dst (.tup []), st.hp⟩ else ((b, o) :: l, st)

section
variable {P : Program} {G : Glob} {k : Nat} {st st' : AS} {R : AS → Prop} {o : AOp} {rest ops : List (Bool × AOp)} {Q : Exit → AS → Prop}
theorem WD.nil (h : R st) : AWL P G k R [] st := h
theorem WD.skip {b : Bool} (hg : gNo G st o.guard) (h : AWL P G k R rest ⟨putS st.sl o.dst (.tup []), st.hp⟩) : AWL P G k R ((b, o) :: rest) st := by
  cases b with
  | true => exact ⟨.tup [], .inl ⟨hg, rfl⟩, h⟩
  | false => exact .inl ⟨hg, h⟩
theorem WD.run : ∀ (ops : List (Bool × AOp)) (st : AS) (rest : List (Bool × AOp)) (st' : AS), runD G ops st = some (rest, st') → AWL P G k R rest st' → AWL P G k R ops st
  | [], st, rest, st', h, hw => by simp [runD] at h; obtain ⟨rfl, rfl⟩ := h; exact hw
  | (b, o) :: ops, st, rest, st', h, hw => by
    simp only [runD] at h
    split at h
    · rename_i hc
      obtain ⟨rfl, hg, hpu⟩ := hc
      cases he : evP G st o.ai with
      | none => simp [he] at h
      | some v =>
        simp only [he, Option.bind_some] at h
        exact ⟨v, .inr ⟨by rw [hg]; trivial, .inl (by rw [pureD_qhp hpu]; exact he)⟩, WD.run ops _ rest st' h hw⟩
    · injection h with h; injection h with h1 h2; subst h1; subst h2; exact hw
theorem WD.runG {g : Nat} {c : Bool} : ∀ (ops : List (Bool × AOp)) (st : AS) (rest : List (Bool × AOp)) (st' : AS), asBool? (evA G st.sl (.t g)) = some c → runDG G g c ops st = some (rest, st') → AWL P G k R rest st' → AWL P G k R ops st
  | [], st, rest, st', hb, h, hw => by simp [runDG] at h; obtain ⟨rfl, rfl⟩ := h; exact hw
  | (b, o) :: ops, st, rest, st', hb, h, hw => by
    simp only [runDG] at h
    split at h
    · rename_i hc
      obtain ⟨rfl, hg, hpu, hd⟩ := hc
      cases he : evP G st o.ai with
      | none => simp [he] at h
      | some v =>
        simp only [he, Option.bind_some] at h
        exact ⟨v, .inr ⟨by rw [hg]; exact hb, .inl (by rw [pureD_qhp hpu]; exact he)⟩, WD.runG ops _ rest st' (by rw [evA_put hd]; exact hb) h hw⟩
    · injection h with h; injection h with h1 h2; subst h1; subst h2; exact hw
theorem WD.skipG {g : Nat} {c : Bool} : ∀ (ops : List (Bool × AOp)) (st : AS) (rest : List (Bool × AOp)) (st' : AS), gNo G st (some (g, c)) → skipDG g c ops st = (rest, st') → AWL P G k R rest st' → AWL P G k R ops st
  | [], st, rest, st', hb, h, hw => by simp [skipDG] at h; obtain ⟨rfl, rfl⟩ := h; exact hw
  | (b, o) :: ops, st, rest, st', hb, h, hw => by
    simp only [skipDG] at h
    split at h
    · rename_i hc
      exact WD.skip (by rw [hc.1]; exact hb) (WD.skipG ops _ rest st' (by simp only [gNo]; rw [evA_put hc.2]; exact hb) h hw)
    · injection h with h1 h2; subst h1; subst h2; exact hw
theorem WD.split {g : Nat} {b c d : Bool} (_ : o.guard = some (g, b)) (_ : asBool? (evA G st.sl (.t g)) = some c)
    (h1 : c = true → AWL P G k R ((d, o) :: rest) st) (h2 : c = false → AWL P G k R ((d, o) :: rest) st) : AWL P G k R ((d, o) :: rest) st := by
  cases c with
  | true => exact h1 rfl
  | false => exact h2 rfl
theorem WD.allocE {zero : List Value} (hgd : gOK G st o.guard) (ha : o.ai = .alloc zero) (hs : (⟨putS st.sl o.dst (.one (.ptr st.hp.length 0)), st.hp ++ [.box (zero.map rawC)]⟩ : AS) = st') (h : AWL P G k R rest st') : AWL P G k R ((false, o) :: rest) st := by
  subst hs; exact .inr ⟨hgd, by rw [ha]; exact h⟩
theorem WD.boxE {x : AArg} {cs : List Cel} (hgd : gOK G st o.guard) (ha : o.ai = .box x) (hx : cellsOf (evA G st.sl x) = some cs) (hs : (⟨putS st.sl o.dst (.one (.ptr st.hp.length 0)), st.hp ++ [.box cs]⟩ : AS) = st') (h : AWL P G k R rest st') : AWL P G k R ((false, o) :: rest) st := by
  subst hs; exact .inr ⟨hgd, by rw [ha]; exact ⟨cs, hx, h⟩⟩
theorem WD.storeX {size id off : Nat} {x v : AArg} {cs vs : List Cel} (hgd : gOK G st o.guard) (ha : o.ai = .store size x v) (hd0 : o.dst = none)
    (hx : evA G st.sl x = .one (.ptr id off)) (hv : cellsOf (evA G st.sl v) = some vs) (hb : hpGet st.hp id = .box cs) (hsz : vs.length = size) (hle : off + size ≤ cs.length)
    (hs : (⟨st.sl, st.hp.set id (.box (putAt cs off vs))⟩ : AS) = st') (h : AWL P G k R rest st') : AWL P G k R ((false, o) :: rest) st := by
  subst hs; exact .inr ⟨hgd, by rw [ha]; exact ⟨hd0, .inl ⟨id, off, cs, vs, hx, hv, hb, hsz, hle, h⟩⟩⟩
theorem WD.bslcE {size len : Nat} {zero : List Value} {parts : List (Nat × AArg)} {es : List (List DC)} (hgd : gOK G st o.guard) (ha : o.ai = .bslc size len zero parts)
    (hf : fillV ((List.range (len * size)).map fun i => rawC (zero.getD (i % zero.length) undef)) (parts.map fun (j, x) => (j * size, size, evA G st.sl x)) = some (dcC es.flatten))
    (hes : ∀ e ∈ es, e.length = size) (hlen : es.length = len) (hs : (⟨putS st.sl o.dst (.one (.bld st.hp.length len)), st.hp ++ [.arr len size es]⟩ : AS) = st')
    (h : AWL P G k R rest st') : AWL P G k R ((false, o) :: rest) st := by
  subst hs; exact .inr ⟨hgd, by rw [ha]; exact ⟨es, hf, hes, hlen, h⟩⟩
theorem WD.app {size bytes id n cap : Nat} {zero : List Value} {s x : AArg} {es news : List (List DC)} (hgd : gOK G st o.guard) (ha : o.ai = .app size bytes zero s x)
    (hs0 : evA G st.sl s = .one (.bld id n)) (hb : hpGet st.hp id = .arr cap size es) (hn : n ≤ es.length) (hsrc : srcV st.hp (evA G st.sl x) = some news) (hns : ∀ e ∈ news, e.length = size)
    (hub : (n + news.length) * bytes ≤ 140737488355328)
    (h : ∀ cap', n + news.length ≤ cap' → AWL P G k R rest ⟨putS (st.sl.map (killV (· == id))) o.dst (.one (.bld id (n + news.length))), (st.hp.map (killO (· == id))).set id (.arr cap' size (es.take n ++ news))⟩) :
    AWL P G k R ((false, o) :: rest) st := .inr ⟨hgd, by rw [ha]; exact .inr ⟨id, n, cap, es, news, hs0, hb, hn, hsrc, hns, hub, h⟩⟩
theorem WD.appNil {size bytes : Nat} {zero : List Value} {s x : AArg} {news : List (List DC)} (hgd : gOK G st o.guard) (ha : o.ai = .app size bytes zero s x)
    (hs0 : evA G st.sl s = rawV (.slice none 0 0)) (hsrc : srcV st.hp (evA G st.sl x) = some news) (hns : ∀ e ∈ news, e.length = size) (hub : news.length * bytes ≤ 140737488355328)
    (h : ∀ cap', news.length ≤ cap' → AWL P G k R rest ⟨putS st.sl o.dst (.one (.bld st.hp.length news.length)), st.hp.map (killO (· == st.hp.length)) ++ [.arr cap' size news]⟩) :
    AWL P G k R ((false, o) :: rest) st := .inr ⟨hgd, by rw [ha]; exact .inl ⟨hs0, news, hsrc, hns, hub, h⟩⟩
/-- any other operation, by the rules of a region -/
theorem WD.any (hgd : gOK G st o.guard) (hai : match o.ai with | .callv _ _ => True | _ => False) (h : WR P G k [⟨o.dst, o.ai, none⟩] (AWL P G k R rest) st) : AWL P G k R ((false, o) :: rest) st := by
  refine .inr ⟨hgd, ?_⟩
  obtain ⟨d, ai, gd⟩ := o
  cases ai with
  | callv x xs => exact h
  | _ => cases hai
end


attribute [irreducible] Fin SeqQ BlkQ RndQ
attribute [go_sem] runP runG skipG AI.isPure evP evA avOf rawV rawC vi vb ci vl putS asRaw asInt? asBool? asStr? cellsOf pack binbV eqsV eqCs eqR addoV hpGet loadV fldV ixAV ixLV ixSV bound slSV slLV slAV lenLV fillV extV minV maxV nilcV mpxV mpGet mpR cvbsV bytesC oneOf List.set_cons_succ List.set_cons_zero List.getD_cons_succ List.getD_cons_zero Option.bind_some Option.map_some List.length_cons List.length_nil List.take_succ_cons List.take_zero List.drop_succ_cons List.drop_zero List.getElem?_cons_succ List.getElem?_cons_zero List.map_cons List.map_nil List.getElem?_map List.length_map Nat.zero_add Nat.add_zero decide_eq_true_eq Int.natCast_nonneg true_and and_true renV renT renC renL renO jmap killV killC killT killO Cel.keep keepL List.append_nil List.nil_append List.cons_append Int.toNat_natCast if_true
end
section

def nocap : AObj → AObj
  | .arr _ s es => .arr 0 s es
  | o => o
def norm (s : AS) : AS := ⟨s.sl, s.hp.map nocap⟩

mutual
def idsC : Cel → List Nat
  | .ptr id _ => [id]
  | .bld id _ => [id]
  | .ept id _ _ _ => [id]
  | .bls id _ _ _ => [id]
  | .fn _ caps => idsL caps
  | _ => []
def idsL : List Cel → List Nat
  | [] => []
  | c :: cs => idsC c ++ idsL cs
end
def idsT : TV → List Nat
  | .one c => idsC c
  | .agg cs => idsL cs
def idsV : AV → List Nat
  | .one c => idsC c
  | .agg cs => idsL cs
  | .tup l => l.flatMap idsT
  | .junk => []
def idsO : AObj → List Nat
  | .box cs => idsL cs
  | _ => []
def keepT (p : Nat → Bool) : TV → Bool
  | .one c => c.keep p
  | .agg cs => keepL p cs
def keepV (p : Nat → Bool) : AV → Bool
  | .one c => c.keep p
  | .agg cs => keepL p cs
  | .tup l => l.all (keepT p)
  | .junk => true
def keepO (p : Nat → Bool) : AObj → Bool
  | .box cs => keepL p cs
  | _ => true

def toDCs : List Cel → Option (List DC)
  | [] => some []
  | .dc d :: r => (toDCs r).map (d :: ·)
  | _ => none
def chunks (size : Nat) : Nat → List DC → List (List DC)
  | 0, _ => []
  | n + 1, l => l.take size :: chunks size n (l.drop size)

def idxN : List Nat → Nat → Nat
  | [], _ => 0
  | j :: J, x => if x = j then 0 else idxN J x + 1
def reach (hp : List AObj) : Nat → List Nat → List Nat → List Nat
  | 0, _, J => J
  | _ + 1, [], J => J
  | n + 1, id :: todo, J => if J.contains id then reach hp n todo J else reach hp n (idsO (hpGet hp id) ++ todo) (J ++ [id])

def frzIds : List Nat → AS → AS
  | [], st => st
  | id :: r, st => match hpGet st.hp id with
    | .arr _ _ es => frzIds r ⟨st.sl.map fun v => killV (· == id) (frzV id es v), (st.hp.map fun o => killO (· == id) (frzO id es o)).set id .dead⟩
    | _ => frzIds r st

def bldsOf : AV → List Nat
  | .one (.bld id _) => [id]
  | _ => []

abbrev CallT := FuncId → List AV → List AObj → Option (AV × List AObj)

def outJ (J : List Nat) (id : Nat) : Bool := !J.contains id

def okJ (J : List Nat) (hp : List AObj) (avs : List AV) : Bool :=
  pairsOK (fun i j => i != j) J && J.all (fun j => decide (j < hp.length) && keepO (outJ J) (hpGet hp j)) && avs.all (keepV (outJ J))

/-- a call, with the objects that its arguments reach -/
def evCall (call : CallT) (dst : Option Nat) (f : FuncId) (avs : List AV) (st : AS) : Option AS :=
  let J := reach st.hp 2000 (avs.flatMap idsV) []
  if okJ J st.hp avs then (call f (avs.map (renV (idxN J))) (J.map fun j => renO (idxN J) (hpGet st.hp j))).map fun r => afterC J st dst r.1 r.2 else none

def evApp (dst : Option Nat) (size bytes : Nat) (s x : AV) (st : AS) : Option AS :=
  match s with
  | .one (.bld id n) =>
    match hpGet st.hp id with
    | .arr _ sz es =>
      (srcV st.hp x).bind fun news =>
        if sz = size ∧ n ≤ es.length ∧ (news.all fun e => decide (e.length = size)) = true ∧ (n + news.length) * bytes ≤ 140737488355328 then
          some ⟨putS (st.sl.map (killV (· == id))) dst (.one (.bld id (n + news.length))), (st.hp.map (killO (· == id))).set id (.arr 0 size (es.take n ++ news))⟩
        else none
    | _ => none
  | .one (.dc (.raw (.slice none 0 0))) =>
    (srcV st.hp x).bind fun news =>
      if (news.all fun e => decide (e.length = size)) = true ∧ news.length * bytes ≤ 140737488355328 then
        some ⟨putS st.sl dst (.one (.bld st.hp.length news.length)), st.hp.map (killO (· == st.hp.length)) ++ [.arr 0 size news]⟩
      else none
  | _ => none

def evStore (size : Nat) (x : AV) (vs : List Cel) (st : AS) : Option AS :=
  match x with
  | .one (.ptr id off) =>
    match hpGet st.hp id with
    | .box cs => if vs.length = size ∧ off + size ≤ cs.length then some ⟨st.sl, st.hp.set id (.box (putAt cs off vs))⟩ else none
    | _ => none
  | .one (.ept id i s off) =>
    match hpGet st.hp id with
    | .arr _ s' es =>
      (toDCs vs).bind fun ds => (es[i]?).bind fun e => if s' = s ∧ ds.length = size ∧ off + size ≤ e.length then some ⟨st.sl, st.hp.set id (.arr 0 s (es.set i (e.take off ++ ds ++ e.drop (off + size))))⟩ else none
    | _ => none
  | _ => none

def evI (G : Glob) (dst : Option Nat) (ai : AI) (st : AS) : Option AS :=
  match ai with
  | .alloc z => some ⟨putS st.sl dst (.one (.ptr st.hp.length 0)), st.hp ++ [.box (z.map rawC)]⟩
  | .box x => (cellsOf (evA G st.sl x)).map fun cs => ⟨putS st.sl dst (.one (.ptr st.hp.length 0)), st.hp ++ [.box cs]⟩
  | .store size x v => if dst = none then (cellsOf (evA G st.sl v)).bind fun vs => evStore size (evA G st.sl x) vs st else none
  | .bslc size len zero parts =>
    (fillV ((List.range (len * size)).map fun i => rawC (zero.getD (i % zero.length) undef)) (parts.map fun (j, x) => (j * size, size, evA G st.sl x))).bind fun cells =>
      (toDCs cells).bind fun ds => if ds.length = len * size then some ⟨putS st.sl dst (.one (.bld st.hp.length len)), st.hp ++ [.arr 0 size (chunks size len ds)]⟩ else none
  | .app size bytes _ s x => evApp dst size bytes (evA G st.sl s) (evA G st.sl x) st
  | _ => none

def evOp (call : CallT) (G : Glob) (o : AOp) (st : AS) : Option AS :=
  match o.ai with
  | .call f args => let st1 := frzIds (args.flatMap fun x => bldsOf (evA G st.sl x)) st; evCall call o.dst f (args.map (evA G st1.sl)) st1
  | .callv x args => let st1 := frzIds (args.flatMap fun x => bldsOf (evA G st.sl x)) st
    match evA G st1.sl x with
    | .one (.fn f caps) => evCall call o.dst f (args.map (evA G st1.sl) ++ caps.map AV.one) st1
    | _ => none
  | .bslc _ _ _ ps => evI G o.dst o.ai (frzIds (ps.flatMap fun p => bldsOf (evA G st.sl p.2)) st)
  | ai => evI G o.dst ai st

def wants (G : Glob) (st : AS) : Option (Nat × Bool) → Option Bool
  | none => some true
  | some (g, b) => match evA G st.sl (.t g) with
    | .tup [] => some false
    | v => (asBool? v).map fun c => c == b

/-- the same value, worked out before it is used -/
def fN {β : Type} (n : Nat) (k : Nat → β) : β := match n with | 0 => k 0 | m + 1 => k (Nat.succ m)
def fI {β : Type} (n : Int) (k : Int → β) : β := match n with | .ofNat m => fN m fun m => k (.ofNat m) | .negSucc m => fN m fun m => k (.negSucc m)
def fL {α β : Type} (f : α → (α → β) → β) : List α → (List α → β) → β
  | [], k => k []
  | x :: xs, k => f x fun y => fL f xs fun ys => k (y :: ys)
def fB {β : Type} (s : ByteArray) (k : ByteArray → β) : β := match s with | ⟨⟨l⟩⟩ => fL (fun x k => k x) l fun l => k ⟨⟨l⟩⟩
def fVal {β : Type} (v : Value) (k : Value → β) : β := match v with
  | .int kd n => fI n fun n => k (.int kd n)
  | .bool true => k (.bool true)
  | .bool false => k (.bool false)
  | .string s => fB s fun s => k (.string s)
  | v => k v
def fD {β : Type} (d : DC) (k : DC → β) : β := match d with
  | .raw v => fVal v fun v => k (.raw v)
  | .slc es => fL (fL fun d k => match d with | .raw v => fVal v fun v => k (.raw v) | d => k d) es fun es => k (.slc es)
def fC {β : Type} (c : Cel) (k : Cel → β) : β := match c with
  | .dc d => fD d fun d => k (.dc d)
  | .ptr id o => fN id fun id => fN o fun o => k (.ptr id o)
  | .bld id n => fN id fun id => fN n fun n => k (.bld id n)
  | .ept id i s o => fN id fun id => fN i fun i => fN s fun s => fN o fun o => k (.ept id i s o)
  | .bls id i s o => fN id fun id => fN i fun i => fN s fun s => fN o fun o => k (.bls id i s o)
  | .ref cs => fL fD cs fun cs => k (.ref cs)
  | .mpc es => k (.mpc es)
  | c => k c
def fT {β : Type} (c : TV) (k : TV → β) : β := match c with
  | .one c => fC c fun c => k (.one c)
  | .agg cs => fL fC cs fun cs => k (.agg cs)
def fV {β : Type} (c : AV) (k : AV → β) : β := match c with
  | .one c => fC c fun c => k (.one c)
  | .agg cs => fL fC cs fun cs => k (.agg cs)
  | .tup l => fL fT l fun l => k (.tup l)
  | .junk => k .junk
def fO {β : Type} (o : AObj) (k : AObj → β) : β := match o with
  | .box cs => fL fC cs fun cs => k (.box cs)
  | .arr c s es => fN c fun c => fN s fun s => fL (fL fD) es fun es => k (.arr c s es)
  | .dead => k .dead
/-- the value that an instruction puts, and then the slots -/
def fP {β : Type} (d : Option Nat) (v : AV) (s : AS) (k : AS → β) : β := fV v fun v => fL (fun x k => k x) (putS s.sl d v) fun sl => k ⟨sl, s.hp⟩
def fS {β : Type} (s : AS) (k : AS → β) : β := fL fV s.sl fun sl => fL fO s.hp fun hp => k ⟨sl, hp⟩

section
variable {β : Type}
theorem fN_eq (n : Nat) (k : Nat → β) : fN n k = k n := by cases n <;> rfl
theorem fI_eq (n : Int) (k : Int → β) : fI n k = k n := by cases n <;> simp [fI, fN_eq]
theorem fL_eq {α : Type} {f : α → (α → β) → β} (hf : ∀ x k, f x k = k x) : ∀ (l : List α) (k : List α → β), fL f l k = k l
  | [], _ => rfl
  | x :: xs, k => by simp only [fL, hf, fL_eq hf xs]
theorem fB_eq (s : ByteArray) (k : ByteArray → β) : fB s k = k s := by obtain ⟨⟨l⟩⟩ := s; simp only [fB]; rw [fL_eq (fun _ _ => rfl)]
theorem fVal_eq (v : Value) (k : Value → β) : fVal v k = k v := by unfold fVal; split <;> simp [fI_eq, fB_eq]
theorem fD_eq (d : DC) (k : DC → β) : fD d k = k d := by
  cases d with
  | raw v => simp [fD, fVal_eq]
  | slc es =>
    simp only [fD]
    rw [fL_eq]
    intro x k
    rw [fL_eq]
    intro d k
    split <;> simp [fVal_eq]
theorem fC_eq (c : Cel) (k : Cel → β) : fC c k = k c := by cases c <;> simp [fC, fN_eq, fD_eq, fL_eq]
theorem fT_eq (c : TV) (k : TV → β) : fT c k = k c := by cases c <;> simp [fT, fC_eq, fL_eq]
theorem fV_eq (c : AV) (k : AV → β) : fV c k = k c := by cases c <;> simp [fV, fC_eq, fT_eq, fL_eq]
theorem fO_eq (c : AObj) (k : AObj → β) : fO c k = k c := by cases c <;> simp [fO, fN_eq, fC_eq, fD_eq, fL_eq]
theorem fP_eq (d : Option Nat) (v : AV) (s : AS) (k : AS → β) : fP d v s k = k ⟨putS s.sl d v, s.hp⟩ := by simp only [fP, fV_eq]; rw [fL_eq (fun _ _ => rfl)]
theorem fS_eq (s : AS) (k : AS → β) : fS s k = k s := by simp [fS, fL_eq, fV_eq, fO_eq]
end

/-- the same as a wrap, where nothing wraps -/
def wrapF (k : IntKind) (n : Int) : Int := match k with
  | .i64 => if -9223372036854775808 ≤ n then (if n ≤ 9223372036854775807 then n else IntKind.i64.wrap n) else IntKind.i64.wrap n
  | k => k.wrap n
theorem wrapF_eq (k : IntKind) (n : Int) : wrapF k n = k.wrap n := by
  cases k <;> simp only [wrapF]
  split
  · split
    · exact (wrap64 ⟨by assumption, by assumption⟩).symm
    · rfl
  · rfl

/-- the same as an instruction's value, faster -/
def evF (G : Glob) (st : AS) (ai : AI) : Option AV :=
  match ai with
  | .bin .add x y => match evA G st.sl x, evA G st.sl y with
    | .one (.dc (.raw (.int .i64 a))), .one (.dc (.raw (.int .i64 b))) => some (rawV (.int .i64 (wrapF .i64 (a + b))))
    | _, _ => evP G st (.bin .add x y)
  | .bin .sub x y => match evA G st.sl x, evA G st.sl y with
    | .one (.dc (.raw (.int .i64 a))), .one (.dc (.raw (.int .i64 b))) => some (rawV (.int .i64 (wrapF .i64 (a - b))))
    | _, _ => evP G st (.bin .sub x y)
  | ai => evP G st ai

def evOps (call : CallT) (G : Glob) : List AOp → AS → Option AS
  | [], st => some st
  | o :: l, st => (wants G st o.guard).bind fun b =>
    if b then (if o.ai.isPure then (evF G st o.ai).bind fun v => fP o.dst v st fun st' => evOps call G l st' else (evOp call G o st).bind fun st' => fS st' fun st' => evOps call G l st')
    else fP o.dst (.tup []) st fun st' => evOps call G l st'

/-- a quiet operation's value -/
def evQ (call : CallT) (G : Glob) (o : AOp) (st : AS) : Option AV :=
  match o.ai with
  | .call f args =>
    if (args.map (evA G st.sl)).all (keepV fun _ => true) then (call f (args.map (evA G st.sl)) []).bind fun r =>
      let v := killV (fun id => decide (0 ≤ id)) ((frzIds (idsV r.1) ⟨[r.1], r.2⟩).sl.getD 0 .junk)
      if keepV (fun _ => true) v then some v else none
    else none
  | _ => none

def evD (call : CallT) (G : Glob) : List (Bool × AOp) → AS → Option AS
  | [], st => some st
  | (b, o) :: l, st => (wants G st o.guard).bind fun c =>
    if c then (if b then (if o.ai.isPure then evF G ⟨st.sl, qhp o.ai st.hp⟩ o.ai else evQ call G o st).bind fun v => fP o.dst v st fun st' => evD call G l st'
      else (match o.ai with
      | .call _ _ => (evQ call G o st).map fun v => (⟨putS st.sl o.dst v, st.hp⟩ : AS)
      | .callv _ _ => evOp call G o st
      | ai => evI G o.dst ai st).bind fun st' => fS st' fun st' => evD call G l st')
    else fP o.dst (.tup []) st fun st' => evD call G l st'

abbrev Tbl := FuncId → Option (ACode × List RetV × Nat)

def isEnd : Exit → Bool
  | .normal => true
  | .ret => true
  | _ => false

def callF (T : Tbl) (run : ACode → AS → Option (Exit × AS)) : CallT := fun f args hp =>
  match T f with
  | some (c, rs, nt) => (run c ⟨args ++ List.replicate (nt - args.length) .junk, hp⟩).bind fun r => if isEnd r.1 && decide (hp.length ≤ r.2.hp.length) then (retV r.2 rs).map fun av => if keepV (fun id => decide (hp.length ≤ id)) av && (r.2.hp.take hp.length).all (keepO fun id => decide (hp.length ≤ id)) then (av, r.2.hp.take hp.length) else (av, r.2.hp) else none
  | none => none

def evC (G : Glob) (T : Tbl) : Nat → ACode → AS → Option (Exit × AS)
  | 0, _, _ => none
  | n + 1, c, st =>
    match c with
    | .skip => some (.normal, st)
    | .ret => some (.ret, st)
    | .exit id => some (.exit id, st)
    | .bad => none
    | .drawnF _ _ => none
    | .region ops => (evOps (callF T (evC G T n)) G ops st).map fun s => (.normal, s)
    | .drawn ops => (evD (callF T (evC G T n)) G ops st).map fun s => (.normal, s)
    | .seq a b => (evC G T n a st).bind fun r => match r.1 with
      | .normal => evC G T n b r.2
      | e => some (e, r.2)
    | .cond c a b => (asBool? (evA G st.sl c)).bind fun t => if t then evC G T n a st else evC G T n b st
    | .block id a => (evC G T n a st).map fun r => match r.1 with
      | .exit id' => if id' = id then (.normal, r.2) else (.exit id', r.2)
      | e => (e, r.2)
    | .loop a => (evC G T n a st).bind fun r => match r.1 with
      | .normal => evC G T n (.loop a) r.2
      | e => some (e, r.2)

end
end Go.Proofs.YtmognenhkecngaaGreatDoor
