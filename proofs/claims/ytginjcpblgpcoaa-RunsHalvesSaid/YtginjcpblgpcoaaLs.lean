/- Rules in the form in which contracts are proved. Conditions: none. -/
import Derived.Test.YtginjcpblgpcoaaLq
namespace Go.Proofs.Ytginjcpblgpcoaa
section
variable {P : Program} {G : Glob} {k : Nat} {st st' : AS} {x y : ACode}

theorem AC.of_code {f : FuncId} {fn : Func} {n : Nat} {rs : List RetV} {ac : ACode} {args : List AV} {objs : List AObj} {Q : AV → List AObj → Prop} (hf : P.funcs[f]? = some fn) (hn : fn.ntmps = n)
    (hc : fn.body.bind (compileC P) = some ac) (hr : fn.results.toList.mapM (retOf P) = some rs)
    (h : AW P G objs.length ac (fun e s => (e = .normal ∨ e = .ret) ∧ objs.length ≤ s.hp.length ∧ ∃ av, retV s rs = some av ∧ Q av s.hp) ⟨args ++ List.replicate (n - args.length) .junk, objs⟩) : AC P G f args objs Q := by
  cases hb : fn.body with
  | none => rw [hb] at hc; cases hc
  | some c => rw [hb] at hc; exact AC.of_body hf hb hn hr hc h

/-- what a function's end must show -/
def Fin (k : Nat) (rs : List RetV) (Q : AV → List AObj → Prop) (e : Exit) (s : AS) : Prop :=
  (e = .normal ∨ e = .ret) ∧ k ≤ s.hp.length ∧ ∃ av, retV s rs = some av ∧ Q av s.hp

theorem AC.of_codeF {f : FuncId} {fn : Func} {n : Nat} {rs : List RetV} {ac : ACode} {args : List AV} {objs : List AObj} {Q : AV → List AObj → Prop} (hf : P.funcs[f]? = some fn) (hn : fn.ntmps = n)
    (hc : fn.body.bind (compileC P) = some ac) (hr : fn.results.toList.mapM (retOf P) = some rs)
    (h : AW P G objs.length ac (Fin objs.length rs Q) ⟨args ++ List.replicate (n - args.length) .junk, objs⟩) : AC P G f args objs Q := AC.of_code hf hn hc hr h

theorem Fin.ret {rs : List RetV} {Q : AV → List AObj → Prop} {s : AS} {av : AV} (h1 : k ≤ s.hp.length) (h2 : retV s rs = some av) (h3 : Q av s.hp) : Fin k rs Q .ret s := ⟨.inr rfl, h1, av, h2, h3⟩
theorem Fin.normal {rs : List RetV} {Q : AV → List AObj → Prop} {s : AS} {av : AV} (h1 : k ≤ s.hp.length) (h2 : retV s rs = some av) (h3 : Q av s.hp) : Fin k rs Q .normal s := ⟨.inl rfl, h1, av, h2, h3⟩

/-- the exits of the first part of a sequence, of a block, of a loop's round -/
def SeqQ (P : Program) (G : Glob) (k : Nat) (y : ACode) (Q : Exit → AS → Prop) : Exit → AS → Prop := fun e s => match e with | .normal => AW P G k y Q s | e => Q e s
def BlkQ (id : Nat) (Q : Exit → AS → Prop) : Exit → AS → Prop := fun e s => match e with | .exit id' => if id' = id then Q .normal s else Q (.exit id') s | e => Q e s
def RndQ (k : Nat) {α : Type} (H : α → AS) (I : α → Prop) (μ : α → Nat) (n : Nat) (Q : Exit → AS → Prop) : Exit → AS → Prop := fun e s => match e with | .normal => ∃ z', I z' ∧ μ z' < n ∧ Gh k s (H z') | e => Q e s

variable {Q : Exit → AS → Prop}
theorem AW.seqv (h : AW P G k x (SeqQ P G k y Q) st) : AW P G k (.seq x y) Q st := AW.seq h
theorem AW.blockv {id : Nat} (h : AW P G k x (BlkQ id Q) st) : AW P G k (.block id x) Q st := AW.block h
theorem SeqQ.n (h : AW P G k y Q st) : SeqQ P G k y Q .normal st := h
theorem SeqQ.r (h : Q .ret st) : SeqQ P G k y Q .ret st := h
theorem SeqQ.e {id : Nat} (h : Q (.exit id) st) : SeqQ P G k y Q (.exit id) st := h
theorem BlkQ.n {id : Nat} (h : Q .normal st) : BlkQ id Q .normal st := h
theorem BlkQ.r {id : Nat} (h : Q .ret st) : BlkQ id Q .ret st := h
theorem BlkQ.e {id : Nat} (h : Q .normal st) : BlkQ id Q (.exit id) st := by show (if id = id then _ else _); rw [if_pos rfl]; exact h
theorem BlkQ.o {id id' : Nat} (hne : ¬ id' = id) (h : Q (.exit id') st) : BlkQ id Q (.exit id') st := by show (if id' = id then _ else _); rw [if_neg hne]; exact h
theorem RndQ.n {α : Type} {H : α → AS} {I : α → Prop} {μ : α → Nat} {n : Nat} (z : α) (h1 : I z) (h2 : μ z < n) (h3 : Gh k st (H z)) : RndQ k H I μ n Q .normal st := ⟨z, h1, h2, h3⟩
theorem RndQ.r {α : Type} {H : α → AS} {I : α → Prop} {μ : α → Nat} {n : Nat} (h : Q .ret st) : RndQ k H I μ n Q .ret st := h
theorem RndQ.e {α : Type} {H : α → AS} {I : α → Prop} {μ : α → Nat} {n id : Nat} (h : Q (.exit id) st) : RndQ k H I μ n Q (.exit id) st := h

theorem AW.loopG {α : Type} (H : α → AS) (I : α → Prop) (μ : α → Nat) (x0 : α) (hI : I x0) (h0 : Gh k st (H x0)) (round : ∀ z, I z → AW P G k x (RndQ k H I μ (μ z) Q) (H z)) : AW P G k (.loop x) Q st := by
  refine AW.loop (fun z s => I z ∧ Gh k s (H z)) μ x0 ⟨hI, h0⟩ (fun z s hz => ?_)
  refine AW.ghost hz.2 ((round z hz.1).mono (fun e s' h => ?_))
  cases e with
  | normal => obtain ⟨z', h1, h2, h3⟩ := h; exact ⟨z', ⟨h1, h3⟩, h2⟩
  | exit id => exact h
  | goto l => exact h
  | ret => exact h
  | panic c => exact h
  | outgrown => exact h

theorem AW.reg {ops : List AOp} (h : WR P G k ops (fun s => Q .normal s) st) : AW P G k (.region ops) Q st := AW.region h
theorem AW.sreg {ops : List AOp} (h : WR P G k ops (fun s => AW P G k y Q s) st) : AW P G k (.seq (.region ops) y) Q st := AW.seq (AW.region h)

theorem WR.run1 {o : AOp} {ops rest : List AOp} {R : AS → Prop} (_ : o.guard = none) (_ : o.ai.isPure = true) (h : runP G (o :: ops) st = some (rest, st')) (hw : WR P G k rest R st') : WR P G k (o :: ops) R st := WR.run _ _ _ _ h hw

/-- a test in a region: both ways -/
theorem WR.split {o : AOp} {rest : List AOp} {R : AS → Prop} {g : Nat} {b c : Bool} (_ : o.guard = some (g, b)) (_ : asBool? (evA G st.sl (.t g)) = some c)
    (h1 : c = true → WR P G k (o :: rest) R st) (h2 : c = false → WR P G k (o :: rest) R st) : WR P G k (o :: rest) R st := by
  cases c with
  | true => exact h1 rfl
  | false => exact h2 rfl

theorem WR.runG1 {o : AOp} {ops rest : List AOp} {R : AS → Prop} {g : Nat} {b : Bool} (_ : o.guard = some (g, b)) (_ : o.ai.isPure = true) (hb : asBool? (evA G st.sl (.t g)) = some b)
    (h : Go.Proofs.Ytginjcpblgpcoaa.runG G g b (o :: ops) st = some (rest, st')) (hw : WR P G k rest R st') : WR P G k (o :: ops) R st := WR.runG _ _ _ _ hb h hw
theorem WR.skipG1 {o : AOp} {ops rest : List AOp} {R : AS → Prop} {g : Nat} {b : Bool} (_ : o.guard = some (g, b)) (hb : gNo G st (some (g, b)))
    (h : Go.Proofs.Ytginjcpblgpcoaa.skipG g b (o :: ops) st = (rest, st')) (hw : WR P G k rest R st') : WR P G k (o :: ops) R st := WR.skipG _ _ _ _ hb h hw

theorem Gh.dropS (n : Nat) (hkn : k ≤ n) {ys : List AV} {hs : List AObj} (h1 : SLe (st.sl.map (killV fun id => decide (n ≤ id))) ys) (h2 : (st.hp.take n).map (killO fun id => decide (n ≤ id)) = hs) : Gh k st ⟨ys, hs⟩ := by
  subst h2
  exact Gh.trans (Gh.drop n hkn) (Gh.slots h1)
theorem Gh.sle {ys : List AV} {hs : List AObj} (h1 : SLe st.sl ys) (h2 : st.hp = hs) : Gh k st ⟨ys, hs⟩ := by
  subst h2
  exact Gh.slots h1
end

abbrev vi (n : Int) : AV := .one (.dc (.raw (.int .i64 n)))
abbrev vb (b : Bool) : AV := .one (.dc (.raw (.bool b)))
abbrev ci (n : Int) : DC := .raw (.int .i64 n)
abbrev vl (es : List (List DC)) : AV := .one (.dc (.slc es))

theorem sle_nil : SLe [] [] := trivial
theorem sle_cons {v w : AV} {vs ws : List AV} (h : VLe v w) (h' : SLe vs ws) : SLe (v :: vs) (w :: ws) := ⟨h, h'⟩

theorem wrap64 {n : Int} (h : -9223372036854775808 ≤ n ∧ n ≤ 9223372036854775807) : IntKind.i64.wrap n = n := by
  have e1 : (2 ^ IntKind.i64.bits : Int) = 18446744073709551616 := by decide
  have e2 : (2 ^ (IntKind.i64.bits - 1) : Int) = 9223372036854775808 := by decide
  unfold IntKind.wrap
  simp only [e1, e2, IntKind.signed, Bool.true_and, decide_eq_true_eq]
  split <;> omega

section
variable {P : Program} {G : Glob} {k : Nat} {st st' : AS} {R : AS → Prop} {o : AOp} {rest : List AOp}
theorem WR.allocE {zero : List Value} (hgd : gOK G st o.guard) (ha : o.ai = .alloc zero) (hs : (⟨putS st.sl o.dst (.one (.ptr st.hp.length 0)), st.hp ++ [.box (zero.map rawC)]⟩ : AS) = st') (h : WR P G k rest R st') : WR P G k (o :: rest) R st :=
  WR.alloc hgd ha (hs ▸ h)
theorem WR.boxE {x : AArg} {cs : List Cel} (hgd : gOK G st o.guard) (ha : o.ai = .box x) (hx : cellsOf (evA G st.sl x) = some cs) (hs : (⟨putS st.sl o.dst (.one (.ptr st.hp.length 0)), st.hp ++ [.box cs]⟩ : AS) = st') (h : WR P G k rest R st') : WR P G k (o :: rest) R st :=
  WR.box hgd ha hx (hs ▸ h)
theorem WR.storeX {size id off : Nat} {x v : AArg} {cs vs : List Cel} (hgd : gOK G st o.guard) (ha : o.ai = .store size x v) (hd0 : o.dst = none)
    (hx : evA G st.sl x = .one (.ptr id off)) (hv : cellsOf (evA G st.sl v) = some vs) (hb : hpGet st.hp id = .box cs) (hsz : vs.length = size) (hle : off + size ≤ cs.length)
    (hs : (⟨st.sl, st.hp.set id (.box (putAt cs off vs))⟩ : AS) = st') (h : WR P G k rest R st') : WR P G k (o :: rest) R st := WR.store hgd ha hd0 hx hv hb hsz hle (hs ▸ h)
theorem WR.callQE {f : FuncId} {args : List AArg} {cargs : List AV} {r : AV} (hgd : gOK G st o.guard) (ha : o.ai = .call f args) (hac : QC P G f cargs r)
    (hargs : args.map (evA G st.sl) = cargs.map (renV (jmap [] st.hp.length))) (hs : (⟨putS st.sl o.dst (renV (jmap [] st.hp.length) r), st.hp⟩ : AS) = st') (h : WR P G k rest R st') : WR P G k (o :: rest) R st :=
  WR.callQ hgd ha hac hargs (hs ▸ h)
theorem WR.bslcE {size len : Nat} {zero : List Value} {parts : List (Nat × AArg)} {es : List (List DC)} (hgd : gOK G st o.guard) (ha : o.ai = .bslc size len zero parts)
    (hf : fillV ((List.range (len * size)).map fun i => rawC (zero.getD (i % zero.length) undef)) (parts.map fun (j, x) => (j * size, size, evA G st.sl x)) = some (dcC es.flatten))
    (hes : ∀ e ∈ es, e.length = size) (hlen : es.length = len) (hs : (⟨putS st.sl o.dst (.one (.bld st.hp.length len)), st.hp ++ [.arr len size es]⟩ : AS) = st')
    (h : WR P G k rest R st') : WR P G k (o :: rest) R st := WR.bslc hgd ha hf hes hlen (hs ▸ h)
end

/-- pure, and no slice (a slice that floats has its own rule) -/
def pureD : AI → Bool
  | .alloc _ => false
  | .box _ => false
  | .store _ _ _ => false
  | .bslc _ _ _ _ => false
  | .call _ _ => false
  | .callv _ _ => false
  | .app _ _ _ _ _ => false
  | .apps _ _ => false
  | .mk _ _ _ _ _ => false
  | .clr _ _ _ => false
  | .slL _ _ _ _ => false
  | _ => true
theorem pureD_pure {ai : AI} (h : pureD ai = true) : ai.isPure = true := by
  cases ai <;> first | rfl | (simp [pureD] at h; done)
theorem pureD_qhp {ai : AI} (h : pureD ai = true) {hp : List AObj} : qhp ai hp = hp := by
  cases ai <;> first | rfl | (simp [pureD] at h; done)
def runD (G : Glob) : List (Bool × AOp) → AS → Option (List (Bool × AOp) × AS)
  | [], st => some ([], st)
  | (b, o) :: l, st => if b = true ∧ o.guard = none ∧ pureD o.ai = true then (evP G st o.ai).bind fun v => runD G l ⟨putS st.sl o.dst v, st.hp⟩ else some ((b, o) :: l, st)
def runDG (G : Glob) (g : Nat) (c : Bool) : List (Bool × AOp) → AS → Option (List (Bool × AOp) × AS)
  | [], st => some ([], st)
  | (b, o) :: l, st => if b = true ∧ o.guard = some (g, c) ∧ pureD o.ai = true ∧ o.dst ≠ some g then (evP G st o.ai).bind fun v => runDG G g c l ⟨putS st.sl o.dst v, st.hp⟩ else some ((b, o) :: l, st)
def skipDG (g : Nat) (c : Bool) : List (Bool × AOp) → AS → List (Bool × AOp) × AS
  | [], st => ([], st)
  | (b, o) :: l, st => if o.guard = some (g, c) ∧ o.dst ≠ some g then skipDG g c l ⟨putS st.sl o.dst (.tup []), st.hp⟩ else ((b, o) :: l, st)

section
variable {P : Program} {G : Glob} {k : Nat} {st st' : AS} {R : AS → Prop} {o : AOp} {rest ops : List (Bool × AOp)} {Q : Exit → AS → Prop}
theorem AW.drawnv (h : AWL P G k (fun s => Q .normal s) ops st) : AW P G k (.drawn ops) Q st := AW.drawn h
theorem AW.sdrawn {y : ACode} (h : AWL P G k (fun s => AW P G k y Q s) ops st) : AW P G k (.seq (.drawn ops) y) Q st := AW.seq (AW.drawn h)
theorem WD.nil (h : R st) : AWL P G k R [] st := h
theorem WD.skip {b : Bool} (hg : gNo G st o.guard) (h : AWL P G k R rest ⟨putS st.sl o.dst (.tup []), st.hp⟩) : AWL P G k R ((b, o) :: rest) st := by
  cases b with
  | true => exact ⟨.tup [], .inl ⟨hg, rfl⟩, h⟩
  | false => exact .inl ⟨hg, h⟩
theorem WD.run : ∀ (ops : List (Bool × AOp)) (st : AS) (rest : List (Bool × AOp)) (st' : AS), runD G ops st = some (rest, st') → AWL P G k R rest st' → AWL P G k R ops st
  | [], st, rest, st', h, hw => by simp [runD] at h; obtain ⟨rfl, rfl⟩ := h; exact hw
  | (b, o) :: ops, st, rest, st', h, hw => by
    simp only [runD] at h
    split at h
    · rename_i hc
      obtain ⟨rfl, hg, hpu⟩ := hc
      cases he : evP G st o.ai with
      | none => simp [he] at h
      | some v =>
        simp only [he, Option.bind_some] at h
        exact ⟨v, .inr ⟨by rw [hg]; trivial, .inl (by rw [pureD_qhp hpu]; exact he)⟩, WD.run ops _ rest st' h hw⟩
    · injection h with h; injection h with h1 h2; subst h1; subst h2; exact hw
/-- a slice of data -/
theorem WD.slq {s : Nat} {x : AArg} {lo hi : Option AArg} {v : AV} (hgd : gOK G st o.guard) (ha : o.ai = .slL s x lo hi) (hv : slLV [] s (evA G st.sl x) (lo.map (evA G st.sl)) (hi.map (evA G st.sl)) = some v)
    (hs : (⟨putS st.sl o.dst v, st.hp⟩ : AS) = st') (h : AWL P G k R rest st') : AWL P G k R ((true, o) :: rest) st := by
  subst hs
  exact ⟨v, .inr ⟨hgd, .inl (by rw [ha]; exact hv)⟩, h⟩
theorem WD.run1 {b : Bool} (_ : o.guard = none) (_ : o.ai.isPure = true) (h : runD G ((b, o) :: ops) st = some (rest, st')) (hw : AWL P G k R rest st') : AWL P G k R ((b, o) :: ops) st := WD.run _ _ _ _ h hw
theorem WD.runG {g : Nat} {c : Bool} : ∀ (ops : List (Bool × AOp)) (st : AS) (rest : List (Bool × AOp)) (st' : AS), asBool? (evA G st.sl (.t g)) = some c → runDG G g c ops st = some (rest, st') → AWL P G k R rest st' → AWL P G k R ops st
  | [], st, rest, st', hb, h, hw => by simp [runDG] at h; obtain ⟨rfl, rfl⟩ := h; exact hw
  | (b, o) :: ops, st, rest, st', hb, h, hw => by
    simp only [runDG] at h
    split at h
    · rename_i hc
      obtain ⟨rfl, hg, hpu, hd⟩ := hc
      cases he : evP G st o.ai with
      | none => simp [he] at h
      | some v =>
        simp only [he, Option.bind_some] at h
        exact ⟨v, .inr ⟨by rw [hg]; exact hb, .inl (by rw [pureD_qhp hpu]; exact he)⟩, WD.runG ops _ rest st' (by rw [evA_put hd]; exact hb) h hw⟩
    · injection h with h; injection h with h1 h2; subst h1; subst h2; exact hw
theorem WD.runG1 {g : Nat} {b c : Bool} (_ : o.guard = some (g, c)) (_ : o.ai.isPure = true) (hb : asBool? (evA G st.sl (.t g)) = some c)
    (h : runDG G g c ((b, o) :: ops) st = some (rest, st')) (hw : AWL P G k R rest st') : AWL P G k R ((b, o) :: ops) st := WD.runG _ _ _ _ hb h hw
theorem WD.skipG {g : Nat} {c : Bool} : ∀ (ops : List (Bool × AOp)) (st : AS) (rest : List (Bool × AOp)) (st' : AS), gNo G st (some (g, c)) → skipDG g c ops st = (rest, st') → AWL P G k R rest st' → AWL P G k R ops st
  | [], st, rest, st', hb, h, hw => by simp [skipDG] at h; obtain ⟨rfl, rfl⟩ := h; exact hw
  | (b, o) :: ops, st, rest, st', hb, h, hw => by
    simp only [skipDG] at h
    split at h
    · rename_i hc
      exact WD.skip (by rw [hc.1]; exact hb) (WD.skipG ops _ rest st' (by simp only [gNo]; rw [evA_put hc.2]; exact hb) h hw)
    · injection h with h1 h2; subst h1; subst h2; exact hw
theorem WD.skipG1 {g : Nat} {b c : Bool} (_ : o.guard = some (g, c)) (hb : gNo G st (some (g, c)))
    (h : skipDG g c ((b, o) :: ops) st = (rest, st')) (hw : AWL P G k R rest st') : AWL P G k R ((b, o) :: ops) st := WD.skipG _ _ _ _ hb h hw
theorem WD.split {g : Nat} {b c d : Bool} (_ : o.guard = some (g, b)) (_ : asBool? (evA G st.sl (.t g)) = some c)
    (h1 : c = true → AWL P G k R ((d, o) :: rest) st) (h2 : c = false → AWL P G k R ((d, o) :: rest) st) : AWL P G k R ((d, o) :: rest) st := by
  cases c with
  | true => exact h1 rfl
  | false => exact h2 rfl
theorem WD.callQE {b : Bool} {f : FuncId} {args : List AArg} {cargs : List AV} {r r' : AV} (hgd : gOK G st o.guard) (ha : o.ai = .call f args) (hac : QC P G f cargs r)
    (hargs : ∀ n, args.map (evA G st.sl) = cargs.map (renV (jmap [] n))) (hr : ∀ n, renV (jmap [] n) r = r') (hs : (⟨putS st.sl o.dst r', st.hp⟩ : AS) = st') (h : AWL P G k R rest st') : AWL P G k R ((b, o) :: rest) st := by
  subst hs
  cases b with
  | true => exact ⟨r', .inr ⟨hgd, .inr ⟨f, args, cargs, r, ha, hac, fun n => ⟨hargs n, (hr n).symm⟩⟩⟩, h⟩
  | false =>
    refine .inr ⟨hgd, ?_⟩
    rw [ha]
    refine ⟨_, CallA.of hac (hargs _), ⟨_, _, r, [], ⟨rfl, rfl⟩, rfl, rfl⟩, ?_⟩
    rintro av os ⟨av0, os0, ⟨rfl, rfl⟩, rfl, rfl⟩
    rw [hr]
    simpa using h
theorem WD.allocE {zero : List Value} (hgd : gOK G st o.guard) (ha : o.ai = .alloc zero) (hs : (⟨putS st.sl o.dst (.one (.ptr st.hp.length 0)), st.hp ++ [.box (zero.map rawC)]⟩ : AS) = st') (h : AWL P G k R rest st') : AWL P G k R ((false, o) :: rest) st := by
  subst hs; exact .inr ⟨hgd, by rw [ha]; exact h⟩
theorem WD.boxE {x : AArg} {cs : List Cel} (hgd : gOK G st o.guard) (ha : o.ai = .box x) (hx : cellsOf (evA G st.sl x) = some cs) (hs : (⟨putS st.sl o.dst (.one (.ptr st.hp.length 0)), st.hp ++ [.box cs]⟩ : AS) = st') (h : AWL P G k R rest st') : AWL P G k R ((false, o) :: rest) st := by
  subst hs; exact .inr ⟨hgd, by rw [ha]; exact ⟨cs, hx, h⟩⟩
theorem WD.storeX {size id off : Nat} {x v : AArg} {cs vs : List Cel} (hgd : gOK G st o.guard) (ha : o.ai = .store size x v) (hd0 : o.dst = none)
    (hx : evA G st.sl x = .one (.ptr id off)) (hv : cellsOf (evA G st.sl v) = some vs) (hb : hpGet st.hp id = .box cs) (hsz : vs.length = size) (hle : off + size ≤ cs.length)
    (hs : (⟨st.sl, st.hp.set id (.box (putAt cs off vs))⟩ : AS) = st') (h : AWL P G k R rest st') : AWL P G k R ((false, o) :: rest) st := by
  subst hs; exact .inr ⟨hgd, by rw [ha]; exact ⟨hd0, .inl ⟨id, off, cs, vs, hx, hv, hb, hsz, hle, h⟩⟩⟩
theorem WD.bslcE {size len : Nat} {zero : List Value} {parts : List (Nat × AArg)} {es : List (List DC)} (hgd : gOK G st o.guard) (ha : o.ai = .bslc size len zero parts)
    (hf : fillV ((List.range (len * size)).map fun i => rawC (zero.getD (i % zero.length) undef)) (parts.map fun (j, x) => (j * size, size, evA G st.sl x)) = some (dcC es.flatten))
    (hes : ∀ e ∈ es, e.length = size) (hlen : es.length = len) (hs : (⟨putS st.sl o.dst (.one (.bld st.hp.length len)), st.hp ++ [.arr len size es]⟩ : AS) = st')
    (h : AWL P G k R rest st') : AWL P G k R ((false, o) :: rest) st := by
  subst hs; exact .inr ⟨hgd, by rw [ha]; exact ⟨es, hf, hes, hlen, h⟩⟩
theorem WD.app {size bytes id n cap : Nat} {zero : List Value} {s x : AArg} {es news : List (List DC)} (hgd : gOK G st o.guard) (ha : o.ai = .app size bytes zero s x)
    (hs0 : evA G st.sl s = .one (.bld id n)) (hb : hpGet st.hp id = .arr cap size es) (hn : n ≤ es.length) (hsrc : srcV st.hp (evA G st.sl x) = some news) (hns : ∀ e ∈ news, e.length = size)
    (hub : (n + news.length) * bytes ≤ 140737488355328)
    (h : ∀ cap', n + news.length ≤ cap' → AWL P G k R rest ⟨putS (st.sl.map (killV (· == id))) o.dst (.one (.bld id (n + news.length))), (st.hp.map (killO (· == id))).set id (.arr cap' size (es.take n ++ news))⟩) :
    AWL P G k R ((false, o) :: rest) st := .inr ⟨hgd, by rw [ha]; exact .inr ⟨id, n, cap, es, news, hs0, hb, hn, hsrc, hns, hub, h⟩⟩
theorem WD.appNil {size bytes : Nat} {zero : List Value} {s x : AArg} {news : List (List DC)} (hgd : gOK G st o.guard) (ha : o.ai = .app size bytes zero s x)
    (hs0 : evA G st.sl s = rawV (.slice none 0 0)) (hsrc : srcV st.hp (evA G st.sl x) = some news) (hns : ∀ e ∈ news, e.length = size) (hub : news.length * bytes ≤ 140737488355328)
    (h : ∀ cap', news.length ≤ cap' → AWL P G k R rest ⟨putS st.sl o.dst (.one (.bld st.hp.length news.length)), st.hp.map (killO (· == st.hp.length)) ++ [.arr cap' size news]⟩) :
    AWL P G k R ((false, o) :: rest) st := .inr ⟨hgd, by rw [ha]; exact .inl ⟨hs0, news, hsrc, hns, hub, h⟩⟩
/-- any other operation, by the rules of a region -/
theorem WD.any (hgd : gOK G st o.guard) (hai : match o.ai with | .callv _ _ => True | _ => False) (h : WR P G k [⟨o.dst, o.ai, none⟩] (AWL P G k R rest) st) : AWL P G k R ((false, o) :: rest) st := by
  refine .inr ⟨hgd, ?_⟩
  obtain ⟨d, ai, gd⟩ := o
  cases ai with
  | callv x xs => exact h
  | _ => cases hai
end


attribute [irreducible] Fin SeqQ BlkQ RndQ
attribute [go_sem] runP runG skipG AI.isPure evP evA avOf rawV rawC vi vb ci vl putS asRaw asInt? asBool? asStr? cellsOf pack binbV eqsV eqCs eqR addoV hpGet loadV fldV ixAV ixLV ixSV bound slSV slLV lenLV fillV extV minV maxV nilcV cvbsV oneOf List.set_cons_succ List.set_cons_zero List.getD_cons_succ List.getD_cons_zero Option.bind_some Option.map_some List.length_cons List.length_nil List.take_succ_cons List.take_zero List.drop_succ_cons List.drop_zero List.getElem?_cons_succ List.getElem?_cons_zero List.map_cons List.map_nil List.getElem?_map List.length_map Nat.zero_add Nat.add_zero decide_eq_true_eq Int.natCast_nonneg true_and and_true renV renT renC renL renO jmap killV killC killT killO Cel.keep keepL List.append_nil List.nil_append List.cons_append Int.toNat_natCast if_true
end Go.Proofs.Ytginjcpblgpcoaa
