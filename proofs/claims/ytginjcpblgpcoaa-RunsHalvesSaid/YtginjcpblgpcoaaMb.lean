/- Small rules for sums and tests. Conditions: none. -/
import Derived.Test.YtginjcpblgpcoaaMa
namespace Go.Proofs.Ytginjcpblgpcoaa
theorem ifp {c : Prop} [Decidable c] {α : Sort _} {a b : α} (h : c) : ite c a b = a := if_pos h
theorem ifn {c : Prop} [Decidable c] {α : Sort _} {a b : α} (h : ¬ c) : ite c a b = b := if_neg h
section
variable {P : Program} {G : Glob} {k : Nat} {st st' : AS} {R : AS → Prop} {o : AOp} {rest : List AOp}
theorem AW.condS {Q : Exit → AS → Prop} {x y : ACode} {c : AArg} {b : Bool} (hb : asBool? (evA G st.sl c) = some b) (h1 : b = true → AW P G k x Q st) (h2 : b = false → AW P G k y Q st) : AW P G k (.cond c x y) Q st := AW.cond hb h1 h2
theorem VLe.int {k : IntKind} {a b : Int} (h : a = b) : VLe (.one (.dc (.raw (.int k a)))) (.one (.dc (.raw (.int k b)))) := by subst h; exact .refl _
def junks : Nat → List AV
  | 0 => []
  | n + 1 => .junk :: junks n
theorem junks_eq : ∀ n, junks n = List.replicate n .junk
  | 0 => rfl
  | n + 1 => by rw [junks, junks_eq n, List.replicate_succ]
theorem AC.of_codeJ {f : FuncId} {fn : Func} {n : Nat} {rs : List RetV} {ac : ACode} {args : List AV} {objs : List AObj} {Q : AV → List AObj → Prop} (hf : P.funcs[f]? = some fn) (hn : fn.ntmps = n)
    (hc : fn.body.bind (compileC P) = some ac) (hr : fn.results.toList.mapM (retOf P) = some rs)
    (h : AW P G objs.length ac (Fin objs.length rs Q) ⟨args ++ junks (n - args.length), objs⟩) : AC P G f args objs Q := AC.of_codeF hf hn hc hr (by rw [← junks_eq]; exact h)
/-- a nil slice as data -/
def nzC : Cel → Cel
  | .dc (.raw (.slice none 0 0)) => .dc (.slc [])
  | c => c
def nzT : TV → TV
  | .one c => .one (nzC c)
  | .agg cs => .agg (cs.map nzC)
def nzV : AV → AV
  | .one c => .one (nzC c)
  | .agg cs => .agg (cs.map nzC)
  | .tup l => .tup (l.map nzT)
  | .junk => .junk
theorem nzC_ok {F : Fz} {γ : List OI} {c : Cel} {v : Value} (h : RC F γ c v) : RC F γ (nzC c) v := by
  unfold nzC
  split
  · cases h with | dc _ _ h => cases h with | raw _ h => exact .dc _ _ (.nil _ _)
  · exact h
theorem nzCs_ok {F : Fz} {γ : List OI} {cs : List Cel} {vs : Array Value} (h : ∀ (i : Nat) c v, cs[i]? = some c → vs[i]? = some v → RC F γ c v) : ∀ (i : Nat) c v, (cs.map nzC)[i]? = some c → vs[i]? = some v → RC F γ c v := by
  intro i c v hc hv
  rw [List.getElem?_map] at hc
  obtain ⟨c0, h0, rfl⟩ := Option.map_eq_some_iff.1 hc
  exact nzC_ok (h i c0 v h0 hv)
theorem nzV_ok {F : Fz} {γ : List OI} {a : AV} {v : Value} (h : RV F γ a v) : RV F γ (nzV a) v := by
  cases h with
  | one c v h => exact .one _ _ (nzC_ok h)
  | agg cs vs hs h => exact .agg _ _ (by simpa using hs) (nzCs_ok h)
  | tup l vs hs h =>
    refine .tup _ _ (by simpa using hs) (fun i t v ht hv => ?_)
    rw [List.getElem?_map] at ht
    obtain ⟨t0, h0, rfl⟩ := Option.map_eq_some_iff.1 ht
    cases h i t0 v h0 hv with
    | one c v h => exact .one _ _ (nzC_ok h)
    | agg cs vs hs h => exact .agg _ _ (by simpa using hs) (nzCs_ok h)
  | junk v => exact .junk v
theorem AC.nz {f : FuncId} {args : List AV} {objs : List AObj} {Q : AV → List AObj → Prop} (h : AC P G f args objs fun av os => Q (nzV av) os) : AC P G f args objs Q := by
  refine h.gh (fun a os ho hl => ⟨nzV a, os, ?_, hl, ho⟩)
  intro F γ ac w hi hs hk
  refine ⟨F, γ, Ext.refl _ _ _ _, hi, ⟨hs.1, hs.2.1, fun i av v h1 h2 => ?_⟩, hk⟩
  cases i with
  | zero => simp at h1; subst h1; exact nzV_ok (hs.2.2 0 a v rfl h2)
  | succ i => simp at h1
/-- a slice's literal in a region that draws its order -/
def bsD (G : Glob) (st : AS) (dst : Option Nat) (size len : Nat) (z : List Value) (ps : List (Nat × AArg)) : Option AS :=
  (fillV (zs z (len * size)) (ps.map fun (j, x) => (j * size, size, evA G st.sl x))).bind fun cs => (dcs cs).bind fun ds =>
      if ds.length = len * size then some ⟨putS st.sl dst (.one (.bld st.hp.length len)), st.hp ++ [.arr len size (chunk size len ds)]⟩ else none
theorem WD.bs {b : AOp} {l : List (Bool × AOp)} {size len : Nat} {z : List Value} {ps : List (Nat × AArg)} (hgd : gOK G st b.guard) (ha : b.ai = .bslc size len z ps)
    (h : bsD G st b.dst size len z ps = some st') (hw : AWL P G k R l st') : AWL P G k R ((false, b) :: l) st := by
  unfold bsD at h
  obtain ⟨cs, hf, h⟩ := Option.bind_eq_some_iff.1 h
  obtain ⟨ds, hd, h⟩ := Option.bind_eq_some_iff.1 h
  split at h
  · rename_i hl
    injection h with h
    obtain ⟨h1, h2, h3⟩ := chunk_flat size len ds hl
    rw [zs_eq] at hf
    exact WD.bslcE (es := chunk size len ds) hgd ha (by rw [h1, ← dcs_dcC hd]; exact hf) h2 h3 h hw
  · cases h
/-- what a test that is known does with the operations that it guards -/
def gK (b : Bool) : AV → Option Bool
  | .one (.dc (.raw (.bool c))) => some (eqb c b)
  | .tup [] => some false
  | _ => none
def hdR : List AOp → Bool
  | o :: _ => !o.ai.isCall
  | [] => false
def hdD : List (Bool × AOp) → Bool
  | o :: _ => o.1 && o.2.ai.isPure
  | [] => false
def goK (G : Glob) (g : Nat) (b : Bool) (ops : List AOp) (st : AS) : Option Bool → Option (List AOp × AS)
  | some true => bif hdR ops then runYG G g b ops (some st) else none
  | some false => some (skY g b ops st)
  | none => none
def goKD (G : Glob) (g : Nat) (b : Bool) (ops : List (Bool × AOp)) (st : AS) : Option Bool → Option (List (Bool × AOp) × AS)
  | some true => bif hdD ops then runYE G g b ops (some st) else none
  | some false => some (skYD g b ops st)
  | none => none
theorem gK_true {g : Nat} {b : Bool} (h : gK b (evA G st.sl (.t g)) = some true) : asBool? (evA G st.sl (.t g)) = some b := by
  generalize evA G st.sl (.t g) = v at h
  unfold gK at h
  split at h
  · rename_i c; injection h with h; rw [eqb_eq, beq_iff_eq] at h; subst h; rfl
  · cases h
  · cases h
theorem gK_false {g : Nat} {b : Bool} (h : gK b (evA G st.sl (.t g)) = some false) : gNo G st (some (g, b)) := by
  show asBool? (evA G st.sl (.t g)) = some (!b) ∨ evA G st.sl (.t g) = .tup []
  generalize evA G st.sl (.t g) = v at h
  unfold gK at h
  split at h
  · rename_i c; injection h with h; rw [eqb_eq] at h; left; cases b <;> cases c <;> first | rfl | cases h
  · exact .inr rfl
  · cases h
theorem WR.xk {ops rest1 : List AOp} {g : Nat} {b : Bool} (_ : o.guard = some (g, b)) (h : goK G g b (o :: ops) st (gK b (evA G st.sl (.t g))) = some (rest1, st')) (hw : WR P G k rest1 R st') : WR P G k (o :: ops) R st := by
  cases hg : gK b (evA G st.sl (.t g)) with
  | none => rw [hg] at h; cases h
  | some c =>
    rw [hg] at h
    cases c with
    | true =>
      simp only [goK] at h
      cases hh : hdR (o :: ops) with
      | false => rw [hh] at h; cases h
      | true => rw [hh] at h; exact WR.rGX _ _ _ _ (gK_true hg) (by rw [← runYG_eq]; exact h) hw
    | false =>
      simp only [goK, Option.some.injEq] at h
      exact WR.skipG _ _ _ _ (gK_false hg) (by rw [← skY_eq]; exact h) hw
theorem WD.xk {d : Bool} {ops rest1 : List (Bool × AOp)} {g : Nat} {b : Bool} (_ : o.guard = some (g, b)) (h : goKD G g b ((d, o) :: ops) st (gK b (evA G st.sl (.t g))) = some (rest1, st')) (hw : AWL P G k R rest1 st') : AWL P G k R ((d, o) :: ops) st := by
  cases hg : gK b (evA G st.sl (.t g)) with
  | none => rw [hg] at h; cases h
  | some c =>
    rw [hg] at h
    cases c with
    | true =>
      simp only [goKD] at h
      cases hh : hdD ((d, o) :: ops) with
      | false => rw [hh] at h; cases h
      | true => rw [hh] at h; exact WD.runG _ _ _ _ (gK_true hg) (by rw [← runYE_eq]; exact h) hw
    | false =>
      simp only [goKD, Option.some.injEq] at h
      exact WD.skipG _ _ _ _ (gK_false hg) (by rw [← skYD_eq]; exact h) hw
theorem WR.cQ {f : FuncId} {args : List AArg} {cargs : List AV} {r r' : AV} (ha : o.ai = .call f args) (hac : QC P G f cargs r)
    (hargs : args.map (evA G st.sl) = cargs.map (renV (jmap [] st.hp.length))) (hgd : gOK G st o.guard) (hr : renV (jmap [] st.hp.length) r = r') (hs : (⟨putS st.sl o.dst r', st.hp⟩ : AS) = st') (h : WR P G k rest R st') : WR P G k (o :: rest) R st :=
  WR.callQ hgd ha hac hargs (by rw [hr, hs]; exact h)
theorem WD.cQ {b : Bool} {f : FuncId} {args : List AArg} {cargs : List AV} {r r' : AV} {rest : List (Bool × AOp)} (ha : o.ai = .call f args) (hac : QC P G f cargs r)
    (hargs : ∀ n, args.map (evA G st.sl) = cargs.map (renV (jmap [] n))) (hgd : gOK G st o.guard) (hr : ∀ n, renV (jmap [] n) r = r') (hs : (⟨putS st.sl o.dst r', st.hp⟩ : AS) = st') (h : AWL P G k R rest st') : AWL P G k R ((b, o) :: rest) st :=
  WD.callQE hgd ha hac hargs hr hs h
theorem WR.cB {f : FuncId} {args : List AArg} {cargs : List AV} {j : Nat} {o0 o1 : AObj} {r r' : AV} (ha : o.ai = .call f args)
    (hac : AC P G f cargs [o0] fun av os => av = r ∧ os = [o1]) (hargs : args.map (evA G st.sl) = cargs.map (renV (jmap [j] st.hp.length))) (hgd : gOK G st o.guard) (hj : hpGet st.hp j = o0) (hb : isBoxO o0 = true) (hf0 : Flat o0) (hf1 : Flat o1)
    (hr : renV (jmap [j] st.hp.length) r = r') (hs : (⟨putS st.sl o.dst r', st.hp.set j o1⟩ : AS) = st') (h : WR P G k rest R st') : WR P G k (o :: rest) R st := WR.callB hgd ha hac hf0 hf1 hj hb hargs hr hs h
theorem WR.cL {f : FuncId} {args : List AArg} {cargs : List AV} {j i n n' cap sz : Nat} {es es' : List (List DC)} {r r' : AV} (ha : o.ai = .call f args)
    (hac : AC P G f cargs [.box [.bld 1 n], .arr cap sz es] fun av os => av = r ∧ ∃ cap', os = [.box [.bld 1 n'], .arr cap' sz es'])
    (hargs : args.map (evA G st.sl) = cargs.map (renV (jmap [j, i] st.hp.length))) (hgd : gOK G st o.guard) (hj : hpGet st.hp j = .box [.bld i n]) (hi : hpGet st.hp i = .arr cap sz es) (hne : j ≠ i) (hr : renV (jmap [j, i] st.hp.length) r = r')
    (h : ∀ cap', WR P G k rest R ⟨putS (st.sl.map (killV (· == i))) o.dst r', ((st.hp.map (killO (· == i))).set j (.box [.bld i n'])).set i (.arr cap' sz es')⟩) : WR P G k (o :: rest) R st := WR.callL hgd ha hac hj hi hne hargs hr h
end
attribute [go_sem] hdR hdD goK goKD nzC nzT nzV List.map_replicate bsD Int.natCast_zero Int.cast_ofNat_Int decide_true decide_false gOK Bool.false_eq_true if_false Bool.not_true Bool.not_false Bool.true_and Bool.false_and Bool.and_true Bool.and_false wrap64 ifp ifn List.getElem?_eq_getElem
attribute [go_sem] decide_eq_false_iff_not Bool.and_eq_true Bool.or_eq_true Bool.not_eq_true' Bool.not_eq_false' beq_iff_eq bne_iff_ne ne_eq beq_eq_false_iff_ne bne_eq_false_iff_eq Bool.true_eq_false Bool.and_eq_false_iff Bool.or_eq_false_iff Decidable.not_not Int.natCast_add Int.natCast_one
attribute [go_sem] Nat.mul_one Nat.one_mul Nat.zero_mul Nat.mul_zero Nat.mod_one Nat.zero_mod Nat.mod_eq_of_lt Int.toNat_zero Int.toNat_one List.length_singleton
end Go.Proofs.Ytginjcpblgpcoaa
