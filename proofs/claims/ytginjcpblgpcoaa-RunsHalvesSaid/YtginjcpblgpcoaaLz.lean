/- More rules in use: tests decided in the state itself, calls with one or two objects, a nil slice in a box. Conditions: none. -/
import Derived.Test.YtginjcpblgpcoaaLy
import Derived.Test.YtginjcpblgpcoaaLw
namespace Go.Proofs.Ytginjcpblgpcoaa
section
variable {P : Program} {G : Glob} {k : Nat} {st st' : AS} {R : AS → Prop}

theorem get_bool {sl : List AV} {g : Nat} {c : Bool} (h : asBool? (evA G sl (.t g)) = some c) : sl.set g (vb c) = sl := by
  simp only [evA, List.getD_eq_getElem?_getD] at h
  cases hg : sl[g]? with
  | none => simp [hg, asBool?] at h
  | some v =>
    have hlt := lt_of_get hg
    have hv : v = vb c := by
      simp only [hg, Option.getD_some] at h
      unfold asBool? at h
      split at h
      · rename_i b
        injection h with h; subst h; rfl
      · cases h
    subst hv
    apply List.ext_getElem?
    intro i
    by_cases hi : g = i
    · subst hi; rw [List.getElem?_set_self hlt, hg]
    · rw [List.getElem?_set_ne hi]

/-- a test in a region: both ways, the slot then holds the answer -/
theorem WR.splitS {o : AOp} {rest : List AOp} {g : Nat} {b c : Bool} {s1 s2 : AS} (_ : o.guard = some (g, b)) (hs : asBool? (evA G st.sl (.t g)) = some c)
    (e1 : (⟨st.sl.set g (vb true), st.hp⟩ : AS) = s1) (e2 : (⟨st.sl.set g (vb false), st.hp⟩ : AS) = s2)
    (h1 : c = true → WR P G k (o :: rest) R s1) (h2 : c = false → WR P G k (o :: rest) R s2) : WR P G k (o :: rest) R st := by
  have h := get_bool hs
  subst e1; subst e2
  cases c with
  | true => rw [h] at h1; exact h1 rfl
  | false => rw [h] at h2; exact h2 rfl
theorem WD.splitS {o : AOp} {rest : List (Bool × AOp)} {g : Nat} {b c d : Bool} {s1 s2 : AS} (_ : o.guard = some (g, b)) (hs : asBool? (evA G st.sl (.t g)) = some c)
    (e1 : (⟨st.sl.set g (vb true), st.hp⟩ : AS) = s1) (e2 : (⟨st.sl.set g (vb false), st.hp⟩ : AS) = s2)
    (h1 : c = true → AWL P G k R ((d, o) :: rest) s1) (h2 : c = false → AWL P G k R ((d, o) :: rest) s2) : AWL P G k R ((d, o) :: rest) st := by
  have h := get_bool hs
  subst e1; subst e2
  cases c with
  | true => rw [h] at h1; exact h1 rfl
  | false => rw [h] at h2; exact h2 rfl

/-- an object that names no other -/
structure Flat (o : AObj) : Prop where
  ren : ∀ ρ, renO ρ o = o
  kill : ∀ p, killO p o = o
theorem Flat.arr (cap size : Nat) (es : List (List DC)) : Flat (.arr cap size es) := ⟨fun _ => rfl, fun _ => rfl⟩
theorem Flat.dcs (ds : List DC) : Flat (.box (dcC ds)) := by
  constructor <;> intro p <;> simp only [renO, killO, dcC, List.map_map] <;> congr 1
theorem Flat.boxdc {cs : List Cel} (h : ∀ c ∈ cs, ∃ d, c = .dc d) : Flat (.box cs) := by
  constructor <;> intro p <;> simp only [renO, killO, AObj.box.injEq] <;> refine (List.map_congr_left (g := id) (fun c hc => ?_)).trans (List.map_id cs)
  · obtain ⟨d, rfl⟩ := h c hc; rfl
  · obtain ⟨d, rfl⟩ := h c hc; rfl

theorem after_boxO {dst : Option Nat} {av : AV} {o : AObj} {j : Nat} (h : isBoxO (hpGet st.hp j) = true) :
    afterC [j] st dst av [o] = ⟨putS st.sl dst (renV (jmap [j] st.hp.length) av), st.hp.set j (renO (jmap [j] st.hp.length) o)⟩ := by
  have hp : ∀ id, (([j] : List Nat).contains id && !isBoxO (hpGet st.hp id)) = false := by
    intro id
    by_cases h0 : id = j
    · subst h0; simp [h]
    · simp [h0]
  simp only [afterC, mapV_none hp, mapO_none hp, setJ, List.map_cons, List.map_nil, List.drop_succ_cons, List.drop_nil, List.append_nil, List.length_cons, List.length_nil]

/-- a call that turns one object -/
theorem WR.callB {o : AOp} {rest : List AOp} {f : FuncId} {args : List AArg} {cargs : List AV} {j : Nat} {o0 o1 : AObj} {r r' : AV} (hgd : gOK G st o.guard) (ha : o.ai = .call f args)
    (hac : AC P G f cargs [o0] fun av os => av = r ∧ os = [o1]) (hf0 : Flat o0) (hf1 : Flat o1) (hj : hpGet st.hp j = o0) (hb : isBoxO o0 = true)
    (hargs : args.map (evA G st.sl) = cargs.map (renV (jmap [j] st.hp.length))) (hr : renV (jmap [j] st.hp.length) r = r')
    (hs : (⟨putS st.sl o.dst r', st.hp.set j o1⟩ : AS) = st') (h : WR P G k rest R st') : WR P G k (o :: rest) R st := by
  have hnd : o0 ≠ .dead := by intro e; rw [e] at hb; cases hb
  refine WR.call (J := [j]) hgd ha hac (by simp) rfl (fun t i x ht hx => ?_) hargs (fun av os hq => ?_)
  · cases t with
    | zero => simp at ht hx; subst ht; subst hx; rw [hf0.ren]; exact hpGet_some hj hnd
    | succ t => simp at ht
  · obtain ⟨rfl, rfl⟩ := hq
    rw [after_boxO (by rw [hj]; exact hb), hf1.ren, hr, hs]
    exact h

theorem after_two {dst : Option Nat} {av : AV} {o1 o2 : AObj} {j i : Nat} (h : isBoxO (hpGet st.hp j) = true) (hi : isBoxO (hpGet st.hp i) = false) (hne : j ≠ i) :
    afterC [j, i] st dst av [o1, o2] = ⟨putS (st.sl.map (killV (· == i))) dst (renV (jmap [j, i] st.hp.length) av), ((st.hp.map (killO (· == i))).set j (renO (jmap [j, i] st.hp.length) o1)).set i (renO (jmap [j, i] st.hp.length) o2)⟩ := by
  have hp : (fun id => (([j, i] : List Nat).contains id && !isBoxO (hpGet st.hp id))) = (· == i) := by
    funext id
    by_cases h0 : id = j
    · subst h0; simp [h, hne]
    · by_cases h1 : id = i
      · subst h1; simp [hi]
      · simp [h0, h1]
  simp only [afterC, hp, setJ, List.map_cons, List.map_nil, List.drop_succ_cons, List.drop_nil, List.append_nil, List.length_cons, List.length_nil]

/-- a call that turns a box with a slice of its own -/
theorem WR.callL {o : AOp} {rest : List AOp} {f : FuncId} {args : List AArg} {cargs : List AV} {j i n n' cap sz : Nat} {es es' : List (List DC)} {r r' : AV} (hgd : gOK G st o.guard) (ha : o.ai = .call f args)
    (hac : AC P G f cargs [.box [.bld 1 n], .arr cap sz es] fun av os => av = r ∧ ∃ cap', os = [.box [.bld 1 n'], .arr cap' sz es'])
    (hj : hpGet st.hp j = .box [.bld i n]) (hi : hpGet st.hp i = .arr cap sz es) (hne : j ≠ i)
    (hargs : args.map (evA G st.sl) = cargs.map (renV (jmap [j, i] st.hp.length))) (hr : renV (jmap [j, i] st.hp.length) r = r')
    (h : ∀ cap', WR P G k rest R ⟨putS (st.sl.map (killV (· == i))) o.dst r', ((st.hp.map (killO (· == i))).set j (.box [.bld i n'])).set i (.arr cap' sz es')⟩) : WR P G k (o :: rest) R st := by
  refine WR.call (J := [j, i]) hgd ha hac (by simp [hne]) rfl (fun t x ob ht hx => ?_) hargs (fun av os hq => ?_)
  · match t with
    | 0 => simp at ht hx; subst ht; subst hx; rw [hpGet_some hj (by simp)]; simp [renO, renC, jmap]
    | 1 => simp at ht hx; subst ht; subst hx; rw [hpGet_some hi (by simp)]; rfl
    | t + 2 => simp at ht
  · obtain ⟨rfl, cap', rfl⟩ := hq
    rw [after_two (by rw [hj]; rfl) (by rw [hi]; rfl) hne, hr]
    simpa [renO, renC, jmap] using h cap'

/-- a nil slice in a box as an array of one's own -/
theorem Gh.nilB {id j : Nat} {cs : List Cel} (size : Nat) (hb : hpGet st.hp id = .box cs) (hj : cs[j]? = some (rawC (.slice none 0 0))) : Gh k st ⟨st.sl, st.hp.set id (.box (cs.set j (.bld st.hp.length 0))) ++ [.arr 0 size []]⟩ := by
  intro F γ a w hi hs hk
  have hho := hpGet_some hb (by simp)
  have hlt : id < st.hp.length := lt_of_get hho
  obtain ⟨hi2, he⟩ := Inv.nilp (k := k) size hi
  have hext : ∀ (i : Nat) (o : OI), γ[i]? = some o → (γ ++ [OI.arr none 0])[i]? = some o := fun _ _ h => get_append_left h
  refine ⟨F, γ ++ [OI.arr none 0], he, ⟨hi2.fz, by simp [hi.len], hi2.nd, hi2.disj, fun i o x h1 h2 => ?_⟩, hs.ext (fun _ _ h => h) hext, by simp; omega⟩
  by_cases hii : id = i
  · subst hii
    rw [List.getElem?_append_left (by simpa using hlt), List.getElem?_set_self hlt] at h1
    injection h1 with h1; subst h1
    have hok := hi2.ok id _ x (by rw [List.getElem?_append_left hlt]; exact hho) h2
    cases x with
    | box b =>
      obtain ⟨vs, T, hh, hsz, hr⟩ := hok
      refine ⟨vs, T, hh, by simp [hsz], fun m c v hc hv => ?_⟩
      by_cases hm : j = m
      · subst hm
        rw [List.getElem?_set_self (lt_of_get hj)] at hc
        injection hc with hc; subst hc
        have h3 := hr j _ v hj hv
        cases h3 with | dc _ _ h3 =>
        cases h3
        exact .bldN _ 0 (by rw [← hi.len]; simp)
      · rw [List.getElem?_set_ne hm] at hc
        exact hr m c v hc hv
    | arr b c => exact hok.elim
    | dead => exact hok.elim
  · refine hi2.ok i o x ?_ h2
    by_cases hl : i < st.hp.length
    · rw [List.getElem?_append_left (by simpa using hl), List.getElem?_set_ne hii] at h1
      rw [List.getElem?_append_left hl]; exact h1
    · rw [List.getElem?_append_right (by simpa using Nat.le_of_not_lt hl)] at h1
      rw [List.getElem?_append_right (Nat.le_of_not_lt hl)]
      simpa using h1
end
end Go.Proofs.Ytginjcpblgpcoaa
