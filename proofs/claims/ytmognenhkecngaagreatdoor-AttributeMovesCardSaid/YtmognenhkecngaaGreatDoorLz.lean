/- More rules in use: tests decided in the state itself, calls with one or two objects, a nil slice in a box. Conditions: none. -/
import Derived.Test.YtmognenhkecngaaGreatDoorLy
namespace Go.Proofs.YtmognenhkecngaaGreatDoor
section
variable {G : Glob}
theorem frz_sl : ∀ (ids : List Nat) (s t : AS), s.sl = t.sl → s.hp = t.hp.map nocap → (frzIds ids s).sl = (frzIds ids t).sl
  | [], s, t, h, _ => h
  | id :: r, s, t, h, hh => by
    simp only [frzIds, hh, hpGet_norm]
    cases hpGet t.hp id with
    | arr c z es =>
      simp only [nocap]
      refine frz_sl r _ _ (by simp only [h]) ?_
      simp only [List.map_set, List.map_map, nocap]
      congr 1
      exact List.map_congr_left (fun o _ => by simp only [Function.comp_apply, nocap_kill, frzO_nocap])
    | box cs => exact frz_sl r _ _ h hh
    | dead => exact frz_sl r _ _ h hh

theorem QC.frz {P : Program} {f : FuncId} {args : List AV} {v : AV} {R : AV → List AObj → Prop} (h : AC P G f args [] R)
    (hR : ∀ av o, R av o → killV (fun id => decide (0 ≤ id)) ((frzIds (idsV av) ⟨[av], o⟩).sl.getD 0 .junk) = v) : QC P G f args v := by
  refine h.gh (fun a o ho _ => ?_)
  obtain ⟨s1, hgh, hn⟩ := frzIds_ok (k := 0) (idsV a) ⟨[a], o⟩
  have hnn : (frzIds (idsV a) (norm ⟨[a], o⟩)).sl = (frzIds (idsV a) ⟨[a], o⟩).sl := frz_sl (idsV a) _ _ rfl rfl
  have hsl : s1.sl = (frzIds (idsV a) ⟨[a], o⟩).sl := by rw [← hnn, ← hn]; rfl
  have hlen : s1.sl.length = 1 := by rw [hsl, frzIds_len]; rfl
  obtain ⟨y, hy⟩ := List.length_eq_one_iff.1 hlen
  have hgd := Gh.drop (k := 0) (as := s1) 0 (Nat.le_refl _)
  refine ⟨v, [], ?_, Nat.zero_le _, rfl, rfl⟩
  have hv : v = killV (fun id => decide (0 ≤ id)) y := by rw [← hR a o ho, ← hsl, hy]; rfl
  have := hgh.trans hgd
  rw [hy] at this
  simpa [hv] using this
theorem QC.drop {P : Program} {f : FuncId} {args : List AV} {v : AV} (h : AC P G f args [] fun av _ => av = v) (hk : killV (fun id => decide (0 ≤ id)) v = v) : QC P G f args v := by
  refine h.gh (fun a o ho _ => ?_)
  subst ho
  refine ⟨a, [], ?_, Nat.zero_le _, rfl, rfl⟩
  have := Gh.drop (k := 0) (as := ⟨[a], o⟩) 0 (Nat.le_refl _)
  simp only [List.map_cons, List.map_nil, hk, List.take_zero] at this
  exact this

/-- the new objects are forgotten -/
theorem AC.drop {P : Program} {f : FuncId} {args : List AV} {objs : List AObj} {Q : AV → List AObj → Prop}
    (h : AC P G f args objs fun av o => Q (killV (fun id => decide (objs.length ≤ id)) av) ((o.take objs.length).map (killO fun id => decide (objs.length ≤ id)))) : AC P G f args objs Q := by
  refine h.gh (fun a o ho hl => ⟨_, _, Gh.drop (k := objs.length) («as» := ⟨[a], o⟩) objs.length (Nat.le_refl _), by simp only [List.length_map, List.length_take]; omega, ho⟩)
end
section
section
variable {P : Program} {G : Glob} {k : Nat} {st st' : AS} {R : AS → Prop}

/-- an object that names no other -/
structure Flat (o : AObj) : Prop where
  ren : ∀ ρ, renO ρ o = o
  kill : ∀ p, killO p o = o
theorem Flat.arr (cap size : Nat) (es : List (List DC)) : Flat (.arr cap size es) := ⟨fun _ => rfl, fun _ => rfl⟩
theorem Flat.dcs (ds : List DC) : Flat (.box (dcC ds)) := by
  constructor <;> intro p <;> simp only [renO, killO, dcC, List.map_map] <;> congr 1
theorem after_boxO {dst : Option Nat} {av : AV} {o : AObj} {j : Nat} (h : isBoxO (hpGet st.hp j) = true) :
    afterC [j] st dst av [o] = ⟨putS st.sl dst (renV (jmap [j] st.hp.length) av), st.hp.set j (renO (jmap [j] st.hp.length) o)⟩ := by
  have hp : ∀ id, (([j] : List Nat).contains id && !isBoxO (hpGet st.hp id)) = false := by
    intro id
    by_cases h0 : id = j
    · subst h0; simp [h]
    · simp [h0]
  simp only [afterC, mapV_none hp, mapO_none hp, setJ, List.map_cons, List.map_nil, List.drop_succ_cons, List.drop_nil, List.append_nil, List.length_cons, List.length_nil]

/-- a call that turns one object -/
theorem WR.callB {o : AOp} {rest : List AOp} {f : FuncId} {args : List AArg} {cargs : List AV} {j : Nat} {o0 o1 : AObj} {r r' : AV} (hgd : gOK G st o.guard) (ha : o.ai = .call f args)
    (hac : AC P G f cargs [o0] fun av os => av = r ∧ os = [o1]) (hf0 : Flat o0) (hf1 : Flat o1) (hj : hpGet st.hp j = o0) (hb : isBoxO o0 = true)
    (hargs : args.map (evA G st.sl) = cargs.map (renV (jmap [j] st.hp.length))) (hr : renV (jmap [j] st.hp.length) r = r')
    (hs : (⟨putS st.sl o.dst r', st.hp.set j o1⟩ : AS) = st') (h : WR P G k rest R st') : WR P G k (o :: rest) R st := by
  have hnd : o0 ≠ .dead := by intro e; rw [e] at hb; cases hb
  refine WR.call (J := [j]) hgd ha hac (by simp) rfl (fun t i x ht hx => ?_) hargs (fun av os hq => ?_)
  · cases t with
    | zero => simp at ht hx; subst ht; subst hx; rw [hf0.ren]; exact hpGet_some hj hnd
    | succ t => simp at ht
  · obtain ⟨rfl, rfl⟩ := hq
    rw [after_boxO (by rw [hj]; exact hb), hf1.ren, hr, hs]
    exact h

/-- a nil slice in a box as an array of one's own -/
theorem Gh.nilB {id j : Nat} {cs : List Cel} (size : Nat) (hb : hpGet st.hp id = .box cs) (hj : cs[j]? = some (rawC (.slice none 0 0))) : Gh k st ⟨st.sl, st.hp.set id (.box (cs.set j (.bld st.hp.length 0))) ++ [.arr 0 size []]⟩ := by
  intro F γ a w hi hs hk
  have hho := hpGet_some hb (by simp)
  have hlt : id < st.hp.length := lt_of_get hho
  obtain ⟨hi2, he⟩ := Inv.nilp (k := k) size hi
  have hext : ∀ (i : Nat) (o : OI), γ[i]? = some o → (γ ++ [OI.arr none 0])[i]? = some o := fun _ _ h => get_append_left h
  refine ⟨F, γ ++ [OI.arr none 0], he, ⟨hi2.fz, by simp [hi.len], hi2.nd, hi2.disj, fun i o x h1 h2 => ?_⟩, hs.ext (fun _ _ h => h) hext, by simp; omega⟩
  by_cases hii : id = i
  · subst hii
    rw [List.getElem?_append_left (by simpa using hlt), List.getElem?_set_self hlt] at h1
    injection h1 with h1; subst h1
    have hok := hi2.ok id _ x (by rw [List.getElem?_append_left hlt]; exact hho) h2
    cases x with
    | box b =>
      obtain ⟨vs, T, hh, hsz, hr⟩ := hok
      refine ⟨vs, T, hh, by simp [hsz], fun m c v hc hv => ?_⟩
      by_cases hm : j = m
      · subst hm
        rw [List.getElem?_set_self (lt_of_get hj)] at hc
        injection hc with hc; subst hc
        have h3 := hr j _ v hj hv
        cases h3 with | dc _ _ h3 =>
        cases h3
        exact .bldN _ 0 (by rw [← hi.len]; simp)
      · rw [List.getElem?_set_ne hm] at hc
        exact hr m c v hc hv
    | arr b c => exact hok.elim
    | dead => exact hok.elim
  · refine hi2.ok i o x ?_ h2
    by_cases hl : i < st.hp.length
    · rw [List.getElem?_append_left (by simpa using hl), List.getElem?_set_ne hii] at h1
      rw [List.getElem?_append_left hl]; exact h1
    · rw [List.getElem?_append_right (by simpa using Nat.le_of_not_lt hl)] at h1
      rw [List.getElem?_append_right (Nat.le_of_not_lt hl)]
      simpa using h1
end
end
end Go.Proofs.YtmognenhkecngaaGreatDoor
