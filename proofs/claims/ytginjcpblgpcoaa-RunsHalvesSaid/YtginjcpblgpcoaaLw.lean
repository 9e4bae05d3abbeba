/- Contracts whose new objects are forgotten, or become data. Conditions: none. -/
import Derived.Test.YtginjcpblgpcoaaLv
namespace Go.Proofs.Ytginjcpblgpcoaa
variable {G : Glob}
theorem frz_sl : ∀ (ids : List Nat) (s t : AS), s.sl = t.sl → s.hp = t.hp.map nocap → (frzIds ids s).sl = (frzIds ids t).sl
  | [], s, t, h, _ => h
  | id :: r, s, t, h, hh => by
    simp only [frzIds, hh, hpGet_norm]
    cases hpGet t.hp id with
    | arr c z es =>
      simp only [nocap]
      refine frz_sl r _ _ (by simp only [h]) ?_
      simp only [List.map_set, List.map_map, nocap]
      congr 1
      exact List.map_congr_left (fun o _ => by simp only [Function.comp_apply, nocap_kill, frzO_nocap])
    | box cs => exact frz_sl r _ _ h hh
    | dead => exact frz_sl r _ _ h hh

theorem QC.frz {P : Program} {f : FuncId} {args : List AV} {v : AV} {R : AV → List AObj → Prop} (h : AC P G f args [] R)
    (hR : ∀ av o, R av o → killV (fun id => decide (0 ≤ id)) ((frzIds (idsV av) ⟨[av], o⟩).sl.getD 0 .junk) = v) : QC P G f args v := by
  refine h.gh (fun a o ho _ => ?_)
  obtain ⟨s1, hgh, hn⟩ := frzIds_ok (k := 0) (idsV a) ⟨[a], o⟩
  have hnn : (frzIds (idsV a) (norm ⟨[a], o⟩)).sl = (frzIds (idsV a) ⟨[a], o⟩).sl := frz_sl (idsV a) _ _ rfl rfl
  have hsl : s1.sl = (frzIds (idsV a) ⟨[a], o⟩).sl := by rw [← hnn, ← hn]; rfl
  have hlen : s1.sl.length = 1 := by rw [hsl, frzIds_len]; rfl
  obtain ⟨y, hy⟩ := List.length_eq_one_iff.1 hlen
  have hgd := Gh.drop (k := 0) (as := s1) 0 (Nat.le_refl _)
  refine ⟨v, [], ?_, Nat.zero_le _, rfl, rfl⟩
  have hv : v = killV (fun id => decide (0 ≤ id)) y := by rw [← hR a o ho, ← hsl, hy]; rfl
  have := hgh.trans hgd
  rw [hy] at this
  simpa [hv] using this
theorem QC.drop {P : Program} {f : FuncId} {args : List AV} {v : AV} (h : AC P G f args [] fun av _ => av = v) (hk : killV (fun id => decide (0 ≤ id)) v = v) : QC P G f args v := by
  refine h.gh (fun a o ho _ => ?_)
  subst ho
  refine ⟨a, [], ?_, Nat.zero_le _, rfl, rfl⟩
  have := Gh.drop (k := 0) (as := ⟨[a], o⟩) 0 (Nat.le_refl _)
  simp only [List.map_cons, List.map_nil, hk, List.take_zero] at this
  exact this

/-- the new objects are forgotten -/
theorem AC.drop {P : Program} {f : FuncId} {args : List AV} {objs : List AObj} {Q : AV → List AObj → Prop}
    (h : AC P G f args objs fun av o => Q (killV (fun id => decide (objs.length ≤ id)) av) ((o.take objs.length).map (killO fun id => decide (objs.length ≤ id)))) : AC P G f args objs Q := by
  refine h.gh (fun a o ho hl => ⟨_, _, Gh.drop (k := objs.length) («as» := ⟨[a], o⟩) objs.length (Nat.le_refl _), by simp only [List.length_map, List.length_take]; omega, ho⟩)
end Go.Proofs.Ytginjcpblgpcoaa
