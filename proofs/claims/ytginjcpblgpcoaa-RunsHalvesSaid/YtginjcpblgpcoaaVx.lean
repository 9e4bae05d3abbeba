/- The chapter's examples: the calls that they make, run by the kernel or by their contracts. Conditions: none. -/
import Derived.Test.YtginjcpblgpcoaaVl
import Derived.Test.YtginjcpblgpcoaaLv
import Derived.KernelRfl
namespace Go.Proofs.Ytginjcpblgpcoaa
set_option maxRecDepth 20000
/-- depository/depositorylaw03.awake -/
def h9c : HC :=
  (.seq (.region [Oo 0 (.mov (.k (.bool false)))])
  (.seq (.region [Oo 12 (.call 44 []), Oo 13 (.call 30 [(.t 12)]), Oo 11 (.mov (.t 13)), Oo 14 (.ext (.t 11) 0), Oo 15 (.ext (.t 11) 1), Oo 1 (.mov (.t 14)), Oo 2 (.mov (.t 15))])
  (.seq (.region [Oo 17 (.call 44 []), Oo 18 (.call 11 [(.t 17), (Ki 1)]), Oo 16 (.mov (.t 18)), Oo 19 (.ext (.t 16) 0), Oo 20 (.ext (.t 16) 1), Oo 3 (.alloc [Zi 0, Zi 0]), On (.store 2 (.t 3) (.t 19)), Oo 4 (.mov (.t 20))])
  (.seq (.region [Oo 22 (.call 44 []), Oo 23 (.call 26 [(.t 22), (Ki 2), (Ki 3)]), Oo 21 (.mov (.t 23)), Oo 24 (.ext (.t 21) 0), Oo 25 (.ext (.t 21) 1), Oo 5 (.mov (.t 24)), Oo 6 (.mov (.t 25))])
  (.seq (.region [Oo 27 (.call 44 []), Oo 28 (.build [Zi 0, Zi 0] [(0, 1, (Ki 8)), (1, 1, (Ki 2))]), Oo 29 (.bslc 2 1 [Zi 0, Zi 0] [(0, (.t 28))]), Oo 30 (.call 16 [(.t 27), (Ki 3), (.t 29)]), Oo 26 (.mov (.t 30)), Oo 31 (.ext (.t 26) 0), Oo 32 (.ext (.t 26) 1), Oo 7 (.mov (.t 31)), Oo 8 (.mov (.t 32))])
  (.seq (.region [Oo 34 (.call 44 []), Oo 35 (.build [Zi 0, Zi 0] [(0, 1, (Ki 6)), (1, 1, (Ki 1))]), Oo 36 (.bslc 2 1 [Zi 0, Zi 0] [(0, (.t 35))]), Oo 37 (.call 18 [(.t 34), (.t 36)]), Oo 33 (.mov (.t 37)), Oo 38 (.ext (.t 33) 0), Oo 39 (.ext (.t 33) 1), Oo 9 (.mov (.t 38)), Oo 10 (.mov (.t 39))])
  (.seq (.region [Oo 40 (.mov (.t 2)), Oo 41 (.bin .eql (.t 40) (Ki 0)), Oo 42 (.mov (.t 41)), Og 42 true 43 (.mov (.t 1)), Og 42 true 44 (.bin .eql (.t 43) (.k (.string ⟨#[17, 3, 5, 1, 2, 17, 1, 255, 0]⟩))), Oo 45 (.pick (.t 42) (.t 44) (.k (.bool false))), Oo 46 (.mov (.t 45)), Og 46 true 47 (.mov (.t 4)), Og 46 true 48 (.bin .eql (.t 47) (Ki 0)), Oo 49 (.pick (.t 46) (.t 48) (.k (.bool false))), Oo 50 (.mov (.t 49)), Og 50 true 51 (.load true 2 (.t 3)), Og 50 true 52 (.build [Zi 0, Zi 0] [(0, 1, (Ki 6)), (1, 1, (Ki 2))]), Og 50 true 53 (.eqs false [.i, .i] (.t 51) (.t 52)), Oo 54 (.pick (.t 50) (.t 53) (.k (.bool false))), Oo 55 (.mov (.t 54)), Og 55 true 56 (.mov (.t 6)), Og 55 true 57 (.bin .eql (.t 56) (Ki 0)), Oo 58 (.pick (.t 55) (.t 57) (.k (.bool false))), Oo 59 (.mov (.t 58)), Og 59 true 60 (.mov (.t 5)), Og 59 true 61 (.call 45 [(.t 60)]), Og 59 true 62 (.bin .eql (.t 61) (.k (.string ⟨#[55, 43, 49, 32, 45, 43, 50]⟩))), Oo 63 (.pick (.t 59) (.t 62) (.k (.bool false))), Oo 64 (.mov (.t 63)), Og 64 true 65 (.mov (.t 8)), Og 64 true 66 (.bin .eql (.t 65) (Ki 0)), Oo 67 (.pick (.t 64) (.t 66) (.k (.bool false))), Oo 68 (.mov (.t 67)), Og 68 true 69 (.mov (.t 7)), Og 68 true 70 (.call 45 [(.t 69)]), Og 68 true 71 (.bin .eql (.t 70) (.k (.string ⟨#[53, 43, 53, 32, 52, 43, 49]⟩))), Oo 72 (.pick (.t 68) (.t 71) (.k (.bool false))), Oo 73 (.mov (.t 72)), Og 73 true 74 (.mov (.t 10)), Og 73 true 75 (.bin .eql (.t 74) (Ki 0)), Oo 76 (.pick (.t 73) (.t 75) (.k (.bool false))), Oo 77 (.mov (.t 76)), Og 77 true 78 (.mov (.t 9)), Og 77 true 79 (.call 45 [(.t 78)]), Og 77 true 80 (.bin .eql (.t 79) (.k (.string ⟨#[52, 43, 50, 32, 55, 43, 49]⟩))), Oo 81 (.pick (.t 77) (.t 80) (.k (.bool false))), Oo 0 (.mov (.t 81))])
  .ret)))))))
abbrev h9 : HF := ⟨h9c, [.tmp 0], 82, false⟩
theorem h9_ok : (Try.f9.body).bind (compileC Try.prog) = some h9c.er := by kernel_rfl
theorem r9_ok : Try.f9.results.toList.mapM (retOf Try.prog) = some [.tmp 0] := by kernel_rfl



def tblE : Tbl := fun f => match f with
  | 9 => some (h9c.er, h9.rs, h9.nt)
  | f => match Tbt f with
    | some h => some (h.code.er, h.rs, h.nt)
    | none => none
theorem tblE_ok : TOK Try.prog tblE := by
  intro f c rs nt h
  unfold tblE at h
  split at h
  · injection h with h; injection h with h1 h; injection h with h2 h3; subst h1; subst h2; subst h3; exact ⟨by kernel_rfl, _, Try.func9, Try.ntmps9, h9_ok, r9_ok⟩
  · rename_i f' hf
    split at h
    · rename_i x hx
      injection h with h; injection h with h1 h; injection h with h2 h3; subst h1; subst h2; subst h3
      exact Tb_ok (fun _ _ _ => none) f x hx
    · cases h
def G0 : Glob := fun _ => none
def B0 : CallT := fun _ _ _ => none
theorem B0_ok {G : Glob} : CallOK Try.prog G B0 := fun f args hp av o' h => by cases h
theorem qc0 {G : Glob} {f : FuncId} {args : List AV} {r : AV} (h : EV G (Tb B0) f args [] = some (r, [])) : QC Try.prog G f args r := EV_qc (Tb_ok B0) B0_ok h
def tvi (n : Int) : TV := .one (.dc (.raw (.int .i64 n)))
def tvl (es : List (List DC)) : TV := .one (.dc (.slc es))
def tvs (l : List UInt8) : TV := .one (.dc (.raw (.string ⟨⟨l⟩⟩)))
def vs (l : List UInt8) : AV := .one (.dc (.raw (.string ⟨⟨l⟩⟩)))
def three : List (List DC) := [[ci 5, ci 3], [ci (-1), ci 2], [ci 4, ci 1]]
theorem three_q : QC Try.prog G0 44 [] (vl three) := QC.run tblE_ok 40 (by kernel_rfl)
theorem ex_encode : QC Try.prog G0 30 [vl three] (.tup [tvs [17, 3, 5, 1, 2, 17, 1, 255, 0], tvi 0]) := QC.run tblE_ok 2000 (by kernel_rfl)
theorem ex_place : QC Try.prog G0 11 [vl three, vi 1] (.tup [.agg [.dc (ci 6), .dc (ci 2)], tvi 0]) := QC.run tblE_ok 2000 (by kernel_rfl)
theorem cutEx : cutV [⟨5, 3⟩, ⟨-1, 2⟩, ⟨4, 1⟩] 2 3 = ([⟨7, 1⟩, ⟨-1, 2⟩], 0) := by kernel_rfl
theorem ex_cut : QC Try.prog G0 26 [vl three, vi 2, vi 3] (.tup [tvl [[ci 7, ci 1], [ci (-1), ci 2]], tvi 0]) := by
  have h := qc0 (cut_v (G := G0) (B := B0) [⟨5, 3⟩, ⟨-1, 2⟩, ⟨4, 1⟩] 2 3 (by simp))
  rw [cutEx] at h
  exact h
theorem repEx : replacedV [⟨5, 3⟩, ⟨-1, 2⟩, ⟨4, 1⟩] 3 [⟨8, 2⟩] = ([⟨5, 5⟩, ⟨4, 1⟩], 0) := by kernel_rfl
theorem ex_replaced : QC Try.prog G0 16 [vl three, vi 3, vl [[ci 8, ci 2]]] (.tup [tvl [[ci 5, ci 5], [ci 4, ci 1]], tvi 0]) := by
  have h := qc0 (replaced_v (G := G0) (B := B0) [⟨5, 3⟩, ⟨-1, 2⟩, ⟨4, 1⟩] [⟨8, 2⟩] 3 (by simp) (by simp))
  rw [repEx] at h
  exact h
theorem freedEx : freedV [⟨5, 3⟩, ⟨-1, 2⟩, ⟨4, 1⟩] [⟨6, 1⟩] = ([⟨4, 2⟩, ⟨7, 1⟩], 0) := by kernel_rfl
theorem ex_freed : QC Try.prog G0 18 [vl three, vl [[ci 6, ci 1]]] (.tup [tvl [[ci 4, ci 2], [ci 7, ci 1]], tvi 0]) := by
  have h := qc0 (freedBy_v (G := G0) (B := B0) [⟨5, 3⟩, ⟨-1, 2⟩, ⟨4, 1⟩] [⟨6, 1⟩])
  rw [freedEx] at h
  exact h
theorem ex_f1 : QC Try.prog G0 45 [vl [[ci 7, ci 1], [ci (-1), ci 2]]] (vs [55, 43, 49, 32, 45, 43, 50]) := QC.run tblE_ok 2000 (by kernel_rfl)
theorem ex_f2 : QC Try.prog G0 45 [vl [[ci 5, ci 5], [ci 4, ci 1]]] (vs [53, 43, 53, 32, 52, 43, 49]) := QC.run tblE_ok 2000 (by kernel_rfl)
theorem ex_f3 : QC Try.prog G0 45 [vl [[ci 4, ci 2], [ci 7, ci 1]]] (vs [52, 43, 50, 32, 55, 43, 49]) := QC.run tblE_ok 2000 (by kernel_rfl)
def exM : Memo := [(44, [], vl three), (30, [vl three], .tup [tvs [17, 3, 5, 1, 2, 17, 1, 255, 0], tvi 0]), (11, [vl three, vi 1], .tup [.agg [.dc (ci 6), .dc (ci 2)], tvi 0]),
  (26, [vl three, vi 2, vi 3], .tup [tvl [[ci 7, ci 1], [ci (-1), ci 2]], tvi 0]), (16, [vl three, vi 3, vl [[ci 8, ci 2]]], .tup [tvl [[ci 5, ci 5], [ci 4, ci 1]], tvi 0]),
  (18, [vl three, vl [[ci 6, ci 1]]], .tup [tvl [[ci 4, ci 2], [ci 7, ci 1]], tvi 0]), (45, [vl [[ci 7, ci 1], [ci (-1), ci 2]]], vs [55, 43, 49, 32, 45, 43, 50]),
  (45, [vl [[ci 5, ci 5], [ci 4, ci 1]]], vs [53, 43, 53, 32, 52, 43, 49]), (45, [vl [[ci 4, ci 2], [ci 7, ci 1]]], vs [52, 43, 50, 32, 55, 43, 49])]
theorem exM_ok : ∀ e ∈ exM, okF Try.prog e.1 = true ∧ QC Try.prog G0 e.1 e.2.1 e.2.2 := by
  intro e he
  simp only [exM, List.mem_cons, List.not_mem_nil, or_false] at he
  rcases he with rfl | rfl | rfl | rfl | rfl | rfl | rfl | rfl | rfl
  · exact ⟨by kernel_rfl, three_q⟩
  · exact ⟨by kernel_rfl, ex_encode⟩
  · exact ⟨by kernel_rfl, ex_place⟩
  · exact ⟨by kernel_rfl, ex_cut⟩
  · exact ⟨by kernel_rfl, ex_replaced⟩
  · exact ⟨by kernel_rfl, ex_freed⟩
  · exact ⟨by kernel_rfl, ex_f1⟩
  · exact ⟨by kernel_rfl, ex_f2⟩
  · exact ⟨by kernel_rfl, ex_f3⟩
/-- the examples hold -/
theorem awake_q : QC Try.prog G0 9 [] (vb true) := QC.memo exM_ok 100 tblE_ok (f := 9) rfl (by kernel_rfl)
theorem baseC_ok : CallOK Try.prog G0 baseC := by
  intro f args hp av o' h hp0 hh
  unfold baseC at h
  split at h
  · injection h with h
    injection h with h1 h2
    subst h1; subst h2
    have : hp0 = [] := by simpa using hh
    subst this
    exact ⟨by kernel_rfl, awake_q.gh (fun a o ⟨h1, h2⟩ _ => ⟨a, o, Gh.refl, Nat.zero_le _, h1, by rw [h2]; rfl⟩)⟩
  · cases h
theorem qcC {f : FuncId} {args : List AV} {r : AV} (h : EV G0 (Tb baseC) f args [] = some (r, [])) : QC Try.prog G0 f args r := EV_qc (Tb_ok baseC) baseC_ok h
end Go.Proofs.Ytginjcpblgpcoaa
