/- slices.Clone: an empty slice may be nil, so this contract is shown by hand, and stands in the base of the table. Conditions: none. -/
import Derived.Test.YtinageiefahjfaaGreatDoorNf
namespace Go.Proofs.YtinageiefahjfaaGreatDoor
set_option linter.unusedSimpArgs false
set_option linter.unusedVariables false

/-- the code of slices.Clone, for elements of a size -/
def cloneC (size bytes : Nat) (z : List Value) : HC :=
  (.seq (.region [Oo 2 (.mov (.k (.slice none 0 0)))])
  (.seq (.seq (.region [Oo 3 (.mov (.t 0)), Oo 4 (.isnil false false (.t 3))])
  (.cond (.t 4) (.seq (.region [Oo 2 (.mov (.k (.slice none 0 0)))])
  .ret)
  .skip))
  (.seq (.region [Oo 5 (.bslc size 0 z []), Oo 6 (.mov (.t 0)), Oo 7 (.app size bytes z (.t 5) (.t 6)), Oo 2 (.mov (.t 7))])
  .ret)))

section
variable {P : Program} {G : Glob} {call : CallT}

theorem noCall_ok : CallOK P G (fun _ _ _ => none) := fun f args hp av o' h => by cases h

theorem clone_rest {size bytes : Nat} {z : List Value} {es : List (List DC)} {v4 : AV} (h4 : v4 = rawV (.bool false)) (hz : 0 < z.length) (hl : allLen size es = true) (hb : es.length * bytes ≤ 140737488355328) :
    EC call G (.seq (.region [Oo 5 (.bslc size 0 z []), Oo 6 (.mov (.t 0)), Oo 7 (.app size bytes z (.t 5) (.t 6)), Oo 2 (.mov (.t 7))]) .ret)
      ⟨[.one (.dc (.slc es)), .junk, rawV (.slice none 0 0), .one (.dc (.slc es)), v4, .junk, .junk, .junk], []⟩ =
    some (.ret, ⟨[.one (.dc (.slc es)), .junk, .one (.bld 0 es.length), .one (.dc (.slc es)), v4, .one .junk, .one (.dc (.slc es)), .one (.bld 0 es.length)], [.arr 0 size es]⟩) := by
  subst h4
  simp [go_sem, hl, hb]

/-- the contract of Clone: an array of one's own -/
theorem clone_ac {f : FuncId} {fn : Func} {size bytes : Nat} {z : List Value} {es : List (List DC)} (hf : P.funcs[f]? = some fn) (hn : fn.ntmps = 8)
    (hc : fn.body.bind (compileC P) = some (cloneC size bytes z).er) (hr : fn.results.toList.mapM (retOf P) = some [.tmp 2])
    (hz : 0 < z.length) (hl : allLen size es = true) (hb : es.length * bytes ≤ 140737488355328) :
    AC P G f [.one (.dc (.slc es))] [] fun a o => a = .one (.bld 0 es.length) ∧ o.map nocap = [.arr 0 size es] := by
  have hA : AC P G f [.one (.dc (.slc es))] [] fun a o => (a = .one (.bld 0 es.length) ∧ o.map nocap = [.arr 0 size es]) ∨ (es = [] ∧ a = rawV (.slice none 0 0) ∧ o = []) := by
    refine AC.of_codeJ hf hn hc hr ?_
    have rest : ∀ b : Bool, (b = true → es = []) → AW P G 0 (.cond (.t 4) (.seq (.region [Oo 2 (.mov (.k (.slice none 0 0)))]) .ret) .skip) 
        (SeqQ P G 0 (.seq (.region [Oo 5 (.bslc size 0 z []), Oo 6 (.mov (.t 0)), Oo 7 (.app size bytes z (.t 5) (.t 6)), Oo 2 (.mov (.t 7))]) .ret) (Fin 0 [.tmp 2] fun a o => (a = .one (.bld 0 es.length) ∧ o.map nocap = [.arr 0 size es]) ∨ (es = [] ∧ a = rawV (.slice none 0 0) ∧ o = [])))
        ⟨[.one (.dc (.slc es)), .junk, rawV (.slice none 0 0), .one (.dc (.slc es)), rawV (.bool b), .junk, .junk, .junk], []⟩ := by
      intro b hb0
      refine AW.cond (b := b) rfl (fun h => ?_) (fun h => ?_)
      · refine AW.seq (AW.region (WR.exX trivial rfl rfl (WR.nil ?_)))
        exact AW.ret (SeqQ.r (by unfold Fin; exact ⟨.inr rfl, Nat.zero_le _, _, rfl, .inr ⟨hb0 h, rfl, rfl⟩⟩))
      · subst h
        refine AW.skip (SeqQ.n ?_)
        refine (EC_ok (noCall_ok (P := P) (G := G)) (.seq (.region [Oo 5 (.bslc size 0 z []), Oo 6 (.mov (.t 0)), Oo 7 (.app size bytes z (.t 5) (.t 6)), Oo 2 (.mov (.t 7))]) .ret) _ .ret _ (clone_rest rfl hz hl hb) 0).mono ?_
        rintro e s ⟨rfl, hs⟩
        unfold Fin
        refine ⟨.inr rfl, Nat.zero_le _, .one (.bld 0 es.length), ?_, .inl ⟨rfl, congrArg AS.hp hs⟩⟩
        rw [← retV_norm, hs]
        rfl
    refine AW.seq (AW.region (WR.exX trivial rfl rfl (WR.nil ?_)))
    refine AW.seqv (AW.seq (AW.region (WR.exX trivial rfl rfl ?_)))
    cases es with
    | nil => exact WR.isnil0 trivial rfl rfl (fun b => WR.nil (rest b (fun _ => rfl)))
    | cons e es => exact WR.exX trivial rfl rfl (WR.nil (rest false (fun h => by cases h)))
  refine hA.gh (fun a o h hl0 => ?_)
  rcases h with ⟨rfl, h⟩ | ⟨rfl, rfl, rfl⟩
  · exact ⟨_, _, Gh.refl, hl0, rfl, h⟩
  · exact ⟨_, _, Gh.nil (d := 0) size rfl, Nat.zero_le _, rfl, rfl⟩
/-- Clone at some functions: number, cells and bytes of an element -/
def cloneK (size bytes : Nat) : List AV → List AObj → Option (AV × List AObj)
  | [.one (.dc (.slc es))], [] => if allLen size es = true ∧ es.length * bytes ≤ 140737488355328 then some (.one (.bld 0 es.length), [.arr 0 size es]) else none
  | _, _ => none
def cloneB : List (FuncId × Nat × Nat) → CallT
  | [], _, _, _ => none
  | (g, size, bytes) :: L, f, args, hp => if f = g then cloneK size bytes args hp else cloneB L f args hp
theorem cloneB_ok : ∀ (L : List (FuncId × Nat × Nat)), (∀ e ∈ L, okF P e.1 = true ∧ ∃ fn z, P.funcs[e.1]? = some fn ∧ fn.ntmps = 8 ∧ fn.body.bind (compileC P) = some (cloneC e.2.1 e.2.2 z).er ∧ fn.results.toList.mapM (retOf P) = some [.tmp 2] ∧ 0 < z.length) → CallOK P G (cloneB L)
  | [], _ => fun f args hp av o' h => by cases h
  | (g, size, bytes) :: L, hL => fun f args hp av o' h hp0 hh => by
    unfold cloneB at h
    split at h
    · rename_i hf
      subst hf
      obtain ⟨h1, fn, z, h2, h3, h4, h5, h6⟩ := hL _ List.mem_cons_self
      refine ⟨h1, ?_⟩
      unfold cloneK at h
      split at h
      · rename_i es
        split at h
        · rename_i hc
          simp only [Option.some.injEq, Prod.mk.injEq] at h
          obtain ⟨rfl, rfl⟩ := h
          have : hp0 = [] := by simpa using hh
          subst this
          exact clone_ac h2 h3 h4 h5 h6 hc.1 hc.2
        · cases h
      · cases h
    · exact cloneB_ok L (fun e he => hL e (List.mem_cons_of_mem _ he)) f args hp av o' h hp0 hh
end
end Go.Proofs.YtinageiefahjfaaGreatDoor
