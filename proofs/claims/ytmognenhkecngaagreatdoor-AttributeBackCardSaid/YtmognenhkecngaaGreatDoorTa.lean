/- Functions of the base: the map of the types, and the index of a byte, walked by the kit's rules. Conditions: none. -/
import Derived.Test.YtmognenhkecngaaGreatDoorNe
import Derived.Test.YtmognenhkecngaaGreatDoorCb
import Derived.WalkKit
import Derived.WideMake
import Derived.MapKept
import Derived.Lib.Bytealg
import Derived.Lib.Walk
import Derived.Lib.Strings
import Derived.BigCall
namespace Go.Proofs.YtmognenhkecngaaGreatDoor
section
set_option linter.unusedSimpArgs false
set_option linter.unusedVariables false
def memN (x : Nat) : List Nat → Bool
  | [] => false
  | j :: J => nq x j || memN x J
theorem memN_eq (x : Nat) : ∀ J : List Nat, memN x J = J.contains x
  | [] => rfl
  | j :: J => by rw [memN, List.contains_cons, memN_eq x J, nq_eq]
def rcB (hp : List AObj) (n id : Nat) (todo J : List Nat) : Bool → List Nat
  | true => reach hp n todo J
  | false => reach hp n (idsO (hpGet hp id) ++ todo) (J ++ [id])
theorem reach_nil {hp : List AObj} {n : Nat} {J : List Nat} : reach hp n [] J = J := by cases n <;> rfl
theorem reach_s {hp : List AObj} {n id : Nat} {todo J : List Nat} : reach hp (n + 1) (id :: todo) J = rcB hp n id todo J (memN id J) := by
  rw [reach, memN_eq]; cases J.contains id <;> rfl
theorem rcB_t {hp : List AObj} {n id : Nat} {todo J : List Nat} : rcB hp n id todo J true = reach hp n todo J := Eq.trans rfl rfl
theorem rcB_f {hp : List AObj} {n id : Nat} {todo J : List Nat} : rcB hp n id todo J false = reach hp n (idsO (hpGet hp id) ++ todo) (J ++ [id]) := Eq.trans rfl rfl
def dstN : List Nat → Bool
  | [] => true
  | j :: J => !memN j J && dstN J
theorem dstN_eq : ∀ J : List Nat, dstN J = pairsOK (fun i j => i != j) J
  | [] => rfl
  | j :: J => by
    rw [dstN, pairsOK, dstN_eq J, memN_eq]
    congr 1
    induction J with
    | nil => rfl
    | cons i J ih => simp only [List.contains_cons, List.all_cons, Bool.not_or, ih]; rfl
def kpC (J : List Nat) : Cel → Bool
  | .ptr id _ => memN id J
  | .bld id _ => memN id J
  | .ept id _ _ _ => memN id J
  | .bls id _ _ _ => memN id J
  | .fn f caps => (Cel.fn f caps).keep (outJ J)
  | .dc _ => true
  | .ref _ => true
  | .mpc _ => true
  | .junk => true
def kpCs (J : List Nat) : List Cel → Bool
  | [] => true
  | c :: cs => kpC J c && kpCs J cs
def kpV (J : List Nat) : AV → Bool
  | .one c => kpC J c
  | .agg cs => kpCs J cs
  | .tup l => l.all (keepT (outJ J))
  | .junk => true
def kpVs (J : List Nat) : List AV → Bool
  | [] => true
  | v :: vs => kpV J v && kpVs J vs
def kpO (J : List Nat) : AObj → Bool
  | .box cs => kpCs J cs
  | .arr _ _ _ => true
  | .dead => true
def kpH (J : List Nat) (hp : List AObj) : List Nat → Bool
  | [] => true
  | j :: l => decide (j < hp.length) && kpO J (hpGet hp j) && kpH J hp l
theorem kpC_eq (J : List Nat) (c : Cel) : kpC J c = c.keep (outJ J) := by
  cases c <;> simp [kpC, Cel.keep, outJ, memN_eq]
theorem kpCs_eq (J : List Nat) : ∀ cs, kpCs J cs = keepL (outJ J) cs
  | [] => rfl
  | c :: cs => by rw [kpCs, keepL, kpC_eq, kpCs_eq J cs]
theorem kpV_eq (J : List Nat) (v : AV) : kpV J v = keepV (outJ J) v := by
  cases v <;> simp [kpV, keepV, kpC_eq, kpCs_eq]
theorem kpVs_eq (J : List Nat) : ∀ vs, kpVs J vs = vs.all (keepV (outJ J))
  | [] => rfl
  | v :: vs => by rw [kpVs, List.all_cons, kpV_eq, kpVs_eq J vs]
theorem kpO_eq (J : List Nat) (o : AObj) : kpO J o = keepO (outJ J) o := by
  cases o <;> simp [kpO, keepO, kpCs_eq]
theorem kpH_eq (J : List Nat) (hp : List AObj) : ∀ l, kpH J hp l = l.all fun j => decide (j < hp.length) && keepO (outJ J) (hpGet hp j)
  | [] => rfl
  | j :: l => by rw [kpH, List.all_cons, kpO_eq, kpH_eq J hp l]
/-- the arrays among some objects -/
def arB (j : Nat) (l : List Nat) : AObj → List Nat
  | .box _ => l
  | _ => j :: l
def arJ (hp : List AObj) : List Nat → List Nat
  | [] => []
  | j :: J => arB j (arJ hp J) (hpGet hp j)
def kaC (A : List Nat) : Cel → Cel
  | .dc d => .dc d
  | .ref cs => .ref cs
  | .mpc es => .mpc es
  | .junk => .junk
  | .ptr j o => bif memN j A then .junk else .ptr j o
  | .bld j n => bif memN j A then .junk else .bld j n
  | .ept j i s o => bif memN j A then .junk else .ept j i s o
  | .bls j i s o => bif memN j A then .junk else .bls j i s o
  | .fn f caps => killC (fun id => memN id A) (.fn f caps)
def kaCs (A : List Nat) : List Cel → List Cel
  | [] => []
  | c :: cs => kaC A c :: kaCs A cs
def kaV (A : List Nat) : AV → AV
  | .one c => .one (kaC A c)
  | .agg cs => .agg (kaCs A cs)
  | .tup l => .tup (l.map (killT fun id => memN id A))
  | .junk => .junk
def kaS (A : List Nat) : List AV → List AV
  | [] => []
  | v :: vs => kaV A v :: kaS A vs
def kaO (A : List Nat) : AObj → AObj
  | .box cs => .box (kaCs A cs)
  | .arr c s es => .arr c s es
  | .dead => .dead
def kaH (A : List Nat) : List AObj → List AObj
  | [] => []
  | o :: os => kaO A o :: kaH A os
theorem kaC_eq (A : List Nat) (c : Cel) : kaC A c = killC (fun id => memN id A) c := by
  cases c <;> simp only [kaC, killC, Cel.keep, if_true]
  case ptr j o =>
    by_cases h : memN j A = true
    · simp [h]
    · simp [h, (Bool.eq_false_iff.2 h : memN j A = false)]
  case bld j n =>
    by_cases h : memN j A = true
    · simp [h]
    · simp [h, (Bool.eq_false_iff.2 h : memN j A = false)]
  case ept j i s o =>
    by_cases h : memN j A = true
    · simp [h]
    · simp [h, (Bool.eq_false_iff.2 h : memN j A = false)]
  case bls j i s o =>
    by_cases h : memN j A = true
    · simp [h]
    · simp [h, (Bool.eq_false_iff.2 h : memN j A = false)]
theorem kaCs_eq (A : List Nat) : ∀ cs, kaCs A cs = cs.map (killC fun id => memN id A)
  | [] => rfl
  | c :: cs => by simp [kaCs, kaC_eq, kaCs_eq A cs]
theorem kaV_eq (A : List Nat) (v : AV) : kaV A v = killV (fun id => memN id A) v := by
  cases v <;> simp only [kaV, killV, kaC_eq, kaCs_eq]
theorem kaS_eq (A : List Nat) : ∀ l, kaS A l = l.map (killV fun id => memN id A)
  | [] => rfl
  | c :: cs => by simp [kaS, kaV_eq, kaS_eq A cs]
theorem kaH_eq (A : List Nat) : ∀ l, kaH A l = l.map (killO fun id => memN id A)
  | [] => rfl
  | o :: os => by cases o <;> simp [kaH, kaO, killO, kaCs_eq, kaH_eq A os]
theorem arJ_eq (hp : List AObj) : ∀ J : List Nat, (fun id => memN id (arJ hp J)) = fun id => J.contains id && !isBoxO (hpGet hp id)
  | [] => by funext id; rfl
  | j :: J => by
    funext id
    have ih : memN id (arJ hp J) = (J.contains id && !isBoxO (hpGet hp id)) := congrFun (arJ_eq hp J) id
    rw [List.contains_cons, arJ]
    by_cases h : id = j
    · subst h
      cases ho : hpGet hp id with
      | box cs => rw [arB, ih, ho]; simp [isBoxO]
      | _ => simp [arB, memN, nq_eq, isBoxO]
    · have hb : (id == j) = false := by simpa using h
      cases ho : hpGet hp j with
      | box cs => rw [arB, ih, hb, Bool.false_or]
      | _ => simp only [arB, memN, nq_eq, hb, Bool.false_or]; exact ih
def afB (J : List Nat) (st : AS) (d : Option Nat) (av : AV) (os : List AObj) : List Nat → AS
  | [] => ⟨putS st.sl d (renV (jmap J st.hp.length) av), setJ J (os.map (renO (jmap J st.hp.length))) st.hp ++ (os.drop J.length).map (renO (jmap J st.hp.length))⟩
  | a :: A => ⟨putS (kaS (a :: A) st.sl) d (renV (jmap J st.hp.length) av), setJ J (os.map (renO (jmap J st.hp.length))) (kaH (a :: A) st.hp) ++ (os.drop J.length).map (renO (jmap J st.hp.length))⟩
theorem afterC_e {J : List Nat} {st : AS} {d : Option Nat} {av : AV} {os : List AObj} : afterC J st d av os = afB J st d av os (arJ st.hp J) := by
  unfold afterC
  rw [← arJ_eq]
  cases h : arJ st.hp J with
  | nil =>
    have hn : ∀ id, memN id [] = false := fun _ => rfl
    rw [mapV_none hn, mapO_none hn]; rfl
  | cons a A => rw [afB, kaS_eq, kaH_eq]
theorem afB_n {J : List Nat} {st : AS} {d : Option Nat} {av : AV} {os : List AObj} : afB J st d av os [] = ⟨putS st.sl d (renV (jmap J st.hp.length) av), setJ J (os.map (renO (jmap J st.hp.length))) st.hp ++ (os.drop J.length).map (renO (jmap J st.hp.length))⟩ := Eq.trans rfl rfl
theorem afB_c {J A : List Nat} {a : Nat} {st : AS} {d : Option Nat} {av : AV} {os : List AObj} : afB J st d av os (a :: A) = ⟨putS (kaS (a :: A) st.sl) d (renV (jmap J st.hp.length) av), setJ J (os.map (renO (jmap J st.hp.length))) (kaH (a :: A) st.hp) ++ (os.drop J.length).map (renO (jmap J st.hp.length))⟩ := Eq.trans rfl rfl
def evJ (call : CallT) (d : Option Nat) (f : FuncId) (avs : List AV) (st : AS) (J : List Nat) : Option AS := if okJ J st.hp avs then (call f (avs.map (renV (idxN J))) (J.map fun j => renO (idxN J) (hpGet st.hp j))).map fun r => afterC J st d r.1 r.2 else none
def evK (d : Option Nat) (st : AS) (J : List Nat) : Option (AV × List AObj) → Option AS
  | some (av, os) => some (afterC J st d av os)
  | none => none
def evB (call : CallT) (d : Option Nat) (f : FuncId) (avs : List AV) (st : AS) (J : List Nat) : Bool → Option AS
  | true => evK d st J (call f (avs.map (renV (idxN J))) (J.map fun j => renO (idxN J) (hpGet st.hp j)))
  | false => none
theorem evCall_e {call : CallT} {d : Option Nat} {f : FuncId} {avs : List AV} {st : AS} : evCall call d f avs st = evJ call d f avs st (reach st.hp 2000 (avs.flatMap idsV) []) := Eq.trans rfl rfl
theorem evJ_e {call : CallT} {d : Option Nat} {f : FuncId} {avs : List AV} {st : AS} (J : List Nat) : evJ call d f avs st J = evB call d f avs st J (dstN J && kpH J st.hp J && kpVs J avs) := by
  unfold evJ okJ
  rw [dstN_eq, kpH_eq, kpVs_eq]
  cases (pairsOK (fun i j => i != j) J && (J.all fun j => decide (j < st.hp.length) && keepO (outJ J) (hpGet st.hp j)) && avs.all (keepV (outJ J))) with
  | false => rfl
  | true =>
    simp only [if_true, evB]
    cases call f (avs.map (renV (idxN J))) (J.map fun j => renO (idxN J) (hpGet st.hp j)) <;> rfl
theorem evJ_0 {call : CallT} {d : Option Nat} {f : FuncId} {avs : List AV} {st : AS} : evJ call d f avs st [] = evB call d f avs st [] (dstN [] && kpH [] st.hp [] && kpVs [] avs) := evJ_e _
theorem evJ_1 {call : CallT} {d : Option Nat} {f : FuncId} {avs : List AV} {st : AS} {a : Nat} : evJ call d f avs st [a] = evB call d f avs st [a] (dstN [a] && kpH [a] st.hp [a] && kpVs [a] avs) := evJ_e _
theorem evJ_2 {call : CallT} {d : Option Nat} {f : FuncId} {avs : List AV} {st : AS} {a b : Nat} : evJ call d f avs st [a, b] = evB call d f avs st [a, b] (dstN [a, b] && kpH [a, b] st.hp [a, b] && kpVs [a, b] avs) := evJ_e _
theorem evJ_3 {call : CallT} {d : Option Nat} {f : FuncId} {avs : List AV} {st : AS} {a b c : Nat} : evJ call d f avs st [a, b, c] = evB call d f avs st [a, b, c] (dstN [a, b, c] && kpH [a, b, c] st.hp [a, b, c] && kpVs [a, b, c] avs) := evJ_e _
theorem evJ_4 {call : CallT} {d : Option Nat} {f : FuncId} {avs : List AV} {st : AS} {a b c e : Nat} : evJ call d f avs st [a, b, c, e] = evB call d f avs st [a, b, c, e] (dstN [a, b, c, e] && kpH [a, b, c, e] st.hp [a, b, c, e] && kpVs [a, b, c, e] avs) := evJ_e _
theorem evB_t {call : CallT} {d : Option Nat} {f : FuncId} {avs : List AV} {st : AS} {J : List Nat} : evB call d f avs st J true = evK d st J (call f (avs.map (renV (idxN J))) (J.map fun j => renO (idxN J) (hpGet st.hp j))) := Eq.trans rfl rfl
theorem evK_s {d : Option Nat} {st : AS} {J : List Nat} {av : AV} {os : List AObj} : evK d st J (some (av, os)) = some (afterC J st d av os) := Eq.trans rfl rfl
attribute [go_sem] memN reach_nil reach_s rcB_t rcB_f dstN kpC kpCs kpV kpVs kpO kpH arB arJ kaC kaCs kaV kaS kaO kaH afterC_e afB_n afB_c evCall_e evJ_0 evJ_1 evJ_2 evJ_3 evJ_4 evB_t evK_s idsO Nat.reduceLT
section
variable {call : CallT} {G : Glob} {st : AS} {d : Option Nat}
/-- the same, with tests that run -/
def fvBc (call : CallT) (d : Option Nat) (f : FuncId) (st : AS) (avs : List AV) (id : Nat) (cs : List Cel) : Bool → Option (AS × FP)
  | true => fvB2 d id st (nzCall call f (avs.map (renV (idxN [id]))) [.box cs])
  | false => none
theorem fvB_b {f : FuncId} {avs : List AV} {id : Nat} {cs : List Cel} : fvB call d f st avs id (some (.box cs)) = fvBc call d f st avs id cs (keepL (fun _ => true) cs && kpVs [id] avs) := by
  rw [kpVs_eq]
  simp only [fvB]
  cases (keepL (fun _ => true) cs && avs.all (keepV (outJ [id]))) <;> rfl
theorem fvBc_t {f : FuncId} {avs : List AV} {id : Nat} {cs : List Cel} : fvBc call d f st avs id cs true = fvB2 d id st (nzCall call f (avs.map (renV (idxN [id]))) [.box cs]) := Eq.trans rfl rfl
end
attribute [go_sem] fvB_b fvBc_t
end
section
set_option linter.unusedSimpArgs false
set_option linter.unusedVariables false

/-- the code of slices.Clone, for elements of a size -/
def cloneC (size bytes : Nat) (z : List Value) : HC :=
  (.seq (.region [Oo 2 (.mov (.k (.slice none 0 0)))])
  (.seq (.seq (.region [Oo 3 (.mov (.t 0)), Oo 4 (.isnil false false (.t 3))])
  (.cond (.t 4) (.seq (.region [Oo 2 (.mov (.k (.slice none 0 0)))])
  .ret)
  .skip))
  (.seq (.region [Oo 5 (.bslc size 0 z []), Oo 6 (.mov (.t 0)), Oo 7 (.app size bytes z (.t 5) (.t 6)), Oo 2 (.mov (.t 7))])
  .ret)))

section
variable {P : Program} {G : Glob} {call : CallT}

theorem noCall_ok : CallOK P G (fun _ _ _ => none) := fun f args hp av o' h => by cases h

theorem clone_rest {size bytes : Nat} {z : List Value} {es : List (List DC)} {v4 : AV} (h4 : v4 = rawV (.bool false)) (hz : 0 < z.length) (hl : allLen size es = true) (hb : es.length * bytes ≤ 140737488355328) :
    EC call G (.seq (.region [Oo 5 (.bslc size 0 z []), Oo 6 (.mov (.t 0)), Oo 7 (.app size bytes z (.t 5) (.t 6)), Oo 2 (.mov (.t 7))]) .ret)
      ⟨[.one (.dc (.slc es)), .junk, rawV (.slice none 0 0), .one (.dc (.slc es)), v4, .junk, .junk, .junk], []⟩ =
    some (.ret, ⟨[.one (.dc (.slc es)), .junk, .one (.bld 0 es.length), .one (.dc (.slc es)), v4, .one .junk, .one (.dc (.slc es)), .one (.bld 0 es.length)], [.arr 0 size es]⟩) := by
  subst h4
  simp [go_sem, hl, hb]

/-- the contract of Clone: an array of one's own -/
theorem clone_ac {f : FuncId} {fn : Func} {size bytes : Nat} {z : List Value} {es : List (List DC)} (hf : P.funcs[f]? = some fn) (hn : fn.ntmps = 8)
    (hc : fn.body.bind (compileC P) = some (cloneC size bytes z).er) (hr : fn.results.toList.mapM (retOf P) = some [.tmp 2])
    (hz : 0 < z.length) (hl : allLen size es = true) (hb : es.length * bytes ≤ 140737488355328) :
    AC P G f [.one (.dc (.slc es))] [] fun a o => a = .one (.bld 0 es.length) ∧ o.map nocap = [.arr 0 size es] := by
  have hA : AC P G f [.one (.dc (.slc es))] [] fun a o => (a = .one (.bld 0 es.length) ∧ o.map nocap = [.arr 0 size es]) ∨ (es = [] ∧ a = rawV (.slice none 0 0) ∧ o = []) := by
    refine AC.of_codeJ hf hn hc hr ?_
    have rest : ∀ b : Bool, (b = true → es = []) → AW P G 0 (.cond (.t 4) (.seq (.region [Oo 2 (.mov (.k (.slice none 0 0)))]) .ret) .skip) 
        (SeqQ P G 0 (.seq (.region [Oo 5 (.bslc size 0 z []), Oo 6 (.mov (.t 0)), Oo 7 (.app size bytes z (.t 5) (.t 6)), Oo 2 (.mov (.t 7))]) .ret) (Fin 0 [.tmp 2] fun a o => (a = .one (.bld 0 es.length) ∧ o.map nocap = [.arr 0 size es]) ∨ (es = [] ∧ a = rawV (.slice none 0 0) ∧ o = [])))
        ⟨[.one (.dc (.slc es)), .junk, rawV (.slice none 0 0), .one (.dc (.slc es)), rawV (.bool b), .junk, .junk, .junk], []⟩ := by
      intro b hb0
      refine AW.cond (b := b) rfl (fun h => ?_) (fun h => ?_)
      · refine AW.seq (AW.region (WR.exX trivial rfl rfl (WR.nil ?_)))
        exact AW.ret (SeqQ.r (by unfold Fin; exact ⟨.inr rfl, Nat.zero_le _, _, rfl, .inr ⟨hb0 h, rfl, rfl⟩⟩))
      · subst h
        refine AW.skip (SeqQ.n ?_)
        refine (EC_ok (noCall_ok (P := P) (G := G)) (.seq (.region [Oo 5 (.bslc size 0 z []), Oo 6 (.mov (.t 0)), Oo 7 (.app size bytes z (.t 5) (.t 6)), Oo 2 (.mov (.t 7))]) .ret) _ .ret _ (clone_rest rfl hz hl hb) 0).mono ?_
        rintro e s ⟨rfl, hs⟩
        unfold Fin
        refine ⟨.inr rfl, Nat.zero_le _, .one (.bld 0 es.length), ?_, .inl ⟨rfl, congrArg AS.hp hs⟩⟩
        rw [← retV_norm, hs]
        rfl
    refine AW.seq (AW.region (WR.exX trivial rfl rfl (WR.nil ?_)))
    refine AW.seqv (AW.seq (AW.region (WR.exX trivial rfl rfl ?_)))
    cases es with
    | nil => exact WR.isnil0 trivial rfl rfl (fun b => WR.nil (rest b (fun _ => rfl)))
    | cons e es => exact WR.exX trivial rfl rfl (WR.nil (rest false (fun h => by cases h)))
  refine hA.gh (fun a o h hl0 => ?_)
  rcases h with ⟨rfl, h⟩ | ⟨rfl, rfl, rfl⟩
  · exact ⟨_, _, Gh.refl, hl0, rfl, h⟩
  · exact ⟨_, _, Gh.nil (d := 0) size rfl, Nat.zero_le _, rfl, rfl⟩
/-- Clone at some functions: number, cells and bytes of an element -/
def cloneK (size bytes : Nat) : List AV → List AObj → Option (AV × List AObj)
  | [.one (.dc (.slc es))], [] => if allLen size es = true ∧ es.length * bytes ≤ 140737488355328 then some (.one (.bld 0 es.length), [.arr 0 size es]) else none
  | _, _ => none
def cloneB : List (FuncId × Nat × Nat) → CallT
  | [], _, _, _ => none
  | (g, size, bytes) :: L, f, args, hp => if f = g then cloneK size bytes args hp else cloneB L f args hp
theorem cloneB_ok : ∀ (L : List (FuncId × Nat × Nat)), (∀ e ∈ L, okF P e.1 = true ∧ ∃ fn z, P.funcs[e.1]? = some fn ∧ fn.ntmps = 8 ∧ fn.body.bind (compileC P) = some (cloneC e.2.1 e.2.2 z).er ∧ fn.results.toList.mapM (retOf P) = some [.tmp 2] ∧ 0 < z.length) → CallOK P G (cloneB L)
  | [], _ => fun f args hp av o' h => by cases h
  | (g, size, bytes) :: L, hL => fun f args hp av o' h hp0 hh => by
    unfold cloneB at h
    split at h
    · rename_i hf
      subst hf
      obtain ⟨h1, fn, z, h2, h3, h4, h5, h6⟩ := hL _ List.mem_cons_self
      refine ⟨h1, ?_⟩
      unfold cloneK at h
      split at h
      · rename_i es
        split at h
        · rename_i hc
          simp only [Option.some.injEq, Prod.mk.injEq] at h
          obtain ⟨rfl, rfl⟩ := h
          have : hp0 = [] := by simpa using hh
          subst this
          exact clone_ac h2 h3 h4 h5 h6 hc.1 hc.2
        · cases h
      · cases h
    · exact cloneB_ok L (fun e he => hL e (List.mem_cons_of_mem _ he)) f args hp av o' h hp0 hh
end
end
section
open Go.RowKit
set_option linter.unusedSimpArgs false
set_option linter.unusedVariables false
theorem findNow_none (k : Int) : ∀ (l : List MapEntry) (i : Nat), (∀ x ∈ l, ∃ n, x.key = .int .i64 n ∧ n ≠ k) → Instr.findNow (.int .i64) (.int .i64 k) l i = some none
  | [], i, h => rfl
  | e :: l, i, h => by
    obtain ⟨n, h1, h2⟩ := h e List.mem_cons_self
    have hne : (k == n) = false := by simp; exact fun e => h2 e.symm
    simp [Instr.findNow, Instr.sameNow, h1, hne, findNow_none k l (i + 1) (fun x hx => h x (List.mem_cons_of_mem _ hx))]
theorem ins_run {P : Program} {t kt et : TypeId} (ht : P.underlying t = some (.map kt et)) (hk : P.underlying kt = some (.int .i64)) (w : World) (es : Array MapEntry) (clk : Nat) (n : Int) (v : Value)
    (hn : ∀ x ∈ es.toList, ∃ m, x.key = .int .i64 m ∧ m ≠ n) :
    (Instr.mapUpdate t (.map (some w.heap.size)) (.int .i64 n) v).run P (w.alloc (.map es clk)) = .ok () (w.alloc (.map (es.push { key := .int .i64 n, val := v, born := clk }) (clk + 1))) := by
  have hb : (w.alloc (.map es clk)).heap[w.heap.size]? = some (.map es clk) := by
    show (w.heap.push _)[w.heap.size]? = _
    simp
  have hgo : (getObj w.heap.size).run P (w.alloc (.map es clk)) = .ok (.map es clk) (w.alloc (.map es clk)) := by simp only [getObj, Sem.run, hb]
  have hck : (Instr.checkKey false (9999 + 1) kt (.int .i64 n)).run P (w.alloc (.map es clk)) = .ok () (w.alloc (.map es clk)) := by
    unfold Instr.checkKey
    simp [run_underlying hk]
  have hfk : (Instr.findKey kt (.int .i64 n) es.toList).run P (w.alloc (.map es clk)) = .ok none (w.alloc (.map es clk)) := by
    simp [Instr.findKey, run_underlying hk, findNow_none n es.toList 0 hn]
  have hset : ∀ o, (setObj w.heap.size o).run P (w.alloc (.map es clk)) = .ok () (w.alloc o) := by
    intro o
    rw [MapKept.run_setObj_map o hb]
    have : (w.heap.push (.map es clk)).setIfInBounds w.heap.size o = w.heap.push o := by
      apply Array.ext'
      simp
    show Result.ok () ({ w.alloc (.map es clk) with heap := (w.heap.push (.map es clk)).setIfInBounds w.heap.size o } : World) = _
    rw [this]; rfl
  simp [Instr.mapUpdate, run_underlying ht, hgo, hck, hfk, hset]
/-- the types, and whether they are always resident -/
def tyL : List (Int × Value) := [(16, .bool true), (32, .bool false), (48, .bool true), (64, .bool false), (96, .bool true), (112, .bool true), (128, .bool false), (144, .bool true), (160, .bool false), (176, .bool false), (192, .bool false)]
def tyE : Array MapEntry := #[⟨.int .i64 16, .bool true, 0⟩, ⟨.int .i64 32, .bool false, 1⟩, ⟨.int .i64 48, .bool true, 2⟩, ⟨.int .i64 64, .bool false, 3⟩, ⟨.int .i64 96, .bool true, 4⟩, ⟨.int .i64 112, .bool true, 5⟩, ⟨.int .i64 128, .bool false, 6⟩, ⟨.int .i64 144, .bool true, 7⟩, ⟨.int .i64 160, .bool false, 8⟩, ⟨.int .i64 176, .bool false, 9⟩, ⟨.int .i64 192, .bool false, 10⟩]
set_option maxRecDepth 100000 in
set_option maxHeartbeats 1000000 in
theorem types_c (w : World) : Calls Tryz.prog 57 #[] w fun e w' => e = .returned (.map (some w.heap.size)) ∧ w' = w.alloc (.map tyE 11) := by
  have hmm := fun w => run_makeMap_plain (P := Tryz.prog) (w := w) 89
  go_enter Tryz.func57, Tryz.ntmps57
  go_wp2
  iterate 11
    rw [ins_run Tryz.underlying89 Tryz.underlying3]
    rotate_left
    · simp
    simp only [Result.andThen]
    go_wp2
  go_ret
  exact ⟨rfl, rfl⟩
set_option maxRecDepth 100000 in
theorem idx_c (s : ByteArray) (c : Int) (w : World) :
    Calls Tryz.prog 233 #[.string s, .int .u8 c] w fun e w' => e = .returned (.int .i64 (Lib.indexByte s.data.toList c.toNat.toUInt8)) ∧ w' = w := by
  go_enter Tryz.func233, Tryz.ntmps233
  go_wp2
  rw [run_callFunc_extern Tryz.func240 (by kernel_rfl) (by kernel_rfl) (by kernel_rfl) (e := Extern.BytealgIndexByte.indexByte) (by kernel_rfl), Lib.run_indexByteString]
  simp only [Result.andThen]
  rw [Oper.upon_value]
  go_wp2
  go_ret
  exact ⟨rfl, rfl⟩
theorem nil_of {γ : List OI} {hp : List AObj} {F : Fz} {w : World} (hi : Inv F γ hp w) (h : hp = []) : γ = [] := List.eq_nil_of_length_eq_zero (by rw [hi.len, h]; rfl)
theorem types_q {G : Glob} : QC Tryz.prog G 57 [] (.one (.mpc tyL)) := by
  intro F γ vs w hi hg hv
  have hγ := nil_of hi rfl
  subst hγ
  have hvs : vs = #[] := Array.eq_empty_of_size_eq_zero hv.1
  subst hvs
  have hlt : ∀ b o, F b = some o → b < w.heap.size := fun b o h => by
    have := hi.fz b o h
    exact (Array.getElem?_eq_some_iff.1 this).1
  have hold : ∀ b, b < w.heap.size → (w.heap.push (.map tyE 11))[b]? = w.heap[b]? := fun b hb => by rw [Array.getElem?_push_lt hb, Array.getElem?_eq_getElem hb]
  refine (types_c w).mono ?_
  rintro e w' ⟨rfl, rfl⟩
  refine ⟨_, _, [], fun b => if b = w.heap.size then some (.map tyE 11) else F b, [], rfl, ⟨rfl, rfl⟩, Nat.le_refl _, ⟨?_, rfl, rfl, rfl, ?_, ?_, ?_, ?_, ?_⟩, ⟨?_, rfl, ?_, ?_, ?_⟩, .one _ _ (.mpc tyL w.heap.size 11 tyE (by simp) (by rfl) (by decide))⟩
  · intro b o h
    have := hlt b o h
    show (if b = w.heap.size then _ else F b) = _
    rw [if_neg (by omega)]; exact h
  · show w.heap.size ≤ (w.heap.push _).size
    simp
  · intro b hb _; exact hold b hb
  · intro b o h
    by_cases hb : b = w.heap.size
    · exact .inr (.inl (by omega))
    · simp only [if_neg hb] at h; exact .inl h
  · intro i b h; simp [blkAt] at h
  · intro i hi; exact absurd hi (Nat.not_lt_zero _)
  · intro b o h
    by_cases hb : b = w.heap.size
    · subst hb
      simp only [if_true] at h
      rw [← h]
      show (w.heap.push _)[w.heap.size]? = _
      simp
    · simp only [if_neg hb] at h
      exact (hold b (hlt b o h)).trans (hi.fz b o h)
  · intro i j b h; simp [blkAt] at h
  · intro i b h; simp [blkAt] at h
  · intro i o x h; simp at h
theorem idx_q {G : Glob} (s : ByteArray) (c : Int) : QC Tryz.prog G 233 [.one (.dc (.raw (.string s))), .one (.dc (.raw (.int .u8 c)))] (.one (.dc (.raw (.int .i64 (Lib.indexByte s.data.toList c.toNat.toUInt8))))) := by
  intro F γ vs w hi hg hv
  obtain ⟨hz, hv⟩ := hv
  have hγ := nil_of hi rfl
  subst hγ
  obtain ⟨x, y, rfl⟩ : ∃ x y, vs = #[x, y] := by
    obtain ⟨l⟩ := vs
    match l, hz with
    | [x, y], _ => exact ⟨x, y, rfl⟩
  have h1 := rv_raw (hv 0 _ _ rfl rfl)
  have h2 := rv_raw (hv 1 _ _ rfl rfl)
  subst h1; subst h2
  refine (idx_c s c w).mono ?_
  rintro e w' ⟨rfl, rfl⟩
  exact ⟨_, _, [], F, [], rfl, ⟨rfl, rfl⟩, Nat.le_refl _, Ext.refl _ _ _ _, hi, .one _ _ (.dc _ _ (.raw _ rfl))⟩
def tyK : List AV → List AObj → Option (AV × List AObj)
  | [], [] => some (.one (.mpc tyL), [])
  | _, _ => none
def ixK : List AV → List AObj → Option (AV × List AObj)
  | [.one (.dc (.raw (.string s))), .one (.dc (.raw (.int .u8 c)))], [] => some (.one (.dc (.raw (.int .i64 (Lib.indexByte s.data.toList c.toNat.toUInt8)))), [])
  | _, _ => none
def awK : List AV → List AObj → Option (AV × List AObj)
  | [], [] => some (.one (.dc (.raw (.bool true))), [])
  | _, _ => none
/-- the base of the table, with or without the examples -/
def bs (b : Bool) : CallT := fun f args hp => if f = 57 then tyK args hp else if f = 233 then ixK args hp else if f = 11 then (if b = true then awK args hp else none) else cloneB [(59, 2, 16)] f args hp
theorem bs_ok {G : Glob} {b : Bool} (hA : b = true → QC Tryz.prog G 11 [] (.one (.dc (.raw (.bool true))))) : CallOK Tryz.prog G (bs b) := by
  intro f args hp av o' h hp0 hh
  unfold bs at h
  split at h
  · rename_i hf
    subst hf
    unfold tyK at h
    split at h
    · injection h with h; injection h with h1 h2; subst h1; subst h2
      have : hp0 = [] := by simpa using hh
      subst this
      exact ⟨by kernel_rfl, types_q.gh (fun a o ⟨h1, h2⟩ _ => ⟨a, o, Gh.refl, Nat.zero_le _, h1, by rw [h2]; rfl⟩)⟩
    · cases h
  · split at h
    · rename_i hf
      subst hf
      unfold ixK at h
      split at h
      · injection h with h; injection h with h1 h2; subst h1; subst h2
        have : hp0 = [] := by simpa using hh
        subst this
        exact ⟨by kernel_rfl, (idx_q _ _).gh (fun a o ⟨h1, h2⟩ _ => ⟨a, o, Gh.refl, Nat.zero_le _, h1, by rw [h2]; rfl⟩)⟩
      · cases h
    · split at h
      · rename_i hf
        subst hf
        split at h
        · rename_i hb
          unfold awK at h
          split at h
          · injection h with h; injection h with h1 h2; subst h1; subst h2
            have : hp0 = [] := by simpa using hh
            subst this
            exact ⟨by kernel_rfl, (hA hb).gh (fun a o ⟨h1, h2⟩ _ => ⟨a, o, Gh.refl, Nat.zero_le _, h1, by rw [h2]; rfl⟩)⟩
          · cases h
        · cases h
      · exact cloneB_ok [(59, 2, 16)] (fun e he => by
          simp only [List.mem_singleton] at he
          subst he
          exact ⟨by kernel_rfl, _, [Zi 0, Zi 0], Tryz.func59, Tryz.ntmps59, h59_ok, r59_ok, by decide⟩) f args hp av o' h hp0 hh
end
end Go.Proofs.YtmognenhkecngaaGreatDoor
