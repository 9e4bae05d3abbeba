/- Calls with pointers, in steps. Conditions: none. -/
import Derived.Test.YtginjcpblgpcoaaNe
namespace Go.Proofs.Ytginjcpblgpcoaa
set_option linter.unusedSimpArgs false
set_option linter.unusedVariables false
def memN (x : Nat) : List Nat → Bool
  | [] => false
  | j :: J => nq x j || memN x J
theorem memN_eq (x : Nat) : ∀ J : List Nat, memN x J = J.contains x
  | [] => rfl
  | j :: J => by rw [memN, List.contains_cons, memN_eq x J, nq_eq]
def rcB (hp : List AObj) (n id : Nat) (todo J : List Nat) : Bool → List Nat
  | true => reach hp n todo J
  | false => reach hp n (idsO (hpGet hp id) ++ todo) (J ++ [id])
theorem reach_nil {hp : List AObj} {n : Nat} {J : List Nat} : reach hp n [] J = J := by cases n <;> rfl
theorem reach_s {hp : List AObj} {n id : Nat} {todo J : List Nat} : reach hp (n + 1) (id :: todo) J = rcB hp n id todo J (memN id J) := by
  rw [reach, memN_eq]; cases J.contains id <;> rfl
theorem rcB_t {hp : List AObj} {n id : Nat} {todo J : List Nat} : rcB hp n id todo J true = reach hp n todo J := Eq.trans rfl rfl
theorem rcB_f {hp : List AObj} {n id : Nat} {todo J : List Nat} : rcB hp n id todo J false = reach hp n (idsO (hpGet hp id) ++ todo) (J ++ [id]) := Eq.trans rfl rfl
def dstN : List Nat → Bool
  | [] => true
  | j :: J => !memN j J && dstN J
theorem dstN_eq : ∀ J : List Nat, dstN J = pairsOK (fun i j => i != j) J
  | [] => rfl
  | j :: J => by
    rw [dstN, pairsOK, dstN_eq J, memN_eq]
    congr 1
    induction J with
    | nil => rfl
    | cons i J ih => simp only [List.contains_cons, List.all_cons, Bool.not_or, ih]; rfl
def kpC (J : List Nat) : Cel → Bool
  | .ptr id _ => memN id J
  | .bld id _ => memN id J
  | .ept id _ _ _ => memN id J
  | .bls id _ _ _ => memN id J
  | .fn f caps => (Cel.fn f caps).keep (outJ J)
  | .dc _ => true
  | .ref _ => true
  | .junk => true
def kpCs (J : List Nat) : List Cel → Bool
  | [] => true
  | c :: cs => kpC J c && kpCs J cs
def kpV (J : List Nat) : AV → Bool
  | .one c => kpC J c
  | .agg cs => kpCs J cs
  | .tup l => l.all (keepT (outJ J))
  | .junk => true
def kpVs (J : List Nat) : List AV → Bool
  | [] => true
  | v :: vs => kpV J v && kpVs J vs
def kpO (J : List Nat) : AObj → Bool
  | .box cs => kpCs J cs
  | .arr _ _ _ => true
  | .dead => true
def kpH (J : List Nat) (hp : List AObj) : List Nat → Bool
  | [] => true
  | j :: l => decide (j < hp.length) && kpO J (hpGet hp j) && kpH J hp l
theorem kpC_eq (J : List Nat) (c : Cel) : kpC J c = c.keep (outJ J) := by
  cases c <;> simp [kpC, Cel.keep, outJ, memN_eq]
theorem kpCs_eq (J : List Nat) : ∀ cs, kpCs J cs = keepL (outJ J) cs
  | [] => rfl
  | c :: cs => by rw [kpCs, keepL, kpC_eq, kpCs_eq J cs]
theorem kpV_eq (J : List Nat) (v : AV) : kpV J v = keepV (outJ J) v := by
  cases v <;> simp [kpV, keepV, kpC_eq, kpCs_eq]
theorem kpVs_eq (J : List Nat) : ∀ vs, kpVs J vs = vs.all (keepV (outJ J))
  | [] => rfl
  | v :: vs => by rw [kpVs, List.all_cons, kpV_eq, kpVs_eq J vs]
theorem kpO_eq (J : List Nat) (o : AObj) : kpO J o = keepO (outJ J) o := by
  cases o <;> simp [kpO, keepO, kpCs_eq]
theorem kpH_eq (J : List Nat) (hp : List AObj) : ∀ l, kpH J hp l = l.all fun j => decide (j < hp.length) && keepO (outJ J) (hpGet hp j)
  | [] => rfl
  | j :: l => by rw [kpH, List.all_cons, kpO_eq, kpH_eq J hp l]
/-- the arrays among some objects -/
def arB (j : Nat) (l : List Nat) : AObj → List Nat
  | .box _ => l
  | _ => j :: l
def arJ (hp : List AObj) : List Nat → List Nat
  | [] => []
  | j :: J => arB j (arJ hp J) (hpGet hp j)
def kaC (A : List Nat) : Cel → Cel
  | .dc d => .dc d
  | .ref cs => .ref cs
  | .junk => .junk
  | .ptr j o => bif memN j A then .junk else .ptr j o
  | .bld j n => bif memN j A then .junk else .bld j n
  | .ept j i s o => bif memN j A then .junk else .ept j i s o
  | .bls j i s o => bif memN j A then .junk else .bls j i s o
  | .fn f caps => killC (fun id => memN id A) (.fn f caps)
def kaCs (A : List Nat) : List Cel → List Cel
  | [] => []
  | c :: cs => kaC A c :: kaCs A cs
def kaV (A : List Nat) : AV → AV
  | .one c => .one (kaC A c)
  | .agg cs => .agg (kaCs A cs)
  | .tup l => .tup (l.map (killT fun id => memN id A))
  | .junk => .junk
def kaS (A : List Nat) : List AV → List AV
  | [] => []
  | v :: vs => kaV A v :: kaS A vs
def kaO (A : List Nat) : AObj → AObj
  | .box cs => .box (kaCs A cs)
  | .arr c s es => .arr c s es
  | .dead => .dead
def kaH (A : List Nat) : List AObj → List AObj
  | [] => []
  | o :: os => kaO A o :: kaH A os
theorem kaC_eq (A : List Nat) (c : Cel) : kaC A c = killC (fun id => memN id A) c := by
  cases c <;> simp only [kaC, killC, Cel.keep, if_true]
  case ptr j o =>
    by_cases h : memN j A = true
    · simp [h]
    · simp [h, (Bool.eq_false_iff.2 h : memN j A = false)]
  case bld j n =>
    by_cases h : memN j A = true
    · simp [h]
    · simp [h, (Bool.eq_false_iff.2 h : memN j A = false)]
  case ept j i s o =>
    by_cases h : memN j A = true
    · simp [h]
    · simp [h, (Bool.eq_false_iff.2 h : memN j A = false)]
  case bls j i s o =>
    by_cases h : memN j A = true
    · simp [h]
    · simp [h, (Bool.eq_false_iff.2 h : memN j A = false)]
theorem kaCs_eq (A : List Nat) : ∀ cs, kaCs A cs = cs.map (killC fun id => memN id A)
  | [] => rfl
  | c :: cs => by simp [kaCs, kaC_eq, kaCs_eq A cs]
theorem kaV_eq (A : List Nat) (v : AV) : kaV A v = killV (fun id => memN id A) v := by
  cases v <;> simp only [kaV, killV, kaC_eq, kaCs_eq]
theorem kaS_eq (A : List Nat) : ∀ l, kaS A l = l.map (killV fun id => memN id A)
  | [] => rfl
  | c :: cs => by simp [kaS, kaV_eq, kaS_eq A cs]
theorem kaH_eq (A : List Nat) : ∀ l, kaH A l = l.map (killO fun id => memN id A)
  | [] => rfl
  | o :: os => by cases o <;> simp [kaH, kaO, killO, kaCs_eq, kaH_eq A os]
theorem arJ_eq (hp : List AObj) : ∀ J : List Nat, (fun id => memN id (arJ hp J)) = fun id => J.contains id && !isBoxO (hpGet hp id)
  | [] => by funext id; rfl
  | j :: J => by
    funext id
    have ih : memN id (arJ hp J) = (J.contains id && !isBoxO (hpGet hp id)) := congrFun (arJ_eq hp J) id
    rw [List.contains_cons, arJ]
    by_cases h : id = j
    · subst h
      cases ho : hpGet hp id with
      | box cs => rw [arB, ih, ho]; simp [isBoxO]
      | _ => simp [arB, memN, nq_eq, isBoxO]
    · have hb : (id == j) = false := by simpa using h
      cases ho : hpGet hp j with
      | box cs => rw [arB, ih, hb, Bool.false_or]
      | _ => simp only [arB, memN, nq_eq, hb, Bool.false_or]; exact ih
def afB (J : List Nat) (st : AS) (d : Option Nat) (av : AV) (os : List AObj) : List Nat → AS
  | [] => ⟨putS st.sl d (renV (jmap J st.hp.length) av), setJ J (os.map (renO (jmap J st.hp.length))) st.hp ++ (os.drop J.length).map (renO (jmap J st.hp.length))⟩
  | a :: A => ⟨putS (kaS (a :: A) st.sl) d (renV (jmap J st.hp.length) av), setJ J (os.map (renO (jmap J st.hp.length))) (kaH (a :: A) st.hp) ++ (os.drop J.length).map (renO (jmap J st.hp.length))⟩
theorem afterC_e {J : List Nat} {st : AS} {d : Option Nat} {av : AV} {os : List AObj} : afterC J st d av os = afB J st d av os (arJ st.hp J) := by
  unfold afterC
  rw [← arJ_eq]
  cases h : arJ st.hp J with
  | nil =>
    have hn : ∀ id, memN id [] = false := fun _ => rfl
    rw [mapV_none hn, mapO_none hn]; rfl
  | cons a A => rw [afB, kaS_eq, kaH_eq]
theorem afB_n {J : List Nat} {st : AS} {d : Option Nat} {av : AV} {os : List AObj} : afB J st d av os [] = ⟨putS st.sl d (renV (jmap J st.hp.length) av), setJ J (os.map (renO (jmap J st.hp.length))) st.hp ++ (os.drop J.length).map (renO (jmap J st.hp.length))⟩ := Eq.trans rfl rfl
theorem afB_c {J A : List Nat} {a : Nat} {st : AS} {d : Option Nat} {av : AV} {os : List AObj} : afB J st d av os (a :: A) = ⟨putS (kaS (a :: A) st.sl) d (renV (jmap J st.hp.length) av), setJ J (os.map (renO (jmap J st.hp.length))) (kaH (a :: A) st.hp) ++ (os.drop J.length).map (renO (jmap J st.hp.length))⟩ := Eq.trans rfl rfl
def evJ (call : CallT) (d : Option Nat) (f : FuncId) (avs : List AV) (st : AS) (J : List Nat) : Option AS := if okJ J st.hp avs then (call f (avs.map (renV (idxN J))) (J.map fun j => renO (idxN J) (hpGet st.hp j))).map fun r => afterC J st d r.1 r.2 else none
def evK (d : Option Nat) (st : AS) (J : List Nat) : Option (AV × List AObj) → Option AS
  | some (av, os) => some (afterC J st d av os)
  | none => none
def evB (call : CallT) (d : Option Nat) (f : FuncId) (avs : List AV) (st : AS) (J : List Nat) : Bool → Option AS
  | true => evK d st J (call f (avs.map (renV (idxN J))) (J.map fun j => renO (idxN J) (hpGet st.hp j)))
  | false => none
theorem evCall_e {call : CallT} {d : Option Nat} {f : FuncId} {avs : List AV} {st : AS} : evCall call d f avs st = evJ call d f avs st (reach st.hp 2000 (avs.flatMap idsV) []) := Eq.trans rfl rfl
theorem evJ_e {call : CallT} {d : Option Nat} {f : FuncId} {avs : List AV} {st : AS} (J : List Nat) : evJ call d f avs st J = evB call d f avs st J (dstN J && kpH J st.hp J && kpVs J avs) := by
  unfold evJ okJ
  rw [dstN_eq, kpH_eq, kpVs_eq]
  cases (pairsOK (fun i j => i != j) J && (J.all fun j => decide (j < st.hp.length) && keepO (outJ J) (hpGet st.hp j)) && avs.all (keepV (outJ J))) with
  | false => rfl
  | true =>
    simp only [if_true, evB]
    cases call f (avs.map (renV (idxN J))) (J.map fun j => renO (idxN J) (hpGet st.hp j)) <;> rfl
theorem evJ_0 {call : CallT} {d : Option Nat} {f : FuncId} {avs : List AV} {st : AS} : evJ call d f avs st [] = evB call d f avs st [] (dstN [] && kpH [] st.hp [] && kpVs [] avs) := evJ_e _
theorem evJ_1 {call : CallT} {d : Option Nat} {f : FuncId} {avs : List AV} {st : AS} {a : Nat} : evJ call d f avs st [a] = evB call d f avs st [a] (dstN [a] && kpH [a] st.hp [a] && kpVs [a] avs) := evJ_e _
theorem evJ_2 {call : CallT} {d : Option Nat} {f : FuncId} {avs : List AV} {st : AS} {a b : Nat} : evJ call d f avs st [a, b] = evB call d f avs st [a, b] (dstN [a, b] && kpH [a, b] st.hp [a, b] && kpVs [a, b] avs) := evJ_e _
theorem evJ_3 {call : CallT} {d : Option Nat} {f : FuncId} {avs : List AV} {st : AS} {a b c : Nat} : evJ call d f avs st [a, b, c] = evB call d f avs st [a, b, c] (dstN [a, b, c] && kpH [a, b, c] st.hp [a, b, c] && kpVs [a, b, c] avs) := evJ_e _
theorem evJ_4 {call : CallT} {d : Option Nat} {f : FuncId} {avs : List AV} {st : AS} {a b c e : Nat} : evJ call d f avs st [a, b, c, e] = evB call d f avs st [a, b, c, e] (dstN [a, b, c, e] && kpH [a, b, c, e] st.hp [a, b, c, e] && kpVs [a, b, c, e] avs) := evJ_e _
theorem evB_t {call : CallT} {d : Option Nat} {f : FuncId} {avs : List AV} {st : AS} {J : List Nat} : evB call d f avs st J true = evK d st J (call f (avs.map (renV (idxN J))) (J.map fun j => renO (idxN J) (hpGet st.hp j))) := Eq.trans rfl rfl
theorem evK_s {d : Option Nat} {st : AS} {J : List Nat} {av : AV} {os : List AObj} : evK d st J (some (av, os)) = some (afterC J st d av os) := Eq.trans rfl rfl
attribute [go_sem] memN reach_nil reach_s rcB_t rcB_f dstN kpC kpCs kpV kpVs kpO kpH arB arJ kaC kaCs kaV kaS kaO kaH afterC_e afB_n afB_c evCall_e evJ_0 evJ_1 evJ_2 evJ_3 evJ_4 evB_t evK_s idsO Nat.reduceLT
end Go.Proofs.Ytginjcpblgpcoaa
