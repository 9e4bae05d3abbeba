/- From a contract of a law to what its row says of a call. Conditions: none. -/
import Derived.Test.YtmognenhkecngaaGreatDoorLt
import Derived.ProofKit
namespace Go.Proofs.YtmognenhkecngaaGreatDoor
section
section
variable {P : Program} {G : Glob} {k : Nat} {hp : List AObj} {s : AS} {K Q : AS → Prop}

theorem hpGet_norm (id : Nat) : hpGet (hp.map nocap) id = nocap (hpGet hp id) := by
  unfold hpGet
  simp only [List.getD_eq_getElem?_getD, List.getElem?_map]
  cases hp[id]? <;> rfl
theorem loadV_norm {g : Bool} {n : Nat} {x : AV} : loadV (hp.map nocap) g n x = loadV hp g n x := by
  unfold loadV
  split
  · simp only [hpGet_norm]; cases hpGet hp _ <;> rfl
  · simp only [hpGet_norm]; cases hpGet hp _ <;> rfl
  · rfl
  · rfl
theorem cvbsV_norm {x : AV} : cvbsV (hp.map nocap) x = cvbsV hp x := by
  unfold cvbsV
  split
  · rfl
  · rfl
  · simp only [hpGet_norm]; cases hpGet hp _ <;> rfl
  · simp only [hpGet_norm]; cases hpGet hp _ <;> rfl
  · rfl
theorem ixLV_norm {n : Nat} {x : AV} {i : Int} : ixLV (hp.map nocap) n x i = ixLV hp n x i := by
  unfold ixLV
  split
  · rfl
  · simp only [hpGet_norm]; cases hpGet hp _ <;> rfl
  · simp only [hpGet_norm]; cases hpGet hp _ <;> rfl
  · rfl
theorem slLV_norm {n : Nat} {x : AV} {l r : Option AV} : slLV (hp.map nocap) n x l r = slLV hp n x l r := by
  unfold slLV
  split
  · rfl
  · rfl
  · simp only [hpGet_norm]; cases hpGet hp _ <;> cases l <;> rfl
  · simp only [hpGet_norm]; cases hpGet hp _ <;> rfl
  · rfl
theorem srcV_norm {x : AV} : srcV (hp.map nocap) x = srcV hp x := by
  unfold srcV
  split
  · rfl
  · rfl
  · simp only [hpGet_norm]; cases hpGet hp _ <;> rfl
  · rfl
theorem evP_norm {ai : AI} : evP G (norm s) ai = evP G s ai := by
  cases ai <;> simp only [evP, norm, loadV_norm, cvbsV_norm, ixLV_norm, slLV_norm]
theorem evF_eq {st : AS} {ai : AI} : evF G st ai = evP G st ai := by
  unfold evF
  split
  · split
    · rename_i h1 h2
      simp only [evP, h1, h2, binV, wrapF_eq]; rfl
    · rfl
  · split
    · rename_i h1 h2
      simp only [evP, h1, h2, binV, wrapF_eq]; rfl
    · rfl
  · rfl

theorem toDCs_ok : ∀ (cs : List Cel) (ds : List DC), toDCs cs = some ds → cs = dcC ds
  | [], ds, h => by simp [toDCs] at h; subst h; rfl
  | c :: cs, ds, h => by
    cases c with
    | dc d =>
      simp only [toDCs] at h
      obtain ⟨ds', h1, rfl⟩ := Option.map_eq_some_iff.1 h
      rw [toDCs_ok cs ds' h1]; rfl
    | _ => simp [toDCs] at h
theorem chunks_ok {size : Nat} : ∀ (n : Nat) (l : List DC), l.length = n * size → (chunks size n l).flatten = l ∧ (chunks size n l).length = n ∧ ∀ e ∈ chunks size n l, e.length = size
  | 0, l, h => by
    have : l = [] := List.eq_nil_of_length_eq_zero (by simpa using h)
    subst this
    exact ⟨rfl, rfl, fun e he => by cases he⟩
  | n + 1, l, h => by
    have hm : (n + 1) * size = n * size + size := Nat.succ_mul n size
    obtain ⟨h1, h2, h3⟩ := chunks_ok (size := size) n (l.drop size) (by simp; omega)
    refine ⟨?_, by simp [chunks, h2], fun e he => ?_⟩
    · simp only [chunks, List.flatten_cons, h1, List.take_append_drop]
    · simp only [chunks, List.mem_cons] at he
      rcases he with rfl | he
      · simp; omega
      · exact h3 e he

theorem nocap_kill {p : Nat → Bool} (o : AObj) : nocap (killO p o) = killO p (nocap o) := by cases o <;> rfl
theorem map_kill {p : Nat → Bool} (l : List AObj) : (l.map (killO p)).map nocap = (l.map nocap).map (killO p) := by
  simp only [List.map_map]; exact List.map_congr_left (fun o _ => nocap_kill o)
theorem nocap_ren {ρ : Nat → Nat} (o : AObj) : nocap (renO ρ o) = renO ρ (nocap o) := by cases o <;> rfl
theorem nocap_box {cs : List Cel} {o : AObj} (h : nocap o = .box cs) : o = .box cs := by cases o <;> simp_all [nocap]
theorem nocap_arr {c z : Nat} {es : List (List DC)} {o : AObj} (h : nocap o = .arr c z es) : ∃ cap, o = .arr cap z es ∧ c = 0 := by
  cases o <;> simp_all [nocap]

theorem evI_eff {dst : Option Nat} {ai : AI} {st' : AS} (h : evI G dst ai (norm s) = some st') (hK : ∀ s', norm s' = st' → K s') : EffI P G k dst ai K s.sl s.hp := by
  cases ai with
  | alloc z =>
    simp only [evI, Option.some.injEq] at h
    exact hK _ (by rw [← h]; simp [norm, nocap])
  | box x =>
    simp only [evI] at h
    obtain ⟨cs, h1, h2⟩ := Option.map_eq_some_iff.1 h
    exact ⟨cs, h1, hK _ (by rw [← h2]; simp [norm, nocap])⟩
  | bslc size len zero parts =>
    simp only [evI] at h
    obtain ⟨cells, h1, h⟩ := Option.bind_eq_some_iff.1 h
    obtain ⟨ds, h2, h⟩ := Option.bind_eq_some_iff.1 h
    split at h
    · rename_i hl
      injection h with h
      obtain ⟨g1, g2, g3⟩ := chunks_ok len ds hl
      refine ⟨chunks size len ds, ?_, g3, g2, hK _ (by rw [← h]; simp [norm, nocap])⟩
      rw [g1, ← toDCs_ok _ _ h2]
      exact h1
    · cases h
  | store size x v =>
    simp only [evI] at h
    split at h
    · rename_i hd
      subst hd
      refine ⟨rfl, ?_⟩
      obtain ⟨vs, h1, h⟩ := Option.bind_eq_some_iff.1 h
      unfold evStore at h
      split at h
      · rename_i id off hx
        left
        split at h
        · rename_i cs hb
          split at h
          · rename_i hc
            injection h with h
            rw [norm, hpGet_norm] at hb
            exact ⟨id, off, cs, vs, hx, h1, nocap_box hb, hc.1, hc.2, hK _ (by rw [← h]; simp [norm, nocap, List.map_set])⟩
          · cases h
        · cases h
      · rename_i id i z off hx
        right
        split at h
        · rename_i c z' es hb
          obtain ⟨ds, h2, h⟩ := Option.bind_eq_some_iff.1 h
          obtain ⟨e, h3, h⟩ := Option.bind_eq_some_iff.1 h
          split at h
          · rename_i hc
            injection h with h
            rw [norm, hpGet_norm] at hb
            obtain ⟨cap, hb, _⟩ := nocap_arr hb
            obtain ⟨rfl, hc2, hc3⟩ := hc
            refine ⟨id, i, z', off, cap, es, e, ds, hx, ?_, hb, h3, hc2, hc3, hK _ (by rw [← h]; simp [norm, nocap, List.map_set])⟩
            rw [← toDCs_ok _ _ h2]; exact h1
          · cases h
        · cases h
      · cases h
    · cases h
  | app size bytes zero a x =>
    simp only [evI] at h
    unfold evApp at h
    split at h
    · rename_i id n hx
      right
      split at h
      · rename_i c z es hb
        obtain ⟨news, h2, h⟩ := Option.bind_eq_some_iff.1 h
        split at h
        · rename_i hc
          injection h with h
          rw [norm, hpGet_norm] at hb
          obtain ⟨cap, hb, _⟩ := nocap_arr hb
          obtain ⟨rfl, hc2, hc3, hc4⟩ := hc
          rw [norm, srcV_norm] at h2
          exact ⟨id, n, cap, es, news, hx, hb, hc2, h2, by simpa using hc3, hc4, fun cap' _ => hK _ (by rw [← h]; simp only [norm, List.map_set, map_kill]; rfl)⟩
        · cases h
      · cases h
    · rename_i hx
      left
      obtain ⟨news, h2, h⟩ := Option.bind_eq_some_iff.1 h
      split at h
      · rename_i hc
        injection h with h
        rw [norm, srcV_norm] at h2
        exact ⟨hx, news, h2, by simpa using hc.1, hc.2, fun cap' _ => hK _ (by rw [← h]; simp only [norm, List.map_append, map_kill, List.length_map]; rfl)⟩
      · cases h
    · cases h
  | _ => cases h

theorem frzO_nocap {id : Nat} {es : List (List DC)} (o : AObj) : nocap (frzO id es o) = frzO id es (nocap o) := by cases o <;> rfl

theorem frzIds_ok : ∀ (ids : List Nat) (s : AS), ∃ s', Gh k s s' ∧ norm s' = frzIds ids (norm s)
  | [], s => ⟨s, Gh.refl, rfl⟩
  | id :: r, s => by
    simp only [frzIds]
    split
    · rename_i c z es hb
      rw [norm, hpGet_norm] at hb
      obtain ⟨cap, hb, _⟩ := nocap_arr hb
      obtain ⟨s', h1, h2⟩ := frzIds_ok r ⟨s.sl.map fun v => killV (· == id) (frzV id es v), (s.hp.map fun o => killO (· == id) (frzO id es o)).set id .dead⟩
      refine ⟨s', (Gh.freeze hb).trans h1, ?_⟩
      rw [h2]
      congr 1
      simp only [norm, List.map_set, List.map_map, nocap]
      congr 2
      exact List.map_congr_left (fun o _ => by simp only [Function.comp_apply, nocap_kill, frzO_nocap])
    · exact frzIds_ok r s

mutual
theorem rtC {J : List Nat} {n : Nat} : (c : Cel) → c.keep (outJ J) = true → renC (jmap J n) (renC (idxN J) c) = c
  | .ptr id o, h => by simp only [renC, rtN (n := n) (by simpa [Cel.keep, outJ] using h)]
  | .bld id o, h => by simp only [renC, rtN (n := n) (by simpa [Cel.keep, outJ] using h)]
  | .ept id i z o, h => by simp only [renC, rtN (n := n) (by simpa [Cel.keep, outJ] using h)]
  | .bls id i z o, h => by simp only [renC, rtN (n := n) (by simpa [Cel.keep, outJ] using h)]
  | .fn f caps, h => by simp only [renC, rtL caps (by simpa [Cel.keep] using h)]
  | .dc d, h => rfl
  | .ref cs, h => rfl
  | .mpc es, h => rfl
  | .junk, h => rfl
theorem rtL {J : List Nat} {n : Nat} : (cs : List Cel) → keepL (outJ J) cs = true → renL (jmap J n) (renL (idxN J) cs) = cs
  | [], h => rfl
  | c :: cs, h => by
    simp only [keepL, Bool.and_eq_true] at h
    simp only [renL, rtC c h.1, rtL cs h.2]
theorem rtN {J : List Nat} {n id : Nat} (h : id ∈ J) : jmap J n (idxN J id) = id := by
  have : ∀ J : List Nat, id ∈ J → J[idxN J id]? = some id := by
    intro J
    induction J with
    | nil => intro h; cases h
    | cons j J ih =>
      intro h
      simp only [idxN]
      split
      · rename_i e; simp [e]
      · rename_i hne
        rw [List.getElem?_cons_succ]
        exact ih (by rcases List.mem_cons.1 h with h | h; exact absurd h hne; exact h)
  simp only [jmap, this J h]
end
theorem renL_map {ρ : Nat → Nat} : ∀ (cs : List Cel), renL ρ cs = cs.map (renC ρ)
  | [] => rfl
  | c :: cs => by simp [renL, renL_map cs]
theorem rtM {J : List Nat} {n : Nat} (cs : List Cel) (h : keepL (outJ J) cs = true) : (cs.map (renC (idxN J))).map (renC (jmap J n)) = cs := by
  rw [← renL_map, ← renL_map]; exact rtL cs h
theorem rtT {J : List Nat} {n : Nat} (t : TV) (h : keepT (outJ J) t = true) : renT (jmap J n) (renT (idxN J) t) = t := by
  cases t with
  | one c => simp only [renT, rtC c h]
  | agg cs => simp only [renT, rtM cs h]
theorem rtV {J : List Nat} {n : Nat} (v : AV) (h : keepV (outJ J) v = true) : renV (jmap J n) (renV (idxN J) v) = v := by
  cases v with
  | one c => simp only [renV, rtC c h]
  | agg cs => simp only [renV, rtM cs h]
  | tup l =>
    simp only [renV, List.map_map]
    congr 1
    conv => rhs; rw [← List.map_id l]
    exact List.map_congr_left (fun t ht => rtT t (List.all_eq_true.1 h t ht))
  | junk => rfl
theorem rtO {J : List Nat} {n : Nat} (o : AObj) (h : keepO (outJ J) o = true) : renO (jmap J n) (renO (idxN J) o) = o := by
  cases o with
  | box cs => simp only [renO, rtM cs h]
  | _ => rfl

theorem setJ_map {α β : Type} {f : α → β} : ∀ (J : List Nat) (xs l : List α), (setJ J xs l).map f = setJ J (xs.map f) (l.map f)
  | [], _, l => by simp [setJ]
  | j :: J, [], l => by simp [setJ]
  | j :: J, x :: xs, l => by simp only [setJ, List.map_cons]; rw [setJ_map J xs]; simp [List.map_set]

theorem isBox_nocap (o : AObj) : isBoxO (nocap o) = isBoxO o := by cases o <;> rfl

theorem after_norm {J : List Nat} {dst : Option Nat} {av : AV} {o0 : List AObj} : norm (afterC J s dst av o0) = afterC J (norm s) dst av (o0.map nocap) := by
  have e1 : ∀ ρ, nocap ∘ renO ρ = renO ρ ∘ nocap := fun ρ => funext fun o => nocap_ren o
  have e2 : ∀ p, nocap ∘ killO p = killO p ∘ nocap := fun p => funext fun o => nocap_kill o
  simp only [afterC, norm, List.map_append, setJ_map, List.length_map, hpGet_norm, isBox_nocap, List.map_map, List.map_drop, e1, e2]

/-- the calls that the interpreter makes are contracts -/
def CallOK (P : Program) (G : Glob) (call : CallT) : Prop := ∀ f args hp av o', call f args hp = some (av, o') → ∀ hp0, hp0.map nocap = hp → okF P f = true ∧ AC P G f args hp0 fun a o => a = av ∧ o.map nocap = o'

theorem keepO_nocap {p : Nat → Bool} (o : AObj) : keepO p (nocap o) = keepO p o := by cases o <;> rfl

theorem evCall_ok {call : CallT} (hcall : CallOK P G call) {dst : Option Nat} {f : FuncId} {avs : List AV} {st' : AS} (h : evCall call dst f avs (norm s) = some st') :
    ∃ (J : List Nat) (objs : List AObj) (av : AV) (o' : List AObj), okF P f = true ∧ AC P G f (avs.map (renV (idxN J))) objs (fun a o => a = av ∧ o.map nocap = o') ∧ J.Nodup ∧ objs.length = J.length ∧
      (∀ (t j : Nat) o, J[t]? = some j → objs[t]? = some o → s.hp[j]? = some (renO (jmap J s.hp.length) o)) ∧ avs = (avs.map (renV (idxN J))).map (renV (jmap J s.hp.length)) ∧
      ∀ a o, a = av ∧ o.map nocap = o' → norm (afterC J s dst a o) = st' := by
  unfold evCall at h
  simp only at h
  generalize reach (norm s).hp 2000 (avs.flatMap idsV) [] = J at h
  split at h
  · rename_i hok
    obtain ⟨⟨av, o'⟩, h1, h2⟩ := Option.map_eq_some_iff.1 h
    simp only [okJ, Bool.and_eq_true] at hok
    obtain ⟨⟨hnd, hobj⟩, hav⟩ := hok
    have hJ := fun j hj => List.all_eq_true.1 hobj j hj
    simp only [Bool.and_eq_true, decide_eq_true_eq, norm, List.length_map, hpGet_norm, keepO_nocap] at hJ
    obtain ⟨g1, g2⟩ := hcall _ _ _ _ _ h1 (J.map fun j => renO (idxN J) (hpGet s.hp j)) (by
      rw [List.map_map]
      exact List.map_congr_left (fun j _ => by simp only [Function.comp_apply, nocap_ren, norm, hpGet_norm]))
    refine ⟨J, _, av, o', g1, g2, (pairs_ok _ hnd).imp (fun h e => by simp [e] at h), by simp, fun t j o ht ho => ?_, ?_, fun a o hao => ?_⟩
    · rw [List.getElem?_map, ht] at ho
      simp at ho
      subst ho
      have hm := hJ j (List.mem_of_getElem? ht)
      rw [rtO _ hm.2, hpGet, List.getD_eq_getElem?_getD, List.getElem?_eq_getElem hm.1]
      rfl
    · rw [List.map_map]
      conv => lhs; rw [← List.map_id avs]
      exact List.map_congr_left (fun v hv => (rtV v (List.all_eq_true.1 hav v hv)).symm)
    · obtain ⟨rfl, rfl⟩ := hao
      rw [after_norm]; exact h2
  · cases h

theorem wants_ok {gd : Option (Nat × Bool)} {b : Bool} (h : wants G (norm s) gd = some b) : (b = true → gOK G s gd) ∧ (b = false → gNo G s gd) := by
  cases gd with
  | none => simp [wants] at h; subst h; exact ⟨fun _ => trivial, fun h => by cases h⟩
  | some q =>
    obtain ⟨g, c⟩ := q
    simp only [wants, norm] at h
    split at h
    · rename_i hv
      injection h with h; subst h
      exact ⟨fun h => by (cases h), fun _ => .inr hv⟩
    · obtain ⟨d, h1, h2⟩ := Option.map_eq_some_iff.1 h
      refine ⟨fun hb => ?_, fun hb => .inl ?_⟩
      · subst hb; simp at h2; subst h2; exact h1
      · subst hb; simp at h2; rw [h1]; cases c <;> cases d <;> simp_all

theorem WR.cons {o : AOp} {rest : List AOp} (h : WR P G k [o] (fun s => WR P G k rest Q s) s) : WR P G k (o :: rest) Q s := by
  intro opsA l hc F γ a w hi hs hg hk QE hq
  obtain ⟨oper, l', rfl, h1, h2, h3, h4⟩ := compile_cons hc
  have hc1 : compileOps P opsA [oper] = some [o] := by
    simp [compileOps, compileOpr, h1, h2, h3]
  have := h opsA [oper] hc1 F γ a w hi hs hg hk (fun e a w => match e with | .normal => wpList P opsA QE l' a w | e => QE e a w)
    (fun a' w' F' γ' s' hR hE hI hS hk' => hR opsA l' h4 F' γ' a' w' hI hS (hg.sub hE.sub) hk' QE (fun a'' w'' F'' γ'' s'' q1 q2 q3 q4 q5 => hq a'' w'' F'' γ'' s'' q1 (hE.trans q2) q3 q4 q5))
  simp only [wpList] at this ⊢
  split
  · rename_i hw
    rw [if_pos hw] at this
    rcases this with h1 | ⟨h1, a', w', h2⟩
    · exact .inl (wpQ (fun e a w hne h => by cases e <;> first | exact absurd rfl hne | exact h) h1)
    · exact .inr ⟨h1, a', w', h2⟩
  · rename_i hw
    rw [if_neg hw] at this
    exact this

theorem evOp_ok {call : CallT} (hcall : CallOK P G call) {o : AOp} {st' : AS} (hg : gOK G s o.guard) (h : evOp call G o (norm s) = some st') (hK : ∀ s', norm s' = st' → K s') : WR P G k [o] K s := by
  refine WR.guard hg rfl ?_
  unfold evOp at h
  split at h
  · rename_i f args hai
    rw [hai]
    obtain ⟨s1, hgh, hn⟩ := frzIds_ok (k := k) (args.flatMap fun x => bldsOf (evA G (norm s).sl x)) s
    simp only at h
    rw [← hn] at h
    obtain ⟨J, objs, av, o', g1, g2, g3, g4, g5, g6, g7⟩ := evCall_ok hcall h
    refine WR.ghost hgh (WR.call (o := ⟨o.dst, .call f args, none⟩) trivial rfl g2 g3 g4 g5 g6 (fun a o hao => WR.nil (hK _ (g7 a o hao))))
  · rename_i x args hai
    rw [hai]
    obtain ⟨s1, hgh, hn⟩ := frzIds_ok (k := k) (args.flatMap fun x => bldsOf (evA G (norm s).sl x)) s
    simp only at h
    rw [← hn] at h
    split at h
    · rename_i f caps hx
      obtain ⟨J, objs, av, o', g1, g2, g3, g4, g5, g6, g7⟩ := evCall_ok hcall h
      exact WR.ghost hgh (WR.callv (o := ⟨o.dst, .callv x args, none⟩) trivial rfl hx g1 g2 g3 g4 g5 g6 (fun a o hao => WR.nil (hK _ (g7 a o hao))))
    · cases h
  · rename_i size len zero ps hai
    obtain ⟨s1, hgh, hn⟩ := frzIds_ok (k := k) (ps.flatMap fun p => bldsOf (evA G (norm s).sl p.2)) s
    rw [← hn] at h
    exact WR.ghost hgh (EffI.run (o := ⟨o.dst, o.ai, none⟩) trivial (evI_eff h hK))
  · exact EffI.run (o := ⟨o.dst, o.ai, none⟩) trivial (evI_eff h hK)

theorem evOps_ok {call : CallT} (hcall : CallOK P G call) : ∀ (ops : List AOp) (s : AS) (st' : AS), evOps call G ops (norm s) = some st' → WR P G k ops (fun s' => norm s' = st') s
  | [], s, st', h => by simp [evOps] at h; exact WR.nil h
  | o :: l, s, st', h => by
    simp only [evOps] at h
    obtain ⟨b, hb, h⟩ := Option.bind_eq_some_iff.1 h
    have hw := wants_ok hb
    split at h
    · rename_i hbt
      split at h
      · obtain ⟨v, hv, h⟩ := Option.bind_eq_some_iff.1 h
        rw [fP_eq] at h
        rw [evF_eq, evP_norm] at hv
        exact WR.pur (hw.1 hbt) hv (evOps_ok hcall l ⟨putS s.sl o.dst v, s.hp⟩ st' h)
      · obtain ⟨s1, h1, h⟩ := Option.bind_eq_some_iff.1 h
        rw [fS_eq] at h
        exact WR.cons (evOp_ok hcall (hw.1 hbt) h1 (fun s' hs' => evOps_ok hcall l s' st' (by rw [hs']; exact h)))
    · rename_i hbf
      rw [fP_eq] at h
      exact WR.skip (hw.2 (by simpa using hbf)) (evOps_ok hcall l ⟨putS s.sl o.dst (.tup []), s.hp⟩ st' h)

mutual
theorem rnC {ρ : Nat → Nat} : (c : Cel) → c.keep (fun _ => true) = true → renC ρ c = c
  | .ptr id o, h => by simp [Cel.keep] at h
  | .bld id o, h => by simp [Cel.keep] at h
  | .ept id i z o, h => by simp [Cel.keep] at h
  | .bls id i z o, h => by simp [Cel.keep] at h
  | .fn f caps, h => by simp only [renC, rnL caps (by simpa [Cel.keep] using h)]
  | .dc d, h => rfl
  | .ref cs, h => rfl
  | .mpc es, h => rfl
  | .junk, h => rfl
theorem rnL {ρ : Nat → Nat} : (cs : List Cel) → keepL (fun _ => true) cs = true → renL ρ cs = cs
  | [], h => rfl
  | c :: cs, h => by
    simp only [keepL, Bool.and_eq_true] at h
    simp only [renL, rnC c h.1, rnL cs h.2]
end
theorem rnT {ρ : Nat → Nat} (t : TV) (h : keepT (fun _ => true) t = true) : renT ρ t = t := by
  cases t with
  | one c => simp only [renT, rnC c h]
  | agg cs => simp only [renT, ← renL_map, rnL cs h]
theorem rnV {ρ : Nat → Nat} (v : AV) (h : keepV (fun _ => true) v = true) : renV ρ v = v := by
  cases v with
  | one c => simp only [renV, rnC c h]
  | agg cs => simp only [renV, ← renL_map, rnL cs h]
  | tup l =>
    simp only [renV]
    congr 1
    conv => rhs; rw [← List.map_id l]
    exact List.map_congr_left (fun t ht => rnT t (List.all_eq_true.1 h t ht))
  | junk => rfl

theorem keepL_all {p : Nat → Bool} : ∀ (cs : List Cel), keepL p cs = true → cs.map (killC p) = cs
  | [], _ => rfl
  | c :: cs, h => by
    simp only [keepL, Bool.and_eq_true] at h
    rw [List.map_cons, keepL_all cs h.2]
    simp [killC, h.1]
theorem killV_keep {p : Nat → Bool} {v : AV} (h : keepV p v = true) : killV p v = v := by
  cases v with
  | one c => simp only [keepV] at h; simp [killV, killC, h]
  | agg cs => simp only [killV, keepL_all cs h]
  | tup l =>
    simp only [killV]
    congr 1
    conv => rhs; rw [← List.map_id l]
    exact List.map_congr_left (fun t ht => by
      have := List.all_eq_true.1 h t ht
      cases t with
      | one c => simp only [keepT] at this; simp [killT, killC, this]
      | agg cs => simp only [killT, keepL_all cs this, id_eq])
  | junk => rfl
theorem killO_keep {p : Nat → Bool} {o : AObj} (h : keepO p o = true) : killO p o = o := by
  cases o with
  | box cs => simp only [killO, keepL_all cs h]
  | _ => rfl

theorem AC.gh {f : FuncId} {args : List AV} {objs : List AObj} {R R' : AV → List AObj → Prop} (h : AC P G f args objs R)
    (hq : ∀ av o, R av o → objs.length ≤ o.length → ∃ av' o', Gh objs.length ⟨[av], o⟩ ⟨[av'], o'⟩ ∧ objs.length ≤ o'.length ∧ R' av' o') : AC P G f args objs R' := by
  intro F γ vs w hi hg hv
  refine (h F γ vs w hi hg hv).mono ?_
  rintro e w' ⟨r, av, o, F', γ', rfl, hQ, hl, hE, hI, hR⟩
  obtain ⟨av', o', hgh, hl', hq'⟩ := hq av o hQ hl
  obtain ⟨F'', γ'', hE2, hI2, hS2, hk2⟩ := hgh F' γ' { tmps := #[r], defers := [] } w' hI ⟨rfl, rfl, fun i a v h1 h2 => by
    cases i with
    | zero => simp at h1 h2; subst h1; subst h2; exact hR
    | succ i => simp at h1⟩ (by rw [hI.len]; exact hl)
  exact ⟨r, av', o', F'', γ'', rfl, hq', hl', hE.trans hE2, hI2, hS2.2.2 0 av' r rfl rfl⟩

theorem frzIds_len : ∀ (ids : List Nat) (st : AS), (frzIds ids st).sl.length = st.sl.length
  | [], st => rfl
  | id :: r, st => by
    simp only [frzIds]
    split
    · rw [frzIds_len r]; simp
    · exact frzIds_len r st

theorem evQ_ok {call : CallT} (hcall : CallOK P G call) {o : AOp} {v : AV} (h : evQ call G o (norm s) = some v) :
    ∃ f args cargs r, o.ai = .call f args ∧ QC P G f cargs r ∧ ∀ n, args.map (evA G s.sl) = cargs.map (renV (jmap [] n)) ∧ v = renV (jmap [] n) r := by
  unfold evQ at h
  split at h
  · rename_i f args hai
    split at h
    · rename_i hka
      obtain ⟨⟨av, o'⟩, h1, h⟩ := Option.bind_eq_some_iff.1 h
      simp only at h
      split at h
      · rename_i hkv
        injection h with h
        obtain ⟨_, g2⟩ := hcall _ _ _ _ _ h1 [] rfl
        refine ⟨f, args, args.map (evA G s.sl), v, hai, g2.gh (fun a o ⟨h3, h4⟩ _ => ?_), fun n => ⟨?_, ?_⟩⟩
        · subst h3
          obtain ⟨s1, hgh, hn⟩ := frzIds_ok (k := 0) (idsV a) ⟨[a], o⟩
          have hn' : norm s1 = frzIds (idsV a) ⟨[a], o'⟩ := by rw [hn]; simp only [norm, h4]
          have hlen : s1.sl.length = 1 := by
            have := congrArg (fun q => q.sl.length) hn'
            simp only [norm, frzIds_len] at this
            simpa using this
          obtain ⟨y, hy⟩ := List.length_eq_one_iff.1 hlen
          have hgd := Gh.drop (k := 0) (as := s1) 0 (Nat.le_refl _)
          refine ⟨v, [], ?_, Nat.zero_le _, rfl, rfl⟩
          have hv : v = killV (fun id => decide (0 ≤ id)) y := by
            rw [← h, ← hn']
            simp [norm, hy]
          have := hgh.trans hgd
          rw [hy] at this
          simpa [hv] using this
        · conv => lhs; rw [← List.map_id (args.map (evA G s.sl))]
          exact List.map_congr_left (fun x hx => (rnV x (List.all_eq_true.1 hka x hx)).symm)
        · exact (rnV v (by rw [← h]; exact hkv)).symm
      · cases h
    · cases h
  · cases h

theorem evD_ok {call : CallT} (hcall : CallOK P G call) : ∀ (ops : List (Bool × AOp)) (s : AS) (st' : AS), evD call G ops (norm s) = some st' → AWL P G k (fun s' => norm s' = st') ops s
  | [], s, st', h => by simp [evD] at h; exact h
  | (true, o) :: l, s, st', h => by
    simp only [evD] at h
    obtain ⟨c, hc, h⟩ := Option.bind_eq_some_iff.1 h
    have hw := wants_ok hc
    cases c with
    | true =>
      simp only [if_true] at h
      obtain ⟨v, hv, h⟩ := Option.bind_eq_some_iff.1 h
      rw [fP_eq] at h
      refine ⟨v, .inr ⟨hw.1 rfl, ?_⟩, evD_ok hcall l ⟨putS s.sl o.dst v, s.hp⟩ st' h⟩
      split at hv
      · have e : (⟨(norm s).sl, qhp o.ai (norm s).hp⟩ : AS) = norm ⟨s.sl, qhp o.ai s.hp⟩ := by cases o.ai <;> rfl
        rw [evF_eq, e, evP_norm] at hv; exact .inl hv
      · exact .inr (evQ_ok hcall hv)
    | false =>
      simp only [Bool.false_eq_true, if_false, fP_eq] at h
      exact WD.skip (hw.2 rfl) (evD_ok hcall l ⟨putS s.sl o.dst (.tup []), s.hp⟩ st' h)
  | (false, o) :: l, s, st', h => by
    simp only [evD] at h
    obtain ⟨c, hc, h⟩ := Option.bind_eq_some_iff.1 h
    have hw := wants_ok hc
    cases c with
    | true =>
      simp only [if_true, Bool.false_eq_true, if_false] at h
      obtain ⟨s1, h1, h⟩ := Option.bind_eq_some_iff.1 h
      rw [fS_eq] at h
      have hK : ∀ s', norm s' = s1 → AWL P G k (fun s' => norm s' = st') l s' := fun s' hs' => evD_ok hcall l s' st' (by rw [hs']; exact h)
      split at h1
      · rename_i f args hai
        obtain ⟨v, hv, h2⟩ := Option.map_eq_some_iff.1 h1
        obtain ⟨f', args', cargs, r, g1, g2, g3⟩ := evQ_ok hcall hv
        refine .inr ⟨hw.1 rfl, ?_⟩
        rw [g1]
        refine ⟨_, CallA.of g2 (g3 _).1, ⟨_, _, r, [], ⟨rfl, rfl⟩, rfl, rfl⟩, ?_⟩
        rintro av os ⟨av0, os0, ⟨rfl, rfl⟩, rfl, rfl⟩
        rw [← (g3 s.hp.length).2]
        refine hK _ ?_
        rw [← h2]
        simp [norm]
      · rename_i x args hai
        exact WD.any (hw.1 rfl) (by rw [hai]; trivial) (evOp_ok hcall (o := ⟨o.dst, o.ai, none⟩) trivial h1 hK)
      · exact .inr ⟨hw.1 rfl, evI_eff h1 hK⟩
    | false =>
      simp only [Bool.false_eq_true, if_false, fP_eq] at h
      exact WD.skip (hw.2 rfl) (evD_ok hcall l ⟨putS s.sl o.dst (.tup []), s.hp⟩ st' h)

theorem AWL.mono {R R' : AS → Prop} (hr : ∀ s, R s → R' s) : ∀ (ops : List (Bool × AOp)) (s : AS), AWL P G k R ops s → AWL P G k R' ops s
  | [], s, h => hr s h
  | (true, o) :: l, s, h => by obtain ⟨v, hv, h⟩ := h; exact ⟨v, hv, AWL.mono hr l _ h⟩
  | (false, o) :: l, s, h => Eff.mono (fun s' h' => AWL.mono hr l s' h') h

theorem retV_norm {rs : List RetV} : retV (norm s) rs = retV s rs := by
  have h1 : ∀ r, retOne (norm s) r = retOne s r := by
    intro r
    cases r <;> simp only [retOne, norm, loadV_norm]
  have h2 : retOne (norm s) = retOne s := funext h1
  unfold retV
  split <;> simp only [h2]

/-- the table holds the program's functions -/
def TOK (P : Program) (T : Tbl) : Prop := ∀ f c rs nt, T f = some (c, rs, nt) → okF P f = true ∧ ∃ fn, P.funcs[f]? = some fn ∧ fn.ntmps = nt ∧ fn.body.bind (compileC P) = some c ∧ fn.results.toList.mapM (retOf P) = some rs

theorem callF_ok {T : Tbl} {run : ACode → AS → Option (Exit × AS)} (hT : TOK P T) (hrun : ∀ c s e st', run c (norm s) = some (e, st') → ∀ k, AW P G k c (fun e' s' => e' = e ∧ norm s' = st') s) : CallOK P G (callF T run) := by
  intro f args hp av o' h hp0 hhp
  subst hhp
  unfold callF at h
  split at h
  · rename_i c rs nt hTf
    obtain ⟨ho, fn, g1, g2, g3, g4⟩ := hT f c rs nt hTf
    refine ⟨ho, ?_⟩
    obtain ⟨⟨e, s1⟩, h1, h⟩ := Option.bind_eq_some_iff.1 h
    simp only at h
    split at h
    · rename_i hend
      simp only [Bool.and_eq_true, decide_eq_true_eq, List.length_map] at hend
      obtain ⟨v, h2, h⟩ := Option.map_eq_some_iff.1 h
      have hA : AC P G f args hp0 (fun a o => a = v ∧ o.map nocap = s1.hp) := by
        refine AC.of_code g1 g2 g3 g4 ((hrun c ⟨args ++ List.replicate (nt - args.length) .junk, hp0⟩ e s1 (by simpa [norm] using h1) hp0.length).mono ?_)
        rintro e' s' ⟨rfl, rfl⟩
        refine ⟨?_, by simpa [norm] using hend.2, v, by rw [← retV_norm]; exact h2, rfl, rfl⟩
        cases e' <;> simp [isEnd] at hend ⊢
      split at h
      · rename_i hkeep
        injection h with h3 h4
        subst h3
        simp only [Bool.and_eq_true, List.length_map] at hkeep
        refine hA.gh (fun a o ⟨q1, q2⟩ hl => ?_)
        subst q1
        refine ⟨a, o.take hp0.length, ?_, by simp only [List.length_take]; omega, rfl, ?_⟩
        · have := Gh.drop (k := hp0.length) (as := ⟨[a], o⟩) hp0.length (Nat.le_refl _)
          have e1 : (o.take hp0.length).map (killO fun id => decide (hp0.length ≤ id)) = o.take hp0.length := by
            conv => rhs; rw [← List.map_id (o.take hp0.length)]
            refine List.map_congr_left (fun x hx => killO_keep ?_)
            have := List.all_eq_true.1 hkeep.2 (nocap x) (by rw [← q2, ← List.map_take]; exact List.mem_map.2 ⟨x, hx, rfl⟩)
            rwa [keepO_nocap] at this
          simpa [killV_keep hkeep.1, e1] using this
        · rw [← h4, List.map_take, q2, List.length_map]
      · injection h with h3 h4
        subst h3; subst h4
        exact hA
    · cases h
  · cases h

theorem evC_ok {T : Tbl} (hT : TOK P T) : ∀ (n : Nat) (c : ACode) (s : AS) (e : Exit) (st' : AS), evC G T n c (norm s) = some (e, st') → ∀ k, AW P G k c (fun e' s' => e' = e ∧ norm s' = st') s := by
  intro n
  induction n using Nat.strongRecOn with
  | ind n0 ihs =>
    intro c s e st' h k
    cases n0 with
    | zero => simp [evC] at h
    | succ n =>
    have ih := ihs n (Nat.lt_succ_self n)
    have hcall : CallOK P G (callF T (evC G T n)) := callF_ok hT ih
    cases c with
    | bad => simp only [evC] at h; cases h
    | drawnF prs ops => simp only [evC] at h; cases h
    | skip => simp only [evC, Option.some.injEq, Prod.mk.injEq] at h; obtain ⟨rfl, rfl⟩ := h; exact AW.skip ⟨rfl, rfl⟩
    | ret => simp only [evC, Option.some.injEq, Prod.mk.injEq] at h; obtain ⟨rfl, rfl⟩ := h; exact AW.ret ⟨rfl, rfl⟩
    | exit id => simp only [evC, Option.some.injEq, Prod.mk.injEq] at h; obtain ⟨rfl, rfl⟩ := h; exact AW.exit ⟨rfl, rfl⟩
    | region ops =>
      simp only [evC] at h
      obtain ⟨s1, h1, h2⟩ := Option.map_eq_some_iff.1 h
      injection h2 with h2 h3
      subst h2; subst h3
      exact AW.region ((evOps_ok hcall ops s s1 h1).mono (fun s' h => ⟨rfl, h⟩))
    | drawn ops =>
      simp only [evC] at h
      obtain ⟨s1, h1, h2⟩ := Option.map_eq_some_iff.1 h
      injection h2 with h2 h3
      subst h2; subst h3
      exact AW.drawn (AWL.mono (fun s' h => ⟨rfl, h⟩) _ _ (evD_ok hcall ops s s1 h1))
    | seq a b =>
      simp only [evC] at h
      obtain ⟨⟨e1, s1⟩, h1, h2⟩ := Option.bind_eq_some_iff.1 h
      refine AW.seq ((ih a s e1 s1 h1 k).mono ?_)
      rintro e' s' ⟨rfl, rfl⟩
      cases e' with
      | normal => exact ih b s' e st' h2 k
      | _ => simp only [Option.some.injEq, Prod.mk.injEq] at h2; obtain ⟨rfl, rfl⟩ := h2; exact ⟨rfl, rfl⟩
    | cond c a b =>
      simp only [evC] at h
      obtain ⟨t, h1, h2⟩ := Option.bind_eq_some_iff.1 h
      refine AW.cond h1 (fun ht => ?_) (fun ht => ?_)
      · subst ht; exact ih a s e st' h2 k
      · subst ht; exact ih b s e st' h2 k
    | block id a =>
      simp only [evC] at h
      obtain ⟨⟨e1, s1⟩, h1, h2⟩ := Option.map_eq_some_iff.1 h
      refine AW.block ((ih a s e1 s1 h1 k).mono ?_)
      rintro e' s' ⟨rfl, rfl⟩
      cases e' with
      | exit id' =>
        simp only at h2 ⊢
        split at h2
        · rename_i heq
          injection h2 with h2 h3
          subst h2; subst h3
          rw [if_pos heq]; exact ⟨rfl, rfl⟩
        · rename_i heq
          injection h2 with h2 h3
          subst h2; subst h3
          rw [if_neg heq]; exact ⟨rfl, rfl⟩
      | _ => simp only [Prod.mk.injEq] at h2; obtain ⟨rfl, rfl⟩ := h2; exact ⟨rfl, rfl⟩
    | loop a =>
      refine AW.loop (α := Nat) (fun m s' => m ≤ n + 1 ∧ evC G T m (.loop a) (norm s') = some (e, st')) id (n + 1) ⟨Nat.le_refl _, h⟩ (fun m s' hm => ?_)
      obtain ⟨hm, hI⟩ := hm
      cases m with
      | zero => simp [evC] at hI
      | succ m =>
        simp only [evC] at hI
        obtain ⟨⟨e1, s1⟩, h1, h2⟩ := Option.bind_eq_some_iff.1 hI
        refine (ihs m (by omega) a s' e1 s1 h1 k).mono ?_
        rintro e' s'' ⟨rfl, rfl⟩
        cases e' with
        | normal => exact ⟨m, ⟨by omega, h2⟩, by simp⟩
        | _ => simp only [Option.some.injEq, Prod.mk.injEq] at h2; obtain ⟨rfl, rfl⟩ := h2; exact ⟨rfl, rfl⟩
end
end
section

/-- a call whose result becomes data -/
def quietCall (call : CallT) (f : FuncId) (args : List AV) : Option AV :=
  (call f args []).bind fun r =>
    let v := killV (fun id => decide (0 ≤ id)) ((frzIds (idsV r.1) ⟨[r.1], r.2⟩).sl.getD 0 .junk)
    if keepV (fun _ => true) v then some v else none

section
variable {P : Program} {G : Glob} {k : Nat}

theorem QC.quiet {call : CallT} (hcall : CallOK P G call) {f : FuncId} {args : List AV} {v : AV} (h : quietCall call f args = some v) : QC P G f args v := by
  unfold quietCall at h
  obtain ⟨⟨av, o'⟩, h1, h⟩ := Option.bind_eq_some_iff.1 h
  simp only at h
  split at h
  · rename_i hkv
    injection h with h
    obtain ⟨_, g2⟩ := hcall _ _ _ _ _ h1 [] rfl
    refine g2.gh (fun a o ⟨h3, h4⟩ _ => ?_)
    subst h3
    obtain ⟨s1, hgh, hn⟩ := frzIds_ok (k := 0) (idsV a) ⟨[a], o⟩
    have hn' : norm s1 = frzIds (idsV a) ⟨[a], o'⟩ := by rw [hn]; simp only [norm, h4]
    have hlen : s1.sl.length = 1 := by
      have := congrArg (fun q => q.sl.length) hn'
      simp only [norm, frzIds_len] at this
      simpa using this
    obtain ⟨y, hy⟩ := List.length_eq_one_iff.1 hlen
    have hgd := Gh.drop (k := 0) (as := s1) 0 (Nat.le_refl _)
    refine ⟨v, [], ?_, Nat.zero_le _, rfl, rfl⟩
    have hv : v = killV (fun id => decide (0 ≤ id)) y := by
      rw [← h, ← hn']
      simp [norm, hy]
    have := hgh.trans hgd
    rw [hy] at this
    simpa [hv] using this
  · cases h

theorem QC.run {T : Tbl} (hT : TOK P T) (n : Nat) {f : FuncId} {args : List AV} {v : AV} (h : quietCall (callF T (evC G T n)) f args = some v) : QC P G f args v :=
  QC.quiet (callF_ok hT (evC_ok hT n)) h

end
end
section
open Go.ChangeShapes Go.WideShapes Go.ChangeAt Go.RowKit
section
variable {H : Type} {enc : TypeId × Value → H} {P : Program} {G : Glob}

/-- the world as it stands, all of it data -/
def allF (W : World) : Fz := fun b => W.heap[b]?

theorem inv_all (W : World) : Inv (allF W) [] [] W := ⟨fun _ _ h => h, rfl, fun i _ _ h => by simp [blkAt] at h, fun i _ h => by simp [blkAt] at h, fun i _ _ h => by simp at h⟩

theorem below_ext {W W' : World} {k : Nat} {F' : Fz} {γ' : List OI} (h : Ext k (allF W) [] W F' γ' W') : Below W.heap.size W W' :=
  ⟨h.os, h.tape, h.output, h.size, fun b hb => h.far b hb (fun i h => by simp [blkAt] at h)⟩

theorem law_calls {f : FuncId} {avs : List AV} {args : Array Value} {W : World} (hq : QC P G f avs (vb true)) (hg : GlobOK (allF W) G) (ha : argsOK (allF W) [] avs args) :
    Calls P f args W fun e W' => e = .returned (.bool true) ∧ Below W.heap.size W W' := by
  refine (hq (allF W) [] args W (inv_all W) hg ha).mono ?_
  rintro e W' ⟨r, av, o, F', γ', rfl, ⟨rfl, rfl⟩, _, hE, hI, hR⟩
  exact ⟨by rw [rv_raw hR], below_ext hE⟩

theorem trodAll_stays (hl : laidOutB P = true) {W W' : World} {sp' : Nat → Bool} : ∀ {ts : List TypeId} {vs : List Value} {ds : List (DataW H)} {ps : List MemPlace}, (∀ t ∈ ts, P.readableRec t = true ∧ t < P.types.size) →
    DataW.TrodAll enc P W 0 (fun _ => true) true ts vs ds ps → (∀ x ∈ ps, W.sameAt W' x) → (∀ x ∈ ps, sp' x.block = true) → DataW.TrodAll enc P W' 0 sp' true ts vs ds ps
  | [], vs, ds, ps, _, h, _, _ => by
    obtain ⟨rfl, rfl, rfl⟩ := trodAll_nil h
    exact h
  | t :: ts, vs, ds, ps, ht, h, hs, hp => by
    obtain ⟨v, vs', d, ds', p, q, rfl, rfl, rfl, h1, h2⟩ := trodAll_cons h
    exact ⟨p, q, WideElems.Trod_stays hl (ht t List.mem_cons_self).1 (ht t List.mem_cons_self).2 h1 (fun x hx => hs x (List.mem_append_left _ hx)) (fun x hx => hp x (List.mem_append_left _ hx)),
      trodAll_stays hl (fun t h => ht t (List.mem_cons_of_mem _ h)) h2 (fun x hx => hs x (List.mem_append_right _ hx)) (fun x hx => hp x (List.mem_append_right _ hx)), rfl⟩

/-- WHAT A LAW'S ROW ASKS OF A CALL that gives true and turns nothing that was there. -/
theorem post_true {f : Func} {s : ChangeSpec} {apart fresh handsOn again : Bool} {W W' : World} {args : Array Value} {ds gs : List (DataW H)} {before : List MemPlace} {tb : TypeId}
    (hl : laidOutB P = true) (hts : ∀ t ∈ f.params.toList, P.readableRec t = true ∧ t < P.types.size) (hvs : s.vars = []) (hrt : f.resultTypes = #[tb]) (htb : P.underlying tb = some .bool)
    (hW : DataW.Whole enc P f.params.toList s.vars apart W args.toList ds gs before) (hs : s.fn H (ds ++ gs) = { results := [.lit (.bool true)], args := ds }) (hb : Below W.heap.size W W') : s.post enc P f apart fresh handsOn again W args (.bool true) W' := by
  have hlt := fun p hp => hW.lt (p := p) hp
  have hW' := hW
  obtain ⟨p, q, hA, hV, hps, hz, hn⟩ := hW
  rw [hvs] at hV
  obtain ⟨rfl, rfl⟩ := trodVars_none hV
  have hpb : before = p := by simpa using hps
  subst hpb
  have hsame : ∀ x ∈ before, W.sameAt W' x := fun x hx => hb.same (hlt x hx)
  have hargs : ∀ sp : Nat → Bool, (∀ p ∈ before, sp p.block = true) → DataW.TrodAll enc P W' 0 sp true f.params.toList args.toList (s.fn H (ds ++ [])).args before := fun sp hsp => by
    rw [hs]; exact trodAll_stays hl hts hA hsame hsp
  have hres : ∀ (b : Nat) (sp : Nat → Bool) (hd : Bool), DataW.TrodAll enc P W' b sp hd f.resultTypes.toList ((Value.bool true).resultList f.resultTypes.size) (s.fn H (ds ++ [])).results [] := fun b sp hd => by
    rw [hs, hrt]; exact trodAll_mk1 (shut_bool htb true)
  have hold : ∀ p ∈ before, (fun b => decide (b < W.heap.size)) p.block = true := fun p hp => by simpa using hlt p hp
  have hvars : ∀ sp : Nat → Bool, DataW.TrodVars enc P W' sp s.vars (s.fn H (ds ++ [])).vars [] := fun sp => by
    rw [hs, hvs]; first | rfl | trivial | exact ⟨rfl, rfl⟩
  refine ⟨ds, [], before, [], before, [], hW', hres _ _ _, hargs _ hold, hvars _, hb.frame _, fun _ => ?_⟩
  refine ⟨?_, _, _, ([] ++ before) ++ [], ⟨[] ++ before, [], trodAll_append (hargs _ (fun _ _ => rfl)) (hres _ _ _), hvars _, rfl, ?_, ?_⟩, ?_⟩
  · exact ok_one hrt rfl (by simp [Value.okWide, htb, Cell.okWide, Cell.ok])
  · intro b off hp
    have h1 := hz b off (by simpa using hp)
    have h2 := hsame (.cell b off) (by simpa using hp)
    have h3 := hb.block b (hlt (.cell b off) (by simpa using hp))
    simp only [World.frozen?] at h1 ⊢
    rw [h3]; exact h1
  · intro ha
    simpa using hn ha
  · intro p hp _
    simpa using hp
end
end
end Go.Proofs.YtmognenhkecngaaGreatDoor
