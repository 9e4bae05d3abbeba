/- The operations that make or change memory, over the abstract states. Conditions: none. -/
import Derived.Test.YtmognenhkecngaaGreatDoorLh
namespace Go.Proofs.YtmognenhkecngaaGreatDoor
def kindAI : AI → Nat
  | .alloc _ => 1 | .box _ => 2 | .store _ _ _ => 3 | .bslc _ _ _ _ => 4 | .call _ _ => 5 | .callv _ _ => 6 | .app _ _ _ _ _ => 7 | .apps _ _ => 8 | .mk _ _ _ _ _ => 9 | .clr _ _ _ => 10 | .isnil _ _ _ => 11 | .cpys _ _ => 12 | .cvsb _ => 13 | _ => 0
def kindOp : Op → List Nat
  | .alloc _ => [1] | .box _ _ => [2] | .store _ _ _ => [3] | .buildSlice _ _ _ => [4] | .makeSlice _ _ _ => [9] | .binOp _ _ _ _ _ => [0, 11] | .convert _ _ _ => [0, 13]
  | .call c => match c.callee with
    | .value (.func _) => [5]
    | .value _ => [6]
    | .builtin .append => [7, 8]
    | .builtin .clear => [10]
    | .builtin .copy => [12]
    | _ => [0]
  | _ => [0]
theorem kind_ok {P : Program} {o : Oper} {ai : AI} (hc : compileOp P o = some ai) : kindAI ai ∈ kindOp o.op := by
  obtain ⟨dst, op, type, pos, after, guard⟩ := o
  unfold compileOp at hc
  cases op
  case makeFunc fn a b =>
    cases fn <;> simp only [reduceCtorEq] at hc
    split at hc
    · cases hc; simp [kindOp, kindAI]
    · cases hc
  all_goals simp only [reduceCtorEq] at hc
  all_goals try unfold compileBin at hc
  all_goals try unfold compileNil at hc
  all_goals try unfold compileConv at hc
  all_goals try unfold compileCall at hc
  all_goals repeat' (first | (obtain ⟨_, _, hc⟩ := hc) | split at hc | (simp only [Option.bind_eq_some_iff, Option.map_eq_some_iff] at hc))
  all_goals first | (simp [kindOp, kindAI]; done) | (simp [kindOp, kindAI, *]; done) | contradiction | (cases hc; done) | (simp [kindOp, kindAI, *]; done) | (injection hc with hc; subst hc; simp [kindOp, kindAI, *]; done) | (subst hc; simp [kindOp, kindAI, *]; done)

theorem kind_of {P : Program} {o : Oper} {ai : AI} {n : Nat} (hc : compileOp P o = some ai) (hn : kindAI ai = n) : n ∈ kindOp o.op := hn ▸ kind_ok hc

theorem op_alloc {op : Op} (h : 1 ∈ kindOp op) : ∃ e, op = .alloc e := by
  cases op <;> first | (exact ⟨_, rfl⟩) | (simp [kindOp] at h; done) | (simp only [kindOp] at h; repeat' split at h) <;> simp at h
theorem op_box {op : Op} (h : 2 ∈ kindOp op) : ∃ e x, op = .box e x := by
  cases op <;> first | (exact ⟨_, _, rfl⟩) | (simp [kindOp] at h; done) | (simp only [kindOp] at h; repeat' split at h) <;> simp at h
theorem op_store {op : Op} (h : 3 ∈ kindOp op) : ∃ e x y, op = .store e x y := by
  cases op <;> first | (exact ⟨_, _, _, rfl⟩) | (simp [kindOp] at h; done) | (simp only [kindOp] at h; repeat' split at h) <;> simp at h
theorem op_bslc {op : Op} (h : 4 ∈ kindOp op) : ∃ e x y, op = .buildSlice e x y := by
  cases op <;> first | (exact ⟨_, _, _, rfl⟩) | (simp [kindOp] at h; done) | (simp only [kindOp] at h; repeat' split at h) <;> simp at h
theorem op_mk {op : Op} (h : 9 ∈ kindOp op) : ∃ e x y, op = .makeSlice e x y := by
  cases op <;> first | (exact ⟨_, _, _, rfl⟩) | (simp [kindOp] at h; done) | (simp only [kindOp] at h; repeat' split at h) <;> simp at h
theorem op_isnil {op : Op} (h : 11 ∈ kindOp op) : ∃ b t x y u, op = .binOp b t x y u := by
  cases op <;> first | (exact ⟨_, _, _, _, _, rfl⟩) | (simp [kindOp] at h; done) | (simp only [kindOp] at h; repeat' split at h) <;> simp at h
theorem op_cvsb {op : Op} (h : 13 ∈ kindOp op) : ∃ s d x, op = .convert s d x := by
  cases op <;> first | (exact ⟨_, _, _, rfl⟩) | (simp [kindOp] at h; done) | (simp only [kindOp] at h; repeat' split at h) <;> simp at h
theorem op_cpys {op : Op} (h : 12 ∈ kindOp op) : ∃ c, op = .call c ∧ c.callee = .builtin .copy := by
  cases op <;> first | (simp [kindOp] at h; done) | skip
  rename_i c
  refine ⟨c, rfl, ?_⟩
  simp only [kindOp] at h
  split at h <;> simp_all
theorem op_clr {op : Op} (h : 10 ∈ kindOp op) : ∃ c, op = .call c ∧ c.callee = .builtin .clear := by
  cases op <;> first | (simp [kindOp] at h; done) | skip
  rename_i c
  refine ⟨c, rfl, ?_⟩
  simp only [kindOp] at h
  split at h <;> simp_all
theorem op_call {op : Op} (h : 5 ∈ kindOp op ∨ 6 ∈ kindOp op ∨ 7 ∈ kindOp op ∨ 8 ∈ kindOp op) : ∃ c, op = .call c := by
  cases op <;> first | (exact ⟨_, rfl⟩) | (simp [kindOp] at h; done)

section
variable {P : Program} {G : Glob} {k : Nat} {Q : AS → Prop} {as as' : AS} {o : AOp} {rest ops : List AOp} {F : Fz} {γ : List OI} {w : World}

theorem RCs.ext {F' : Fz} {γ' : List OI} {cs : List Cel} {vs : Array Value} (h : RCs F γ cs vs) (hs : F.sub F') (hg : ∀ (id : Nat) (o : OI), γ[id]? = some o → γ'[id]? = some o) : RCs F' γ' cs vs :=
  ⟨h.1, fun i c v h1 h2 => (h.2 i c v h1 h2).ext hs hg⟩

theorem push_box (hi : Inv F γ as.hp w) {a : Act} (hs : Slots F γ as.sl a) (hk : k ≤ γ.length) {cs : List Cel} {vs : Array Value} {T : TypeId} (h : RCs F γ cs vs) (dst : Option Nat) :
    Ext k F γ w F (γ ++ [.box w.heap.size]) (pushW w (.cells vs T)) ∧ Inv F (γ ++ [.box w.heap.size]) (as.hp ++ [.box cs]) (pushW w (.cells vs T)) ∧
    Slots F (γ ++ [.box w.heap.size]) (putS as.sl dst (.one (.ptr as.hp.length 0))) (a.put dst (.pointer (some ⟨w.heap.size, 0, none⟩))) ∧ k ≤ (γ ++ [OI.box w.heap.size]).length := by
  have hx : ∀ b, (OI.box w.heap.size).blk = some b → b = w.heap.size := by intro b hb; simp [OI.blk] at hb; exact hb.symm
  refine ⟨Ext.push hi _ _ hx, Inv.push hi _ _ _ hx ?_, ?_, by simp; omega⟩
  · have := h.ext (fun _ _ h => h) (γ' := γ ++ [.box w.heap.size]) (fun _ _ h => get_append_left h)
    exact ⟨vs, T, push_new, this.1, this.2⟩
  · refine (hs.ext (fun _ _ h => h) (fun _ _ h => get_append_left h)).put dst (.one _ _ (.ptr _ _ _ ?_))
    rw [← hi.len]; simp

theorem WR.alloc {zero : List Value} (hgd : gOK G as o.guard) (ha : o.ai = .alloc zero)
    (h : WR P G k rest Q ⟨putS as.sl o.dst (.one (.ptr as.hp.length 0)), as.hp ++ [.box (zero.map rawC)]⟩) : WR P G k (o :: rest) Q as := by
  refine WR.step hgd (fun F γ a w oper hc hd hi hs hg hk => ?_)
  rw [ha] at hc
  obtain ⟨e, he⟩ := op_alloc (kind_of hc rfl)
  obtain ⟨dst, op, type, pos, after, guard⟩ := oper
  simp only at he
  subst he
  simp only [compileOp] at hc
  cases h1 : P.info? e with
  | none => simp [h1] at hc
  | some i => cases h2 : i.zero with
    | none => simp [h1, h2] at hc
    | some z =>
      simp only [h1, h2, Option.bind_some] at hc
      split at hc
      · rename_i hall
        injection hc with hc; injection hc with hc; subst hc
        have hzr : RCs F γ (z.cells.toList.map rawC) z.cells := by
          have := RCs.raw (F := F) (γ := γ) (vs := z.cells.toList) (fun v hv => List.all_eq_true.1 hall v hv)
          simpa using this
        obtain ⟨hE, hI, hS, hk'⟩ := push_box (T := e) hi hs hk hzr o.dst
        refine .inl ⟨_, _, _, _, F, _, ?_, .inl rfl, h, hE, hI, hS, hk'⟩
        simp only [execOp, Instr.alloc, zeroValue, typeInfo, h1, h2, newVar, newRow, Sem.run_bind, run_program, Result.andThen_ok, Sem.run_pure, run_newObj, pushW]
      · cases hc

theorem WR.box {x : AArg} {cs : List Cel} (hgd : gOK G as o.guard) (ha : o.ai = .box x) (hx : cellsOf (evA G as.sl x) = some cs)
    (h : WR P G k rest Q ⟨putS as.sl o.dst (.one (.ptr as.hp.length 0)), as.hp ++ [.box cs]⟩) : WR P G k (o :: rest) Q as := by
  refine WR.step hgd (fun F γ a w oper hc hd hi hs hg hk => ?_)
  rw [ha] at hc
  obtain ⟨e, y, he⟩ := op_box (kind_of hc rfl)
  obtain ⟨dst, op, type, pos, after, guard⟩ := oper
  simp only at he
  subst he
  simp only [compileOp, Option.some.injEq, AI.box.injEq] at hc
  subst hc
  have hr := (rv_arg hs hg y).cells hx
  obtain ⟨hE, hI, hS, hk'⟩ := push_box (T := e) hi hs hk hr o.dst
  refine .inl ⟨_, _, _, _, F, _, ?_, .inl rfl, h, hE, hI, hS, hk'⟩
  simp only [execOp, Instr.box, newVar, newRow, Sem.run_bind, Result.andThen_ok, Sem.run_pure, run_newObj, pushW]

theorem RCs.is1 {cs : List Cel} {vs : Array Value} (h : RCs F γ cs vs) : ∀ v ∈ vs.toList, is1 v = true := by
  intro v hv
  obtain ⟨i, hi⟩ := List.getElem?_of_mem hv
  have hlt : i < vs.size := by have := lt_of_get hi; simpa using this
  have hc : cs[i]? = some (cs[i]'(h.1 ▸ hlt)) := List.getElem?_eq_getElem _
  exact (h.2 i _ v hc (by simpa using hi)).is1

theorem splice_put {cs vs : List Cel} {as bs : Array Value} {off : Nat} (h : RCs F γ cs as) (h' : RCs F γ vs bs) (hle : off + vs.length ≤ cs.length) : RCs F γ (putAt cs off vs) (splice as off bs.toList) := by
  have := h.put h' hle
  rwa [← Array.foldl_toList, Array.toList_zipIdx] at this

theorem putAt_nil (cs : List Cel) (off : Nat) : putAt cs off [] = cs := by simp [putAt]

theorem store_inv {oper : Oper} {size : Nat} {x v : AArg} (hc : compileOp P oper = some (.store size x v)) :
    ∃ t ox ov, oper.op = .store t ox ov ∧ sizeP P t = some size ∧ x = argOf ox ∧ v = argOf ov := by
  obtain ⟨t, ox, ov, he⟩ := op_store (kind_of hc rfl)
  obtain ⟨dst, op, type, pos, after, guard⟩ := oper
  simp only at he
  subst he
  simp only [compileOp] at hc
  cases h2 : sizeP P t with
  | none => simp [h2] at hc
  | some s =>
    simp only [h2, Option.map_some, Option.some.injEq, AI.store.injEq] at hc
    obtain ⟨rfl, rfl, rfl⟩ := hc
    exact ⟨t, ox, ov, rfl, h2, rfl, rfl⟩

/-- a store into a box -/
theorem WR.store {size id off : Nat} {x v : AArg} {cs vs : List Cel} (hgd : gOK G as o.guard) (ha : o.ai = .store size x v) (hd0 : o.dst = none)
    (hx : evA G as.sl x = .one (.ptr id off)) (hv : cellsOf (evA G as.sl v) = some vs) (hb : hpGet as.hp id = .box cs) (hsz : vs.length = size) (hle : off + size ≤ cs.length)
    (h : WR P G k rest Q ⟨as.sl, as.hp.set id (.box (putAt cs off vs))⟩) : WR P G k (o :: rest) Q as := by
  refine WR.step hgd (fun F γ a w oper hc hd hi hs hg hk => ?_)
  rw [ha] at hc
  obtain ⟨t, ox, ov, he, hst, rfl, rfl⟩ := store_inv hc
  have hrx := rv_arg (G := G) hs hg ox
  rw [hx] at hrx
  generalize hax : a.eval ox = ax at hrx
  cases hrx with | one c _ hcc => cases hcc with | ptr _ _ b hgm =>
  have hrv := (rv_arg hs hg ov).cells hv
  obtain ⟨ws, T, hh, hws, hwr⟩ := hi.box hb hgm
  have hsz' : (a.eval ov).cells.size = size := by rw [hrv.1, hsz]
  have hrun := run_storeVar_blk (P := P) (off := off) hh (by rw [hsz']; exact hst) hrv.is1 (by rw [hsz', hws]; exact hle)
  obtain ⟨dst, op, type, pos, after, guard⟩ := oper
  simp only at he
  subst he
  refine .inl ⟨.skip, undef, if (a.eval ov).cells.toList = [] then w else setB w b (splice ws off (a.eval ov).cells.toList) T, _, F, γ, ?_, .inr ⟨rfl, rfl⟩, h, ?_, ?_, ?_, hk⟩
  · simp only [execOp, hax, Sem.run_bind, hrun, Result.andThen_ok, Sem.run_pure]
  · split
    · exact Ext.refl _ _ _ _
    · exact Ext.setB hi hgm rfl
  · split
    · rename_i h0
      have : vs = [] := by
        have h1 := hrv.1
        have h2 : (a.eval ov).cells.size = 0 := by rw [← Array.length_toList, h0]; rfl
        exact List.eq_nil_of_length_eq_zero (by omega)
      subst this
      rw [putAt_nil]
      have hset : as.hp.set id (.box cs) = as.hp := by
        apply List.ext_getElem?
        intro i
        by_cases hii : id = i
        · subst hii
          have := hpGet_some hb (by simp)
          rw [List.getElem?_set_self (lt_of_get this), this]
        · rw [List.getElem?_set_ne hii]
      rw [hset]
      exact hi
    · refine hi.setObj hgm rfl ?_
      have := splice_put (off := off) ⟨hws, hwr⟩ hrv (by omega)
      exact ⟨_, T, setB_same (heap_lt hh), this.1, this.2⟩
  · rw [hd0]; exact hs


/-- cells of data -/
def dcC : List DC → List Cel := List.map .dc

/-- a store into an element of an array of one's own -/
theorem WR.storeE {size id i s off cap : Nat} {x v : AArg} {es : List (List DC)} {e ds e' : List DC} (hgd : gOK G as o.guard) (ha : o.ai = .store size x v) (hd0 : o.dst = none)
    (hx : evA G as.sl x = .one (.ept id i s off)) (hv : cellsOf (evA G as.sl v) = some (dcC ds)) (hb : hpGet as.hp id = .arr cap s es) (he : es[i]? = some e) (hsz : ds.length = size) (hle : off + size ≤ e.length)
    (he' : e' = e.take off ++ ds ++ e.drop (off + size))
    (h : WR P G k rest Q ⟨as.sl, as.hp.set id (.arr cap s (es.set i e'))⟩) : WR P G k (o :: rest) Q as := by
  refine WR.step hgd (fun F γ a w oper hc hd hi hs hg hk => ?_)
  rw [ha] at hc
  obtain ⟨t, ox, ov, hop, hst, rfl, rfl⟩ := store_inv hc
  have hrx := rv_arg (G := G) hs hg ox
  rw [hx] at hrx
  generalize hax : a.eval ox = ax at hrx
  cases hrx with | one c _ hcc => cases hcc with | ept _ _ _ _ b cap' hgm =>
  have hrv := (rv_arg hs hg ov).cells hv
  obtain ⟨hcap, hec, hes, ws, T, hh, hws, hwr⟩ := hi.arr hb hgm
  have hel : e.length = s := hes e (List.mem_of_getElem? he)
  have hil := lt_of_get he
  have hsz' : (a.eval ov).cells.size = size := by rw [hrv.1, dcC, List.length_map, hsz]
  have hfit : i * s + off + size ≤ ws.size := by
    rw [hws]
    have h1 : (i + 1) * s ≤ cap * s := Nat.mul_le_mul_right s (by omega)
    rw [Nat.add_mul] at h1
    omega
  have hrun := run_storeVar_blk (P := P) (off := i * s + off) hh (by rw [hsz']; exact hst) hrv.is1 (by rw [hsz']; exact hfit)
  have hlen' : e'.length = s := by rw [he']; simp; omega
  have hok : ∀ ws' : Array Value, ws'.size = ws.size → (∀ (n : Nat), ws'[n]? = if i * s + off ≤ n ∧ n < i * s + off + size then (a.eval ov).cells[n - (i * s + off)]? else ws[n]?) →
      ∀ (i' j : Nat) e1 d v, (es.set i e')[i']? = some e1 → e1[j]? = some d → ws'[i' * s + j]? = some v → RD F d v := by
    intro ws' hsz1 hget i' j e1 d v h1 h2 h3
    rw [hget] at h3
    by_cases hii : i = i'
    · subst hii
      rw [List.getElem?_set_self hil] at h1
      injection h1 with h1; subst h1
      have hj : j < s := hlen' ▸ lt_of_get h2
      subst he'
      by_cases hj1 : j < off
      · rw [if_neg (by omega)] at h3
        rw [List.append_assoc, List.getElem?_append_left (by simp; omega), List.getElem?_take, if_pos hj1] at h2
        exact hwr i j e d v he h2 h3
      · by_cases hj2 : j < off + size
        · rw [if_pos (by omega)] at h3
          rw [List.append_assoc, List.getElem?_append_right (by simp; omega), List.getElem?_append_left (by simp; omega)] at h2
          have e1 : min off e.length = off := by omega
          simp only [List.length_take, e1] at h2
          rw [show i * s + j - (i * s + off) = j - off by omega] at h3
          have := hrv.2 (j - off) (.dc d) v (by simp [dcC, h2]) h3
          cases this with | dc _ _ h => exact h
        · rw [if_neg (by omega)] at h3
          have e1 : min off e.length = off := by omega
          rw [List.getElem?_append_right (by simp; omega)] at h2
          simp only [List.length_append, List.length_take, e1, List.getElem?_drop, hsz] at h2
          rw [show off + size + (j - (off + size)) = j by omega] at h2
          exact hwr i j e d v he h2 h3
    · rw [List.getElem?_set_ne hii] at h1
      have hj : j < s := by have := hes _ (List.mem_of_getElem? h1); have := lt_of_get h2; omega
      rw [if_neg (by
        rintro ⟨a1, a2⟩
        rcases Nat.lt_trichotomy i i' with c | c | c
        · have := Nat.mul_le_mul_right s (show i + 1 ≤ i' by omega); rw [Nat.add_mul] at this; omega
        · exact hii c
        · have := Nat.mul_le_mul_right s (show i' + 1 ≤ i by omega); rw [Nat.add_mul] at this; omega)] at h3
      exact hwr i' j e1 d v h1 h2 h3
  obtain ⟨dst, op, type, pos, after, guard⟩ := oper
  simp only at hop
  subst hop
  have hsp : ∀ (l : List Value) (k0 : Nat) (vs : Array Value) (n q : Nat), (splice vs q l k0)[n]? = if q + k0 ≤ n ∧ n < q + k0 + l.length ∧ n < vs.size then l[n - (q + k0)]? else vs[n]? := by
    intro l
    induction l with
    | nil => intro k0 vs n q; simp [splice]; intro h1 h2; omega
    | cons x l ih =>
      intro k0 vs n q
      simp only [splice, List.zipIdx_cons, List.foldl_cons]
      have h2 := ih (k0 + 1) (vs.setIfInBounds (q + k0) x) n q
      simp only [splice] at h2
      rw [h2]
      simp only [Array.size_setIfInBounds, List.length_cons, Array.getElem?_setIfInBounds]
      by_cases c1 : n = q + k0
      · subst c1
        rw [if_neg (by omega)]
        by_cases c2 : q + k0 < vs.size
        · rw [if_pos (by omega), if_pos c2, if_pos (by omega)]; simp
        · rw [if_pos (by omega), if_neg c2, if_neg (by omega)]; simp [Array.getElem?_eq_none (Nat.le_of_not_lt c2)]
      · rw [if_neg (show ¬ q + k0 = n by omega)]
        by_cases c2 : q + (k0 + 1) ≤ n ∧ n < q + (k0 + 1) + l.length ∧ n < vs.size
        · rw [if_pos c2, if_pos (by omega)]
          rw [show n - (q + k0) = (n - (q + (k0 + 1))) + 1 by omega]
          simp
        · rw [if_neg c2, if_neg (by omega)]
  have hn0 : ¬ ((a.eval ov).cells.toList = [] ∧ size ≠ 0) := by
    rintro ⟨h1, h2⟩
    have : (a.eval ov).cells.size = 0 := by rw [← Array.length_toList, h1]; rfl
    omega
  refine .inl ⟨.skip, undef, if (a.eval ov).cells.toList = [] then w else setB w b (splice ws (i * s + off) (a.eval ov).cells.toList) T, _, F, γ, ?_, .inr ⟨rfl, rfl⟩, h, ?_, ?_, ?_, hk⟩
  · simp only [execOp, hax, Sem.run_bind, hrun, Result.andThen_ok, Sem.run_pure]
  · split
    · exact Ext.refl _ _ _ _
    · exact Ext.setB hi hgm rfl
  · split
    · rename_i h0
      have hs0 : size = 0 := by
        rcases Nat.eq_zero_or_pos size with h | h
        · exact h
        · exact absurd ⟨h0, by omega⟩ hn0
      have hds : ds = [] := List.eq_nil_of_length_eq_zero (by omega)
      have hee : e' = e := by rw [he', hds, hs0]; simp
      have h1 : es.set i e' = es := by
        apply List.ext_getElem?
        intro n
        by_cases hn : i = n
        · subst hn; rw [List.getElem?_set_self hil, he, hee]
        · rw [List.getElem?_set_ne hn]
      rw [h1]
      have hset : as.hp.set id (.arr cap s es) = as.hp := by
        apply List.ext_getElem?
        intro i
        by_cases hii : id = i
        · subst hii
          have := hpGet_some hb (by simp)
          rw [List.getElem?_set_self (lt_of_get this), this]
        · rw [List.getElem?_set_ne hii]
      rw [hset]
      exact hi
    · refine hi.setObj hgm rfl ⟨hcap, by simpa using hec, fun x hx => ?_, _, T, setB_same (heap_lt hh), by rw [splice_size, hws], hok _ (splice_size _ _ _ _) (fun n => ?_)⟩
      · rcases List.mem_or_eq_of_mem_set hx with h1 | h1
        · exact hes x h1
        · rw [h1]; exact hlen'
      · rw [hsp]
        simp only [Nat.add_zero, Array.length_toList, hsz', Array.getElem?_toList]
        by_cases c : i * s + off ≤ n ∧ n < i * s + off + size
        · rw [if_pos ⟨c.1, c.2, by omega⟩, if_pos c]
        · rw [if_neg (fun c' => c ⟨c'.1, c'.2.1⟩), if_neg c]
  · rw [hd0]; exact hs

end
end Go.Proofs.YtmognenhkecngaaGreatDoor
