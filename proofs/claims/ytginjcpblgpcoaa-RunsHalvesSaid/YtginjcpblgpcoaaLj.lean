/- Slices that are made and that grow, over the abstract states. Conditions: none. -/
import Derived.Test.YtginjcpblgpcoaaLi
namespace Go.Proofs.Ytginjcpblgpcoaa
set_option linter.unusedSimpArgs false
set_option linter.unusedVariables false
section
variable {P : Program} {G : Glob} {k : Nat} {Q : AS → Prop} {as as' : AS} {o : AOp} {rest ops : List AOp} {F : Fz} {γ : List OI} {w : World}

theorem flatten_get {α : Type} {size : Nat} : ∀ (es : List (List α)), (∀ e ∈ es, e.length = size) → ∀ (i j : Nat) e d, es[i]? = some e → e[j]? = some d → es.flatten[i * size + j]? = some d
  | [], _, i, j, e, d, h, _ => by simp at h
  | x :: es, hs, i, j, e, d, h, h' => by
    have hx : x.length = size := hs x (List.mem_cons_self)
    cases i with
    | zero =>
      simp at h; subst h
      simp only [List.flatten_cons, Nat.zero_mul, Nat.zero_add]
      rw [List.getElem?_append_left (lt_of_get h')]; exact h'
    | succ i =>
      simp only [List.flatten_cons]
      rw [List.getElem?_append_right (by rw [hx, Nat.add_mul]; omega), hx]
      rw [show (i + 1) * size + j - size = i * size + j by rw [Nat.add_mul]; omega]
      exact flatten_get es (fun e he => hs e (List.mem_cons_of_mem _ he)) i j e d (by simpa using h) h'

theorem flatten_len {α : Type} {size : Nat} : ∀ (es : List (List α)), (∀ e ∈ es, e.length = size) → es.flatten.length = es.length * size
  | [], _ => by simp
  | x :: es, hs => by
    simp only [List.flatten_cons, List.length_append, List.length_cons, hs x (List.mem_cons_self), flatten_len es (fun e he => hs e (List.mem_cons_of_mem _ he)), Nat.add_mul]
    omega

/-- a new array object -/
theorem push_arr (hi : Inv F γ as.hp w) {a : Act} (hs : Slots F γ as.sl a) (hk : k ≤ γ.length) {cap size n : Nat} {es : List (List DC)} {vs : Array Value} {T : TypeId} (hes : ∀ e ∈ es, e.length = size)
    (hcap : es.length ≤ cap) (hvs : vs.size = cap * size) (hr : ∀ (i j : Nat) e d v, es[i]? = some e → e[j]? = some d → vs[i * size + j]? = some v → RD F d v) (dst : Option Nat) :
    Ext k F γ w F (γ ++ [.arr (some w.heap.size) cap]) (pushW w (.cells vs T)) ∧ Inv F (γ ++ [.arr (some w.heap.size) cap]) (as.hp ++ [.arr cap size es]) (pushW w (.cells vs T)) ∧
    Slots F (γ ++ [.arr (some w.heap.size) cap]) (putS as.sl dst (.one (.bld as.hp.length n))) (a.put dst (.slice (some ⟨w.heap.size, 0, none⟩) n cap)) ∧ k ≤ (γ ++ [OI.arr (some w.heap.size) cap]).length := by
  have hx : ∀ b, (OI.arr (some w.heap.size) cap).blk = some b → b = w.heap.size := by intro b hb; simp [OI.blk] at hb; exact hb.symm
  refine ⟨Ext.push hi _ _ hx, Inv.push hi _ _ _ hx ?_, ?_, by simp; omega⟩
  · exact ⟨rfl, hcap, hes, vs, T, push_new, hvs, hr⟩
  · refine (hs.ext (fun _ _ h => h) (fun _ _ h => get_append_left h)).put dst (.one _ _ (.bld _ _ _ _ ?_))
    rw [← hi.len]; simp

theorem rep_zero (z : List Value) (n : Nat) (hz : 0 < z.length) (h1 : ∀ v ∈ z, is1 v = true) : RCs F γ ((List.range n).map fun i => rawC (z.getD (i % z.length) undef)) ((Array.range n).map (z.toArray[· % z.toArray.size]!)) := by
  refine ⟨by simp, fun i c v hc hv => ?_⟩
  simp only [List.getElem?_map] at hc
  have hi : i < n := by
    rcases Nat.lt_or_ge i n with h | h
    · exact h
    · rw [List.getElem?_eq_none (by simpa using h)] at hc; cases hc
  rw [List.getElem?_range hi] at hc
  simp at hc
  subst hc
  simp [hi] at hv
  have hlt : i % z.length < z.length := Nat.mod_lt _ hz
  have hv' : z[i % z.length] = v := by simpa [hlt] using hv
  subst hv'
  rw [show z[i % z.length]?.getD undef = z[i % z.length] by simp [hlt]]
  exact .dc _ _ (.raw _ (h1 _ (List.getElem_mem hlt)))

theorem WR.bslc {size len : Nat} {zero : List Value} {parts : List (Nat × AArg)} {es : List (List DC)} (hgd : gOK G as o.guard) (ha : o.ai = .bslc size len zero parts)
    (hf : fillV ((List.range (len * size)).map fun i => rawC (zero.getD (i % zero.length) undef)) (parts.map fun (j, x) => (j * size, size, evA G as.sl x)) = some (dcC es.flatten))
    (hes : ∀ e ∈ es, e.length = size) (hlen : es.length = len)
    (h : WR P G k rest Q ⟨putS as.sl o.dst (.one (.bld as.hp.length len)), as.hp ++ [.arr len size es]⟩) : WR P G k (o :: rest) Q as := by
  refine WR.step hgd (fun F γ a w oper hc hd hi hs hg hk => ?_)
  rw [ha] at hc
  obtain ⟨t, len', ps, hop⟩ := op_bslc (kind_of hc rfl)
  obtain ⟨dst, op, type, pos, after, guard⟩ := oper
  simp only at hop
  subst hop
  simp only [compileOp] at hc
  split at hc
  · rename_i e hu
    cases h1 : P.info? e with
    | none => simp [h1] at hc
    | some i => cases h2 : i.zero with
      | none => simp [h1, h2] at hc
      | some z =>
        simp only [h1, h2, Option.bind_some] at hc
        split at hc
        · rename_i hcond
          obtain ⟨hc1, hc2, hc3, hc4⟩ := hcond
          injection hc with hc; injection hc with e1 e2 e3 e4
          subst e1; subst e2; subst e3; subst e4
          have hzl : z.cells.toList.length = i.size := by simpa using hc2
          have hz : RCs F γ ((List.range (len' * i.size)).map fun n => rawC (z.cells.toList.getD (n % z.cells.toList.length) undef)) ((Array.range (len' * i.size)).map (z.cells[· % z.cells.size]!)) := by
            have := rep_zero (F := F) (γ := γ) z.cells.toList (len' * i.size) (by omega) (fun v hv => List.all_eq_true.1 hc4 v hv)
            have e0 : z.cells.toList.toArray = z.cells := by simp
            rw [e0] at this
            exact this
          obtain ⟨r, hr1, hr2⟩ := fill_ok (place := fun j => some (j * i.size, i.size)) _ (ps.toList.map fun (j, x) => (j, a.eval x)) _ _ _ hz hf (by simp) (fun n o s av j x hn hj => by
            simp only [List.map_map, List.getElem?_map] at hn hj
            cases hp : ps.toList[n]? with
            | none => simp [hp] at hn
            | some q =>
              obtain ⟨j', x'⟩ := q
              simp [hp] at hn hj
              obtain ⟨rfl, rfl, rfl⟩ := hn
              obtain ⟨rfl, rfl⟩ := hj
              exact ⟨rfl, rv_arg hs hg x'⟩)
          have hrs : r.size = len' * i.size := by rw [hr2.1, dcC, List.length_map, flatten_len es hes, hlen]
          have hrr : ∀ (n j : Nat) e d v, es[n]? = some e → e[j]? = some d → r[n * i.size + j]? = some v → RD F d v := by
            intro n j e d v h3 h4 h5
            have := hr2.2 (n * i.size + j) (.dc d) v (by show (List.map Cel.dc es.flatten)[n * i.size + j]? = _; rw [List.getElem?_map, flatten_get es hes n j e d h3 h4]; rfl) h5
            cases this with | dc _ _ h => exact h
          obtain ⟨hE, hI, hS, hk'⟩ := push_arr (T := e) (n := len') hi hs hk hes (by omega) hrs hrr o.dst
          refine .inl ⟨_, _, _, _, F, _, ?_, .inl rfl, h, hE, hI, hS, hk'⟩
          have hno : ¬ (len' * i.size > 2 ^ 24) := by omega
          have hfill : Instr.fill (fun j => some (j * i.size, i.size)) ((Array.range (len' * i.size)).map ((if len' * i.size = 0 then #[] else z.cells)[· % (if len' * i.size = 0 then #[] else z.cells).size]!)) (ps.map fun (j, x) => (j, a.eval x)).toList = some r := by
            have e0 : (ps.map fun (j, x) => (j, a.eval x)).toList = ps.toList.map fun (j, x) => (j, a.eval x) := by simp
            rw [e0, ← hr1]
            congr 1
            split
            · rename_i h0; simp [h0]
            · rfl
          have hzv : (zeroValue e).run P w = .ok z w := by simp [zeroValue, typeInfo, h1, h2]
          simp only [execOp, Instr.buildSlice, run_underlying hu, Sem.run_bind, Result.andThen_ok, sizeOf, typeInfo, run_program, h1, Sem.run_pure, Sem.run_ite, if_neg hno, hzv]
          by_cases h0 : len' * i.size = 0
          · simp only [if_pos h0] at hfill ⊢
            simp only [hfill, Sem.run_bind, Result.andThen_ok, Sem.run_pure, newRow, run_newObj, pushW]
          · simp only [if_neg h0] at hfill ⊢
            simp only [hfill, Sem.run_bind, Result.andThen_ok, Sem.run_pure, newRow, run_newObj, pushW]
        · cases hc
  · cases hc



theorem run_app {t u ty e : TypeId} {du : TypeDesc} {i : TypeInfo} {z : Value} (ht : P.underlying t = some (.slice e)) (hu : P.underlying u = some du) (hdu : du = .slice e ∨ du = .string) (hi : P.info? e = some i) (hz : i.zero = some z) (hby : 0 < i.bytes)
    {A : Option Addr} {n cap m : Nat} {x : Value} (old news : List Value) (hold : (Builtin.firstCells i.size n (.slice A n cap)).run P w = .ok old.toArray w)
    (hx : ∀ w', w'.heap = w.heap → (Builtin.firstCells i.size m x).run P w' = .ok news.toArray w') (hxl : (Builtin.lenOf x).run P w = .ok m w) (hub : (n + m) * i.bytes ≤ 140737488355328) (hold' : (Builtin.firstCells i.size n (.slice A n cap)).run P (w.drew) = .ok old.toArray (w.drew)) :
    (n + m ≤ cap → (Builtin.append_ #[t, u] ty #[.slice A n cap, x]).run P w = (match A with | some a => (storeCells (a.add (n * i.size)) news).run P w | none => .ok () w).andThen fun _ w' => .ok (.slice A (n + m) cap) w') ∧
    (¬ n + m ≤ cap → ∃ c rest, n + m ≤ c ∧ rest.length = (c - (n + m)) * z.cells.size ∧ (Builtin.append_ #[t, u] ty #[.slice A n cap, x]).run P w = .ok (.slice (some ⟨w.heap.size, 0, none⟩) (n + m) c) (pushW (w.drew) (.cells (old ++ news ++ rest).toArray e))) := by
  have hzeros : (match (#[t, u] : Array TypeId)[1]? with
    | some xType => do pure ((← underlying xType) matches .int _)
    | none => pure false : Sem Bool).run P w = .ok false w := by
    rcases hdu with rfl | rfl <;> simp [run_underlying hu]
  have hnm : n + m ≤ 140737488355328 := Nat.le_trans (Nat.le_mul_of_pos_right _ hby) hub
  refine ⟨fun hle => ?_, fun hgt => ?_⟩
  · cases A with
    | none =>
      simp only [Builtin.append_]
      rcases hdu with rfl | rfl <;> simp [run_underlying ht, run_underlying hu, sizeOf, typeInfo, hi, hxl, hle, hx w rfl]
    | some a =>
      simp only [Builtin.append_]
      rcases hdu with rfl | rfl <;> simp [run_underlying ht, run_underlying hu, sizeOf, typeInfo, hi, hxl, hle, hx w rfl]
  · have hcap : cap < n + m := by omega
    have hgrow := growslice_fits (bytes := i.bytes) hcap hub
    have hmax : ¬ ((n : Int) + (m : Int) > IntKind.i64.max) := by rw [maxI64]; omega
    refine ⟨n + m + w.tape w.drawn (.appendCap (n + m) cap e) % (2 ^ 63 - (n + m)), (Builtin.zeroCells z.cells (n + m + w.tape w.drawn (.appendCap (n + m) cap e) % (2 ^ 63 - (n + m)) - (n + m))).toList, by omega, by simp [Builtin.zeroCells], ?_⟩
    simp only [Builtin.append_]
    have hx' := hx (w.drew) rfl
    have hnc : ¬ (281474976710656 < Builtin.nextslicecap (n + m) cap * i.bytes) := by omega
    have hch : (choose (.appendCap (n + m) cap e)).run P w = .ok (n + m + w.tape w.drawn (.appendCap (n + m) cap e) % (2 ^ 63 - (n + m))) (w.drew) := rfl
    have hn1 : ¬ (9223372036854775807 < (n : Int) + (m : Int) ∧ i.bytes = 0) := by omega
    have hzv : ∀ w', (zeroValue e).run P w' = .ok z w' := fun w' => by simp [zeroValue, typeInfo, hi, hz]
    rcases hdu with rfl | rfl
    all_goals
      simp [run_underlying ht, run_underlying hu, sizeOf, typeInfo, hi, hxl, hgt]
      rw [if_neg hn1, if_neg hnc]
      simp [Question.forced, hold', hx', hzv, newRow, Question.cut]
      refine congrArg (fun c => World.alloc w.drew (Obj.cells c e)) ?_
      apply Array.ext'
      simp
theorem rep_get {z : List Value} {n : Nat} {size cap : Nat} (hz : z.length = size) (h1 : ∀ v ∈ z, is1 v = true) : ∀ (i j : Nat) e d v, (List.replicate n (z.map DC.raw))[i]? = some e → e[j]? = some d →
    ((Array.range (cap * size)).map (z.toArray[· % z.toArray.size]!))[i * size + j]? = some v → RD F d v := by
  intro i j e d v h2 h3 h4
  rw [List.getElem?_replicate] at h2
  split at h2
  · injection h2 with h2; subst h2
    rw [List.getElem?_map] at h3
    obtain ⟨x, h5, rfl⟩ := Option.map_eq_some_iff.1 h3
    have hj : j < size := by rw [← hz]; exact lt_of_get h5
    have hlt : i * size + j < cap * size := by
      rcases Nat.lt_or_ge (i * size + j) (cap * size) with h | h
      · exact h
      · rw [Array.getElem?_eq_none (by simpa using h)] at h4; cases h4
    simp [hlt] at h4
    have e1 : (i * size + j) % z.length = j := by rw [hz, Nat.mul_comm, Nat.mul_add_mod, Nat.mod_eq_of_lt hj]
    rw [e1, h5] at h4
    simp at h4
    subst h4
    exact .raw _ (h1 _ (List.mem_of_getElem? h5))
  · cases h2

theorem wrapS {n : Nat} (h : n ≤ 140737488355328) : IntKind.i64.wrap (n : Int) = n := by rw [IntKind.wrap_i64]; omega

theorem WR.mk {size bytes : Nat} {zero : List Value} {l c : AArg} {n m : Nat} (hgd : gOK G as o.guard) (ha : o.ai = .mk size bytes zero l c)
    (hl : asInt? (evA G as.sl l) = some (n : Int)) (hm : asInt? (evA G as.sl c) = some (m : Int)) (hnm : n ≤ m) (hb : m * bytes ≤ 140737488355328)
    (h : WR P G k rest Q ⟨putS as.sl o.dst (.one (.bld as.hp.length n)), as.hp ++ [.arr m size (List.replicate n (zero.map DC.raw))]⟩) : WR P G k (o :: rest) Q as := by
  refine WR.step hgd (fun F γ a w oper hc hd hi hs hg hk => ?_)
  rw [ha] at hc
  obtain ⟨t, lo, co, hop⟩ := op_mk (kind_of hc rfl)
  obtain ⟨dst, op, type, pos, after, guard⟩ := oper
  simp only at hop
  subst hop
  simp only [compileOp] at hc
  split at hc
  · rename_i e hu
    cases h1 : P.info? e with
    | none => simp [h1] at hc
    | some i => cases h2 : i.zero with
      | none => simp [h1, h2] at hc
      | some z =>
        simp only [h1, h2, Option.bind_some] at hc
        split at hc
        · rename_i hcond
          obtain ⟨hc1, hc2, hc3, hc4⟩ := hcond
          injection hc with hc; injection hc with e1 e2 e3 e4 e5
          subst e1; subst e2; subst e3; subst e4; subst e5
          have hzl : z.cells.toList.length = i.size := by simpa using hc1
          have hz1 : ∀ v ∈ z.cells.toList, is1 v = true := fun v hv => List.all_eq_true.1 hc4 v hv
          obtain ⟨k1, hlv⟩ := rv_int (rv_arg hs hg lo) hl
          obtain ⟨k2, hmv⟩ := rv_int (rv_arg hs hg co) hm
          have hm' : m ≤ 140737488355328 := Nat.le_trans (Nat.le_mul_of_pos_right _ hc2) hb
          have hvs : ((Array.range (m * i.size)).map (z.cells[· % z.cells.size]!)).size = m * i.size := by simp
          have hrr := rep_get (F := F) (n := n) (cap := m) hzl hz1
          have e0 : z.cells.toList.toArray = z.cells := by simp
          rw [e0] at hrr
          obtain ⟨hE, hI, hS, hk'⟩ := push_arr (T := e) (n := n) (cap := m) (size := i.size) (es := List.replicate n (z.cells.toList.map DC.raw)) hi hs hk
            (fun e he => by rw [(List.mem_replicate.1 he).2, List.length_map, hzl]) (by simpa using hnm) hvs hrr o.dst
          refine .inl ⟨_, _, _, _, F, _, ?_, .inl rfl, h, hE, hI, hS, hk'⟩
          have w1 : IntKind.i64.wrap (n : Int) = n := wrapS (by omega)
          have w2 : IntKind.i64.wrap (m : Int) = m := wrapS (by omega)
          have hzv : (zeroValue e).run P w = .ok z w := by simp [zeroValue, typeInfo, h1, h2]
          have hb' : ¬ ((i.bytes : Int) * (m : Int) > 2 ^ 48) := by
            have h5 : (m * i.bytes : Nat) ≤ 281474976710656 := by omega
            have h6 : ((i.bytes : Int) * (m : Int)) = ((m * i.bytes : Nat) : Int) := by rw [Int.mul_comm]; simp
            have h7 : (2 ^ 48 : Int) = 281474976710656 := by decide
            rw [h6, h7]; omega
          have hroom : ¬ (m * i.bytes > roomBytes) := by simp only [roomBytes]; omega
          have n1 : ¬ ((m : Int) < 0) := by omega
          have n2 : ¬ ((n : Int) < 0) := by omega
          have n3 : ¬ ((n : Int) > (m : Int)) := by omega
          simp only [execOp, Instr.makeSlice, run_underlying hu, Sem.run_bind, Result.andThen_ok, hlv, hmv, asInt, asIntOf, Sem.run_pure]
          simp only [typeInfo, run_program, Sem.run_bind, Result.andThen_ok, h1, Sem.run_pure, w1, w2]
          simp only [n1, n2, n3, hb', decide_false, Bool.or_self, Bool.false_eq_true, if_false, Int.toNat_natCast, askRoom, if_neg hroom, Sem.run_bind, Result.andThen_ok, Sem.run_pure, sizeOf, typeInfo, run_program, h1]
          by_cases h0 : m * i.size = 0
          · simp only [if_pos h0, Sem.run_bind, Result.andThen_ok, Sem.run_pure, newRow, run_newObj, pushW, h0, if_true]
            refine congrArg (fun c => Result.ok (Next.value (Value.slice (some ⟨w.heap.size, 0, none⟩) n m)) (World.alloc w (Obj.cells c e))) ?_
            exact Array.ext (by simp) (fun j h1 => by simp at h1)
          · simp only [if_neg h0, Sem.run_bind, Result.andThen_ok, Sem.run_pure, newRow, run_newObj, pushW, hzv]
        · cases hc
  · cases hc

end
end Go.Proofs.Ytginjcpblgpcoaa
