/- append onto a slice of one's own, over the abstract states. Conditions: none. -/
import Derived.Test.YtmognenhkecngaaGreatDoorLk
import Derived.Lib.ConvBytes
namespace Go.Proofs.YtmognenhkecngaaGreatDoor
section
variable {P : Program} {G : Glob} {k : Nat} {Q : AS → Prop} {as as' : AS} {o : AOp} {rest ops : List AOp} {F : Fz} {γ : List OI} {w w' : World} {hp : List AObj}

theorem splice_get (l : List Value) : ∀ (k0 : Nat) (vs : Array Value) (n q : Nat), (splice vs q l k0)[n]? = if q + k0 ≤ n ∧ n < q + k0 + l.length ∧ n < vs.size then l[n - (q + k0)]? else vs[n]? := by
  induction l with
  | nil => intro k0 vs n q; simp [splice]; intro h1 h2; omega
  | cons x l ih =>
    intro k0 vs n q
    simp only [splice, List.zipIdx_cons, List.foldl_cons]
    have h2 := ih (k0 + 1) (vs.setIfInBounds (q + k0) x) n q
    simp only [splice] at h2
    rw [h2]
    simp only [Array.size_setIfInBounds, List.length_cons, Array.getElem?_setIfInBounds]
    by_cases c1 : n = q + k0
    · subst c1
      rw [if_neg (by omega)]
      by_cases c2 : q + k0 < vs.size
      · rw [if_pos (by omega), if_pos c2, if_pos (by omega)]; simp
      · rw [if_pos (by omega), if_neg c2, if_neg (by omega)]; simp [Array.getElem?_eq_none (Nat.le_of_not_lt c2)]
    · rw [if_neg (show ¬ q + k0 = n by omega)]
      by_cases c2 : q + (k0 + 1) ≤ n ∧ n < q + (k0 + 1) + l.length ∧ n < vs.size
      · rw [if_pos c2, if_pos (by omega)]
        rw [show n - (q + k0) = (n - (q + (k0 + 1))) + 1 by omega]
        simp
      · rw [if_neg c2, if_neg (by omega)]

theorem append_elem {α : Type} {es news : List α} {n i : Nat} {e : α} (hn : n ≤ es.length) (h : (es.take n ++ news)[i]? = some e) : (i < n ∧ es[i]? = some e) ∨ (n ≤ i ∧ news[i - n]? = some e) := by
  by_cases hi : i < n
  · rw [List.getElem?_append_left (by simp; omega), List.getElem?_take, if_pos hi] at h
    exact .inl ⟨hi, h⟩
  · rw [List.getElem?_append_right (by simp; omega)] at h
    have : min n es.length = n := by omega
    simp only [List.length_take, this] at h
    exact .inr ⟨by omega, h⟩

/-- what append comes to, from an object -/
theorem app_step {t u ty e : TypeId} {du : TypeDesc} {i : TypeInfo} {z : Value} (ht : P.underlying t = some (.slice e)) (hu : P.underlying u = some du) (hdu : du = .slice e ∨ du = .string) (hin : P.info? e = some i) (hz : i.zero = some z)
    (hzs : z.cells.size = i.size) (hby : 0 < i.bytes) {id n cap : Nat} {es news : List (List DC)} {x sv : Value} (hi : Inv F γ hp w) (hb : hpGet hp id = .arr cap i.size es) (hsv : RC F γ (.bld id n) sv) (hn : n ≤ es.length)
    (hns : ∀ e ∈ news, e.length = i.size) (hub : (n + news.length) * i.bytes ≤ 140737488355328) (nv : List Value) (hnl : nv.length = news.length * i.size)
    (hx : ∀ w' : World, w'.heap = w.heap → (Builtin.firstCells i.size news.length x).run P w' = .ok nv.toArray w') (hxl : (Builtin.lenOf x).run P w = .ok news.length w)
    (hnr : ∀ (i' j : Nat) e d v, news[i']? = some e → e[j]? = some d → nv[i' * i.size + j]? = some v → RD F d v) (hn1 : ∀ v ∈ nv, is1 v = true) :
    ∃ r w' x' cap', (Builtin.append_ #[t, u] ty #[sv, x]).run P w = .ok r w' ∧ n + news.length ≤ cap' ∧ Ext k F γ w F (γ.set id x') w' ∧
      Inv F (γ.set id x') ((hp.map (killO (· == id))).set id (.arr cap' i.size (es.take n ++ news))) w' ∧ RC F (γ.set id x') (.bld id (n + news.length)) r := by
  have hbyte : ∀ q, 0 < i.bytes → q ≤ q * i.bytes := fun q h => Nat.le_mul_of_pos_right _ h
  have hes' : ∀ (hes : ∀ e ∈ es, e.length = i.size), ∀ e ∈ es.take n ++ news, e.length = i.size := by
    intro hes e he
    rcases List.mem_append.1 he with h | h
    · exact hes e (List.mem_of_mem_take h)
    · exact hns e h
  have hlen' : (es.take n ++ news).length = n + news.length := by simp; omega
  -- a new block
  have fresh : ∀ (xo : OI) (hx0 : γ[id]? = some xo) (hnb : ∀ b, xo ≠ .box b) (old : List Value) (c : Nat) (rest : List Value), old.length = n * i.size → n + news.length ≤ c → rest.length = (c - (n + news.length)) * i.size →
      (∀ (i' j : Nat) e d v, i' < n → es[i']? = some e → e[j]? = some d → old[i' * i.size + j]? = some v → RD F d v) → (∀ e ∈ es, e.length = i.size) →
      Ext k F γ w F (γ.set id (.arr (some w.heap.size) c)) (pushW w.drew (.cells (old ++ nv ++ rest).toArray e)) ∧
      Inv F (γ.set id (.arr (some w.heap.size) c)) ((hp.map (killO (· == id))).set id (.arr c i.size (es.take n ++ news))) (pushW w.drew (.cells (old ++ nv ++ rest).toArray e)) ∧
      RC F (γ.set id (.arr (some w.heap.size) c)) (.bld id (n + news.length)) (.slice (some ⟨w.heap.size, 0, none⟩) (n + news.length) c) := by
    intro xo hx0 hnb old c rest hol hc hrl hor hes
    have hfar : ∀ b, b < w.heap.size → xo.blk ≠ some b → (pushW w.drew (.cells (old ++ nv ++ rest).toArray e)).heap[b]? = w.heap[b]? := fun b hb' _ => push_old (w := w.drew) hb'
    have hblk : ∀ b, (OI.arr (some w.heap.size) c).blk = some b → xo.blk = some b ∨ b = w.heap.size := by intro b hb'; simp [OI.blk] at hb'; exact .inr hb'.symm
    refine ⟨Ext.setArr hi hx0 hnb hblk hfar rfl rfl rfl (by simp [pushW]), Inv.setArr hi hx0 hblk hfar ?_, .bld _ _ _ c (List.getElem?_set_self (lt_of_get hx0))⟩
    refine ⟨rfl, by rw [hlen']; exact hc, hes' hes, _, e, push_new (w := w.drew), ?_, ?_⟩
    · simp only [List.size_toArray, List.length_append, hol, hnl, hrl]
      rw [← Nat.add_mul, ← Nat.add_mul]
      congr 1
      omega
    · intro i' j e' d v h1 h2 h3
      simp only [List.getElem?_toArray] at h3
      rcases append_elem hn h1 with ⟨a1, a2⟩ | ⟨a1, a2⟩
      · have hj : j < i.size := by have := lt_of_get h2; have := hes _ (List.mem_of_getElem? a2); omega
        have := mul_lt_cap a1 (Nat.le_refl _) hj
        rw [List.append_assoc, List.getElem?_append_left (by omega)] at h3
        exact hor i' j e' d v a1 a2 h2 h3
      · have hj : j < i.size := by have := lt_of_get h2; have := hns _ (List.mem_of_getElem? a2); omega
        have h5 := mul_lt_cap (lt_of_get a2) (Nat.le_refl _) hj
        have h6 : i' * i.size + j = n * i.size + ((i' - n) * i.size + j) := by
          rw [← Nat.add_assoc, ← Nat.add_mul]
          congr 2
          omega
        rw [h6, List.append_assoc, List.getElem?_append_right (by omega), hol, Nat.add_sub_cancel_left, List.getElem?_append_left (by omega)] at h3
        exact hnr _ j e' d v a2 h2 h3
  cases hsv with
  | bldN _ cap0 hgm =>
    obtain ⟨h1, h2, h3⟩ := hi.arrN hb hgm
    subst h1; subst h2; subst h3
    have hra := run_app (P := P) (ty := ty) (A := none) (n := 0) (cap := 0) ht hu hdu hin hz hby [] nv rfl hx hxl hub rfl
    by_cases hle : 0 + news.length ≤ 0
    · have hnn : news = [] := List.eq_nil_of_length_eq_zero (by omega)
      subst hnn
      refine ⟨_, w, .arr none 0, 0, by rw [hra.1 hle]; rfl, by simp, ?_, ?_, ?_⟩
      · exact Ext.setArr hi hgm (by simp) (fun b h => by simp [OI.blk] at h) (fun b _ _ => rfl) rfl rfl rfl (Nat.le_refl _)
      · exact Inv.setArr hi hgm (fun b h => by simp [OI.blk] at h) (fun b _ _ => rfl) ⟨rfl, rfl, rfl⟩
      · exact .bldN _ 0 (List.getElem?_set_self (lt_of_get hgm))
    · obtain ⟨c, rest, hc, hrl, hrun⟩ := hra.2 hle
      rw [hzs] at hrl
      obtain ⟨hE, hI, hR⟩ := fresh _ hgm (by simp) [] c rest (by simp) hc hrl (fun i' j e d v h => by omega) (fun e h => by simp at h)
      exact ⟨_, _, _, c, hrun, hc, hE, hI, hR⟩
  | bld _ _ b cap' hgm =>
    obtain ⟨hcc, hec, hes, vs, T, hh, hvsz, hr⟩ := hi.arr hb hgm
    subst hcc
    have hcap : n * i.size ≤ vs.size := by rw [hvsz]; exact Nat.mul_le_mul_right _ (by omega)
    have hold : ∀ w' : World, w'.heap = w.heap → (Builtin.firstCells i.size n (.slice (some ⟨b, 0, none⟩) n cap')).run P w' = .ok (vs.toList.take (n * i.size)).toArray w' := by
      intro w' hw
      simp only [Builtin.firstCells]
      have hl : (vs.toList.take (n * i.size)).length = n * i.size := by simp; omega
      have := run_loadCells_list (P := P) w' ⟨b, 0, none⟩ (vs.toList.take (n * i.size)) (fun j v hj => by
        rw [addr_add, Nat.zero_add, cell_heap (hw ▸ hh)]
        rw [List.getElem?_take] at hj
        split at hj
        · simpa using hj
        · cases hj)
      rwa [hl] at this
    have hra := run_app (P := P) (ty := ty) (A := some ⟨b, 0, none⟩) (n := n) (cap := cap') ht hu hdu hin hz hby _ nv (hold w rfl) hx hxl hub (hold w.drew rfl)
    by_cases hle : n + news.length ≤ cap'
    · have hfit : n * i.size + nv.length ≤ vs.size := by
        rw [hnl, hvsz, ← Nat.add_mul]
        exact Nat.mul_le_mul_right _ hle
      have hst := run_storeCells_blk (P := P) (off := n * i.size) nv 0 w vs hh hn1 (by omega)
      have hst' : (storeCells ((⟨b, 0, none⟩ : Addr).add (n * i.size)) nv).run P w = .ok () (if nv = [] then w else setB w b (splice vs (n * i.size) nv) T) := by
        rw [addr_add, Nat.zero_add]; exact hst
      have hblk : ∀ b', (OI.arr (some b) cap').blk = some b' → (OI.arr (some b) cap').blk = some b' ∨ b' = w.heap.size := fun _ h => .inl h
      have hfar : ∀ b', b' < w.heap.size → (OI.arr (some b) cap').blk ≠ some b' → (if nv = [] then w else setB w b (splice vs (n * i.size) nv) T).heap[b']? = w.heap[b']? := by
        intro b' _ hne
        split
        · rfl
        · exact setB_far (fun e => hne (by subst e; rfl))
      refine ⟨_, if nv = [] then w else setB w b (splice vs (n * i.size) nv) T, .arr (some b) cap', cap', by rw [hra.1 hle]; simp only [hst']; rfl, hle, ?_, ?_, .bld _ _ _ cap' (List.getElem?_set_self (lt_of_get hgm))⟩
      · refine Ext.setArr hi hgm (by simp) hblk hfar ?_ ?_ ?_ ?_ <;> split <;> first | rfl | exact Nat.le_refl _ | simp [setB]
      · refine Inv.setArr hi hgm hblk hfar ⟨rfl, by rw [hlen']; exact hle, hes' hes, splice vs (n * i.size) nv, T, ?_, by rw [splice_size, hvsz], ?_⟩
        · split
          · rename_i h0; subst h0; exact hh
          · exact setB_same (heap_lt hh)
        · intro i' j e' d v h1 h2 h3
          rw [splice_get] at h3
          simp only [Nat.add_zero] at h3
          rcases append_elem hn h1 with ⟨a1, a2⟩ | ⟨a1, a2⟩
          · have hj : j < i.size := by have := lt_of_get h2; have := hes _ (List.mem_of_getElem? a2); omega
            have := mul_lt_cap a1 (Nat.le_refl _) hj
            rw [if_neg (by omega)] at h3
            exact hr i' j e' d v a2 h2 h3
          · have hj : j < i.size := by have := lt_of_get h2; have := hns _ (List.mem_of_getElem? a2); omega
            have h5 := mul_lt_cap (lt_of_get a2) (Nat.le_refl _) hj
            have h6 : i' * i.size + j = n * i.size + ((i' - n) * i.size + j) := by
              rw [← Nat.add_assoc, ← Nat.add_mul]
              congr 2
              omega
            rw [h6, if_pos ⟨by omega, by omega, by omega⟩, Nat.add_sub_cancel_left] at h3
            exact hnr _ j e' d v a2 h2 h3
    · obtain ⟨c, rest, hc, hrl, hrun⟩ := hra.2 hle
      rw [hzs] at hrl
      obtain ⟨hE, hI, hR⟩ := fresh _ hgm (by simp) (vs.toList.take (n * i.size)) c rest (by simp; omega) hc hrl (fun i' j e' d v h1 h2 h3 h4 => by
        rw [List.getElem?_take] at h4
        split at h4
        · exact hr i' j e' d v h2 h3 (by simpa using h4)
        · cases h4) hes
      exact ⟨_, _, _, c, hrun, hc, hE, hI, hR⟩

theorem app_inv {oper : Oper} {size bytes : Nat} {zero : List Value} {s x : AArg} (hc : compileOp P oper = some (.app size bytes zero s x)) :
    ∃ t u e i z os ox, oper.op = .call { callee := .builtin .append, args := #[os, ox], argTypes := #[t, u] } ∧ P.underlying t = some (.slice e) ∧ P.underlying u = some (.slice e) ∧ P.info? e = some i ∧ i.zero = some z ∧
      z.cells.size = i.size ∧ 0 < i.bytes ∧ size = i.size ∧ bytes = i.bytes ∧ s = argOf os ∧ x = argOf ox := by
  have hk := kind_of hc rfl
  obtain ⟨c, he⟩ := op_call (.inr (.inr (.inl hk)))
  obtain ⟨dst, op, type, pos, after, guard⟩ := oper
  obtain ⟨callee, args, argTypes⟩ := c
  simp only at he
  subst he
  simp only [kindOp] at hk
  split at hk
  · simp [kindAI] at hk
  · simp [kindAI] at hk
  · simp only [compileOp, compileCall] at hc
    split at hc
    · rename_i t u os ox hts has
      have ha : args = #[os, ox] := by rw [← Array.toList_inj]; exact has
      have ht : argTypes = #[t, u] := by rw [← Array.toList_inj]; exact hts
      subst ha; subst ht
      split at hc
      · rename_i e e' h1 h2
        split at hc
        · rename_i hee
          subst hee
          cases h3 : P.info? e with
          | none => simp [h3] at hc
          | some i => cases h4 : i.zero with
            | none => simp [h3, h4] at hc
            | some z =>
              simp only [h3, h4, Option.bind_some] at hc
              split at hc
              · rename_i hz
                simp only [Option.some.injEq, AI.app.injEq] at hc
                obtain ⟨rfl, rfl, rfl, rfl, rfl⟩ := hc
                exact ⟨t, u, e, i, z, os, ox, rfl, h1, h2, h3, h4, hz.1, hz.2, rfl, rfl, rfl, rfl⟩
              · cases hc
        · cases hc
      · exfalso
        repeat' (first | (obtain ⟨_, _, hc⟩ := hc) | split at hc | (simp only [Option.bind_eq_some_iff] at hc))
        all_goals first | (cases hc; done) | (injection hc with hc; cases hc; done)
      · cases hc
    · cases hc
  · simp [kindAI] at hk
  · simp [kindAI] at hk
  · simp [kindAI] at hk

/-- append of a slice onto one of one's own -/
theorem WR.app {size bytes id n cap : Nat} {zero : List Value} {s x : AArg} {es news : List (List DC)} (hgd : gOK G as o.guard) (ha : o.ai = .app size bytes zero s x)
    (hs0 : evA G as.sl s = .one (.bld id n)) (hb : hpGet as.hp id = .arr cap size es) (hn : n ≤ es.length) (hsrc : srcV as.hp (evA G as.sl x) = some news) (hns : ∀ e ∈ news, e.length = size)
    (hub : (n + news.length) * bytes ≤ 140737488355328)
    (h : ∀ cap', n + news.length ≤ cap' → WR P G k rest Q ⟨putS (as.sl.map (killV (· == id))) o.dst (.one (.bld id (n + news.length))), (as.hp.map (killO (· == id))).set id (.arr cap' size (es.take n ++ news))⟩) :
    WR P G k (o :: rest) Q as := by
  refine WR.step hgd (fun F γ a w oper hc hd hi hs hg hk => ?_)
  rw [ha] at hc
  obtain ⟨t, u, e, i, z, os, ox, hop, ht, hu, hin, hz, hzs, hby, rfl, rfl, rfl, rfl⟩ := app_inv hc
  have hsv := rv_arg (G := G) hs hg os
  rw [hs0] at hsv
  have hsv' := rv_of_one hsv
  obtain ⟨A, c, hxe, nv, hnl, hfc, hnr, hn1⟩ := src_ok hsrc (rv_arg hs hg ox) hi hns
  have hxl : (Builtin.lenOf (a.eval ox)).run P w = .ok news.length w := by rw [hxe]; rfl
  obtain ⟨r, w', x', cap', hrun, hcap, hE, hI, hR⟩ := app_step (k := k) (ty := oper.type) ht hu (.inl rfl) hin hz hzs hby hi hb hsv' hn hns hub nv hnl hfc hxl hnr hn1
  obtain ⟨dst, op, type, pos, after, guard⟩ := oper
  simp only at hop
  subst hop
  refine .inl ⟨_, r, w', _, F, _, ?_, .inl rfl, h cap' hcap, hE, hI, ?_, by simpa using hk⟩
  · simp only at hrun
    simp [execOp, resolve, invoke, builtin, hrun]
  · exact (hs.kill (fun _ _ h => h) (fun i' o h1 h2 => get_set_other h2 h1)).put _ (.one _ _ hR)


theorem Inv.nilp {hp : List AObj} (size : Nat) (hi : Inv F γ hp w) : Inv F (γ ++ [OI.arr none 0]) (hp ++ [.arr 0 size []]) w ∧ Ext k F γ w F (γ ++ [OI.arr none 0]) w := by
  have hext : ∀ (id : Nat) (o : OI), γ[id]? = some o → (γ ++ [OI.arr none 0])[id]? = some o := fun _ _ h => get_append_left h
  have hb : ∀ i b, blkAt (γ ++ [OI.arr none 0]) i = some b → blkAt γ i = some b := by
    intro i b h
    obtain ⟨y, hy, hyb⟩ := blkAt_some h
    rcases append_one hy with h1 | ⟨_, rfl⟩
    · exact blkAt_of h1 hyb
    · simp [OI.blk] at hyb
  refine ⟨⟨hi.fz, by simp [hi.len], fun i j b h1 h2 => hi.nd i j b (hb i b h1) (hb j b h2), fun i b h => hi.disj i b (hb i b h), ?_⟩,
    ⟨fun _ _ h => h, rfl, rfl, rfl, Nat.le_refl _, fun _ _ _ => rfl, fun _ _ h => .inl h, fun i b h => .inl ⟨i, hb i b h⟩, fun i _ b h => hext _ _ h⟩⟩
  intro i o x h1 h2
  rcases append_one h2 with h3 | ⟨h3, rfl⟩
  · have hl : i < hp.length := by rw [← hi.len]; exact lt_of_get h3
    rw [List.getElem?_append_left hl] at h1
    exact (hi.ok i o x h1 h3).ext (fun _ _ h => h) hext (fun _ _ => rfl)
  · rw [h3, hi.len] at h1
    simp at h1
    subst h1
    exact ⟨rfl, rfl, rfl⟩

/-- the first elements of a nil slice -/
theorem WR.appNil {size bytes : Nat} {zero : List Value} {s x : AArg} {news : List (List DC)} (hgd : gOK G as o.guard) (ha : o.ai = .app size bytes zero s x)
    (hs0 : evA G as.sl s = rawV (.slice none 0 0)) (hsrc : srcV as.hp (evA G as.sl x) = some news) (hns : ∀ e ∈ news, e.length = size)
    (hub : news.length * bytes ≤ 140737488355328)
    (h : ∀ cap', news.length ≤ cap' → WR P G k rest Q ⟨putS as.sl o.dst (.one (.bld as.hp.length news.length)), as.hp.map (killO (· == as.hp.length)) ++ [.arr cap' size news]⟩) :
    WR P G k (o :: rest) Q as := by
  refine WR.step hgd (fun F γ a w oper hc hd hi hs hg hk => ?_)
  rw [ha] at hc
  obtain ⟨t, u, e, i, z, os, ox, hop, ht, hu, hin, hz, hzs, hby, rfl, rfl, rfl, rfl⟩ := app_inv hc
  obtain ⟨hi0, hE0⟩ := Inv.nilp (k := k) i.size hi
  have hsv := rv_arg (G := G) hs hg os
  rw [hs0] at hsv
  have hsv2 : a.eval os = .slice none 0 0 := rv_raw hsv
  have hsv' : RC F (γ ++ [OI.arr none 0]) (.bld as.hp.length 0) (a.eval os) := by
    rw [hsv2]
    exact .bldN _ 0 (by rw [← hi.len]; simp)
  obtain ⟨A, c, hxe, nv, hnl, hfc, hnr, hn1⟩ := src_ok hsrc (rv_arg hs hg ox) hi hns
  have hxl : (Builtin.lenOf (a.eval ox)).run P w = .ok news.length w := by rw [hxe]; rfl
  have hb : hpGet (as.hp ++ [AObj.arr 0 i.size []]) as.hp.length = AObj.arr 0 i.size [] := by simp [hpGet]
  obtain ⟨r, w', x', cap', hrun, hcap, hE, hI, hR⟩ := app_step (k := k) (ty := oper.type) ht hu (.inl rfl) hin hz hzs hby hi0 hb hsv' (Nat.zero_le _) hns (by simpa using hub) nv hnl hfc hxl hnr hn1
  obtain ⟨dst, op, type, pos, after, guard⟩ := oper
  simp only at hop
  subst hop
  have e1 : ((as.hp ++ [AObj.arr 0 i.size []]).map (killO (· == as.hp.length))).set as.hp.length (AObj.arr cap' i.size (([] : List (List DC)).take 0 ++ news)) = as.hp.map (killO (· == as.hp.length)) ++ [.arr cap' i.size news] := by
    simp
  rw [e1] at hI
  simp only [Nat.zero_add] at hR hcap
  refine .inl ⟨_, r, w', _, F, _, ?_, .inl rfl, h cap' hcap, hE0.trans hE, hI, ?_, by simp; omega⟩
  · simp only at hrun
    simp [execOp, resolve, invoke, builtin, hrun]
  · refine (hs.ext (fun _ _ h => h) (fun id o h1 => ?_)).put _ (.one _ _ hR)
    have hlt := lt_of_get h1
    rw [List.getElem?_set_ne (by rw [← hi.len]; omega)]
    exact get_append_left h1

theorem isnil_inv {oper : Oper} {neg : Bool} {x : AArg} (hc : compileOp P oper = some (.isnil false neg x)) :
    ∃ t e ox u, oper.op = .binOp (if neg then .neq else .eql) t ox (.const (.slice none 0 0)) u ∧ P.underlying t = some (.slice e) ∧ x = argOf ox := by
  obtain ⟨b, t, ox, y, u, he⟩ := op_isnil (kind_of hc rfl)
  simp only [compileOp, he, compileBin] at hc
  have key : ∀ d, P.underlying t = some d → compileNil b d ox y = some (.isnil false neg x) → ∃ t e ox u, oper.op = .binOp (if neg then .neq else .eql) t ox (.const (.slice none 0 0)) u ∧ P.underlying t = some (.slice e) ∧ x = argOf ox := by
    intro d hd h
    unfold compileNil at h
    split at h
    all_goals try (cases h; done)
    all_goals
      cases hk : nilK d y with
      | none => simp [hk] at h
      | some p =>
        simp only [hk, Option.map_some, Option.some.injEq, AI.isnil.injEq] at h
        obtain ⟨rfl, rfl, rfl⟩ := h
        unfold nilK at hk
        split at hk
        · exact ⟨_, _, _, _, he, hd, rfl⟩
        · simp at hk
        · cases hk
  split at hc
  all_goals try (rename_i hu; exact key _ hu hc)
  all_goals (repeat' split at hc) <;> first | (cases hc; done) | (simp [Option.map_eq_some_iff] at hc; done)
/-- an empty slice may be nil -/
theorem WR.isnil0 {neg : Bool} {x : AArg} (hgd : gOK G as o.guard) (ha : o.ai = .isnil false neg x) (hx : evA G as.sl x = .one (.dc (.slc [])))
    (h : ∀ b, WR P G k rest Q ⟨putS as.sl o.dst (rawV (.bool b)), as.hp⟩) : WR P G k (o :: rest) Q as := by
  refine WR.step hgd (fun F γ a w oper hc hd hi hs hg hk => ?_)
  rw [ha] at hc
  obtain ⟨t, e, ox, u, hop, hu, rfl⟩ := isnil_inv hc
  have hxv := rv_arg (G := G) hs hg ox
  rw [hx] at hxv
  have hval : ∃ A n c, a.eval ox = .slice A n c := by
    generalize a.eval ox = v at hxv
    cases hxv with | one c _ hcc => cases hcc with | dc d _ hd => cases hd with
    | nil A c => exact ⟨_, _, _, rfl⟩
    | slc => exact ⟨_, _, _, rfl⟩
  obtain ⟨A, n, c, hval⟩ := hval
  obtain ⟨dst, op, type, pos, after, guard⟩ := oper
  simp only at hop
  subst hop
  have he : (Op.equal t (.slice A n c) (.slice none 0 0)).run P w = .ok A.isNone w := by
    exact eqn_slice 9999 hu
  refine .inl ⟨.value (.bool (A.isNone != neg)), .bool (A.isNone != neg), w, _, F, γ, ?_, .inl rfl, h _, Ext.refl _ _ _ _, hi, (hs.put _ (rv_rawV rfl)), hk⟩
  have hn0 : a.eval (.const (.slice none 0 0)) = .slice none 0 0 := rfl
  cases neg <;> simp [execOp, hval, hn0, eqGuard, Go.binOp, he]

def clrE (es : List (List DC)) (k n : Nat) (z : List DC) : List (List DC) := es.take k ++ List.replicate n z ++ es.drop (k + n)
theorem clrE_len {es : List (List DC)} {k n : Nat} {z : List DC} (h : k + n ≤ es.length) : (clrE es k n z).length = es.length := by simp [clrE]; omega
theorem clrE_get {es : List (List DC)} {k n : Nat} {z : List DC} (h : k + n ≤ es.length) (i : Nat) : (clrE es k n z)[i]? = if k ≤ i ∧ i < k + n then some z else es[i]? := by
  unfold clrE
  by_cases c1 : i < k
  · rw [List.append_assoc, List.getElem?_append_left (by simp; omega), List.getElem?_take, if_pos c1, if_neg (by omega)]
  · by_cases c2 : i < k + n
    · rw [List.getElem?_append_left (by simp; omega), List.getElem?_append_right (by simp; omega), List.getElem?_replicate, if_pos (by simp; omega), if_pos (by omega)]
    · rw [List.getElem?_append_right (by simp; omega), if_neg (by omega), List.getElem?_drop]
      congr 1
      simp; omega
theorem clr_inv {oper : Oper} {size : Nat} {zero : List Value} {x : AArg} (hc : compileOp P oper = some (.clr size zero x)) :
    ∃ t e i z ox, oper.op = .call ⟨.builtin .clear, #[ox], #[t]⟩ ∧ P.underlying t = some (.slice e) ∧ P.info? e = some i ∧ i.zero = some z ∧ z.cells.size = i.size ∧ 0 < i.size ∧ z.cells.toList.all is1 = true ∧ size = i.size ∧ zero = z.cells.toList ∧ x = argOf ox := by
  obtain ⟨c, he, hcal⟩ := op_clr (kind_of hc rfl)
  obtain ⟨dst, op, type, pos, after, guard⟩ := oper
  obtain ⟨callee, args, argTypes⟩ := c
  simp only at he hcal
  subst he
  subst hcal
  simp only [compileOp, compileCall] at hc
  split at hc
  · rename_i t ox hts has
    have ha : args = #[ox] := by rw [← Array.toList_inj]; exact has
    have ht : argTypes = #[t] := by rw [← Array.toList_inj]; exact hts
    subst ha; subst ht
    split at hc
    · rename_i e h1
      cases h3 : P.info? e with
      | none => simp [h3] at hc
      | some i => cases h4 : i.zero with
        | none => simp [h3, h4] at hc
        | some z =>
          simp only [h3, h4, Option.bind_some] at hc
          split at hc
          · rename_i hz
            simp only [Option.some.injEq, AI.clr.injEq] at hc
            obtain ⟨rfl, rfl, rfl⟩ := hc
            exact ⟨t, e, i, z, ox, rfl, h1, h3, h4, hz.1, hz.2.1, hz.2.2, rfl, rfl, rfl⟩
          · cases hc
    · cases hc
  · cases hc
theorem WR.clr {size id k0 n cap : Nat} {zero : List Value} {x : AArg} {es : List (List DC)} (hgd : gOK G as o.guard) (ha : o.ai = .clr size zero x)
    (hx : evA G as.sl x = .one (.bls id k0 n size) ∨ (k0 = 0 ∧ evA G as.sl x = .one (.bld id n))) (hb : hpGet as.hp id = .arr cap size es) (hn : 0 < n) (hle : k0 + n ≤ es.length)
    (h : WR P G k rest Q ⟨putS as.sl o.dst (.tup []), as.hp.set id (.arr cap size (clrE es k0 n (zero.map DC.raw)))⟩) : WR P G k (o :: rest) Q as := by
  refine WR.step hgd (fun F γ a w oper hc hd hi hs hg hk => ?_)
  rw [ha] at hc
  obtain ⟨t, e, i, z, ox, hop, hu, hin, hz, hzs, hsz, hz1, rfl, rfl, rfl⟩ := clr_inv hc
  have hxv := rv_arg (G := G) hs hg ox
  have hval : ∃ b cap' c, γ[id]? = some (.arr (some b) cap') ∧ a.eval ox = .slice (some ⟨b, k0 * i.size, none⟩) n c := by
    rcases hx with hx | ⟨rfl, hx⟩
    · rw [hx] at hxv
      generalize a.eval ox = v at hxv
      cases hxv with | one c _ hcc => cases hcc with | bls _ _ _ _ b cap' c off hgm ho hcn =>
      have := ho (by omega)
      subst this
      rcases hgm with hgm | hgm
      · exact ⟨b, cap', c, hgm, rfl⟩
      · exact absurd hgm (hi.noArr hb)
    · rw [hx] at hxv
      generalize a.eval ox = v at hxv
      cases hxv with | one c _ hcc => cases hcc with
      | bldN _ _ _ => omega
      | bld _ _ b cap' hgm => exact ⟨b, cap', cap', hgm, by simp⟩
  obtain ⟨b, cap', c, hgm, hval⟩ := hval
  obtain ⟨hcap, hec, hes, ws, T, hh, hws, hwr⟩ := hi.arr hb hgm
  have hzl : z.cells.toList.length = i.size := by simpa using hzs
  have hze : (Builtin.zeroCells z.cells n).toList.length = n * i.size := by simp [Builtin.zeroCells, hzs]
  have hzget : ∀ q, q < n * i.size → (Builtin.zeroCells z.cells n).toList[q]? = some (z.cells[q % z.cells.size]!) := by
    intro q hq
    simp [Builtin.zeroCells, hzs, hq]
  have hz1' : ∀ v ∈ (Builtin.zeroCells z.cells n).toList, is1 v = true := by
    intro v hv
    obtain ⟨q, hq⟩ := List.getElem?_of_mem hv
    have hlt := lt_of_get hq
    rw [hze] at hlt
    rw [hzget q hlt] at hq
    injection hq with hq
    subst hq
    have hm : q % z.cells.size < z.cells.size := Nat.mod_lt _ (by omega)
    rw [getElem!_pos z.cells _ hm]
    exact List.all_eq_true.1 hz1 _ (by simp)
  have hfit : k0 * i.size + (n * i.size) ≤ ws.size := by
    rw [hws, ← Nat.add_mul]; exact Nat.mul_le_mul_right _ (by omega)
  have hst := run_storeCells_blk (P := P) (off := k0 * i.size) (Builtin.zeroCells z.cells n).toList 0 w ws hh hz1' (by rw [hze]; omega)
  have hne : (Builtin.zeroCells z.cells n).toList ≠ [] := by
    intro e0
    rw [e0] at hze
    have := Nat.mul_pos hn hsz
    simp at hze
    omega
  rw [if_neg hne] at hst
  obtain ⟨dst, op, type, pos, after, guard⟩ := oper
  simp only at hop
  subst hop
  have hzv : (zeroValue e).run P w = .ok z w := by simp [zeroValue, typeInfo, hin, hz]
  have hrun : (Builtin.clear_ #[t] type #[a.eval ox]).run P w = .ok (.tuple #[]) (setB w b (splice ws (k0 * i.size) (Builtin.zeroCells z.cells n).toList) T) := by
    obtain ⟨m, rfl⟩ : ∃ m, n = m + 1 := ⟨n - 1, by omega⟩
    rw [hval]
    simp [Builtin.clear_, run_underlying hu, hzv, hst]
  refine .inl ⟨.value (.tuple #[]), .tuple #[], setB w b (splice ws (k0 * i.size) (Builtin.zeroCells z.cells n).toList) T, _, F, γ, ?_, .inl rfl, h, Ext.setB hi hgm rfl, ?_, (hs.put _ (.tup [] #[] rfl (fun i t v h => by simp at h))), hk⟩
  · simp [execOp, resolve, invoke, builtin, hrun]
  · refine hi.setObj hgm rfl ⟨hcap, by rw [clrE_len hle]; exact hec, fun q hq => ?_, _, T, setB_same (heap_lt hh), by rw [splice_size, hws], fun i' j e1 d v h1 h2 h3 => ?_⟩
    · obtain ⟨i', hi'⟩ := List.getElem?_of_mem hq
      rw [clrE_get hle] at hi'
      split at hi'
      · injection hi' with hi'; rw [← hi', List.length_map, hzl]
      · exact hes q (List.mem_of_getElem? hi')
    · rw [clrE_get hle] at h1
      rw [splice_get] at h3
      simp only [Nat.add_zero, hze] at h3
      split at h1
      · rename_i hc'
        injection h1 with h1; subst h1
        have hj : j < i.size := by have := lt_of_get h2; simpa [hzs] using this
        have h5 := mul_lt_cap (show i' - k0 < n by omega) (Nat.le_refl _) hj
        have h6 : i' * i.size + j = k0 * i.size + ((i' - k0) * i.size + j) := by
          rw [← Nat.add_assoc, ← Nat.add_mul]
          congr 2
          omega
        rw [h6, if_pos ⟨by omega, by omega, by omega⟩, Nat.add_sub_cancel_left, hzget _ h5] at h3
        injection h3 with h3
        subst h3
        have hm : ((i' - k0) * i.size + j) % z.cells.size = j := by rw [hzs, Nat.mul_comm, Nat.mul_add_mod, Nat.mod_eq_of_lt hj]
        rw [hm, getElem!_pos z.cells j (by omega)]
        rw [List.getElem?_map] at h2
        obtain ⟨u, hu1, rfl⟩ := Option.map_eq_some_iff.1 h2
        have : u = z.cells[j]'(by omega) := by
          have h7 : z.cells.toList[j]? = some (z.cells[j]'(by omega)) := by simp [hzs, hj]
          rw [h7] at hu1; injection hu1 with hu1; exact hu1.symm
        subst this
        exact .raw _ (List.all_eq_true.1 hz1 _ (by simp))
      · rename_i hc'
        have hj : j < i.size := by have := lt_of_get h2; have := hes _ (List.mem_of_getElem? h1); omega
        rw [if_neg (by
          rintro ⟨a1, a2, _⟩
          rcases Nat.lt_or_ge i' k0 with c1 | c1
          · have := mul_lt_cap c1 (Nat.le_refl _) hj; omega
          · have h8 : (k0 + n) * i.size ≤ i' * i.size := Nat.mul_le_mul_right _ (by omega)
            rw [Nat.add_mul] at h8
            omega)] at h3
        exact hwr i' j e1 d v h1 h2 h3
theorem clrE_zero {es : List (List DC)} {k : Nat} {z : List DC} : clrE es k 0 z = es := by simp [clrE]
theorem set_same {hp : List AObj} {id : Nat} {ob : AObj} (hb : hpGet hp id = ob) (hne : ob ≠ .dead) : hp.set id ob = hp := by
  unfold hpGet at hb
  cases h : hp[id]? with
  | none => rw [List.getD_eq_getElem?_getD, h] at hb; exact absurd hb.symm hne
  | some o =>
    rw [List.getD_eq_getElem?_getD, h] at hb
    simp only [Option.getD_some] at hb
    subst hb
    obtain ⟨hl, hh⟩ := List.getElem?_eq_some_iff.1 h
    rw [← hh]; exact List.set_getElem_self hl
/-- clear of nothing -/
theorem WR.clr0 {size id k0 : Nat} {zero : List Value} {x : AArg} (hgd : gOK G as o.guard) (ha : o.ai = .clr size zero x)
    (hx : evA G as.sl x = .one (.bls id k0 0 size) ∨ evA G as.sl x = .one (.bld id 0))
    (h : WR P G k rest Q ⟨putS as.sl o.dst (.tup []), as.hp⟩) : WR P G k (o :: rest) Q as := by
  refine WR.step hgd (fun F γ a w oper hc hd hi hs hg hk => ?_)
  rw [ha] at hc
  obtain ⟨t, e, i, z, ox, hop, hu, hin, hz, hzs, hsz, hz1, rfl, rfl, rfl⟩ := clr_inv hc
  have hxv := rv_arg (G := G) hs hg ox
  have hval : ∃ p c, a.eval ox = .slice p 0 c := by
    rcases hx with hx | hx
    · rw [hx] at hxv
      generalize a.eval ox = v at hxv
      cases hxv with | one c _ hcc => cases hcc with | bls => exact ⟨_, _, rfl⟩
    · rw [hx] at hxv
      generalize a.eval ox = v at hxv
      cases hxv with | one c _ hcc => cases hcc <;> exact ⟨_, _, rfl⟩
  obtain ⟨p, c, hval⟩ := hval
  obtain ⟨dst, op, type, pos, after, guard⟩ := oper
  simp only at hop
  subst hop
  have hrun : (Builtin.clear_ #[t] type #[a.eval ox]).run P w = .ok (.tuple #[]) w := by
    rw [hval]
    cases p <;> simp [Builtin.clear_, run_underlying hu]
  refine .inl ⟨.value (.tuple #[]), .tuple #[], w, _, F, γ, ?_, .inl rfl, h, Ext.refl _ _ _ _, hi, (hs.put _ (.tup [] #[] rfl (fun i t v h => by simp at h))), hk⟩
  simp [execOp, resolve, invoke, builtin, hrun]
/-- bytes as cells, and as data -/
def bytesCel (l : List UInt8) : List Cel := l.map fun b => rawC (.int .u8 b.toNat)
def bytesD (s : ByteArray) : List (List DC) := s.data.toList.map fun b => [DC.raw (.int .u8 b.toNat)]
theorem cpys_inv {oper : Oper} {d x : AArg} (hc : compileOp P oper = some (.cpys d x)) :
    ∃ t u e od ox, oper.op = .call ⟨.builtin .copy, #[od, ox], #[t, u]⟩ ∧ P.underlying t = some (.slice e) ∧ (P.info? e).map (·.size) = some 1 ∧ d = argOf od ∧ x = argOf ox := by
  obtain ⟨c, he, hcal⟩ := op_cpys (kind_of hc rfl)
  obtain ⟨dst, op, type, pos, after, guard⟩ := oper
  obtain ⟨callee, args, argTypes⟩ := c
  simp only at he hcal
  subst he
  subst hcal
  simp only [compileOp, compileCall] at hc
  split at hc
  · rename_i t u od ox hts has
    have ha : args = #[od, ox] := by rw [← Array.toList_inj]; exact has
    have ht : argTypes = #[t, u] := by rw [← Array.toList_inj]; exact hts
    subst ha; subst ht
    split at hc
    · rename_i e h1 h2
      split at hc
      · rename_i h3
        simp only [Option.some.injEq, AI.cpys.injEq] at hc
        obtain ⟨rfl, rfl⟩ := hc
        exact ⟨t, u, e, od, ox, rfl, h1, h3, rfl, rfl⟩
      · cases hc
    · cases hc
  · cases hc
/-- copy of a string onto a slice of bytes in a box -/
theorem WR.cpys {id lo n : Nat} {d x : AArg} {cs : List Cel} {s : ByteArray} (hgd : gOK G as o.guard) (ha : o.ai = .cpys d x) (hd0 : evA G as.sl d = .one (.bls id lo n 1)) (hx : asStr? (evA G as.sl x) = some s)
    (hb : hpGet as.hp id = .box cs) (hle : lo + n ≤ cs.length)
    (h : WR P G k rest Q ⟨putS as.sl o.dst (rawV (.int .i64 (min s.size n : Nat))), as.hp.set id (.box (putAt cs lo (bytesCel (s.data.toList.take n))))⟩) : WR P G k (o :: rest) Q as := by
  refine WR.step hgd (fun F γ a w oper hc hd hi hs hg hk => ?_)
  rw [ha] at hc
  obtain ⟨t, u, e, od, ox, hop, hu, hin, rfl, rfl⟩ := cpys_inv hc
  have hdv := rv_arg (G := G) hs hg od
  rw [hd0] at hdv
  have hxv := rv_str (rv_arg (G := G) hs hg ox) hx
  obtain ⟨b, c, off, hgm, hdval, hoff⟩ : ∃ b c off, γ[id]? = some (.box b) ∧ a.eval od = .slice (some ⟨b, off, none⟩) n c ∧ (n ≠ 0 → off = lo) := by
    generalize a.eval od = v at hdv
    cases hdv with | one c _ hcc => cases hcc with | bls _ _ _ _ b cap' c off hgm ho hcn =>
    rcases hgm with hgm | hgm
    · exact absurd hgm (hi.noBox hb)
    · exact ⟨b, c, off, hgm, rfl, fun h => by rw [ho h, Nat.mul_one]⟩
  obtain ⟨ws, T, hh, hws, hwr⟩ := hi.box hb hgm
  obtain ⟨dst, op, type, pos, after, guard⟩ := oper
  simp only at hop
  subst hop
  -- the bytes that are written
  have hbl : ((s.extract 0 (min s.size n)).data.map fun b => Value.int .u8 b.toNat) = ((s.data.toList.take n).map fun b => Value.int .u8 b.toNat).toArray := by
    apply Array.ext'
    simp only [Array.toList_map, ByteArray.data_extract, Array.toList_extract, List.extract_eq_take_drop, Nat.sub_zero, List.drop_zero]
    congr 1
    rw [List.take_eq_take_iff]
    simp
    omega
  have hsz : ((s.data.toList.take n).map fun b => Value.int .u8 b.toNat).length = min s.size n := by simp [Nat.min_comm]
  have hinf : ∃ inf, P.info? e = some inf ∧ inf.size = 1 := by
    cases hi1 : P.info? e with
    | none => rw [hi1] at hin; cases hin
    | some inf => rw [hi1] at hin; injection hin with hin; exact ⟨inf, rfl, hin⟩
  obtain ⟨inf, hin, hin1⟩ := hinf
  have hrc : RCs F γ (bytesCel (s.data.toList.take n)) ((s.data.toList.take n).map fun b => Value.int .u8 b.toNat).toArray := by
    refine ⟨by simp [bytesCel], fun q c v h1 h2 => ?_⟩
    simp only [bytesCel, List.getElem?_map, List.getElem?_toArray] at h1 h2
    cases hq : (s.data.toList.take n)[q]? with
    | none => rw [hq] at h1; cases h1
    | some bb =>
      rw [hq] at h1 h2
      injection h1 with h1; injection h2 with h2
      subst h1; subst h2
      exact .dc _ _ (.raw _ rfl)
  have hall : ∀ v ∈ ((s.data.toList.take n).map fun b => Value.int .u8 b.toNat), is1 v = true := fun v hv => by
    obtain ⟨q, _, rfl⟩ := List.mem_map.1 hv; rfl
  have hemp : ((s.data.toList.take n).map fun b => Value.int .u8 b.toNat) = [] → s.data.toList.take n = [] := fun h0 => by simpa using h0
  have hn0 : n = 0 → ((s.data.toList.take n).map fun b => Value.int .u8 b.toNat) = [] := fun h0 => by subst h0; rfl
  have hbl2 : List.take (min s.size n) (List.map (fun b => Value.int .u8 b.toNat) s.data.toList) = ((s.data.toList.take n).map fun b => Value.int .u8 b.toNat) := by
    rw [List.map_take, List.take_eq_take_iff]
    simp
    omega
  generalize ((s.data.toList.take n).map fun b => Value.int .u8 b.toNat) = L at hbl hbl2 hsz hrc hall hemp hn0
  have hst : (storeCells ⟨b, off, none⟩ L).run P w = .ok () (if L = [] then w else setB w b (splice ws off L) T) := by
    by_cases h0 : n = 0
    · rw [hn0 h0]; rfl
    · exact run_storeCells_blk _ 0 w ws hh hall (by rw [hsz, hoff h0, hws]; omega)
  have hrun : (Builtin.copy_ #[t, u] type #[a.eval od, a.eval ox]).run P w = .ok (.int .i64 (min s.size n : Nat)) (if L = [] then w else setB w b (splice ws off L) T) := by
    have e1 : Nat.min s.size n = min s.size n := rfl
    simp [Builtin.copy_, hdval, hxv, run_underlying hu, Builtin.lenOf, Builtin.firstCells, sizeOf, typeInfo, hin, hin1, hbl2, e1, hst, goInt]
  refine .inl ⟨.value (.int .i64 (min s.size n : Nat)), .int .i64 (min s.size n : Nat), (if L = [] then w else setB w b (splice ws off L) T), _, F, γ, ?_, .inl rfl, h, ?_, ?_, (hs.put _ (rv_rawV rfl)), hk⟩
  · simp [execOp, resolve, invoke, builtin, hrun]
  · split
    · exact Ext.refl _ _ _ _
    · exact Ext.setB hi hgm rfl
  · split
    · rename_i h0
      rw [hemp h0]
      have h2 : putAt cs lo (bytesCel []) = cs := by simp [bytesCel, putAt]
      rw [h2, set_same hb (by simp)]
      exact hi
    · rename_i h0
      rw [hoff (fun e => h0 (hn0 e))]
      refine hi.setObj hgm rfl ?_
      have := splice_put (off := lo) ⟨hws, hwr⟩ hrc (by
        have : (bytesCel (s.data.toList.take n)).length ≤ n := by simp [bytesCel]; omega
        omega)
      exact ⟨_, T, setB_same (heap_lt hh), this.1, this.2⟩
theorem cvsb_inv {oper : Oper} {x : AArg} (hc : compileOp P oper = some (.cvsb x)) :
    ∃ s d e ox, oper.op = .convert s d ox ∧ P.underlying s = some .string ∧ P.underlying d = some (.slice e) ∧ P.underlying e = some (.int .u8) ∧ x = argOf ox := by
  obtain ⟨s, d, ox, he⟩ := op_cvsb (kind_of hc rfl)
  simp only [compileOp, he, compileConv] at hc
  split at hc
  · cases hc
  · cases hc
  · split at hc <;> cases hc
  · rename_i e h1 h2
    split at hc
    · rename_i h3
      injection hc with hc
      injection hc with hc
      exact ⟨s, d, e, ox, he, h1, h2, h3, hc.symm⟩
    · cases hc
  · cases hc
/-- the bytes of a string: a slice that nobody writes -/
theorem WR.cvsb {x : AArg} {s : ByteArray} (hgd : gOK G as o.guard) (ha : o.ai = .cvsb x) (hx : asStr? (evA G as.sl x) = some s)
    (h : WR P G k rest Q ⟨putS as.sl o.dst (.one (.dc (.slc (bytesD s)))), as.hp⟩) : WR P G k (o :: rest) Q as := by
  refine WR.step hgd (fun F γ a w oper hc hd hi hs hg hk => ?_)
  rw [ha] at hc
  obtain ⟨src, dstT, e, ox, hop, hu1, hu2, hu3, rfl⟩ := cvsb_inv hc
  have hxv := rv_str (rv_arg (G := G) hs hg ox) hx
  obtain ⟨dst, op, type, pos, after, guard⟩ := oper
  simp only at hop
  subst hop
  have hrun := Lib.run_convert_string_bytes (P := P) w src dstT e s hu1 hu2 hu3
  have hold := Lib.bytesWorld_at_old w e s
  have hnew := Lib.bytesWorld_at_new w e s
  have hlenD : (bytesD s).length = s.size := by simp [bytesD]
  let F' : Fz := fun b => if b = w.heap.size then some (.cells (Lib.bytesCells w e s) e ((Lib.bytesCells w e s).size, (Lib.bytesCells w e s).size + 1)) else F b
  have hFold : ∀ b o, F b = some o → F' b = some o := fun b o hb => by
    have := hi.fzlt hb
    show (if b = w.heap.size then _ else F b) = some o
    rw [if_neg (by omega)]; exact hb
  have hsub : F.sub F' := hFold
  have hFnew : F' w.heap.size = some (.cells (Lib.bytesCells w e s) e ((Lib.bytesCells w e s).size, (Lib.bytesCells w e s).size + 1)) := if_pos rfl
  have hExt : Ext k F γ w F' γ (Lib.bytesWorld w e s) := by
    refine ⟨hsub, rfl, rfl, rfl, by rw [Lib.bytesWorld_size]; omega, fun b hb _ => hold b hb, fun b o hb => ?_, fun i b hb => .inl ⟨i, hb⟩, fun _ _ _ h => h⟩
    by_cases hbe : b = w.heap.size
    · exact .inr (.inl (by omega))
    · have : F' b = F b := if_neg hbe
      rw [this] at hb; exact .inl hb
  have hInv : Inv F' γ as.hp (Lib.bytesWorld w e s) := by
    refine ⟨fun b o hb => ?_, hi.len, hi.nd, fun i b hb => ?_, fun i ob x0 h1 h2 => ?_⟩
    · by_cases hbe : b = w.heap.size
      · subst hbe; rw [hFnew] at hb; rw [hnew]; exact hb
      · have : F' b = F b := if_neg hbe
        rw [this] at hb
        rw [hold b (hi.fzlt hb)]; exact hi.fz b o hb
    · have := hi.lt hb
      have e1 : F' b = F b := if_neg (by omega)
      rw [e1]; exact hi.disj i b hb
    · have hok := hi.ok i ob x0 h1 h2
      exact hok.ext hsub (fun _ _ h => h) (fun b hb2 => hold b (hok.lt hb2))
  have hcapge : s.size ≤ grownCap w s.size 0 e := by
    show s.size ≤ s.size + _
    exact Nat.le_add_right _ _
  have hrd : RD F' (.slc (bytesD s)) (.slice (some ⟨w.heap.size, 0, none⟩) s.size (grownCap w s.size 0 e)) := by
    rw [← hlenD]
    refine .slc w.heap.size 0 _ 1 (bytesD s) (fun i _ => .int .u8 (s.data.toList.getD i 0).toNat) (fun q hq => ?_) (fun i j q d h1 h2 => ?_) (fun i j q d h1 h2 => ?_) (by rw [hlenD]; exact hcapge)
    · simp only [bytesD, List.mem_map] at hq
      obtain ⟨bb, _, rfl⟩ := hq; rfl
    · simp only [bytesD, List.getElem?_map] at h1
      cases hq : s.data.toList[i]? with
      | none => rw [hq] at h1; cases h1
      | some bb =>
        rw [hq] at h1; injection h1 with h1; subst h1
        cases j with
        | zero =>
          injection h2 with h2; subst h2
          rw [List.getD_eq_getElem?_getD, hq]
          exact .raw _ rfl
        | succ j => simp at h2
    · have hj : j = 0 := by
        simp only [bytesD, List.getElem?_map] at h1
        cases hq : s.data.toList[i]? with
        | none => rw [hq] at h1; cases h1
        | some bb =>
          rw [hq] at h1; injection h1 with h1; subst h1
          cases j with
          | zero => rfl
          | succ j => simp at h2
      subst hj
      have hilt : i < s.size := by have := lt_of_get h1; omega
      have hcell := Lib.bytesWorld_cell w e s i hilt
      simp only [Fz.cell?, hFnew, Option.isSome_none, Bool.false_eq_true, if_false, Nat.mul_one, Nat.add_zero, Nat.zero_add]
      simpa [World.cell?, hnew] using hcell
  refine .inl ⟨.value (.slice (some ⟨w.heap.size, 0, none⟩) s.size (grownCap w s.size 0 e)), _, _, _, F', γ, ?_, .inl rfl, h, hExt, hInv, ((hs.ext hsub (fun _ _ h => h)).put _ (.one _ _ (.dc _ _ hrd))), hk⟩
  simp [execOp, hxv, hrun]
end
end Go.Proofs.YtmognenhkecngaaGreatDoor
