/- append, over the abstract states. Conditions: none. -/
import Derived.Test.YtginjcpblgpcoaaLj
namespace Go.Proofs.Ytginjcpblgpcoaa
set_option linter.unusedSimpArgs false
set_option linter.unusedVariables false
section
variable {P : Program} {G : Glob} {k : Nat} {Q : AS → Prop} {as as' : AS} {o : AOp} {rest ops : List AOp} {F : Fz} {γ : List OI} {w w' : World} {hp : List AObj}

theorem get_set_other {γ : List OI} {id i : Nat} {x x' : OI} (h : γ[i]? = some x) (hne : (i == id) = false) : (γ.set id x')[i]? = some x := by
  rw [List.getElem?_set_ne (by simp at hne; exact Ne.symm hne)]; exact h

theorem Inv.setArr (hi : Inv F γ hp w) {id : Nat} {x x' : OI} {o' : AObj} (hx : γ[id]? = some x) (hblk : ∀ b, x'.blk = some b → x.blk = some b ∨ b = w.heap.size)
    (hfar : ∀ b, b < w.heap.size → x.blk ≠ some b → w'.heap[b]? = w.heap[b]?) (hok : OK F (γ.set id x') w' o' x') :
    Inv F (γ.set id x') ((hp.map (killO (· == id))).set id o') w' := by
  have hlt : id < γ.length := lt_of_get hx
  have hb : ∀ i b, blkAt (γ.set id x') i = some b → (i ≠ id ∧ blkAt γ i = some b) ∨ (i = id ∧ x'.blk = some b) := by
    intro i b h
    obtain ⟨y, hy, hyb⟩ := blkAt_some h
    by_cases hii : id = i
    · subst hii
      rw [List.getElem?_set_self hlt] at hy
      injection hy with hy; subst hy
      exact .inr ⟨rfl, hyb⟩
    · rw [List.getElem?_set_ne hii] at hy
      exact .inl ⟨Ne.symm hii, blkAt_of hy hyb⟩
  have hfz : ∀ b o, F b = some o → w'.heap[b]? = w.heap[b]? := fun b o h => hfar b (hi.fzlt h) (fun e => by rw [hi.disj id b (blkAt_of hx e)] at h; cases h)
  refine ⟨fun b o h => (hfz b o h).trans (hi.fz b o h), by simp [hi.len], ?_, ?_, ?_⟩
  · intro i j b h1 h2
    rcases hb i b h1 with ⟨a1, a2⟩ | ⟨a1, a2⟩ <;> rcases hb j b h2 with ⟨c1, c2⟩ | ⟨c1, c2⟩
    · exact hi.nd i j b a2 c2
    · exfalso
      rcases hblk b c2 with h | h
      · exact a1 (hi.nd i id b a2 (blkAt_of hx h))
      · have := hi.lt a2; omega
    · exfalso
      rcases hblk b a2 with h | h
      · exact c1 (hi.nd j id b c2 (blkAt_of hx h))
      · have := hi.lt c2; omega
    · omega
  · intro i b h
    rcases hb i b h with ⟨a1, a2⟩ | ⟨a1, a2⟩
    · exact hi.disj i b a2
    · rcases hblk b a2 with h | h
      · exact hi.disj id b (blkAt_of hx h)
      · cases hF : F b with
        | none => rfl
        | some o => have := hi.fzlt hF; omega
  · intro i o y h1 h2
    by_cases hii : id = i
    · subst hii
      rw [List.getElem?_set_self hlt] at h2
      rw [List.getElem?_set_self (by simpa [← hi.len] using hlt)] at h1
      injection h1 with h1; injection h2 with h2; subst h1; subst h2
      exact hok
    · rw [List.getElem?_set_ne hii] at h1 h2
      rw [List.getElem?_map] at h1
      cases ho : hp[i]? with
      | none => simp [ho] at h1
      | some o0 =>
        simp [ho] at h1; subst h1
        refine (hi.ok i o0 y ho h2).kill (fun _ _ h => h) (fun i' o hne h => get_set_other h hne) (fun b hyb => ?_)
        exact hfar b ((hi.ok i o0 y ho h2).lt hyb) (fun e => hii (hi.nd _ _ _ (blkAt_of hx e) (blkAt_of h2 hyb)))

theorem Ext.setArr (hi : Inv F γ hp w) {id : Nat} {x x' : OI} (hx : γ[id]? = some x) (hnb : ∀ b, x ≠ .box b) (hblk : ∀ b, x'.blk = some b → x.blk = some b ∨ b = w.heap.size)
    (hfar : ∀ b, b < w.heap.size → x.blk ≠ some b → w'.heap[b]? = w.heap[b]?) (h1 : w'.os = w.os) (h2 : w'.tape = w.tape) (h3 : w'.output = w.output) (h4 : w.heap.size ≤ w'.heap.size) : Ext k F γ w F (γ.set id x') w' := by
  have hlt : id < γ.length := lt_of_get hx
  refine ⟨fun _ _ h => h, h1, h2, h3, h4, fun b hb hn => hfar b hb (fun e => hn id (blkAt_of hx e)), fun _ _ h => .inl h, fun i b h => ?_, fun i _ b h => ?_⟩
  · obtain ⟨y, hy, hyb⟩ := blkAt_some h
    by_cases hii : id = i
    · subst hii
      rw [List.getElem?_set_self hlt] at hy
      injection hy with hy; subst hy
      rcases hblk b hyb with h | h
      · exact .inl ⟨id, blkAt_of hx h⟩
      · exact .inr (by omega)
    · rw [List.getElem?_set_ne hii] at hy
      exact .inl ⟨i, blkAt_of hy hyb⟩
  · by_cases hii : id = i
    · subst hii
      rw [hx] at h; injection h with h
      exact absurd h (hnb b)
    · rw [List.getElem?_set_ne hii]; exact h

/-- the elements of a slice -/
def srcV (hp : List AObj) : AV → Option (List (List DC))
  | .one (.dc (.slc es)) => some es
  | .one (.dc (.raw (.slice none 0 0))) => some []
  | .one (.bld id n) =>
    match hpGet hp id with
    | .arr _ _ es => if n ≤ es.length then some (es.take n) else none
    | _ => none
  | _ => none

theorem src_ok {av : AV} {x : Value} {es : List (List DC)} {size : Nat} (h : srcV hp av = some es) (hx : RV F γ av x) (hi : Inv F γ hp w) (hsz : ∀ e ∈ es, e.length = size) :
    ∃ A c, x = .slice A es.length c ∧ ∃ news : List Value, news.length = es.length * size ∧ (∀ w' : World, w'.heap = w.heap → (Builtin.firstCells size es.length x).run P w' = .ok news.toArray w') ∧
      (∀ (i j : Nat) e d v, es[i]? = some e → e[j]? = some d → news[i * size + j]? = some v → RD F d v) ∧ (∀ v ∈ news, is1 v = true) := by
  have loadAll : ∀ (b off : Nat) (c : Nat) (f : Nat → Value), (∀ j, j < es.length * size → w.cell? ⟨b, off + j, none⟩ = some (f j)) → ∀ w' : World, w'.heap = w.heap →
      (Builtin.firstCells size es.length (.slice (some ⟨b, off, none⟩) es.length c)).run P w' = .ok ((List.range (es.length * size)).map f).toArray w' := by
    intro b off c f hf w' hw
    simp only [Builtin.firstCells]
    refine run_loadCells w' _ _ f (fun j hj => ?_)
    rw [addr_add]
    have := hf j hj
    unfold World.cell? at this ⊢
    rw [hw]; exact this
  have split : ∀ j, j < es.length * size → 0 < size ∧ j / size < es.length ∧ j = (j / size) * size + j % size ∧ j % size < size := by
    intro j hj
    have hs : 0 < size := by
      rcases Nat.eq_zero_or_pos size with h | h
      · subst h; simp at hj
      · exact h
    refine ⟨hs, Nat.div_lt_of_lt_mul (by rw [Nat.mul_comm]; exact hj), ?_, Nat.mod_lt _ hs⟩
    have := Nat.div_add_mod j size
    rw [Nat.mul_comm]; omega
  unfold srcV at h
  split at h
  · rename_i es0
    injection h with h; subst h
    cases hx with | one c v hc => cases hc with | dc d v hd => cases hd with
    | nil A c =>
      refine ⟨A, c, rfl, [], by simp, fun w' _ => ?_, fun i j e d v h => by simp at h, fun v h => by simp at h⟩
      cases A with
      | none => rfl
      | some a => simp [Builtin.firstCells, loadCells, loadCellsFrom]
    | slc b off c size' es g hsz' hr hcc hcap =>
      refine ⟨_, c, rfl, (List.range (es0.length * size)).map fun j => g (j / size) (j % size), by simp, loadAll b off c _ (fun j hj => ?_), fun i j e d v h1 h2 h3 => ?_, fun v hv => ?_⟩
      · obtain ⟨hs, h1, h2, h3⟩ := split j hj
        have he : es0[j / size]? = some (es0[j / size]'h1) := List.getElem?_eq_getElem h1
        have hel := hsz _ (List.mem_of_getElem? he)
        have hel' := hsz' _ (List.mem_of_getElem? he)
        have hd : (es0[j / size]'h1)[j % size]? = some ((es0[j / size]'h1)[j % size]'(by omega)) := List.getElem?_eq_getElem _
        have := hcc _ _ _ _ he hd
        rw [← hel', hel, ← h2] at this
        exact Fz.cell_world hi.fz this
      · have hj : j < size := by have := lt_of_get h2; have := hsz _ (List.mem_of_getElem? h1); omega
        have hlt := mul_lt_cap (lt_of_get h1) (Nat.le_refl _) hj
        simp only [List.getElem?_map, List.getElem?_range hlt, Option.map_some, Option.some.injEq] at h3
        have e1 : (i * size + j) / size = i := by rw [Nat.mul_comm, Nat.mul_add_div (by omega), Nat.div_eq_of_lt hj, Nat.add_zero]
        have e2 : (i * size + j) % size = j := by rw [Nat.mul_comm, Nat.mul_add_mod, Nat.mod_eq_of_lt hj]
        rw [e1, e2] at h3
        subst h3
        exact hr i j e d h1 h2
      · simp only [List.mem_map, List.mem_range] at hv
        obtain ⟨j, hj, rfl⟩ := hv
        obtain ⟨hs, h1, h2, h3⟩ := split j hj
        have he : es0[j / size]? = some (es0[j / size]'h1) := List.getElem?_eq_getElem h1
        have hel := hsz _ (List.mem_of_getElem? he)
        have hd : (es0[j / size]'h1)[j % size]? = some ((es0[j / size]'h1)[j % size]'(by omega)) := List.getElem?_eq_getElem _
        exact (hr _ _ _ _ he hd).is1
  · injection h with h; subst h
    rw [rv_raw hx]
    exact ⟨none, 0, rfl, [], by simp, fun w' _ => rfl, fun i j e d v h => by simp at h, fun v h => by simp at h⟩
  · rename_i id n
    split at h
    · rename_i cap s' es0 hb
      split at h
      · rename_i hne
        injection h with h; subst h
        have hlen : (es0.take n).length = n := by simp; omega
        cases hx with | one c v hc => cases hc with
        | bldN _ cap' hgm =>
          refine ⟨none, 0, by simp, [], by simp, fun w' _ => by simp [Builtin.firstCells], fun i j e d v h => by simp at h, fun v h => by simp at h⟩
        | bld _ _ b cap' hgm =>
          obtain ⟨hcc, hec, hes, vs, T, hh, hvsz, hr⟩ := hi.arr hb hgm
          rw [hlen] at loadAll ⊢
          have key : ∀ j, j < n * size → ∃ u, vs[j]? = some u := by
            intro j hj
            rw [← hlen] at hj
            obtain ⟨hs, h1, h2, h3⟩ := split j hj
            have he : (es0.take n)[j / size]? = some ((es0.take n)[j / size]'h1) := List.getElem?_eq_getElem h1
            have hel := hsz _ (List.mem_of_getElem? he)
            have hel' := hes _ (List.mem_of_mem_take (List.mem_of_getElem? he))
            have : j < vs.size := by
              rw [hvsz, ← hel', hel]
              rw [hlen] at hj
              exact Nat.lt_of_lt_of_le hj (Nat.mul_le_mul_right _ (by omega))
            exact ⟨_, Array.getElem?_eq_getElem this⟩
          refine ⟨_, cap', rfl, (List.range (n * size)).map fun j => vs.toList.getD j undef, by simp, loadAll b 0 cap' _ (fun j hj => ?_), fun i j e d v h1 h2 h3 => ?_, fun v hv => ?_⟩
          · obtain ⟨u, hu⟩ := key j hj
            rw [Nat.zero_add, cell_heap hh, hu]
            simp [List.getD_eq_getElem?_getD, hu]
          · have hi1 : i < n := by have := lt_of_get h1; omega
            have hj : j < size := by have := lt_of_get h2; have := hsz _ (List.mem_of_getElem? h1); omega
            have hlt := mul_lt_cap hi1 (Nat.le_refl _) hj
            simp only [List.getElem?_map, List.getElem?_range hlt, Option.map_some, Option.some.injEq] at h3
            obtain ⟨u, hu⟩ := key _ hlt
            simp [List.getD_eq_getElem?_getD, hu] at h3
            subst h3
            rw [List.getElem?_take, if_pos hi1] at h1
            have hel := hes _ (List.mem_of_getElem? h1)
            have hel' := hsz e (by rw [List.mem_iff_getElem?]; exact ⟨i, by rw [List.getElem?_take, if_pos hi1]; exact h1⟩)
            have hs' : s' = size := by omega
            subst hs'
            exact hr i j e d u h1 h2 hu
          · simp only [List.mem_map, List.mem_range] at hv
            obtain ⟨j, hj, rfl⟩ := hv
            obtain ⟨u, hu⟩ := key j hj
            simp only [List.getD_eq_getElem?_getD, Array.getElem?_toList, hu, Option.getD_some]
            rw [← hlen] at hj
            obtain ⟨hs, h1, h2, h3⟩ := split j hj
            rw [hlen] at h1
            have he0 : (es0.take n)[j / size]? = some ((es0.take n)[j / size]'(by omega)) := List.getElem?_eq_getElem _
            have hel := hsz _ (List.mem_of_getElem? he0)
            have he : es0[j / size]? = some ((es0.take n)[j / size]'(by omega)) := by rw [← he0, List.getElem?_take, if_pos h1]
            have hel' := hes _ (List.mem_of_getElem? he)
            have hs' : s' = size := by omega
            subst hs'
            have hd : ((es0.take n)[j / s']'(by omega))[j % s']? = some (((es0.take n)[j / s']'(by omega))[j % s']'(by omega)) := List.getElem?_eq_getElem _
            exact (hr _ _ _ _ u he hd (by rw [← h2]; exact hu)).is1
      · cases h
    · cases h
  · cases h

end
end Go.Proofs.Ytginjcpblgpcoaa
