/- slices.Delete of one element, walked. Conditions: none. -/
import Derived.Test.YtinageiefahjfaaGreatDoorTd
import Derived.Deep.LoopGhost
import Derived.Deep.RegionLaw
namespace Go.Proofs.YtinageiefahjfaaGreatDoor
open Go.Lib Go.RowKit
set_option maxHeartbeats 4000000 in
set_option maxRecDepth 100000 in
theorem del_128 (b n c i : Nat) (cs : List Value) (w : World) (hi : i < n) (hcap : n ≤ c) (hn47 : n + 1 ≤ 140737488355328)
    (hcl : cs.length = n * 3) (hcs : ∀ j v, cs[j]? = some v → w.cell? ⟨b, j, none⟩ = some v) (hfz : ∀ j, j < n * 3 → w.frozen? ⟨b, j, none⟩ = false) (h1c : ∀ v ∈ cs, v.oneCell' = true) :
    Calls Tryz.prog 128 #[.slice (some ⟨b, 0, none⟩) n c, .int .i64 i, .int .i64 ((i : Int) + 1)] w fun e w' =>
      e = .returned (.slice (some ⟨b, 0, none⟩) (i + (n - (i + 1))) c) ∧ w' = (w.drew.setCells b (i * 3) (cs.drop ((i + 1) * 3))).setCells b ((i + (n - (i + 1))) * 3) (List.replicate 3 (.int .i64 0)) := by
  have mixed : Tryz.prog.follows .mixedOrders = true := by kernel_rfl
  obtain ⟨i0, hi0, hzs, hz0⟩ : ∃ i0, Tryz.prog.info? 79 = some i0 ∧ i0.size = 3 ∧ i0.zero = some (.agg #[.int .i64 0, .int .i64 0, .int .i64 0]) := ⟨_, rfl, rfl, rfl⟩
  have hsp : ∀ j, j < n * 3 → (w.cell? ⟨b, j, none⟩).isSome = true := fun j hj => by
    rw [hcs j _ (List.getElem?_eq_getElem (by omega))]; rfl
  obtain ⟨news, hnews⟩ : ∃ news, news = cs.drop ((i + 1) * 3) := ⟨_, rfl⟩
  have hlen : news.length = (n - (i + 1)) * 3 := by rw [hnews, List.length_drop, hcl, Nat.sub_mul]
  have hget : ∀ t u, news[t]? = some u → w.cell? ⟨b, (i + 1) * 3 + t, none⟩ = some u := fun t u h => hcs _ u (by rwa [hnews, List.getElem?_drop] at h)
  obtain ⟨A, hA, hsrc⟩ : ∃ A : Addr, (if c = i + 1 then (some (⟨b, 0, none⟩ : Addr)) else some ⟨b, (i + 1) * 3, none⟩) = some A ∧ Hid (∀ t u, news[t]? = some u → w.drew.cell? (A.add t) = some u) := by
    by_cases h : c = i + 1
    · refine ⟨⟨b, 0, none⟩, by simp [h], fun t u hu => ?_⟩
      have h0 : news.length = 0 := by rw [hlen]; have : n - (i + 1) = 0 := by omega
                                      rw [this, Nat.zero_mul]
      rw [List.length_eq_zero_iff.1 h0] at hu
      simp at hu
    · refine ⟨⟨b, (i + 1) * 3, none⟩, by simp [h], fun t u hu => ?_⟩
      rw [Addr.add_lit]
      exact hget t u hu
  have s1 : Hid (news.length = (n - (i + 1)) * 3) := hlen
  have s2 : Hid (∀ u ∈ news, u.oneCell' = true) := fun u hu => h1c u (List.mem_of_mem_drop (by rw [← hnews]; exact hu))
  have s3 : Hid (∀ t, t < news.length → (w.drew.cell? ⟨b, 0 + i * 3 + t, none⟩).isSome = true ∧ w.drew.frozen? ⟨b, 0 + i * 3 + t, none⟩ = false) := fun t ht => by
    rw [hlen] at ht
    rw [Nat.zero_add]
    exact ⟨hsp _ (by omega), hfz _ (by omega)⟩
  obtain ⟨W1, hW1⟩ : ∃ W1, W1 = w.drew.setCells b (0 + i * 3) news := ⟨_, rfl⟩
  have hzc : (Builtin.zeroCells #[.int .i64 0, .int .i64 0, .int .i64 0] 1).toList = List.replicate 3 (.int .i64 0) := by kernel_rfl
  have hcl2 : ∀ ty, (Builtin.clear_ #[22] ty #[.slice (some ⟨b, (i + (n - (i + 1))) * 3, none⟩) (n - (i + (n - (i + 1)))) (c - (i + (n - (i + 1))))]).run Tryz.prog W1 = .ok (.tuple #[]) (W1.setCells b ((i + (n - (i + 1))) * 3) (List.replicate 3 (.int .i64 0))) := fun ty => by
    have hst := run_storeCells_cells (P := Tryz.prog) b ((i + (n - (i + 1))) * 3) (List.replicate 3 (.int .i64 0)) 0 W1
      (by intro j hj; rw [hW1, Nat.zero_add, Nat.add_zero]; refine isSome_setCells b news (i * 3) w.drew (fun t ht => hsp _ (by rw [hlen] at ht; omega)) _ (hsp _ (by simp at hj; omega)))
      (by intro j hj; rw [hW1, World.frozen?_setCells]; exact hfz _ (by simp at hj; omega))
      (by intro v hv; rw [List.eq_of_mem_replicate hv]; rfl)
    have h1 : n - (i + (n - (i + 1))) = 1 := by omega
    rw [h1]
    have hzv : (zeroValue 79).run Tryz.prog W1 = .ok (.agg #[.int .i64 0, .int .i64 0, .int .i64 0]) W1 := by simp [zeroValue, typeInfo, hi0, hz0]
    simp only [Nat.add_zero, List.replicate] at hst hzc ⊢
    simp [Builtin.clear_, run_underlying Tryz.underlying22, hzv, Value.cells, hzc, hst]
  have X : Aside (W1 = w.drew.setCells b (i * 3) (cs.drop ((i + 1) * 3))) := by show W1 = _; rw [hW1, hnews, Nat.zero_add]
  have hW : Hid (W1 = w.drew.setCells b (0 + i * 3) news) := hW1
  have hic : i ≤ c := by omega
  have hjc : i + 1 ≤ c := by omega
  have hij : ¬ ((i : Int) = (i : Int) + 1) := by omega
  have hb1 : (0 : Int) ≤ (i : Int) + 1 := by omega
  have hb2 : (i : Int) ≤ (i : Int) + 1 := by omega
  have hb3 : (i : Int) + 1 ≤ (n : Int) := by omega
  have htn : ((i : Int) + 1).toNat = i + 1 := by omega
  have hin : i + 1 ≤ n := by omega
  clear hW1 hfz hget hnews hlen hsp hcs
  go_enter Tryz.func128, Tryz.ntmps128
  go_wp2_with fail
  go_region_law_o (refine step_append_room rfl (.tmp 22) (.tmp 25) 22 rfl 79 i0 3 Tryz.underlying22 hi0 hzs b 0 i c (by simp [Act.eval, Act.put]) A (n - (i + 1)) (c - (i + 1)) news (by simp [Act.eval, Act.put]) s1.out hsrc.out s2.out (by omega) s3.out ?_; rw [← hW.out])
  go_wp2
  go_ret
  exact ⟨rfl, by rw [X.out]; rfl⟩
set_option maxHeartbeats 4000000 in
set_option maxRecDepth 100000 in
theorem del_179 (b n c i : Nat) (cs : List Value) (w : World) (hi : i < n) (hcap : n ≤ c) (hn47 : n + 1 ≤ 140737488355328)
    (hcl : cs.length = n * 2) (hcs : ∀ j v, cs[j]? = some v → w.cell? ⟨b, j, none⟩ = some v) (hfz : ∀ j, j < n * 2 → w.frozen? ⟨b, j, none⟩ = false) (h1c : ∀ v ∈ cs, v.oneCell' = true) :
    Calls Tryz.prog 179 #[.slice (some ⟨b, 0, none⟩) n c, .int .i64 i, .int .i64 ((i : Int) + 1)] w fun e w' =>
      e = .returned (.slice (some ⟨b, 0, none⟩) (i + (n - (i + 1))) c) ∧ w' = (w.drew.setCells b (i * 2) (cs.drop ((i + 1) * 2))).setCells b ((i + (n - (i + 1))) * 2) (List.replicate 2 (.int .i64 0)) := by
  have mixed : Tryz.prog.follows .mixedOrders = true := by kernel_rfl
  obtain ⟨i0, hi0, hzs, hz0⟩ : ∃ i0, Tryz.prog.info? 119 = some i0 ∧ i0.size = 2 ∧ i0.zero = some (.agg #[.int .i64 0, .int .i64 0]) := ⟨_, rfl, rfl, rfl⟩
  have hsp : ∀ j, j < n * 2 → (w.cell? ⟨b, j, none⟩).isSome = true := fun j hj => by
    rw [hcs j _ (List.getElem?_eq_getElem (by omega))]; rfl
  obtain ⟨news, hnews⟩ : ∃ news, news = cs.drop ((i + 1) * 2) := ⟨_, rfl⟩
  have hlen : news.length = (n - (i + 1)) * 2 := by rw [hnews, List.length_drop, hcl, Nat.sub_mul]
  have hget : ∀ t u, news[t]? = some u → w.cell? ⟨b, (i + 1) * 2 + t, none⟩ = some u := fun t u h => hcs _ u (by rwa [hnews, List.getElem?_drop] at h)
  obtain ⟨A, hA, hsrc⟩ : ∃ A : Addr, (if c = i + 1 then (some (⟨b, 0, none⟩ : Addr)) else some ⟨b, (i + 1) * 2, none⟩) = some A ∧ Hid (∀ t u, news[t]? = some u → w.drew.cell? (A.add t) = some u) := by
    by_cases h : c = i + 1
    · refine ⟨⟨b, 0, none⟩, by simp [h], fun t u hu => ?_⟩
      have h0 : news.length = 0 := by rw [hlen]; have : n - (i + 1) = 0 := by omega
                                      rw [this, Nat.zero_mul]
      rw [List.length_eq_zero_iff.1 h0] at hu
      simp at hu
    · refine ⟨⟨b, (i + 1) * 2, none⟩, by simp [h], fun t u hu => ?_⟩
      rw [Addr.add_lit]
      exact hget t u hu
  have s1 : Hid (news.length = (n - (i + 1)) * 2) := hlen
  have s2 : Hid (∀ u ∈ news, u.oneCell' = true) := fun u hu => h1c u (List.mem_of_mem_drop (by rw [← hnews]; exact hu))
  have s3 : Hid (∀ t, t < news.length → (w.drew.cell? ⟨b, 0 + i * 2 + t, none⟩).isSome = true ∧ w.drew.frozen? ⟨b, 0 + i * 2 + t, none⟩ = false) := fun t ht => by
    rw [hlen] at ht
    rw [Nat.zero_add]
    exact ⟨hsp _ (by omega), hfz _ (by omega)⟩
  obtain ⟨W1, hW1⟩ : ∃ W1, W1 = w.drew.setCells b (0 + i * 2) news := ⟨_, rfl⟩
  have hzc : (Builtin.zeroCells #[.int .i64 0, .int .i64 0] 1).toList = List.replicate 2 (.int .i64 0) := by kernel_rfl
  have hcl2 : ∀ ty, (Builtin.clear_ #[23] ty #[.slice (some ⟨b, (i + (n - (i + 1))) * 2, none⟩) (n - (i + (n - (i + 1)))) (c - (i + (n - (i + 1))))]).run Tryz.prog W1 = .ok (.tuple #[]) (W1.setCells b ((i + (n - (i + 1))) * 2) (List.replicate 2 (.int .i64 0))) := fun ty => by
    have hst := run_storeCells_cells (P := Tryz.prog) b ((i + (n - (i + 1))) * 2) (List.replicate 2 (.int .i64 0)) 0 W1
      (by intro j hj; rw [hW1, Nat.zero_add, Nat.add_zero]; refine isSome_setCells b news (i * 2) w.drew (fun t ht => hsp _ (by rw [hlen] at ht; omega)) _ (hsp _ (by simp at hj; omega)))
      (by intro j hj; rw [hW1, World.frozen?_setCells]; exact hfz _ (by simp at hj; omega))
      (by intro v hv; rw [List.eq_of_mem_replicate hv]; rfl)
    have h1 : n - (i + (n - (i + 1))) = 1 := by omega
    rw [h1]
    have hzv : (zeroValue 119).run Tryz.prog W1 = .ok (.agg #[.int .i64 0, .int .i64 0]) W1 := by simp [zeroValue, typeInfo, hi0, hz0]
    simp only [Nat.add_zero, List.replicate] at hst hzc ⊢
    simp [Builtin.clear_, run_underlying Tryz.underlying23, hzv, Value.cells, hzc, hst]
  have X : Aside (W1 = w.drew.setCells b (i * 2) (cs.drop ((i + 1) * 2))) := by show W1 = _; rw [hW1, hnews, Nat.zero_add]
  have hW : Hid (W1 = w.drew.setCells b (0 + i * 2) news) := hW1
  have hic : i ≤ c := by omega
  have hjc : i + 1 ≤ c := by omega
  have hij : ¬ ((i : Int) = (i : Int) + 1) := by omega
  have hb1 : (0 : Int) ≤ (i : Int) + 1 := by omega
  have hb2 : (i : Int) ≤ (i : Int) + 1 := by omega
  have hb3 : (i : Int) + 1 ≤ (n : Int) := by omega
  have htn : ((i : Int) + 1).toNat = i + 1 := by omega
  have hin : i + 1 ≤ n := by omega
  clear hW1 hfz hget hnews hlen hsp hcs
  go_enter Tryz.func179, Tryz.ntmps179
  go_wp2_with fail
  go_region_law_o (refine step_append_room rfl (.tmp 22) (.tmp 25) 23 rfl 119 i0 2 Tryz.underlying23 hi0 hzs b 0 i c (by simp [Act.eval, Act.put]) A (n - (i + 1)) (c - (i + 1)) news (by simp [Act.eval, Act.put]) s1.out hsrc.out s2.out (by omega) s3.out ?_; rw [← hW.out])
  go_wp2
  go_ret
  exact ⟨rfl, by rw [X.out]; rfl⟩
end Go.Proofs.YtinageiefahjfaaGreatDoor
