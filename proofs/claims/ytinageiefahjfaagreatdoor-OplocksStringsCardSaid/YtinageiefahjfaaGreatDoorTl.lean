/- The string of a number as a list. Conditions: none. -/
import Derived.Test.YtinageiefahjfaaGreatDoorNh
import Derived.Test.YtinageiefahjfaaGreatDoorTn
import Derived.Test.YtinageiefahjfaaGreatDoorRm
import Derived.Lib.AppendIntMem
namespace Go.Proofs.YtinageiefahjfaaGreatDoor
set_option linter.unusedSimpArgs false
set_option linter.unusedVariables false
section
open Go.RowKit
def pwD : List DC := Lib.pow10Tab.map fun n => .raw (.int .u64 n)
structure GS (G : Glob) : Prop where
  pw : G 2 = some pwD
  ml : ∃ m, G 1 = some [ci m]
theorem Tryz.g2 : Tryz.prog.globalNamed "internal/strconv.uint64pow10" = some 2 := by kernel_rfl
theorem tab_of {F : Fz} {G : Glob} {w : World} (hg : GlobOK F G) (hf : ∀ b o, F b = some o → w.heap[b]? = some o) (h : G 2 = some pwD) : Lib.TabIs Tryz.prog w "internal/strconv.uint64pow10" .u64 Lib.pow10Tab := by
  obtain ⟨o, h1, arr, t, z, rfl, h2⟩ := hg.sz 2 _ h
  have h3 := hg.rc 2 _ h []
  have h4 := hf _ _ h1
  unfold Lib.TabIs World.var?
  rw [Tryz.g2, Option.bind_some]
  simp only [h4]
  congr 1
  apply Array.ext_getElem?
  intro j
  simp only [List.getElem?_toArray, List.getElem?_map]
  cases h3 with
  | ref _ _ _ g hr hc =>
    cases hj : Lib.pow10Tab[j]? with
    | none =>
      have : Lib.pow10Tab.length ≤ j := List.getElem?_eq_none_iff.1 hj
      rw [Array.getElem?_eq_none (by rw [h2]; simpa [pwD] using this)]; rfl
    | some n =>
      have hd : pwD[j]? = some (.raw (.int .u64 n)) := by unfold pwD; rw [List.getElem?_map, hj]; rfl
      have c := hc j _ hd
      have r := hr j _ hd
      generalize g j = v at c r
      cases r
      unfold Fz.cell? at c
      simp only [h1] at c
      simpa using c
theorem ml_of {F : Fz} {G : Glob} {w : World} (hg : GlobOK F G) (hf : ∀ b o, F b = some o → w.heap[b]? = some o) {m : Int} (h : G 1 = some [ci m]) : w.cell? ⟨1, 0, none⟩ = some (.int .i64 m) := by
  have h3 := hg.rc 1 _ h []
  cases h3 with
  | ref _ _ _ g hr hc =>
    have c := hc 0 _ rfl
    have r := hr 0 _ rfl
    generalize g 0 = v at c r
    cases r
    exact Fz.cell_world hf c
theorem itoa_qcG {G : Glob} (h2 : G 2 = some pwD) {n : Int} (h0 : -9223372036854775808 ≤ n) (h1 : n ≤ 9223372036854775807) : QC Tryz.prog G 79 [.one (.dc (.raw (.int .i64 n)))] (.one (.dc (.raw (.string ⟨(Lib.itoa n).toArray⟩)))) := by
  intro F γ vs w hi hg hv
  obtain ⟨x, rfl, hx⟩ := args1' hv
  have hx := rv_raw hx
  subst hx
  refine (Tryz.strconv_Itoa n h0 h1 w (tab_of hg hi.fz h2)).mono ?_
  rintro e w' ⟨rfl, k, os, rfl⟩
  exact below_post hi (Lib.below_grow _ w (Nat.le_refl _) k os) (.one _ _ (.dc _ _ (.raw _ rfl)))
theorem cut_qc {G : Glob} {m : Int} (hm : G 1 = some [ci m]) {s sep : ByteArray} (hs : s.size < 4294967281) :
    QC Tryz.prog G 84 [.one (.dc (.raw (.string s))), .one (.dc (.raw (.string sep)))] (.tup [.one (.dc (.raw (.string ⟨(Lib.cut s.data.toList sep.data.toList).1.toArray⟩))), .one (.dc (.raw (.string ⟨(Lib.cut s.data.toList sep.data.toList).2.1.toArray⟩))), .one (.dc (.raw (.bool (Lib.cut s.data.toList sep.data.toList).2.2)))]) := by
  intro F γ vs w hi hg hv
  obtain ⟨x, y, rfl, hx, hy⟩ := args2' hv
  have hx := rv_raw hx
  have hy := rv_raw hy
  subst hx; subst hy
  refine (Tryz.strings_Cut s sep m w hs (ml_of hg hi.fz hm)).mono ?_
  rintro e w' ⟨rfl, n, rfl⟩
  have hb : Below w.heap.size w (w.drewN n) := by
    have := Lib.below_grow w.heap.size w (Nat.le_refl _) n #[]
    exact ⟨this.os, this.tape, this.output, Nat.le_refl _, fun _ _ => rfl⟩
  refine below_post hi hb (.tup _ _ rfl (fun i t v h1 h2 => ?_))
  match i with
  | 0 => injection h1 with h1; injection h2 with h2; subst h1; subst h2; exact .one _ _ (.dc _ _ (.raw _ rfl))
  | 1 => injection h1 with h1; injection h2 with h2; subst h1; subst h2; exact .one _ _ (.dc _ _ (.raw _ rfl))
  | 2 => injection h1 with h1; injection h2 with h2; subst h1; subst h2; exact .one _ _ (.dc _ _ (.raw _ rfl))
  | n + 3 => simp at h1
theorem split_qc {G : Glob} {m : Int} (hm : G 1 = some [ci m]) {s sep : ByteArray} (hs : s.size < 4294967281) (h1 : 1 ≤ sep.size) :
    QC Tryz.prog G 145 [.one (.dc (.raw (.string s))), .one (.dc (.raw (.string sep)))] (.one (.dc (.slc ((Lib.splitB sep 0 (Lib.countB s sep) s).map strD)))) := by
  intro F γ vs w hi hg hv
  obtain ⟨x, y, rfl, hx, hy⟩ := args2' hv
  have hx := rv_raw hx
  have hy := rv_raw hy
  subst hx; subst hy
  refine (Tryz.strings_Split s sep m w hs (ml_of hg hi.fz hm) h1).mono ?_
  rintro e w' ⟨rfl, rfl⟩
  have hγ : γ = [] := List.eq_nil_of_length_eq_zero hi.len
  subst hγ
  have hxl := Lib.splitB_all sep h1 0 _ s rfl
  generalize Lib.splitB sep 0 (Lib.countB s sep) s = xs at *
  rw [← hxl]
  generalize ho : Obj.cells (xs.map Value.string).toArray _ = o
  have hb : Below w.heap.size w (w.alloc o) := Below.alloc (Below.refl _ _) (Nat.le_refl _) o
  have hnew : (w.alloc o).heap[w.heap.size]? = some o := by show (w.heap.push o)[w.heap.size]? = some o; simp
  have hFn : F w.heap.size = none := by
    cases h : F w.heap.size with
    | none => rfl
    | some o' =>
      have := (Array.getElem?_eq_some_iff.1 (hi.fz _ _ h)).1
      omega
  have hsub : F.sub (fun b => if b = w.heap.size then some o else F b) := fun b o' hb' => by
    show (if b = w.heap.size then some o else F b) = _
    rw [if_neg (fun e => by subst e; rw [hFn] at hb'; cases hb')]
    exact hb'
  refine ⟨_, _, [], fun b => if b = w.heap.size then some o else F b, [], rfl, ⟨rfl, rfl⟩, Nat.zero_le _,
    ⟨hsub, hb.os, hb.tape, hb.output, hb.size, fun b h _ => hb.block b h, fun b o' h => ?_, (fun _ _ h => by cases h), (fun _ h => absurd h (Nat.not_lt_zero _))⟩,
    ⟨fun b o' h => ?_, rfl, (fun _ _ _ h => by cases h), (fun _ _ h => by cases h), (fun _ _ _ h => by cases h)⟩, ?_⟩
  · have h : (if b = w.heap.size then some o else F b) = some o' := h
    by_cases e : b = w.heap.size
    · exact .inr (.inl (by omega))
    · rw [if_neg e] at h; exact .inl h
  · have h : (if b = w.heap.size then some o else F b) = some o' := h
    by_cases e : b = w.heap.size
    · rw [if_pos e] at h; rw [e, hnew]; exact h
    · rw [if_neg e] at h
      have h3 := hi.fz b o' h
      rw [hb.block b ((Array.getElem?_eq_some_iff.1 h3).1)]
      exact h3
  · have hl : xs.length = (xs.map strD).length := (List.length_map ..).symm
    rw [hl]
    refine .one _ _ (.dc _ _ (.slc w.heap.size 0 _ 1 _ (fun i j => Value.string (xs.getD i ⟨#[]⟩)) (fun e he => ?_) (fun i j e d h2 h3 => ?_) (fun i j e d h2 h3 => ?_) (Nat.le_refl _)))
    · obtain ⟨x, _, rfl⟩ := List.mem_map.1 he
      rfl
    · rw [List.getElem?_map] at h2
      obtain ⟨x, h4, rfl⟩ := Option.map_eq_some_iff.1 h2
      match j with
      | 0 =>
        injection h3 with h3
        subst h3
        have : xs.getD i ⟨#[]⟩ = x := by rw [List.getD, h4]; rfl
        rw [this]
        exact .raw _ rfl
      | j + 1 => simp [strD] at h3
    · rw [List.getElem?_map] at h2
      obtain ⟨x, h4, rfl⟩ := Option.map_eq_some_iff.1 h2
      match j with
      | 0 =>
        have : xs.getD i ⟨#[]⟩ = x := by rw [List.getD, h4]; rfl
        rw [this]
        subst ho
        simp [Fz.cell?, h4]
      | j + 1 => simp [strD] at h3
def itoaG : List AV → List AObj → Option (AV × List AObj)
  | [.one (.dc (.raw (.int .i64 n)))], [] => if -9223372036854775808 ≤ n ∧ n ≤ 9223372036854775807 then some (.one (.dc (.raw (.string ⟨(Lib.itoa n).toArray⟩))), []) else none
  | _, _ => none
def cutK : List AV → List AObj → Option (AV × List AObj)
  | [.one (.dc (.raw (.string s))), .one (.dc (.raw (.string sep)))], [] => if s.size < 4294967281 then some (.tup [.one (.dc (.raw (.string ⟨(Lib.cut s.data.toList sep.data.toList).1.toArray⟩))), .one (.dc (.raw (.string ⟨(Lib.cut s.data.toList sep.data.toList).2.1.toArray⟩))), .one (.dc (.raw (.bool (Lib.cut s.data.toList sep.data.toList).2.2)))], []) else none
  | _, _ => none
def splK : List AV → List AObj → Option (AV × List AObj)
  | [.one (.dc (.raw (.string s))), .one (.dc (.raw (.string sep)))], [] => if s.size < 4294967281 ∧ 1 ≤ sep.size then some (.one (.dc (.slc ((Lib.splitB sep 0 (Lib.countB s sep) s).map strD))), []) else none
  | _, _ => none
def bsS (b : Bool) : CallT := fun f args hp => if f = 79 then itoaG args hp else if f = 84 then cutK args hp else if f = 145 then splK args hp else bs b f args hp
theorem qc_post {G : Glob} {f : FuncId} {args : List AV} {av : AV} (h : QC Tryz.prog G f args av) : AC Tryz.prog G f args [] fun a o => a = av ∧ o.map nocap = [] :=
  h.gh (fun a o ⟨h1, h2⟩ _ => ⟨a, o, Gh.refl, Nat.zero_le _, h1, by rw [h2]; rfl⟩)
theorem bsS_ok {G : Glob} {b : Bool} (hG : GS G) (hA : b = true → QC Tryz.prog G 10 [] (.one (.dc (.raw (.bool true))))) : CallOK Tryz.prog G (bsS b) := by
  intro f args hp av o' h hp0 hh
  unfold bsS at h
  split at h
  · rename_i hf
    subst hf
    refine ⟨by kernel_rfl, ?_⟩
    unfold itoaG at h
    split at h
    · split at h
      · rename_i hn
        injection h with h; injection h with h1 h2; subst h1; subst h2
        have : hp0 = [] := by simpa using hh
        subst this
        exact qc_post (itoa_qcG hG.pw hn.1 hn.2)
      · cases h
    · cases h
  · split at h
    · rename_i hf
      subst hf
      refine ⟨by kernel_rfl, ?_⟩
      obtain ⟨m, hm⟩ := hG.ml
      unfold cutK at h
      split at h
      · split at h
        · rename_i hn
          injection h with h; injection h with h1 h2; subst h1; subst h2
          have : hp0 = [] := by simpa using hh
          subst this
          exact qc_post (cut_qc hm hn)
        · cases h
      · cases h
    · split at h
      · rename_i hf
        subst hf
        refine ⟨by kernel_rfl, ?_⟩
        obtain ⟨m, hm⟩ := hG.ml
        unfold splK at h
        split at h
        · split at h
          · rename_i hn
            injection h with h; injection h with h1 h2; subst h1; subst h2
            have : hp0 = [] := by simpa using hh
            subst this
            exact qc_post (split_qc hm hn.1 hn.2)
          · cases h
        · cases h
      · exact bs_ok hA f args hp av o' h hp0 hh
theorem bs_sub {b : Bool} (f : FuncId) (args : List AV) (hp : List AObj) (r : AV × List AObj) (h : bs b f args hp = some r) : bsS b f args hp = some r := by
  unfold bsS
  split
  · rename_i hf
    subst hf
    have h2 : itoaK args hp = some r := h
    clear h
    unfold itoaK at h2
    split at h2
    · rename_i n
      split at h2
      · rename_i hn
        simp only [itoaG]
        rw [if_pos (by omega), ← h2]
        obtain ⟨k, rfl⟩ := Int.eq_ofNat_of_zero_le hn.1
        have e : Lib.itoa (k : Int) = [UInt8.ofNat (48 + (k : Int).toNat)] := by
          unfold Lib.itoa
          rw [if_neg (by omega), Lib.decDigits, dif_pos (by omega)]
        rw [e]
      · cases h2
    · cases h2
  · split
    · rename_i hf
      subst hf
      have h : (none : Option (AV × List AObj)) = some r := h
      cases h
    · split
      · rename_i hf
        subst hf
        have h : (none : Option (AV × List AObj)) = some r := h
        cases h
      · exact h
theorem up {G : Glob} {b : Bool} {f : FuncId} {a : List AV} {hp : List AObj} {r : AV × List AObj} (h : EV G (Tb (bs b)) f a hp = some r) : EV G (Tb (bsS b)) f a hp = some r :=
  EV_up (T := Tb (bs b)) (T' := Tb (bsS b)) (fun _ => rfl) (fun f a hp r _ h => bs_sub f a hp r h) h
end
section
def dgL (n : Nat) : List Int := if h : n < 10 then [48 + (n : Int)] else dgL (n / 10) ++ [48 + ((n % 10 : Nat) : Int)]
termination_by n
decreasing_by omega
def dcI (n : Int) : List Int := if n < 0 then 45 :: dgL n.natAbs else dgL n.toNat
theorem u8_add (n : Nat) (h : n < 10) : u8 (48 + (n : Int)) = UInt8.ofNat (48 + n) := by
  unfold u8
  congr 1
theorem dgL_u8 (n : Nat) : (dgL n).map u8 = Lib.decDigits n := by
  induction n using Nat.strongRecOn with
  | _ n ih =>
    rw [dgL, Lib.decDigits]
    by_cases h : n < 10
    · rw [dif_pos h, dif_pos h, List.map_cons, List.map_nil, u8_add n h]
    · rw [dif_neg h, dif_neg h, List.map_append, ih (n / 10) (by omega), List.map_cons, List.map_nil, u8_add (n % 10) (by omega)]
theorem itoa_s (n : Int) : (⟨(Lib.itoa n).toArray⟩ : ByteArray) = str (dcI n) := by
  apply ByteArray.ext
  apply Array.ext'
  rw [str_data]
  unfold Lib.itoa dcI
  split
  · rw [List.map_cons, dgL_u8]; rfl
  · rw [dgL_u8]
theorem dgL_len : ∀ (k n : Nat), n < 10 ^ (k + 1) → (dgL n).length ≤ k + 1
  | 0, n, h => by rw [dgL, dif_pos (by simpa using h)]; simp
  | k + 1, n, h => by
    rw [dgL]
    split
    · simp
    · have := dgL_len k (n / 10) (by rw [Nat.pow_succ] at h; omega)
      simp only [List.length_append, List.length_cons, List.length_nil]
      omega
theorem dgL_byts (n : Nat) : Byts (dgL n) := by
  induction n using Nat.strongRecOn with
  | _ n ih =>
    rw [dgL]
    intro b hb
    by_cases h : n < 10
    · rw [dif_pos h] at hb
      simp at hb
      omega
    · rw [dif_neg h] at hb
      rcases List.mem_append.1 hb with hb | hb
      · exact ih (n / 10) (by omega) b hb
      · simp at hb
        omega
def dgZ (n : Nat) : List Int := if n = 0 then [] else dgL n
theorem dgZ_s (n : Nat) (h : n ≠ 0) : dgZ n = dgZ (n / 10) ++ [48 + ((n % 10 : Nat) : Int)] := by
  unfold dgZ
  rw [if_neg h]
  by_cases h1 : n < 10
  · rw [dgL, dif_pos h1, if_pos (by omega), Nat.mod_eq_of_lt h1]; rfl
  · rw [dgL, dif_neg h1, if_neg (by omega)]
def inR (n : Int) : Prop := -9223372036854775808 ≤ n ∧ n ≤ 9223372036854775807
def dcR (n : Int) : List Int := if -9223372036854775808 ≤ n ∧ n ≤ 9223372036854775807 then dcI n else []
theorem dcI_len {n : Int} (h : inR n) : (dcI n).length ≤ 20 := by
  unfold inR at h
  unfold dcI
  split
  · have := dgL_len 18 n.natAbs (by omega)
    simp; omega
  · have := dgL_len 18 n.toNat (by omega)
    omega
theorem dcR_len (n : Int) : (dcR n).length ≤ 20 := by
  unfold dcR
  split
  · exact dcI_len (by assumption)
  · simp
theorem dcR_byts (n : Int) : Byts (dcR n) := by
  unfold dcR dcI
  split
  · split
    · intro b hb
      rcases List.mem_cons.1 hb with rfl | hb
      · omega
      · exact dgL_byts _ b hb
    · exact dgL_byts _
  · intro b hb; cases hb
theorem dcR_digit (n : Int) (h : 0 ≤ n ∧ n < 10) : dcR n = [48 + n] := by
  unfold dcR dcI
  rw [if_pos (by omega), if_neg (by omega), dgL, dif_pos (by omega)]
  have : ((n.toNat : Nat) : Int) = n := by omega
  rw [this]
theorem itoaV {G : Glob} {b : Bool} {n : Int} (h : inR n) : EV G (Tb (bsS b)) 79 [vi n] [] = some (sv (dcR n), []) := by
  refine EV_base rfl ?_
  unfold inR at h
  show (if -9223372036854775808 ≤ n ∧ n ≤ 9223372036854775807 then some (AV.one (Cel.dc (DC.raw (Value.string ⟨(Lib.itoa n).toArray⟩))), ([] : List AObj)) else none) = _
  unfold dcR
  rw [if_pos h, if_pos h, itoa_s]
end
end Go.Proofs.YtinageiefahjfaaGreatDoor
