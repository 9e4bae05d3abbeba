/- Strings cut at a byte. Conditions: none. -/
import Derived.Test.YtinageiefahjfaaGreatDoorNg
import Derived.Test.YtinageiefahjfaaGreatDoorRk
import Derived.Lib.SplitLaws
namespace Go.Proofs.YtinageiefahjfaaGreatDoor
set_option linter.unusedSimpArgs false
set_option linter.unusedVariables false
set_option maxRecDepth 4000
section
open Go.RowKit
def strD (s : ByteArray) : List DC := [.raw (.string s)]
abbrev joinS (xs : List ByteArray) (sep : ByteArray) : ByteArray := ⟨(Lib.join (xs.map (·.data.toList)) sep.data.toList).toArray⟩
theorem below_post {F : Fz} {γ : List OI} {w w' : World} {av : AV} {v : Value} (hi : Inv F γ [] w) (hb : Below w.heap.size w w') (hv : RV F γ av v) :
    ∃ r av' objs' F' γ', Ending.returned v = .returned r ∧ (av' = av ∧ objs' = []) ∧ 0 ≤ objs'.length ∧ Ext 0 F γ w F' γ' w' ∧ Inv F' γ' objs' w' ∧ RV F' γ' av' r := by
  have hg : γ = [] := List.eq_nil_of_length_eq_zero hi.len
  subst hg
  refine ⟨v, av, [], F, [], rfl, ⟨rfl, rfl⟩, Nat.zero_le _, ⟨fun _ _ h => h, hb.os, hb.tape, hb.output, hb.size, fun b h _ => hb.block b h, fun _ _ h => .inl h, (fun _ _ h => by cases h), (fun _ h => by omega)⟩,
    ⟨fun b o h => ?_, rfl, (fun _ _ _ h => by cases h), (fun _ _ h => by cases h), (fun _ _ _ h => by cases h)⟩, hv⟩
  have h1 := hi.fz b o h
  rw [hb.block b ((Array.getElem?_eq_some_iff.1 h1).1)]
  exact h1
theorem args1' {F : Fz} {γ : List OI} {a : AV} {vs : Array Value} (hv : argsOK F γ [a] vs) : ∃ x, vs = #[x] ∧ RV F γ a x := by
  obtain ⟨hz, hv⟩ := hv
  obtain ⟨l⟩ := vs
  match l, hz with
  | [x], _ => exact ⟨x, rfl, hv 0 _ _ rfl rfl⟩
theorem args2' {F : Fz} {γ : List OI} {a b : AV} {vs : Array Value} (hv : argsOK F γ [a, b] vs) : ∃ x y, vs = #[x, y] ∧ RV F γ a x ∧ RV F γ b y := by
  obtain ⟨hz, hv⟩ := hv
  obtain ⟨l⟩ := vs
  match l, hz with
  | [x, y], _ => exact ⟨x, y, rfl, hv 0 _ _ rfl rfl, hv 1 _ _ rfl rfl⟩
theorem itoa_qc {G : Glob} {i : Nat} (h : i < 100) : QC Tryz.prog G 79 [.one (.dc (.raw (.int .i64 i)))] (.one (.dc (.raw (.string ⟨(Lib.decDigits i).toArray⟩)))) := by
  intro F γ vs w hi hg hv
  obtain ⟨x, rfl, hx⟩ := args1' hv
  have hx := rv_raw hx
  subst hx
  refine (Tryz.strconv_Itoa_small i h w).mono ?_
  rintro e w' ⟨rfl, rfl⟩
  exact below_post hi (Below.refl _ _) (.one _ _ (.dc _ _ (.raw _ rfl)))
theorem join_qc {G : Glob} {xs : List ByteArray} {sep : ByteArray} (h1 : xs.length ≤ 140737488355328) (h2 : (Lib.join (xs.map (·.data.toList)) sep.data.toList).length ≤ 140737488355328) :
    QC Tryz.prog G 81 [.one (.dc (.slc (xs.map strD))), .one (.dc (.raw (.string sep)))] (.one (.dc (.raw (.string (joinS xs sep))))) := by
  intro F γ vs w hi hg hv
  obtain ⟨x, y, rfl, hx, hy⟩ := args2' hv
  have hy := rv_raw hy
  subst hy
  have hrv : ∀ s : ByteArray, RV F γ (.one (.dc (.raw (.string s)))) (.string s) := fun s => .one _ _ (.dc _ _ (.raw _ rfl))
  generalize hes : xs.map strD = es at hx
  cases hx with | one _ _ hx => cases hx with | dc _ _ hx => cases hx with
  | nil A c =>
    have hn : xs = [] := by simpa using hes
    subst hn
    refine (Tryz.strings_Join_none A c sep w).mono ?_
    rintro e w' ⟨rfl, rfl⟩
    exact below_post hi (Below.refl _ _) (hrv _)
  | slc b off c size es g hsz hr hc hcap =>
    subst hes
    cases xs with
    | nil =>
      refine (Tryz.strings_Join_none (some ⟨b, off, none⟩) c sep w).mono ?_
      rintro e w' ⟨rfl, rfl⟩
      exact below_post hi (Below.refl _ _) (hrv _)
    | cons x0 xs =>
      have hsize : size = 1 := (hsz (strD x0) (by simp)).symm
      subst hsize
      have hcells : ∀ (j : Nat) s, (x0 :: xs)[j]? = some s → w.cell? ⟨b, off + j, none⟩ = some (.string s) := by
        intro j s hj
        have e1 : ((x0 :: xs).map strD)[j]? = some (strD s) := by rw [List.getElem?_map, hj]; rfl
        have h3 := hc j 0 (strD s) (.raw (.string s)) e1 rfl
        have h4 := hr j 0 (strD s) (.raw (.string s)) e1 rfl
        rw [Nat.mul_one, Nat.add_zero] at h3
        have h5 := Fz.cell_world hi.fz h3
        generalize g j 0 = u at h4 h5
        cases h4
        exact h5
      have hbk : b < w.heap.size := by
        have h3 := hc 0 0 (strD x0) (.raw (.string x0)) rfl rfl
        unfold Fz.cell? at h3
        simp only at h3
        cases hb : F b with
        | none => rw [hb] at h3; cases h3
        | some o => exact (Array.getElem?_eq_some_iff.1 (hi.fz b o hb)).1
      have := Tryz.strings_Join b off c (x0 :: xs) sep w hcells hbk h1 (by simpa using hcap) h2
      rw [List.length_map]
      refine this.mono ?_
      rintro e w' ⟨rfl, hb⟩
      exact below_post hi hb (hrv _)
end
section
def u8 (n : Int) : UInt8 := UInt8.ofNat n.toNat
def str (l : List Int) : ByteArray := ⟨(l.map u8).toArray⟩
abbrev sv (l : List Int) : AV := .one (.dc (.raw (.string (str l))))
def Byts (l : List Int) : Prop := ∀ b ∈ l, 0 ≤ b ∧ b ≤ 255
theorem u8_nat (b : Int) (h : 0 ≤ b ∧ b ≤ 255) : ((u8 b).toNat : Int) = b := by
  simp only [u8, UInt8.toNat_ofNat']; omega
theorem str_nil : (⟨#[]⟩ : ByteArray) = str [] := rfl
theorem str_size (l : List Int) : (str l).size = l.length := by simp [str, ByteArray.size]
theorem str_app (a b : List Int) : str a ++ str b = str (a ++ b) := by
  apply ByteArray.ext
  simp [str, ByteArray.data_append]
theorem str_ext (l : List Int) (a b : Nat) : (str l).extract a b = str ((l.take b).drop a) := by
  apply ByteArray.ext
  simp [str, ByteArray.data_extract, List.drop_take]
theorem str_all (s : ByteArray) : ∃ l, Byts l ∧ s = str l := by
  refine ⟨s.data.toList.map fun b => (b.toNat : Int), fun b hb => ?_, ?_⟩
  · obtain ⟨x, _, rfl⟩ := List.mem_map.1 hb
    have := x.toNat_lt; omega
  · apply ByteArray.ext
    apply Array.ext'
    simp [str, u8, Function.comp_def]
theorem str_inj {a b : List Int} (ha : Byts a) (hb : Byts b) : (str a = str b) = (a = b) := by
  apply propext
  refine ⟨fun h => ?_, fun h => by rw [h]⟩
  have h1 : a.map u8 = b.map u8 := by
    have := congrArg (fun s : ByteArray => s.data.toList) h
    simpa [str] using this
  have h2 : a.length = b.length := by simpa using congrArg List.length h1
  refine List.ext_getElem h2 (fun i p q => ?_)
  have h3 : u8 a[i] = u8 b[i] := by
    have := congrArg (fun l => l[i]?) h1
    simpa [p, q] using this
  rw [← u8_nat _ (ha _ (List.getElem_mem p)), ← u8_nat _ (hb _ (List.getElem_mem q)), h3]
theorem sadd_s {a b : List Int} (h : a.length + b.length ≤ 9223372036854775807) : binV .add (sv a) (sv b) = some (sv (a ++ b)) := by
  rw [bin_sadd (by rw [str_size, str_size]; exact h), str_app]
theorem str_data (l : List Int) : (str l).data.toList = l.map u8 := by simp [str]
def jnI (s : List Int) : List (List Int) → List Int
  | [] => []
  | [a] => a
  | a :: b :: l => a ++ s ++ jnI s (b :: l)
theorem jnI_join (s : List Int) : ∀ l : List (List Int), Lib.join (l.map (·.map u8)) (s.map u8) = (jnI s l).map u8
  | [] => rfl
  | [a] => by rw [List.map_cons, List.map_nil, Lib.join_one]; rfl
  | a :: b :: l => by
    have ih := jnI_join s (b :: l)
    rw [jnI, List.map_append, List.map_append, ← ih]
    simp [Lib.join, List.intercalate]
theorem joinS_s (s : List Int) (l : List (List Int)) : joinS (l.map str) (str s) = str (jnI s l) := by
  apply ByteArray.ext
  apply Array.ext'
  simp only [joinS, str_data, List.map_map, Function.comp_def]
  rw [jnI_join]
def sS (l : List Int) : List DC := [.raw (.string (str l))]
theorem allLen_s : ∀ l : List (List Int), allLen 1 (l.map sS) = true
  | [] => rfl
  | g :: gs => by rw [List.map_cons, allLen, allLen_s gs]; rfl
end
section
section
variable {α : Type}
def cnsH (x : α) : List (List α) → List (List α)
  | [] => [[x]]
  | p :: ps => (x :: p) :: ps
theorem cnsH_map {β : Type} (f : α → β) (x : α) (ps : List (List α)) : cnsH (f x) (ps.map (·.map f)) = (cnsH x ps).map (·.map f) := by
  cases ps <;> rfl
end
section
variable {α : Type} [DecidableEq α]
def spl (c : α) : List α → List (List α)
  | [] => [[]]
  | x :: l => if x = c then [] :: spl c l else cnsH x (spl c l)
def ctI (c : α) : List α → List α × List α × Bool
  | [] => ([], [], false)
  | x :: l => if x = c then ([], l, true) else (x :: (ctI c l).1, (ctI c l).2.1, (ctI c l).2.2)
theorem spl_ne (c : α) : ∀ l, spl c l ≠ []
  | [] => by simp [spl]
  | x :: l => by
    rw [spl]
    split
    · simp
    · cases spl c l <;> simp [cnsH]
theorem spl_map {β : Type} [DecidableEq β] (f : α → β) (c : α) : ∀ l : List α, (∀ x ∈ l, f x = f c → x = c) → spl (f c) (l.map f) = (spl c l).map (·.map f)
  | [], _ => rfl
  | x :: l, h => by
    have ih := spl_map f c l (fun y hy => h y (List.mem_cons_of_mem _ hy))
    rw [List.map_cons, spl, spl, ih]
    by_cases e : x = c
    · rw [if_pos e, if_pos (by rw [e])]; rfl
    · rw [if_neg e, if_neg (fun q => e (h x List.mem_cons_self q)), cnsH_map]
theorem ctI_map {β : Type} [DecidableEq β] (f : α → β) (c : α) : ∀ l : List α, (∀ x ∈ l, f x = f c → x = c) → ctI (f c) (l.map f) = ((ctI c l).1.map f, (ctI c l).2.1.map f, (ctI c l).2.2)
  | [], _ => rfl
  | x :: l, h => by
    have ih := ctI_map f c l (fun y hy => h y (List.mem_cons_of_mem _ hy))
    rw [List.map_cons, ctI, ctI]
    by_cases e : x = c
    · rw [if_pos e, if_pos (by rw [e])]; rfl
    · rw [if_neg e, if_neg (fun q => e (h x List.mem_cons_self q)), ih]; rfl
theorem spl_free (c : α) : ∀ l : List α, c ∉ l → spl c l = [l]
  | [], _ => rfl
  | x :: l, h => by
    rw [spl, if_neg (fun e => h (by rw [e]; exact List.mem_cons_self)), spl_free c l (fun q => h (List.mem_cons_of_mem _ q))]; rfl
theorem ctI_free (c : α) : ∀ l : List α, c ∉ l → ctI c l = (l, [], false)
  | [], _ => rfl
  | x :: l, h => by
    rw [ctI, if_neg (fun e => h (by rw [e]; exact List.mem_cons_self)), ctI_free c l (fun q => h (List.mem_cons_of_mem _ q))]
theorem spl_app (c : α) : ∀ a b : List α, c ∉ a → spl c (a ++ c :: b) = a :: spl c b
  | [], b, _ => by rw [List.nil_append, spl, if_pos rfl]
  | x :: a, b, h => by
    rw [List.cons_append, spl, if_neg (fun e => h (by rw [e]; exact List.mem_cons_self)), spl_app c a b (fun q => h (List.mem_cons_of_mem _ q))]; rfl
theorem ctI_app (c : α) : ∀ a b : List α, c ∉ a → ctI c (a ++ c :: b) = (a, b, true)
  | [], b, _ => by rw [List.nil_append, ctI, if_pos rfl]
  | x :: a, b, h => by
    rw [List.cons_append, ctI, if_neg (fun e => h (by rw [e]; exact List.mem_cons_self)), ctI_app c a b (fun q => h (List.mem_cons_of_mem _ q))]
theorem ctI_cases (c : α) : ∀ l : List α, (c ∉ l ∧ ctI c l = (l, [], false)) ∨ ∃ a b, l = a ++ c :: b ∧ c ∉ a ∧ ctI c l = (a, b, true) := by
  intro l
  by_cases h : c ∈ l
  · obtain ⟨a, b, rfl, h2⟩ : ∃ a b, l = a ++ c :: b ∧ c ∉ a := List.eq_append_cons_of_mem h
    exact .inr ⟨a, b, rfl, h2, ctI_app c a b h2⟩
  · exact .inl ⟨h, ctI_free c l h⟩
theorem spl_snoc (c x : α) : ∀ l : List α, spl c (l ++ [x]) = if x = c then spl c l ++ [[]] else (spl c l).dropLast ++ [(spl c l).getLastD [] ++ [x]]
  | [] => by
    by_cases e : x = c
    · subst e; simp [spl]
    · simp [spl, e, cnsH]
  | y :: l => by
    have ih := spl_snoc c x l
    have hn := spl_ne c l
    rw [List.cons_append, spl, ih]
    simp only [spl]
    generalize spl c l = S at *
    cases S with
    | nil => exact absurd rfl hn
    | cons p ps =>
      by_cases e : x = c
      · rw [if_pos e, if_pos e]
        by_cases d : y = c
        · rw [if_pos d, if_pos d]; rfl
        · rw [if_neg d, if_neg d]; rfl
      · rw [if_neg e, if_neg e]
        by_cases d : y = c
        · rw [if_pos d, if_pos d]; rfl
        · rw [if_neg d, if_neg d]
          cases ps with
          | nil => rfl
          | cons q qs => rfl
end
theorem index_one (b c : UInt8) (l : List UInt8) : Lib.index (b :: l) [c] = if b = c then 0 else if Lib.index l [c] = -1 then -1 else Lib.index l [c] + 1 := by
  rw [Lib.index]
  have : [c].isPrefixOf (b :: l) = (c == b) := by simp [List.isPrefixOf]
  rw [this]
  by_cases h : b = c
  · subst h; simp
  · have h2 : ¬ (c == b) = true := by simpa using fun e : c = b => h e.symm
    rw [if_neg h2, if_neg h]; simp only [beq_iff_eq]
theorem cut_one (c : UInt8) : ∀ l : List UInt8, Lib.cut l [c] = ctI c l
  | [] => by simp [Lib.cut, Lib.index, ctI]
  | b :: l => by
    have ih := cut_one c l
    have hg := Lib.index_ge l [c]
    unfold Lib.cut at ih ⊢
    rw [index_one, ctI, ← ih]
    by_cases h : b = c
    · simp [h]
    · rw [if_neg h, if_neg h]
      by_cases h2 : Lib.index l [c] = -1
      · rw [if_pos h2, h2]; rfl
      · rw [if_neg h2]
        have h3 : 0 ≤ Lib.index l [c] := by omega
        have h4 : 0 ≤ Lib.index l [c] + 1 := by omega
        have h5 : (Lib.index l [c] + 1).toNat = (Lib.index l [c]).toNat + 1 := by omega
        rw [if_pos h3, if_pos h4, h5]
        simp [Nat.add_right_comm]
theorem splitK_one (c : UInt8) : ∀ l : List UInt8, Lib.splitK [c] 0 (Lib.count l [c]) l = spl c l
  | [] => by
    have : Lib.count ([] : List UInt8) [c] = 0 := by rw [Lib.count_one]; rfl
    rw [this]; rfl
  | b :: l => by
    have ih := splitK_one c l
    have hg := Lib.index_ge l [c]
    rw [spl]
    by_cases h : b = c
    · subst h
      rw [Lib.count_cons_eq, Nat.add_comm, Lib.splitK, index_one, if_pos rfl, if_pos rfl]
      simp [ih]
    · rw [Lib.count_cons_ne b c l h, if_neg h, ← ih]
      cases hn : Lib.count l [c] with
      | zero => rfl
      | succ n =>
        have h2 : ¬ Lib.index l [c] = -1 := fun e => by rw [Lib.count_miss e] at hn; cases hn
        have h5 : (Lib.index l [c] + 1).toNat = (Lib.index l [c]).toNat + 1 := by omega
        have h6 : ¬ Lib.index l [c] + 1 = -1 := by omega
        rw [Lib.splitK, Lib.splitK, index_one, if_neg h, if_neg h2]
        simp [h2, h6, h5, cnsH]
theorem u8_inj {c : Int} (hc : 0 ≤ c ∧ c ≤ 255) {l : List Int} (hl : Byts l) : ∀ x ∈ l, u8 x = u8 c → x = c := fun x hx e => by
  rw [← u8_nat x (hl x hx), ← u8_nat c hc, e]
theorem splitB_s {c : Int} (hc : 0 ≤ c ∧ c ≤ 255) {l : List Int} (hl : Byts l) : (Lib.splitB (str [c]) 0 (Lib.countB (str l) (str [c])) (str l)).map strD = (spl c l).map sS := by
  have h1 := Lib.splitB_data (str [c]) 0 (Lib.countB (str l) (str [c])) (str l)
  have h2 : Lib.countB (str l) (str [c]) = Lib.count (l.map u8) [u8 c] := by
    unfold Lib.countB; rw [str_data, str_data]; rfl
  have h3 : (str [c]).data.toList = [u8 c] := by rw [str_data]; rfl
  rw [h3, str_data l, h2, splitK_one, spl_map u8 c l (u8_inj hc hl)] at h1
  rw [h2]
  generalize Lib.splitB (str [c]) 0 (Lib.count (l.map u8) [u8 c]) (str l) = xs at h1
  have h4 : xs = (spl c l).map str := by
    have h5 := congrArg (List.map fun l : List UInt8 => (⟨l.toArray⟩ : ByteArray)) h1
    rw [List.map_map, List.map_map] at h5
    have h6 : xs.map ((fun l : List UInt8 => (⟨l.toArray⟩ : ByteArray)) ∘ fun x => x.data.toList) = xs := by
      conv => rhs; rw [← List.map_id xs]
      apply List.map_congr_left
      intro x _
      rfl
    rw [h6] at h5
    exact h5
  rw [h4, List.map_map]
  rfl
theorem cut_s {c : Int} (hc : 0 ≤ c ∧ c ≤ 255) {l : List Int} (hl : Byts l) : Lib.cut (str l).data.toList (str [c]).data.toList = ((ctI c l).1.map u8, (ctI c l).2.1.map u8, (ctI c l).2.2) := by
  have h3 : (str [c]).data.toList = [u8 c] := by rw [str_data]; rfl
  rw [h3, str_data l, cut_one, ctI_map u8 c l (u8_inj hc hl)]
end
end Go.Proofs.YtinageiefahjfaaGreatDoor
