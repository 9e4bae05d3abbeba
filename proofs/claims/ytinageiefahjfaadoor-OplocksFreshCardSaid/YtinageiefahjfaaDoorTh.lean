/- The base of the table: slices.Clone, Delete, Insert; the examples. Conditions: none. -/
import Derived.Test.YtinageiefahjfaaDoorNg
import Derived.Test.YtinageiefahjfaaDoorRk
import Derived.Test.YtinageiefahjfaaDoorTg
import Derived.Test.YtinageiefahjfaaDoorCb
namespace Go.Proofs.YtinageiefahjfaaDoor
set_option linter.unusedSimpArgs false
set_option linter.unusedVariables false
section
open Go.RowKit
def strD (s : ByteArray) : List DC := [.raw (.string s)]
abbrev joinS (xs : List ByteArray) (sep : ByteArray) : ByteArray := ⟨(Lib.join (xs.map (·.data.toList)) sep.data.toList).toArray⟩
theorem below_post {F : Fz} {γ : List OI} {w w' : World} {av : AV} {v : Value} (hi : Inv F γ [] w) (hb : Below w.heap.size w w') (hv : RV F γ av v) :
    ∃ r av' objs' F' γ', Ending.returned v = .returned r ∧ (av' = av ∧ objs' = []) ∧ 0 ≤ objs'.length ∧ Ext 0 F γ w F' γ' w' ∧ Inv F' γ' objs' w' ∧ RV F' γ' av' r := by
  have hg : γ = [] := List.eq_nil_of_length_eq_zero hi.len
  subst hg
  refine ⟨v, av, [], F, [], rfl, ⟨rfl, rfl⟩, Nat.zero_le _, ⟨fun _ _ h => h, hb.os, hb.tape, hb.output, hb.size, fun b h _ => hb.block b h, fun _ _ h => .inl h, (fun _ _ h => by cases h), (fun _ h => by omega)⟩,
    ⟨fun b o h => ?_, rfl, (fun _ _ _ h => by cases h), (fun _ _ h => by cases h), (fun _ _ _ h => by cases h)⟩, hv⟩
  have h1 := hi.fz b o h
  rw [hb.block b ((Array.getElem?_eq_some_iff.1 h1).1)]
  exact h1
theorem args1' {F : Fz} {γ : List OI} {a : AV} {vs : Array Value} (hv : argsOK F γ [a] vs) : ∃ x, vs = #[x] ∧ RV F γ a x := by
  obtain ⟨hz, hv⟩ := hv
  obtain ⟨l⟩ := vs
  match l, hz with
  | [x], _ => exact ⟨x, rfl, hv 0 _ _ rfl rfl⟩
theorem args2' {F : Fz} {γ : List OI} {a b : AV} {vs : Array Value} (hv : argsOK F γ [a, b] vs) : ∃ x y, vs = #[x, y] ∧ RV F γ a x ∧ RV F γ b y := by
  obtain ⟨hz, hv⟩ := hv
  obtain ⟨l⟩ := vs
  match l, hz with
  | [x, y], _ => exact ⟨x, y, rfl, hv 0 _ _ rfl rfl, hv 1 _ _ rfl rfl⟩
theorem itoa_qc {G : Glob} {i : Nat} (h : i < 100) : QC Tryd.prog G 37 [.one (.dc (.raw (.int .i64 i)))] (.one (.dc (.raw (.string ⟨(Lib.decDigits i).toArray⟩)))) := by
  intro F γ vs w hi hg hv
  obtain ⟨x, rfl, hx⟩ := args1' hv
  have hx := rv_raw hx
  subst hx
  refine (Tryd.strconv_Itoa_small i h w).mono ?_
  rintro e w' ⟨rfl, rfl⟩
  exact below_post hi (Below.refl _ _) (.one _ _ (.dc _ _ (.raw _ rfl)))
theorem join_qc {G : Glob} {xs : List ByteArray} {sep : ByteArray} (h1 : xs.length ≤ 140737488355328) (h2 : (Lib.join (xs.map (·.data.toList)) sep.data.toList).length ≤ 140737488355328) :
    QC Tryd.prog G 39 [.one (.dc (.slc (xs.map strD))), .one (.dc (.raw (.string sep)))] (.one (.dc (.raw (.string (joinS xs sep))))) := by
  intro F γ vs w hi hg hv
  obtain ⟨x, y, rfl, hx, hy⟩ := args2' hv
  have hy := rv_raw hy
  subst hy
  have hrv : ∀ s : ByteArray, RV F γ (.one (.dc (.raw (.string s)))) (.string s) := fun s => .one _ _ (.dc _ _ (.raw _ rfl))
  generalize hes : xs.map strD = es at hx
  cases hx with | one _ _ hx => cases hx with | dc _ _ hx => cases hx with
  | nil A c =>
    have hn : xs = [] := by simpa using hes
    subst hn
    refine (Tryd.strings_Join_none A c sep w).mono ?_
    rintro e w' ⟨rfl, rfl⟩
    exact below_post hi (Below.refl _ _) (hrv _)
  | slc b off c size es g hsz hr hc hcap =>
    subst hes
    cases xs with
    | nil =>
      refine (Tryd.strings_Join_none (some ⟨b, off, none⟩) c sep w).mono ?_
      rintro e w' ⟨rfl, rfl⟩
      exact below_post hi (Below.refl _ _) (hrv _)
    | cons x0 xs =>
      have hsize : size = 1 := (hsz (strD x0) (by simp)).symm
      subst hsize
      have hcells : ∀ (j : Nat) s, (x0 :: xs)[j]? = some s → w.cell? ⟨b, off + j, none⟩ = some (.string s) := by
        intro j s hj
        have e1 : ((x0 :: xs).map strD)[j]? = some (strD s) := by rw [List.getElem?_map, hj]; rfl
        have h3 := hc j 0 (strD s) (.raw (.string s)) e1 rfl
        have h4 := hr j 0 (strD s) (.raw (.string s)) e1 rfl
        rw [Nat.mul_one, Nat.add_zero] at h3
        have h5 := Fz.cell_world hi.fz h3
        generalize g j 0 = u at h4 h5
        cases h4
        exact h5
      have hbk : b < w.heap.size := by
        have h3 := hc 0 0 (strD x0) (.raw (.string x0)) rfl rfl
        unfold Fz.cell? at h3
        simp only at h3
        cases hb : F b with
        | none => rw [hb] at h3; cases h3
        | some o => exact (Array.getElem?_eq_some_iff.1 (hi.fz b o hb)).1
      have := Tryd.strings_Join b off c (x0 :: xs) sep w hcells hbk h1 (by simpa using hcap) h2
      rw [List.length_map]
      refine this.mono ?_
      rintro e w' ⟨rfl, hb⟩
      exact below_post hi hb (hrv _)
end
section
def delK (sz : Nat) : List AV → List AObj → Option (AV × List AObj)
  | [.one (.bld 0 n), .one (.dc (.raw (.int .i64 i))), .one (.dc (.raw (.int .i64 j)))], [.arr _ s es] =>
    if s = sz ∧ 0 ≤ i ∧ j = i + 1 ∧ i.toNat < n ∧ n ≤ es.length ∧ n + 1 ≤ 140737488355328 then some (.one (.bld 0 (n - 1)), [.arr 0 sz (es.take i.toNat ++ (es.take n).drop (i.toNat + 1))]) else none
  | _, _ => none
def insK : List AV → List AObj → Option (AV × List AObj)
  | [.one (.bld 0 n), .one (.dc (.raw (.int .i64 i))), .one (.dc (.slc [d]))], [.arr _ s es] =>
    if s = 3 ∧ 0 ≤ i ∧ i.toNat ≤ n ∧ n ≤ es.length ∧ (n + 1) * 24 ≤ 140737488355328 ∧ d.length = 3 then some (.one (.bld 0 (n + 1)), [.arr 0 3 (es.take i.toNat ++ d :: (es.take n).drop i.toNat)]) else none
  | _, _ => none
def awK : List AV → List AObj → Option (AV × List AObj)
  | [], [] => some (.one (.dc (.raw (.bool true))), [])
  | _, _ => none
def itoaK : List AV → List AObj → Option (AV × List AObj)
  | [.one (.dc (.raw (.int .i64 n)))], [] => if 0 ≤ n ∧ n < 10 then some (.one (.dc (.raw (.string ⟨#[UInt8.ofNat (48 + n.toNat)]⟩))), []) else none
  | _, _ => none
def strsO : List (List DC) → Option (List ByteArray)
  | [] => some []
  | [.raw (.string s)] :: es => (strsO es).map (s :: ·)
  | _ :: _ => none
theorem strsO_map : ∀ {es : List (List DC)} {xs : List ByteArray}, strsO es = some xs → es = xs.map strD
  | [], xs, h => by simp [strsO] at h; subst h; rfl
  | e :: es, xs, h => by
    unfold strsO at h
    split at h
    · rename_i h0; cases h0
    · rename_i s es' h0
      injection h0 with h1 h2
      subst h1; subst h2
      obtain ⟨ys, h3, h4⟩ := Option.map_eq_some_iff.1 h
      subst h4
      rw [strsO_map h3]; rfl
    · cases h
theorem strsO_of (xs : List ByteArray) : strsO (xs.map strD) = some xs := by
  induction xs with
  | nil => rfl
  | cons x xs ih => rw [List.map_cons, strD, strsO, ih]; rfl
def joinO (sep : ByteArray) : Option (List ByteArray) → Option (AV × List AObj)
  | some xs => if xs.length ≤ 1000 ∧ (Lib.join (xs.map (·.data.toList)) sep.data.toList).length ≤ 1000000 then some (.one (.dc (.raw (.string (joinS xs sep)))), []) else none
  | none => none
def joinK : List AV → List AObj → Option (AV × List AObj)
  | [.one (.dc (.slc es)), .one (.dc (.raw (.string sep)))], [] => joinO sep (strsO es)
  | _, _ => none
def bs (b : Bool) : CallT := fun f args hp =>
  if f = 51 then delK 3 args hp else if f = 76 then delK 2 args hp else if f = 83 then insK args hp else if f = 5 then (if b = true then awK args hp else none) else if f = 37 then itoaK args hp else if f = 39 then joinK args hp else cloneB [(53, 3, 24), (54, 2, 16)] f args hp
theorem arr_of_norm {hp0 : List AObj} {c s : Nat} {es : List (List DC)} (h : hp0.map nocap = [.arr c s es]) : ∃ cap, hp0 = [.arr cap s es] ∧ c = 0 := by
  match hp0, h with
  | [], h => simp at h
  | _ :: _ :: _, h => simp at h
  | [o], h =>
    simp only [List.map_cons, List.map_nil, List.cons.injEq, and_true] at h
    cases o <;> simp [nocap] at h
    obtain ⟨rfl, rfl, rfl⟩ := h
    exact ⟨_, rfl, rfl⟩
theorem bs_ok {G : Glob} {b : Bool} (hA : b = true → QC Tryd.prog G 5 [] (.one (.dc (.raw (.bool true))))) : CallOK Tryd.prog G (bs b) := by
  intro f args hp av o' h hp0 hh
  unfold bs at h
  split at h
  · rename_i hf
    subst hf
    refine ⟨by kernel_rfl, ?_⟩
    unfold delK at h
    split at h
    · rename_i n i j c s es
      split at h
      · rename_i hc
        obtain ⟨rfl, h1, rfl, h2, h3, h4⟩ := hc
        injection h with h; injection h with g1 g2; subst g1; subst g2
        obtain ⟨cap, rfl, _⟩ := arr_of_norm hh
        obtain ⟨k, rfl⟩ := Int.eq_ofNat_of_zero_le h1
        exact del_ac128 h2 h3 h4
      · cases h
    · cases h
  · split at h
    · rename_i hf
      subst hf
      refine ⟨by kernel_rfl, ?_⟩
      unfold delK at h
      split at h
      · rename_i n i j c s es
        split at h
        · rename_i hc
          obtain ⟨rfl, h1, rfl, h2, h3, h4⟩ := hc
          injection h with h; injection h with g1 g2; subst g1; subst g2
          obtain ⟨cap, rfl, _⟩ := arr_of_norm hh
          obtain ⟨k, rfl⟩ := Int.eq_ofNat_of_zero_le h1
          exact del_ac179 h2 h3 h4
        · cases h
      · cases h
    · split at h
      · rename_i hf
        subst hf
        refine ⟨by kernel_rfl, ?_⟩
        unfold insK at h
        split at h
        · rename_i n i d c s es
          split at h
          · rename_i hc
            obtain ⟨rfl, h1, h2, h3, h4, h5⟩ := hc
            injection h with h; injection h with g1 g2; subst g1; subst g2
            obtain ⟨cap, rfl, _⟩ := arr_of_norm hh
            obtain ⟨k, rfl⟩ := Int.eq_ofNat_of_zero_le h1
            exact ins_ac h2 h3 h4 h5
          · cases h
        · cases h
      · split at h
        · rename_i hf
          subst hf
          split at h
          · rename_i hb
            unfold awK at h
            split at h
            · injection h with h; injection h with h1 h2; subst h1; subst h2
              have : hp0 = [] := by simpa using hh
              subst this
              exact ⟨by kernel_rfl, (hA hb).gh (fun a o ⟨h1, h2⟩ _ => ⟨a, o, Gh.refl, Nat.zero_le _, h1, by rw [h2]; rfl⟩)⟩
            · cases h
          · cases h
        · split at h
          · rename_i hf
            subst hf
            refine ⟨by kernel_rfl, ?_⟩
            unfold itoaK at h
            split at h
            · rename_i n
              split at h
              · rename_i hn
                injection h with h; injection h with h1 h2; subst h1; subst h2
                have : hp0 = [] := by simpa using hh
                subst this
                obtain ⟨k, rfl⟩ := Int.eq_ofNat_of_zero_le hn.1
                have e : (⟨(Lib.decDigits k).toArray⟩ : ByteArray) = ⟨#[UInt8.ofNat (48 + (k : Int).toNat)]⟩ := by
                  rw [Lib.decDigits, dif_pos (by omega)]; rfl
                have q := itoa_qc (G := G) (i := k) (by omega)
                rw [e] at q
                exact q.gh (fun a o ⟨h1, h2⟩ _ => ⟨a, o, Gh.refl, Nat.zero_le _, h1, by rw [h2]; rfl⟩)
              · cases h
            · cases h
          · split at h
            · rename_i hf
              subst hf
              refine ⟨by kernel_rfl, ?_⟩
              unfold joinK at h
              split at h
              · rename_i es sep
                unfold joinO at h
                split at h
                · rename_i xs hxs
                  split at h
                  · rename_i hc
                    injection h with h; injection h with h1 h2; subst h1; subst h2
                    have : hp0 = [] := by simpa using hh
                    subst this
                    rw [strsO_map hxs]
                    exact (join_qc (G := G) (by omega) (by omega)).gh (fun a o ⟨h1, h2⟩ _ => ⟨a, o, Gh.refl, Nat.zero_le _, h1, by rw [h2]; rfl⟩)
                  · cases h
                · cases h
              · cases h
            · exact cloneB_ok [(53, 3, 24), (54, 2, 16)] (fun e he => by
                simp only [List.mem_cons, List.not_mem_nil, or_false] at he
                rcases he with rfl | rfl
                · exact ⟨by kernel_rfl, _, [Zi 0, Zi 0, Zi 0], Tryd.func53, Tryd.ntmps53, h53_ok, r53_ok, by decide⟩
                · exact ⟨by kernel_rfl, _, [Zi 0, Zi 0], Tryd.func54, Tryd.ntmps54, h54_ok, r54_ok, by decide⟩) f args hp av o' h hp0 hh
end
end Go.Proofs.YtinageiefahjfaaDoor
