/- A bigger base: what a table answers it answers over a bigger base too. Conditions: none. -/
import Derived.Test.YtinageiefahjfaaGreatDoorTg
import Derived.Test.YtinageiefahjfaaGreatDoorCb
import Derived.Test.YtinageiefahjfaaGreatDoorTn
import Derived.Test.YtinageiefahjfaaGreatDoorNg
namespace Go.Proofs.YtinageiefahjfaaGreatDoor
set_option linter.unusedSimpArgs false
set_option linter.unusedVariables false
section
def delK (sz : Nat) : List AV → List AObj → Option (AV × List AObj)
  | [.one (.bld 0 n), .one (.dc (.raw (.int .i64 i))), .one (.dc (.raw (.int .i64 j)))], [.arr _ s es] =>
    if s = sz ∧ 0 ≤ i ∧ j = i + 1 ∧ i.toNat < n ∧ n ≤ es.length ∧ n + 1 ≤ 140737488355328 then some (.one (.bld 0 (n - 1)), [.arr 0 sz (es.take i.toNat ++ (es.take n).drop (i.toNat + 1))]) else none
  | _, _ => none
def insK : List AV → List AObj → Option (AV × List AObj)
  | [.one (.bld 0 n), .one (.dc (.raw (.int .i64 i))), .one (.dc (.slc [d]))], [.arr _ s es] =>
    if s = 3 ∧ 0 ≤ i ∧ i.toNat ≤ n ∧ n ≤ es.length ∧ (n + 1) * 24 ≤ 140737488355328 ∧ d.length = 3 then some (.one (.bld 0 (n + 1)), [.arr 0 3 (es.take i.toNat ++ d :: (es.take n).drop i.toNat)]) else none
  | _, _ => none
def awK : List AV → List AObj → Option (AV × List AObj)
  | [], [] => some (.one (.dc (.raw (.bool true))), [])
  | _, _ => none
def itoaK : List AV → List AObj → Option (AV × List AObj)
  | [.one (.dc (.raw (.int .i64 n)))], [] => if 0 ≤ n ∧ n < 10 then some (.one (.dc (.raw (.string ⟨#[UInt8.ofNat (48 + n.toNat)]⟩))), []) else none
  | _, _ => none
def strsO : List (List DC) → Option (List ByteArray)
  | [] => some []
  | [.raw (.string s)] :: es => (strsO es).map (s :: ·)
  | _ :: _ => none
theorem strsO_map : ∀ {es : List (List DC)} {xs : List ByteArray}, strsO es = some xs → es = xs.map strD
  | [], xs, h => by simp [strsO] at h; subst h; rfl
  | e :: es, xs, h => by
    unfold strsO at h
    split at h
    · rename_i h0; cases h0
    · rename_i s es' h0
      injection h0 with h1 h2
      subst h1; subst h2
      obtain ⟨ys, h3, h4⟩ := Option.map_eq_some_iff.1 h
      subst h4
      rw [strsO_map h3]; rfl
    · cases h
theorem strsO_of (xs : List ByteArray) : strsO (xs.map strD) = some xs := by
  induction xs with
  | nil => rfl
  | cons x xs ih => rw [List.map_cons, strD, strsO, ih]; rfl
def joinO (sep : ByteArray) : Option (List ByteArray) → Option (AV × List AObj)
  | some xs => if xs.length ≤ 1000 ∧ (Lib.join (xs.map (·.data.toList)) sep.data.toList).length ≤ 1000000 then some (.one (.dc (.raw (.string (joinS xs sep)))), []) else none
  | none => none
def joinK : List AV → List AObj → Option (AV × List AObj)
  | [.one (.dc (.slc es)), .one (.dc (.raw (.string sep)))], [] => joinO sep (strsO es)
  | _, _ => none
def bs (b : Bool) : CallT := fun f args hp =>
  if f = 128 then delK 3 args hp else if f = 179 then delK 2 args hp else if f = 200 then insK args hp else if f = 10 then (if b = true then awK args hp else none) else if f = 79 then itoaK args hp else if f = 81 then joinK args hp else cloneB [(109, 3, 24), (110, 2, 16)] f args hp
theorem arr_of_norm {hp0 : List AObj} {c s : Nat} {es : List (List DC)} (h : hp0.map nocap = [.arr c s es]) : ∃ cap, hp0 = [.arr cap s es] ∧ c = 0 := by
  match hp0, h with
  | [], h => simp at h
  | _ :: _ :: _, h => simp at h
  | [o], h =>
    simp only [List.map_cons, List.map_nil, List.cons.injEq, and_true] at h
    cases o <;> simp [nocap] at h
    obtain ⟨rfl, rfl, rfl⟩ := h
    exact ⟨_, rfl, rfl⟩
theorem bs_ok {G : Glob} {b : Bool} (hA : b = true → QC Tryz.prog G 10 [] (.one (.dc (.raw (.bool true))))) : CallOK Tryz.prog G (bs b) := by
  intro f args hp av o' h hp0 hh
  unfold bs at h
  split at h
  · rename_i hf
    subst hf
    refine ⟨by kernel_rfl, ?_⟩
    unfold delK at h
    split at h
    · rename_i n i j c s es
      split at h
      · rename_i hc
        obtain ⟨rfl, h1, rfl, h2, h3, h4⟩ := hc
        injection h with h; injection h with g1 g2; subst g1; subst g2
        obtain ⟨cap, rfl, _⟩ := arr_of_norm hh
        obtain ⟨k, rfl⟩ := Int.eq_ofNat_of_zero_le h1
        exact del_ac128 h2 h3 h4
      · cases h
    · cases h
  · split at h
    · rename_i hf
      subst hf
      refine ⟨by kernel_rfl, ?_⟩
      unfold delK at h
      split at h
      · rename_i n i j c s es
        split at h
        · rename_i hc
          obtain ⟨rfl, h1, rfl, h2, h3, h4⟩ := hc
          injection h with h; injection h with g1 g2; subst g1; subst g2
          obtain ⟨cap, rfl, _⟩ := arr_of_norm hh
          obtain ⟨k, rfl⟩ := Int.eq_ofNat_of_zero_le h1
          exact del_ac179 h2 h3 h4
        · cases h
      · cases h
    · split at h
      · rename_i hf
        subst hf
        refine ⟨by kernel_rfl, ?_⟩
        unfold insK at h
        split at h
        · rename_i n i d c s es
          split at h
          · rename_i hc
            obtain ⟨rfl, h1, h2, h3, h4, h5⟩ := hc
            injection h with h; injection h with g1 g2; subst g1; subst g2
            obtain ⟨cap, rfl, _⟩ := arr_of_norm hh
            obtain ⟨k, rfl⟩ := Int.eq_ofNat_of_zero_le h1
            exact ins_ac h2 h3 h4 h5
          · cases h
        · cases h
      · split at h
        · rename_i hf
          subst hf
          split at h
          · rename_i hb
            unfold awK at h
            split at h
            · injection h with h; injection h with h1 h2; subst h1; subst h2
              have : hp0 = [] := by simpa using hh
              subst this
              exact ⟨by kernel_rfl, (hA hb).gh (fun a o ⟨h1, h2⟩ _ => ⟨a, o, Gh.refl, Nat.zero_le _, h1, by rw [h2]; rfl⟩)⟩
            · cases h
          · cases h
        · split at h
          · rename_i hf
            subst hf
            refine ⟨by kernel_rfl, ?_⟩
            unfold itoaK at h
            split at h
            · rename_i n
              split at h
              · rename_i hn
                injection h with h; injection h with h1 h2; subst h1; subst h2
                have : hp0 = [] := by simpa using hh
                subst this
                obtain ⟨k, rfl⟩ := Int.eq_ofNat_of_zero_le hn.1
                have e : (⟨(Lib.decDigits k).toArray⟩ : ByteArray) = ⟨#[UInt8.ofNat (48 + (k : Int).toNat)]⟩ := by
                  rw [Lib.decDigits, dif_pos (by omega)]; rfl
                have q := itoa_qc (G := G) (i := k) (by omega)
                rw [e] at q
                exact q.gh (fun a o ⟨h1, h2⟩ _ => ⟨a, o, Gh.refl, Nat.zero_le _, h1, by rw [h2]; rfl⟩)
              · cases h
            · cases h
          · split at h
            · rename_i hf
              subst hf
              refine ⟨by kernel_rfl, ?_⟩
              unfold joinK at h
              split at h
              · rename_i es sep
                unfold joinO at h
                split at h
                · rename_i xs hxs
                  split at h
                  · rename_i hc
                    injection h with h; injection h with h1 h2; subst h1; subst h2
                    have : hp0 = [] := by simpa using hh
                    subst this
                    rw [strsO_map hxs]
                    exact (join_qc (G := G) (by omega) (by omega)).gh (fun a o ⟨h1, h2⟩ _ => ⟨a, o, Gh.refl, Nat.zero_le _, h1, by rw [h2]; rfl⟩)
                  · cases h
                · cases h
              · cases h
            · exact cloneB_ok [(109, 3, 24), (110, 2, 16)] (fun e he => by
                simp only [List.mem_cons, List.not_mem_nil, or_false] at he
                rcases he with rfl | rfl
                · exact ⟨by kernel_rfl, _, [Zi 0, Zi 0, Zi 0], Tryz.func109, Tryz.ntmps109, h109_ok, r109_ok, by decide⟩
                · exact ⟨by kernel_rfl, _, [Zi 0, Zi 0], Tryz.func110, Tryz.ntmps110, h110_ok, r110_ok, by decide⟩) f args hp av o' h hp0 hh
end
section
theorem callN_up {G : Glob} {T T' : HT} (ht : ∀ f, T.tab f = T'.tab f) (hb : ∀ f a hp r, T.tab f = none → T.base f a hp = some r → T'.base f a hp = some r) : ∀ (n : Nat) (f : FuncId) (a : List AV) (hp : List AObj) (r : AV × List AObj), callN G T n f a hp = some r → EV G T' f a hp = some r
  | 0, f, a, hp, r, h => by simp [callN] at h
  | n + 1, f, a, hp, r, h => by
    rw [callN] at h
    cases hT : T.tab f with
    | none =>
      rw [hT] at h
      exact EV_base (by rw [← ht]; exact hT) (hb f a hp r hT h)
    | some x =>
      rw [hT] at h
      obtain ⟨m, hm⟩ := funE_sup (calls := fun _ => EV G T') (call := callN G T n) (fun f a hp r h => ⟨0, fun _ _ => callN_up ht hb n f a hp r h⟩) h
      exact EV_of (by rw [← ht]; exact hT) (hm m (Nat.le_refl _))
theorem EV_up {G : Glob} {T T' : HT} (ht : ∀ f, T.tab f = T'.tab f) (hb : ∀ f a hp r, T.tab f = none → T.base f a hp = some r → T'.base f a hp = some r) {f : FuncId} {a : List AV} {hp : List AObj} {r : AV × List AObj} (h : EV G T f a hp = some r) : EV G T' f a hp = some r := by
  obtain ⟨n, hn⟩ := lim_some h
  exact callN_up ht hb n _ _ _ _ hn
end
end Go.Proofs.YtinageiefahjfaaGreatDoor
