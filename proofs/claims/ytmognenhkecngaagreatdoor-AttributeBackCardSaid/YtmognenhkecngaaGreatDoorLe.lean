/- An instruction that changes nothing gives what the model's operation gives, second part. Conditions: none. -/
import Derived.Test.YtmognenhkecngaaGreatDoorLd
namespace Go.Proofs.YtmognenhkecngaaGreatDoor
set_option linter.unusedSimpArgs false
set_option linter.unusedVariables false
section
variable {P : Program} {F : Fz} {γ : List OI} {w : World} {hp : List AObj}

theorem lt_of_get {α : Type} {l : List α} {i : Nat} {x : α} (h : l[i]? = some x) : i < l.length := by
  rcases Nat.lt_or_ge i l.length with h' | h'
  · exact h'
  · rw [List.getElem?_eq_none h'] at h; cases h

theorem un_ok {op : UnOp} {av v : AV} {x : Value} (h : unV op av = some v) (hx : RV F γ av x) : ∃ r, (Op.unary op x).run P w = .ok r w ∧ RV F γ v r := by
  unfold unV at h
  split at h
  · injection h with h; subst h; rw [rv_raw hx]
    exact ⟨_, by simp [Op.unary, Op.intArith], rv_rawV rfl⟩
  · injection h with h; subst h; rw [rv_raw hx]
    exact ⟨_, by simp [Op.unary], rv_rawV rfl⟩
  · rename_i k n
    rw [rv_raw hx]
    simp only [intOp, Option.map_some, Option.some.injEq] at h
    subst h
    exact ⟨_, by simp [Op.unary, Op.intBits], rv_rawV rfl⟩
  · cases h

theorem conv_ok {s d : TypeId} {ds : TypeDesc} {k : IntKind} {n : Int} {av : AV} {x : Value} (h : asInt? av = some n) (hx : RV F γ av x) (hs : P.underlying s = some ds) (hd : P.underlying d = some (.int k)) :
    ∃ r, (convert s d x).run P w = .ok r w ∧ RV F γ (rawV (.int k (k.wrap n))) r := by
  obtain ⟨j, rfl⟩ := rv_int hx h
  exact ⟨_, by simp [convert, run_underlying hs, run_underlying hd, Conv.intToInt], rv_rawV rfl⟩

theorem cvid_ok {s d : TypeId} {n : ByteArray} {av : AV} {x : Value} (h : asStr? av = some n) (hx : RV F γ av x) (hs : P.underlying s = some .string) (hd : P.underlying d = some .string) :
    ∃ r, (convert s d x).run P w = .ok r w ∧ RV F γ (rawV (.string n)) r := by
  have := rv_str hx h
  subst this
  exact ⟨_, by simp [convert, run_underlying hs, run_underlying hd], rv_rawV rfl⟩

theorem fld_ok {g : Bool} {s s0 off : Nat} {av v : AV} {x : Value} {t : TypeId} (h : fldV g s off av = some v) (hx : RV F γ av x)
    (hg : aggP P t = some g) (hsz : sizeP P t = some s0) (hs : s = if g then s0 else 1) :
    ∃ y cs, x = .agg cs ∧ (part t cs off).run P w = .ok y w ∧ RV F γ v y := by
  unfold fldV at h
  split at h
  · rename_i cs
    split at h
    · rename_i hle
      cases hx with | agg _ vs hvs hr =>
      unfold aggP at hg
      cases hu : P.underlying t with
      | none => simp [hu] at hg
      | some d =>
        simp only [hu, Option.map_some, Option.some.injEq] at hg
        unfold sizeP at hsz
        cases hin : P.info? t with
        | none => simp [hin] at hsz
        | some inf =>
          simp only [hin, Option.map_some, Option.some.injEq] at hsz
          have hr' : ∀ (i : Nat) c v, ((cs.drop off).take s)[i]? = some c → ((vs.toList.drop off).take s)[i]? = some v → RC F γ c v := by
            intro i c v hc hv
            simp only [List.getElem?_take, List.getElem?_drop] at hc hv
            split at hc
            · rename_i hlt
              rw [if_pos hlt] at hv
              exact hr _ _ _ hc (by simpa using hv)
            · cases hc
          obtain ⟨h1, h2⟩ := rv_pack h (vs := (vs.toList.drop off).take s) (by simp; omega) hr'
          cases g with
          | true =>
            refine ⟨.agg (vs.extract off (off + inf.size)), vs, rfl, ?_, ?_⟩
            · unfold aggD at hg
              split at hg
              · simp [part, isAgg, sizeOf, typeInfo, run_underlying hu, hin]
              · simp [part, isAgg, sizeOf, typeInfo, run_underlying hu, hin]
              · cases hg
            · have := h1 rfl
              have he : ((vs.toList.drop off).take s).toArray = vs.extract off (off + inf.size) := by
                apply Array.ext'
                simp at hs
                subst hs; subst hsz
                simp [List.take_drop, Array.toList_extract, List.extract_eq_take_drop]
              rwa [he] at this
          | false =>
            obtain ⟨y, hy, hv⟩ := h2 rfl
            simp at hs
            subst hs
            have hcell : vs[off]? = some y := by
              have := congrArg (fun l : List Value => l[0]?) hy
              simpa [List.getElem?_take, List.getElem?_drop] using this
            refine ⟨y, vs, rfl, ?_, hv⟩
            cases d <;> first | (simp [aggD] at hg; done) | simp [part, isAgg, run_underlying hu, hcell]
    · cases h
  · cases h

theorem ixA_ok {n s : Nat} {av iv v : AV} {x y : Value} {i : Int} {t e : TypeId} (hi : asInt? iv = some i) (hy : RV F γ iv y) (h : ixAV n s av i = some v) (hx : RV F γ av x)
    (ht : P.underlying t = some (.array n e)) (hs : sizeP P e = some s) : ∃ r, (Instr.indexAt t x y).run P w = .ok r w ∧ RV F γ v r := by
  obtain ⟨k, rfl⟩ := rv_int hy hi
  unfold ixAV at h
  split at h
  · rename_i hb
    obtain ⟨b, off, rfl, hv⟩ := addoV_ok h hx
    unfold sizeP at hs
    cases hin : P.info? e with
    | none => simp [hin] at hs
    | some inf =>
      simp only [hin, Option.map_some, Option.some.injEq] at hs
      subst hs
      refine ⟨_, ?_, hv⟩
      simp [Instr.indexAt, asIntOf, run_underlying ht, Instr.sureAddr, hb, sizeOf, typeInfo, hin, addr_add]
  · cases h

theorem ixL_ok {s : Nat} {av iv v : AV} {x y : Value} {i : Int} {t e : TypeId} (hi : asInt? iv = some i) (hy : RV F γ iv y) (h : ixLV hp s av i = some v) (hx : RV F γ av x) (hv : Inv F γ hp w)
    (ht : P.underlying t = some (.slice e)) (hs : sizeP P e = some s) : ∃ r, (Instr.indexAt t x y).run P w = .ok r w ∧ RV F γ v r := by
  obtain ⟨k, rfl⟩ := rv_int hy hi
  unfold sizeP at hs
  cases hin : P.info? e with
  | none => simp [hin] at hs
  | some inf =>
    simp only [hin, Option.map_some, Option.some.injEq] at hs
    subst hs
    unfold ixLV at h
    split at h
    · rename_i es
      split at h
      · rename_i h0
        split at h
        · rename_i e' he
          split at h
          · rename_i hel
            injection h with h; subst h
            have hlt := lt_of_get he
            cases hx with | one c v hc => cases hc with | dc d v hd =>
            cases hd with
            | nil A c => simp at hlt
            | slc b off c size es g hsz hr hcc hcap =>
              have hse : e'.length = size := hsz e' (List.mem_of_getElem? he)
              have hb : 0 ≤ i ∧ i < (es.length : Int) := ⟨h0, by omega⟩
              refine ⟨.pointer (some ⟨b, off + i.toNat * inf.size, none⟩), ?_, .one _ _ (.ref _ _ _ (fun j => g i.toNat j) (fun j d hj => hr _ _ _ _ he hj) (fun j d hj => ?_))⟩
              · simp [Instr.indexAt, asIntOf, run_underlying ht, hb, sizeOf, typeInfo, hin, addr_add]
              · have := hcc _ _ _ _ he hj
                rw [← hse, hel] at this
                rw [Nat.add_assoc]
                exact this
          · cases h
        · cases h
      · cases h
    · rename_i id n
      split at h
      · rename_i cap s' es hb
        split at h
        · rename_i hc
          obtain ⟨h0, hin', hne, rfl⟩ := hc
          injection h with h; subst h
          cases hx with | one c v hc => cases hc with
          | bldN _ cap' hgm => omega
          | bld _ _ b cap' hgm =>
            have hb' : 0 ≤ i ∧ i < (n : Int) := ⟨h0, hin'⟩
            refine ⟨.pointer (some ⟨b, i.toNat * inf.size + 0, none⟩), ?_, .one _ _ (.ept _ _ _ _ _ _ hgm)⟩
            simp [Instr.indexAt, asIntOf, run_underlying ht, hb', sizeOf, typeInfo, hin, addr_add]
        · cases h
      · cases h
    · rename_i id k0 n z
      split at h
      · rename_i cap s' es hb
        split at h
        · rename_i hc
          obtain ⟨h0, hin', hne, rfl, rfl⟩ := hc
          injection h with h; subst h
          cases hx with | one c v hc => cases hc with
          | bls _ _ _ _ b cap' c off hgm ho hcn =>
            have hb' : 0 ≤ i ∧ i < (n : Int) := ⟨h0, hin'⟩
            have ho' := ho (by omega)
            subst ho'
            rcases hgm with hgm | hgm
            · refine ⟨.pointer (some ⟨b, (k0 + i.toNat) * inf.size + 0, none⟩), ?_, .one _ _ (.ept _ _ _ _ _ _ hgm)⟩
              simp [Instr.indexAt, asIntOf, run_underlying ht, hb', sizeOf, typeInfo, hin, addr_add, Nat.add_mul]
            · exact absurd hgm (hv.noArr hb)
        · cases h
      · rename_i cs hb
        split at h
        · rename_i hc
          obtain ⟨h0, hin', rfl⟩ := hc
          injection h with h; subst h
          cases hx with | one c v hc => cases hc with
          | bls _ _ _ _ b cap' c off hgm ho hcn =>
            have hb' : 0 ≤ i ∧ i < (n : Int) := ⟨h0, hin'⟩
            have ho' := ho (by omega)
            subst ho'
            rcases hgm with hgm | hgm
            · exact absurd hgm (hv.noBox hb)
            · refine ⟨.pointer (some ⟨b, (k0 + i.toNat) * inf.size, none⟩), ?_, .one _ _ (.ptr _ _ _ hgm)⟩
              simp [Instr.indexAt, asIntOf, run_underlying ht, hb', sizeOf, typeInfo, hin, addr_add, Nat.add_mul]
        · cases h
      · cases h
    · cases h

theorem ixS_ok {av iv v : AV} {x y : Value} {i : Int} {t : TypeId} (hi : asInt? iv = some i) (hy : RV F γ iv y) (h : ixSV av i = some v) (hx : RV F γ av x)
    (ht : P.underlying t = some .string) : ∃ r, (Instr.index t x y).run P w = .ok r w ∧ RV F γ v r := by
  obtain ⟨k, rfl⟩ := rv_int hy hi
  unfold ixSV at h
  split at h
  · rename_i s hs
    rw [rv_str hx hs]
    split at h
    · rename_i h0
      split at h
      · rename_i b hb
        injection h with h; subst h
        have hb' : s[i.toNat]? = some b := by
          have : s.data[i.toNat]? = some b := by simpa using hb
          simp only [getElem?, decidableGetElem?] at this ⊢
          split at this
          · rename_i hlt
            have hlt' : i.toNat < s.size := hlt
            rw [dif_pos hlt']
            exact this
          · cases this
        exact ⟨_, by simp [Instr.index, asIntOf, run_underlying ht, h0, hb'], rv_rawV rfl⟩
      · cases h
    · cases h
  · cases h

theorem bound_ok {xo : Option AV} {x : Value} {av : AV} {top dflt r : Nat} {code : BoundsCode} (hxo : xo = some av) (hx : RV F γ av x) (h : bound xo top dflt = some r) :
    (Instr.sliceBound x top code).run P w = .ok r w ∧ r ≤ top := by
  subst hxo
  simp only [bound] at h
  split at h
  · rename_i i hi
    split at h
    · rename_i hb
      injection h with h; subst h
      obtain ⟨k, rfl⟩ := rv_int hx hi
      exact ⟨by simp [Instr.sliceBound, asIntOf, hb], by omega⟩
    · cases h
  · cases h

/-- an optional operand and its value -/
def RO (F : Fz) (γ : List OI) (o : Option AV) (x : Option Value) : Prop :=
  match o, x with
  | none, none => True
  | some a, some x => RV F γ a x
  | _, _ => False

theorem bounds_ok {isSlice : Bool} {lo hi : Option AV} {xl xh : Option Value} {len cap l h : Nat} (hl : RO F γ lo xl) (hh : RO F γ hi xh) (hlc : len ≤ cap)
    (h1 : bound hi len len = some h) (h2 : bound lo h 0 = some l) : (Instr.sliceBounds isSlice len cap xl xh none).run P w = .ok (l, h, cap) w ∧ l ≤ h ∧ h ≤ len := by
  have hhi : (match xh with | some v => (Instr.sliceBound v cap (if isSlice then .sliceAcap else .sliceAlen)) | none => pure len : Sem Nat).run P w = .ok h w ∧ h ≤ len := by
    cases hi with
    | none =>
      cases xh with
      | none => simp [bound] at h1; subst h1; exact ⟨rfl, Nat.le_refl _⟩
      | some _ => exact hh.elim
    | some a =>
      cases xh with
      | none => exact hh.elim
      | some x =>
        have hb : h ≤ len := (bound_ok (P := P) (w := w) (code := .index) rfl hh h1).2
        have h1' : bound (some a) cap len = some h := by
          simp only [bound] at h1 ⊢
          split at h1
          · rename_i i hi
            split at h1
            · rename_i hb'
              rw [if_pos ⟨hb'.1, by omega⟩]; exact h1
            · cases h1
          · cases h1
        exact ⟨(bound_ok (P := P) (w := w) rfl hh h1').1, hb⟩
  have hlo : (match xl with | some v => (Instr.sliceBound v h (if (none : Option Value).isSome then .slice3C else .sliceB)) | none => pure 0 : Sem Nat).run P w = .ok l w ∧ l ≤ h := by
    cases lo with
    | none =>
      cases xl with
      | none => simp [bound] at h2; subst h2; exact ⟨rfl, Nat.zero_le _⟩
      | some _ => exact hl.elim
    | some a =>
      cases xl with
      | none => exact hl.elim
      | some x => exact bound_ok (P := P) (w := w) rfl hl h2
  refine ⟨?_, hlo.2, hhi.2⟩
  cases xh <;> cases xl <;> simp_all [Instr.sliceBounds]

theorem slS_ok {av v : AV} {x : Value} {lo hi : Option AV} {xl xh : Option Value} {t : TypeId} (hl : RO F γ lo xl) (hh : RO F γ hi xh) (h : slSV av lo hi = some v) (hx : RV F γ av x)
    (ht : P.underlying t = some .string) : ∃ r, (Instr.sliceAt t x xl xh none).run P w = .ok r w ∧ RV F γ v r := by
  unfold slSV at h
  cases hs : asStr? av with
  | none => simp [hs] at h
  | some s =>
    simp only [hs, Option.bind_some] at h
    cases h1 : bound hi s.size s.size with
    | none => simp [h1] at h
    | some hh' =>
      simp only [h1, Option.bind_some] at h
      cases h2 : bound lo hh' 0 with
      | none => simp [h2] at h
      | some l =>
        simp only [h2, Option.bind_some, Option.some.injEq] at h
        subst h
        rw [rv_str hx hs]
        have := (bounds_ok (P := P) (w := w) (isSlice := false) hl hh (Nat.le_refl _) h1 h2).1
        exact ⟨_, by simp [Instr.sliceAt, Instr.slice, run_underlying ht, this], rv_rawV rfl⟩

theorem slL_ok {s : Nat} {av v : AV} {x : Value} {lo hi : Option AV} {xl xh : Option Value} {t e : TypeId} (hl : RO F γ lo xl) (hh : RO F γ hi xh) (h : slLV hp s av lo hi = some v) (hx : RV F γ av x)
    (hv : Inv F γ hp w) (ht : P.underlying t = some (.slice e)) (hs : sizeP P e = some s) : ∃ r, (Instr.sliceAt t x xl xh none).run P w = .ok r w ∧ RV F γ v r := by
  unfold sizeP at hs
  cases hin : P.info? e with
  | none => simp [hin] at hs
  | some inf =>
    simp only [hin, Option.map_some, Option.some.injEq] at hs
    subst hs
    have run : ∀ A len cap l h', (Instr.sliceBounds true len cap xl xh none).run P w = .ok (l, h', cap) w →
        (Instr.sliceAt t (.slice A len cap) xl xh none).run P w = .ok (.slice (if cap = l then A else A.map (·.add (l * inf.size))) (h' - l) (cap - l)) w := by
      intro A len cap l h' hb
      simp [Instr.sliceAt, Instr.slice, run_underlying ht, hb, sizeOf, typeInfo, hin]
    unfold slLV at h
    split at h
    · rename_i es
      cases h1 : bound hi es.length es.length with
      | none => simp [h1] at h
      | some hh' =>
        simp only [h1, Option.bind_some] at h
        cases h2 : bound lo hh' 0 with
        | none => simp [h2] at h
        | some l =>
          simp only [h2, Option.bind_some] at h
          split at h
          · rename_i hall
            injection h with h; subst h
            cases hx with | one c v hc => cases hc with | dc d v hd =>
            cases hd with
            | nil A c =>
              obtain ⟨hb, hle, hle2⟩ := bounds_ok (P := P) (w := w) (isSlice := true) (len := 0) (cap := c) hl hh (Nat.zero_le _) h1 h2
              simp at hle2
              subst hle2
              have : l = 0 := by omega
              subst this
              refine ⟨_, run _ _ _ _ _ hb, .one _ _ (.dc _ _ ?_)⟩
              simp
              exact .nil _ _
            | slc b off c size es g hsz hr hcc hcap =>
              obtain ⟨hb, hle, hle2⟩ := bounds_ok (P := P) (w := w) (isSlice := true) hl hh hcap h1 h2
              refine ⟨_, run _ _ _ _ _ hb, .one _ _ (.dc _ _ ?_)⟩
              have hlen : ((es.take hh').drop l).length = hh' - l := by simp; omega
              rw [← hlen]
              by_cases hcl : c = l
              · have : (es.take hh').drop l = [] := List.eq_nil_of_length_eq_zero (by rw [hlen]; omega)
                rw [this]
                exact .nil _ _
              · rw [if_neg hcl]
                have hget : ∀ (i : Nat) e', ((es.take hh').drop l)[i]? = some e' → es[l + i]? = some e' := by
                  intro i e' hi
                  simp only [List.getElem?_drop, List.getElem?_take] at hi
                  split at hi
                  · exact hi
                  · cases hi
                simp only [Option.map_some, addr_add]
                by_cases hsz0 : ∃ e', e' ∈ es
                · obtain ⟨e', he'⟩ := hsz0
                  have hsi : size = inf.size := by
                    have h3 := hsz e' he'
                    have h4 := List.all_eq_true.1 hall e' he'
                    simp at h4
                    omega
                  subst hsi
                  refine .slc b (off + l * inf.size) (c - l) inf.size _ (fun i j => g (l + i) j) (fun e h => hsz e (List.mem_of_mem_take (List.mem_of_mem_drop h))) (fun i j e d h h' => hr _ _ _ _ (hget i e h) h') (fun i j e d h h' => ?_) (by rw [hlen]; omega)
                  have := hcc _ _ _ _ (hget i e h) h'
                  rw [Nat.add_mul] at this
                  rw [show off + l * inf.size + (i * inf.size + j) = off + (l * inf.size + i * inf.size + j) by omega]
                  exact this
                · have : es = [] := List.eq_nil_iff_forall_not_mem.2 (fun e' he' => hsz0 ⟨e', he'⟩)
                  subst this
                  simp
                  exact .nil _ _
          · cases h
    · cases h1 : bound hi 0 0 with
      | none => simp [h1] at h
      | some hh' =>
        simp only [h1, Option.bind_some] at h
        cases h2 : bound lo hh' 0 with
        | none => simp [h2] at h
        | some l =>
          simp only [h2, Option.bind_some, Option.some.injEq] at h
          subst h
          rw [rv_raw hx]
          obtain ⟨hb, hle, hle2⟩ := bounds_ok (P := P) (w := w) (isSlice := true) (len := 0) (cap := 0) hl hh (Nat.zero_le _) h1 h2
          have e1 : l = 0 := by omega
          have e2 : hh' = 0 := by omega
          subst e1; subst e2
          exact ⟨_, run _ _ _ _ _ hb, by simp; exact rv_rawV rfl⟩
    · rename_i id n
      split at h
      · rename_i cap s' es hb
        split at h
        · rename_i hne
          cases h1 : bound hi n n with
          | none => simp [h1] at h
          | some hh' =>
            simp only [h1, Option.bind_some, Option.some.injEq] at h
            subst h
            cases hx with | one c v hc => cases hc with
            | bldN _ cap' hgm =>
              obtain ⟨hb2, hle, hle2⟩ := bounds_ok (P := P) (w := w) (isSlice := true) (len := 0) (cap := 0) (l := 0) hl hh (Nat.zero_le _) h1 rfl
              have : hh' = 0 := by omega
              subst this
              exact ⟨_, run _ _ _ _ _ hb2, by simpa using RV.one _ _ (.bldN _ _ hgm)⟩
            | bld _ _ b cap' hgm =>
              obtain ⟨hcc, hec, _⟩ := hv.arr hb hgm
              obtain ⟨hb2, hle, hle2⟩ := bounds_ok (P := P) (w := w) (isSlice := true) (len := n) (cap := cap') (l := 0) hl hh (by omega) h1 rfl
              refine ⟨_, run _ _ _ _ _ hb2, .one _ _ ?_⟩
              have : (if cap' = 0 then some (⟨b, 0, none⟩ : Addr) else (some ⟨b, 0, none⟩ : Option Addr).map (·.add (0 * inf.size))) = some ⟨b, 0, none⟩ := by
                split <;> simp [Addr.add]
              rw [this]
              exact .bld _ _ _ _ hgm
        · cases h
      · rename_i cap s' es lo' hb
        split at h
        · rename_i hne
          obtain ⟨hne, rfl⟩ := hne
          obtain ⟨hh', h1, h⟩ := Option.bind_eq_some_iff.1 h
          obtain ⟨l, h2, h⟩ := Option.bind_eq_some_iff.1 h
          injection h with h; subst h
          cases hx with | one c v hc => cases hc with
          | bldN _ cap' hgm =>
            obtain ⟨hb2, hle, hle2⟩ := bounds_ok (P := P) (w := w) (isSlice := true) (len := 0) (cap := 0) hl hh (Nat.zero_le _) h1 h2
            have e1 : hh' = 0 := by omega
            have e2 : l = 0 := by omega
            subst e1; subst e2
            exact ⟨_, run _ _ _ _ _ hb2, by simpa using RV.one _ _ (.bldN _ _ hgm)⟩
          | bld _ _ b cap' hgm =>
            obtain ⟨hcc, hec, _⟩ := hv.arr hb hgm
            obtain ⟨hb2, hle, hle2⟩ := bounds_ok (P := P) (w := w) (isSlice := true) (len := n) (cap := cap') hl hh (by omega) h1 h2
            refine ⟨_, run _ _ _ _ _ hb2, .one _ _ ?_⟩
            by_cases l0 : l = 0
            · subst l0
              have : (if cap' = 0 then some (⟨b, 0, none⟩ : Addr) else (some ⟨b, 0, none⟩ : Option Addr).map (·.add (0 * inf.size))) = some ⟨b, 0, none⟩ := by
                split <;> simp [Addr.add]
              rw [this, if_pos rfl]
              exact .bld _ _ _ _ hgm
            · rw [if_neg l0]
              by_cases hcl : cap' = l
              · rw [if_pos hcl]
                exact .bls _ _ _ _ _ _ _ _ (.inl hgm) (fun hn => by omega) (by omega)
              · rw [if_neg hcl]
                simp only [Option.map_some, addr_add, Nat.zero_add]
                exact .bls _ _ _ _ _ _ _ _ (.inl hgm) (fun _ => rfl) (by omega)
        · cases h
      · cases h
    · rename_i id k0 n z
      split at h
      · rename_i cap s' es hb
        split at h
        · rename_i hne
          obtain ⟨hne, rfl, rfl⟩ := hne
          obtain ⟨hh', h1, h⟩ := Option.bind_eq_some_iff.1 h
          obtain ⟨l, h2, h⟩ := Option.bind_eq_some_iff.1 h
          injection h with h; subst h
          cases hx with | one c v hc => cases hc with
          | bls _ _ _ _ b cap' c off hgm ho hcn =>
            obtain ⟨hb2, hle, hle2⟩ := bounds_ok (P := P) (w := w) (isSlice := true) (len := n) (cap := c) hl hh hcn h1 h2
            refine ⟨_, run _ _ _ _ _ hb2, .one _ _ ?_⟩
            by_cases hcl : c = l
            · rw [if_pos hcl]
              exact .bls _ _ _ _ _ _ _ _ hgm (fun hn => by omega) (by omega)
            · rw [if_neg hcl]
              simp only [Option.map_some, addr_add]
              exact .bls _ _ _ _ _ _ _ _ hgm (fun hn => by rw [ho (by omega), Nat.add_mul]) (by omega)
        · cases h
      · rename_i cs hb
        split at h
        · rename_i hne
          subst hne
          obtain ⟨hh', h1, h⟩ := Option.bind_eq_some_iff.1 h
          obtain ⟨l, h2, h⟩ := Option.bind_eq_some_iff.1 h
          injection h with h; subst h
          cases hx with | one c v hc => cases hc with
          | bls _ _ _ _ b cap' c off hgm ho hcn =>
            obtain ⟨hb2, hle, hle2⟩ := bounds_ok (P := P) (w := w) (isSlice := true) (len := n) (cap := c) hl hh hcn h1 h2
            refine ⟨_, run _ _ _ _ _ hb2, .one _ _ ?_⟩
            by_cases hcl : c = l
            · rw [if_pos hcl]
              exact .bls _ _ _ _ _ _ _ _ hgm (fun hn => by omega) (by omega)
            · rw [if_neg hcl]
              simp only [Option.map_some, addr_add]
              exact .bls _ _ _ _ _ _ _ _ hgm (fun hn => by rw [ho (by omega), Nat.add_mul]) (by omega)
        · cases h
      · cases h
    · cases h

theorem slA_ok {n s : Nat} {av v : AV} {x : Value} {lo hi : Option AV} {xl xh : Option Value} {t e : TypeId} (hl : RO F γ lo xl) (hh : RO F γ hi xh) (h : slAV n s av lo hi = some v) (hx : RV F γ av x)
    (ht : P.underlying t = some (.array n e)) (hs : sizeP P e = some s) (hs0 : s ≠ 0) : ∃ r, (Instr.sliceAt t x xl xh none).run P w = .ok r w ∧ RV F γ v r := by
  unfold sizeP at hs
  cases hin : P.info? e with
  | none => simp [hin] at hs
  | some inf =>
    simp only [hin, Option.map_some, Option.some.injEq] at hs
    subst hs
    unfold slAV at h
    split at h
    · rename_i id off
      split at h
      · rename_i hm
        obtain ⟨hh', h1, h⟩ := Option.bind_eq_some_iff.1 h
        obtain ⟨l, h2, h⟩ := Option.bind_eq_some_iff.1 h
        injection h with h; subst h
        cases hx with | one c v hc => cases hc with
        | ptr _ _ b hgm =>
          obtain ⟨hb2, hle, hle2⟩ := bounds_ok (P := P) (w := w) (isSlice := false) (len := n) (cap := n) hl hh (Nat.le_refl _) h1 h2
          refine ⟨.slice (some (if n = l then ⟨b, off, none⟩ else (⟨b, off, none⟩ : Addr).add (l * inf.size))) (hh' - l) (n - l), ?_, .one _ _ ?_⟩
          · simp [Instr.sliceAt, Instr.sureAddr, run_underlying ht, hb2, sizeOf, typeInfo, hin]
          · by_cases hcl : n = l
            · rw [if_pos hcl]
              exact .bls _ _ _ _ _ 0 _ _ (.inr hgm) (fun hn => by omega) (by omega)
            · rw [if_neg hcl]
              simp only [addr_add]
              refine .bls _ _ _ _ _ 0 _ _ (.inr hgm) (fun _ => ?_) (by omega)
              rw [Nat.add_mul, Nat.div_mul_cancel (Nat.dvd_of_mod_eq_zero hm)]
      · cases h
    · cases h

end
end Go.Proofs.YtmognenhkecngaaGreatDoor
