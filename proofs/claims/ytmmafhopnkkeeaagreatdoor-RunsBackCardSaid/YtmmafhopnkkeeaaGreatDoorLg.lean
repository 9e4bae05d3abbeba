/- How the abstract heap follows the world: new blocks, stores, what is frozen, what is forgotten. Conditions: none. -/
import Derived.Test.YtmmafhopnkkeeaaGreatDoorLd
namespace Go.Proofs.YtmmafhopnkkeeaaGreatDoor
set_option linter.unusedSimpArgs false
set_option linter.unusedVariables false
section
section
variable {P:Program} {F:Fz} {γ:List OI} {w:World} {hp:List AObj}
theorem lt_of_get {α:Type} {l:List α} {i:Nat} {x:α} (h:l[i]?=some x):i < l.length:=by
  rcases Nat.lt_or_ge i l.length with h' | h'
  · exact h'
  · rw [List.getElem?_eq_none h'] at h;cases h
theorem un_ok {op:UnOp} {av v:AV} {x:Value} (h:unV op av=some v) (hx:RV F γ av x):∃ r,(Op.unary op x).run P w=.ok r w∧RV F γ v r:=by
  unfold unV at h
  split at h
  · injection h with h;subst h;rw [rv_raw hx]
    exact ⟨_,by simp [Op.unary,Op.intArith],rv_rawV rfl⟩
  · injection h with h;subst h;rw [rv_raw hx]
    exact ⟨_,by simp [Op.unary],rv_rawV rfl⟩
  · rename_i k n
    rw [rv_raw hx]
    simp only [intOp,Option.map_some,Option.some.injEq] at h
    subst h
    exact ⟨_,by simp [Op.unary,Op.intBits],rv_rawV rfl⟩
  · cases h
theorem conv_ok {s d:TypeId} {ds:TypeDesc} {k:IntKind} {n:Int} {av:AV} {x:Value} (h:asInt? av=some n) (hx:RV F γ av x) (hs:P.underlying s=some ds) (hd:P.underlying d=some (.int k)):
    ∃ r,(convert s d x).run P w=.ok r w∧RV F γ (rawV (.int k (k.wrap n))) r:=by
  obtain ⟨j,rfl⟩:=rv_int hx h
  exact ⟨_,by simp [convert,run_underlying hs,run_underlying hd,Conv.intToInt],rv_rawV rfl⟩
theorem cvid_ok {s d:TypeId} {n:ByteArray} {av:AV} {x:Value} (h:asStr? av=some n) (hx:RV F γ av x) (hs:P.underlying s=some .string) (hd:P.underlying d=some .string):
    ∃ r,(convert s d x).run P w=.ok r w∧RV F γ (rawV (.string n)) r:=by
  have:=rv_str hx h
  subst this
  exact ⟨_,by simp [convert,run_underlying hs,run_underlying hd],rv_rawV rfl⟩
theorem fld_ok {g:Bool} {s s0 off:Nat} {av v:AV} {x:Value} {t:TypeId} (h:fldV g s off av=some v) (hx:RV F γ av x)
    (hg:aggP P t=some g) (hsz:sizeP P t=some s0) (hs:s=if g then s0 else 1):
    ∃ y cs,x=.agg cs∧(part t cs off).run P w=.ok y w∧RV F γ v y:=by
  unfold fldV at h
  split at h
  · rename_i cs
    split at h
    · rename_i hle
      cases hx with | agg _ vs hvs hr=>
      unfold aggP at hg
      cases hu:P.underlying t with
      | none=>simp [hu] at hg
      | some d=>
        simp only [hu,Option.map_some,Option.some.injEq] at hg
        unfold sizeP at hsz
        cases hin:P.info? t with
        | none=>simp [hin] at hsz
        | some inf=>
          simp only [hin,Option.map_some,Option.some.injEq] at hsz
          have hr':∀ (i:Nat) c v,((cs.drop off).take s)[i]?=some c→((vs.toList.drop off).take s)[i]?=some v→RC F γ c v:=by
            intro i c v hc hv
            simp only [List.getElem?_take,List.getElem?_drop] at hc hv
            split at hc
            · rename_i hlt
              rw [if_pos hlt] at hv
              exact hr _ _ _ hc (by simpa using hv)
            · cases hc
          obtain ⟨h1,h2⟩:=rv_pack h (vs:=(vs.toList.drop off).take s) (by simp;omega) hr'
          cases g with
          | true=>
            refine ⟨.agg (vs.extract off (off+inf.size)),vs,rfl, ?_, ?_⟩
            · unfold aggD at hg
              split at hg
              · simp [part,isAgg,sizeOf,typeInfo,run_underlying hu,hin]
              · simp [part,isAgg,sizeOf,typeInfo,run_underlying hu,hin]
              · cases hg
            · have:=h1 rfl
              have he:((vs.toList.drop off).take s).toArray=vs.extract off (off+inf.size):=by
                apply Array.ext'
                simp at hs
                subst hs;subst hsz
                simp [List.take_drop,Array.toList_extract,List.extract_eq_take_drop]
              rwa [he] at this
          | false=>
            obtain ⟨y,hy,hv⟩:=h2 rfl
            simp at hs
            subst hs
            have hcell:vs[off]?=some y:=by
              have:=congrArg (fun l:List Value=>l[0]?) hy
              simpa [List.getElem?_take,List.getElem?_drop] using this
            refine ⟨y,vs,rfl, ?_,hv⟩
            cases d<;>first | (simp [aggD] at hg;done) | simp [part,isAgg,run_underlying hu,hcell]
    · cases h
  · cases h
theorem ixA_ok {n s:Nat} {av iv v:AV} {x y:Value} {i:Int} {t e:TypeId} (hi:asInt? iv=some i) (hy:RV F γ iv y) (h:ixAV n s av i=some v) (hx:RV F γ av x)
    (ht:P.underlying t=some (.array n e)) (hs:sizeP P e=some s):∃ r,(Instr.indexAt t x y).run P w=.ok r w∧RV F γ v r:=by
  obtain ⟨k,rfl⟩:=rv_int hy hi
  unfold ixAV at h
  split at h
  · rename_i hb
    obtain ⟨b,off,rfl,hv⟩:=addoV_ok h hx
    unfold sizeP at hs
    cases hin:P.info? e with
    | none=>simp [hin] at hs
    | some inf=>
      simp only [hin,Option.map_some,Option.some.injEq] at hs
      subst hs
      refine ⟨_, ?_,hv⟩
      simp [Instr.indexAt,asIntOf,run_underlying ht,Instr.sureAddr,hb,sizeOf,typeInfo,hin,addr_add]
  · cases h
theorem ixL_ok {s:Nat} {av iv v:AV} {x y:Value} {i:Int} {t e:TypeId} (hi:asInt? iv=some i) (hy:RV F γ iv y) (h:ixLV hp s av i=some v) (hx:RV F γ av x) (hv:Inv F γ hp w)
    (ht:P.underlying t=some (.slice e)) (hs:sizeP P e=some s):∃ r,(Instr.indexAt t x y).run P w=.ok r w∧RV F γ v r:=by
  obtain ⟨k,rfl⟩:=rv_int hy hi
  unfold sizeP at hs
  cases hin:P.info? e with
  | none=>simp [hin] at hs
  | some inf=>
    simp only [hin,Option.map_some,Option.some.injEq] at hs
    subst hs
    unfold ixLV at h
    split at h
    · rename_i es
      split at h
      · rename_i h0
        split at h
        · rename_i e' he
          split at h
          · rename_i hel
            injection h with h;subst h
            have hlt:=lt_of_get he
            cases hx with | one c v hc=>cases hc with | dc d v hd=>
            cases hd with
            | nil A c=>simp at hlt
            | slc b off c size es g hsz hr hcc hcap=>
              have hse:e'.length=size:=hsz e' (List.mem_of_getElem? he)
              have hb:0≤i∧i < (es.length:Int):=⟨h0,by omega⟩
              refine ⟨.pointer (some ⟨b,off+i.toNat * inf.size,none⟩), ?_,.one _ _ (.ref _ _ _ (fun j=>g i.toNat j) (fun j d hj=>hr _ _ _ _ he hj) (fun j d hj=>?_))⟩
              · simp [Instr.indexAt,asIntOf,run_underlying ht,hb,sizeOf,typeInfo,hin,addr_add]
              · have:=hcc _ _ _ _ he hj
                rw [← hse,hel] at this
                rw [Nat.add_assoc]
                exact this
          · cases h
        · cases h
      · cases h
    · rename_i id n
      split at h
      · rename_i cap s' es hb
        split at h
        · rename_i hc
          obtain ⟨h0,hin',hne,rfl⟩:=hc
          injection h with h;subst h
          cases hx with | one c v hc=>cases hc with
          | bldN _ cap' hgm=>omega
          | bld _ _ b cap' hgm=>
            have hb':0≤i∧i < (n:Int):=⟨h0,hin'⟩
            refine ⟨.pointer (some ⟨b,i.toNat * inf.size+0,none⟩), ?_,.one _ _ (.ept _ _ _ _ _ _ hgm)⟩
            simp [Instr.indexAt,asIntOf,run_underlying ht,hb',sizeOf,typeInfo,hin,addr_add]
        · cases h
      · cases h
    · rename_i id k0 n z
      split at h
      · rename_i cap s' es hb
        split at h
        · rename_i hc
          obtain ⟨h0,hin',hne,rfl,rfl⟩:=hc
          injection h with h;subst h
          cases hx with | one c v hc=>cases hc with
          | bls _ _ _ _ b cap' c off hgm ho hcn=>
            have hb':0≤i∧i < (n:Int):=⟨h0,hin'⟩
            have ho':=ho (by omega)
            subst ho'
            rcases hgm with hgm | hgm
            · refine ⟨.pointer (some ⟨b,(k0+i.toNat) * inf.size+0,none⟩), ?_,.one _ _ (.ept _ _ _ _ _ _ hgm)⟩
              simp [Instr.indexAt,asIntOf,run_underlying ht,hb',sizeOf,typeInfo,hin,addr_add,Nat.add_mul]
            · exact absurd hgm (hv.noArr hb)
        · cases h
      · rename_i cs hb
        split at h
        · rename_i hc
          obtain ⟨h0,hin',rfl⟩:=hc
          injection h with h;subst h
          cases hx with | one c v hc=>cases hc with
          | bls _ _ _ _ b cap' c off hgm ho hcn=>
            have hb':0≤i∧i < (n:Int):=⟨h0,hin'⟩
            have ho':=ho (by omega)
            subst ho'
            rcases hgm with hgm | hgm
            · exact absurd hgm (hv.noBox hb)
            · refine ⟨.pointer (some ⟨b,(k0+i.toNat) * inf.size,none⟩), ?_,.one _ _ (.ptr _ _ _ hgm)⟩
              simp [Instr.indexAt,asIntOf,run_underlying ht,hb',sizeOf,typeInfo,hin,addr_add,Nat.add_mul]
        · cases h
      · cases h
    · cases h
theorem ixS_ok {av iv v:AV} {x y:Value} {i:Int} {t:TypeId} (hi:asInt? iv=some i) (hy:RV F γ iv y) (h:ixSV av i=some v) (hx:RV F γ av x)
    (ht:P.underlying t=some .string):∃ r,(Instr.index t x y).run P w=.ok r w∧RV F γ v r:=by
  obtain ⟨k,rfl⟩:=rv_int hy hi
  unfold ixSV at h
  split at h
  · rename_i s hs
    rw [rv_str hx hs]
    split at h
    · rename_i h0
      split at h
      · rename_i b hb
        injection h with h;subst h
        have hb':s[i.toNat]?=some b:=by
          have:s.data[i.toNat]?=some b:=by simpa using hb
          simp only [getElem?,decidableGetElem?] at this ⊢
          split at this
          · rename_i hlt
            have hlt':i.toNat < s.size:=hlt
            rw [dif_pos hlt']
            exact this
          · cases this
        exact ⟨_,by simp [Instr.index,asIntOf,run_underlying ht,h0,hb'],rv_rawV rfl⟩
      · cases h
    · cases h
  · cases h
theorem bound_ok {xo:Option AV} {x:Value} {av:AV} {top dflt r:Nat} {code:BoundsCode} (hxo:xo=some av) (hx:RV F γ av x) (h:bound xo top dflt=some r):
    (Instr.sliceBound x top code).run P w=.ok r w∧r≤top:=by
  subst hxo
  simp only [bound] at h
  split at h
  · rename_i i hi
    split at h
    · rename_i hb
      injection h with h;subst h
      obtain ⟨k,rfl⟩:=rv_int hx hi
      exact ⟨by simp [Instr.sliceBound,asIntOf,hb],by omega⟩
    · cases h
  · cases h
def RO (F:Fz) (γ:List OI) (o:Option AV) (x:Option Value):Prop:=
  match o,x with
  | none,none=>True
  | some a,some x=>RV F γ a x
  | _,_=>False
theorem bounds_ok {isSlice:Bool} {lo hi:Option AV} {xl xh:Option Value} {len cap l h:Nat} (hl:RO F γ lo xl) (hh:RO F γ hi xh) (hlc:len≤cap)
    (h1:bound hi len len=some h) (h2:bound lo h 0=some l):(Instr.sliceBounds isSlice len cap xl xh none).run P w=.ok (l,h,cap) w∧l≤h∧h≤len:=by
  have hhi:(match xh with | some v=>(Instr.sliceBound v cap (if isSlice then .sliceAcap else .sliceAlen)) | none=>pure len:Sem Nat).run P w=.ok h w∧h≤len:=by
    cases hi with
    | none=>
      cases xh with
      | none=>simp [bound] at h1;subst h1;exact ⟨rfl,Nat.le_refl _⟩
      | some _=>exact hh.elim
    | some a=>
      cases xh with
      | none=>exact hh.elim
      | some x=>
        have hb:h≤len:=(bound_ok (P:=P) (w:=w) (code:=.index) rfl hh h1).2
        have h1':bound (some a) cap len=some h:=by
          simp only [bound] at h1 ⊢
          split at h1
          · rename_i i hi
            split at h1
            · rename_i hb'
              rw [if_pos ⟨hb'.1,by omega⟩];exact h1
            · cases h1
          · cases h1
        exact ⟨(bound_ok (P:=P) (w:=w) rfl hh h1').1,hb⟩
  have hlo:(match xl with | some v=>(Instr.sliceBound v h (if (none:Option Value).isSome then .slice3C else .sliceB)) | none=>pure 0:Sem Nat).run P w=.ok l w∧l≤h:=by
    cases lo with
    | none=>
      cases xl with
      | none=>simp [bound] at h2;subst h2;exact ⟨rfl,Nat.zero_le _⟩
      | some _=>exact hl.elim
    | some a=>
      cases xl with
      | none=>exact hl.elim
      | some x=>exact bound_ok (P:=P) (w:=w) rfl hl h2
  refine ⟨?_,hlo.2,hhi.2⟩
  cases xh<;>cases xl<;>simp_all [Instr.sliceBounds]
theorem slS_ok {av v:AV} {x:Value} {lo hi:Option AV} {xl xh:Option Value} {t:TypeId} (hl:RO F γ lo xl) (hh:RO F γ hi xh) (h:slSV av lo hi=some v) (hx:RV F γ av x)
    (ht:P.underlying t=some .string):∃ r,(Instr.sliceAt t x xl xh none).run P w=.ok r w∧RV F γ v r:=by
  unfold slSV at h
  cases hs:asStr? av with
  | none=>simp [hs] at h
  | some s=>
    simp only [hs,Option.bind_some] at h
    cases h1:bound hi s.size s.size with
    | none=>simp [h1] at h
    | some hh'=>
      simp only [h1,Option.bind_some] at h
      cases h2:bound lo hh' 0 with
      | none=>simp [h2] at h
      | some l=>
        simp only [h2,Option.bind_some,Option.some.injEq] at h
        subst h
        rw [rv_str hx hs]
        have:=(bounds_ok (P:=P) (w:=w) (isSlice:=false) hl hh (Nat.le_refl _) h1 h2).1
        exact ⟨_,by simp [Instr.sliceAt,Instr.slice,run_underlying ht,this],rv_rawV rfl⟩
theorem slL_ok {s:Nat} {av v:AV} {x:Value} {lo hi:Option AV} {xl xh:Option Value} {t e:TypeId} (hl:RO F γ lo xl) (hh:RO F γ hi xh) (h:slLV hp s av lo hi=some v) (hx:RV F γ av x)
    (hv:Inv F γ hp w) (ht:P.underlying t=some (.slice e)) (hs:sizeP P e=some s):∃ r,(Instr.sliceAt t x xl xh none).run P w=.ok r w∧RV F γ v r:=by
  unfold sizeP at hs
  cases hin:P.info? e with
  | none=>simp [hin] at hs
  | some inf=>
    simp only [hin,Option.map_some,Option.some.injEq] at hs
    subst hs
    have run:∀ A len cap l h',(Instr.sliceBounds true len cap xl xh none).run P w=.ok (l,h',cap) w→
        (Instr.sliceAt t (.slice A len cap) xl xh none).run P w=.ok (.slice (if cap=l then A else A.map (·.add (l * inf.size))) (h' - l) (cap - l)) w:=by
      intro A len cap l h' hb
      simp [Instr.sliceAt,Instr.slice,run_underlying ht,hb,sizeOf,typeInfo,hin]
    unfold slLV at h
    split at h
    · rename_i es
      cases h1:bound hi es.length es.length with
      | none=>simp [h1] at h
      | some hh'=>
        simp only [h1,Option.bind_some] at h
        cases h2:bound lo hh' 0 with
        | none=>simp [h2] at h
        | some l=>
          simp only [h2,Option.bind_some] at h
          split at h
          · rename_i hall
            injection h with h;subst h
            cases hx with | one c v hc=>cases hc with | dc d v hd=>
            cases hd with
            | nil A c=>
              obtain ⟨hb,hle,hle2⟩:=bounds_ok (P:=P) (w:=w) (isSlice:=true) (len:=0) (cap:=c) hl hh (Nat.zero_le _) h1 h2
              simp at hle2
              subst hle2
              have:l=0:=by omega
              subst this
              refine ⟨_,run _ _ _ _ _ hb,.one _ _ (.dc _ _ ?_)⟩
              simp
              exact .nil _ _
            | slc b off c size es g hsz hr hcc hcap=>
              obtain ⟨hb,hle,hle2⟩:=bounds_ok (P:=P) (w:=w) (isSlice:=true) hl hh hcap h1 h2
              refine ⟨_,run _ _ _ _ _ hb,.one _ _ (.dc _ _ ?_)⟩
              have hlen:((es.take hh').drop l).length=hh' - l:=by simp;omega
              rw [← hlen]
              by_cases hcl:c=l
              · have:(es.take hh').drop l=[]:=List.eq_nil_of_length_eq_zero (by rw [hlen];omega)
                rw [this]
                exact .nil _ _
              · rw [if_neg hcl]
                have hget:∀ (i:Nat) e',((es.take hh').drop l)[i]?=some e'→es[l+i]?=some e':=by
                  intro i e' hi
                  simp only [List.getElem?_drop,List.getElem?_take] at hi
                  split at hi
                  · exact hi
                  · cases hi
                simp only [Option.map_some,addr_add]
                by_cases hsz0:∃ e',e'∈es
                · obtain ⟨e',he'⟩:=hsz0
                  have hsi:size=inf.size:=by
                    have h3:=hsz e' he'
                    have h4:=List.all_eq_true.1 hall e' he'
                    simp at h4
                    omega
                  subst hsi
                  refine .slc b (off+l * inf.size) (c - l) inf.size _ (fun i j=>g (l+i) j) (fun e h=>hsz e (List.mem_of_mem_take (List.mem_of_mem_drop h))) (fun i j e d h h'=>hr _ _ _ _ (hget i e h) h') (fun i j e d h h'=>?_) (by rw [hlen];omega)
                  have:=hcc _ _ _ _ (hget i e h) h'
                  rw [Nat.add_mul] at this
                  rw [show off+l * inf.size+(i * inf.size+j)=off+(l * inf.size+i * inf.size+j) by omega]
                  exact this
                · have:es=[]:=List.eq_nil_iff_forall_not_mem.2 (fun e' he'=>hsz0 ⟨e',he'⟩)
                  subst this
                  simp
                  exact .nil _ _
          · cases h
    · cases h1:bound hi 0 0 with
      | none=>simp [h1] at h
      | some hh'=>
        simp only [h1,Option.bind_some] at h
        cases h2:bound lo hh' 0 with
        | none=>simp [h2] at h
        | some l=>
          simp only [h2,Option.bind_some,Option.some.injEq] at h
          subst h
          rw [rv_raw hx]
          obtain ⟨hb,hle,hle2⟩:=bounds_ok (P:=P) (w:=w) (isSlice:=true) (len:=0) (cap:=0) hl hh (Nat.zero_le _) h1 h2
          have e1:l=0:=by omega
          have e2:hh'=0:=by omega
          subst e1;subst e2
          exact ⟨_,run _ _ _ _ _ hb,by simp;exact rv_rawV rfl⟩
    · rename_i id n
      split at h
      · rename_i cap s' es hb
        split at h
        · rename_i hne
          cases h1:bound hi n n with
          | none=>simp [h1] at h
          | some hh'=>
            simp only [h1,Option.bind_some,Option.some.injEq] at h
            subst h
            cases hx with | one c v hc=>cases hc with
            | bldN _ cap' hgm=>
              obtain ⟨hb2,hle,hle2⟩:=bounds_ok (P:=P) (w:=w) (isSlice:=true) (len:=0) (cap:=0) (l:=0) hl hh (Nat.zero_le _) h1 rfl
              have:hh'=0:=by omega
              subst this
              exact ⟨_,run _ _ _ _ _ hb2,by simpa using RV.one _ _ (.bldN _ _ hgm)⟩
            | bld _ _ b cap' hgm=>
              obtain ⟨hcc,hec,_⟩:=hv.arr hb hgm
              obtain ⟨hb2,hle,hle2⟩:=bounds_ok (P:=P) (w:=w) (isSlice:=true) (len:=n) (cap:=cap') (l:=0) hl hh (by omega) h1 rfl
              refine ⟨_,run _ _ _ _ _ hb2,.one _ _ ?_⟩
              have:(if cap'=0 then some (⟨b,0,none⟩:Addr) else (some ⟨b,0,none⟩:Option Addr).map (·.add (0 * inf.size)))=some ⟨b,0,none⟩:=by
                split<;>simp [Addr.add]
              rw [this]
              exact .bld _ _ _ _ hgm
        · cases h
      · rename_i cap s' es lo' hb
        split at h
        · rename_i hne
          obtain ⟨hne,rfl⟩:=hne
          obtain ⟨hh',h1,h⟩:=Option.bind_eq_some_iff.1 h
          obtain ⟨l,h2,h⟩:=Option.bind_eq_some_iff.1 h
          injection h with h;subst h
          cases hx with | one c v hc=>cases hc with
          | bldN _ cap' hgm=>
            obtain ⟨hb2,hle,hle2⟩:=bounds_ok (P:=P) (w:=w) (isSlice:=true) (len:=0) (cap:=0) hl hh (Nat.zero_le _) h1 h2
            have e1:hh'=0:=by omega
            have e2:l=0:=by omega
            subst e1;subst e2
            exact ⟨_,run _ _ _ _ _ hb2,by simpa using RV.one _ _ (.bldN _ _ hgm)⟩
          | bld _ _ b cap' hgm=>
            obtain ⟨hcc,hec,_⟩:=hv.arr hb hgm
            obtain ⟨hb2,hle,hle2⟩:=bounds_ok (P:=P) (w:=w) (isSlice:=true) (len:=n) (cap:=cap') hl hh (by omega) h1 h2
            refine ⟨_,run _ _ _ _ _ hb2,.one _ _ ?_⟩
            by_cases l0:l=0
            · subst l0
              have:(if cap'=0 then some (⟨b,0,none⟩:Addr) else (some ⟨b,0,none⟩:Option Addr).map (·.add (0 * inf.size)))=some ⟨b,0,none⟩:=by
                split<;>simp [Addr.add]
              rw [this,if_pos rfl]
              exact .bld _ _ _ _ hgm
            · rw [if_neg l0]
              by_cases hcl:cap'=l
              · rw [if_pos hcl]
                exact .bls _ _ _ _ _ _ _ _ (.inl hgm) (fun hn=>by omega) (by omega)
              · rw [if_neg hcl]
                simp only [Option.map_some,addr_add,Nat.zero_add]
                exact .bls _ _ _ _ _ _ _ _ (.inl hgm) (fun _=>rfl) (by omega)
        · cases h
      · cases h
    · rename_i id k0 n z
      split at h
      · rename_i cap s' es hb
        split at h
        · rename_i hne
          obtain ⟨hne,rfl,rfl⟩:=hne
          obtain ⟨hh',h1,h⟩:=Option.bind_eq_some_iff.1 h
          obtain ⟨l,h2,h⟩:=Option.bind_eq_some_iff.1 h
          injection h with h;subst h
          cases hx with | one c v hc=>cases hc with
          | bls _ _ _ _ b cap' c off hgm ho hcn=>
            obtain ⟨hb2,hle,hle2⟩:=bounds_ok (P:=P) (w:=w) (isSlice:=true) (len:=n) (cap:=c) hl hh hcn h1 h2
            refine ⟨_,run _ _ _ _ _ hb2,.one _ _ ?_⟩
            by_cases hcl:c=l
            · rw [if_pos hcl]
              exact .bls _ _ _ _ _ _ _ _ hgm (fun hn=>by omega) (by omega)
            · rw [if_neg hcl]
              simp only [Option.map_some,addr_add]
              exact .bls _ _ _ _ _ _ _ _ hgm (fun hn=>by rw [ho (by omega),Nat.add_mul]) (by omega)
        · cases h
      · rename_i cs hb
        split at h
        · rename_i hne
          subst hne
          obtain ⟨hh',h1,h⟩:=Option.bind_eq_some_iff.1 h
          obtain ⟨l,h2,h⟩:=Option.bind_eq_some_iff.1 h
          injection h with h;subst h
          cases hx with | one c v hc=>cases hc with
          | bls _ _ _ _ b cap' c off hgm ho hcn=>
            obtain ⟨hb2,hle,hle2⟩:=bounds_ok (P:=P) (w:=w) (isSlice:=true) (len:=n) (cap:=c) hl hh hcn h1 h2
            refine ⟨_,run _ _ _ _ _ hb2,.one _ _ ?_⟩
            by_cases hcl:c=l
            · rw [if_pos hcl]
              exact .bls _ _ _ _ _ _ _ _ hgm (fun hn=>by omega) (by omega)
            · rw [if_neg hcl]
              simp only [Option.map_some,addr_add]
              exact .bls _ _ _ _ _ _ _ _ hgm (fun hn=>by rw [ho (by omega),Nat.add_mul]) (by omega)
        · cases h
      · cases h
    · cases h
theorem slA_ok {n s:Nat} {av v:AV} {x:Value} {lo hi:Option AV} {xl xh:Option Value} {t e:TypeId} (hl:RO F γ lo xl) (hh:RO F γ hi xh) (h:slAV n s av lo hi=some v) (hx:RV F γ av x)
    (ht:P.underlying t=some (.array n e)) (hs:sizeP P e=some s) (hs0:s≠0):∃ r,(Instr.sliceAt t x xl xh none).run P w=.ok r w∧RV F γ v r:=by
  unfold sizeP at hs
  cases hin:P.info? e with
  | none=>simp [hin] at hs
  | some inf=>
    simp only [hin,Option.map_some,Option.some.injEq] at hs
    subst hs
    unfold slAV at h
    split at h
    · rename_i id off
      split at h
      · rename_i hm
        obtain ⟨hh',h1,h⟩:=Option.bind_eq_some_iff.1 h
        obtain ⟨l,h2,h⟩:=Option.bind_eq_some_iff.1 h
        injection h with h;subst h
        cases hx with | one c v hc=>cases hc with
        | ptr _ _ b hgm=>
          obtain ⟨hb2,hle,hle2⟩:=bounds_ok (P:=P) (w:=w) (isSlice:=false) (len:=n) (cap:=n) hl hh (Nat.le_refl _) h1 h2
          refine ⟨.slice (some (if n=l then ⟨b,off,none⟩ else (⟨b,off,none⟩:Addr).add (l * inf.size))) (hh' - l) (n - l), ?_,.one _ _ ?_⟩
          · simp [Instr.sliceAt,Instr.sureAddr,run_underlying ht,hb2,sizeOf,typeInfo,hin]
          · by_cases hcl:n=l
            · rw [if_pos hcl]
              exact .bls _ _ _ _ _ 0 _ _ (.inr hgm) (fun hn=>by omega) (by omega)
            · rw [if_neg hcl]
              simp only [addr_add]
              refine .bls _ _ _ _ _ 0 _ _ (.inr hgm) (fun _=>?_) (by omega)
              rw [Nat.add_mul,Nat.div_mul_cancel (Nat.dvd_of_mod_eq_zero hm)]
      · cases h
    · cases h
end
end
section
section
variable {P:Program} {F:Fz} {γ:List OI} {w:World} {hp:List AObj} {a:Act}
theorem ixV_ok {n:Nat} {k:Int} {iv av v:AV} {i x:Value} {t e:TypeId} (hn:asInt? iv=some k) (hi:RV F γ iv i) (h:ixVV n av k=some v) (hx:RV F γ av x) (ht:P.underlying t=some (.array n e))
    (hg:aggP P e=some false) (hs:sizeP P e=some 1):∃ r,(Instr.index t x i).run P w=.ok r w∧RV F γ v r:=by
  obtain ⟨kk,rfl⟩:=rv_int hi hn
  unfold ixVV at h
  split at h
  · rename_i cs i'
    split at h
    · rename_i hc
      cases hx with | agg _ vs hsz hr=>
      obtain ⟨c,hc1,rfl⟩:=Option.map_eq_some_iff.1 h
      have hlt:k.toNat < vs.size:=by omega
      have hv:vs[k.toNat]?=some vs[k.toNat]:=Array.getElem?_eq_getElem hlt
      unfold aggP at hg
      obtain ⟨d,hu,hd⟩:=Option.map_eq_some_iff.1 hg
      unfold sizeP at hs
      obtain ⟨inf,hi1,hi2⟩:=Option.map_eq_some_iff.1 hs
      have hce:P.cellsOf e=1:=by grind[Program.cellsOf]
      refine ⟨vs[k.toNat], ?_,.one _ _ (hr k.toNat c _ hc1 hv)⟩
      simp only [Instr.index,Sem.run_bind,asIntOf,Sem.run_pure,Result.andThen_ok,run_underlying ht,if_pos (show 0≤k∧k < (n:Int) from ⟨hc.1,hc.2.1⟩),run_sizeOf w hi1,hce,Nat.mul_one]
      cases d<;>simp [aggD] at hd<;>simp [part,isAgg,run_underlying hu,hv]
    · cases h
  · cases h
theorem s2p_ok {n:Nat} {av v:AV} {x:Value} {t e:TypeId} (h:s2pV n av=some v) (hx:RV F γ av x) (ht:P.underlying t=some (.array n e)):∃ r,(Instr.arrayAt t x).run P w=.ok r w∧RV F γ v r:=by
  unfold s2pV at h
  split at h
  · rename_i es
    split at h
    · rename_i hc
      injection h with h;subst h
      cases hx with | one _ _ hx=>cases hx with | dc _ _ hx=>
      cases hx with
      | nil A c=>grind
      | slc b off c size es g hsz hr hcell hcap=>
        have hfl:∀ (es:List (List DC)),(∀ e∈es,e.length=size)→∀ (j:Nat) d,es.flatten[j]?=some d→0 < size∧∃ e,es[j / size]?=some e∧e[j % size]?=some d:=by
          intro es
          induction es with
          | nil=>simp_all
          | cons e es ih=>
            intro he j d hd
            have hl:=he e List.mem_cons_self
            rw [List.flatten_cons] at hd
            by_cases hj:j < size
            · grind[List.getElem?_append_left,Nat.div_eq_of_lt,Nat.mod_eq_of_lt]
            · rw [List.getElem?_append_right (by omega),hl] at hd
              obtain ⟨h0,e',h1,h2⟩:=ih (fun x hx=>he x (List.mem_cons_of_mem _ hx)) (j - size) d hd
              grind[Nat.div_eq_sub_div,Nat.mod_eq_sub_mod]
        refine ⟨.pointer (some ⟨b,off,none⟩), ?_,.one _ _ (.ref _ b off (fun j=>g (j / size) (j % size)) (fun j d hd=>?_) (fun j d hd=>?_))⟩
        · have hn:¬ ((es.length:Nat) < n):=by omega
          simp [Instr.arrayAt,run_underlying ht,hn]
        · obtain ⟨h0,e,h1,h2⟩:=hfl _ (fun e he=>hsz e (List.mem_of_mem_take he)) j d hd
          grind
        · obtain ⟨h0,e,h1,h2⟩:=hfl _ (fun e he=>hsz e (List.mem_of_mem_take he)) j d hd
          grind[Nat.mul_comm,Nat.div_add_mod]
    · cases h
  · cases h
theorem ext_ok {n:Nat} {av v:AV} {x:Value} (h:extV av n=some v) (hx:RV F γ av x):∃ r,(Instr.extract x n).run P w=.ok r w∧RV F γ v r:=by
  unfold extV at h
  split at h
  · rename_i l
    cases hx with | tup _ vs hs hr=>
    have go:∀ t,l[n]?=some t→∃ r,vs[n]?=some r∧RT F γ t r:=by
      simp_all[lt_of_get,Array.getElem?_eq_getElem]
    split at h
    · rename_i c hc
      injection h with h;subst h
      obtain ⟨r,hr1,hr2⟩:=go _ hc
      refine ⟨r,by simp [Instr.extract,hr1], ?_⟩
      cases hr2 with | one c v h=>exact .one _ _ h
    · rename_i c hc
      injection h with h;subst h
      obtain ⟨r,hr1,hr2⟩:=go _ hc
      refine ⟨r,by simp [Instr.extract,hr1], ?_⟩
      cases hr2 with | agg c v h h'=>exact .agg _ _ h h'
    · cases h
  · cases h
theorem lenL_ok {av v:AV} {x:Value} {t e:TypeId} {ty:TypeId} (h:lenLV av=some v) (hx:RV F γ av x) (ht:P.underlying t=some (.slice e)) (ts:Array TypeId) (hts:ts[0]?=some t) (xs:Array Value) (hxs:xs[0]?=some x):
    ∃ r,(Builtin.len_ ts ty xs).run P w=.ok r w∧RV F γ v r:=by
  have go:∀ A n c,x=.slice A n c→(Builtin.len_ ts ty xs).run P w=.ok (.int .i64 n) w:=by
    rintro A n c rfl
    simp [Builtin.len_,hts,hxs,run_underlying ht,goInt]
  unfold lenLV at h
  split at h
  · injection h with h;subst h
    cases hx with | one c v hc=>cases hc with | dc d v hd=>cases hd with
    | nil A c=>exact ⟨_,go _ _ _ rfl,rv_rawV rfl⟩
    | slc b off c size es g hsz hr hcc hcap=>exact ⟨_,go _ _ _ rfl,rv_rawV rfl⟩
  · injection h with h;subst h
    rw [rv_raw hx] at go
    exact ⟨_,go _ _ _ rfl,rv_rawV rfl⟩
  · injection h with h;subst h
    cases hx with | one c v hc=>cases hc with
    | bldN _ cap' hgm=>exact ⟨_,go _ _ _ rfl,rv_rawV rfl⟩
    | bld _ _ b cap' hgm=>exact ⟨_,go _ _ _ rfl,rv_rawV rfl⟩
  · injection h with h;subst h
    cases hx with | one c v hc=>cases hc with
    | bls _ _ _ _ b cap' c off hgm ho hcn=>exact ⟨_,go _ _ _ rfl,rv_rawV rfl⟩
  · cases h
theorem nilS_val {av:AV} {x:Value} {b:Bool} (h:nilS av=some b) (hx:RV F γ av x):∃ A n c,x=.slice A n c∧A.isNone=b:=by
  unfold nilS at h
  split at h
  · injection h with h;subst h
    exact ⟨_,_,_,rv_raw hx,rfl⟩
  · injection h with h;subst h
    cases hx with | one c v hc=>cases hc with | dc d v hd=>cases hd with
    | slc b off c size es g hsz hr hcc hcap=>simp_all
  · injection h with h;subst h
    cases hx with | one c v hc=>cases hc with
    | bld _ _ b cap' hgm=>simp_all
  · injection h with h;subst h
    cases hx with | one c v hc=>cases hc with
    | bls _ _ _ _ b cap' c off hgm ho hcn=>simp_all
  · cases h
theorem nilP_val {av:AV} {x:Value} {b:Bool} (h:nilP av=some b) (hx:RV F γ av x):∃ A,x=.pointer A∧A.isNone=b:=by
  unfold nilP at h
  split at h
  · injection h with h;subst h
    exact ⟨_,rv_raw hx,rfl⟩
  all_goals first | (injection h with h;subst h;cases hx with | one c v hc=>cases hc;simp_all) | (injection h with h;subst h;cases hx with | one c v hc=>cases hc with | dc _ _ hd=>cases hd;simp_all) | cases h
theorem eqn_slice {t e:TypeId} {A:Option Addr} {n c:Nat} (d:Nat) (h:P.underlying t=some (.slice e)):(Op.equalIn (d+1) t (.slice A n c) (.slice none 0 0)).run P w=.ok A.isNone w:=by
  cases A<;>simp [Op.equalIn,run_underlying h]
theorem eqn_pointer {t e:TypeId} {A:Option Addr} (d:Nat) (h:P.underlying t=some (.pointer e)):(Op.equalIn (d+1) t (.pointer A) (.pointer none)).run P w=.ok A.isNone w:=by
  cases A<;>simp [Op.equalIn,run_underlying h]
theorem nil_ok {p neg:Bool} {d:TypeDesc} {t:TypeId} {xo yo:Operand} {av v:AV} {x:Value} (h:nilV p neg av=some v) (hx:RV F γ av x) (ht:P.underlying t=some d) (hk:nilK d yo=some p):
    ∃ r,((do eqGuard (if neg then .neq else .eql) t xo yo x (a.eval yo);Go.binOp (if neg then .neq else .eql) t x (a.eval yo)):Sem Value).run P w=.ok r w∧RV F γ v r:=by
  unfold nilK at hk
  split at hk
  · rename_i e
    injection hk with hk;subst hk
    cases hb:nilS av with
    | none=>grind[nilV]
    | some b=>
      obtain ⟨A,n,c,rfl,hA⟩:=nilS_val hb hx
      simp only [nilV,hb,cond_false,Option.map_some,Option.some.injEq] at h
      subst h
      have he:(Op.equal t (.slice A n c) (.slice none 0 0)).run P w=.ok b w:=by
        rw [← hA]
        exact eqn_slice 9999 ht
      cases neg
      · exact ⟨_,by simp [eqGuard,Go.binOp,he,Act.eval],rv_rawV rfl⟩
      · exact ⟨_,by simp [eqGuard,Go.binOp,he,Act.eval],rv_rawV rfl⟩
  · rename_i e
    injection hk with hk;subst hk
    cases hb:nilP av with
    | none=>grind[nilV]
    | some b=>
      obtain ⟨A,rfl,hA⟩:=nilP_val hb hx
      simp only [nilV,hb,cond_true,Option.map_some,Option.some.injEq] at h
      subst h
      have he:(Op.equal t (.pointer A) (.pointer none)).run P w=.ok b w:=by
        rw [← hA]
        exact eqn_pointer 9999 ht
      cases neg
      · exact ⟨_,by simp [eqGuard,Go.binOp,he,Act.eval],rv_rawV rfl⟩
      · exact ⟨_,by simp [eqGuard,Go.binOp,he,Act.eval],rv_rawV rfl⟩
  grind
theorem findNow_ok {k:Int}:∀ (es:List (Int × Value)) (l:List MapEntry) (i:Nat),l.map (fun e=>(e.key,e.val))=es.map (fun p=>(Value.int .i64 p.1,p.2))→
    ∃ q,Instr.findNow (.int .i64) (.int .i64 k) l i=some q∧q.map (·.2)=mpGet es k
  | [],l,i,h=>by
    have:l=[]:=by simpa using h
    subst this
    exact ⟨none,rfl,rfl⟩
  | (a,v)::es,l,i,h=>by
    cases l with
    | nil=>simp at h
    | cons e l=>
      simp only [List.map_cons,List.cons.injEq,Prod.mk.injEq] at h
      obtain ⟨⟨h1,h2⟩,h3⟩:=h
      obtain ⟨q,hq,hm⟩:=findNow_ok es l (i+1) h3
      by_cases hk:a=k
      · grind[mpGet,Instr.findNow,Instr.sameNow]
      · refine ⟨q, ?_,by rw [hm,mpGet,if_neg hk]⟩
        grind[Instr.findNow,Instr.sameNow]
theorem mpx_ok {ok:Bool} {z:Value} {av bv v:AV} {x y:Value} {t kt et:TypeId} (hf:∀ b o,F b=some o→w.heap[b]?=some o) (h:mpxV ok z av bv=some v) (hx:RV F γ av x) (hy:RV F γ bv y)
    (ht:P.underlying t=some (.map kt et)) (hk:P.underlying kt=some (.int .i64)) (hz:(P.info? et).bind (fun i=>i.zero)=some z) (hz1:is1 z=true):
    ∃ r,(Instr.lookup t x y ok).run P w=.ok r w∧RV F γ v r:=by
  unfold mpxV at h
  split at h
  · rename_i es k
    injection h with h;subst h
    cases hx with | one c _ hcc=>cases hcc with | mpc _ r clk ents hF he h1=>
    have hyv:=rv_raw hy
    subst hyv
    have hr:=hf _ _ hF
    obtain ⟨q,hq,hm⟩:=findNow_ok (k:=k) es ents.toList 0 he
    obtain ⟨i,hi1,hi2⟩:=Option.bind_eq_some_iff.1 hz
    have hmem:∀ v,mpGet es k=some v→is1 v=true:=by
      clear he hq hm hF
      induction es with
      | nil=>intro v h;cases h
      | cons p es ih=>
        grind[mpGet,List.mem_cons_self,List.mem_cons_of_mem]
    have hgo:(getObj r).run P w=.ok (.map ents clk) w:=by simp [getObj,Sem.run,hr]
    have hck:(Instr.checkKey ents.isEmpty (9999+1) kt (.int .i64 k)).run P w=.ok () w:=by
      unfold Instr.checkKey
      simp [run_underlying hk]
    have hfk:(Instr.findKey kt (.int .i64 k) ents.toList).run P w=.ok q w:=by
      simp [Instr.findKey,run_underlying hk,hq]
    rw [← hm] at hmem ⊢
    cases q with
    | none=>
      cases ok
      · exact ⟨z,by simp [Instr.lookup,run_underlying ht,hgo,hck,hfk,zeroValue,typeInfo,hi1,hi2],rv_rawV hz1⟩
      · refine ⟨.tuple #[z,.bool false],by simp [Instr.lookup,run_underlying ht,hgo,hck,hfk,zeroValue,typeInfo,hi1,hi2], ?_⟩
        refine .tup _ _ rfl (fun j t v h1 h2=>?_)
        match j,h1,h2 with
        | 0,h1,h2=>injection h1 with h1;simp at h2;subst h1;subst h2;exact .one _ _ (.dc _ _ (.raw _ hz1))
        | 1,h1,h2=>injection h1 with h1;simp at h2;subst h1;subst h2;exact .one _ _ (.dc _ _ (.raw _ rfl))
        | j+2,h1,h2=>simp at h1
    | some p=>
      have hv1:=hmem p.2 rfl
      cases ok
      · exact ⟨p.2,by simp_all[Instr.lookup,run_underlying],rv_rawV hv1⟩
      · refine ⟨.tuple #[p.2,.bool true],by simp_all[Instr.lookup,run_underlying], ?_⟩
        refine .tup _ _ rfl (fun j t v h1 h2=>?_)
        match j,h1,h2 with
        | 0,h1,h2=>injection h1 with h1;simp at h2;subst h1;subst h2;exact .one _ _ (.dc _ _ (.raw _ hv1))
        | 1,h1,h2=>injection h1 with h1;simp at h2;subst h1;subst h2;exact .one _ _ (.dc _ _ (.raw _ rfl))
        | j+2,h1,h2=>simp at h1
  · cases h
theorem min_ok {av bv v:AV} {x y:Value} (h:minV av bv=some v) (hx:RV F γ av x) (hy:RV F γ bv y):∃ r,(Builtin.min2 x y).run P w=.ok r w∧RV F γ v r:=by
  unfold minV at h
  split at h
  · injection h with h;subst h
    rw [rv_raw hx,rv_raw hy]
    exact ⟨_,by simp [Builtin.min2],rv_rawV rfl⟩
  · cases h
theorem max_ok {av bv v:AV} {x y:Value} (h:maxV av bv=some v) (hx:RV F γ av x) (hy:RV F γ bv y):∃ r,(Builtin.max2 x y).run P w=.ok r w∧RV F γ v r:=by
  unfold maxV at h
  split at h
  · injection h with h;subst h
    rw [rv_raw hx,rv_raw hy]
    exact ⟨_,by simp [Builtin.max2],rv_rawV rfl⟩
  · cases h
def RCs (F:Fz) (γ:List OI) (cs:List Cel) (vs:Array Value):Prop:=vs.size=cs.length∧∀ (i:Nat) c v,cs[i]?=some c→vs[i]?=some v→RC F γ c v
theorem RCs.raw {vs:List Value} (h:∀ v∈vs,is1 v=true):RCs F γ (vs.map rawC) vs.toArray:=by
  refine ⟨by simp,fun i c v hc hv=>?_⟩
  simp only [List.getElem?_map,List.getElem?_toArray] at hc hv
  rw [hv] at hc
  simp at hc
  subst hc
  exact .dc _ _ (.raw _ (h v (List.mem_of_getElem? hv)))
theorem RV.cells {av:AV} {x:Value} {cs:List Cel} (hx:RV F γ av x) (h:cellsOf av=some cs):RCs F γ cs x.cells:=by
  unfold cellsOf at h
  split at h
  · injection h with h;subst h
    cases hx with | one c v hc=>
    have h1:=hc.is1
    have:x.cells=#[x]:=by cases x<;>first | rfl | grind[is1]
    rw [this]
    refine ⟨rfl,fun i c' v hc' hv=>?_⟩
    grind
  · injection h with h;subst h
    cases hx with | agg _ vs hs hr=>exact ⟨hs,hr⟩
  · cases h
theorem RCs.put {cs vs:List Cel} {as bs:Array Value} {off:Nat} (h:RCs F γ cs as) (h':RCs F γ vs bs) (hle:off+vs.length≤cs.length):
    RCs F γ (putAt cs off vs) (bs.zipIdx.foldl (fun cs (c,j)=>cs.setIfInBounds (off+j) c) as):=by
  have key:∀ (l:List Value) (k:Nat) (as:Array Value) (i:Nat),(l.zipIdx k |>.foldl (fun (cs:Array Value) (c,j)=>cs.setIfInBounds (off+j) c) as).size=as.size∧
      (l.zipIdx k |>.foldl (fun (cs:Array Value) (c,j)=>cs.setIfInBounds (off+j) c) as)[i]?=if off+k≤i∧i < off+k+l.length∧i < as.size then l[i - (off+k)]? else as[i]?:=by
    intro l
    induction l with
    | nil=>intro k as i;simp;omega
    | cons x l ih=>
      intro k as i
      simp only [List.zipIdx_cons,List.foldl_cons]
      obtain ⟨h1,h2⟩:=ih (k+1) (as.setIfInBounds (off+k) x) i
      grind
  have hk:=key bs.toList 0 as
  rw [← Array.foldl_toList,Array.toList_zipIdx]
  refine ⟨?_,fun i c v hc hv=>?_⟩
  · rw [(hk 0).1,h.1]
    grind[putAt]
  · rw [(hk i).2] at hv
    have hbs:=h'.1
    simp only [putAt] at hc
    simp only [Array.length_toList,Nat.add_zero] at hv
    by_cases c1:i < off
    · rw [if_neg (by omega)] at hv
      rw [List.append_assoc,List.getElem?_append_left (by grind),List.getElem?_take,if_pos c1] at hc
      exact h.2 i c v hc hv
    · by_cases c2:i < off+vs.length
      · have hsz:i < as.size:=by grind
        rw [if_pos ⟨by omega,by omega,hsz⟩] at hv
        rw [List.append_assoc,List.getElem?_append_right (by grind),List.getElem?_append_left (by grind)] at hc
        have e1:min off cs.length=off:=by omega
        simp only [List.length_take,e1] at hc
        exact h'.2 _ c v hc (by simp_all)
      · rw [if_neg (by omega)] at hv
        rw [List.getElem?_append_right (by grind)] at hc
        have e1:min off cs.length=off:=by omega
        simp only [List.length_append,List.length_take,e1,List.getElem?_drop] at hc
        rw [show off+vs.length+(i - (off+vs.length))=i by omega] at hc
        exact h.2 i c v hc hv
theorem fill_ok {place:Nat→Option (Nat × Nat)}:∀ (ps:List (Nat × Nat × AV)) (qs:List (Nat × Value)) (zero cs:List Cel) (as:Array Value),RCs F γ zero as→fillV zero ps=some cs→ps.length=qs.length→
    (∀ (i:Nat) o s av j x,ps[i]?=some (o,s,av)→qs[i]?=some (j,x)→place j=some (o,s)∧RV F γ av x)→∃ r,Instr.fill place as qs=some r∧RCs F γ cs r
  | [],qs,zero,cs,as,h,hf,hl,_=>by
    cases qs with
    | nil=>simp [fillV] at hf;subst hf;exact ⟨as,rfl,h⟩
    | cons _ _=>simp at hl
  | (o,s,av)::ps,qs,zero,cs,as,h,hf,hl,hp=>by
    cases qs with
    | nil=>simp at hl
    | cons q qs=>
      obtain ⟨j,x⟩:=q
      obtain ⟨hpl,hx⟩:=hp 0 o s av j x rfl rfl
      simp only [fillV] at hf
      cases hcl:cellsOf av with
      | none=>simp_all
      | some vs=>
        simp only [hcl,Option.bind_some] at hf
        split at hf
        · rename_i hb
          obtain ⟨hb1,hb2⟩:=hb
          have hxc:=hx.cells hcl
          have hput:=h.put hxc (off:=o) (by omega)
          obtain ⟨r,hr1,hr2⟩:=fill_ok ps qs _ cs _ hput hf (by simp_all) (fun i o s av j x h1 h2=>hp (i+1) o s av j x h1 h2)
          refine ⟨r, ?_,hr2⟩
          simp only [Instr.fill,hpl]
          have e1:x.cells.size=s:=by rw [hxc.1,hb1]
          have e2:=h.1
          simp_all
        grind
theorem bytesOf_ints:∀ (es:List (List DC)) (l:List UInt8),bytesOf es=some l→∃ ns:List Int,es=ns.map (fun n=>[DC.raw (.int .u8 n)])∧l=ns.map (fun n=>UInt8.ofNat n.toNat)
  | [],l,h=>by simp [bytesOf] at h;subst h;exact ⟨[],rfl,rfl⟩
  | e0::es,l,h=>by
    match e0,h with
    | [.raw (.int .u8 n)],h=>
      simp only [bytesOf] at h
      cases hb:bytesOf es with
      | none=>simp_all
      | some l'=>
        simp only [hb,Option.map_some,Option.some.injEq] at h
        subst h
        obtain ⟨ns,rfl,rfl⟩:=bytesOf_ints es l' hb
        exact ⟨n::ns,rfl,rfl⟩
theorem push_all (ns:List Int):∀ acc:ByteArray,ns.foldl (fun r n=>r.push (UInt8.ofNat n.toNat)) acc=⟨acc.data++(ns.map (fun n=>UInt8.ofNat n.toNat)).toArray⟩:=by
  induction ns with
  | nil=>simp_all
  | cons n ns ih=>
    simp_all
theorem run_bts (a:Addr) (n c:Nat) (es:List (List DC)) (l:List UInt8) (hb:bytesOf es=some l) (hn:es.length=n)
    (hc:∀ (i:Nat) n,es[i]?=some [.raw (.int .u8 n)]→w.cell? (a.add i)=some (.int .u8 n)):
    (Conv.bytesToString (.slice (some a) n c)).run P w=.ok (.string ⟨l.toArray⟩) w:=by
  obtain ⟨ns,rfl,rfl⟩:=bytesOf_ints es l hb
  subst hn
  have h1:=run_loadCells_list (P:=P) w a (ns.map (Value.int .u8)) (fun j v hv=>by
    grind)
  simp only [List.length_map] at h1 ⊢
  rw [run_bytesToString w a _ c ns h1,push_all]
  simp
theorem bytesC_ints:∀ (cs:List Cel) (l:List UInt8),bytesC cs=some l→∃ ns:List Int,cs=ns.map (fun n=>Cel.dc (.raw (.int .u8 n)))∧bytesOf (ns.map fun n=>[DC.raw (.int .u8 n)])=some l
  | [],l,h=>by simp [bytesC] at h;subst h;exact ⟨[],rfl,rfl⟩
  | c0::cs,l,h=>by
    match c0,h with
    | .dc (.raw (.int .u8 n)),h=>
      simp only [bytesC] at h
      cases hb:bytesC cs with
      | none=>simp_all
      | some l'=>
        simp only [hb,Option.map_some,Option.some.injEq] at h
        subst h
        obtain ⟨ns,rfl,h2⟩:=bytesC_ints cs l' hb
        exact ⟨n::ns,rfl,by simp [bytesOf,h2]⟩
theorem cvbs_ok {av v:AV} {x:Value} {s d e:TypeId} (h:cvbsV hp av=some v) (hx:RV F γ av x) (hi:Inv F γ hp w) (hs:P.underlying s=some (.slice e)) (hd:P.underlying d=some .string)
    (he:P.underlying e=some (.int .u8)):∃ r,(convert s d x).run P w=.ok r w∧RV F γ v r:=by
  have hnil:∀ A c,(Conv.bytesToString (.slice A 0 c)).run P w=.ok (.string ⟨#[]⟩) w:=by
    intro A c
    cases A with
    | none=>rfl
    | some a=>exact run_bts a 0 c [] [] rfl rfl (fun i n h=>by simp at h)
  have hcv:(∃ A n c,x=.slice A n c)→(convert s d x).run P w=(Conv.bytesToString x).run P w:=by
    rintro ⟨A,n,c,rfl⟩
    simp [convert,run_underlying hs,run_underlying hd,run_underlying he]
  unfold cvbsV at h
  split at h
  · rename_i es
    cases hb:bytesOf es with
    | none=>simp_all
    | some l=>
      simp only [hb,Option.map_some,Option.some.injEq] at h
      subst h
      cases hx with | one c v hc=>cases hc with | dc d v hdd=>cases hdd with
      | nil A c=>
        simp [bytesOf] at hb
        subst hb
        exact ⟨_,by simp_all,rv_rawV rfl⟩
      | slc b off c size es g hsz hr hcc hcap=>
        have key:∀ (i:Nat) (n:Int),es[i]?=some [.raw (.int .u8 n)]→w.cell? ((⟨b,off,none⟩:Addr).add i)=some (.int .u8 n):=by
         intro i n hin
         have h1:size=1:=by have:=hsz _ (List.mem_of_getElem? hin);simp_all
         subst h1
         have h2:=hcc i 0 _ _ hin rfl
         have h3:=hr i 0 _ _ hin rfl
         rw [addr_add]
         simp at h2
         have h4:=Fz.cell_world hi.fz h2
         rw [h4]
         generalize g i 0=y at h3
         cases h3
         rfl
        exact ⟨_,by rw [hcv ⟨_,_,_,rfl⟩,run_bts _ _ _ es l hb rfl key],rv_rawV rfl⟩
  · injection h with h;subst h
    rw [rv_raw hx] at hcv ⊢
    exact ⟨_,by rw [hcv ⟨_,_,_,rfl⟩];rfl,rv_rawV rfl⟩
  · rename_i id n
    split at h
    · rename_i cap s' es hb
      split at h
      · rename_i hne
        cases hbo:bytesOf (es.take n) with
        | none=>simp_all
        | some l=>
          simp only [hbo,Option.map_some,Option.some.injEq] at h
          subst h
          cases hx with | one c v hc=>cases hc with
          | bldN _ cap' hgm=>
            simp [bytesOf] at hbo
            subst hbo
            exact ⟨_,by simp_all,rv_rawV rfl⟩
          | bld _ _ b cap' hgm=>
            obtain ⟨hcc,hec,hes,vs,T,hh,hsz,hr⟩:=hi.arr hb hgm
            have key:∀ (i:Nat) (m:Int),(es.take n)[i]?=some [.raw (.int .u8 m)]→w.cell? ((⟨b,0,none⟩:Addr).add i)=some (.int .u8 m):=by
             intro i m hin
             have hin':es[i]?=some [.raw (.int .u8 m)]:=by
               grind
             have h1:s'=1:=by have:=hes _ (List.mem_of_getElem? hin');simp_all
             subst h1
             have hilt:=lt_of_get hin'
             have hlt2:i < vs.size:=by omega
             have hv:vs[i]?=some (vs[i]'hlt2):=Array.getElem?_eq_getElem hlt2
             have h3:=hr i 0 _ _ _ hin' rfl (by rw [Nat.mul_one,Nat.add_zero];exact hv)
             rw [addr_add,cell_heap hh]
             simp only [Nat.zero_add]
             rw [hv]
             generalize vs[i]'hlt2=y at h3
             cases h3
             rfl
            exact ⟨_,by rw [hcv ⟨_,_,_,rfl⟩,run_bts _ _ _ (es.take n) l hbo (by grind) key],rv_rawV rfl⟩
      · cases h
    · cases h
  · rename_i id k0 n z
    split at h
    · rename_i cs hb
      split at h
      · rename_i hne
        obtain ⟨rfl,hle⟩:=hne
        cases hbo:bytesC ((cs.drop k0).take n) with
        | none=>simp_all
        | some l=>
          simp only [hbo,Option.map_some,Option.some.injEq] at h
          subst h
          obtain ⟨ns,hns,hbs⟩:=bytesC_ints _ _ hbo
          cases hx with | one c v hc=>cases hc with
          | bls _ _ _ _ b cap' c off hgm ho hcn=>
            rcases hgm with hgm | hgm
            · exact absurd hgm (hi.noBox hb)
            · obtain ⟨vs,T,hh,hsz,hr⟩:=hi.box hb hgm
              have hlen:ns.length=n:=by
                have:=congrArg List.length hns
                grind
              by_cases h0:n=0
              · subst h0
                have:ns=[]:=List.length_eq_zero_iff.1 hlen
                subst this
                simp [bytesOf] at hbs
                subst hbs
                exact ⟨_,by simp_all,rv_rawV rfl⟩
              · have ho':=ho h0
                have key:∀ (i:Nat) (m:Int),(ns.map fun n=>[DC.raw (.int .u8 n)])[i]?=some [.raw (.int .u8 m)]→w.cell? ((⟨b,off,none⟩:Addr).add i)=some (.int .u8 m):=by
                  intro i m hin
                  rw [List.getElem?_map] at hin
                  obtain ⟨q,hq,hqm⟩:=Option.map_eq_some_iff.1 hin
                  have hqm':q=m:=by simp_all
                  subst hqm'
                  have hc1:((cs.drop k0).take n)[i]?=some (.dc (.raw (.int .u8 q))):=by simp_all
                  rw [List.getElem?_take] at hc1
                  split at hc1
                  · rw [List.getElem?_drop] at hc1
                    have hlt:=lt_of_get hc1
                    have hv:vs[k0+i]?=some (vs[k0+i]'(by omega)):=Array.getElem?_eq_getElem (by omega)
                    have h3:=hr _ _ _ hc1 hv
                    rw [addr_add,cell_heap hh,ho',Nat.mul_one,hv]
                    generalize vs[k0+i]'(by omega)=y at h3
                    cases h3 with | dc _ _ h3=>cases h3;rfl
                  grind
                exact ⟨_,by rw [hcv ⟨_,_,_,rfl⟩,run_bts _ _ _ _ l hbs (by grind) key],rv_rawV rfl⟩
      · cases h
    · cases h
  · cases h
theorem mkfn_ok {G:Glob} {sl:List AV} {a:Act} (hs:Slots F γ sl a) (hg:GlobOK F G):∀ (caps:List Operand) (cs:List Cel),
    ((caps.map argOf).mapM fun c=>oneOf (evA G sl c))=some cs→
    cs.length=caps.length∧∀ (i:Nat) c x,cs[i]?=some c→caps[i]?=some x→RC F γ c (a.eval x)
  | [],cs,h=>by
    simp at h;subst h;exact ⟨rfl,fun i c x h=>by simp at h⟩
  | o::caps,cs,h=>by
    rw [List.map_cons,List.mapM_cons] at h
    have hr:=rv_arg (G:=G) hs hg o
    cases he:oneOf (evA G sl (argOf o)) with
    | none=>rw [he] at h;cases h
    | some c=>
      have hone:evA G sl (argOf o)=.one c:=by
        generalize evA G sl (argOf o)=av at he
        cases av<;>simp [oneOf] at he
        rw [he]
      rw [hone] at hr
      rw [he] at h
      cases hm:((caps.map argOf).mapM fun c=>oneOf (evA G sl c)) with
      | none=>rw [hm] at h;cases h
      | some cs'=>
        rw [hm] at h
        have h':c::cs'=cs:=by grind
        subst h'
        obtain ⟨h1,h2⟩:=mkfn_ok hs hg caps cs' hm
        refine ⟨by simp [h1],fun i c' x hc hx=>?_⟩
        cases i with
        | zero=>
          simp at hc hx;subst hc;subst hx
          cases hr with | one c v h=>exact h
        | succ i=>grind
theorem mapM_parts {G:Glob} {sl:List AV} {p:List (Nat × Nat) ⊕ Nat}:∀ (ps:List (Nat × Operand)) (l:List (Nat × Nat × AArg)),ps.mapM (buildPart p)=some l→
    l.length=ps.length∧∀ (i:Nat) o s av,(l.map fun (o,s,x)=>(o,s,evA G sl x))[i]?=some (o,s,av)→∃ j x,ps[i]?=some (j,x)∧placeAt p j=some (o,s)∧av=evA G sl (argOf x)
  | [],l,h=>by simp_all
  | (j,x)::ps,l,h=>by
    simp only [List.mapM_cons,buildPart] at h
    cases hp:placeAt p j with
    | none=>simp_all
    | some q=>
      obtain ⟨o,s⟩:=q
      cases hm:ps.mapM (buildPart p) with
      | none=>simp_all
      | some l'=>
        simp [hp,hm] at h
        subst h
        obtain ⟨h1,h2⟩:=mapM_parts (G:=G) (sl:=sl) ps l' hm
        grind
theorem build_ok {G:Glob} {sl:List AV} {a:Act} (hs:Slots F γ sl a) (hg:GlobOK F G) {t:TypeId} {p:List (Nat × Nat) ⊕ Nat} {inf:TypeInfo} {z:Value} {ps:Array (Nat × Operand)} {l:List (Nat × Nat × AArg)} {cs:List Cel}
    (ht:placesP P t=some p) (hin:P.info? t=some inf) (hz:inf.zero=some z) (hz1:z.cells.toList.all is1=true)
    (hm:ps.toList.mapM (buildPart p)=some l) (hf:fillV (z.cells.toList.map rawC) (l.map fun (o,s,x)=>(o,s,evA G sl x))=some cs):
    ∃ r,(Instr.build t (ps.map fun (i,x)=>(i,a.eval x))).run P w=.ok r w∧RV F γ (.agg cs) r:=by
  obtain ⟨h1,h2⟩:=mapM_parts (G:=G) (sl:=sl) ps.toList l hm
  have hzr:RCs F γ (z.cells.toList.map rawC) z.cells:=by
    have:=RCs.raw (F:=F) (γ:=γ) (vs:=z.cells.toList) (fun v hv=>List.all_eq_true.1 hz1 v hv)
    omega
  obtain ⟨r,hr1,hr2⟩:=fill_ok (place:=placeAt p) (l.map fun (o,s,x)=>(o,s,evA G sl x)) (ps.toList.map fun (i,x)=>(i,a.eval x)) _ cs z.cells hzr hf (by grind) (fun i o s av j x hi hj=>by
    obtain ⟨j',x',h3,h4,h5⟩:=h2 i o s av hi
    simp only [List.getElem?_map,h3,Option.map_some,Option.some.injEq,Prod.mk.injEq] at hj
    obtain ⟨rfl,rfl⟩:=hj
    grind[rv_arg])
  refine ⟨.agg r, ?_,.agg _ _ hr2.1 hr2.2⟩
  refine run_build w t _ r ?_
  unfold placesP at ht
  unfold Program.built
  split at ht
  · rename_i fs hu
    cases hpl:fs.toList.mapM (fun f=>(P.info? f.type).map fun i=>(f.offset,i.size)) with
    | none=>grind
    | some pl=>
      simp only [hpl,Option.map_some,Option.some.injEq] at ht
      subst ht
      simp only [hin,hu,hz,hpl]
      have e:(fun x=>pl.toArray[x]?)=placeAt (.inl pl):=by grind[placeAt]
      rw [e]
      simpa using hr1
  · rename_i n e hu
    cases hie:P.info? e with
    | none=>grind
    | some ie=>
      simp only [hie,Option.map_some,Option.some.injEq] at ht
      subst ht
      simp only [hin,hu,hz,hie]
      have e:(fun i=>some (i * ie.size,ie.size))=placeAt (.inr ie.size):=by grind[placeAt]
      rw [e]
      simpa using hr1
  grind
theorem ro_arg {G:Glob} {sl:List AV} {a:Act} (hs:Slots F γ sl a) (hg:GlobOK F G) (x:Option Operand):RO F γ ((x.map argOf).map (evA G sl)) (x.map a.eval):=by
  cases x with
  | none=>trivial
  | some x=>exact rv_arg hs hg x
theorem rv_of_one {F:Fz} {γ:List OI} {c:Cel} {x:Value} (h:RV F γ (.one c) x):RC F γ c x:=by cases h with | one c v h=>exact h
theorem kind_app {G:Glob} {as:AS} {P:Program} {args:Array Operand} {ts:Array TypeId} {ai:AI}
    (hc:(match ts.toList,args.toList with
    | [t,u],[s,x]=>
      match P.underlying t,P.underlying u with
      | some (.slice e),some (.slice e')=>
        if e=e' then (P.info? e).bind fun i=>i.zero.bind fun z=>if z.cells.size=i.size∧0 < i.bytes then some (AI.app i.size i.bytes z.cells.toList (argOf s) (argOf x)) else none else none
      | some (.slice e),some .string=>if P.underlying e matches some (.int .u8) then (P.info? e).bind fun i=>i.zero.bind fun z=>if i.size=1∧i.bytes=1∧z.cells.size=1 then some (AI.apps (argOf s) (argOf x)) else none else none
      | _,_=>none
    | _,_=>none)=some ai):evP G as ai=none:=by
  repeat' (first | (obtain ⟨_,_,hc⟩:=hc) | split at hc | (simp only [Option.bind_eq_some_iff,Option.map_eq_some_iff] at hc))
  all_goals first | (cases hc;done) | (injection hc with hc;subst hc;rfl) | (subst hc;rfl) | rfl
theorem evP_ok {G:Glob} {as:AS} {a:Act} {o:Oper} {ai:AI} {v:AV} (hc:compileOp P o=some ai) (he:evP G as ai=some v) (hi:Inv F γ as.hp w) (hs:Slots F γ as.sl a) (hg:GlobOK F G):
    ∃ x,(execOp a.eval o).run P w=.ok (.value x) w∧RV F γ v x:=by
  have lift:∀ (s:Sem Value),(∃ r,s.run P w=.ok r w∧RV F γ v r)→∃ x,((do pure (Next.value (← s))):Sem Next).run P w=.ok (.value x) w∧RV F γ v x:=by
    simp_all
  have ra:=fun x=>rv_arg (G:=G) hs hg x
  obtain ⟨dst,op,type,pos,after,guard⟩:=o
  unfold compileOp at hc
  cases op<;>simp only [reduceCtorEq] at hc
  case move x=>
    injection hc with hc;subst hc
    simp only [evP,Option.some.injEq] at he;subst he
    exact ⟨_,rfl,ra x⟩
  case assign x=>
    injection hc with hc;subst hc
    simp only [evP,Option.some.injEq] at he;subst he
    exact ⟨_,rfl,ra x⟩
  case pick c x y=>
    injection hc with hc;subst hc
    simp only [evP,pickV] at he
    split at he
    · rename_i b hb
      injection he with he;subst he
      have:=rv_bool (ra c) hb
      refine ⟨if b then a.eval x else a.eval y, ?_, ?_⟩
      · simp [execOp,this,asBool]
      grind
    grind
  case alloc e=>cases h1:P.info? e with
    | none=>simp_all
    | some i=>cases h2:i.zero with
      | none=>simp_all
      | some z=>
        grind[evP]
  case box e x=>grind[evP]
  case load t x=>
    cases h1:aggP P t with
    | none=>simp_all
    | some g=>cases h2:sizeP P t with
      | none=>simp_all
      | some s=>
        simp only [h1,h2,Option.bind_some,Option.map_some,Option.some.injEq] at hc
        subst hc
        exact lift _ (load_ok he hi (ra x) h1 h2 rfl)
  case store t x y=>cases h2:sizeP P t with
      | none=>simp_all
      | some s=>grind[Option.some.injEq,evP]
  case nilCheck x=>
    injection hc with hc;subst hc
    obtain ⟨hv,ad,hx⟩:=nilc_ok he (ra x)
    simp_all[execOp]
  case binOp op t x y u=>
    unfold compileBin at hc
    split at hc
    · rename_i hu
      cases op<;>simp only [reduceCtorEq] at hc
      · injection hc with hc;subst hc
        exact lift _ (binb_ok (neg:=false) he (ra x) (ra y) hu)
      · injection hc with hc;subst hc
        exact lift _ (binb_ok (neg:=true) he (ra x) (ra y) hu)
    · injection hc with hc;subst hc
      exact lift _ (bin_ok he (ra x) (ra y))
    · injection hc with hc;subst hc
      exact lift _ (bin_ok he (ra x) (ra y))
    · rename_i fs hu
      split at hc
      · rename_i hq
        cases op<;>simp only [reduceCtorEq] at hc
        · cases hf:flatFs P fs.toList 0 with
          | none=>simp_all
          | some ks=>
            simp only [hf,Option.map_some,Option.some.injEq] at hc;subst hc
            exact lift _ (eqs_ok (neg:=false) he (ra x) (ra y) hu hf hq.1 hq.2)
        · cases hf:flatFs P fs.toList 0 with
          | none=>simp_all
          | some ks=>
            simp only [hf,Option.map_some,Option.some.injEq] at hc;subst hc
            exact lift _ (eqs_ok (neg:=true) he (ra x) (ra y) hu hf hq.1 hq.2)
      grind
    · rename_i n e hu
      split at hc
      · rename_i hq
        split at hc
        · rename_i k hk
          injection hc with hc;subst hc
          exact lift _ (eqsA_ok (neg:=false) he (ra x) (ra y) hu hk hq.2.2 hq.1)
        · rename_i k hk
          injection hc with hc;subst hc
          exact lift _ (eqsA_ok (neg:=true) he (ra x) (ra y) hu hk hq.2.2 hq.1)
        grind
      grind
    · rename_i d _ _ _ _ _ hu
      unfold compileNil at hc
      split at hc
      · cases hk:nilK d y with
        | none=>simp_all
        | some p=>
          simp only [hk,Option.map_some,Option.some.injEq] at hc;subst hc
          exact lift _ (nil_ok (neg:=false) he (ra x) hu hk)
      · cases hk:nilK d y with
        | none=>simp_all
        | some p=>
          simp only [hk,Option.map_some,Option.some.injEq] at hc;subst hc
          exact lift _ (nil_ok (neg:=true) he (ra x) hu hk)
      grind
    grind
  case unOp op t x=>
    injection hc with hc;subst hc
    exact lift _ (un_ok he (ra x))
  case convert s d x=>
    unfold compileConv at hc
    split at hc
    · rename_i k1 k h1 h2
      injection hc with hc;subst hc
      simp only [evP] at he
      cases hn:asInt? (evA G as.sl (argOf x)) with
      | none=>simp_all
      | some n=>
        simp only [hn,Option.map_some,Option.some.injEq] at he;subst he
        exact lift _ (conv_ok hn (ra x) h1 h2)
    · rename_i h1 h2
      injection hc with hc;subst hc
      simp only [evP] at he
      cases hn:asStr? (evA G as.sl (argOf x)) with
      | none=>simp_all
      | some n=>
        simp only [hn,Option.map_some,Option.some.injEq] at he;subst he
        exact lift _ (cvid_ok hn (ra x) h1 h2)
    · rename_i e h1 h2
      split at hc
      · rename_i h3
        injection hc with hc;subst hc
        exact lift _ (cvbs_ok he (ra x) hi h1 h2 h3)
      grind
    all_goals grind[evP]
  case fieldAddr s x f=>
    cases h1:fieldP P s f with
    | none=>simp_all
    | some fl=>cases h2:sizeP P fl.type with
      | none=>simp_all
      | some n=>
        simp only [h1,h2,Option.bind_some] at hc
        split at hc
        · cases hc
        · rename_i hn
          injection hc with hc;subst hc
          obtain ⟨b,off,hx,hv⟩:=addoV_ok he (ra x)
          unfold fieldP at h1
          split at h1
          · rename_i fs hu
            unfold sizeP at h2
            cases hin:P.info? fl.type with
            | none=>simp_all
            | some inf=>
              simp only [hin,Option.map_some,Option.some.injEq] at h2
              refine lift _ ⟨_, ?_,hv⟩
              simp [Instr.fieldAt,hx,run_underlying hu,h1,Instr.sureAddr,fieldPlace,sizeOf,typeInfo,hin,h2,hn,addr_add]
          grind
  case field s x f=>
    cases h1:fieldP P s f with
    | none=>simp_all
    | some fl=>cases h2:aggP P fl.type with
      | none=>simp_all
      | some g=>cases h3:sizeP P fl.type with
        | none=>simp_all
        | some n=>
          simp only [h1,h2,h3,Option.bind_some,Option.map_some,Option.some.injEq] at hc
          subst hc
          obtain ⟨y,cs,hx,hr,hv⟩:=fld_ok (P:=P) (w:=w) he (ra x) h2 h3 rfl
          unfold fieldP at h1
          split at h1
          · rename_i fs hu
            refine lift _ ⟨y, ?_,hv⟩
            simp_all[Instr.field,run_underlying,asAgg]
          grind
  case indexAddr t x i=>
    split at hc
    · rename_i n e hu
      cases h1:sizeP P e with
      | none=>simp_all
      | some s=>
        simp only [h1,Option.map_some,Option.some.injEq] at hc;subst hc
        simp only [evP] at he
        cases hn:asInt? (evA G as.sl (argOf i)) with
        | none=>simp_all
        | some k=>simp only [hn,Option.bind_some] at he;exact lift _ (ixA_ok hn (ra i) he (ra x) hu h1)
    · rename_i e hu
      cases h1:sizeP P e with
      | none=>simp_all
      | some s=>
        simp only [h1,Option.map_some,Option.some.injEq] at hc;subst hc
        simp only [evP] at he
        cases hn:asInt? (evA G as.sl (argOf i)) with
        | none=>simp_all
        | some k=>simp only [hn,Option.bind_some] at he;exact lift _ (ixL_ok hn (ra i) he (ra x) hi hu h1)
    grind
  case index t x i=>
    split at hc
    · rename_i h3
      injection hc with hc;subst hc
      simp only [evP] at he
      cases hn:asInt? (evA G as.sl (argOf i)) with
      | none=>simp_all
      | some k=>simp only [hn,Option.bind_some] at he;exact lift _ (ixS_ok hn (ra i) he (ra x) (by rw [h3]))
    · rename_i n e hu
      split at hc
      · rename_i hq
        injection hc with hc;subst hc
        simp only [evP] at he
        cases hn:asInt? (evA G as.sl (argOf i)) with
        | none=>simp_all
        | some k=>simp only [hn,Option.bind_some] at he;exact lift _ (ixV_ok hn (ra i) he (ra x) hu hq.1 hq.2)
      grind
    grind
  case sliceToArrayPointer t x=>
    split at hc
    · rename_i n e hu
      split at hc
      · rename_i hq
        injection hc with hc;subst hc
        exact lift _ (s2p_ok he (ra x) hu)
      grind
    grind
  case slice t x lo hi' mx=>
    cases mx with
    | some m=>simp_all
    | none=>
      simp only at hc
      split at hc
      · rename_i hu
        injection hc with hc;subst hc
        exact lift _ (slS_ok (ro_arg hs hg lo) (ro_arg hs hg hi') he (ra x) hu)
      · rename_i e hu
        cases h1:sizeP P e with
        | none=>simp_all
        | some s=>
          simp only [h1,Option.map_some,Option.some.injEq] at hc;subst hc
          exact lift _ (slL_ok (ro_arg hs hg lo) (ro_arg hs hg hi') he (ra x) hi hu h1)
      · rename_i n e hu
        cases h1:sizeP P e with
        | none=>simp_all
        | some s=>
          simp only [h1,Option.bind_some] at hc
          split at hc
          · cases hc
          · rename_i h0
            injection hc with hc;subst hc
            exact lift _ (slA_ok (ro_arg hs hg lo) (ro_arg hs hg hi') he (ra x) hu h1 h0)
      grind
  case lookup t x ix ok=>
    split at hc
    · rename_i kt et hu
      split at hc
      · rename_i hk
        cases hz:(P.info? et).bind fun i=>i.zero with
        | none=>simp_all
        | some z=>
          rw [hz] at hc
          simp only [Option.bind_some,if_true] at hc
          split at hc
          · rename_i hz1
            injection hc with hc;subst hc
            exact lift _ (mpx_ok hi.fz he (ra x) (ra ix) hu hk hz hz1)
          grind
      grind
    grind
  case build t ps=>
    cases h1:placesP P t with
    | none=>simp_all
    | some p=>cases h2:P.info? t with
      | none=>simp_all
      | some i=>cases h3:i.zero with
        | none=>simp_all
        | some z=>
          simp only [h1,h2,h3,Option.bind_some] at hc
          split at hc
          · rename_i hz1
            cases h4:ps.toList.mapM (buildPart p) with
            | none=>simp_all
            | some l=>
              simp only [h4,Option.map_some,Option.some.injEq] at hc;subst hc
              simp only [evP] at he
              cases h5:fillV (z.cells.toList.map rawC) (l.map fun (o,s,x)=>(o,s,evA G as.sl x)) with
              | none=>simp_all
              | some cs=>
                simp only [h5,Option.map_some,Option.some.injEq] at he;subst he
                exact lift _ (build_ok hs hg h1 h2 h3 hz1 h4 h5)
          grind
  case buildSlice t len ps=>
    split at hc
    · rename_i e hu
      cases h1:P.info? e with
      | none=>simp_all
      | some i=>cases h2:i.zero with
        | none=>simp_all
        | some z=>
          grind[evP]
    grind
  case makeSlice t l c=>
    split at hc
    · rename_i e hu
      cases h1:P.info? e with
      | none=>simp_all
      | some i=>cases h2:i.zero with
        | none=>simp_all
        | some z=>
          grind[evP]
    grind
  case extract x n=>
    injection hc with hc;subst hc
    exact lift _ (ext_ok he (ra x))
  case makeFunc fn first caps=>
    cases fn<;>simp only [reduceCtorEq] at hc
    · rename_i f
      split at hc
      · rename_i hfe
        injection hc with hc;subst hc
        simp only [evP] at he
        cases h5:((caps.toList.map argOf).mapM fun c=>oneOf (evA G as.sl c):Option (List Cel)) with
        | none=>simp_all
        | some cs=>
          rw [h5] at he
          simp only [Option.map_some,Option.some.injEq] at he;subst he
          obtain ⟨hl,hr⟩:=mkfn_ok hs hg caps.toList cs h5
          have hf0:first=#[]:=by simp_all
          subst hf0
          refine lift _ ⟨.func (.func f) #[] (caps.map a.eval),by simp [Instr.makeFunc],.one _ _ ?_⟩
          have e:caps.map a.eval=((List.range cs.length).map fun i=>(caps.map a.eval).toList.getD i undef).toArray:=by
            grind
          rw [e]
          refine .fn f cs _ (fun i c hci=>?_)
          grind
      grind
  case call c=>
    obtain ⟨callee,args,argTypes⟩:=c
    unfold compileCall at hc
    cases callee<;>simp only [reduceCtorEq] at hc
    case value f=>
      cases f<;>simp only [reduceCtorEq] at hc
      all_goals grind[evP]
    case builtin b=>
      cases b<;>simp only [reduceCtorEq] at hc
      case append=>
        exfalso
        have h0:=kind_app (G:=G) (as:=as) hc
        simp_all
      case copy=>
        grind[evP]
      case clear=>
        split at hc
        · rename_i t x ht hx
          split at hc
          · rename_i e hu
            cases h1:P.info? e with
            | none=>simp_all
            | some i=>cases h2:i.zero with
              | none=>simp_all
              | some z=>
                grind[evP]
          grind
        grind
      case len=>
        split at hc
        · rename_i t x ht hx
          have hax:(args.map a.eval)[0]?=some (a.eval x):=by simp [hx]
          split at hc
          · rename_i hu
            injection hc with hc;subst hc
            simp only [evP] at he
            cases hn:asStr? (evA G as.sl (argOf x)) with
            | none=>simp_all
            | some s=>
              simp only [hn,Option.map_some,Option.some.injEq] at he;subst he
              have:=rv_str (ra x) hn
              exact ⟨.int .i64 s.size,by simp [execOp,resolve,invoke,builtin,Builtin.len_,ht,hx,run_underlying hu,this,goInt],rv_rawV rfl⟩
          · rename_i e hu
            injection hc with hc;subst hc
            obtain ⟨r,h1,h2⟩:=lenL_ok (P:=P) (w:=w) (ty:=type) he (ra x) hu argTypes ht (args.map a.eval) hax
            exact ⟨r,by simp [execOp,resolve,invoke,builtin,h1],h2⟩
          · rename_i n e hu
            injection hc with hc;subst hc
            simp only [evP,Option.some.injEq] at he;subst he
            exact ⟨.int .i64 n,by simp [execOp,resolve,invoke,builtin,Builtin.len_,ht,hx,run_underlying hu,goInt],rv_rawV rfl⟩
          · rename_i e hu
            split at hc
            · rename_i n e2 hu2
              injection hc with hc;subst hc
              simp only [evP,Option.some.injEq] at he;subst he
              exact ⟨.int .i64 n,by simp [execOp,resolve,invoke,builtin,Builtin.len_,ht,hx,run_underlying hu,run_underlying hu2,goInt],rv_rawV rfl⟩
            grind
          grind
        grind
      case min=>
        split at hc
        · rename_i x y hxy
          injection hc with hc;subst hc
          obtain ⟨r,h1,h2⟩:=min_ok (P:=P) (w:=w) he (ra x) (ra y)
          have:(args.map a.eval).toList=[a.eval x,a.eval y]:=by simp [hxy]
          exact ⟨r,by simp [execOp,resolve,invoke,builtin,Builtin.min_,this,hxy,h1],h2⟩
        grind
      case max=>
        split at hc
        · rename_i x y hxy
          injection hc with hc;subst hc
          obtain ⟨r,h1,h2⟩:=max_ok (P:=P) (w:=w) he (ra x) (ra y)
          have:(args.map a.eval).toList=[a.eval x,a.eval y]:=by simp [hxy]
          exact ⟨r,by simp [execOp,resolve,invoke,builtin,Builtin.max_,this,hxy,h1],h2⟩
        grind
end
end
section
section
variable {P:Program} {F F':Fz} {γ γ':List OI} {w w':World} {hp:List AObj} {p:Nat→Bool}
theorem OK.kill {o:AObj} {x:OI} (h:OK F γ w o x) (hs:F.sub F') (hg:∀ (id:Nat) (o:OI),p id=false→γ[id]?=some o→γ'[id]?=some o)
    (hb:∀ b,x.blk=some b→w'.heap[b]?=w.heap[b]?):OK F' γ' w' (killO p o) x:=by
  cases o with
  | box cs=>
    cases x with
    | box b=>
      obtain ⟨vs,T,h1,h2,h3⟩:=h
      exact ⟨vs,T,h1.of (hb b rfl),by simpa using h2,RCs.kill hs hg h3⟩
    | arr b c=>exact h.elim
    | dead=>exact h.elim
  | arr cap size es=>
    cases x with
    | box b=>exact h.elim
    | arr b c=>
      cases b with
      | none=>exact h
      | some b=>
        obtain ⟨h1,h2,h3,vs,T,h4,h5,h6⟩:=h
        exact ⟨h1,h2,h3,vs,T,h4.of (hb b rfl),h5,fun i j e d v a1 a2 a3=>(h6 i j e d v a1 a2 a3).mono hs⟩
    | dead=>exact h.elim
  | dead=>
    cases x with
    | dead=>trivial
    | box b=>exact h.elim
    | arr b c=>exact h.elim
theorem OK.ext {o:AObj} {x:OI} (h:OK F γ w o x) (hs:F.sub F') (hg:∀ (id:Nat) (o:OI),γ[id]?=some o→γ'[id]?=some o)
    (hb:∀ b,x.blk=some b→w'.heap[b]?=w.heap[b]?):OK F' γ' w' o x:=by
  cases o with
  | box cs=>
    cases x with
    | box b=>
      obtain ⟨vs,T,h1,h2,h3⟩:=h
      exact ⟨vs,T,h1.of (hb b rfl),h2,fun i c v a b=>(h3 i c v a b).ext hs hg⟩
    | arr b c=>exact h.elim
    | dead=>exact h.elim
  | arr cap size es=>
    cases x with
    | box b=>exact h.elim
    | arr b c=>
      cases b with
      | none=>exact h
      | some b=>
        obtain ⟨h1,h2,h3,vs,T,h4,h5,h6⟩:=h
        exact ⟨h1,h2,h3,vs,T,h4.of (hb b rfl),h5,fun i j e d v a1 a2 a3=>(h6 i j e d v a1 a2 a3).mono hs⟩
    | dead=>exact h.elim
  | dead=>
    cases x with
    | dead=>trivial
    | box b=>exact h.elim
    | arr b c=>exact h.elim
theorem Own.lt {w:World} {b:Nat} {vs:Array Value} {T:TypeId} (h:Own w b vs T):b < w.heap.size:=by
  obtain ⟨_,h,_⟩:=h
  exact (Array.getElem?_eq_some_iff.1 h).1
theorem heap_lt {b:Nat} {o:Obj} (h:w.heap[b]?=some o):b < w.heap.size:=(Array.getElem?_eq_some_iff.1 h).1
theorem OK.lt {o:AObj} {x:OI} (h:OK F γ w o x) {b:Nat} (hb:x.blk=some b):b < w.heap.size:=by
  cases x with
  | dead=>simp [OI.blk] at hb
  | box b'=>
    simp [OI.blk] at hb;subst hb
    cases o with
    | box cs=>obtain ⟨vs,T,⟨_,h1,_⟩,_⟩:=h;exact heap_lt h1
    | arr _ _ _=>exact h.elim
    | dead=>exact h.elim
  | arr b' c=>
    simp [OI.blk] at hb;subst hb
    cases o with
    | arr cap size es=>obtain ⟨_,_,_,vs,T,⟨_,h1,_⟩,_⟩:=h;exact heap_lt h1
    | box _=>exact h.elim
    | dead=>exact h.elim
theorem blkAt_some {i b:Nat} (h:blkAt γ i=some b):∃ x,γ[i]?=some x∧x.blk=some b:=by
  unfold blkAt at h
  cases hx:γ[i]? with
  | none=>simp [hx] at h
  | some x=>simp [hx] at h;exact ⟨x,rfl,h⟩
theorem blkAt_of {i b:Nat} {x:OI} (h:γ[i]?=some x) (hb:x.blk=some b):blkAt γ i=some b:=by simp [blkAt,h,hb]
theorem Inv.lt (hi:Inv F γ hp w) {i b:Nat} (hb:blkAt γ i=some b):b < w.heap.size:=by
  obtain ⟨x,hx,hxb⟩:=blkAt_some hb
  have hlt:i < hp.length:=by rw [← hi.len];exact lt_of_get hx
  exact (hi.ok i _ x (List.getElem?_eq_getElem hlt) hx).lt hxb
theorem Inv.fzlt (hi:Inv F γ hp w) {b:Nat} {o:Obj} (h:F b=some o):b < w.heap.size:=heap_lt (hi.fz b o h)
theorem Inv.drawn (hi:Inv F γ hp w) (n:Nat):Inv F γ hp { w with drawn:=n }:=
  ⟨hi.fz,hi.len,hi.nd,hi.disj,fun i o x h1 h2=>(hi.ok i o x h1 h2).ext (fun _ _ h=>h) (fun _ _ h=>h) (fun _ _=>rfl)⟩
theorem Ext.drawn (k:Nat) (F:Fz) (γ:List OI) (w:World) (n:Nat):Ext k F γ w F γ { w with drawn:=n }:=
  ⟨fun _ _ h=>h,rfl,rfl,rfl,Nat.le_refl _,fun _ _ _=>rfl,fun _ _ h=>.inl h,fun i _ h=>.inl ⟨i,h⟩,fun _ _ _ h=>h⟩
def pushW (w:World) (o:Obj):World:={ w with heap:=w.heap.push o }
theorem push_old {o:Obj} {b:Nat} (h:b < w.heap.size):(pushW w o).heap[b]?=w.heap[b]?:=by
  show (w.heap.push o)[b]?=_
  rw [Array.getElem?_push,if_neg (Nat.ne_of_lt h)]
theorem NF0 (n:Nat):NF (0,0) n:=fun o _ h=>by omega
theorem push_new {o:Obj}:(pushW w o).heap[w.heap.size]?=some o:=by
  show (w.heap.push o)[w.heap.size]?=_
  rw [Array.getElem?_push,if_pos rfl]
theorem push_own {vs:Array Value} {T:TypeId}:Own (pushW w (.cells vs T)) w.heap.size vs T:=⟨_,push_new,NF0 _⟩
theorem get_append_left {α:Type} {l r:List α} {i:Nat} {x:α} (h:l[i]?=some x):(l++r)[i]?=some x:=by
  rw [List.getElem?_append_left (lt_of_get h)];exact h
theorem append_one {α:Type} {l:List α} {y x:α} {i:Nat} (h:(l++[y])[i]?=some x):l[i]?=some x∨(i=l.length∧x=y):=by
  rcases Nat.lt_trichotomy i l.length with h1 | h1 | h1
  · rw [List.getElem?_append_left h1] at h;exact .inl h
  · subst h1;simp at h;exact .inr ⟨rfl,h.symm⟩
  · rw [List.getElem?_eq_none (by simp;omega)] at h;cases h
theorem Inv.pushG {w':World} (hi:Inv F γ hp w) (hold:∀ b,b < w.heap.size→w'.heap[b]?=w.heap[b]?) (o:AObj) (x:OI) (hx:∀ b,x.blk=some b→b=w.heap.size) (hok:OK F (γ++[x]) w' o x):
    Inv F (γ++[x]) (hp++[o]) w':=by
  have hb:∀ i b,blkAt (γ++[x]) i=some b→blkAt γ i=some b∨(i=γ.length∧b=w.heap.size):=by
    intro i b h
    obtain ⟨y,hy,hyb⟩:=blkAt_some h
    rcases append_one hy with h1 | ⟨h1,rfl⟩
    · exact .inl (blkAt_of h1 hyb)
    · exact .inr ⟨h1,hx b hyb⟩
  refine ⟨fun b o' h=>by rw [hold _ (hi.fzlt h)];exact hi.fz b o' h,by simp [hi.len], ?_, ?_, ?_⟩
  · intro i j b h1 h2
    rcases hb i b h1 with h1 | ⟨h1,h1'⟩<;>rcases hb j b h2 with h2 | ⟨h2,h2'⟩
    · exact hi.nd i j b h1 h2
    · have:=hi.lt h1;omega
    · have:=hi.lt h2;omega
    · omega
  · intro i b h
    rcases hb i b h with h | ⟨_,h⟩
    · exact hi.disj i b h
    · cases hF:F b with
      | none=>rfl
      | some o'=>have:=hi.fzlt hF;omega
  · intro i o' y h1 h2
    rcases append_one h2 with h3 | ⟨h3,rfl⟩
    · have hlt:i < hp.length:=by rw [← hi.len];exact lt_of_get h3
      rw [List.getElem?_append_left hlt] at h1
      refine (hi.ok i o' y h1 h3).ext (fun _ _ h=>h) (fun _ _ h=>get_append_left h) (fun b hyb=>?_)
      exact hold _ ((hi.ok i o' y h1 h3).lt hyb)
    · rw [h3,hi.len] at h1
      simp at h1
      subst h1
      exact hok
theorem Inv.push (hi:Inv F γ hp w) (ob:Obj) (o:AObj) (x:OI) (hx:∀ b,x.blk=some b→b=w.heap.size) (hok:OK F (γ++[x]) (pushW w ob) o x):
    Inv F (γ++[x]) (hp++[o]) (pushW w ob):=hi.pushG (fun _ hb=>push_old hb) o x hx hok
theorem Ext.push {k:Nat} (hi:Inv F γ hp w) (ob:Obj) (x:OI) (hx:∀ b,x.blk=some b→b=w.heap.size):Ext k F γ w F (γ++[x]) (pushW w ob):=by
  refine ⟨fun _ _ h=>h,rfl,rfl,rfl,by simp [pushW],fun b hb _=>push_old hb,fun _ _ h=>.inl h,fun i b h=>?_,fun i _ b h=>get_append_left h⟩
  obtain ⟨y,hy,hyb⟩:=blkAt_some h
  rcases append_one hy with h1 | ⟨h1,rfl⟩
  · exact .inl ⟨i,blkAt_of h1 hyb⟩
  · exact .inr (by rw [hx b hyb];exact Nat.le_refl _)
def cellsAs (vs:Array Value) (T:TypeId):Obj→Obj
  | .cells _ _ fz=>.cells vs T fz
  | _=>.cells vs T (0,0)
def setB (w:World) (b:Nat) (vs:Array Value) (T:TypeId):World:={ w with heap:=w.heap.modify b (cellsAs vs T) }
theorem setB_eq {b:Nat} {vs us:Array Value} {T U:TypeId} {fz:Nat × Nat} (h:w.heap[b]?=some (.cells us U fz)):(setB w b vs T).heap[b]?=some (.cells vs T fz):=by
  simp [setB,Array.getElem?_modify,h,cellsAs]
theorem setB_same {b:Nat} {vs us:Array Value} {T U:TypeId} (h:Own w b us U) (hs:vs.size=us.size):Own (setB w b vs T) b vs T:=by
  obtain ⟨fz,h,hn⟩:=h
  exact ⟨fz,setB_eq h,by rw [hs];exact hn⟩
theorem setB_far {b b':Nat} {vs:Array Value} {T:TypeId} (h:b'≠b):(setB w b vs T).heap[b']?=w.heap[b']?:=by
  simp [setB,Array.getElem?_modify,Ne.symm h]
theorem setB_setB {b:Nat} {vs vs':Array Value} {T T':TypeId}:setB (setB w b vs T) b vs' T'=setB w b vs' T':=by
  simp only [setB]
  congr 1
  apply Array.ext_getElem?
  intro i
  simp only [Array.getElem?_modify]
  split
  · cases w.heap[i]? with
    | none=>rfl
    | some o=>cases o<;>rfl
  · rfl
theorem setCell_setB {b j:Nat} {vs:Array Value} {T:TypeId} {v:Value} (h:Own w b vs T):w.setCell ⟨b,j,none⟩ v=setB w b (vs.setIfInBounds j v) T:=by
  obtain ⟨fz,h,_⟩:=h
  simp only [World.setCell,setB]
  congr 1
  apply Array.ext_getElem?
  intro i
  rw [Array.getElem?_modify,Array.getElem?_modify]
  by_cases hi:b=i
  · subst hi
    rw [if_pos rfl,if_pos rfl,h]
    rfl
  · simp [hi]
def splice (vs:Array Value) (k:Nat) (l:List Value) (i:Nat:=0):Array Value:=(l.zipIdx i).foldl (fun cs (c,j)=>cs.setIfInBounds (k+j) c) vs
theorem splice_size (l:List Value):∀ (vs:Array Value) (k i:Nat),(splice vs k l i).size=vs.size:=by
  induction l with
  | nil=>intro vs k i;rfl
  | cons x l ih=>intro vs k i;simp only [splice,List.zipIdx_cons,List.foldl_cons];exact (ih _ k (i+1)).trans (by simp)
theorem run_storeCells_blk {b off:Nat} {T:TypeId}:∀ (l:List Value) (i:Nat) (w:World) (vs:Array Value),Own w b vs T→(∀ v∈l,is1 v=true)→off+i+l.length≤vs.size→
    (storeCells ⟨b,off,none⟩ l i).run P w=.ok () (if l=[] then w else setB w b (splice vs off l i) T)
  | [],i,w,vs,h,h1,hl=>rfl
  | v::l,i,w,vs,h,h1,hl=>by
    have hv:=h1 v (List.mem_cons_self)
    simp only [List.length_cons] at hl
    have hst:(store (⟨b,off+i,none⟩:Addr) v).run P w=.ok () (setB w b (vs.setIfInBounds (off+i) v) T):=by
      have hc:w.cell? ⟨b,off+i,none⟩=some (vs[off+i]'(by omega)):=by
        rw [cell_heap h];exact Array.getElem?_eq_getElem (by omega)
      have hf:w.frozen? ⟨b,off+i,none⟩=false:=by
        obtain ⟨fz,h0,hn⟩:=h
        have:=hn (off+i) (by omega)
        simp only [World.frozen?,h0]
        simpa using this
      rw [← setCell_setB h]
      cases v<;>first | (simp [is1] at hv;done) | (unfold store;simp only [Sem.run,hc,hf];rfl)
    have ih:=run_storeCells_blk (off:=off) l (i+1) (setB w b (vs.setIfInBounds (off+i) v) T) (vs.setIfInBounds (off+i) v) (setB_same h (by simp)) (fun x hx=>h1 x (List.mem_cons_of_mem _ hx)) (by simp;omega)
    simp only [storeCells,Sem.run_bind,addr_add,hst,Result.andThen_ok,ih]
    simp only [reduceCtorEq,if_false]
    congr 1
    split
    · rename_i hl0;subst hl0;rfl
    · rw [setB_setB];rfl
theorem run_storeVar_blk {b off:Nat} {T t:TypeId} {x:Value} {vs:Array Value} (h:Own w b vs T) (hs:sizeP P t=some x.cells.size) (h1:∀ v∈x.cells.toList,is1 v=true)
    (hl:off+x.cells.size≤vs.size):(Instr.storeAt t (.pointer (some ⟨b,off,none⟩)) x).run P w=.ok () (if x.cells.toList=[] then w else setB w b (splice vs off x.cells.toList) T):=by
  unfold sizeP at hs
  cases hin:P.info? t with
  | none=>simp [hin] at hs
  | some inf=>
    simp only [hin,Option.map_some,Option.some.injEq] at hs
    have:=run_storeCells_blk (P:=P) (b:=b) (off:=off) x.cells.toList 0 w vs h h1 (by simpa using hl)
    simp [Instr.storeAt,Instr.sureAddr,storeVar,sizeOf,typeInfo,hin,hs,this]
theorem Inv.setObj (hi:Inv F γ hp w) {id b:Nat} {x:OI} {o':AObj} {vs:Array Value} {T:TypeId} (hx:γ[id]?=some x) (hb:x.blk=some b) (hok:OK F γ (setB w b vs T) o' x):
    Inv F γ (hp.set id o') (setB w b vs T):=by
  refine ⟨fun b' o h=>?_,by simp [hi.len],hi.nd,hi.disj,fun i o y h1 h2=>?_⟩
  · have hne:b'≠b:=fun e=>by subst e;rw [hi.disj id _ (blkAt_of hx hb)] at h;cases h
    rw [setB_far hne];exact hi.fz b' o h
  · by_cases hii:i=id
    · subst hii
      rw [hx] at h2;injection h2 with h2;subst h2
      rw [List.getElem?_set_self (by rw [← hi.len];exact lt_of_get hx)] at h1
      injection h1 with h1;subst h1
      exact hok
    · rw [List.getElem?_set_ne (Ne.symm hii)] at h1
      refine (hi.ok i o y h1 h2).ext (fun _ _ h=>h) (fun _ _ h=>h) (fun b' hb'=>?_)
      exact setB_far (fun e=>hii (by subst e;exact hi.nd _ _ _ (blkAt_of h2 hb') (blkAt_of hx hb)))
theorem Ext.setB {k:Nat} (hi:Inv F γ hp w) {id b:Nat} {x:OI} {vs:Array Value} {T:TypeId} (hx:γ[id]?=some x) (hb:x.blk=some b):Ext k F γ w F γ (setB w b vs T):=
  ⟨fun _ _ h=>h,rfl,rfl,rfl,by simp [Go.Proofs.YtmmafhopnkkeeaaGreatDoor.setB],fun b' _ hn=>setB_far (fun e=>hn id (by subst e;exact blkAt_of hx hb)),fun _ _ h=>.inl h,fun i _ h=>.inl ⟨i,h⟩,fun _ _ _ h=>h⟩
theorem Slots.ext {sl:List AV} {a:Act} (h:Slots F γ sl a) (hs:F.sub F') (hg:∀ (id:Nat) (o:OI),γ[id]?=some o→γ'[id]?=some o):Slots F' γ' sl a:=
  ⟨h.1,h.2.1,fun i av v h1 h2=>(h.2.2 i av v h1 h2).ext hs hg⟩
theorem Slots.kill {sl:List AV} {a:Act} (h:Slots F γ sl a) (hs:F.sub F') (hg:∀ (id:Nat) (o:OI),p id=false→γ[id]?=some o→γ'[id]?=some o):Slots F' γ' (sl.map (killV p)) a:=by
  refine ⟨h.1,by simpa using h.2.1,fun i av v h1 h2=>?_⟩
  rw [List.getElem?_map] at h1
  cases hi:sl[i]? with
  | none=>simp [hi] at h1
  | some av0=>simp [hi] at h1;subst h1;exact (h.2.2 i av0 v hi h2).kill hs hg
theorem Slots.put {sl:List AV} {a:Act} (h:Slots F γ sl a) (dst:Option Nat) {av:AV} {v:Value} (hv:RV F γ av v):Slots F γ (putS sl dst av) (a.put dst v):=by
  cases dst with
  | none=>exact h
  | some d=>
    refine ⟨h.1,by simpa [putS,Act.put] using h.2.1,fun i av' v' h1 h2=>?_⟩
    simp only [putS,Act.put] at h1 h2
    by_cases hd:d=i
    · subst hd
      have hlt:d < sl.length:=by have:=lt_of_get h1;simpa using this
      rw [List.getElem?_set_self hlt] at h1
      have hlt2:d < a.tmps.size:=h.2.1 ▸ hlt
      rw [Array.getElem?_setIfInBounds_self_of_lt hlt2] at h2
      injection h1 with h1;injection h2 with h2
      subst h1;subst h2
      exact hv
    · rw [List.getElem?_set_ne hd] at h1
      rw [Array.getElem?_setIfInBounds_ne hd] at h2
      exact h.2.2 i av' v' h1 h2
end
end
end Go.Proofs.YtmmafhopnkkeeaaGreatDoor
