/- How the abstract heap follows the world: new blocks, stores, what is frozen, what is forgotten. Conditions: none. -/
import Derived.Test.YtcplecjhmnblpaaGreatDoorLd
namespace Go.Proofs.YtcplecjhmnblpaaGreatDoor
set_option linter.unusedSimpArgs false
set_option linter.unusedVariables false
section
section
variable {P:Program} {F:Fz} {γ:List OI} {w:World} {hp:List aC}
theorem aG{α:Type}{l:List α}{i:Nat}{x:α}(h:l[i]?=some x):i < l.length:=by
  rcases aRe i l.length with h' | h'
  · exact h'
  · rw[aQ7 h'] at h;cases h
theorem aKx{op:UnOp}{av v:AV}{x:Value}(h:unV op av=some v)(hx:RV F γ av x):∃ r,(Op.unary op x).run P w=.ok r w/\RV F γ v r:=by
  unfold unV at h;split at h
  · injection h with h;subst h;rw[cY hx]
    exact⟨_,by simp[Op.unary,Op.intArith],bO rfl⟩
  · injection h with h;subst h;rw[cY hx]
    exact⟨_,by simp[Op.unary],bO rfl⟩
  · rename_i k n
    rw[cY hx];simp only[kI,aQg,Option.some.injEq] at h;subst h;exact⟨_,by simp[Op.unary,Op.intBits],bO rfl⟩
  · cases h
theorem aCs{s d:TypeId}{ds:TypeDesc}{k:IntKind}{n:Int}{av:AV}{x:Value}(h:bP av=some n)(hx:RV F γ av x)(hs:P.underlying s=some ds)(hd:P.underlying d=some (.int k)):
    ∃ r,(convert s d x).run P w=.ok r w/\RV F γ (cX (.int k (k.wrap n))) r:=by
  obtain⟨j,rfl⟩:=pR hx h;exact⟨_,by simp[convert,run_underlying hs,run_underlying hd,Conv.intToInt],bO rfl⟩
theorem aCt{s d:TypeId}{n:ByteArray}{av:AV}{x:Value}(h:cS av=some n)(hx:RV F γ av x)(hs:P.underlying s=some .string)(hd:P.underlying d=some .string):
    ∃ r,(convert s d x).run P w=.ok r w/\RV F γ (cX (.string n)) r:=by
  have:=qX hx h;subst this;exact⟨_,by simp[convert,run_underlying hs,run_underlying hd],bO rfl⟩
theorem aGV{g:Bool}{s s0 off:Nat}{av v:AV}{x:Value}{t:TypeId}(h:aCn g s off av=some v)(hx:RV F γ av x)
    (hg:Dp P t=some g) (hsz:dR P t=some s0) (hs:s=if g then s0 else 1):
    ∃ y cs,x=.agg cs/\(part t cs off).run P w=.ok y w/\RV F γ v y:=by
  unfold aCn at h;split at h
  · rename_i cs
    split at h
    · rename_i hle
      cases hx with | agg _ vs hvs hr=>
      unfold Dp at hg;cases hu:P.underlying t with
      | none=>simp[hu] at hg
      | some d=>
        simp only[hu,aQg,Option.some.injEq] at hg;unfold dR at hsz;cases hin:P.info? t with
        | none=>simp[hin] at hsz
        | some inf=>
          simp only[hin,aQg,Option.some.injEq] at hsz;have hr':∀ (i:Nat) c v,((cs.drop off).take s)[i]?=some c->((vs.toList.drop off).take s)[i]?=some v->RC F γ c v:=by
            intro i c v hc hv;simp only[aQG,aQJ] at hc hv;split at hc
            · rename_i hlt
              rw[if_pos hlt] at hv;exact hr _ _ _ hc (by simpa using hv)
            · cases hc
          obtain⟨h1,h2⟩:=O5 h (vs:=(vs.toList.drop off).take s) (by simp;omega) hr';cases g with
          | true=>
            refine⟨.agg (vs.extract off (off+inf.size)),vs,rfl, ?_, ?_⟩
            · unfold Wm at hg
              split at hg
              · simp[part,isAgg,sizeOf,typeInfo,run_underlying hu,hin]
              · simp[part,isAgg,sizeOf,typeInfo,run_underlying hu,hin]
              · cases hg
            · have:=h1 rfl
              have he:((vs.toList.drop off).take s).toArray=vs.extract off (off+inf.size):=by
                apply Array.ext';simp at hs;subst hs;subst hsz;simp[List.take_drop,Array.toList_extract,List.extract_eq_take_drop]
              rwa[he] at this
          | false=>
            obtain⟨y,hy,hv⟩:=h2 rfl;simp at hs;subst hs;have hcell:vs[off]?=some y:=by
              have:=congrArg (fun l:List Value=>l[0]?) hy
              simpa[aQG,aQJ] using this
            refine⟨y,vs,rfl, ?_,hv⟩;cases d<;>first | (simp[Wm] at hg;done) | simp[part,isAgg,run_underlying hu,hcell]
    · cases h
  · cases h
theorem aGW{n s:Nat}{av iv v:AV}{x y:Value}{i:Int}{t e:TypeId}(hi:bP iv=some i)(hy:RV F γ iv y)(h:Wj n s av i=some v)(hx:RV F γ av x)
    (ht:P.underlying t=some (.array n e)) (hs:dR P e=some s):∃ r,(Instr.indexAt t x y).run P w=.ok r w/\RV F γ v r:=by
  obtain⟨k,rfl⟩:=pR hy hi;unfold Wj at h;split at h
  · rename_i hb
    obtain⟨b,off,rfl,hv⟩:=Ao h hx;unfold dR at hs;cases hin:P.info? e with
    | none=>simp[hin] at hs
    | some inf=>
      simp only[hin,aQg,Option.some.injEq] at hs;subst hs;refine⟨_, ?_,hv⟩;simp[Instr.indexAt,asIntOf,run_underlying ht,Instr.sureAddr,hb,sizeOf,typeInfo,hin,dC]
  · cases h
theorem aGX{s:Nat}{av iv v:AV}{x y:Value}{i:Int}{t e:TypeId}(hi:bP iv=some i)(hy:RV F γ iv y)(h:uM hp s av i=some v)(hx:RV F γ av x)(hv:dB F γ hp w)
    (ht:P.underlying t=some (.slice e)) (hs:dR P e=some s):∃ r,(Instr.indexAt t x y).run P w=.ok r w/\RV F γ v r:=by
  obtain⟨k,rfl⟩:=pR hy hi;unfold dR at hs;cases hin:P.info? e with
  | none=>simp[hin] at hs
  | some inf=>
    simp only[hin,aQg,Option.some.injEq] at hs;subst hs;unfold uM at h;split at h
    · rename_i es
      split at h
      · rename_i h0
        split at h
        · rename_i e' he
          split at h
          · rename_i hel
            injection h with h;subst h
            have hlt:=aG he;cases hx with | one c v hc=>cases hc with | dc d v hd=>
            cases hd with
            | nil A c=>simp at hlt
            | slc b off c size es g hsz hr hcc hcap=>
              have hse:e'.length=size:=hsz e' (aQB he);have hb:0<=i/\i < (es.length:Int):=⟨h0,by omega⟩;refine⟨.pointer (some ⟨b,off+i.toNat * inf.size,none⟩), ?_,.one _ _ (.ref _ _ _ (fun j=>g i.toNat j) (fun j d hj=>hr _ _ _ _ he hj) (fun j d hj=>?_))⟩
              · simp[Instr.indexAt,asIntOf,run_underlying ht,hb,sizeOf,typeInfo,hin,dC]
              · have:=hcc _ _ _ _ he hj
                rw[<- hse,hel] at this;rw[Nat.add_assoc];exact this
          · cases h
        · cases h
      · cases h
    · rename_i id n
      split at h
      · rename_i cap s' es hb
        split at h
        · rename_i hc
          obtain⟨h0,hin',hne,rfl⟩:=hc;injection h with h;subst h;cases hx with | one c v hc=>cases hc with
          | bldN _ cap' hgm=>omega
          | bld _ _ b cap' hgm=>
            have hb':0<=i/\i < (n:Int):=⟨h0,hin'⟩;refine⟨.pointer (some ⟨b,i.toNat * inf.size+0,none⟩), ?_,.one _ _ (.ept _ _ _ _ _ _ hgm)⟩;simp[Instr.indexAt,asIntOf,run_underlying ht,hb',sizeOf,typeInfo,hin,dC]
        · cases h
      · cases h
    · rename_i id k0 n z
      split at h
      · rename_i cap s' es hb
        split at h
        · rename_i hc
          obtain⟨h0,hin',hne,rfl,rfl⟩:=hc;injection h with h;subst h;cases hx with | one c v hc=>cases hc with
          | bls _ _ _ _ b cap' c off hgm ho hcn=>
            have hb':0<=i/\i < (n:Int):=⟨h0,hin'⟩;have ho':=ho (by omega);subst ho';rcases hgm with hgm | hgm
            · refine⟨.pointer (some ⟨b,(k0+i.toNat) * inf.size+0,none⟩), ?_,.one _ _ (.ept _ _ _ _ _ _ hgm)⟩
              simp[Instr.indexAt,asIntOf,run_underlying ht,hb',sizeOf,typeInfo,hin,dC,aQK]
            · exact absurd hgm (hv.noArr hb)
        · cases h
      · rename_i cs hb
        split at h
        · rename_i hc
          obtain⟨h0,hin',rfl⟩:=hc;injection h with h;subst h;cases hx with | one c v hc=>cases hc with
          | bls _ _ _ _ b cap' c off hgm ho hcn=>
            have hb':0<=i/\i < (n:Int):=⟨h0,hin'⟩;have ho':=ho (by omega);subst ho';rcases hgm with hgm | hgm
            · exact absurd hgm (hv.noBox hb)
            · refine⟨.pointer (some ⟨b,(k0+i.toNat) * inf.size,none⟩), ?_,.one _ _ (.ptr _ _ _ hgm)⟩
              simp[Instr.indexAt,asIntOf,run_underlying ht,hb',sizeOf,typeInfo,hin,dC,aQK]
        · cases h
      · cases h
    · cases h
theorem aGY{av iv v:AV}{x y:Value}{i:Int}{t:TypeId}(hi:bP iv=some i)(hy:RV F γ iv y)(h:Dn av i=some v)(hx:RV F γ av x)
    (ht:P.underlying t=some .string):∃ r,(Instr.index t x y).run P w=.ok r w/\RV F γ v r:=by
  obtain⟨k,rfl⟩:=pR hy hi;unfold Dn at h;split at h
  · rename_i s hs
    rw[qX hx hs];split at h
    · rename_i h0
      split at h
      · rename_i b hb
        injection h with h;subst h
        have hb':s[i.toNat]?=some b:=by
          have:s.data[i.toNat]?=some b:=by simpa using hb
          simp only[getElem?,decidableGetElem?] at this ⊢;split at this
          · rename_i hlt
            have hlt':i.toNat < s.size:=hlt;rw[dif_pos hlt'];exact this
          · cases this
        exact⟨_,by simp[Instr.index,asIntOf,run_underlying ht,h0,hb'],bO rfl⟩
      · cases h
    · cases h
  · cases h
theorem Ap{xo:Option AV}{x:Value}{av:AV}{top dflt r:Nat}{code:BoundsCode}(hxo:xo=some av)(hx:RV F γ av x)(h:dI xo top dflt=some r):
    (Instr.sliceBound x top code).run P w=.ok r w/\r<=top:=by
  subst hxo;simp only[dI] at h;split at h
  · rename_i i hi
    split at h
    · rename_i hb
      injection h with h;subst h
      obtain⟨k,rfl⟩:=pR hx hi;exact⟨by simp[Instr.sliceBound,asIntOf,hb],by omega⟩
    · cases h
  · cases h
def RO(F:Fz)(γ:List OI)(o:Option AV)(x:Option Value):Prop:=
  match o,x with
  | none,none=>True
  | some a,some x=>RV F γ a x
  | _,_=>False
theorem gV{isSlice:Bool}{lo hi:Option AV}{xl xh:Option Value}{len cap l h:Nat}(hl:RO F γ lo xl)(hh:RO F γ hi xh)(hlc:len<=cap)
    (h1:dI hi len len=some h) (h2:dI lo h 0=some l):(Instr.sliceBounds isSlice len cap xl xh none).run P w=.ok (l,h,cap) w/\l<=h/\h<=len:=by
  have hhi:(match xh with | some v=>(Instr.sliceBound v cap (if isSlice then .sliceAcap else .sliceAlen)) | none=>pure len:Sem Nat).run P w=.ok h w/\h<=len:=by
    cases hi with
    | none=>
      cases xh with
      | none=>simp[dI] at h1;subst h1;exact⟨rfl,aQf _⟩
      | some _=>exact hh.elim
    | some a=>
      cases xh with
      | none=>exact hh.elim
      | some x=>
        have hb:h<=len:=(Ap (P:=P) (w:=w) (code:=.index) rfl hh h1).2;have h1':dI (some a) cap len=some h:=by
          simp only[dI] at h1 ⊢;split at h1
          · rename_i i hi
            split at h1
            · rename_i hb'
              rw[if_pos ⟨hb'.1,by omega⟩];exact h1
            · cases h1
          · cases h1
        exact⟨(Ap (P:=P) (w:=w) rfl hh h1').1,hb⟩
  have hlo:(match xl with | some v=>(Instr.sliceBound v h (if (none:Option Value).isSome then .slice3C else .sliceB)) | none=>pure 0:Sem Nat).run P w=.ok l w/\l<=h:=by
    cases lo with
    | none=>
      cases xl with
      | none=>simp[dI] at h2;subst h2;exact⟨rfl,aQD _⟩
      | some _=>exact hl.elim
    | some a=>
      cases xl with
      | none=>exact hl.elim
      | some x=>exact Ap (P:=P) (w:=w) rfl hl h2
  refine⟨?_,hlo.2,hhi.2⟩;cases xh<;>cases xl<;>simp_all [Instr.sliceBounds]
theorem aGZ{av v:AV}{x:Value}{lo hi:Option AV}{xl xh:Option Value}{t:TypeId}(hl:RO F γ lo xl)(hh:RO F γ hi xh)(h:Do av lo hi=some v)(hx:RV F γ av x)
    (ht:P.underlying t=some .string):∃ r,(Instr.sliceAt t x xl xh none).run P w=.ok r w/\RV F γ v r:=by
  unfold Do at h;cases hs:cS av with
  | none=>simp[hs] at h
  | some s=>
    simp only[hs,aQq] at h;cases h1:dI hi s.size s.size with
    | none=>simp[h1] at h
    | some hh'=>
      simp only[h1,aQq] at h;cases h2:dI lo hh' 0 with
      | none=>simp[h2] at h
      | some l=>
        simp only[h2,aQq,Option.some.injEq] at h;subst h;rw[qX hx hs];have:=(gV (P:=P) (w:=w) (isSlice:=false) hl hh (aQf _) h1 h2).1;exact⟨_,by simp[Instr.sliceAt,Instr.slice,run_underlying ht,this],bO rfl⟩
theorem aG0{s:Nat}{av v:AV}{x:Value}{lo hi:Option AV}{xl xh:Option Value}{t e:TypeId}(hl:RO F γ lo xl)(hh:RO F γ hi xh)(h:kJ hp s av lo hi=some v)(hx:RV F γ av x)
    (hv:dB F γ hp w) (ht:P.underlying t=some (.slice e)) (hs:dR P e=some s):∃ r,(Instr.sliceAt t x xl xh none).run P w=.ok r w/\RV F γ v r:=by
  unfold dR at hs;cases hin:P.info? e with
  | none=>simp[hin] at hs
  | some inf=>
    simp only[hin,aQg,Option.some.injEq] at hs;subst hs;have run:∀ A len cap l h',(Instr.sliceBounds true len cap xl xh none).run P w=.ok (l,h',cap) w->
        (Instr.sliceAt t (.slice A len cap) xl xh none).run P w=.ok (.slice (if cap=l then A else A.map (·.add (l * inf.size))) (h' - l) (cap - l)) w:=by
      intro A len cap l h' hb;simp[Instr.sliceAt,Instr.slice,run_underlying ht,hb,sizeOf,typeInfo,hin]
    unfold kJ at h;split at h
    · rename_i es
      cases h1:dI hi es.length es.length with
      | none=>simp[h1] at h
      | some hh'=>
        simp only[h1,aQq] at h;cases h2:dI lo hh' 0 with
        | none=>simp[h2] at h
        | some l=>
          simp only[h2,aQq] at h;split at h
          · rename_i hall
            injection h with h;subst h
            cases hx with | one c v hc=>cases hc with | dc d v hd=>
            cases hd with
            | nil A c=>
              obtain⟨hb,hle,hle2⟩:=gV (P:=P) (w:=w) (isSlice:=true) (len:=0) (cap:=c) hl hh (aQD _) h1 h2;simp at hle2;subst hle2;have:l=0:=by omega
              subst this;refine⟨_,run _ _ _ _ _ hb,.one _ _ (.dc _ _ ?_)⟩;simp;exact .nil _ _
            | slc b off c size es g hsz hr hcc hcap=>
              obtain⟨hb,hle,hle2⟩:=gV (P:=P) (w:=w) (isSlice:=true) hl hh hcap h1 h2;refine⟨_,run _ _ _ _ _ hb,.one _ _ (.dc _ _ ?_)⟩;have hlen:((es.take hh').drop l).length=hh' - l:=by simp;omega
              rw[<- hlen];by_cases hcl:c=l
              · have:(es.take hh').drop l=[]:=aRf (by rw[hlen];omega)
                rw[this];exact .nil _ _
              · rw[if_neg hcl]
                have hget:∀ (i:Nat) e',((es.take hh').drop l)[i]?=some e'->es[l+i]?=some e':=by
                  intro i e' hi;simp only[aQJ,aQG] at hi;split at hi
                  · exact hi
                  · cases hi
                simp only[aQg,dC];by_cases hsz0:∃ e',e'∈es
                · obtain⟨e',he'⟩:=hsz0
                  have hsi:size=inf.size:=by
                    have h3:=hsz e' he';have h4:=aRl.1 hall e' he';simp at h4;omega
                  subst hsi;refine .slc b (off+l * inf.size) (c - l) inf.size _ (fun i j=>g (l+i) j) (fun e h=>hsz e (aQO (aQS h))) (fun i j e d h h'=>hr _ _ _ _ (hget i e h) h') (fun i j e d h h'=>?_) (by rw[hlen];omega)
                  have:=hcc _ _ _ _ (hget i e h) h';rw[aQK] at this;rw[show off+l * inf.size+(i * inf.size+j)=off+(l * inf.size+i * inf.size+j) by omega];exact this
                · have:es=[]:=List.eq_nil_iff_forall_not_mem.2 (fun e' he'=>hsz0 ⟨e',he'⟩)
                  subst this;simp;exact .nil _ _
          · cases h
    · cases h1:dI hi 0 0 with
      | none=>simp[h1] at h
      | some hh'=>
        simp only[h1,aQq] at h;cases h2:dI lo hh' 0 with
        | none=>simp[h2] at h
        | some l=>
          simp only[h2,aQq,Option.some.injEq] at h;subst h;rw[cY hx];obtain⟨hb,hle,hle2⟩:=gV (P:=P) (w:=w) (isSlice:=true) (len:=0) (cap:=0) hl hh (aQD _) h1 h2;have e1:l=0:=by omega
          have e2:hh'=0:=by omega
          subst e1;subst e2;exact⟨_,run _ _ _ _ _ hb,by simp;exact bO rfl⟩
    · rename_i id n
      split at h
      · rename_i cap s' es hb
        split at h
        · rename_i hne
          cases h1:dI hi n n with
          | none=>simp[h1] at h
          | some hh'=>
            simp only[h1,aQq,Option.some.injEq] at h;subst h;cases hx with | one c v hc=>cases hc with
            | bldN _ cap' hgm=>
              obtain⟨hb2,hle,hle2⟩:=gV (P:=P) (w:=w) (isSlice:=true) (len:=0) (cap:=0) (l:=0) hl hh (aQD _) h1 rfl;have:hh'=0:=by omega
              subst this;exact⟨_,run _ _ _ _ _ hb2,by simpa using RV.one _ _ (.bldN _ _ hgm)⟩
            | bld _ _ b cap' hgm=>
              obtain⟨hcc,hec,_⟩:=hv.arr hb hgm;obtain⟨hb2,hle,hle2⟩:=gV (P:=P) (w:=w) (isSlice:=true) (len:=n) (cap:=cap') (l:=0) hl hh (by omega) h1 rfl;refine⟨_,run _ _ _ _ _ hb2,.one _ _ ?_⟩;have:(if cap'=0 then some (⟨b,0,none⟩:Addr) else (some ⟨b,0,none⟩:Option Addr).map (·.add (0 * inf.size)))=some ⟨b,0,none⟩:=by
                split<;>simp[Addr.add]
              rw[this];exact .bld _ _ _ _ hgm
        · cases h
      · rename_i cap s' es lo' hb
        split at h
        · rename_i hne
          obtain⟨hne,rfl⟩:=hne;obtain⟨hh',h1,h⟩:=aQX.1 h;obtain⟨l,h2,h⟩:=aQX.1 h;injection h with h;subst h;cases hx with | one c v hc=>cases hc with
          | bldN _ cap' hgm=>
            obtain⟨hb2,hle,hle2⟩:=gV (P:=P) (w:=w) (isSlice:=true) (len:=0) (cap:=0) hl hh (aQD _) h1 h2;have e1:hh'=0:=by omega
            have e2:l=0:=by omega
            subst e1;subst e2;exact⟨_,run _ _ _ _ _ hb2,by simpa using RV.one _ _ (.bldN _ _ hgm)⟩
          | bld _ _ b cap' hgm=>
            obtain⟨hcc,hec,_⟩:=hv.arr hb hgm;obtain⟨hb2,hle,hle2⟩:=gV (P:=P) (w:=w) (isSlice:=true) (len:=n) (cap:=cap') hl hh (by omega) h1 h2;refine⟨_,run _ _ _ _ _ hb2,.one _ _ ?_⟩;by_cases l0:l=0
            · subst l0
              have:(if cap'=0 then some (⟨b,0,none⟩:Addr) else (some ⟨b,0,none⟩:Option Addr).map (·.add (0 * inf.size)))=some ⟨b,0,none⟩:=by
                split<;>simp[Addr.add]
              rw[this,if_pos rfl];exact .bld _ _ _ _ hgm
            · rw[if_neg l0]
              by_cases hcl:cap'=l
              · rw[if_pos hcl]
                exact .bls _ _ _ _ _ _ _ _ (.inl hgm) (fun hn=>by omega) (by omega)
              · rw[if_neg hcl]
                simp only[aQg,dC,aQQ];exact .bls _ _ _ _ _ _ _ _ (.inl hgm) (fun _=>rfl) (by omega)
        · cases h
      · cases h
    · rename_i id k0 n z
      split at h
      · rename_i cap s' es hb
        split at h
        · rename_i hne
          obtain⟨hne,rfl,rfl⟩:=hne;obtain⟨hh',h1,h⟩:=aQX.1 h;obtain⟨l,h2,h⟩:=aQX.1 h;injection h with h;subst h;cases hx with | one c v hc=>cases hc with
          | bls _ _ _ _ b cap' c off hgm ho hcn=>
            obtain⟨hb2,hle,hle2⟩:=gV (P:=P) (w:=w) (isSlice:=true) (len:=n) (cap:=c) hl hh hcn h1 h2;refine⟨_,run _ _ _ _ _ hb2,.one _ _ ?_⟩;by_cases hcl:c=l
            · rw[if_pos hcl]
              exact .bls _ _ _ _ _ _ _ _ hgm (fun hn=>by omega) (by omega)
            · rw[if_neg hcl]
              simp only[aQg,dC];exact .bls _ _ _ _ _ _ _ _ hgm (fun hn=>by rw[ho (by omega),aQK]) (by omega)
        · cases h
      · rename_i cs hb
        split at h
        · rename_i hne
          subst hne;obtain⟨hh',h1,h⟩:=aQX.1 h;obtain⟨l,h2,h⟩:=aQX.1 h;injection h with h;subst h
          cases hx with | one c v hc=>cases hc with
          | bls _ _ _ _ b cap' c off hgm ho hcn=>
            obtain⟨hb2,hle,hle2⟩:=gV (P:=P) (w:=w) (isSlice:=true) (len:=n) (cap:=c) hl hh hcn h1 h2;refine⟨_,run _ _ _ _ _ hb2,.one _ _ ?_⟩;by_cases hcl:c=l
            · rw[if_pos hcl]
              exact .bls _ _ _ _ _ _ _ _ hgm (fun hn=>by omega) (by omega)
            · rw[if_neg hcl]
              simp only[aQg,dC];exact .bls _ _ _ _ _ _ _ _ hgm (fun hn=>by rw[ho (by omega),aQK]) (by omega)
        · cases h
      · cases h
    · cases h
theorem aG1{n s:Nat}{av v:AV}{x:Value}{lo hi:Option AV}{xl xh:Option Value}{t e:TypeId}(hl:RO F γ lo xl)(hh:RO F γ hi xh)(h:aCo n s av lo hi=some v)(hx:RV F γ av x)
    (ht:P.underlying t=some (.array n e)) (hs:dR P e=some s) (hs0:s≠0):∃ r,(Instr.sliceAt t x xl xh none).run P w=.ok r w/\RV F γ v r:=by
  unfold dR at hs;cases hin:P.info? e with
  | none=>simp[hin] at hs
  | some inf=>
    simp only[hin,aQg,Option.some.injEq] at hs;subst hs;unfold aCo at h;split at h
    · rename_i id off
      split at h
      · rename_i hm
        obtain⟨hh',h1,h⟩:=aQX.1 h;obtain⟨l,h2,h⟩:=aQX.1 h;injection h with h;subst h;cases hx with | one c v hc=>cases hc with
        | ptr _ _ b hgm=>
          obtain⟨hb2,hle,hle2⟩:=gV (P:=P) (w:=w) (isSlice:=false) (len:=n) (cap:=n) hl hh (aQf _) h1 h2;refine⟨.slice (some (if n=l then ⟨b,off,none⟩ else (⟨b,off,none⟩:Addr).add (l * inf.size))) (hh' - l) (n - l), ?_,.one _ _ ?_⟩
          · simp[Instr.sliceAt,Instr.sureAddr,run_underlying ht,hb2,sizeOf,typeInfo,hin]
          · by_cases hcl:n=l
            · rw[if_pos hcl]
              exact .bls _ _ _ _ _ 0 _ _ (.inr hgm) (fun hn=>by omega) (by omega)
            · rw[if_neg hcl]
              simp only[dC];refine .bls _ _ _ _ _ 0 _ _ (.inr hgm) (fun _=>?_) (by omega)
              rw[aQK,Nat.div_mul_cancel (Nat.dvd_of_mod_eq_zero hm)]
      · cases h
    · cases h
end
end
section
section
variable {P:Program} {F:Fz} {γ:List OI} {w:World} {hp:List aC} {a:Act}
theorem Ws{n:Nat}{av v:AV}{x:Value}(h:Ma av n=some v)(hx:RV F γ av x):∃ r,(Instr.extract x n).run P w=.ok r w/\RV F γ v r:=by
  unfold Ma at h;split at h
  · rename_i l
    cases hx with | tup _ vs hs hr=>
    have go:∀ t,l[n]?=some t->∃ r,vs[n]?=some r/\RT F γ t r:=by
      intro t ht;have hlt:n < vs.size:=hs ▸ aG ht;exact⟨vs[n]'hlt,aQI hlt,hr n t _ ht (aQI hlt)⟩
    split at h
    · rename_i c hc
      injection h with h;subst h
      obtain⟨r,hr1,hr2⟩:=go _ hc;refine⟨r,by simp[Instr.extract,hr1], ?_⟩;cases hr2 with | one c v h=>exact .one _ _ h
    · rename_i c hc
      injection h with h;subst h
      obtain⟨r,hr1,hr2⟩:=go _ hc;refine⟨r,by simp[Instr.extract,hr1], ?_⟩;cases hr2 with | agg c v h h'=>exact .agg _ _ h h'
    · cases h
  · cases h
theorem aCu{av v:AV}{x:Value}{t e:TypeId}{ty:TypeId}(h:qI av=some v)(hx:RV F γ av x)(ht:P.underlying t=some (.slice e))(ts:Array TypeId)(hts:ts[0]?=some t)(xs:Array Value)(hxs:xs[0]?=some x):
    ∃ r,(Builtin.len_ ts ty xs).run P w=.ok r w/\RV F γ v r:=by
  have go:∀ A n c,x=.slice A n c->(Builtin.len_ ts ty xs).run P w=.ok (.int .i64 n) w:=by
    rintro A n c rfl;simp[Builtin.len_,hts,hxs,run_underlying ht,goInt]
  unfold qI at h;split at h
  · injection h with h;subst h
    cases hx with | one c v hc=>cases hc with | dc d v hd=>cases hd with
    | nil A c=>exact⟨_,go _ _ _ rfl,bO rfl⟩
    | slc b off c size es g hsz hr hcc hcap=>exact⟨_,go _ _ _ rfl,bO rfl⟩
  · injection h with h;subst h
    rw[cY hx] at go;exact⟨_,go _ _ _ rfl,bO rfl⟩
  · injection h with h;subst h
    cases hx with | one c v hc=>cases hc with
    | bldN _ cap' hgm=>exact⟨_,go _ _ _ rfl,bO rfl⟩
    | bld _ _ b cap' hgm=>exact⟨_,go _ _ _ rfl,bO rfl⟩
  · injection h with h;subst h
    cases hx with | one c v hc=>cases hc with
    | bls _ _ _ _ b cap' c off hgm ho hcn=>exact⟨_,go _ _ _ rfl,bO rfl⟩
  · cases h
theorem Wt{av:AV}{x:Value}{b:Bool}(h:aCp av=some b)(hx:RV F γ av x):∃ A n c,x=.slice A n c/\A.isNone=b:=by
  unfold aCp at h;split at h
  · injection h with h;subst h
    exact⟨_,_,_,cY hx,rfl⟩
  · injection h with h;subst h
    cases hx with | one c v hc=>cases hc with | dc d v hd=>cases hd with
    | slc b off c size es g hsz hr hcc hcap=>exact⟨_,_,_,rfl,rfl⟩
  · injection h with h;subst h
    cases hx with | one c v hc=>cases hc with
    | bld _ _ b cap' hgm=>exact⟨_,_,_,rfl,rfl⟩
  · injection h with h;subst h
    cases hx with | one c v hc=>cases hc with
    | bls _ _ _ _ b cap' c off hgm ho hcn=>exact⟨_,_,_,rfl,rfl⟩
  · cases h
theorem Wu{av:AV}{x:Value}{b:Bool}(h:aCq av=some b)(hx:RV F γ av x):∃ A,x=.pointer A/\A.isNone=b:=by
  unfold aCq at h;split at h
  · injection h with h;subst h
    exact⟨_,cY hx,rfl⟩
  all_goals first | (injection h with h;subst h;cases hx with | one c v hc=>cases hc;exact⟨_,rfl,rfl⟩) | (injection h with h;subst h;cases hx with | one c v hc=>cases hc with | dc _ _ hd=>cases hd;exact⟨_,rfl,rfl⟩) | cases h
theorem D9{t e:TypeId}{A:Option Addr}{n c:Nat}(d:Nat)(h:P.underlying t=some (.slice e)):(Op.equalIn (d+1) t (.slice A n c) (.slice none 0 0)).run P w=.ok A.isNone w:=by
  cases A<;>simp[Op.equalIn,run_underlying h]
theorem Ib{t e:TypeId}{A:Option Addr}(d:Nat)(h:P.underlying t=some (.pointer e)):(Op.equalIn (d+1) t (.pointer A) (.pointer none)).run P w=.ok A.isNone w:=by
  cases A<;>simp[Op.equalIn,run_underlying h]
theorem Wv{p neg:Bool}{d:TypeDesc}{t:TypeId}{xo yo:Operand}{av v:AV}{x:Value}(h:Sp p neg av=some v)(hx:RV F γ av x)(ht:P.underlying t=some d)(hk:Ia d yo=some p):
    ∃ r,((do eqGuard (if neg then .neq else .eql) t xo yo x (a.eval yo);Go.binOp (if neg then .neq else .eql) t x (a.eval yo)):Sem Value).run P w=.ok r w/\RV F γ v r:=by
  unfold Ia at hk;split at hk
  · rename_i e
    injection hk with hk;subst hk
    cases hb:aCp av with
    | none=>simp[Sp,hb] at h
    | some b=>
      obtain⟨A,n,c,rfl,hA⟩:=Wt hb hx;simp only[Sp,hb,cond_false,aQg,Option.some.injEq] at h;subst h;have he:(Op.equal t (.slice A n c) (.slice none 0 0)).run P w=.ok b w:=by
        rw[<- hA];exact D9 9999 ht
      cases neg
      · exact⟨_,by simp[eqGuard,Go.binOp,he,Act.eval],bO rfl⟩
      · exact⟨_,by simp[eqGuard,Go.binOp,he,Act.eval],bO rfl⟩
  · rename_i e
    injection hk with hk;subst hk
    cases hb:aCq av with
    | none=>simp[Sp,hb] at h
    | some b=>
      obtain⟨A,rfl,hA⟩:=Wu hb hx;simp only[Sp,hb,cond_true,aQg,Option.some.injEq] at h;subst h;have he:(Op.equal t (.pointer A) (.pointer none)).run P w=.ok b w:=by
        rw[<- hA];exact Ib 9999 ht
      cases neg
      · exact⟨_,by simp[eqGuard,Go.binOp,he,Act.eval],bO rfl⟩
      · exact⟨_,by simp[eqGuard,Go.binOp,he,Act.eval],bO rfl⟩
  · cases hk
theorem Aq{k:Int}:∀ (es:List (Int × Value)) (l:List MapEntry) (i:Nat),l.map (fun e=>(e.key,e.val))=es.map (fun p=>(Value.int .i64 p.1,p.2))->
    ∃ q,Instr.findNow (.int .i64) (.int .i64 k) l i=some q/\q.map (·.2)=tI es k
  | [],l,i,h=>by
    have:l=[]:=by simpa using h
    subst this;exact⟨none,rfl,rfl⟩
  | (a,v)::es,l,i,h=>by
    cases l with
    | nil=>simp at h
    | cons e l=>
      simp only[aQo,List.cons.injEq,Prod.mk.injEq] at h;obtain⟨⟨h1,h2⟩,h3⟩:=h;obtain⟨q,hq,hm⟩:=Aq es l (i+1) h3;by_cases hk:a=k
      · subst hk
        refine⟨some (i,e.val), ?_,by simp[tI,h2]⟩;simp[Instr.findNow,Instr.sameNow,h1]
      · refine⟨q, ?_,by rw[hm,tI,if_neg hk]⟩
        have hne:(k==a)=false:=by simp;exact fun e=>hk e.symm
        simp[Instr.findNow,Instr.sameNow,h1,hne,hq]
theorem aG2{ok:Bool}{z:Value}{av bv v:AV}{x y:Value}{t kt et:TypeId}(hf:∀ b o,F b=some o->w.heap[b]?=some o)(h:H9 ok z av bv=some v)(hx:RV F γ av x)(hy:RV F γ bv y)
    (ht:P.underlying t=some (.map kt et)) (hk:P.underlying kt=some (.int .i64)) (hz:(P.info? et).bind (fun i=>i.zero)=some z) (hz1:is1 z=true):
    ∃ r,(Instr.lookup t x y ok).run P w=.ok r w/\RV F γ v r:=by
  unfold H9 at h;split at h
  · rename_i es k
    injection h with h;subst h
    cases hx with | one c _ hcc=>cases hcc with | mpc _ r clk ents hF he h1=>
    have hyv:=cY hy;subst hyv;have hr:=hf _ _ hF;obtain⟨q,hq,hm⟩:=Aq (k:=k) es ents.toList 0 he;obtain⟨i,hi1,hi2⟩:=aQX.1 hz;have hmem:∀ v,tI es k=some v->is1 v=true:=by
      clear he hq hm hF
      induction es with
      | nil=>intro v h;cases h
      | cons p es ih=>
        intro v h;obtain⟨a,u⟩:=p;rw[tI] at h;split at h
        · injection h with h;subst h;exact h1 _ aQt
        · exact ih (fun p hp=>h1 p (aQE _ hp)) v h
    have hgo:(getObj r).run P w=.ok (.map ents clk) w:=by simp[getObj,Sem.run,hr]
    have hck:(Instr.checkKey ents.isEmpty (9999+1) kt (.int .i64 k)).run P w=.ok () w:=by
      unfold Instr.checkKey;simp[run_underlying hk]
    have hfk:(Instr.findKey kt (.int .i64 k) ents.toList).run P w=.ok q w:=by
      simp[Instr.findKey,run_underlying hk,hq]
    rw[<- hm] at hmem ⊢;cases q with
    | none=>
      cases ok
      · exact⟨z,by simp[Instr.lookup,run_underlying ht,hgo,hck,hfk,zeroValue,typeInfo,hi1,hi2],bO hz1⟩
      · refine⟨.tuple #[z,.bool false],by simp[Instr.lookup,run_underlying ht,hgo,hck,hfk,zeroValue,typeInfo,hi1,hi2], ?_⟩
        refine .tup _ _ rfl (fun j t v h1 h2=>?_)
        match j,h1,h2 with
        | 0,h1,h2=>injection h1 with h1;simp at h2;subst h1;subst h2;exact .one _ _ (.dc _ _ (.raw _ hz1))
        | 1,h1,h2=>injection h1 with h1;simp at h2;subst h1;subst h2;exact .one _ _ (.dc _ _ (.raw _ rfl))
        | j+2,h1,h2=>simp at h1
    | some p=>
      have hv1:=hmem p.2 rfl;cases ok
      · exact⟨p.2,by simp[Instr.lookup,run_underlying ht,hgo,hck,hfk],bO hv1⟩
      · refine⟨.tuple #[p.2,.bool true],by simp[Instr.lookup,run_underlying ht,hgo,hck,hfk], ?_⟩
        refine .tup _ _ rfl (fun j t v h1 h2=>?_)
        match j,h1,h2 with
        | 0,h1,h2=>injection h1 with h1;simp at h2;subst h1;subst h2;exact .one _ _ (.dc _ _ (.raw _ hv1))
        | 1,h1,h2=>injection h1 with h1;simp at h2;subst h1;subst h2;exact .one _ _ (.dc _ _ (.raw _ rfl))
        | j+2,h1,h2=>simp at h1
  · cases h
theorem aG3{av bv v:AV}{x y:Value}(h:Wk av bv=some v)(hx:RV F γ av x)(hy:RV F γ bv y):∃ r,(Builtin.min2 x y).run P w=.ok r w/\RV F γ v r:=by
  unfold Wk at h;split at h
  · injection h with h;subst h
    rw[cY hx,cY hy];exact⟨_,by simp[Builtin.min2],bO rfl⟩
  · cases h
theorem aG4{av bv v:AV}{x y:Value}(h:Wl av bv=some v)(hx:RV F γ av x)(hy:RV F γ bv y):∃ r,(Builtin.max2 x y).run P w=.ok r w/\RV F γ v r:=by
  unfold Wl at h;split at h
  · injection h with h;subst h
    rw[cY hx,cY hy];exact⟨_,by simp[Builtin.max2],bO rfl⟩
  · cases h
def RCs(F:Fz)(γ:List OI)(cs:List aR)(vs:Array Value):Prop:=vs.size=cs.length/\∀ (i:Nat) c v,cs[i]?=some c->vs[i]?=some v->RC F γ c v
theorem RCs.raw{vs:List Value}(h:∀ v∈vs,is1 v=true):RCs F γ (vs.map cI) vs.toArray:=by
  refine⟨by simp,fun i c v hc hv=>?_⟩
  simp only[aQh,aRF] at hc hv;rw[hv] at hc;simp at hc;subst hc;exact .dc _ _ (.raw _ (h v (aQB hv)))
theorem RV.cells{av:AV}{x:Value}{cs:List aR}(hx:RV F γ av x)(h:cellsOf av=some cs):RCs F γ cs x.cells:=by
  unfold cellsOf at h;split at h
  · injection h with h;subst h
    cases hx with | one c v hc=>
    have h1:=hc.is1;have:x.cells=#[x]:=by cases x<;>first | rfl | (simp[is1] at h1)
    rw[this];refine⟨rfl,fun i c' v hc' hv=>?_⟩
    cases i with
    | zero=>simp at hc' hv;subst hc';subst hv;exact hc
    | succ i=>simp at hc'
  · injection h with h;subst h
    cases hx with | agg _ vs hs hr=>exact⟨hs,hr⟩
  · cases h
theorem RCs.put{cs vs:List aR}{as bs:Array Value}{off:Nat}(h:RCs F γ cs as)(h':RCs F γ vs bs)(hle:off+vs.length<=cs.length):
    RCs F γ (cN cs off vs) (bs.zipIdx.foldl (fun cs (c,j)=>cs.setIfInBounds (off+j) c) as):=by
  have key:∀ (l:List Value) (k:Nat) (as:Array Value) (i:Nat),(l.zipIdx k |>.foldl (fun (cs:Array Value) (c,j)=>cs.setIfInBounds (off+j) c) as).size=as.size/\
      (l.zipIdx k |>.foldl (fun (cs:Array Value) (c,j)=>cs.setIfInBounds (off+j) c) as)[i]?=if off+k<=i/\i < off+k+l.length/\i < as.size then l[i - (off+k)]? else as[i]?:=by
    intro l
    induction l with
    | nil=>intro k as i;simp;intro h1 h2;omega
    | cons x l ih=>
      intro k as i;simp only[List.zipIdx_cons,aRj];obtain⟨h1,h2⟩:=ih (k+1) (as.setIfInBounds (off+k) x) i;refine⟨by rw[h1];simp, ?_⟩;rw[h2];simp only[Array.size_setIfInBounds,aQd,Array.getElem?_setIfInBounds];by_cases c1:i=off+k
      · subst c1
        rw[if_neg (by omega)];by_cases c2:off+k < as.size
        · rw[if_pos (by omega),if_pos c2,if_pos (by omega)];simp
        · rw[if_pos (by omega),if_neg c2,if_neg (by omega)];simp[Array.getElem?_eq_none (Nat.le_of_not_lt c2)]
      · rw[if_neg (show ¬ off+k=i by omega)]
        by_cases c2:off+(k+1)<=i/\i < off+(k+1)+l.length/\i < as.size
        · rw[if_pos c2,if_pos (by omega)]
          rw[show i - (off+k)=(i - (off+(k+1)))+1 by omega];simp
        · rw[if_neg c2,if_neg (by omega)]
  have hk:=key bs.toList 0 as;rw[<- Array.foldl_toList,Array.toList_zipIdx];refine⟨?_,fun i c v hc hv=>?_⟩
  · rw[(hk 0).1,h.1]
    simp[cN];omega
  · rw[(hk i).2] at hv
    have hbs:=h'.1;simp only[cN] at hc;simp only[aRA,aQU] at hv;by_cases c1:i < off
    · rw[if_neg (by omega)] at hv
      rw[aQs,aQu (by simp;omega),aQG,if_pos c1] at hc;exact h.2 i c v hc hv
    · by_cases c2:i < off+vs.length
      · have hsz:i < as.size:=by rw[h.1];omega
        rw[if_pos ⟨by omega,by omega,hsz⟩] at hv;rw[aQs,aQA (by simp;omega),aQu (by simp;omega)] at hc;have e1:min off cs.length=off:=by omega
        simp only[aQj,e1] at hc;exact h'.2 _ c v hc (by simpa using hv)
      · rw[if_neg (by omega)] at hv
        rw[aQA (by simp;omega)] at hc;have e1:min off cs.length=off:=by omega
        simp only[aQc,aQj,e1,aQJ] at hc;rw[show off+vs.length+(i - (off+vs.length))=i by omega] at hc;exact h.2 i c v hc hv
theorem zL{place:Nat->Option (Nat × Nat)}:∀ (ps:List (Nat × Nat × AV)) (qs:List (Nat × Value)) (zero cs:List aR) (as:Array Value),RCs F γ zero as->iB zero ps=some cs->ps.length=qs.length->
    (∀ (i:Nat) o s av j x,ps[i]?=some (o,s,av)->qs[i]?=some (j,x)->place j=some (o,s)/\RV F γ av x)->∃ r,Instr.fill place as qs=some r/\RCs F γ cs r
  | [],qs,zero,cs,as,h,hf,hl,_=>by
    cases qs with
    | nil=>simp[iB] at hf;subst hf;exact⟨as,rfl,h⟩
    | cons _ _=>simp at hl
  | (o,s,av)::ps,qs,zero,cs,as,h,hf,hl,hp=>by
    cases qs with
    | nil=>simp at hl
    | cons q qs=>
      obtain⟨j,x⟩:=q;obtain⟨hpl,hx⟩:=hp 0 o s av j x rfl rfl;simp only[iB] at hf;cases hcl:cellsOf av with
      | none=>simp[hcl] at hf
      | some vs=>
        simp only[hcl,aQq] at hf;split at hf
        · rename_i hb
          obtain⟨hb1,hb2⟩:=hb;have hxc:=hx.cells hcl;have hput:=h.put hxc (off:=o) (by omega);obtain⟨r,hr1,hr2⟩:=zL ps qs _ cs _ hput hf (by simpa using hl) (fun i o s av j x h1 h2=>hp (i+1) o s av j x h1 h2)
          refine⟨r, ?_,hr2⟩;simp only[Instr.fill,hpl];have e1:x.cells.size=s:=by rw[hxc.1,hb1]
          have e2:=h.1;rw[if_neg (by simp[e1];omega)];exact hr1
        · cases hf
theorem uO:∀ (es:List (List DC)) (l:List UInt8),fH es=some l->∃ ns:List Int,es=ns.map (fun n=>[DC.raw (.int .u8 n)])/\l=ns.map (fun n=>UInt8.ofNat n.toNat)
  | [],l,h=>by simp[fH] at h;subst h;exact⟨[],rfl,rfl⟩
  | e0::es,l,h=>by
    match e0,h with
    | [.raw (.int .u8 n)],h=>
      simp only[fH] at h;cases hb:fH es with
      | none=>simp[hb] at h
      | some l'=>
        simp only[hb,aQg,Option.some.injEq] at h;subst h;obtain⟨ns,rfl,rfl⟩:=uO es l' hb;exact⟨n::ns,rfl,rfl⟩
theorem Ww(ns:List Int):∀ acc:ByteArray,ns.foldl (fun r n=>r.push (UInt8.ofNat n.toNat)) acc=⟨acc.data++(ns.map (fun n=>UInt8.ofNat n.toNat)).toArray⟩:=by
  induction ns with
  | nil=>intro acc;simp
  | cons n ns ih=>
    intro acc;simp only[aRj,ih];congr 1;apply Array.ext';simp[ByteArray.push]
theorem zM(a:Addr)(n c:Nat)(es:List (List DC))(l:List UInt8)(hb:fH es=some l)(hn:es.length=n)
    (hc:∀ (i:Nat) n,es[i]?=some [.raw (.int .u8 n)]->w.cell? (a.add i)=some (.int .u8 n)):
    (Conv.bytesToString (.slice (some a) n c)).run P w=.ok (.string ⟨l.toArray⟩) w:=by
  obtain⟨ns,rfl,rfl⟩:=uO es l hb;subst hn;have h1:=run_loadCells_list (P:=P) w a (ns.map (Value.int .u8)) (fun j v hv=>by
    simp only[aQh] at hv;cases hj:ns[j]? with
    | none=>simp[hj] at hv
    | some m=>
      simp[hj] at hv;subst hv;exact hc j m (by simp[hj]))
  simp only[aQb] at h1 ⊢;rw[run_bytesToString w a _ c ns h1,Ww];simp
theorem yD:∀ (cs:List aR) (l:List UInt8),jT cs=some l->∃ ns:List Int,cs=ns.map (fun n=>aR.dc (.raw (.int .u8 n)))/\fH (ns.map fun n=>[DC.raw (.int .u8 n)])=some l
  | [],l,h=>by simp[jT] at h;subst h;exact⟨[],rfl,rfl⟩
  | c0::cs,l,h=>by
    match c0,h with
    | .dc (.raw (.int .u8 n)),h=>
      simp only[jT] at h;cases hb:jT cs with
      | none=>simp[hb] at h
      | some l'=>
        simp only[hb,aQg,Option.some.injEq] at h;subst h;obtain⟨ns,rfl,h2⟩:=yD cs l' hb;exact⟨n::ns,rfl,by simp[fH,h2]⟩
theorem aCv{av v:AV}{x:Value}{s d e:TypeId}(h:mF hp av=some v)(hx:RV F γ av x)(hi:dB F γ hp w)(hs:P.underlying s=some (.slice e))(hd:P.underlying d=some .string)
    (he:P.underlying e=some (.int .u8)):∃ r,(convert s d x).run P w=.ok r w/\RV F γ v r:=by
  have hnil:∀ A c,(Conv.bytesToString (.slice A 0 c)).run P w=.ok (.string ⟨#[]⟩) w:=by
    intro A c;cases A with
    | none=>rfl
    | some a=>exact zM a 0 c [] [] rfl rfl (fun i n h=>by simp at h)
  have hcv:(∃ A n c,x=.slice A n c)->(convert s d x).run P w=(Conv.bytesToString x).run P w:=by
    rintro⟨A,n,c,rfl⟩;simp[convert,run_underlying hs,run_underlying hd,run_underlying he]
  unfold mF at h;split at h
  · rename_i es
    cases hb:fH es with
    | none=>simp[hb] at h
    | some l=>
      simp only[hb,aQg,Option.some.injEq] at h;subst h;cases hx with | one c v hc=>cases hc with | dc d v hdd=>cases hdd with
      | nil A c=>
        simp[fH] at hb;subst hb;exact⟨_,by rw[hcv ⟨_,_,_,rfl⟩,hnil],bO rfl⟩
      | slc b off c size es g hsz hr hcc hcap=>
        have key:∀ (i:Nat) (n:Int),es[i]?=some [.raw (.int .u8 n)]->w.cell? ((⟨b,off,none⟩:Addr).add i)=some (.int .u8 n):=by
         intro i n hin;have h1:size=1:=by have:=hsz _ (aQB hin);simpa using this.symm
         subst h1;have h2:=hcc i 0 _ _ hin rfl;have h3:=hr i 0 _ _ hin rfl;rw[dC];simp at h2;have h4:=Fz.cell_world hi.fz h2;rw[h4];generalize g i 0=y at h3;cases h3;rfl
        exact⟨_,by rw[hcv ⟨_,_,_,rfl⟩,zM _ _ _ es l hb rfl key],bO rfl⟩
  · injection h with h;subst h
    rw[cY hx] at hcv ⊢;exact⟨_,by rw[hcv ⟨_,_,_,rfl⟩];rfl,bO rfl⟩
  · rename_i id n
    split at h
    · rename_i cap s' es hb
      split at h
      · rename_i hne
        cases hbo:fH (es.take n) with
        | none=>simp[hbo] at h
        | some l=>
          simp only[hbo,aQg,Option.some.injEq] at h;subst h;cases hx with | one c v hc=>cases hc with
          | bldN _ cap' hgm=>
            simp[fH] at hbo;subst hbo;exact⟨_,by rw[hcv ⟨_,_,_,rfl⟩,hnil],bO rfl⟩
          | bld _ _ b cap' hgm=>
            obtain⟨hcc,hec,hes,vs,T,hh,hsz,hr⟩:=hi.arr hb hgm;have key:∀ (i:Nat) (m:Int),(es.take n)[i]?=some [.raw (.int .u8 m)]->w.cell? ((⟨b,0,none⟩:Addr).add i)=some (.int .u8 m):=by
             intro i m hin;have hin':es[i]?=some [.raw (.int .u8 m)]:=by
               rw[aQG] at hin;split at hin
               · exact hin
               · cases hin
             have h1:s'=1:=by have:=hes _ (aQB hin');simpa using this.symm
             subst h1;have hilt:=aG hin';have hlt2:i < vs.size:=by rw[hsz];omega
             have hv:vs[i]?=some (vs[i]'hlt2):=aQI hlt2;have h3:=hr i 0 _ _ _ hin' rfl (by rw[aQ4,aQU];exact hv);rw[dC,lG hh];simp only[aQQ];rw[hv];generalize vs[i]'hlt2=y at h3;cases h3;rfl
            exact⟨_,by rw[hcv ⟨_,_,_,rfl⟩,zM _ _ _ (es.take n) l hbo (by simp;omega) key],bO rfl⟩
      · cases h
    · cases h
  · rename_i id k0 n z
    split at h
    · rename_i cs hb
      split at h
      · rename_i hne
        obtain⟨rfl,hle⟩:=hne;cases hbo:jT ((cs.drop k0).take n) with
        | none=>simp[hbo] at h
        | some l=>
          simp only[hbo,aQg,Option.some.injEq] at h;subst h;obtain⟨ns,hns,hbs⟩:=yD _ _ hbo;cases hx with | one c v hc=>cases hc with
          | bls _ _ _ _ b cap' c off hgm ho hcn=>
            rcases hgm with hgm | hgm
            · exact absurd hgm (hi.noBox hb)
            · obtain⟨vs,T,hh,hsz,hr⟩:=hi.box hb hgm
              have hlen:ns.length=n:=by
                have:=congrArg List.length hns;simp only[aQj,aQr,aQb] at this;omega
              by_cases h0:n=0
              · subst h0
                have:ns=[]:=List.length_eq_zero_iff.1 hlen;subst this;simp[fH] at hbs;subst hbs;exact⟨_,by rw[hcv ⟨_,_,_,rfl⟩,hnil],bO rfl⟩
              · have ho':=ho h0
                have key:∀ (i:Nat) (m:Int),(ns.map fun n=>[DC.raw (.int .u8 n)])[i]?=some [.raw (.int .u8 m)]->w.cell? ((⟨b,off,none⟩:Addr).add i)=some (.int .u8 m):=by
                  intro i m hin;rw[aQh] at hin;obtain⟨q,hq,hqm⟩:=Option.map_eq_some_iff.1 hin;have hqm':q=m:=by simpa using hqm
                  subst hqm';have hc1:((cs.drop k0).take n)[i]?=some (.dc (.raw (.int .u8 q))):=by rw[hns,aQh,hq];rfl
                  rw[aQG] at hc1;split at hc1
                  · rw[aQJ] at hc1
                    have hlt:=aG hc1;have hv:vs[k0+i]?=some (vs[k0+i]'(by omega)):=aQI (by omega);have h3:=hr _ _ _ hc1 hv;rw[dC,lG hh,ho',aQ4,hv];generalize vs[k0+i]'(by omega)=y at h3;cases h3 with | dc _ _ h3=>cases h3;rfl
                  · cases hc1
                exact⟨_,by rw[hcv ⟨_,_,_,rfl⟩,zM _ _ _ _ l hbs (by simp[hlen]) key],bO rfl⟩
      · cases h
    · cases h
  · cases h
theorem O9{G:aH}{sl:List AV}{a:Act}(hs:bT F γ sl a)(hg:dY F G):∀ (caps:List Operand) (cs:List aR),
    ((caps.map aV).mapM fun c=>qV (aK G sl c))=some cs->
    cs.length=caps.length/\∀ (i:Nat) c x,cs[i]?=some c->caps[i]?=some x->RC F γ c (a.eval x)
  | [],cs,h=>by
    simp at h;subst h;exact⟨rfl,fun i c x h=>by simp at h⟩
  | o::caps,cs,h=>by
    rw[aQo,aQ2] at h;have hr:=cO (G:=G) hs hg o;cases he:qV (aK G sl (aV o)) with
    | none=>rw[he] at h;cases h
    | some c=>
      have hone:aK G sl (aV o)=.one c:=by
        generalize aK G sl (aV o)=av at he;cases av<;>simp[qV] at he;rw[he]
      rw[hone] at hr;rw[he] at h;cases hm:((caps.map aV).mapM fun c=>qV (aK G sl c)) with
      | none=>rw[hm] at h;cases h
      | some cs'=>
        rw[hm] at h;have h':c::cs'=cs:=by injection h
        subst h';obtain⟨h1,h2⟩:=O9 hs hg caps cs' hm;refine⟨by simp[h1],fun i c' x hc hx=>?_⟩
        cases i with
        | zero=>
          simp at hc hx;subst hc;subst hx;cases hr with | one c v h=>exact h
        | succ i=>exact h2 i c' x (by simpa using hc) (by simpa using hx)
theorem Ar{G:aH}{sl:List AV}{p:List (Nat × Nat) ⊕ Nat}:∀ (ps:List (Nat × Operand)) (l:List (Nat × Nat × aJ)),ps.mapM (mO p)=some l->
    l.length=ps.length/\∀ (i:Nat) o s av,(l.map fun (o,s,x)=>(o,s,aK G sl x))[i]?=some (o,s,av)->∃ j x,ps[i]?=some (j,x)/\nU p j=some (o,s)/\av=aK G sl (aV x)
  | [],l,h=>by simp at h;subst h;exact⟨rfl,fun i o s av h=>by simp at h⟩
  | (j,x)::ps,l,h=>by
    simp only[aQ2,mO] at h;cases hp:nU p j with
    | none=>simp[hp] at h
    | some q=>
      obtain⟨o,s⟩:=q;cases hm:ps.mapM (mO p) with
      | none=>simp[hp,hm] at h
      | some l'=>
        simp[hp,hm] at h;subst h;obtain⟨h1,h2⟩:=Ar (G:=G) (sl:=sl) ps l' hm;refine⟨by simp[h1],fun i o' s' av hi=>?_⟩
        cases i with
        | zero=>
          simp at hi;exact⟨j,x,rfl,by rw[hp,hi.1,hi.2.1],hi.2.2.symm⟩
        | succ i=>exact h2 i o' s' av (by simpa using hi)
theorem Wx{G:aH}{sl:List AV}{a:Act}(hs:bT F γ sl a)(hg:dY F G){t:TypeId}{p:List (Nat × Nat) ⊕ Nat}{inf:TypeInfo}{z:Value}{ps:Array (Nat × Operand)}{l:List (Nat × Nat × aJ)}{cs:List aR}
    (ht:zK P t=some p) (hin:P.info? t=some inf) (hz:inf.zero=some z) (hz1:z.cells.toList.all is1=true)
    (hm:ps.toList.mapM (mO p)=some l) (hf:iB (z.cells.toList.map cI) (l.map fun (o,s,x)=>(o,s,aK G sl x))=some cs):
    ∃ r,(Instr.build t (ps.map fun (i,x)=>(i,a.eval x))).run P w=.ok r w/\RV F γ (.agg cs) r:=by
  obtain⟨h1,h2⟩:=Ar (G:=G) (sl:=sl) ps.toList l hm;have hzr:RCs F γ (z.cells.toList.map cI) z.cells:=by
    have:=RCs.raw (F:=F) (γ:=γ) (vs:=z.cells.toList) (fun v hv=>aRl.1 hz1 v hv)
    simpa using this
  obtain⟨r,hr1,hr2⟩:=zL (place:=nU p) (l.map fun (o,s,x)=>(o,s,aK G sl x)) (ps.toList.map fun (i,x)=>(i,a.eval x)) _ cs z.cells hzr hf (by simp at h1 ⊢;exact h1) (fun i o s av j x hi hj=>by
    obtain⟨j',x',h3,h4,h5⟩:=h2 i o s av hi;simp only[aQh,h3,aQg,Option.some.injEq,Prod.mk.injEq] at hj;obtain⟨rfl,rfl⟩:=hj;exact⟨h4,h5 ▸ cO hs hg x'⟩)
  refine⟨.agg r, ?_,.agg _ _ hr2.1 hr2.2⟩;refine run_build w t _ r ?_;unfold zK at ht;unfold Program.built;split at ht
  · rename_i fs hu
    cases hpl:fs.toList.mapM (fun f=>(P.info? f.type).map fun i=>(f.offset,i.size)) with
    | none=>simp[hpl] at ht
    | some pl=>
      simp only[hpl,aQg,Option.some.injEq] at ht;subst ht;simp only[hin,hu,hz,hpl];have e:(fun x=>pl.toArray[x]?)=nU (.inl pl):=by funext x;simp[nU]
      rw[e];simpa using hr1
  · rename_i n e hu
    cases hie:P.info? e with
    | none=>simp[hie] at ht
    | some ie=>
      simp only[hie,aQg,Option.some.injEq] at ht;subst ht;simp only[hin,hu,hz,hie];have e:(fun i=>some (i * ie.size,ie.size))=nU (.inr ie.size):=by funext x;simp[nU]
      rw[e];simpa using hr1
  · cases ht
theorem wW{G:aH}{sl:List AV}{a:Act}(hs:bT F γ sl a)(hg:dY F G)(x:Option Operand):RO F γ ((x.map aV).map (aK G sl)) (x.map a.eval):=by
  cases x with
  | none=>trivial
  | some x=>exact cO hs hg x
theorem Sq{F:Fz}{γ:List OI}{c:aR}{x:Value}(h:RV F γ (.one c) x):RC F γ c x:=by cases h with | one c v h=>exact h
theorem Wy{G:aH}{as:AS}{P:Program}{args:Array Operand}{ts:Array TypeId}{ai:AI}
    (hc:(match ts.toList,args.toList with
    | [t,u],[s,x]=>
      match P.underlying t,P.underlying u with
      | some (.slice e),some (.slice e')=>
        if e=e' then (P.info? e).bind fun i=>i.zero.bind fun z=>if z.cells.size=i.size/\0 < i.bytes then some (AI.app i.size i.bytes z.cells.toList (aV s) (aV x)) else none else none
      | some (.slice e),some .string=>if P.underlying e matches some (.int .u8) then (P.info? e).bind fun i=>i.zero.bind fun z=>if i.size=1/\i.bytes=1/\z.cells.size=1 then some (AI.apps (aV s) (aV x)) else none else none
      | _,_=>none
    | _,_=>none)=some ai):cT G as ai=none:=by
  repeat' (first | (obtain⟨_,_,hc⟩:=hc) | split at hc | (simp only[aQX,Option.map_eq_some_iff] at hc))
  all_goals first | (cases hc;done) | (injection hc with hc;subst hc;rfl) | (subst hc;rfl) | rfl
theorem Wz{G:aH}{as:AS}{a:Act}{o:Oper}{ai:AI}{v:AV}(hc:bB P o=some ai)(he:cT G as ai=some v)(hi:dB F γ as.hp w)(hs:bT F γ as.sl a)(hg:dY F G):
    ∃ x,(execOp a.eval o).run P w=.ok (.value x) w/\RV F γ v x:=by
  have lift:∀ (s:Sem Value),(∃ r,s.run P w=.ok r w/\RV F γ v r)->∃ x,((do pure (Next.value (<- s))):Sem Next).run P w=.ok (.value x) w/\RV F γ v x:=by
    rintro s ⟨r,h1,h2⟩;exact⟨r,by simp[h1],h2⟩
  have ra:=fun x=>cO (G:=G) hs hg x
  obtain⟨dst,op,type,pos,after,guard⟩:=o;unfold bB at hc;cases op<;>simp only[reduceCtorEq] at hc
  case move x=>
    injection hc with hc;subst hc
    simp only[cT,Option.some.injEq] at he;subst he;exact⟨_,rfl,ra x⟩
  case assign x=>
    injection hc with hc;subst hc
    simp only[cT,Option.some.injEq] at he;subst he;exact⟨_,rfl,ra x⟩
  case pick c x y=>
    injection hc with hc;subst hc
    simp only[cT,uN] at he;split at he
    · rename_i b hb
      injection he with he;subst he
      have:=Fm (ra c) hb;refine⟨if b then a.eval x else a.eval y, ?_, ?_⟩
      · simp[execOp,this,asBool]
      · cases b
        · exact ra y
        · exact ra x
    · cases he
  case alloc e=>cases h1:P.info? e with
    | none=>simp[h1] at hc
    | some i=>cases h2:i.zero with
      | none=>simp[h1,h2] at hc
      | some z=>
        simp only[h1,h2,aQq] at hc;split at hc
        · injection hc with hc;subst hc;simp[cT] at he
        · cases hc
  case box e x=>injection hc with hc;subst hc;simp[cT] at he
  case load t x=>
    cases h1:Dp P t with
    | none=>simp[h1] at hc
    | some g=>cases h2:dR P t with
      | none=>simp[h1,h2] at hc
      | some s=>
        simp only[h1,h2,aQq,aQg,Option.some.injEq] at hc;subst hc;exact lift _ (O6 he hi (ra x) h1 h2 rfl)
  case store t x y=>cases h2:dR P t with
      | none=>simp[h2] at hc
      | some s=>simp only[h2,aQg,Option.some.injEq] at hc;subst hc;simp[cT] at he
  case nilCheck x=>
    injection hc with hc;subst hc
    obtain⟨hv,ad,hx⟩:=O7 he (ra x);refine⟨a.eval x, ?_,hv⟩;simp[execOp,hx]
  case binOp op t x y u=>
    unfold nA at hc;split at hc
    · rename_i hu
      cases op<;>simp only[reduceCtorEq] at hc
      · injection hc with hc;subst hc
        exact lift _ (O8 (neg:=false) he (ra x) (ra y) hu)
      · injection hc with hc;subst hc
        exact lift _ (O8 (neg:=true) he (ra x) (ra y) hu)
    · injection hc with hc;subst hc
      exact lift _ (Wq he (ra x) (ra y))
    · injection hc with hc;subst hc
      exact lift _ (Wq he (ra x) (ra y))
    · rename_i fs hu
      split at hc
      · rename_i hq
        cases op<;>simp only[reduceCtorEq] at hc
        · cases hf:oD P fs.toList 0 with
          | none=>simp[hf] at hc
          | some ks=>
            simp only[hf,aQg,Option.some.injEq] at hc;subst hc;exact lift _ (Wr (neg:=false) he (ra x) (ra y) hu hf hq.1 hq.2)
        · cases hf:oD P fs.toList 0 with
          | none=>simp[hf] at hc
          | some ks=>
            simp only[hf,aQg,Option.some.injEq] at hc;subst hc;exact lift _ (Wr (neg:=true) he (ra x) (ra y) hu hf hq.1 hq.2)
      · cases hc
    · rename_i d _ _ _ _ hu
      unfold lF at hc;split at hc
      · cases hk:Ia d y with
        | none=>simp[hk] at hc
        | some p=>
          simp only[hk,aQg,Option.some.injEq] at hc;subst hc;exact lift _ (Wv (neg:=false) he (ra x) hu hk)
      · cases hk:Ia d y with
        | none=>simp[hk] at hc
        | some p=>
          simp only[hk,aQg,Option.some.injEq] at hc;subst hc;exact lift _ (Wv (neg:=true) he (ra x) hu hk)
      · cases hc
    · cases hc
  case unOp op t x=>
    injection hc with hc;subst hc
    exact lift _ (aKx he (ra x))
  case convert s d x=>
    unfold lU at hc;split at hc
    · rename_i k1 k h1 h2
      injection hc with hc;subst hc
      simp only[cT] at he;cases hn:bP (aK G as.sl (aV x)) with
      | none=>simp[hn] at he
      | some n=>
        simp only[hn,aQg,Option.some.injEq] at he;subst he;exact lift _ (aCs hn (ra x) h1 h2)
    · rename_i h1 h2
      injection hc with hc;subst hc
      simp only[cT] at he;cases hn:cS (aK G as.sl (aV x)) with
      | none=>simp[hn] at he
      | some n=>
        simp only[hn,aQg,Option.some.injEq] at he;subst he;exact lift _ (aCt hn (ra x) h1 h2)
    · rename_i e h1 h2
      split at hc
      · rename_i h3
        injection hc with hc;subst hc
        exact lift _ (aCv he (ra x) hi h1 h2 h3)
      · cases hc
    · rename_i e h1 h2
      split at hc
      · injection hc with hc;subst hc;simp[cT] at he
      · cases hc
    · cases hc
  case fieldAddr s x f=>
    cases h1:qW P s f with
    | none=>simp[h1] at hc
    | some fl=>cases h2:dR P fl.type with
      | none=>simp[h1,h2] at hc
      | some n=>
        simp only[h1,h2,aQq] at hc;split at hc
        · cases hc
        · rename_i hn
          injection hc with hc;subst hc
          obtain⟨b,off,hx,hv⟩:=Ao he (ra x);unfold qW at h1;split at h1
          · rename_i fs hu
            unfold dR at h2;cases hin:P.info? fl.type with
            | none=>simp[hin] at h2
            | some inf=>
              simp only[hin,aQg,Option.some.injEq] at h2;refine lift _ ⟨_, ?_,hv⟩;simp[Instr.fieldAt,hx,run_underlying hu,h1,Instr.sureAddr,fieldPlace,sizeOf,typeInfo,hin,h2,hn,dC]
          · cases h1
  case field s x f=>
    cases h1:qW P s f with
    | none=>simp[h1] at hc
    | some fl=>cases h2:Dp P fl.type with
      | none=>simp[h1,h2] at hc
      | some g=>cases h3:dR P fl.type with
        | none=>simp[h1,h2,h3] at hc
        | some n=>
          simp only[h1,h2,h3,aQq,aQg,Option.some.injEq] at hc;subst hc;obtain⟨y,cs,hx,hr,hv⟩:=aGV (P:=P) (w:=w) he (ra x) h2 h3 rfl;unfold qW at h1;split at h1
          · rename_i fs hu
            refine lift _ ⟨y, ?_,hv⟩;simp[Instr.field,hx,run_underlying hu,h1,asAgg,hr]
          · cases h1
  case indexAddr t x i=>
    split at hc
    · rename_i n e hu
      cases h1:dR P e with
      | none=>simp[h1] at hc
      | some s=>
        simp only[h1,aQg,Option.some.injEq] at hc;subst hc;simp only[cT] at he;cases hn:bP (aK G as.sl (aV i)) with
        | none=>simp[hn] at he
        | some k=>simp only[hn,aQq] at he;exact lift _ (aGW hn (ra i) he (ra x) hu h1)
    · rename_i e hu
      cases h1:dR P e with
      | none=>simp[h1] at hc
      | some s=>
        simp only[h1,aQg,Option.some.injEq] at hc;subst hc;simp only[cT] at he;cases hn:bP (aK G as.sl (aV i)) with
        | none=>simp[hn] at he
        | some k=>simp only[hn,aQq] at he;exact lift _ (aGX hn (ra i) he (ra x) hi hu h1)
    · cases hc
  case index t x i=>
    split at hc
    · rename_i h3
      injection hc with hc;subst hc
      simp only[cT] at he;cases hn:bP (aK G as.sl (aV i)) with
      | none=>simp[hn] at he
      | some k=>simp only[hn,aQq] at he;exact lift _ (aGY hn (ra i) he (ra x) h3)
    · cases hc
  case slice t x lo hi' mx=>
    cases mx with
    | some m=>simp only[reduceCtorEq] at hc
    | none=>
      simp only at hc;split at hc
      · rename_i hu
        injection hc with hc;subst hc
        exact lift _ (aGZ (wW hs hg lo) (wW hs hg hi') he (ra x) hu)
      · rename_i e hu
        cases h1:dR P e with
        | none=>simp[h1] at hc
        | some s=>
          simp only[h1,aQg,Option.some.injEq] at hc;subst hc;exact lift _ (aG0 (wW hs hg lo) (wW hs hg hi') he (ra x) hi hu h1)
      · rename_i n e hu
        cases h1:dR P e with
        | none=>simp[h1] at hc
        | some s=>
          simp only[h1,aQq] at hc;split at hc
          · cases hc
          · rename_i h0
            injection hc with hc;subst hc
            exact lift _ (aG1 (wW hs hg lo) (wW hs hg hi') he (ra x) hu h1 h0)
      · cases hc
  case lookup t x ix ok=>
    split at hc
    · rename_i kt et hu
      split at hc
      · rename_i hk
        cases hz:(P.info? et).bind fun i=>i.zero with
        | none=>rw[hz] at hc;cases hc
        | some z=>
          rw[hz] at hc;simp only[aQq,if_true] at hc;split at hc
          · rename_i hz1
            injection hc with hc;subst hc
            exact lift _ (aG2 hi.fz he (ra x) (ra ix) hu hk hz hz1)
          · cases hc
      · simp at hc
    · cases hc
  case build t ps=>
    cases h1:zK P t with
    | none=>simp[h1] at hc
    | some p=>cases h2:P.info? t with
      | none=>simp[h1,h2] at hc
      | some i=>cases h3:i.zero with
        | none=>simp[h1,h2,h3] at hc
        | some z=>
          simp only[h1,h2,h3,aQq] at hc;split at hc
          · rename_i hz1
            cases h4:ps.toList.mapM (mO p) with
            | none=>simp[h4] at hc
            | some l=>
              simp only[h4,aQg,Option.some.injEq] at hc;subst hc;simp only[cT] at he;cases h5:iB (z.cells.toList.map cI) (l.map fun (o,s,x)=>(o,s,aK G as.sl x)) with
              | none=>simp[h5] at he
              | some cs=>
                simp only[h5,aQg,Option.some.injEq] at he;subst he;exact lift _ (Wx hs hg h1 h2 h3 hz1 h4 h5)
          · cases hc
  case buildSlice t len ps=>
    split at hc
    · rename_i e hu
      cases h1:P.info? e with
      | none=>simp[h1] at hc
      | some i=>cases h2:i.zero with
        | none=>simp[h1,h2] at hc
        | some z=>
          simp only[h1,h2,aQq] at hc;split at hc
          · injection hc with hc;subst hc;simp[cT] at he
          · cases hc
    · cases hc
  case makeSlice t l c=>
    split at hc
    · rename_i e hu
      cases h1:P.info? e with
      | none=>simp[h1] at hc
      | some i=>cases h2:i.zero with
        | none=>simp[h1,h2] at hc
        | some z=>
          simp only[h1,h2,aQq] at hc;split at hc
          · injection hc with hc;subst hc;simp[cT] at he
          · cases hc
    · cases hc
  case extract x n=>
    injection hc with hc;subst hc
    exact lift _ (Ws he (ra x))
  case makeFunc fn first caps=>
    cases fn<;>simp only[reduceCtorEq] at hc
    · rename_i f
      split at hc
      · rename_i hfe
        injection hc with hc;subst hc
        simp only[cT] at he;cases h5:((caps.toList.map aV).mapM fun c=>qV (aK G as.sl c):Option (List aR)) with
        | none=>rw[h5] at he;simp at he
        | some cs=>
          rw[h5] at he;simp only[aQg,Option.some.injEq] at he;subst he;obtain⟨hl,hr⟩:=O9 hs hg caps.toList cs h5;have hf0:first=#[]:=by simpa using hfe
          subst hf0;refine lift _ ⟨.func (.func f) #[] (caps.map a.eval),by simp[Instr.makeFunc],.one _ _ ?_⟩;have e:caps.map a.eval=((List.range cs.length).map fun i=>(caps.map a.eval).toList.getD i undef).toArray:=by
            apply Array.ext';apply aRB;intro j;simp only[aQh,Array.toList_map,aRF];by_cases hj:j < caps.size
            · have hj2:j < cs.length:=by rw[hl];simpa using hj
              simp[hj,hj2]
            · have hj2:¬ j < cs.length:=by rw[hl];simpa using hj
              simp[hj,hj2]
          rw[e];refine .fn f cs _ (fun i c hci=>?_)
          have hilt:i < caps.size:=by have:=aG hci;rw[hl] at this;simpa using this
          have:=hr i c (caps[i]'hilt) hci (by simp[hilt]);simpa[hilt] using this
      · cases hc
  case call c=>
    obtain⟨callee,args,argTypes⟩:=c;unfold eL at hc;cases callee<;>simp only[reduceCtorEq] at hc
    case value f=>
      cases f<;>simp only[reduceCtorEq] at hc
      · injection hc with hc;subst hc;simp[cT] at he
      · split at hc
        · split at hc
          · cases hc
          · injection hc with hc;subst hc;simp[cT] at he
        · cases hc
    case builtin b=>
      cases b<;>simp only[reduceCtorEq] at hc
      case append=>
        exfalso;have h0:=Wy (G:=G) (as:=as) hc;rw[h0] at he;cases he
      case copy=>
        split at hc
        · split at hc
          · split at hc
            · injection hc with hc;subst hc;simp[cT] at he
            · cases hc
          · cases hc
        · cases hc
      case clear=>
        split at hc
        · rename_i t x ht hx
          split at hc
          · rename_i e hu
            cases h1:P.info? e with
            | none=>simp[h1] at hc
            | some i=>cases h2:i.zero with
              | none=>simp[h1,h2] at hc
              | some z=>
                simp only[h1,h2,aQq] at hc;split at hc
                · injection hc with hc;subst hc;simp[cT] at he
                · cases hc
          · cases hc
        · cases hc
      case len=>
        split at hc
        · rename_i t x ht hx
          have hax:(args.map a.eval)[0]?=some (a.eval x):=by simp[hx]
          split at hc
          · rename_i hu
            injection hc with hc;subst hc
            simp only[cT] at he;cases hn:cS (aK G as.sl (aV x)) with
            | none=>simp[hn] at he
            | some s=>
              simp only[hn,aQg,Option.some.injEq] at he;subst he;have:=qX (ra x) hn;exact⟨.int .i64 s.size,by simp[execOp,resolve,invoke,builtin,Builtin.len_,ht,hx,run_underlying hu,this,goInt],bO rfl⟩
          · rename_i e hu
            injection hc with hc;subst hc
            obtain⟨r,h1,h2⟩:=aCu (P:=P) (w:=w) (ty:=type) he (ra x) hu argTypes ht (args.map a.eval) hax;exact⟨r,by simp[execOp,resolve,invoke,builtin,h1],h2⟩
          · rename_i n e hu
            injection hc with hc;subst hc
            simp only[cT,Option.some.injEq] at he;subst he;exact⟨.int .i64 n,by simp[execOp,resolve,invoke,builtin,Builtin.len_,ht,hx,run_underlying hu,goInt],bO rfl⟩
          · rename_i e hu
            split at hc
            · rename_i n e2 hu2
              injection hc with hc;subst hc
              simp only[cT,Option.some.injEq] at he;subst he;exact⟨.int .i64 n,by simp[execOp,resolve,invoke,builtin,Builtin.len_,ht,hx,run_underlying hu,run_underlying hu2,goInt],bO rfl⟩
            · cases hc
          · cases hc
        · cases hc
      case min=>
        split at hc
        · rename_i x y hxy
          injection hc with hc;subst hc
          obtain⟨r,h1,h2⟩:=aG3 (P:=P) (w:=w) he (ra x) (ra y);have:(args.map a.eval).toList=[a.eval x,a.eval y]:=by simp[hxy]
          exact⟨r,by simp[execOp,resolve,invoke,builtin,Builtin.min_,this,hxy,h1],h2⟩
        · cases hc
      case max=>
        split at hc
        · rename_i x y hxy
          injection hc with hc;subst hc
          obtain⟨r,h1,h2⟩:=aG4 (P:=P) (w:=w) he (ra x) (ra y);have:(args.map a.eval).toList=[a.eval x,a.eval y]:=by simp[hxy]
          exact⟨r,by simp[execOp,resolve,invoke,builtin,Builtin.max_,this,hxy,h1],h2⟩
        · cases hc
end
end
section
section
variable {P:Program} {F F':Fz} {γ γ':List OI} {w w':World} {hp:List aC} {p:Nat->Bool}
theorem OK.kill{o:aC}{x:OI}(h:OK F γ w o x)(hs:F.sub F')(hg:∀ (id:Nat) (o:OI),p id=false->γ[id]?=some o->γ'[id]?=some o)
    (hb:∀ b,x.blk=some b->w'.heap[b]?=w.heap[b]?):OK F' γ' w' (cJ p o) x:=by
  cases o with
  | box cs=>
    cases x with
    | box b=>
      obtain⟨vs,T,h1,h2,h3⟩:=h;exact⟨vs,T,h1.of (hb b rfl),by simpa using h2,RCs.kill hs hg h3⟩
    | arr b c=>exact h.elim
    | dead=>exact h.elim
  | arr cap size es=>
    cases x with
    | box b=>exact h.elim
    | arr b c=>
      cases b with
      | none=>exact h
      | some b=>
        obtain⟨h1,h2,h3,vs,T,h4,h5,h6⟩:=h;exact⟨h1,h2,h3,vs,T,h4.of (hb b rfl),h5,fun i j e d v a1 a2 a3=>(h6 i j e d v a1 a2 a3).mono hs⟩
    | dead=>exact h.elim
  | dead=>
    cases x with
    | dead=>trivial
    | box b=>exact h.elim
    | arr b c=>exact h.elim
theorem OK.ext{o:aC}{x:OI}(h:OK F γ w o x)(hs:F.sub F')(hg:∀ (id:Nat) (o:OI),γ[id]?=some o->γ'[id]?=some o)
    (hb:∀ b,x.blk=some b->w'.heap[b]?=w.heap[b]?):OK F' γ' w' o x:=by
  cases o with
  | box cs=>
    cases x with
    | box b=>
      obtain⟨vs,T,h1,h2,h3⟩:=h;exact⟨vs,T,h1.of (hb b rfl),h2,fun i c v a b=>(h3 i c v a b).ext hs hg⟩
    | arr b c=>exact h.elim
    | dead=>exact h.elim
  | arr cap size es=>
    cases x with
    | box b=>exact h.elim
    | arr b c=>
      cases b with
      | none=>exact h
      | some b=>
        obtain⟨h1,h2,h3,vs,T,h4,h5,h6⟩:=h;exact⟨h1,h2,h3,vs,T,h4.of (hb b rfl),h5,fun i j e d v a1 a2 a3=>(h6 i j e d v a1 a2 a3).mono hs⟩
    | dead=>exact h.elim
  | dead=>
    cases x with
    | dead=>trivial
    | box b=>exact h.elim
    | arr b c=>exact h.elim
theorem H5.lt{w:World}{b:Nat}{vs:Array Value}{T:TypeId}(h:H5 w b vs T):b < w.heap.size:=by
  obtain⟨_,h,_⟩:=h;exact (Array.getElem?_eq_some_iff.1 h).1
theorem Fn{b:Nat}{o:Obj}(h:w.heap[b]?=some o):b < w.heap.size:=(Array.getElem?_eq_some_iff.1 h).1
theorem OK.lt{o:aC}{x:OI}(h:OK F γ w o x){b:Nat}(hb:x.blk=some b):b < w.heap.size:=by
  cases x with
  | dead=>simp[OI.blk] at hb
  | box b'=>
    simp[OI.blk] at hb;subst hb;cases o with
    | box cs=>obtain⟨vs,T,⟨_,h1,_⟩,_⟩:=h;exact Fn h1
    | arr _ _ _=>exact h.elim
    | dead=>exact h.elim
  | arr b' c=>
    simp[OI.blk] at hb;subst hb;cases o with
    | arr cap size es=>obtain⟨_,_,_,vs,T,⟨_,h1,_⟩,_⟩:=h;exact Fn h1
    | box _=>exact h.elim
    | dead=>exact h.elim
theorem cL{i b:Nat}(h:cB γ i=some b):∃ x,γ[i]?=some x/\x.blk=some b:=by
  unfold cB at h;cases hx:γ[i]? with
  | none=>simp[hx] at h
  | some x=>simp[hx] at h;exact⟨x,rfl,h⟩
theorem bL{i b:Nat}{x:OI}(h:γ[i]?=some x)(hb:x.blk=some b):cB γ i=some b:=by simp[cB,h,hb]
theorem dB.lt(hi:dB F γ hp w){i b:Nat}(hb:cB γ i=some b):b < w.heap.size:=by
  obtain⟨x,hx,hxb⟩:=cL hb;have hlt:i < hp.length:=by rw[<- hi.len];exact aG hx
  exact (hi.ok i _ x (aQi hlt) hx).lt hxb
theorem dB.fzlt(hi:dB F γ hp w){b:Nat}{o:Obj}(h:F b=some o):b < w.heap.size:=Fn (hi.fz b o h)
theorem dB.drawn(hi:dB F γ hp w)(n:Nat):dB F γ hp { w with drawn:=n }:=
  ⟨hi.fz,hi.len,hi.nd,hi.disj,fun i o x h1 h2=>(hi.ok i o x h1 h2).ext (fun _ _ h=>h) (fun _ _ h=>h) (fun _ _=>rfl)⟩
theorem gP.drawn(k:Nat)(F:Fz)(γ:List OI)(w:World)(n:Nat):gP k F γ w F γ { w with drawn:=n }:=
  ⟨fun _ _ h=>h,rfl,rfl,rfl,aQf _,fun _ _ _=>rfl,fun _ _ h=>.inl h,fun i _ h=>.inl ⟨i,h⟩,fun _ _ _ h=>h⟩
def eO(w:World)(o:Obj):World:={ w with heap:=w.heap.push o }
theorem nB{o:Obj}{b:Nat}(h:b < w.heap.size):(eO w o).heap[b]?=w.heap[b]?:=by
  show (w.heap.push o)[b]?=_;rw[Array.getElem?_push,if_neg (Nat.ne_of_lt h)]
theorem NF0(n:Nat):NF (0,0) n:=fun o _ h=>by omega
theorem Ic{o:Obj}:(eO w o).heap[w.heap.size]?=some o:=by
  show (w.heap.push o)[w.heap.size]?=_;rw[Array.getElem?_push,if_pos rfl]
theorem uP{vs:Array Value}{T:TypeId}:H5 (eO w (.cells vs T)) w.heap.size vs T:=⟨_,Ic,NF0 _⟩
theorem bN{α:Type}{l r:List α}{i:Nat}{x:α}(h:l[i]?=some x):(l++r)[i]?=some x:=by
  rw[aQu (aG h)];exact h
theorem gR{α:Type}{l:List α}{y x:α}{i:Nat}(h:(l++[y])[i]?=some x):l[i]?=some x\/(i=l.length/\x=y):=by
  rcases Nat.lt_trichotomy i l.length with h1 | h1 | h1
  · rw[aQu h1] at h;exact .inl h
  · subst h1;simp at h;exact .inr ⟨rfl,h.symm⟩
  · rw[aQ7 (by simp;omega)] at h;cases h
theorem dB.pushG{w':World}(hi:dB F γ hp w)(hold:∀ b,b < w.heap.size->w'.heap[b]?=w.heap[b]?)(o:aC)(x:OI)(hx:∀ b,x.blk=some b->b=w.heap.size)(hok:OK F (γ++[x]) w' o x):
    dB F (γ++[x]) (hp++[o]) w':=by
  have hb:∀ i b,cB (γ++[x]) i=some b->cB γ i=some b\/(i=γ.length/\b=w.heap.size):=by
    intro i b h;obtain⟨y,hy,hyb⟩:=cL h;rcases gR hy with h1 | ⟨h1,rfl⟩
    · exact .inl (bL h1 hyb)
    · exact .inr ⟨h1,hx b hyb⟩
  refine⟨fun b o' h=>by rw[hold _ (hi.fzlt h)];exact hi.fz b o' h,by simp[hi.len], ?_, ?_, ?_⟩
  · intro i j b h1 h2
    rcases hb i b h1 with h1 | ⟨h1,h1'⟩<;>rcases hb j b h2 with h2 | ⟨h2,h2'⟩
    · exact hi.nd i j b h1 h2
    · have:=hi.lt h1;omega
    · have:=hi.lt h2;omega
    · omega
  · intro i b h
    rcases hb i b h with h | ⟨_,h⟩
    · exact hi.disj i b h
    · cases hF:F b with
      | none=>rfl
      | some o'=>have:=hi.fzlt hF;omega
  · intro i o' y h1 h2
    rcases gR h2 with h3 | ⟨h3,rfl⟩
    · have hlt:i < hp.length:=by rw[<- hi.len];exact aG h3
      rw[aQu hlt] at h1;refine (hi.ok i o' y h1 h3).ext (fun _ _ h=>h) (fun _ _ h=>bN h) (fun b hyb=>?_)
      exact hold _ ((hi.ok i o' y h1 h3).lt hyb)
    · rw[h3,hi.len] at h1
      simp at h1;subst h1;exact hok
theorem dB.push(hi:dB F γ hp w)(ob:Obj)(o:aC)(x:OI)(hx:∀ b,x.blk=some b->b=w.heap.size)(hok:OK F (γ++[x]) (eO w ob) o x):
    dB F (γ++[x]) (hp++[o]) (eO w ob):=hi.pushG (fun _ hb=>nB hb) o x hx hok
theorem gP.push{k:Nat}(hi:dB F γ hp w)(ob:Obj)(x:OI)(hx:∀ b,x.blk=some b->b=w.heap.size):gP k F γ w F (γ++[x]) (eO w ob):=by
  refine⟨fun _ _ h=>h,rfl,rfl,rfl,by simp[eO],fun b hb _=>nB hb,fun _ _ h=>.inl h,fun i b h=>?_,fun i _ b h=>bN h⟩
  obtain⟨y,hy,hyb⟩:=cL h;rcases gR hy with h1 | ⟨h1,rfl⟩
  · exact .inl ⟨i,bL h1 hyb⟩
  · exact .inr (by rw[hx b hyb];exact aQf _)
def Pa(vs:Array Value)(T:TypeId):Obj->Obj
  | .cells _ _ fz=>.cells vs T fz
  | _=>.cells vs T (0,0)
def setB(w:World)(b:Nat)(vs:Array Value)(T:TypeId):World:={ w with heap:=w.heap.modify b (Pa vs T) }
theorem aCw{b:Nat}{vs us:Array Value}{T U:TypeId}{fz:Nat × Nat}(h:w.heap[b]?=some (.cells us U fz)):(setB w b vs T).heap[b]?=some (.cells vs T fz):=by
  simp[setB,aRC,h,Pa]
theorem kB{b:Nat}{vs us:Array Value}{T U:TypeId}(h:H5 w b us U)(hs:vs.size=us.size):H5 (setB w b vs T) b vs T:=by
  obtain⟨fz,h,hn⟩:=h;exact⟨fz,aCw h,by rw[hs];exact hn⟩
theorem uQ{b b':Nat}{vs:Array Value}{T:TypeId}(h:b'≠b):(setB w b vs T).heap[b']?=w.heap[b']?:=by
  simp[setB,aRC,Ne.symm h]
theorem Sr{b:Nat}{vs vs':Array Value}{T T':TypeId}:setB (setB w b vs T) b vs' T'=setB w b vs' T':=by
  simp only[setB];congr 1;apply Array.ext_getElem?;intro i;simp only[aRC];split
  · cases w.heap[i]? with
    | none=>rfl
    | some o=>cases o<;>rfl
  · rfl
theorem Fo{b j:Nat}{vs:Array Value}{T:TypeId}{v:Value}(h:H5 w b vs T):w.setCell ⟨b,j,none⟩ v=setB w b (vs.setIfInBounds j v) T:=by
  obtain⟨fz,h,_⟩:=h;simp only[World.setCell,setB];congr 1;apply Array.ext_getElem?;intro i;rw[aRC,aRC];by_cases hi:b=i
  · subst hi
    rw[if_pos rfl,if_pos rfl,h];rfl
  · simp[hi]
def dJ(vs:Array Value)(k:Nat)(l:List Value)(i:Nat:=0):Array Value:=(l.zipIdx i).foldl (fun cs (c,j)=>cs.setIfInBounds (k+j) c) vs
theorem dD(l:List Value):∀ (vs:Array Value) (k i:Nat),(dJ vs k l i).size=vs.size:=by
  induction l with
  | nil=>intro vs k i;rfl
  | cons x l ih=>intro vs k i;simp only[dJ,List.zipIdx_cons,aRj];exact (ih _ k (i+1)).trans (by simp)
theorem cZ{b off:Nat}{T:TypeId}:∀ (l:List Value) (i:Nat) (w:World) (vs:Array Value),H5 w b vs T->(∀ v∈l,is1 v=true)->off+i+l.length<=vs.size->
    (storeCells ⟨b,off,none⟩ l i).run P w=.ok () (if l=[] then w else setB w b (dJ vs off l i) T)
  | [],i,w,vs,h,h1,hl=>rfl
  | v::l,i,w,vs,h,h1,hl=>by
    have hv:=h1 v (aQt);simp only[aQd] at hl;have hst:(store (⟨b,off+i,none⟩:Addr) v).run P w=.ok () (setB w b (vs.setIfInBounds (off+i) v) T):=by
      have hc:w.cell? ⟨b,off+i,none⟩=some (vs[off+i]'(by omega)):=by
        rw[lG h];exact aQI (by omega)
      have hf:w.frozen? ⟨b,off+i,none⟩=false:=by
        obtain⟨fz,h0,hn⟩:=h;have:=hn (off+i) (by omega);simp only[World.frozen?,h0];simpa using this
      rw[<- Fo h];cases v<;>first | (simp[is1] at hv;done) | (unfold store;simp only[Sem.run,hc,hf];rfl)
    have ih:=cZ (off:=off) l (i+1) (setB w b (vs.setIfInBounds (off+i) v) T) (vs.setIfInBounds (off+i) v) (kB h (by simp)) (fun x hx=>h1 x (aQE _ hx)) (by simp;omega)
    simp only[storeCells,Sem.run_bind,dC,hst,Result.andThen_ok,ih];simp only[reduceCtorEq,if_false];congr 1;split
    · rename_i hl0;subst hl0;rfl
    · rw[Sr];rfl
theorem oV{b off:Nat}{T t:TypeId}{x:Value}{vs:Array Value}(h:H5 w b vs T)(hs:dR P t=some x.cells.size)(h1:∀ v∈x.cells.toList,is1 v=true)
    (hl:off+x.cells.size<=vs.size):(Instr.storeAt t (.pointer (some ⟨b,off,none⟩)) x).run P w=.ok () (if x.cells.toList=[] then w else setB w b (dJ vs off x.cells.toList) T):=by
  unfold dR at hs;cases hin:P.info? t with
  | none=>simp[hin] at hs
  | some inf=>
    simp only[hin,aQg,Option.some.injEq] at hs;have:=cZ (P:=P) (b:=b) (off:=off) x.cells.toList 0 w vs h h1 (by simpa using hl);simp[Instr.storeAt,Instr.sureAddr,storeVar,sizeOf,typeInfo,hin,hs,this]
theorem dB.setObj(hi:dB F γ hp w){id b:Nat}{x:OI}{o':aC}{vs:Array Value}{T:TypeId}(hx:γ[id]?=some x)(hb:x.blk=some b)(hok:OK F γ (setB w b vs T) o' x):
    dB F γ (hp.set id o') (setB w b vs T):=by
  refine⟨fun b' o h=>?_,by simp[hi.len],hi.nd,hi.disj,fun i o y h1 h2=>?_⟩
  · have hne:b'≠b:=fun e=>by subst e;rw[hi.disj id _ (bL hx hb)] at h;cases h
    rw[uQ hne];exact hi.fz b' o h
  · by_cases hii:i=id
    · subst hii
      rw[hx] at h2;injection h2 with h2;subst h2
      rw[aQF (by rw[<- hi.len];exact aG hx)] at h1;injection h1 with h1;subst h1
      exact hok
    · rw[aQx (Ne.symm hii)] at h1
      refine (hi.ok i o y h1 h2).ext (fun _ _ h=>h) (fun _ _ h=>h) (fun b' hb'=>?_)
      exact uQ (fun e=>hii (by subst e;exact hi.nd _ _ _ (bL h2 hb') (bL hx hb)))
theorem gP.setB{k:Nat}(hi:dB F γ hp w){id b:Nat}{x:OI}{vs:Array Value}{T:TypeId}(hx:γ[id]?=some x)(hb:x.blk=some b):gP k F γ w F γ (setB w b vs T):=
  ⟨fun _ _ h=>h,rfl,rfl,rfl,by simp[Go.Proofs.YtcplecjhmnblpaaGreatDoor.setB],fun b' _ hn=>uQ (fun e=>hn id (by subst e;exact bL hx hb)),fun _ _ h=>.inl h,fun i _ h=>.inl ⟨i,h⟩,fun _ _ _ h=>h⟩
theorem bT.ext{sl:List AV}{a:Act}(h:bT F γ sl a)(hs:F.sub F')(hg:∀ (id:Nat) (o:OI),γ[id]?=some o->γ'[id]?=some o):bT F' γ' sl a:=
  ⟨h.1,h.2.1,fun i av v h1 h2=>(h.2.2 i av v h1 h2).ext hs hg⟩
theorem bT.kill{sl:List AV}{a:Act}(h:bT F γ sl a)(hs:F.sub F')(hg:∀ (id:Nat) (o:OI),p id=false->γ[id]?=some o->γ'[id]?=some o):bT F' γ' (sl.map (aZ p)) a:=by
  refine⟨h.1,by simpa using h.2.1,fun i av v h1 h2=>?_⟩
  rw[aQh] at h1;cases hi:sl[i]? with
  | none=>simp[hi] at h1
  | some av0=>simp[hi] at h1;subst h1;exact (h.2.2 i av0 v hi h2).kill hs hg
theorem bT.put{sl:List AV}{a:Act}(h:bT F γ sl a)(dst:Option Nat){av:AV}{v:Value}(hv:RV F γ av v):bT F γ (aO sl dst av) (a.put dst v):=by
  cases dst with
  | none=>exact h
  | some d=>
    refine⟨h.1,by simpa[aO,Act.put] using h.2.1,fun i av' v' h1 h2=>?_⟩
    simp only[aO,Act.put] at h1 h2;by_cases hd:d=i
    · subst hd
      have hlt:d < sl.length:=by have:=aG h1;simpa using this
      rw[aQF hlt] at h1;have hlt2:d < a.tmps.size:=h.2.1 ▸ hlt;rw[aRL hlt2] at h2;injection h1 with h1;injection h2 with h2
      subst h1;subst h2;exact hv
    · rw[aQx hd] at h1
      rw[Array.getElem?_setIfInBounds_ne hd] at h2;exact h.2.2 i av' v' h1 h2
end
end
end Go.Proofs.YtcplecjhmnblpaaGreatDoor
