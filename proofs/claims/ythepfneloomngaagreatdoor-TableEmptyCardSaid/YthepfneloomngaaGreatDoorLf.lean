/- An instruction that changes nothing gives what the model's operation gives: all of them. Conditions: none. -/
import Derived.Test.YthepfneloomngaaGreatDoorLd
namespace Go.Proofs.YthepfneloomngaaGreatDoor
set_option linter.unusedSimpArgs false
set_option linter.unusedVariables false
section
section
variable {P:Program}{F:Fz}{γ:List OI}{w:World}{hp:List aC}
theorem aG{α:Type}{l:List α}{i:Nat}{x:α}(h:l[i]?=some x):i<l.length:=by
 rcases aYG i l.length with h'|h';exact h';rw[aYz h'] at h;cases h
theorem aQO{op:UnOp}{av v:AV}{x:Value}(h:unV op av=some v)(hx:RV F γ av x):∃r,(Op.unary op x).run P w=.ok r w/\RV F γ v r:=by
 unfold unV at h;split at h;injection h with h;subst h;rw[cO hx]
 exact⟨_,by simp[Op.unary,Op.intArith],bP rfl⟩;injection h with h;subst h;rw[cO hx]
 exact⟨_,by simp[Op.unary],bP rfl⟩;rename_i k n;rw[cO hx];simp only[kR,aXG,Option.some.injEq] at h;subst h;exact⟨_,by simp[Op.unary,Op.intBits],bP rfl⟩;cases h
theorem aHh{s d:TypeId}{ds:TypeDesc}{k:IntKind}{n:Int}{av:AV}{x:Value}(h:bH av=some n)(hx:RV F γ av x)(hs:P.underlying s=some ds)(hd:P.underlying d=some (.int k)):
  ∃r,(convert s d x).run P w=.ok r w/\RV F γ (dG (.int k (k.wrap n))) r:=by
 obtain⟨j,rfl⟩:=pK hx h;exact⟨_,by simp[convert,run_underlying hs,run_underlying hd,Conv.intToInt],bP rfl⟩
theorem aHi{s d:TypeId}{n:ByteArray}{av:AV}{x:Value}(h:dB av=some n)(hx:RV F γ av x)(hs:P.underlying s=some .string)(hd:P.underlying d=some .string):
  ∃r,(convert s d x).run P w=.ok r w/\RV F γ (dG (.string n)) r:=by
 have:=sI hx h;subst this;exact⟨_,by simp[convert,run_underlying hs,run_underlying hd],bP rfl⟩
theorem aMv{g:Bool}{s s0 off:Nat}{av v:AV}{x:Value}{t:TypeId}(h:aHc g s off av=some v)(hx:RV F γ av x)
  (hg:Cy P t=some g) (hsz:cZ P t=some s0) (hs:s=if g then s0 else 1):
  ∃y cs,x=.agg cs/\(part t cs off).run P w=.ok y w/\RV F γ v y:=by
 unfold aHc at h;split at h;rename_i cs;split at h
 ·rename_i hle;cases hx with|agg _ vs hvs hr=>
  unfold Cy at hg;cases hu:P.underlying t with
  |none=>simp[hu] at hg
  |some d=>
   simp only[hu,aXG,Option.some.injEq] at hg;unfold cZ at hsz;cases hin:P.info? t with
   |none=>simp[hin] at hsz
   |some inf=>
    simp only[hin,aXG,Option.some.injEq] at hsz;have hr':∀(i:Nat) c v,((cs.drop off).take s)[i]?=some c->((vs.toList.drop off).take s)[i]?=some v->RC F γ c v:=by
     intro i c v hc hv;simp only[aX2,aX9] at hc hv;split at hc;rename_i hlt;rw[if_pos hlt] at hv;exact hr _ _ _ hc (by simpa using hv);cases hc
    obtain⟨h1,h2⟩:=V6 h (vs:=(vs.toList.drop off).take s) (by simp;omega) hr';cases g with
    |true=>
     refine⟨.agg (vs.extract off (off+inf.size)),vs,rfl,?_,?_⟩;unfold Zw at hg;split at hg;simp[part,isAgg,sizeOf,typeInfo,run_underlying hu,hin];simp[part,isAgg,sizeOf,typeInfo,run_underlying hu,hin];cases hg;have:=h1 rfl;have he:((vs.toList.drop off).take s).toArray=vs.extract off (off+inf.size):=by
      apply Array.ext';simp at hs;subst hs;subst hsz;simp[List.take_drop,Array.toList_extract,List.extract_eq_take_drop]
     rwa[he] at this
    |false=>
     obtain⟨y,hy,hv⟩:=h2 rfl;simp at hs;subst hs;have hcell:vs[off]?=some y:=by
      have:=congrArg (fun l:List Value=>l[0]?) hy
      simpa[aX2,aX9] using this
     refine⟨y,vs,rfl,?_,hv⟩;cases d<;>first|(simp[Zw] at hg;done)|simp[part,isAgg,run_underlying hu,hcell]
 cases h;cases h
theorem aMw{n s:Nat}{av iv v:AV}{x y:Value}{i:Int}{t e:TypeId}(hi:bH iv=some i)(hy:RV F γ iv y)(h:aCk n s av i=some v)(hx:RV F γ av x)
  (ht:P.underlying t=some (.array n e)) (hs:cZ P e=some s):∃r,(Instr.indexAt t x y).run P w=.ok r w/\RV F γ v r:=by
 obtain⟨k,rfl⟩:=pK hy hi;unfold aCk at h;split at h;rename_i hb;obtain⟨b,off,rfl,hv⟩:=Gn h hx;unfold cZ at hs;cases hin:P.info? e with
 |none=>simp[hin] at hs
 |some inf=>
  simp only[hin,aXG,Option.some.injEq] at hs;subst hs;refine⟨_,?_,hv⟩;simp[Instr.indexAt,asIntOf,run_underlying ht,Instr.sureAddr,hb,sizeOf,typeInfo,hin,dI]
 cases h
theorem aMx{s:Nat}{av iv v:AV}{x y:Value}{i:Int}{t e:TypeId}(hi:bH iv=some i)(hy:RV F γ iv y)(h:At hp s av i=some v)(hx:RV F γ av x)(hv:dE F γ hp w)
  (ht:P.underlying t=some (.slice e)) (hs:cZ P e=some s):∃r,(Instr.indexAt t x y).run P w=.ok r w/\RV F γ v r:=by
 obtain⟨k,rfl⟩:=pK hy hi;unfold cZ at hs;cases hin:P.info? e with
 |none=>simp[hin] at hs
 |some inf=>
  simp only[hin,aXG,Option.some.injEq] at hs;subst hs;unfold At at h;split at h;rename_i es;split at h;rename_i h0;split at h;rename_i e' he;split at h
  ·rename_i hel;injection h with h;subst h
   have hlt:=aG he;cases hx with|one c v hc=>cases hc with|dc d v hd=>
   cases hd with
   |nil A c=>simp at hlt
   |slc b off c size es g hsz hr hcc hcap=>
    have hse:e'.length=size:=hsz e' (aX0 he);have hb:0<=i/\i<(es.length:Int):=⟨h0,by omega⟩;refine⟨.pointer (some ⟨b,off+i.toNat*inf.size,none⟩),?_,.one _ _ (.ref _ _ _ (fun j=>g i.toNat j) (fun j d hj=>hr _ _ _ _ he hj) (fun j d hj=>?_))⟩
    simp[Instr.indexAt,asIntOf,run_underlying ht,hb,sizeOf,typeInfo,hin,dI];have:=hcc _ _ _ _ he hj;rw[<- hse,hel] at this;rw[Nat.add_assoc];exact this
  cases h;cases h;cases h;rename_i id n;split at h;rename_i cap s' es hb;split at h;rename_i hc;obtain⟨h0,hin',hne,rfl⟩:=hc;injection h with h;subst h;cases hx with|one c v hc=>cases hc with
  |bldN _ cap' hgm=>omega
  |bld _ _ b cap' hgm=>
   have hb':0<=i/\i<(n:Int):=⟨h0,hin'⟩;refine⟨.pointer (some ⟨b,i.toNat*inf.size+0,none⟩),?_,.one _ _ (.ept _ _ _ _ _ _ hgm)⟩;simp[Instr.indexAt,asIntOf,run_underlying ht,hb',sizeOf,typeInfo,hin,dI]
  cases h;cases h;rename_i id k0 n z;split at h;rename_i cap s' es hb;split at h;rename_i hc;obtain⟨h0,hin',hne,rfl,rfl⟩:=hc;injection h with h;subst h;cases hx with|one c v hc=>cases hc with
  |bls _ _ _ _ b cap' c off hgm ho hcn=>
   have hb':0<=i/\i<(n:Int):=⟨h0,hin'⟩;have ho':=ho (by omega);subst ho';rcases hgm with hgm|hgm
   refine⟨.pointer (some ⟨b,(k0+i.toNat)*inf.size+0,none⟩),?_,.one _ _ (.ept _ _ _ _ _ _ hgm)⟩;simp[Instr.indexAt,asIntOf,run_underlying ht,hb',sizeOf,typeInfo,hin,dI,aYf];exact absurd hgm (hv.noArr hb)
  cases h;rename_i cs hb;split at h;rename_i hc;obtain⟨h0,hin',rfl⟩:=hc;injection h with h;subst h;cases hx with|one c v hc=>cases hc with
  |bls _ _ _ _ b cap' c off hgm ho hcn=>
   have hb':0<=i/\i<(n:Int):=⟨h0,hin'⟩;have ho':=ho (by omega);subst ho';rcases hgm with hgm|hgm
   exact absurd hgm (hv.noBox hb);refine⟨.pointer (some ⟨b,(k0+i.toNat)*inf.size,none⟩),?_,.one _ _ (.ptr _ _ _ hgm)⟩;simp[Instr.indexAt,asIntOf,run_underlying ht,hb',sizeOf,typeInfo,hin,dI,aYf]
  cases h;cases h;cases h
theorem aMy{av iv v:AV}{x y:Value}{i:Int}{t:TypeId}(hi:bH iv=some i)(hy:RV F γ iv y)(h:Gm av i=some v)(hx:RV F γ av x)
  (ht:P.underlying t=some .string):∃r,(Instr.index t x y).run P w=.ok r w/\RV F γ v r:=by
 obtain⟨k,rfl⟩:=pK hy hi;unfold Gm at h;split at h;rename_i s hs;rw[sI hx hs];split at h;rename_i h0;split at h;rename_i b hb;injection h with h;subst h;have hb':s[i.toNat]?=some b:=by
  have:s.data[i.toNat]?=some b:=by simpa using hb
  simp only[getElem?,decidableGetElem?] at this ⊢;split at this;rename_i hlt;have hlt':i.toNat<s.size:=hlt;rw[dif_pos hlt'];exact this;cases this
 exact⟨_,by simp[Instr.index,asIntOf,run_underlying ht,h0,hb'],bP rfl⟩;cases h;cases h;cases h
theorem Gq{xo:Option AV}{x:Value}{av:AV}{top dflt r:Nat}{code:BoundsCode}(hxo:xo=some av)(hx:RV F γ av x)(h:dO xo top dflt=some r):
  (Instr.sliceBound x top code).run P w=.ok r w/\r<=top:=by
 subst hxo;simp only[dO] at h;split at h;rename_i i hi;split at h;rename_i hb;injection h with h;subst h
 obtain⟨k,rfl⟩:=pK hx hi;exact⟨by simp[Instr.sliceBound,asIntOf,hb],by omega⟩;cases h;cases h
def RO(F:Fz)(γ:List OI)(o:Option AV)(x:Option Value):Prop:=
 match o,x with
 |none,none=>True
 |some a,some x=>RV F γ a x
 |_,_=>False
theorem hY{isSlice:Bool}{lo hi:Option AV}{xl xh:Option Value}{len cap l h:Nat}(hl:RO F γ lo xl)(hh:RO F γ hi xh)(hlc:len<=cap)
  (h1:dO hi len len=some h) (h2:dO lo h 0=some l):(Instr.sliceBounds isSlice len cap xl xh none).run P w=.ok (l,h,cap) w/\l<=h/\h<=len:=by
 have hhi:(match xh with | some v=>(Instr.sliceBound v cap (if isSlice then .sliceAcap else .sliceAlen)) | none=>pure len:Sem Nat).run P w=.ok h w/\h<=len:=by
   cases hi with
   | none=>
     cases xh with
     | none=>simp[dO] at h1;subst h1;exact⟨rfl,aXF _⟩
     | some _=>exact hh.elim
   | some a=>
     cases xh with
     | none=>exact hh.elim
     | some x=>
       have hb:h<=len:=(Gq (P:=P) (w:=w) (code:=.index) rfl hh h1).2;have h1':dO (some a) cap len=some h:=by
         simp only[dO] at h1 ⊢;split at h1
         · rename_i i hi
           split at h1
           · rename_i hb'
             rw[if_pos ⟨hb'.1,by omega⟩];exact h1
           · cases h1
         · cases h1
       exact⟨(Gq (P:=P) (w:=w) rfl hh h1').1,hb⟩
 have hlo:(match xl with | some v=>(Instr.sliceBound v h (if (none:Option Value).isSome then .slice3C else .sliceB)) | none=>pure 0:Sem Nat).run P w=.ok l w/\l<=h:=by
   cases lo with
   | none=>
     cases xl with
     | none=>simp[dO] at h2;subst h2;exact⟨rfl,aXX _⟩
     | some _=>exact hl.elim
   | some a=>
     cases xl with
     | none=>exact hl.elim
     | some x=>exact Gq (P:=P) (w:=w) rfl hl h2
 refine⟨?_,hlo.2,hhi.2⟩;cases xh<;>cases xl<;>simp_all [Instr.sliceBounds]
theorem aMz{av v:AV}{x:Value}{lo hi:Option AV}{xl xh:Option Value}{t:TypeId}(hl:RO F γ lo xl)(hh:RO F γ hi xh)(h:Jt av lo hi=some v)(hx:RV F γ av x)
  (ht:P.underlying t=some .string):∃r,(Instr.sliceAt t x xl xh none).run P w=.ok r w/\RV F γ v r:=by
 unfold Jt at h;cases hs:dB av with
 |none=>simp[hs] at h
 |some s=>
  simp only[hs,aXP] at h;cases h1:dO hi s.size s.size with
  |none=>simp[h1] at h
  |some hh'=>
   simp only[h1,aXP] at h;cases h2:dO lo hh' 0 with
   |none=>simp[h2] at h
   |some l=>
    simp only[h2,aXP,Option.some.injEq] at h;subst h;rw[sI hx hs];have:=(hY (P:=P) (w:=w) (isSlice:=false) hl hh (aXF _) h1 h2).1;exact⟨_,by simp[Instr.sliceAt,Instr.slice,run_underlying ht,this],bP rfl⟩
theorem aMA{s:Nat}{av v:AV}{x:Value}{lo hi:Option AV}{xl xh:Option Value}{t e:TypeId}(hl:RO F γ lo xl)(hh:RO F γ hi xh)(h:kS hp s av lo hi=some v)(hx:RV F γ av x)
  (hv:dE F γ hp w) (ht:P.underlying t=some (.slice e)) (hs:cZ P e=some s):∃r,(Instr.sliceAt t x xl xh none).run P w=.ok r w/\RV F γ v r:=by
 unfold cZ at hs;cases hin:P.info? e with
 |none=>simp[hin] at hs
 |some inf=>
  simp only[hin,aXG,Option.some.injEq] at hs;subst hs;have run:∀A len cap l h',(Instr.sliceBounds true len cap xl xh none).run P w=.ok (l,h',cap) w->
    (Instr.sliceAt t (.slice A len cap) xl xh none).run P w=.ok (.slice (if cap=l then A else A.map (·.add (l*inf.size))) (h'-l) (cap-l)) w:=by
   intro A len cap l h' hb;simp[Instr.sliceAt,Instr.slice,run_underlying ht,hb,sizeOf,typeInfo,hin]
  unfold kS at h;split at h;rename_i es;cases h1:dO hi es.length es.length with
  |none=>simp[h1] at h
  |some hh'=>
   simp only[h1,aXP] at h;cases h2:dO lo hh' 0 with
   |none=>simp[h2] at h
   |some l=>
    simp only[h2,aXP] at h;split at h
    ·rename_i hall;injection h with h;subst h
     cases hx with|one c v hc=>cases hc with|dc d v hd=>
     cases hd with
     |nil A c=>
      obtain⟨hb,hle,hle2⟩:=hY (P:=P) (w:=w) (isSlice:=true) (len:=0) (cap:=c) hl hh (aXX _) h1 h2;simp at hle2;subst hle2;have:l=0:=by omega
      subst this;refine⟨_,run _ _ _ _ _ hb,.one _ _ (.dc _ _ ?_)⟩;simp;exact .nil _ _
     |slc b off c size es g hsz hr hcc hcap=>
      obtain⟨hb,hle,hle2⟩:=hY (P:=P) (w:=w) (isSlice:=true) hl hh hcap h1 h2;refine⟨_,run _ _ _ _ _ hb,.one _ _ (.dc _ _ ?_)⟩;have hlen:((es.take hh').drop l).length=hh'-l:=by simp;omega
      rw[<- hlen];by_cases hcl:c=l;have:(es.take hh').drop l=[]:=aYL (by rw[hlen];omega);rw[this];exact .nil _ _;rw[if_neg hcl];have hget:∀(i:Nat) e',((es.take hh').drop l)[i]?=some e'->es[l+i]?=some e':=by
       intro i e' hi;simp only[aX9,aX2] at hi;split at hi;exact hi;cases hi
      simp only[aXG,dI];by_cases hsz0:∃e',e'∈es;obtain⟨e',he'⟩:=hsz0;have hsi:size=inf.size:=by
       have h3:=hsz e' he';have h4:=aY2.1 hall e' he';simp at h4;omega
      subst hsi;refine .slc b (off+l*inf.size) (c-l) inf.size _ (fun i j=>g (l+i) j) (fun e h=>hsz e (aX6 (aYl h))) (fun i j e d h h'=>hr _ _ _ _ (hget i e h) h') (fun i j e d h h'=>?_) (by rw[hlen];omega)
      have:=hcc _ _ _ _ (hget i e h) h';rw[aYf] at this;rw[show off+l*inf.size+(i*inf.size+j)=off+(l*inf.size+i*inf.size+j) by omega];exact this;have:es=[]:=List.eq_nil_iff_forall_not_mem.2 (fun e' he'=>hsz0 ⟨e',he'⟩)
      subst this;simp;exact .nil _ _
    cases h
  cases h1:dO hi 0 0 with
  |none=>simp[h1] at h
  |some hh'=>
   simp only[h1,aXP] at h;cases h2:dO lo hh' 0 with
   |none=>simp[h2] at h
   |some l=>
    simp only[h2,aXP,Option.some.injEq] at h;subst h;rw[cO hx];obtain⟨hb,hle,hle2⟩:=hY (P:=P) (w:=w) (isSlice:=true) (len:=0) (cap:=0) hl hh (aXX _) h1 h2;have e1:l=0:=by omega
    have e2:hh'=0:=by omega
    subst e1;subst e2;exact⟨_,run _ _ _ _ _ hb,by simp;exact bP rfl⟩
  rename_i id n;split at h;rename_i cap s' es hb;split at h;rename_i hne;cases h1:dO hi n n with
  |none=>simp[h1] at h
  |some hh'=>
   simp only[h1,aXP,Option.some.injEq] at h;subst h;cases hx with|one c v hc=>cases hc with
   |bldN _ cap' hgm=>
    obtain⟨hb2,hle,hle2⟩:=hY (P:=P) (w:=w) (isSlice:=true) (len:=0) (cap:=0) (l:=0) hl hh (aXX _) h1 rfl;have:hh'=0:=by omega
    subst this;exact⟨_,run _ _ _ _ _ hb2,by simpa using RV.one _ _ (.bldN _ _ hgm)⟩
   |bld _ _ b cap' hgm=>
    obtain⟨hcc,hec,_⟩:=hv.arr hb hgm;obtain⟨hb2,hle,hle2⟩:=hY (P:=P) (w:=w) (isSlice:=true) (len:=n) (cap:=cap') (l:=0) hl hh (by omega) h1 rfl;refine⟨_,run _ _ _ _ _ hb2,.one _ _ ?_⟩;have:(if cap'=0 then some (⟨b,0,none⟩:Addr) else (some ⟨b,0,none⟩:Option Addr).map (·.add (0*inf.size)))=some ⟨b,0,none⟩:=by
     split<;>simp[Addr.add]
    rw[this];exact .bld _ _ _ _ hgm
  cases h;rename_i cap s' es lo' hb;split at h;rename_i hne;obtain⟨hne,rfl⟩:=hne;obtain⟨hh',h1,h⟩:=aYu.1 h;obtain⟨l,h2,h⟩:=aYu.1 h;injection h with h;subst h;cases hx with|one c v hc=>cases hc with
  |bldN _ cap' hgm=>
   obtain⟨hb2,hle,hle2⟩:=hY (P:=P) (w:=w) (isSlice:=true) (len:=0) (cap:=0) hl hh (aXX _) h1 h2;have e1:hh'=0:=by omega
   have e2:l=0:=by omega
   subst e1;subst e2;exact⟨_,run _ _ _ _ _ hb2,by simpa using RV.one _ _ (.bldN _ _ hgm)⟩
  |bld _ _ b cap' hgm=>
   obtain⟨hcc,hec,_⟩:=hv.arr hb hgm;obtain⟨hb2,hle,hle2⟩:=hY (P:=P) (w:=w) (isSlice:=true) (len:=n) (cap:=cap') hl hh (by omega) h1 h2;refine⟨_,run _ _ _ _ _ hb2,.one _ _ ?_⟩;by_cases l0:l=0;subst l0;have:(if cap'=0 then some (⟨b,0,none⟩:Addr) else (some ⟨b,0,none⟩:Option Addr).map (·.add (0*inf.size)))=some ⟨b,0,none⟩:=by
    split<;>simp[Addr.add]
   rw[this,if_pos rfl];exact .bld _ _ _ _ hgm;rw[if_neg l0];by_cases hcl:cap'=l;rw[if_pos hcl];exact .bls _ _ _ _ _ _ _ _ (.inl hgm) (fun hn=>by omega) (by omega)
   rw[if_neg hcl];simp only[aXG,dI,aYi];exact .bls _ _ _ _ _ _ _ _ (.inl hgm) (fun _=>rfl) (by omega)
  cases h;cases h;rename_i id k0 n z;split at h;rename_i cap s' es hb;split at h;rename_i hne;obtain⟨hne,rfl,rfl⟩:=hne;obtain⟨hh',h1,h⟩:=aYu.1 h;obtain⟨l,h2,h⟩:=aYu.1 h;injection h with h;subst h;cases hx with|one c v hc=>cases hc with
  |bls _ _ _ _ b cap' c off hgm ho hcn=>
   obtain⟨hb2,hle,hle2⟩:=hY (P:=P) (w:=w) (isSlice:=true) (len:=n) (cap:=c) hl hh hcn h1 h2;refine⟨_,run _ _ _ _ _ hb2,.one _ _ ?_⟩;by_cases hcl:c=l;rw[if_pos hcl];exact .bls _ _ _ _ _ _ _ _ hgm (fun hn=>by omega) (by omega)
   rw[if_neg hcl];simp only[aXG,dI];exact .bls _ _ _ _ _ _ _ _ hgm (fun hn=>by rw[ho (by omega),aYf]) (by omega)
  cases h;rename_i cs hb;split at h;rename_i hne;subst hne;obtain⟨hh',h1,h⟩:=aYu.1 h;obtain⟨l,h2,h⟩:=aYu.1 h;injection h with h;subst h
  cases hx with|one c v hc=>cases hc with
  |bls _ _ _ _ b cap' c off hgm ho hcn=>
   obtain⟨hb2,hle,hle2⟩:=hY (P:=P) (w:=w) (isSlice:=true) (len:=n) (cap:=c) hl hh hcn h1 h2;refine⟨_,run _ _ _ _ _ hb2,.one _ _ ?_⟩;by_cases hcl:c=l;rw[if_pos hcl];exact .bls _ _ _ _ _ _ _ _ hgm (fun hn=>by omega) (by omega)
   rw[if_neg hcl];simp only[aXG,dI];exact .bls _ _ _ _ _ _ _ _ hgm (fun hn=>by rw[ho (by omega),aYf]) (by omega)
  cases h;cases h;cases h
theorem aMB{n s:Nat}{av v:AV}{x:Value}{lo hi:Option AV}{xl xh:Option Value}{t e:TypeId}(hl:RO F γ lo xl)(hh:RO F γ hi xh)(h:aHd n s av lo hi=some v)(hx:RV F γ av x)
  (ht:P.underlying t=some (.array n e)) (hs:cZ P e=some s) (hs0:s≠0):∃r,(Instr.sliceAt t x xl xh none).run P w=.ok r w/\RV F γ v r:=by
 unfold cZ at hs;cases hin:P.info? e with
 |none=>simp[hin] at hs
 |some inf=>
  simp only[hin,aXG,Option.some.injEq] at hs;subst hs;unfold aHd at h;split at h;rename_i id off;split at h;rename_i hm;obtain⟨hh',h1,h⟩:=aYu.1 h;obtain⟨l,h2,h⟩:=aYu.1 h;injection h with h;subst h;cases hx with|one c v hc=>cases hc with
  |ptr _ _ b hgm=>
   obtain⟨hb2,hle,hle2⟩:=hY (P:=P) (w:=w) (isSlice:=false) (len:=n) (cap:=n) hl hh (aXF _) h1 h2;refine⟨.slice (some (if n=l then ⟨b,off,none⟩ else (⟨b,off,none⟩:Addr).add (l*inf.size))) (hh'-l) (n-l),?_,.one _ _ ?_⟩;simp[Instr.sliceAt,Instr.sureAddr,run_underlying ht,hb2,sizeOf,typeInfo,hin];by_cases hcl:n=l;rw[if_pos hcl];exact .bls _ _ _ _ _ 0 _ _ (.inr hgm) (fun hn=>by omega) (by omega)
   rw[if_neg hcl];simp only[dI];refine .bls _ _ _ _ _ 0 _ _ (.inr hgm) (fun _=>?_) (by omega)
   rw[aYf,Nat.div_mul_cancel (Nat.dvd_of_mod_eq_zero hm)]
  cases h;cases h
end
end
section
section
variable {P:Program}{F:Fz}{γ:List OI}{w:World}{hp:List aC}{a:Act}
theorem aMC{n:Nat}{k:Int}{iv av v:AV}{i x:Value}{t e:TypeId}(hn:bH iv=some k)(hi:RV F γ iv i)(h:S6 n av k=some v)(hx:RV F γ av x)(ht:P.underlying t=some (.array n e))
  (hg:Cy P e=some false) (hs:cZ P e=some 1):∃r,(Instr.index t x i).run P w=.ok r w/\RV F γ v r:=by
 obtain⟨kk,rfl⟩:=pK hi hn;unfold S6 at h;split at h;rename_i cs i';split at h
 ·rename_i hc;cases hx with|agg _ vs hsz hr=>
  obtain⟨c,hc1,rfl⟩:=Option.map_eq_some_iff.1 h;have hlt:k.toNat<vs.size:=by have:=(List.getElem?_eq_some_iff.1 hc1).1;omega
  have hv:vs[k.toNat]?=some vs[k.toNat]:=aX8 hlt;unfold Cy at hg;obtain⟨d,hu,hd⟩:=Option.map_eq_some_iff.1 hg;unfold cZ at hs;obtain⟨inf,hi1,hi2⟩:=Option.map_eq_some_iff.1 hs;have hce:P.cellsOf e=1:=by rw[Program.cellsOf,hi1];exact hi2
  refine⟨vs[k.toNat],?_,.one _ _ (hr k.toNat c _ hc1 hv)⟩;simp only[Instr.index,Sem.run_bind,asIntOf,Sem.run_pure,Result.andThen_ok,run_underlying ht,if_pos (show 0<=k/\k<(n:Int) from ⟨hc.1,hc.2.1⟩),run_sizeOf w hi1,hce,aYv]
  cases d<;>simp[Zw] at hd<;>simp[part,isAgg,run_underlying hu,hv]
 cases h;cases h
theorem aMD{n:Nat}{av v:AV}{x:Value}{t e:TypeId}(h:Zv n av=some v)(hx:RV F γ av x)(ht:P.underlying t=some (.array n e)):∃r,(Instr.arrayAt t x).run P w=.ok r w/\RV F γ v r:=by
 unfold Zv at h;split at h;rename_i es;split at h
 ·rename_i hc;injection h with h;subst h
  cases hx with|one _ _ hx=>cases hx with|dc _ _ hx=>
  cases hx with
  |nil A c=>simp at hc;omega
  |slc b off c size es g hsz hr hcell hcap=>
   have hfl:∀(es:List (List DC)),(∀e∈es,e.length=size)->∀(j:Nat) d,es.flatten[j]?=some d->0<size/\∃e,es[j / size]?=some e/\e[j % size]?=some d:=by
    intro es
    induction es with
    |nil=>intro _ j d hd;simp at hd
    |cons e es ih=>
     intro he j d hd;have hl:=he e aXV;rw[aYA] at hd;by_cases hj:j<size;rw[aXU (by omega)] at hd;refine⟨by omega,e,by rw[Nat.div_eq_of_lt hj];rfl,by rw[aYB hj];exact hd⟩;rw[aXY (by omega),hl] at hd;obtain⟨h0,e',h1,h2⟩:=ih (fun x hx=>he x (aX3 _ hx)) (j-size) d hd
     have e1:j / size=(j-size) / size+1:=by rw[Nat.div_eq_sub_div h0 (by omega)]
     have e2:j % size=(j-size) % size:=Nat.mod_eq_sub_mod (by omega);exact⟨h0,e',by rw[e1];exact h1,by rw[e2];exact h2⟩
   refine⟨.pointer (some ⟨b,off,none⟩),?_,.one _ _ (.ref _ b off (fun j=>g (j / size) (j % size)) (fun j d hd=>?_) (fun j d hd=>?_))⟩
   have hn:¬ ((es.length:Nat)<n):=by omega
   simp[Instr.arrayAt,run_underlying ht,hn];obtain⟨h0,e,h1,h2⟩:=hfl _ (fun e he=>hsz e (aX6 he)) j d hd
   rw[aX2] at h1;split at h1;exact hr _ _ e d h1 h2;cases h1;obtain⟨h0,e,h1,h2⟩:=hfl _ (fun e he=>hsz e (aX6 he)) j d hd
   rw[aX2] at h1;split at h1;have:=hcell _ _ e d h1 h2;rwa[aYM,Nat.div_add_mod] at this;cases h1
 cases h;cases h
theorem aCt{n:Nat}{av v:AV}{x:Value}(h:S5 av n=some v)(hx:RV F γ av x):∃r,(Instr.extract x n).run P w=.ok r w/\RV F γ v r:=by
 unfold S5 at h;split at h
 ·rename_i l;cases hx with|tup _ vs hs hr=>
  have go:∀t,l[n]?=some t->∃r,vs[n]?=some r/\RT F γ t r:=by
   intro t ht;have hlt:n<vs.size:=hs ▸ aG ht;exact⟨vs[n]'hlt,aX8 hlt,hr n t _ ht (aX8 hlt)⟩
  split at h;rename_i c hc;injection h with h;subst h
  obtain⟨r,hr1,hr2⟩:=go _ hc;refine⟨r,by simp[Instr.extract,hr1],?_⟩;cases hr2 with|one c v h=>exact .one _ _ h
  rename_i c hc;injection h with h;subst h
  obtain⟨r,hr1,hr2⟩:=go _ hc;refine⟨r,by simp[Instr.extract,hr1],?_⟩;cases hr2 with|agg c v h h'=>exact .agg _ _ h h'
  cases h
 cases h
theorem aHj{av v:AV}{x:Value}{t e:TypeId}{ty:TypeId}(h:rR av=some v)(hx:RV F γ av x)(ht:P.underlying t=some (.slice e))(ts:Array TypeId)(hts:ts[0]?=some t)(xs:Array Value)(hxs:xs[0]?=some x):
  ∃r,(Builtin.len_ ts ty xs).run P w=.ok r w/\RV F γ v r:=by
 have go:∀A n c,x=.slice A n c->(Builtin.len_ ts ty xs).run P w=.ok (.int .i64 n) w:=by
  rintro A n c rfl;simp[Builtin.len_,hts,hxs,run_underlying ht,goInt]
 unfold rR at h;split at h;injection h with h;subst h
 cases hx with|one c v hc=>cases hc with|dc d v hd=>cases hd with
 |nil A c=>exact⟨_,go _ _ _ rfl,bP rfl⟩
 |slc b off c size es g hsz hr hcc hcap=>exact⟨_,go _ _ _ rfl,bP rfl⟩
 injection h with h;subst h
 rw[cO hx] at go;exact⟨_,go _ _ _ rfl,bP rfl⟩;injection h with h;subst h
 cases hx with|one c v hc=>cases hc with
 |bldN _ cap' hgm=>exact⟨_,go _ _ _ rfl,bP rfl⟩
 |bld _ _ b cap' hgm=>exact⟨_,go _ _ _ rfl,bP rfl⟩
 injection h with h;subst h
 cases hx with|one c v hc=>cases hc with
 |bls _ _ _ _ b cap' c off hgm ho hcn=>exact⟨_,go _ _ _ rfl,bP rfl⟩
 cases h
theorem aCu{av:AV}{x:Value}{b:Bool}(h:aHe av=some b)(hx:RV F γ av x):∃A n c,x=.slice A n c/\A.isNone=b:=by
 unfold aHe at h;split at h;injection h with h;subst h
 exact⟨_,_,_,cO hx,rfl⟩;injection h with h;subst h
 cases hx with|one c v hc=>cases hc with|dc d v hd=>cases hd with
 |slc b off c size es g hsz hr hcc hcap=>exact⟨_,_,_,rfl,rfl⟩
 injection h with h;subst h
 cases hx with|one c v hc=>cases hc with
 |bld _ _ b cap' hgm=>exact⟨_,_,_,rfl,rfl⟩
 injection h with h;subst h
 cases hx with|one c v hc=>cases hc with
 |bls _ _ _ _ b cap' c off hgm ho hcn=>exact⟨_,_,_,rfl,rfl⟩
 cases h
theorem aCv{av:AV}{x:Value}{b:Bool}(h:aHf av=some b)(hx:RV F γ av x):∃A,x=.pointer A/\A.isNone=b:=by
 unfold aHf at h;split at h;injection h with h;subst h
 exact⟨_,cO hx,rfl⟩;all_goals first|(injection h with h;subst h;cases hx with|one c v hc=>cases hc;exact⟨_,rfl,rfl⟩)|(injection h with h;subst h;cases hx with|one c v hc=>cases hc with|dc _ _ hd=>cases hd;exact⟨_,rfl,rfl⟩)|cases h
theorem Kj{t e:TypeId}{A:Option Addr}{n c:Nat}(d:Nat)(h:P.underlying t=some (.slice e)):(Op.equalIn (d+1) t (.slice A n c) (.slice none 0 0)).run P w=.ok A.isNone w:=by
 cases A<;>simp[Op.equalIn,run_underlying h]
theorem Oz{t e:TypeId}{A:Option Addr}(d:Nat)(h:P.underlying t=some (.pointer e)):(Op.equalIn (d+1) t (.pointer A) (.pointer none)).run P w=.ok A.isNone w:=by
 cases A<;>simp[Op.equalIn,run_underlying h]
theorem aCw{p neg:Bool}{d:TypeDesc}{t:TypeId}{xo yo:Operand}{av v:AV}{x:Value}(h:Zu p neg av=some v)(hx:RV F γ av x)(ht:P.underlying t=some d)(hk:Oy d yo=some p):
  ∃r,((do eqGuard (if neg then .neq else .eql) t xo yo x (a.eval yo);Go.binOp (if neg then .neq else .eql) t x (a.eval yo)):Sem Value).run P w=.ok r w/\RV F γ v r:=by
 unfold Oy at hk;split at hk;rename_i e;injection hk with hk;subst hk
 cases hb:aHe av with
 |none=>simp[Zu,hb] at h
 |some b=>
  obtain⟨A,n,c,rfl,hA⟩:=aCu hb hx;simp only[Zu,hb,cond_false,aXG,Option.some.injEq] at h;subst h;have he:(Op.equal t (.slice A n c) (.slice none 0 0)).run P w=.ok b w:=by
   rw[<- hA];exact Kj 9999 ht
  cases neg;exact⟨_,by simp[eqGuard,Go.binOp,he,Act.eval],bP rfl⟩;exact⟨_,by simp[eqGuard,Go.binOp,he,Act.eval],bP rfl⟩
 rename_i e;injection hk with hk;subst hk
 cases hb:aHf av with
 |none=>simp[Zu,hb] at h
 |some b=>
  obtain⟨A,rfl,hA⟩:=aCv hb hx;simp only[Zu,hb,cond_true,aXG,Option.some.injEq] at h;subst h;have he:(Op.equal t (.pointer A) (.pointer none)).run P w=.ok b w:=by
   rw[<- hA];exact Oz 9999 ht
  cases neg;exact⟨_,by simp[eqGuard,Go.binOp,he,Act.eval],bP rfl⟩;exact⟨_,by simp[eqGuard,Go.binOp,he,Act.eval],bP rfl⟩
 cases hk
theorem Gr{k:Int}:∀(es:List (Int×Value)) (l:List MapEntry) (i:Nat),l.map (fun e=>(e.key,e.val))=es.map (fun p=>(Value.int .i64 p.1,p.2))->
  ∃q,Instr.findNow (.int .i64) (.int .i64 k) l i=some q/\q.map (·.2)=zO es k
 | [],l,i,h=>by
   have:l=[]:=by simpa using h
   subst this;exact⟨none,rfl,rfl⟩
 | (a,v)::es,l,i,h=>by
   cases l with
   | nil=>simp at h
   | cons e l=>
     simp only[aXL,List.cons.injEq,Prod.mk.injEq] at h;obtain⟨⟨h1,h2⟩,h3⟩:=h;obtain⟨q,hq,hm⟩:=Gr es l (i+1) h3;by_cases hk:a=k
     · subst hk
       refine⟨some (i,e.val), ?_,by simp[zO,h2]⟩;simp[Instr.findNow,Instr.sameNow,h1]
     · refine⟨q, ?_,by rw[hm,zO,if_neg hk]⟩
       have hne:(k==a)=false:=by simp;exact fun e=>hk e.symm
       simp[Instr.findNow,Instr.sameNow,h1,hne,hq]
theorem aME{ok:Bool}{z:Value}{av bv v:AV}{x y:Value}{t kt et:TypeId}(hf:∀b o,F b=some o->w.heap[b]?=some o)(h:Ox ok z av bv=some v)(hx:RV F γ av x)(hy:RV F γ bv y)
  (ht:P.underlying t=some (.map kt et)) (hk:P.underlying kt=some (.int .i64)) (hz:(P.info? et).bind (fun i=>i.zero)=some z) (hz1:is1 z=true):
  ∃r,(Instr.lookup t x y ok).run P w=.ok r w/\RV F γ v r:=by
 unfold Ox at h;split at h
 ·rename_i es k;injection h with h;subst h
  cases hx with|one c _ hcc=>cases hcc with|mpc _ r clk ents hF he h1=>
  have hyv:=cO hy;subst hyv;have hr:=hf _ _ hF;obtain⟨q,hq,hm⟩:=Gr (k:=k) es ents.toList 0 he;obtain⟨i,hi1,hi2⟩:=aYu.1 hz;have hmem:∀v,zO es k=some v->is1 v=true:=by
   clear he hq hm hF
   induction es with
   |nil=>intro v h;cases h
   |cons p es ih=>
    intro v h;obtain⟨a,u⟩:=p;rw[zO] at h;split at h;injection h with h;subst h;exact h1 _ aXV
    exact ih (fun p hp=>h1 p (aX3 _ hp)) v h
  have hgo:(getObj r).run P w=.ok (.map ents clk) w:=by simp[getObj,Sem.run,hr]
  have hck:(Instr.checkKey ents.isEmpty (9999+1) kt (.int .i64 k)).run P w=.ok () w:=by
   unfold Instr.checkKey;simp[run_underlying hk]
  have hfk:(Instr.findKey kt (.int .i64 k) ents.toList).run P w=.ok q w:=by
   simp[Instr.findKey,run_underlying hk,hq]
  rw[<- hm] at hmem ⊢;cases q with
  |none=>
   cases ok;exact⟨z,by simp[Instr.lookup,run_underlying ht,hgo,hck,hfk,zeroValue,typeInfo,hi1,hi2],bP hz1⟩;refine⟨.tuple #[z,.bool false],by simp[Instr.lookup,run_underlying ht,hgo,hck,hfk,zeroValue,typeInfo,hi1,hi2],?_⟩;refine .tup _ _ rfl (fun j t v h1 h2=>?_)
   match j,h1,h2 with
   |0,h1,h2=>injection h1 with h1;simp at h2;subst h1;subst h2;exact .one _ _ (.dc _ _ (.raw _ hz1))
   |1,h1,h2=>injection h1 with h1;simp at h2;subst h1;subst h2;exact .one _ _ (.dc _ _ (.raw _ rfl))
   |j+2,h1,h2=>simp at h1
  |some p=>
   have hv1:=hmem p.2 rfl;cases ok;exact⟨p.2,by simp[Instr.lookup,run_underlying ht,hgo,hck,hfk],bP hv1⟩;refine⟨.tuple #[p.2,.bool true],by simp[Instr.lookup,run_underlying ht,hgo,hck,hfk],?_⟩;refine .tup _ _ rfl (fun j t v h1 h2=>?_)
   match j,h1,h2 with
   |0,h1,h2=>injection h1 with h1;simp at h2;subst h1;subst h2;exact .one _ _ (.dc _ _ (.raw _ hv1))
   |1,h1,h2=>injection h1 with h1;simp at h2;subst h1;subst h2;exact .one _ _ (.dc _ _ (.raw _ rfl))
   |j+2,h1,h2=>simp at h1
 cases h
theorem aMF{av bv v:AV}{x y:Value}(h:aCl av bv=some v)(hx:RV F γ av x)(hy:RV F γ bv y):∃r,(Builtin.min2 x y).run P w=.ok r w/\RV F γ v r:=by
 unfold aCl at h;split at h;injection h with h;subst h
 rw[cO hx,cO hy];exact⟨_,by simp[Builtin.min2],bP rfl⟩;cases h
theorem aMG{av bv v:AV}{x y:Value}(h:aCm av bv=some v)(hx:RV F γ av x)(hy:RV F γ bv y):∃r,(Builtin.max2 x y).run P w=.ok r w/\RV F γ v r:=by
 unfold aCm at h;split at h;injection h with h;subst h
 rw[cO hx,cO hy];exact⟨_,by simp[Builtin.max2],bP rfl⟩;cases h
def RCs(F:Fz)(γ:List OI)(cs:List aT)(vs:Array Value):Prop:=vs.size=cs.length/\∀(i:Nat) c v,cs[i]?=some c->vs[i]?=some v->RC F γ c v
theorem RCs.raw{vs:List Value}(h:∀v∈vs,is1 v=true):RCs F γ (vs.map dA) vs.toArray:=by
 refine⟨by simp,fun i c v hc hv=>?_⟩
 simp only[aXI,aY8] at hc hv;rw[hv] at hc;simp at hc;subst hc;exact .dc _ _ (.raw _ (h v (aX0 hv)))
theorem RV.cells{av:AV}{x:Value}{cs:List aT}(hx:RV F γ av x)(h:cellsOf av=some cs):RCs F γ cs x.cells:=by
 unfold cellsOf at h;split at h
 ·injection h with h;subst h
  cases hx with|one c v hc=>
  have h1:=hc.is1;have:x.cells=#[x]:=by cases x<;>first|rfl|(simp[is1] at h1)
  rw[this];refine⟨rfl,fun i c' v hc' hv=>?_⟩
  cases i with
  |zero=>simp at hc' hv;subst hc';subst hv;exact hc
  |succ i=>simp at hc'
 injection h with h;subst h
 cases hx with|agg _ vs hs hr=>exact⟨hs,hr⟩
 cases h
theorem RCs.put{cs vs:List aT}{as bs:Array Value}{off:Nat}(h:RCs F γ cs as)(h':RCs F γ vs bs)(hle:off+vs.length<=cs.length):
  RCs F γ (cQ cs off vs) (bs.zipIdx.foldl (fun cs (c,j)=>cs.setIfInBounds (off+j) c) as):=by
 have key:∀ (l:List Value) (k:Nat) (as:Array Value) (i:Nat),(l.zipIdx k |>.foldl (fun (cs:Array Value) (c,j)=>cs.setIfInBounds (off+j) c) as).size=as.size/\
     (l.zipIdx k |>.foldl (fun (cs:Array Value) (c,j)=>cs.setIfInBounds (off+j) c) as)[i]?=if off+k<=i/\i < off+k+l.length/\i < as.size then l[i - (off+k)]? else as[i]?:=by
   intro l
   induction l with
   | nil=>intro k as i;simp;intro h1 h2;omega
   | cons x l ih=>
     intro k as i;simp only[List.zipIdx_cons,aYO];obtain⟨h1,h2⟩:=ih (k+1) (as.setIfInBounds (off+k) x) i;refine⟨by rw[h1];simp, ?_⟩;rw[h2];simp only[Array.size_setIfInBounds,aXE,Array.getElem?_setIfInBounds];by_cases c1:i=off+k
     · subst c1
       rw[if_neg (by omega)];by_cases c2:off+k < as.size
       · rw[if_pos (by omega),if_pos c2,if_pos (by omega)];simp
       · rw[if_pos (by omega),if_neg c2,if_neg (by omega)];simp[Array.getElem?_eq_none (Nat.le_of_not_lt c2)]
     · rw[if_neg (show ¬ off+k=i by omega)]
       by_cases c2:off+(k+1)<=i/\i < off+(k+1)+l.length/\i < as.size
       · rw[if_pos c2,if_pos (by omega)]
         rw[show i - (off+k)=(i - (off+(k+1)))+1 by omega];simp
       · rw[if_neg c2,if_neg (by omega)]
 have hk:=key bs.toList 0 as;rw[<- Array.foldl_toList,Array.toList_zipIdx];refine⟨?_,fun i c v hc hv=>?_⟩
 rw[(hk 0).1,h.1];simp[cQ];omega;rw[(hk i).2] at hv;have hbs:=h'.1;simp only[cQ] at hc;simp only[aY4,aYp] at hv;by_cases c1:i<off;rw[if_neg (by omega)] at hv;rw[aXR,aXU (by simp;omega),aX2,if_pos c1] at hc;exact h.2 i c v hc hv;by_cases c2:i<off+vs.length;have hsz:i<as.size:=by rw[h.1];omega
 rw[if_pos ⟨by omega,by omega,hsz⟩] at hv;rw[aXR,aXY (by simp;omega),aXU (by simp;omega)] at hc;have e1:min off cs.length=off:=by omega
 simp only[aXK,e1] at hc;exact h'.2 _ c v hc (by simpa using hv);rw[if_neg (by omega)] at hv;rw[aXY (by simp;omega)] at hc;have e1:min off cs.length=off:=by omega
 simp only[aXD,aXK,e1,aX9] at hc;rw[show off+vs.length+(i-(off+vs.length))=i by omega] at hc;exact h.2 i c v hc hv
theorem Av{place:Nat->Option (Nat×Nat)}:∀(ps:List (Nat×Nat×AV)) (qs:List (Nat×Value)) (zero cs:List aT) (as:Array Value),RCs F γ zero as->gX zero ps=some cs->ps.length=qs.length->
  (∀(i:Nat) o s av j x,ps[i]?=some (o,s,av)->qs[i]?=some (j,x)->place j=some (o,s)/\RV F γ av x)->∃r,Instr.fill place as qs=some r/\RCs F γ cs r
 | [],qs,zero,cs,as,h,hf,hl,_=>by
   cases qs with
   | nil=>simp[gX] at hf;subst hf;exact⟨as,rfl,h⟩
   | cons _ _=>simp at hl
 | (o,s,av)::ps,qs,zero,cs,as,h,hf,hl,hp=>by
   cases qs with
   | nil=>simp at hl
   | cons q qs=>
     obtain⟨j,x⟩:=q;obtain⟨hpl,hx⟩:=hp 0 o s av j x rfl rfl;simp only[gX] at hf;cases hcl:cellsOf av with
     | none=>simp[hcl] at hf
     | some vs=>
       simp only[hcl,aXP] at hf;split at hf
       · rename_i hb
         obtain⟨hb1,hb2⟩:=hb;have hxc:=hx.cells hcl;have hput:=h.put hxc (off:=o) (by omega);obtain⟨r,hr1,hr2⟩:=Av ps qs _ cs _ hput hf (by simpa using hl) (fun i o s av j x h1 h2=>hp (i+1) o s av j x h1 h2)
         refine⟨r, ?_,hr2⟩;simp only[Instr.fill,hpl];have e1:x.cells.size=s:=by rw[hxc.1,hb1]
         have e2:=h.1;rw[if_neg (by simp[e1];omega)];exact hr1
       · cases hf
theorem Aw:∀(es:List (List DC)) (l:List UInt8),fH es=some l->∃ns:List Int,es=ns.map (fun n=>[DC.raw (.int .u8 n)])/\l=ns.map (fun n=>UInt8.ofNat n.toNat)
 |[],l,h=>by simp[fH] at h;subst h;exact⟨[],rfl,rfl⟩
 | e0::es,l,h=>by
   match e0,h with
   | [.raw (.int .u8 n)],h=>
     simp only[fH] at h;cases hb:fH es with
     | none=>simp[hb] at h
     | some l'=>
       simp only[hb,aXG,Option.some.injEq] at h;subst h;obtain⟨ns,rfl,rfl⟩:=Aw es l' hb;exact⟨n::ns,rfl,rfl⟩
theorem aCx(ns:List Int):∀acc:ByteArray,ns.foldl (fun r n=>r.push (UInt8.ofNat n.toNat)) acc=⟨acc.data++(ns.map (fun n=>UInt8.ofNat n.toNat)).toArray⟩:=by
 induction ns with
 |nil=>intro acc;simp
 |cons n ns ih=>
  intro acc;simp only[aYO,ih];congr 1;apply Array.ext';simp[ByteArray.push]
theorem Fk(a:Addr)(n c:Nat)(es:List (List DC))(l:List UInt8)(hb:fH es=some l)(hn:es.length=n)
  (hc:∀(i:Nat) n,es[i]?=some [.raw (.int .u8 n)]->w.cell? (a.add i)=some (.int .u8 n)):
  (Conv.bytesToString (.slice (some a) n c)).run P w=.ok (.string ⟨l.toArray⟩) w:=by
 obtain⟨ns,rfl,rfl⟩:=Aw es l hb;subst hn;have h1:=run_loadCells_list (P:=P) w a (ns.map (Value.int .u8)) (fun j v hv=>by
   simp only[aXI] at hv;cases hj:ns[j]? with
   | none=>simp[hj] at hv
   | some m=>
     simp[hj] at hv;subst hv;exact hc j m (by simp[hj]))
 simp only[aXC] at h1 ⊢;rw[run_bytesToString w a _ c ns h1,aCx];simp
theorem D4:∀(cs:List aT) (l:List UInt8),iV cs=some l->∃ns:List Int,cs=ns.map (fun n=>aT.dc (.raw (.int .u8 n)))/\fH (ns.map fun n=>[DC.raw (.int .u8 n)])=some l
 |[],l,h=>by simp[iV] at h;subst h;exact⟨[],rfl,rfl⟩
 | c0::cs,l,h=>by
   match c0,h with
   | .dc (.raw (.int .u8 n)),h=>
     simp only[iV] at h;cases hb:iV cs with
     | none=>simp[hb] at h
     | some l'=>
       simp only[hb,aXG,Option.some.injEq] at h;subst h;obtain⟨ns,rfl,h2⟩:=D4 cs l' hb;exact⟨n::ns,rfl,by simp[fH,h2]⟩
theorem aHk{av v:AV}{x:Value}{s d e:TypeId}(h:mU hp av=some v)(hx:RV F γ av x)(hi:dE F γ hp w)(hs:P.underlying s=some (.slice e))(hd:P.underlying d=some .string)
  (he:P.underlying e=some (.int .u8)):∃r,(convert s d x).run P w=.ok r w/\RV F γ v r:=by
 have hnil:∀A c,(Conv.bytesToString (.slice A 0 c)).run P w=.ok (.string ⟨#[]⟩) w:=by
  intro A c;cases A with
  |none=>rfl
  |some a=>exact Fk a 0 c [] [] rfl rfl (fun i n h=>by simp at h)
 have hcv:(∃A n c,x=.slice A n c)->(convert s d x).run P w=(Conv.bytesToString x).run P w:=by
  rintro⟨A,n,c,rfl⟩;simp[convert,run_underlying hs,run_underlying hd,run_underlying he]
 unfold mU at h;split at h;rename_i es;cases hb:fH es with
 |none=>simp[hb] at h
 |some l=>
  simp only[hb,aXG,Option.some.injEq] at h;subst h;cases hx with|one c v hc=>cases hc with|dc d v hdd=>cases hdd with
  |nil A c=>
   simp[fH] at hb;subst hb;exact⟨_,by rw[hcv ⟨_,_,_,rfl⟩,hnil],bP rfl⟩
  |slc b off c size es g hsz hr hcc hcap=>
   have key:∀(i:Nat) (n:Int),es[i]?=some [.raw (.int .u8 n)]->w.cell? ((⟨b,off,none⟩:Addr).add i)=some (.int .u8 n):=by
    intro i n hin;have h1:size=1:=by have:=hsz _ (aX0 hin);simpa using this.symm
    subst h1;have h2:=hcc i 0 _ _ hin rfl;have h3:=hr i 0 _ _ hin rfl;rw[dI];simp at h2;have h4:=Fz.cell_world hi.fz h2;rw[h4];generalize g i 0=y at h3;cases h3;rfl
   exact⟨_,by rw[hcv ⟨_,_,_,rfl⟩,Fk _ _ _ es l hb rfl key],bP rfl⟩
 injection h with h;subst h
 rw[cO hx] at hcv ⊢;exact⟨_,by rw[hcv ⟨_,_,_,rfl⟩];rfl,bP rfl⟩;rename_i id n;split at h;rename_i cap s' es hb;split at h;rename_i hne;cases hbo:fH (es.take n) with
 |none=>simp[hbo] at h
 |some l=>
  simp only[hbo,aXG,Option.some.injEq] at h;subst h;cases hx with|one c v hc=>cases hc with
  |bldN _ cap' hgm=>
   simp[fH] at hbo;subst hbo;exact⟨_,by rw[hcv ⟨_,_,_,rfl⟩,hnil],bP rfl⟩
  |bld _ _ b cap' hgm=>
   obtain⟨hcc,hec,hes,vs,T,hh,hsz,hr⟩:=hi.arr hb hgm;have key:∀(i:Nat) (m:Int),(es.take n)[i]?=some [.raw (.int .u8 m)]->w.cell? ((⟨b,0,none⟩:Addr).add i)=some (.int .u8 m):=by
    intro i m hin;have hin':es[i]?=some [.raw (.int .u8 m)]:=by
     rw[aX2] at hin;split at hin;exact hin;cases hin
    have h1:s'=1:=by have:=hes _ (aX0 hin');simpa using this.symm
    subst h1;have hilt:=aG hin';have hlt2:i<vs.size:=by rw[hsz];omega
    have hv:vs[i]?=some (vs[i]'hlt2):=aX8 hlt2;have h3:=hr i 0 _ _ _ hin' rfl (by rw[aYv,aYp];exact hv);rw[dI,lO hh];simp only[aYi];rw[hv];generalize vs[i]'hlt2=y at h3;cases h3;rfl
   exact⟨_,by rw[hcv ⟨_,_,_,rfl⟩,Fk _ _ _ (es.take n) l hbo (by simp;omega) key],bP rfl⟩
 cases h;cases h;rename_i id k0 n z;split at h;rename_i cs hb;split at h;rename_i hne;obtain⟨rfl,hle⟩:=hne;cases hbo:iV ((cs.drop k0).take n) with
 |none=>simp[hbo] at h
 |some l=>
  simp only[hbo,aXG,Option.some.injEq] at h;subst h;obtain⟨ns,hns,hbs⟩:=D4 _ _ hbo;cases hx with|one c v hc=>cases hc with
  |bls _ _ _ _ b cap' c off hgm ho hcn=>
   rcases hgm with hgm|hgm;exact absurd hgm (hi.noBox hb);obtain⟨vs,T,hh,hsz,hr⟩:=hi.box hb hgm;have hlen:ns.length=n:=by
    have:=congrArg List.length hns;simp only[aXK,aXS,aXC] at this;omega
   by_cases h0:n=0;subst h0;have:ns=[]:=List.length_eq_zero_iff.1 hlen;subst this;simp[fH] at hbs;subst hbs;exact⟨_,by rw[hcv ⟨_,_,_,rfl⟩,hnil],bP rfl⟩;have ho':=ho h0
   have key:∀ (i:Nat) (m:Int),(ns.map fun n=>[DC.raw (.int .u8 n)])[i]?=some [.raw (.int .u8 m)]->w.cell? ((⟨b,off,none⟩:Addr).add i)=some (.int .u8 m):=by
     intro i m hin;rw[aXI] at hin;obtain⟨q,hq,hqm⟩:=Option.map_eq_some_iff.1 hin;have hqm':q=m:=by simpa using hqm
     subst hqm';have hc1:((cs.drop k0).take n)[i]?=some (.dc (.raw (.int .u8 q))):=by rw[hns,aXI,hq];rfl
     rw[aX2] at hc1;split at hc1
     · rw[aX9] at hc1
       have hlt:=aG hc1;have hv:vs[k0+i]?=some (vs[k0+i]'(by omega)):=aX8 (by omega);have h3:=hr _ _ _ hc1 hv;rw[dI,lO hh,ho',aYv,hv];generalize vs[k0+i]'(by omega)=y at h3;cases h3 with | dc _ _ h3=>cases h3;rfl
     · cases hc1
   exact⟨_,by rw[hcv ⟨_,_,_,rfl⟩,Fk _ _ _ _ l hbs (by simp[hlen]) key],bP rfl⟩
 cases h;cases h;cases h
theorem Wb{G:aE}{sl:List AV}{a:Act}(hs:bV F γ sl a)(hg:eU F G):∀(caps:List Operand) (cs:List aT),
  ((caps.map aU).mapM fun c=>hP (aK G sl c))=some cs->
  cs.length=caps.length/\∀(i:Nat) c x,cs[i]?=some c->caps[i]?=some x->RC F γ c (a.eval x)
 | [],cs,h=>by
   simp at h;subst h;exact⟨rfl,fun i c x h=>by simp at h⟩
 | o::caps,cs,h=>by
   rw[aXL,aYw] at h;have hr:=cR (G:=G) hs hg o;cases he:hP (aK G sl (aU o)) with
   | none=>rw[he] at h;cases h
   | some c=>
     have hone:aK G sl (aU o)=.one c:=by
       generalize aK G sl (aU o)=av at he;cases av<;>simp[hP] at he;rw[he]
     rw[hone] at hr;rw[he] at h;cases hm:((caps.map aU).mapM fun c=>hP (aK G sl c)) with
     | none=>rw[hm] at h;cases h
     | some cs'=>
       rw[hm] at h;have h':c::cs'=cs:=by injection h
       subst h';obtain⟨h1,h2⟩:=Wb hs hg caps cs' hm;refine⟨by simp[h1],fun i c' x hc hx=>?_⟩
       cases i with
       | zero=>
         simp at hc hx;subst hc;subst hx;cases hr with | one c v h=>exact h
       | succ i=>exact h2 i c' x (by simpa using hc) (by simpa using hx)
theorem Gs{G:aE}{sl:List AV}{p:List (Nat×Nat) ⊕ Nat}:∀(ps:List (Nat×Operand)) (l:List (Nat×Nat×aH)),ps.mapM (nL p)=some l->
  l.length=ps.length/\∀(i:Nat) o s av,(l.map fun (o,s,x)=>(o,s,aK G sl x))[i]?=some (o,s,av)->∃j x,ps[i]?=some (j,x)/\pF p j=some (o,s)/\av=aK G sl (aU x)
 |[],l,h=>by simp at h;subst h;exact⟨rfl,fun i o s av h=>by simp at h⟩
 | (j,x)::ps,l,h=>by
   simp only[aYw,nL] at h;cases hp:pF p j with
   | none=>simp[hp] at h
   | some q=>
     obtain⟨o,s⟩:=q;cases hm:ps.mapM (nL p) with
     | none=>simp[hp,hm] at h
     | some l'=>
       simp[hp,hm] at h;subst h;obtain⟨h1,h2⟩:=Gs (G:=G) (sl:=sl) ps l' hm;refine⟨by simp[h1],fun i o' s' av hi=>?_⟩
       cases i with
       | zero=>
         simp at hi;exact⟨j,x,rfl,by rw[hp,hi.1,hi.2.1],hi.2.2.symm⟩
       | succ i=>exact h2 i o' s' av (by simpa using hi)
theorem aCy{G:aE}{sl:List AV}{a:Act}(hs:bV F γ sl a)(hg:eU F G){t:TypeId}{p:List (Nat×Nat) ⊕ Nat}{inf:TypeInfo}{z:Value}{ps:Array (Nat×Operand)}{l:List (Nat×Nat×aH)}{cs:List aT}
  (ht:Fj P t=some p) (hin:P.info? t=some inf) (hz:inf.zero=some z) (hz1:z.cells.toList.all is1=true)
  (hm:ps.toList.mapM (nL p)=some l) (hf:gX (z.cells.toList.map dA) (l.map fun (o,s,x)=>(o,s,aK G sl x))=some cs):
  ∃r,(Instr.build t (ps.map fun (i,x)=>(i,a.eval x))).run P w=.ok r w/\RV F γ (.agg cs) r:=by
 obtain⟨h1,h2⟩:=Gs (G:=G) (sl:=sl) ps.toList l hm;have hzr:RCs F γ (z.cells.toList.map dA) z.cells:=by
  have:=RCs.raw (F:=F) (γ:=γ) (vs:=z.cells.toList) (fun v hv=>aY2.1 hz1 v hv)
  simpa using this
 obtain⟨r,hr1,hr2⟩:=Av (place:=pF p) (l.map fun (o,s,x)=>(o,s,aK G sl x)) (ps.toList.map fun (i,x)=>(i,a.eval x)) _ cs z.cells hzr hf (by simp at h1 ⊢;exact h1) (fun i o s av j x hi hj=>by
   obtain⟨j',x',h3,h4,h5⟩:=h2 i o s av hi;simp only[aXI,h3,aXG,Option.some.injEq,Prod.mk.injEq] at hj;obtain⟨rfl,rfl⟩:=hj;exact⟨h4,h5 ▸ cR hs hg x'⟩)
 refine⟨.agg r,?_,.agg _ _ hr2.1 hr2.2⟩;refine run_build w t _ r ?_;unfold Fj at ht;unfold Program.built;split at ht;rename_i fs hu;cases hpl:fs.toList.mapM (fun f=>(P.info? f.type).map fun i=>(f.offset,i.size)) with
 |none=>simp[hpl] at ht
 |some pl=>
  simp only[hpl,aXG,Option.some.injEq] at ht;subst ht;simp only[hin,hu,hz,hpl];have e:(fun x=>pl.toArray[x]?)=pF (.inl pl):=by funext x;simp[pF]
  rw[e];simpa using hr1
 rename_i n e hu;cases hie:P.info? e with
 |none=>simp[hie] at ht
 |some ie=>
  simp only[hie,aXG,Option.some.injEq] at ht;subst ht;simp only[hin,hu,hz,hie];have e:(fun i=>some (i*ie.size,ie.size))=pF (.inr ie.size):=by funext x;simp[pF]
  rw[e];simpa using hr1
 cases ht
theorem Cz{G:aE}{sl:List AV}{a:Act}(hs:bV F γ sl a)(hg:eU F G)(x:Option Operand):RO F γ ((x.map aU).map (aK G sl)) (x.map a.eval):=by
 cases x with
 |none=>trivial
 |some x=>exact cR hs hg x
theorem Zx{F:Fz}{γ:List OI}{c:aT}{x:Value}(h:RV F γ (.one c) x):RC F γ c x:=by cases h with|one c v h=>exact h
theorem aCz{G:aE}{as:AS}{P:Program}{args:Array Operand}{ts:Array TypeId}{ai:AI}
  (hc:(match ts.toList,args.toList with
  |[t,u],[s,x]=>
   match P.underlying t,P.underlying u with
   |some (.slice e),some (.slice e')=>
    if e=e' then (P.info? e).bind fun i=>i.zero.bind fun z=>if z.cells.size=i.size/\0<i.bytes then some (AI.app i.size i.bytes z.cells.toList (aU s) (aU x)) else none else none
   |some (.slice e),some .string=>if P.underlying e matches some (.int .u8) then (P.info? e).bind fun i=>i.zero.bind fun z=>if i.size=1/\i.bytes=1/\z.cells.size=1 then some (AI.apps (aU s) (aU x)) else none else none
   |_,_=>none
  | _,_=>none)=some ai):cX G as ai=none:=by
 repeat' (first|(obtain⟨_,_,hc⟩:=hc)|split at hc|(simp only[aYu,Option.map_eq_some_iff] at hc))
 all_goals first|(cases hc;done)|(injection hc with hc;subst hc;rfl)|(subst hc;rfl)|rfl
theorem aCA{G:aE}{as:AS}{a:Act}{o:Oper}{ai:AI}{v:AV}(hc:bB P o=some ai)(he:cX G as ai=some v)(hi:dE F γ as.hp w)(hs:bV F γ as.sl a)(hg:eU F G):
  ∃x,(execOp a.eval o).run P w=.ok (.value x) w/\RV F γ v x:=by
 have lift:∀(s:Sem Value),(∃r,s.run P w=.ok r w/\RV F γ v r)->∃x,((do pure (Next.value (<- s))):Sem Next).run P w=.ok (.value x) w/\RV F γ v x:=by
  rintro s ⟨r,h1,h2⟩;exact⟨r,by simp[h1],h2⟩
 have ra:=fun x=>cR (G:=G) hs hg x
 obtain⟨dst,op,type,pos,after,guard⟩:=o;unfold bB at hc;cases op<;>simp only[reduceCtorEq] at hc
 case move x=>
  injection hc with hc;subst hc
  simp only[cX,Option.some.injEq] at he;subst he;exact⟨_,rfl,ra x⟩
 case assign x=>
  injection hc with hc;subst hc
  simp only[cX,Option.some.injEq] at he;subst he;exact⟨_,rfl,ra x⟩
 case pick c x y=>
  injection hc with hc;subst hc
  simp only[cX,Au] at he;split at he;rename_i b hb;injection he with he;subst he
  have:=L6 (ra c) hb;refine⟨if b then a.eval x else a.eval y,?_,?_⟩
  simp[execOp,this,asBool];cases b;exact ra y;exact ra x;cases he
 case alloc e=>cases h1:P.info? e with
   | none=>simp[h1] at hc
   | some i=>cases h2:i.zero with
     | none=>simp[h1,h2] at hc
     | some z=>
       simp only[h1,h2,aXP] at hc;split at hc
       · injection hc with hc;subst hc;simp[cX] at he
       · cases hc
 case box e x=>injection hc with hc;subst hc;simp[cX] at he
 case load t x=>
  cases h1:Cy P t with
  |none=>simp[h1] at hc
  | some g=>cases h2:cZ P t with
    | none=>simp[h1,h2] at hc
    | some s=>
      simp only[h1,h2,aXP,aXG,Option.some.injEq] at hc;subst hc;exact lift _ (V7 he hi (ra x) h1 h2 rfl)
 case store t x y=>cases h2:cZ P t with
     | none=>simp[h2] at hc
     | some s=>simp only[h2,aXG,Option.some.injEq] at hc;subst hc;simp[cX] at he
 case nilCheck x=>
  injection hc with hc;subst hc
  obtain⟨hv,ad,hx⟩:=V8 he (ra x);refine⟨a.eval x,?_,hv⟩;simp[execOp,hx]
 case binOp op t x y u=>
  unfold nU at hc;split at hc;rename_i hu;cases op<;>simp only[reduceCtorEq] at hc;injection hc with hc;subst hc
  exact lift _ (V9 (neg:=false) he (ra x) (ra y) hu);injection hc with hc;subst hc
  exact lift _ (V9 (neg:=true) he (ra x) (ra y) hu);injection hc with hc;subst hc
  exact lift _ (aCr he (ra x) (ra y));injection hc with hc;subst hc
  exact lift _ (aCr he (ra x) (ra y));rename_i fs hu;split at hc;rename_i hq;cases op<;>simp only[reduceCtorEq] at hc;cases hf:pJ P fs.toList 0 with
  |none=>simp[hf] at hc
  |some ks=>
   simp only[hf,aXG,Option.some.injEq] at hc;subst hc;exact lift _ (aCs (neg:=false) he (ra x) (ra y) hu hf hq.1 hq.2)
  cases hf:pJ P fs.toList 0 with
  |none=>simp[hf] at hc
  |some ks=>
   simp only[hf,aXG,Option.some.injEq] at hc;subst hc;exact lift _ (aCs (neg:=true) he (ra x) (ra y) hu hf hq.1 hq.2)
  cases hc;rename_i n e hu;split at hc;rename_i hq;split at hc;rename_i k hk;injection hc with hc;subst hc
  exact lift _ (Wa (neg:=false) he (ra x) (ra y) hu hk hq.2.2 hq.1);rename_i k hk;injection hc with hc;subst hc
  exact lift _ (Wa (neg:=true) he (ra x) (ra y) hu hk hq.2.2 hq.1);cases hc;cases hc;rename_i d _ _ _ _ _ hu;unfold lN at hc;split at hc;cases hk:Oy d y with
  |none=>simp[hk] at hc
  |some p=>
   simp only[hk,aXG,Option.some.injEq] at hc;subst hc;exact lift _ (aCw (neg:=false) he (ra x) hu hk)
  cases hk:Oy d y with
  |none=>simp[hk] at hc
  |some p=>
   simp only[hk,aXG,Option.some.injEq] at hc;subst hc;exact lift _ (aCw (neg:=true) he (ra x) hu hk)
  cases hc;cases hc
 case unOp op t x=>
  injection hc with hc;subst hc
  exact lift _ (aQO he (ra x))
 case convert s d x=>
  unfold mC at hc;split at hc;rename_i k1 k h1 h2;injection hc with hc;subst hc
  simp only[cX] at he;cases hn:bH (aK G as.sl (aU x)) with
  |none=>simp[hn] at he
  |some n=>
   simp only[hn,aXG,Option.some.injEq] at he;subst he;exact lift _ (aHh hn (ra x) h1 h2)
  rename_i h1 h2;injection hc with hc;subst hc
  simp only[cX] at he;cases hn:dB (aK G as.sl (aU x)) with
  |none=>simp[hn] at he
  |some n=>
   simp only[hn,aXG,Option.some.injEq] at he;subst he;exact lift _ (aHi hn (ra x) h1 h2)
  rename_i e h1 h2;split at hc;rename_i h3;injection hc with hc;subst hc
  exact lift _ (aHk he (ra x) hi h1 h2 h3);cases hc;rename_i e h1 h2;split at hc;injection hc with hc;subst hc;simp[cX] at he
  cases hc;cases hc
 case fieldAddr s x f=>
  cases h1:sH P s f with
  |none=>simp[h1] at hc
  | some fl=>cases h2:cZ P fl.type with
    | none=>simp[h1,h2] at hc
    | some n=>
      simp only[h1,h2,aXP] at hc;split at hc
      · cases hc
      · rename_i hn
        injection hc with hc;subst hc
        obtain⟨b,off,hx,hv⟩:=Gn he (ra x);unfold sH at h1;split at h1
        · rename_i fs hu
          unfold cZ at h2;cases hin:P.info? fl.type with
          | none=>simp[hin] at h2
          | some inf=>
            simp only[hin,aXG,Option.some.injEq] at h2;refine lift _ ⟨_, ?_,hv⟩;simp[Instr.fieldAt,hx,run_underlying hu,h1,Instr.sureAddr,fieldPlace,sizeOf,typeInfo,hin,h2,hn,dI]
        · cases h1
 case field s x f=>
  cases h1:sH P s f with
  |none=>simp[h1] at hc
  | some fl=>cases h2:Cy P fl.type with
    | none=>simp[h1,h2] at hc
    | some g=>cases h3:cZ P fl.type with
      | none=>simp[h1,h2,h3] at hc
      | some n=>
        simp only[h1,h2,h3,aXP,aXG,Option.some.injEq] at hc;subst hc;obtain⟨y,cs,hx,hr,hv⟩:=aMv (P:=P) (w:=w) he (ra x) h2 h3 rfl;unfold sH at h1;split at h1
        · rename_i fs hu
          refine lift _ ⟨y, ?_,hv⟩;simp[Instr.field,hx,run_underlying hu,h1,asAgg,hr]
        · cases h1
 case indexAddr t x i=>
  split at hc;rename_i n e hu;cases h1:cZ P e with
  |none=>simp[h1] at hc
  |some s=>
   simp only[h1,aXG,Option.some.injEq] at hc;subst hc;simp only[cX] at he;cases hn:bH (aK G as.sl (aU i)) with
   |none=>simp[hn] at he
   |some k=>simp only[hn,aXP] at he;exact lift _ (aMw hn (ra i) he (ra x) hu h1)
  rename_i e hu;cases h1:cZ P e with
  |none=>simp[h1] at hc
  |some s=>
   simp only[h1,aXG,Option.some.injEq] at hc;subst hc;simp only[cX] at he;cases hn:bH (aK G as.sl (aU i)) with
   |none=>simp[hn] at he
   |some k=>simp only[hn,aXP] at he;exact lift _ (aMx hn (ra i) he (ra x) hi hu h1)
  cases hc
 case index t x i=>
  split at hc;rename_i h3;injection hc with hc;subst hc
  simp only[cX] at he;cases hn:bH (aK G as.sl (aU i)) with
  |none=>simp[hn] at he
  |some k=>simp only[hn,aXP] at he;exact lift _ (aMy hn (ra i) he (ra x) (by rw[h3]))
  rename_i n e hu;split at hc;rename_i hq;injection hc with hc;subst hc
  simp only[cX] at he;cases hn:bH (aK G as.sl (aU i)) with
  |none=>simp[hn] at he
  |some k=>simp only[hn,aXP] at he;exact lift _ (aMC hn (ra i) he (ra x) hu hq.1 hq.2)
  cases hc;cases hc
 case sliceToArrayPointer t x=>
  split at hc;rename_i n e hu;split at hc;rename_i hq;injection hc with hc;subst hc
  exact lift _ (aMD he (ra x) hu);cases hc;cases hc
 case slice t x lo hi' mx=>
  cases mx with
  |some m=>simp only[reduceCtorEq] at hc
  |none=>
   simp only at hc;split at hc;rename_i hu;injection hc with hc;subst hc
   exact lift _ (aMz (Cz hs hg lo) (Cz hs hg hi') he (ra x) hu);rename_i e hu;cases h1:cZ P e with
   |none=>simp[h1] at hc
   |some s=>
    simp only[h1,aXG,Option.some.injEq] at hc;subst hc;exact lift _ (aMA (Cz hs hg lo) (Cz hs hg hi') he (ra x) hi hu h1)
   rename_i n e hu;cases h1:cZ P e with
   |none=>simp[h1] at hc
   |some s=>
    simp only[h1,aXP] at hc;split at hc;cases hc;rename_i h0;injection hc with hc;subst hc
    exact lift _ (aMB (Cz hs hg lo) (Cz hs hg hi') he (ra x) hu h1 h0)
   cases hc
 case lookup t x ix ok=>
  split at hc;rename_i kt et hu;split at hc;rename_i hk;cases hz:(P.info? et).bind fun i=>i.zero with
  |none=>rw[hz] at hc;cases hc
  |some z=>
   rw[hz] at hc;simp only[aXP,if_true] at hc;split at hc;rename_i hz1;injection hc with hc;subst hc
   exact lift _ (aME hi.fz he (ra x) (ra ix) hu hk hz hz1);cases hc
  simp at hc;cases hc
 case build t ps=>
  cases h1:Fj P t with
  |none=>simp[h1] at hc
  | some p=>cases h2:P.info? t with
    | none=>simp[h1,h2] at hc
    | some i=>cases h3:i.zero with
      | none=>simp[h1,h2,h3] at hc
      | some z=>
        simp only[h1,h2,h3,aXP] at hc;split at hc
        · rename_i hz1
          cases h4:ps.toList.mapM (nL p) with
          | none=>simp[h4] at hc
          | some l=>
            simp only[h4,aXG,Option.some.injEq] at hc;subst hc;simp only[cX] at he;cases h5:gX (z.cells.toList.map dA) (l.map fun (o,s,x)=>(o,s,aK G as.sl x)) with
            | none=>simp[h5] at he
            | some cs=>
              simp only[h5,aXG,Option.some.injEq] at he;subst he;exact lift _ (aCy hs hg h1 h2 h3 hz1 h4 h5)
        · cases hc
 case buildSlice t len ps=>
  split at hc;rename_i e hu;cases h1:P.info? e with
  |none=>simp[h1] at hc
  | some i=>cases h2:i.zero with
    | none=>simp[h1,h2] at hc
    | some z=>
      simp only[h1,h2,aXP] at hc;split at hc
      · injection hc with hc;subst hc;simp[cX] at he
      · cases hc
  cases hc
 case makeSlice t l c=>
  split at hc;rename_i e hu;cases h1:P.info? e with
  |none=>simp[h1] at hc
  | some i=>cases h2:i.zero with
    | none=>simp[h1,h2] at hc
    | some z=>
      simp only[h1,h2,aXP] at hc;split at hc
      · injection hc with hc;subst hc;simp[cX] at he
      · cases hc
  cases hc
 case extract x n=>
  injection hc with hc;subst hc
  exact lift _ (aCt he (ra x))
 case makeFunc fn first caps=>
  cases fn<;>simp only[reduceCtorEq] at hc;rename_i f;split at hc;rename_i hfe;injection hc with hc;subst hc
  simp only[cX] at he;cases h5:((caps.toList.map aU).mapM fun c=>hP (aK G as.sl c):Option (List aT)) with
  |none=>rw[h5] at he;simp at he
  |some cs=>
   rw[h5] at he;simp only[aXG,Option.some.injEq] at he;subst he;obtain⟨hl,hr⟩:=Wb hs hg caps.toList cs h5;have hf0:first=#[]:=by simpa using hfe
   subst hf0;refine lift _ ⟨.func (.func f) #[] (caps.map a.eval),by simp[Instr.makeFunc],.one _ _ ?_⟩;have e:caps.map a.eval=((List.range cs.length).map fun i=>(caps.map a.eval).toList.getD i undef).toArray:=by
     apply Array.ext';apply aY5;intro j;simp only[aXI,Array.toList_map,aY8];by_cases hj:j < caps.size
     · have hj2:j < cs.length:=by rw[hl];simpa using hj
       simp[hj,hj2]
     · have hj2:¬ j < cs.length:=by rw[hl];simpa using hj
       simp[hj,hj2]
   rw[e];refine .fn f cs _ (fun i c hci=>?_)
   have hilt:i<caps.size:=by have:=aG hci;rw[hl] at this;simpa using this
   have:=hr i c (caps[i]'hilt) hci (by simp[hilt]);simpa[hilt] using this
  cases hc
 case call c=>
  obtain⟨callee,args,argTypes⟩:=c;unfold eQ at hc;cases callee<;>simp only[reduceCtorEq] at hc
  case value f=>
   cases f<;>simp only[reduceCtorEq] at hc;injection hc with hc;subst hc;simp[cX] at he
   split at hc;split at hc;cases hc;injection hc with hc;subst hc;simp[cX] at he
   cases hc
  case builtin b=>
   cases b<;>simp only[reduceCtorEq] at hc
   case append=>
    exfalso;have h0:=aCz (G:=G) (as:=as) hc;rw[h0] at he;cases he
   case copy=>
    split at hc;split at hc;split at hc;injection hc with hc;subst hc;simp[cX] at he
    cases hc;cases hc;cases hc
   case clear=>
    split at hc;rename_i t x ht hx;split at hc;rename_i e hu;cases h1:P.info? e with
    |none=>simp[h1] at hc
    | some i=>cases h2:i.zero with
      | none=>simp[h1,h2] at hc
      | some z=>
        simp only[h1,h2,aXP] at hc;split at hc
        · injection hc with hc;subst hc;simp[cX] at he
        · cases hc
    cases hc;cases hc
   case len=>
    split at hc;rename_i t x ht hx;have hax:(args.map a.eval)[0]?=some (a.eval x):=by simp[hx]
    split at hc;rename_i hu;injection hc with hc;subst hc
    simp only[cX] at he;cases hn:dB (aK G as.sl (aU x)) with
    |none=>simp[hn] at he
    |some s=>
     simp only[hn,aXG,Option.some.injEq] at he;subst he;have:=sI (ra x) hn;exact⟨.int .i64 s.size,by simp[execOp,resolve,invoke,builtin,Builtin.len_,ht,hx,run_underlying hu,this,goInt],bP rfl⟩
    rename_i e hu;injection hc with hc;subst hc
    obtain⟨r,h1,h2⟩:=aHj (P:=P) (w:=w) (ty:=type) he (ra x) hu argTypes ht (args.map a.eval) hax;exact⟨r,by simp[execOp,resolve,invoke,builtin,h1],h2⟩;rename_i n e hu;injection hc with hc;subst hc
    simp only[cX,Option.some.injEq] at he;subst he;exact⟨.int .i64 n,by simp[execOp,resolve,invoke,builtin,Builtin.len_,ht,hx,run_underlying hu,goInt],bP rfl⟩;rename_i e hu;split at hc;rename_i n e2 hu2;injection hc with hc;subst hc
    simp only[cX,Option.some.injEq] at he;subst he;exact⟨.int .i64 n,by simp[execOp,resolve,invoke,builtin,Builtin.len_,ht,hx,run_underlying hu,run_underlying hu2,goInt],bP rfl⟩;cases hc;cases hc;cases hc
   case min=>
    split at hc;rename_i x y hxy;injection hc with hc;subst hc
    obtain⟨r,h1,h2⟩:=aMF (P:=P) (w:=w) he (ra x) (ra y);have:(args.map a.eval).toList=[a.eval x,a.eval y]:=by simp[hxy]
    exact⟨r,by simp[execOp,resolve,invoke,builtin,Builtin.min_,this,hxy,h1],h2⟩;cases hc
   case max=>
    split at hc;rename_i x y hxy;injection hc with hc;subst hc
    obtain⟨r,h1,h2⟩:=aMG (P:=P) (w:=w) he (ra x) (ra y);have:(args.map a.eval).toList=[a.eval x,a.eval y]:=by simp[hxy]
    exact⟨r,by simp[execOp,resolve,invoke,builtin,Builtin.max_,this,hxy,h1],h2⟩;cases hc
end
end
end Go.Proofs.YthepfneloomngaaGreatDoor
