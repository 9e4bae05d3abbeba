/- Part. Conditions: none. -/
import Derived.Test.YtalhnjjchkmfeabGreatDoorLd
namespace Go.Proofs.YtalhnjjchkmfeabGreatDoor
set_option linter.unusedSimpArgs false
set_option linter.unusedVariables false
section
section
variable {P:Program}{F:Fz}{γ:L OI}{w:World}{hp:L aD}
theorem aJ{α:Type}{l:L α}{i:Nat}{x:α}(h:l[i]?=some x):i<l.length:=by
 rcases bAp i l.length with b|b;exact b;rw[bAi b] at h;cases h
theorem aSh{c:UnOp}{av v:AV}{x:Value}(h:unV c av=some v)(b:RV F γ av x):∃r,(Op.unary c x).run P w=.ok r w/\RV F γ v r:=by
 unfold unV at h;split at h;injection h with h;subst h;rw[cX b]
 exact⟨_,by simp[Op.unary,Op.intArith],bU rfl⟩;injection h with h;subst h;rw[cX b]
 exact⟨_,by simp[Op.unary],bU rfl⟩;rename_i k n;rw[cX b];simp only[lZ,aZf,Option.some.injEq] at h;subst h;exact⟨_,by simp[Op.unary,Op.intBits],bU rfl⟩;cases h
theorem aI2{s d:TypeId}{b:TypeDesc}{k:IntKind}{n:Int}{av:AV}{x:Value}(h:bH av=some n)(f:RV F γ av x)(e:P.underlying s=some b)(c:P.underlying d=some (.int k)):∃r,(convert s d x).run P w=.ok r w/\RV F γ (dS (.int k (k.wrap n))) r:=by
 obtain⟨j,rfl⟩:=rB f h;exact⟨_,by simp[convert,run_underlying e,run_underlying c,Conv.intToInt],bU rfl⟩
theorem aI3{s d:TypeId}{n:ByteArray}{av:AV}{x:Value}(h:dN av=some n)(e:RV F γ av x)(c:P.underlying s=some .string)(b:P.underlying d=some .string):∃r,(convert s d x).run P w=.ok r w/\RV F γ (dS (.string n)) r:=by
 have:=uL e h;subst this;exact⟨_,by simp[convert,run_underlying c,run_underlying b],bU rfl⟩
theorem aNW{g:Bool}{s z off:Nat}{av v:AV}{x:Value}{t:TypeId}(h:aIX g s off av=some v)(H:RV F γ av x)
  (j:Ep P t=some g) (e:dL P t=some z) (q:s=if g then z else 1):
  ∃y cs,x=.agg cs/\(part t cs off).run P w=.ok y w/\RV F γ v y:=by
 unfold aIX at h;split at h;rename_i cs;split at h
 ·rename_i D;cases H with|agg _ vs G E=>
  unfold Ep at j;cases k:P.underlying t with
  |none=>simp[k] at j
  |some d=>
   simp only[k,aZf,Option.some.injEq] at j;unfold dL at e;cases b:P.info? t with
   |none=>simp[b] at e
   |some n=>
    simp only[b,aZf,Option.some.injEq] at e;have u:∀(i:Nat) c v,((cs.drop off).take s)[i]?=some c->((vs.toList.drop off).take s)[i]?=some v->RC F γ c v:=by
     intro i c v o m;simp only[aZL,aZK] at o m;split at o;rename_i r;rw[if_pos r] at m;exact E _ _ _ o (by simpa using m);cases o
    obtain⟨A,B⟩:=Yg h (vs:=(vs.toList.drop off).take s) (by simp;omega) u;cases g with
    |true=>
     refine⟨.agg (vs.extract off (off+n.size)),vs,rfl,?_,?_⟩;unfold aBd at j;split at j;simp[part,isAgg,sizeOf,typeInfo,run_underlying k,b];simp[part,isAgg,sizeOf,typeInfo,run_underlying k,b];cases j;have:=A rfl;have C:((vs.toList.drop off).take s).toArray=vs.extract off (off+n.size):=by
      apply Array.ext';simp at q;subst q;subst e;simp[List.take_drop,Array.toList_extract,List.extract_eq_take_drop]
     rwa[C] at this
    |false=>
     obtain⟨y,I,m⟩:=B rfl;simp at q;subst q;have f:vs[off]?=some y:=by
      have:=congrArg (fun l:L Value=>l[0]?) I
      simpa[aZL,aZK] using this
     refine⟨y,vs,rfl,?_,m⟩;cases d<;>first|(simp[aBd] at j;done)|simp[part,isAgg,run_underlying k,f]
 cases h;cases h
theorem aNX{n s:Nat}{av f v:AV}{x y:Value}{i:Int}{t e:TypeId}(j:bH f=some i)(q:RV F γ f y)(h:aDH n s av i=some v)(o:RV F γ av x) (l:P.underlying t=some (.array n e)) (d:dL P e=some s):∃r,(Instr.indexAt t x y).run P w=.ok r w/\RV F γ v r:=by
 obtain⟨k,rfl⟩:=rB q j;unfold aDH at h;split at h;rename_i g;obtain⟨b,off,rfl,m⟩:=Hx h o;unfold dL at d;cases c:P.info? e with
 |none=>simp[c] at d
 |some u=>
  simp only[c,aZf,Option.some.injEq] at d;subst d;refine⟨_,?_,m⟩;simp[Instr.indexAt,asIntOf,run_underlying l,Instr.sureAddr,g,sizeOf,typeInfo,c,dY]
 cases h
theorem aNY{s:Nat}{av Y v:AV}{x y:Value}{i:Int}{t e:TypeId}(hi:bH Y=some i)(hy:RV F γ Y y)(h:Cp hp s av i=some v)(J:RV F γ av x)(X:eG F γ hp w) (I:P.underlying t=some (.slice e)) (H:dL P e=some s):∃r,(Instr.indexAt t x y).run P w=.ok r w/\RV F γ v r:=by
 obtain⟨k,rfl⟩:=rB hy hi;unfold dL at H;cases o:P.info? e with
 |none=>simp[o] at H
 |some B=>
  simp only[o,aZf,Option.some.injEq] at H;subst H;unfold Cp at h;split at h;rename_i es;split at h;rename_i C;split at h;rename_i V G;split at h
  ·rename_i N;injection h with h;subst h
   have Q:=aJ G;cases J with|one c v m=>cases m with|dc d v Z=>
   cases Z with
   |nil A c=>simp at Q
   |slc b off c size es g U hr K W=>
    have T:V.length=size:=U V (aZE G);have E:0<=i/\i<(es.length:Int):=⟨C,by omega⟩;refine⟨.pointer (some ⟨b,off+i.toNat*B.size,none⟩),?_,.one _ _ (.ref _ _ _ (fun j=>g i.toNat j) (fun j d O=>hr _ _ _ _ G O) (fun j d O=>?_))⟩
    simp[Instr.indexAt,asIntOf,run_underlying I,E,sizeOf,typeInfo,o,dY];have:=K _ _ _ _ G O;rw[<- T,N] at this;rw[Nat.add_assoc];exact this
  cases h;cases h;cases h;rename_i id n;split at h;rename_i cap s' es E;split at h;rename_i m;obtain⟨C,l,R,rfl⟩:=m;injection h with h;subst h;cases J with|one c v m=>cases m with
  |bldN _ q f=>omega
  |bld _ _ b q f=>
   have u:0<=i/\i<(n:Int):=⟨C,l⟩;refine⟨.pointer (some ⟨b,i.toNat*B.size+0,none⟩),?_,.one _ _ (.ept _ _ _ _ _ _ f)⟩;simp[Instr.indexAt,asIntOf,run_underlying I,u,sizeOf,typeInfo,o,dY]
  cases h;cases h;rename_i id k0 n z;split at h;rename_i cap s' es E;split at h;rename_i m;obtain⟨C,l,R,rfl,rfl⟩:=m;injection h with h;subst h;cases J with|one c v m=>cases m with
  |bls _ _ _ _ b q c off f S M=>
   have u:0<=i/\i<(n:Int):=⟨C,l⟩;have D:=S (by omega);subst D;rcases f with f|f
   refine⟨.pointer (some ⟨b,(k0+i.toNat)*B.size+0,none⟩),?_,.one _ _ (.ept _ _ _ _ _ _ f)⟩;simp[Instr.indexAt,asIntOf,run_underlying I,u,sizeOf,typeInfo,o,dY,aZV];exact absurd f (X.noArr E)
  cases h;rename_i cs E;split at h;rename_i m;obtain⟨C,l,rfl⟩:=m;injection h with h;subst h;cases J with|one c v m=>cases m with
  |bls _ _ _ _ b q c off f S M=>
   have u:0<=i/\i<(n:Int):=⟨C,l⟩;have D:=S (by omega);subst D;rcases f with f|f
   exact absurd f (X.noBox E);refine⟨.pointer (some ⟨b,(k0+i.toNat)*B.size,none⟩),?_,.one _ _ (.ptr _ _ _ f)⟩;simp[Instr.indexAt,asIntOf,run_underlying I,u,sizeOf,typeInfo,o,dY,aZV]
  cases h;cases h;cases h
theorem aNZ{av f v:AV}{x y:Value}{i:Int}{t:TypeId}(l:bH f=some i)(q:RV F γ f y)(h:Hw av i=some v)(o:RV F γ av x) (n:P.underlying t=some .string):∃r,(Instr.index t x y).run P w=.ok r w/\RV F γ v r:=by
 obtain⟨k,rfl⟩:=rB q l;unfold Hw at h;split at h;rename_i s m;rw[uL o m];split at h;rename_i g;split at h;rename_i b j;injection h with h;subst h;have d:s[i.toNat]?=some b:=by
  have:s.data[i.toNat]?=some b:=by simpa using j
  simp only[getElem?,decidableGetElem?] at this ⊢;split at this;rename_i e;have c:i.toNat<s.size:=e;rw[dif_pos c];exact this;cases this
 exact⟨_,by simp[Instr.index,asIntOf,run_underlying n,g,d],bU rfl⟩;cases h;cases h;cases h
theorem Hz{d:Option AV}{x:Value}{av:AV}{top b r:Nat}{code:BoundsCode}(c:d=some av)(g:RV F γ av x)(h:eI d top b=some r):(Instr.sliceBound x top code).run P w=.ok r w/\r<=top:=by
 subst c;simp only[eI] at h;split at h;rename_i i f;split at h;rename_i e;injection h with h;subst h
 obtain⟨k,rfl⟩:=rB g f;exact⟨by simp[Instr.sliceBound,asIntOf,e],by omega⟩;cases h;cases h
def RO(F:Fz)(γ:L OI)(o:Option AV)(x:Option Value):Prop:=
 match o,x with
 |none,none=>True
 |some a,some x=>RV F γ a x
 |_,_=>False
theorem jB{isSlice:Bool}{q f:Option AV}{d c:Option Value}{len cap l h:Nat}(n:RO F γ q d)(e:RO F γ f c)(s:len<=cap) (b:eI f len len=some h) (j:eI q h 0=some l):(Instr.sliceBounds isSlice len cap d c none).run P w=.ok (l,h,cap) w/\l<=h/\h<=len:=by
 have m:(match c with | some v=>(Instr.sliceBound v cap (if isSlice then .sliceAcap else .sliceAlen)) | none=>pure len:Sem Nat).run P w=.ok h w/\h<=len:=by
   cases f with
   | none=>
     cases c with
     | none=>simp[eI] at b;subst b;exact⟨rfl,aZe _⟩
     | some _=>exact e.elim
   | some a=>
     cases c with
     | none=>exact e.elim
     | some x=>
       have r:h<=len:=(Hz (P:=P) (w:=w) (code:=.index) rfl e b).2;have g:eI (some a) cap len=some h:=by
         simp only[eI] at b ⊢;split at b
         · rename_i i f
           split at b
           · rename_i k
             rw[if_pos ⟨k.1,by omega⟩];exact b
           · cases b
         · cases b
       exact⟨(Hz (P:=P) (w:=w) rfl e g).1,r⟩
 have o:(match d with | some v=>(Instr.sliceBound v h (if (none:Option Value).isSome then .slice3C else .sliceB)) | none=>pure 0:Sem Nat).run P w=.ok l w/\l<=h:=by
   cases q with
   | none=>
     cases d with
     | none=>simp[eI] at j;subst j;exact⟨rfl,aZx _⟩
     | some _=>exact n.elim
   | some a=>
     cases d with
     | none=>exact n.elim
     | some x=>exact Hz (P:=P) (w:=w) rfl n j
 refine⟨?_,o.2,m.2⟩;cases c<;>cases d<;>simp_all [Instr.sliceBounds]
theorem aN0{av v:AV}{x:Value}{g e:Option AV}{j i:Option Value}{t:TypeId}(m:RO F γ g j)(k:RO F γ e i)(h:Lc av g e=some v)(o:RV F γ av x) (n:P.underlying t=some .string):∃r,(Instr.sliceAt t x j i none).run P w=.ok r w/\RV F γ v r:=by
 unfold Lc at h;cases f:dN av with
 |none=>simp[f] at h
 |some s=>
  simp only[f,aZs] at h;cases b:eI e s.size s.size with
  |none=>simp[b] at h
  |some d=>
   simp only[b,aZs] at h;cases c:eI g d 0 with
   |none=>simp[c] at h
   |some l=>
    simp only[c,aZs,Option.some.injEq] at h;subst h;rw[uL o f];have:=(jB (P:=P) (w:=w) (isSlice:=false) m k (aZe _) b c).1;exact⟨_,by simp[Instr.sliceAt,Instr.slice,run_underlying n,this],bU rfl⟩
theorem aN1{s:Nat}{av v:AV}{x:Value}{lo J:Option AV}{xl xh:Option Value}{t e:TypeId}(O:RO F γ lo xl)(N:RO F γ J xh)(h:lV hp s av lo J=some v)(W:RV F γ av x) (hv:eG F γ hp w) (ht:P.underlying t=some (.slice e)) (hs:dL P e=some s):∃r,(Instr.sliceAt t x xl xh none).run P w=.ok r w/\RV F γ v r:=by
 unfold dL at hs;cases V:P.info? e with
 |none=>simp[V] at hs
 |some y=>
  simp only[V,aZf,Option.some.injEq] at hs;subst hs;have C:∀A len cap l S,(Instr.sliceBounds true len cap xl xh none).run P w=.ok (l,S,cap) w->
    (Instr.sliceAt t (.slice A len cap) xl xh none).run P w=.ok (.slice (if cap=l then A else A.map (·.add (l*y.size))) (S-l) (cap-l)) w:=by
   intro A len cap l S H;simp[Instr.sliceAt,Instr.slice,run_underlying ht,H,sizeOf,typeInfo,V]
  unfold lV at h;split at h;rename_i es;cases B:eI J es.length es.length with
  |none=>simp[B] at h
  |some o=>
   simp only[B,aZs] at h;cases G:eI lo o 0 with
   |none=>simp[G] at h
   |some l=>
    simp only[G,aZs] at h;split at h
    ·rename_i X;injection h with h;subst h
     cases W with|one c v K=>cases K with|dc d v hd=>
     cases hd with
     |nil A c=>
      obtain⟨H,D,m⟩:=jB (P:=P) (w:=w) (isSlice:=true) (len:=0) (cap:=c) O N (aZx _) B G;simp at m;subst m;have:l=0:=by omega
      subst this;refine⟨_,C _ _ _ _ _ H,.one _ _ (.dc _ _ ?_)⟩;simp;exact .nil _ _
     |slc b off c size es g Z hr T Y=>
      obtain⟨H,D,m⟩:=jB (P:=P) (w:=w) (isSlice:=true) O N Y B G;refine⟨_,C _ _ _ _ _ H,.one _ _ (.dc _ _ ?_)⟩;have I:((es.take o).drop l).length=o-l:=by simp;omega
      rw[<- I];by_cases u:c=l;have:(es.take o).drop l=[]:=bAk (by rw[I];omega);rw[this];exact .nil _ _;rw[if_neg u];have Q:∀(i:Nat) e',((es.take o).drop l)[i]?=some e'->es[l+i]?=some e':=by
       intro i e' J;simp only[aZK,aZL] at J;split at J;exact J;cases J
      simp only[aZf,dY];by_cases R:∃e',e'∈es;obtain⟨e',M⟩:=R;have hsi:size=y.size:=by
       have h3:=Z e' M;have h4:=bAr.1 X e' M;simp at h4;omega
      subst hsi;refine .slc b (off+l*y.size) (c-l) y.size _ (fun i j=>g (l+i) j) (fun e h=>Z e (aZA (aZM h))) (fun i j e d h S=>hr _ _ _ _ (Q i e h) S) (fun i j e d h S=>?_) (by rw[I];omega)
      have:=T _ _ _ _ (Q i e h) S;rw[aZV] at this;rw[show off+l*y.size+(i*y.size+j)=off+(l*y.size+i*y.size+j) by omega];exact this;have:es=[]:=List.eq_nil_iff_forall_not_mem.2 (fun e' M=>R ⟨e',M⟩)
      subst this;simp;exact .nil _ _
    cases h
  cases B:eI J 0 0 with
  |none=>simp[B] at h
  |some o=>
   simp only[B,aZs] at h;cases G:eI lo o 0 with
   |none=>simp[G] at h
   |some l=>
    simp only[G,aZs,Option.some.injEq] at h;subst h;rw[cX W];obtain⟨H,D,m⟩:=jB (P:=P) (w:=w) (isSlice:=true) (len:=0) (cap:=0) O N (aZx _) B G;have e1:l=0:=by omega
    have e2:o=0:=by omega
    subst e1;subst e2;exact⟨_,C _ _ _ _ _ H,by simp;exact bU rfl⟩
  rename_i id n;split at h;rename_i cap s' es H;split at h;rename_i E;cases B:eI J n n with
  |none=>simp[B] at h
  |some o=>
   simp only[B,aZs,Option.some.injEq] at h;subst h;cases W with|one c v K=>cases K with
   |bldN _ k f=>
    obtain⟨q,D,m⟩:=jB (P:=P) (w:=w) (isSlice:=true) (len:=0) (cap:=0) (l:=0) O N (aZx _) B rfl;have:o=0:=by omega
    subst this;exact⟨_,C _ _ _ _ _ q,by simpa using RV.one _ _ (.bldN _ _ f)⟩
   |bld _ _ b k f=>
    obtain⟨T,hec,_⟩:=hv.arr H f;obtain⟨q,D,m⟩:=jB (P:=P) (w:=w) (isSlice:=true) (len:=n) (cap:=k) (l:=0) O N (by omega) B rfl;refine⟨_,C _ _ _ _ _ q,.one _ _ ?_⟩;have:(if k=0 then some (⟨b,0,none⟩:Addr) else (some ⟨b,0,none⟩:Option Addr).map (·.add (0*y.size)))=some ⟨b,0,none⟩:=by
     split<;>simp[Addr.add]
    rw[this];exact .bld _ _ _ _ f
  cases h;rename_i cap s' es lo' H;split at h;rename_i E;obtain⟨E,rfl⟩:=E;obtain⟨o,B,h⟩:=aZT.1 h;obtain⟨l,G,h⟩:=aZT.1 h;injection h with h;subst h;cases W with|one c v K=>cases K with
  |bldN _ k f=>
   obtain⟨q,D,m⟩:=jB (P:=P) (w:=w) (isSlice:=true) (len:=0) (cap:=0) O N (aZx _) B G;have e1:o=0:=by omega
   have e2:l=0:=by omega
   subst e1;subst e2;exact⟨_,C _ _ _ _ _ q,by simpa using RV.one _ _ (.bldN _ _ f)⟩
  |bld _ _ b k f=>
   obtain⟨T,hec,_⟩:=hv.arr H f;obtain⟨q,D,m⟩:=jB (P:=P) (w:=w) (isSlice:=true) (len:=n) (cap:=k) O N (by omega) B G;refine⟨_,C _ _ _ _ _ q,.one _ _ ?_⟩;by_cases l0:l=0;subst l0;have:(if k=0 then some (⟨b,0,none⟩:Addr) else (some ⟨b,0,none⟩:Option Addr).map (·.add (0*y.size)))=some ⟨b,0,none⟩:=by
    split<;>simp[Addr.add]
   rw[this,if_pos rfl];exact .bld _ _ _ _ f;rw[if_neg l0];by_cases u:k=l;rw[if_pos u];exact .bls _ _ _ _ _ _ _ _ (.inl f) (fun hn=>by omega) (by omega)
   rw[if_neg u];simp only[aZf,dY,aZ0];exact .bls _ _ _ _ _ _ _ _ (.inl f) (fun _=>rfl) (by omega)
  cases h;cases h;rename_i id k0 n z;split at h;rename_i cap s' es H;split at h;rename_i E;obtain⟨E,rfl,rfl⟩:=E;obtain⟨o,B,h⟩:=aZT.1 h;obtain⟨l,G,h⟩:=aZT.1 h;injection h with h;subst h;cases W with|one c v K=>cases K with
  |bls _ _ _ _ b k c off f ho U=>
   obtain⟨q,D,m⟩:=jB (P:=P) (w:=w) (isSlice:=true) (len:=n) (cap:=c) O N U B G;refine⟨_,C _ _ _ _ _ q,.one _ _ ?_⟩;by_cases u:c=l;rw[if_pos u];exact .bls _ _ _ _ _ _ _ _ f (fun hn=>by omega) (by omega)
   rw[if_neg u];simp only[aZf,dY];exact .bls _ _ _ _ _ _ _ _ f (fun hn=>by rw[ho (by omega),aZV]) (by omega)
  cases h;rename_i cs H;split at h;rename_i E;subst E;obtain⟨o,B,h⟩:=aZT.1 h;obtain⟨l,G,h⟩:=aZT.1 h;injection h with h;subst h
  cases W with|one c v K=>cases K with
  |bls _ _ _ _ b k c off f ho U=>
   obtain⟨q,D,m⟩:=jB (P:=P) (w:=w) (isSlice:=true) (len:=n) (cap:=c) O N U B G;refine⟨_,C _ _ _ _ _ q,.one _ _ ?_⟩;by_cases u:c=l;rw[if_pos u];exact .bls _ _ _ _ _ _ _ _ f (fun hn=>by omega) (by omega)
   rw[if_neg u];simp only[aZf,dY];exact .bls _ _ _ _ _ _ _ _ f (fun hn=>by rw[ho (by omega),aZV]) (by omega)
  cases h;cases h;cases h
theorem aN2{n s:Nat}{av v:AV}{x:Value}{u o:Option AV}{z y:Option Value}{t e:TypeId}(E:RO F γ u z)(D:RO F γ o y)(h:aIY n s av u o=some v)(K:RV F γ av x) (J:P.underlying t=some (.array n e)) (i:dL P e=some s) (I:s≠0):∃r,(Instr.sliceAt t x z y none).run P w=.ok r w/\RV F γ v r:=by
 unfold dL at i;cases d:P.info? e with
 |none=>simp[d] at i
 |some m=>
  simp only[d,aZf,Option.some.injEq] at i;subst i;unfold aIY at h;split at h;rename_i id off;split at h;rename_i H;obtain⟨k,A,h⟩:=aZT.1 h;obtain⟨l,B,h⟩:=aZT.1 h;injection h with h;subst h;cases K with|one c v C=>cases C with
  |ptr _ _ b g=>
   obtain⟨j,G,q⟩:=jB (P:=P) (w:=w) (isSlice:=false) (len:=n) (cap:=n) E D (aZe _) A B;refine⟨.slice (some (if n=l then ⟨b,off,none⟩ else (⟨b,off,none⟩:Addr).add (l*m.size))) (k-l) (n-l),?_,.one _ _ ?_⟩;simp[Instr.sliceAt,Instr.sureAddr,run_underlying J,j,sizeOf,typeInfo,d];by_cases f:n=l;rw[if_pos f];exact .bls _ _ _ _ _ 0 _ _ (.inr g) (fun M=>by omega) (by omega)
   rw[if_neg f];simp only[dY];refine .bls _ _ _ _ _ 0 _ _ (.inr g) (fun _=>?_) (by omega)
   rw[aZV,Nat.div_mul_cancel (Nat.dvd_of_mod_eq_zero H)]
  cases h;cases h
end
end
section
section
variable {P:Program}{F:Fz}{γ:L OI}{w:World}{hp:L aD}{a:Act}
theorem aN3{n:Nat}{k:Int}{s av v:AV}{i x:Value}{t e:TypeId}(A:bH s=some k)(y:RV F γ s i)(h:Vl n av k=some v)(G:RV F γ av x)(D:P.underlying t=some (.array n e)) (m:Ep P e=some false) (o:dL P e=some 1):∃r,(Instr.index t x i).run P w=.ok r w/\RV F γ v r:=by
 obtain⟨J,rfl⟩:=rB y A;unfold Vl at h;split at h;rename_i cs I;split at h
 ·rename_i l;cases G with|agg _ vs C B=>
  obtain⟨c,b,rfl⟩:=Option.map_eq_some_iff.1 h;have j:k.toNat<vs.size:=by omega
  have q:vs[k.toNat]?=some vs[k.toNat]:=aZR j;unfold Ep at m;obtain⟨d,E,u⟩:=Option.map_eq_some_iff.1 m;unfold dL at o;obtain⟨H,g,z⟩:=Option.map_eq_some_iff.1 o;have f:P.cellsOf e=1:=by grind[Program.cellsOf]
  refine⟨vs[k.toNat],?_,.one _ _ (B k.toNat c _ b q)⟩;simp only[Instr.index,Sem.run_bind,asIntOf,Sem.run_pure,Result.andThen_ok,run_underlying D,if_pos (show 0<=k/\k<(n:Int) from ⟨l.1,l.2.1⟩),run_sizeOf w g,f,aZ2]
  cases d<;>simp[aBd] at u<;>simp[part,isAgg,run_underlying E,q]
 cases h;cases h
theorem aN4{n:Nat}{av v:AV}{x:Value}{t e:TypeId}(h:aBc n av=some v)(i:RV F γ av x)(C:P.underlying t=some (.array n e)):∃r,(Instr.arrayAt t x).run P w=.ok r w/\RV F γ v r:=by
 unfold aBc at h;split at h;rename_i es;split at h
 ·rename_i G;injection h with h;subst h
  cases i with|one _ _ i=>cases i with|dc _ _ i=>
  cases i with
  |nil A c=>grind
  |slc b off c size es g m I o y=>
   have l:∀(es:L (L DC)),(∀e∈es,e.length=size)->∀(j:Nat) d,es.flatten[j]?=some d->0<size/\∃e,es[j / size]?=some e/\e[j % size]?=some d:=by
    intro es
    induction es with
    |nil=>simp_all
    |cons e es D=>
     intro k j d f;have z:=k e aZt;rw[aZ7] at f;by_cases H:j<size;grind[List.getElem?_append_left,Nat.div_eq_of_lt,Nat.mod_eq_of_lt];rw[aZD (by omega),z] at f;obtain⟨q,E,s,u⟩:=D (fun x i=>k x (aZB _ i)) (j-size) d f
     grind[Nat.div_eq_sub_div,Nat.mod_eq_sub_mod]
   refine⟨.pointer (some ⟨b,off,none⟩),?_,.one _ _ (.ref _ b off (fun j=>g (j / size) (j % size)) (fun j d f=>?_) (fun j d f=>?_))⟩
   have B:¬ ((es.length:Nat)<n):=by omega
   simp[Instr.arrayAt,run_underlying C,B];obtain⟨q,e,s,u⟩:=l _ (fun e k=>m e (aZA k)) j d f
   grind
   obtain⟨q,e,s,u⟩:=l _ (fun e k=>m e (aZA k)) j d f
   grind[Nat.mul_comm,Nat.div_add_mod]
 cases h;cases h
theorem aDQ{n:Nat}{av v:AV}{x:Value}(h:Vk av n=some v)(i:RV F γ av x):∃r,(Instr.extract x n).run P w=.ok r w/\RV F γ v r:=by
 unfold Vk at h;split at h
 ·rename_i l;cases i with|tup _ vs k j=>
  have f:∀t,l[n]?=some t->∃r,vs[n]?=some r/\RT F γ t r:=by
   simp_all[aJ,aZR]
  split at h;rename_i c e;injection h with h;subst h
  obtain⟨r,b,d⟩:=f _ e;refine⟨r,by simp[Instr.extract,b],?_⟩;cases d with|one c v h=>exact .one _ _ h
  rename_i c e;injection h with h;subst h
  obtain⟨r,b,d⟩:=f _ e;refine⟨r,by simp[Instr.extract,b],?_⟩;cases d with|agg c v h g=>exact .agg _ _ h g
  cases h
 cases h
theorem aI4{av v:AV}{x:Value}{t e:TypeId}{ty:TypeId}(h:tV av=some v)(l:RV F γ av x)(D:P.underlying t=some (.slice e))(q:Array TypeId)(m:q[0]?=some t)(s:Array Value)(o:s[0]?=some x):∃r,(Builtin.len_ q ty s).run P w=.ok r w/\RV F γ v r:=by
 have i:∀A n c,x=.slice A n c->(Builtin.len_ q ty s).run P w=.ok (.int .i64 n) w:=by
  rintro A n c rfl;simp[Builtin.len_,m,o,run_underlying D,goInt]
 unfold tV at h;split at h;injection h with h;subst h
 cases l with|one c v j=>cases j with|dc d v B=>cases B with
 |nil A c=>exact⟨_,i _ _ _ rfl,bU rfl⟩
 |slc b off c size es g C G y u=>exact⟨_,i _ _ _ rfl,bU rfl⟩
 injection h with h;subst h
 rw[cX l] at i;exact⟨_,i _ _ _ rfl,bU rfl⟩;injection h with h;subst h
 cases l with|one c v j=>cases j with
 |bldN _ f k=>exact⟨_,i _ _ _ rfl,bU rfl⟩
 |bld _ _ b f k=>exact⟨_,i _ _ _ rfl,bU rfl⟩
 injection h with h;subst h
 cases l with|one c v j=>cases j with
 |bls _ _ _ _ b f c off k E z=>exact⟨_,i _ _ _ rfl,bU rfl⟩
 cases h
theorem aDR{av:AV}{x:Value}{b:Bool}(h:aIZ av=some b)(i:RV F γ av x):∃A n c,x=.slice A n c/\A.isNone=b:=by
 unfold aIZ at h;split at h;injection h with h;subst h
 exact⟨_,_,_,cX i,rfl⟩;injection h with h;subst h
 cases i with|one c v f=>cases f with|dc d v o=>cases o with
 |slc b off c size es g q s l k=>simp_all
 injection h with h;subst h
 cases i with|one c v f=>cases f with
 |bld _ _ b e j=>simp_all
 injection h with h;subst h
 cases i with|one c v f=>cases f with
 |bls _ _ _ _ b e c off j r m=>simp_all
 cases h
theorem aDS{av:AV}{x:Value}{b:Bool}(h:aI0 av=some b)(e:RV F γ av x):∃A,x=.pointer A/\A.isNone=b:=by
 unfold aI0 at h;split at h;injection h with h;subst h
 exact⟨_,cX e,rfl⟩;all_goals first|(injection h with h;subst h;cases e with|one c v d=>cases d;simp_all)|(injection h with h;subst h;cases e with|one c v d=>cases d with|dc _ _ f=>cases f;simp_all)|cases h
theorem Lz{t e:TypeId}{A:Option Addr}{n c:Nat}(d:Nat)(h:P.underlying t=some (.slice e)):(Op.equalIn (d+1) t (.slice A n c) (.slice none 0 0)).run P w=.ok A.isNone w:=by
 cases A<;>simp[Op.equalIn,run_underlying h]
theorem Q2{t e:TypeId}{A:Option Addr}(d:Nat)(h:P.underlying t=some (.pointer e)):(Op.equalIn (d+1) t (.pointer A) (.pointer none)).run P w=.ok A.isNone w:=by
 cases A<;>simp[Op.equalIn,run_underlying h]
theorem aDT{p neg:Bool}{d:TypeDesc}{t:TypeId}{o j:Operand}{av v:AV}{x:Value}(h:aBb p neg av=some v)(m:RV F γ av x)(l:P.underlying t=some d)(f:Q1 d j=some p):∃r,((do eqGuard (if neg then .neq else .eql) t o j x (a.eval j);Go.binOp (if neg then .neq else .eql) t x (a.eval j)):Sem Value).run P w=.ok r w/\RV F γ v r:=by
 unfold Q1 at f;split at f;rename_i e;injection f with f;subst f
 cases g:aIZ av with
 |none=>grind[aBb]
 |some b=>
  obtain⟨A,n,c,rfl,k⟩:=aDR g m;simp only[aBb,g,cond_false,aZf,Option.some.injEq] at h;subst h;have i:(Op.equal t (.slice A n c) (.slice none 0 0)).run P w=.ok b w:=by
   rw[<- k];exact Lz 9999 l
  cases neg;exact⟨_,by simp[eqGuard,Go.binOp,i,Act.eval],bU rfl⟩;exact⟨_,by simp[eqGuard,Go.binOp,i,Act.eval],bU rfl⟩
 rename_i e;injection f with f;subst f
 cases g:aI0 av with
 |none=>grind[aBb]
 |some b=>
  obtain⟨A,rfl,k⟩:=aDS g m;simp only[aBb,g,cond_true,aZf,Option.some.injEq] at h;subst h;have i:(Op.equal t (.pointer A) (.pointer none)).run P w=.ok b w:=by
   rw[<- k];exact Q2 9999 l
  cases neg;exact⟨_,by simp[eqGuard,Go.binOp,i,Act.eval],bU rfl⟩;exact⟨_,by simp[eqGuard,Go.binOp,i,Act.eval],bU rfl⟩
 grind
theorem H0{k:Int}:∀(es:L (Int×Value)) (l:L MapEntry) (i:Nat),l.map (fun e=>(e.key,e.val))=es.map (fun p=>(Value.int .i64 p.1,p.2))-> ∃q,Instr.findNow (.int .i64) (.int .i64 k) l i=some q/\q.map (·.2)=Bo es k
 | [],l,i,h=>by
   have:l=[]:=by simpa using h
   subst this;exact⟨none,rfl,rfl⟩
 | (a,v)::es,l,i,h=>by
   cases l with
   | nil=>simp at h
   | cons e l=>
     simp only[aZl,List.cons.injEq,Prod.mk.injEq] at h;obtain⟨⟨d,f⟩,h3⟩:=h;obtain⟨q,g,c⟩:=H0 es l (i+1) h3;by_cases b:a=k
     · grind[Bo,Instr.findNow,Instr.sameNow]
     · refine⟨q, ?_,by rw[c,Bo,if_neg b]⟩
       grind[Instr.findNow,Instr.sameNow]
theorem aN5{D:Bool}{z:Value}{av I v:AV}{x y:Value}{t C J:TypeId}(hf:∀b o,F b=some o->w.heap[b]?=some o)(h:Qz D z av I=some v)(T:RV F γ av x)(U:RV F γ I y)
  (R:P.underlying t=some (.map C J)) (N:P.underlying C=some (.int .i64)) (V:(P.info? J).bind (fun i=>i.zero)=some z) (B:is1 z=true):
  ∃r,(Instr.lookup t x y D).run P w=.ok r w/\RV F γ v r:=by
 unfold Qz at h;split at h
 ·rename_i es k;injection h with h;subst h
  cases T with|one c _ G=>cases G with|mpc _ r E f K M d=>
  have H:=cX U;subst H;have S:=hf _ _ K;obtain⟨q,Q,O⟩:=H0 (k:=k) es f.toList 0 M;obtain⟨i,s,u⟩:=aZT.1 V;have g:∀v,Bo es k=some v->is1 v=true:=by
   clear M Q O K
   induction es with
   |nil=>intro v h;cases h
   |cons p es W=>
    grind[Bo,List.mem_cons_self,List.mem_cons_of_mem]
  have n:(getObj r).run P w=.ok (.map f E) w:=by simp[getObj,Sem.run,S]
  have l:(Instr.checkKey f.isEmpty (9999+1) C (.int .i64 k)).run P w=.ok () w:=by
   unfold Instr.checkKey;simp[run_underlying N]
  have m:(Instr.findKey C (.int .i64 k) f.toList).run P w=.ok q w:=by
   simp[Instr.findKey,run_underlying N,Q]
  rw[<- O] at g ⊢;cases q with
  |none=>
   cases D;exact⟨z,by simp[Instr.lookup,run_underlying R,n,l,m,zeroValue,typeInfo,s,u],bU B⟩;refine⟨.tuple #[z,.bool false],by simp[Instr.lookup,run_underlying R,n,l,m,zeroValue,typeInfo,s,u],?_⟩;refine .tup _ _ rfl (fun j t v d e=>?_)
   match j,d,e with
   |0,d,e=>injection d with d;simp at e;subst d;subst e;exact .one _ _ (.dc _ _ (.raw _ B))
   |1,d,e=>injection d with d;simp at e;subst d;subst e;exact .one _ _ (.dc _ _ (.raw _ rfl))
   |j+2,d,e=>simp at d
  |some p=>
   have A:=g p.2 rfl;cases D;exact⟨p.2,by simp_all[Instr.lookup,run_underlying],bU A⟩;refine⟨.tuple #[p.2,.bool true],by simp_all[Instr.lookup,run_underlying],?_⟩;refine .tup _ _ rfl (fun j t v d e=>?_)
   match j,d,e with
   |0,d,e=>injection d with d;simp at e;subst d;subst e;exact .one _ _ (.dc _ _ (.raw _ A))
   |1,d,e=>injection d with d;simp at e;subst d;subst e;exact .one _ _ (.dc _ _ (.raw _ rfl))
   |j+2,d,e=>simp at d
 cases h
theorem aN6{av b v:AV}{x y:Value}(h:aDI av b=some v)(c:RV F γ av x)(d:RV F γ b y):∃r,(Builtin.min2 x y).run P w=.ok r w/\RV F γ v r:=by
 unfold aDI at h;split at h;injection h with h;subst h
 rw[cX c,cX d];exact⟨_,by simp[Builtin.min2],bU rfl⟩;cases h
theorem aN7{av b v:AV}{x y:Value}(h:aDJ av b=some v)(c:RV F γ av x)(d:RV F γ b y):∃r,(Builtin.max2 x y).run P w=.ok r w/\RV F γ v r:=by
 unfold aDJ at h;split at h;injection h with h;subst h
 rw[cX c,cX d];exact⟨_,by simp[Builtin.max2],bU rfl⟩;cases h
def RCs(F:Fz)(γ:L OI)(cs:L aU)(vs:Array Value):Prop:=vs.size=cs.length/\∀(i:Nat) c v,cs[i]?=some c->vs[i]?=some v->RC F γ c v
theorem RCs.raw{vs:L Value}(h:∀v∈vs,is1 v=true):RCs F γ (vs.map cN) vs.toArray:=by
 refine⟨by simp,fun i c v b d=>?_⟩
 simp only[aZj,List.getElem?_toArray] at b d;rw[d] at b;simp at b;subst b;exact .dc _ _ (.raw _ (h v (aZE d)))
theorem RV.cells{av:AV}{x:Value}{cs:L aU}(b:RV F γ av x)(h:cellsOf av=some cs):RCs F γ cs x.cells:=by
 unfold cellsOf at h;split at h
 ·injection h with h;subst h
  cases b with|one c v d=>
  have k:=d.is1;have:x.cells=#[x]:=by cases x<;>first|rfl|grind[is1]
  rw[this];refine⟨rfl,fun i j v e l=>?_⟩
  grind
 injection h with h;subst h
 cases b with|agg _ vs g f=>exact⟨g,f⟩
 cases h
theorem RCs.put{cs vs:L aU}{as bs:Array Value}{off:Nat}(h:RCs F γ cs as)(m:RCs F γ vs bs)(r:off+vs.length<=cs.length):RCs F γ (dB cs off vs) (bs.zipIdx.foldl (fun cs (c,j)=>cs.setIfInBounds (off+j) c) as):=by
 have g:∀ (l:L Value) (k:Nat) (as:Array Value) (i:Nat),(l.zipIdx k |>.foldl (fun (cs:Array Value) (c,j)=>cs.setIfInBounds (off+j) c) as).size=as.size/\
     (l.zipIdx k |>.foldl (fun (cs:Array Value) (c,j)=>cs.setIfInBounds (off+j) c) as)[i]?=if off+k<=i/\i < off+k+l.length/\i < as.size then l[i - (off+k)]? else as[i]?:=by
   intro l
   induction l with
   | nil=>intro k as i;simp;omega
   | cons x l s=>
     intro k as i;simp only[List.zipIdx_cons,List.foldl_cons];obtain⟨u,y⟩:=s (k+1) (as.setIfInBounds (off+k) x) i
     grind
 have n:=g bs.toList 0 as;rw[<- Array.foldl_toList,Array.toList_zipIdx];refine⟨?_,fun i c v b d=>?_⟩
 rw[(n 0).1,h.1];grind[dB];rw[(n i).2] at d;have q:=m.1;simp only[dB] at b;simp only[bAH,aZY] at d;by_cases o:i<off;rw[if_neg (by omega)] at d;rw[aZr,aZv (by grind),aZL,if_pos o] at b;exact h.2 i c v b d;by_cases t:i<off+vs.length;have f:i<as.size:=by grind
 rw[if_pos ⟨by omega,by omega,f⟩] at d;rw[aZr,aZD (by grind),aZv (by grind)] at b;have e:min off cs.length=off:=by omega
 simp only[aZd,e] at b;exact m.2 _ c v b (by simp_all);rw[if_neg (by omega)] at d;rw[aZD (by grind)] at b;have e:min off cs.length=off:=by omega
 simp only[aZa,aZd,e,aZK] at b;rw[show off+vs.length+(i-(off+vs.length))=i by omega] at b;exact h.2 i c v b d
theorem Cr{place:Nat->Option (Nat×Nat)}:∀(g:L (Nat×Nat×AV)) (c:L (Nat×Value)) (b cs:L aU) (as:Array Value),RCs F γ b as->iV b g=some cs->g.length=c.length-> (∀(i:Nat) o s av j x,g[i]?=some (o,s,av)->c[i]?=some (j,x)->place j=some (o,s)/\RV F γ av x)->∃r,Instr.fill place as c=some r/\RCs F γ cs r
 | [],c,b,cs,as,h,hf,l,_=>by
   cases c with
   | nil=>simp[iV] at hf;subst hf;exact⟨as,rfl,h⟩
   | cons _ _=>simp at l
 | (o,s,av)::g,c,b,cs,as,h,hf,l,hp=>by
   cases c with
   | nil=>simp at l
   | cons q c=>
     obtain⟨j,x⟩:=q;obtain⟨m,A⟩:=hp 0 o s av j x rfl rfl;simp only[iV] at hf;cases d:cellsOf av with
     | none=>simp_all
     | some vs=>
       simp only[d,aZs] at hf;split at hf
       · rename_i v
         obtain⟨k,y⟩:=v;have f:=A.cells d;have e:=h.put f (off:=o) (by omega);obtain⟨r,z,n⟩:=Cr g c _ cs _ e hf (by simp_all) (fun i o s av j x t u=>hp (i+1) o s av j x t u)
         refine⟨r, ?_,n⟩;simp only[Instr.fill,m];have B:x.cells.size=s:=by rw[f.1,k]
         have C:=h.1
         simp_all
       grind
theorem Cs:∀(es:L (L DC)) (l:L UInt8),gF es=some l->∃b:L Int,es=b.map (fun n=>[DC.raw (.int .u8 n)])/\l=b.map (fun n=>UInt8.ofNat n.toNat)
 |[],l,h=>by simp[gF] at h;subst h;exact⟨[],rfl,rfl⟩
 | d::es,l,h=>by
   match d,h with
   | [.raw (.int .u8 n)],h=>
     simp only[gF] at h;cases c:gF es with
     | none=>simp_all
     | some e=>
       simp only[c,aZf,Option.some.injEq] at h;subst h;obtain⟨b,rfl,rfl⟩:=Cs es e c;exact⟨n::b,rfl,rfl⟩
theorem aDU(c:L Int):∀b:ByteArray,c.foldl (fun r n=>r.push (UInt8.ofNat n.toNat)) b=⟨b.data++(c.map (fun n=>UInt8.ofNat n.toNat)).toArray⟩:=by
 induction c with
 |nil=>simp_all
 |cons n c d=>
  simp_all
theorem Gz(a:Addr)(n c:Nat)(es:L (L DC))(l:L UInt8)(e:gF es=some l)(f:es.length=n) (g:∀(i:Nat) n,es[i]?=some [.raw (.int .u8 n)]->w.cell? (a.add i)=some (.int .u8 n)):(Conv.bytesToString (.slice (some a) n c)).run P w=.ok (.string ⟨l.toArray⟩) w:=by
 obtain⟨d,rfl,rfl⟩:=Cs es l e;subst f;have b:=run_loadCells_list (P:=P) w a (d.map (Value.int .u8)) (fun j v h=>by
   grind)
 simp only[aY9] at b ⊢;rw[run_bytesToString w a _ c d b,aDU];simp
theorem Fu:∀(cs:L aU)(l:L UInt8),jN cs=some l->∃b:L Int,cs=b.map (fun n=>aU.dc (.raw (.int .u8 n)))/\gF (b.map fun n=>[DC.raw (.int .u8 n)])=some l
 |[],l,h=>by simp[jN] at h;subst h;exact⟨[],rfl,rfl⟩
 | d::cs,l,h=>by
   match d,h with
   | .dc (.raw (.int .u8 n)),h=>
     simp only[jN] at h;cases c:jN cs with
     | none=>simp_all
     | some f=>
       simp only[c,aZf,Option.some.injEq] at h;subst h;obtain⟨b,rfl,e⟩:=Fu cs f c;exact⟨n::b,rfl,by simp[gF,e]⟩
theorem aI5{av v:AV}{x:Value}{s d e:TypeId}(h:oQ hp av=some v)(S:RV F γ av x)(R:eG F γ hp w)(hs:P.underlying s=some (.slice e))(hd:P.underlying d=some .string) (he:P.underlying e=some (.int .u8)):∃r,(convert s d x).run P w=.ok r w/\RV F γ v r:=by
 have hnil:∀A c,(Conv.bytesToString (.slice A 0 c)).run P w=.ok (.string ⟨#[]⟩) w:=by
  intro A c;cases A with
  |none=>rfl
  |some a=>exact Gz a 0 c [] [] rfl rfl (fun i n h=>by simp at h)
 have t:(∃A n c,x=.slice A n c)->(convert s d x).run P w=(Conv.bytesToString x).run P w:=by
  rintro⟨A,n,c,rfl⟩;simp[convert,run_underlying hs,run_underlying hd,run_underlying he]
 unfold oQ at h;split at h;rename_i es;cases D:gF es with
 |none=>simp_all
 |some l=>
  simp only[D,aZf,Option.some.injEq] at h;subst h;cases S with|one c v I=>cases I with|dc d v V=>cases V with
  |nil A c=>
   simp[gF] at D;subst D;exact⟨_,by simp_all,bU rfl⟩
  |slc b off c size es g H O J hcap=>
   have C:∀(i:Nat)(n:Int),es[i]?=some [.raw (.int .u8 n)]->w.cell? ((⟨b,off,none⟩:Addr).add i)=some (.int .u8 n):=by
    intro i n k;have U:size=1:=by have:=H _ (aZE k);simp_all
    subst U;have h2:=J i 0 _ _ k rfl;have h3:=O i 0 _ _ k rfl;rw[dY];simp at h2;have h4:=Fz.cell_world R.fz h2;rw[h4];generalize g i 0=y at h3;cases h3;rfl
   exact⟨_,by rw[t ⟨_,_,_,rfl⟩,Gz _ _ _ es l D rfl C],bU rfl⟩
 injection h with h;subst h
 rw[cX S] at t ⊢;exact⟨_,by rw[t ⟨_,_,_,rfl⟩];rfl,bU rfl⟩;rename_i id n;split at h;rename_i cap s' es D;split at h;rename_i M;cases j:gF (es.take n) with
 |none=>simp_all
 |some l=>
  simp only[j,aZf,Option.some.injEq] at h;subst h;cases S with|one c v I=>cases I with
  |bldN _ E f=>
   simp[gF] at j;subst j;exact⟨_,by simp_all,bU rfl⟩
  |bld _ _ b E f=>
   obtain⟨J,hec,W,vs,T,X,H,O⟩:=R.arr D f;have C:∀(i:Nat)(m:Int),(es.take n)[i]?=some [.raw (.int .u8 m)]->w.cell? ((⟨b,0,none⟩:Addr).add i)=some (.int .u8 m):=by
    intro i m k;have u:es[i]?=some [.raw (.int .u8 m)]:=by
     grind
    have U:s'=1:=by have:=W _ (aZE u);simp_all
    subst U;have hilt:=aJ u;have B:i<vs.size:=by omega
    have Q:vs[i]?=some (vs[i]'B):=aZR B;have h3:=O i 0 _ _ _ u rfl (by rw[aZ2,aZY];exact Q);rw[dY,mW X];simp only[aZ0];rw[Q];generalize vs[i]'B=y at h3;cases h3;rfl
   exact⟨_,by rw[t ⟨_,_,_,rfl⟩,Gz _ _ _ (es.take n) l j (by grind) C],bU rfl⟩
 cases h;cases h;rename_i id k0 n z;split at h;rename_i cs D;split at h;rename_i M;obtain⟨rfl,hle⟩:=M;cases j:jN ((cs.drop k0).take n) with
 |none=>simp_all
 |some l=>
  simp only[j,aZf,Option.some.injEq] at h;subst h;obtain⟨ns,Y,G⟩:=Fu _ _ j;cases S with|one c v I=>cases I with
  |bls _ _ _ _ b E c off f ho hcn=>
   rcases f with f|f;exact absurd f (R.noBox D);obtain⟨vs,T,X,H,O⟩:=R.box D f;have K:ns.length=n:=by
    have:=congrArg List.length Y;grind
   by_cases h0:n=0;subst h0;have:ns=[]:=List.length_eq_zero_iff.1 K;subst this;simp[gF] at G;subst G;exact⟨_,by simp_all,bU rfl⟩;have Z:=ho h0
   have C:∀ (i:Nat) (m:Int),(ns.map fun n=>[DC.raw (.int .u8 n)])[i]?=some [.raw (.int .u8 m)]->w.cell? ((⟨b,off,none⟩:Addr).add i)=some (.int .u8 m):=by
     intro i m k;rw[aZj] at k;obtain⟨q,hq,hqm⟩:=Option.map_eq_some_iff.1 k;have N:q=m:=by simp_all
     subst N;have o:((cs.drop k0).take n)[i]?=some (.dc (.raw (.int .u8 q))):=by simp_all
     rw[aZL] at o;split at o
     · rw[aZK] at o
       have hlt:=aJ o;have Q:vs[k0+i]?=some (vs[k0+i]'(by omega)):=aZR (by omega);have h3:=O _ _ _ o Q;rw[dY,mW X,Z,aZ2,Q];generalize vs[k0+i]'(by omega)=y at h3;cases h3 with | dc _ _ h3=>cases h3;rfl
     grind
   exact⟨_,by rw[t ⟨_,_,_,rfl⟩,Gz _ _ _ _ l G (by grind) C],bU rfl⟩
 cases h;cases h;cases h
theorem Yl{G:aE}{sl:L AV}{a:Act}(m:bY F γ sl a)(k:fZ F G):∀(b:L Operand)(cs:L aU),
  ((b.map aW).mapM fun c=>jM (aM G sl c))=some cs->
  cs.length=b.length/\∀(i:Nat) c x,cs[i]?=some c->b[i]?=some x->RC F γ c (a.eval x)
 | [],cs,h=>by
   simp at h;subst h;exact⟨rfl,fun i c x h=>by simp at h⟩
 | o::b,cs,h=>by
   rw[aZl,aZ8] at h;have l:=dC (G:=G) m k o;cases e:jM (aM G sl (aW o)) with
   | none=>rw[e] at h;cases h
   | some c=>
     have f:aM G sl (aW o)=.one c:=by
       generalize aM G sl (aW o)=av at e;cases av<;>simp[jM] at e;rw[e]
     rw[f] at l;rw[e] at h;cases g:((b.map aW).mapM fun c=>jM (aM G sl c)) with
     | none=>rw[g] at h;cases h
     | some d=>
       rw[g] at h;have q:c::d=cs:=by grind
       subst q;obtain⟨r,t⟩:=Yl m k b d g;refine⟨by simp[r],fun i s x j n=>?_⟩
       cases i with
       | zero=>
         simp at j n;subst j;subst n;cases l with | one c v h=>exact h
       | succ i=>grind
theorem H3{G:aE}{sl:L AV}{p:L (Nat×Nat) ⊕ Nat}:∀(b:L (Nat×Operand)) (l:L (Nat×Nat×aI)),b.mapM (pB p)=some l-> l.length=b.length/\∀(i:Nat) o s av,(l.map fun (o,s,x)=>(o,s,aM G sl x))[i]?=some (o,s,av)->∃j x,b[i]?=some (j,x)/\qQ p j=some (o,s)/\av=aM G sl (aW x)
 |[],l,h=>by simp_all
 | (j,x)::b,l,h=>by
   simp only[aZ8,pB] at h;cases hp:qQ p j with
   | none=>simp_all
   | some q=>
     obtain⟨o,s⟩:=q;cases c:b.mapM (pB p) with
     | none=>simp_all
     | some d=>
       simp[hp,c] at h;subst h;obtain⟨e,f⟩:=H3 (G:=G) (sl:=sl) b d c
       grind
theorem aDV{G:aE}{sl:L AV}{a:Act}(Q:bY F γ sl a)(O:fZ F G){t:TypeId}{p:L (Nat×Nat) ⊕ Nat}{m:TypeInfo}{z:Value}{q:Array (Nat×Operand)}{l:L (Nat×Nat×aI)}{cs:L aU} (b:Gy P t=some p) (d:P.info? t=some m) (D:m.zero=some z) (y:z.cells.toList.all is1=true)
  (K:q.toList.mapM (pB p)=some l) (hf:iV (z.cells.toList.map cN) (l.map fun (o,s,x)=>(o,s,aM G sl x))=some cs):
  ∃r,(Instr.build t (q.map fun (i,x)=>(i,a.eval x))).run P w=.ok r w/\RV F γ (.agg cs) r:=by
 obtain⟨N,I⟩:=H3 (G:=G) (sl:=sl) q.toList l K;have A:RCs F γ (z.cells.toList.map cN) z.cells:=by
  have:=RCs.raw (F:=F) (γ:=γ) (vs:=z.cells.toList) (fun v M=>bAr.1 y v M)
  omega
 obtain⟨r,h,k⟩:=Cr (place:=qQ p) (l.map fun (o,s,x)=>(o,s,aM G sl x)) (q.toList.map fun (i,x)=>(i,a.eval x)) _ cs z.cells A hf (by grind) (fun i o s av j x J C=>by
   obtain⟨R,S,h3,h4,h5⟩:=I i o s av J;simp only[aZj,h3,aZf,Option.some.injEq,Prod.mk.injEq] at C;obtain⟨rfl,rfl⟩:=C
   grind[dC])
 refine⟨.agg r,?_,.agg _ _ k.1 k.2⟩;refine run_build w t _ r ?_;unfold Gy at b;unfold Program.built;split at b;rename_i H u;cases g:H.toList.mapM (fun f=>(P.info? f.type).map fun i=>(f.offset,i.size)) with
 |none=>grind
 |some E=>
  simp only[g,aZf,Option.some.injEq] at b;subst b;simp only[d,u,D,g];have e:(fun x=>E.toArray[x]?)=qQ (.inl E):=by grind[qQ]
  rw[e];simpa using h
 rename_i n e u;cases c:P.info? e with
 |none=>grind
 |some B=>
  simp only[c,aZf,Option.some.injEq] at b;subst b;simp only[d,u,D,c];have e:(fun i=>some (i*B.size,B.size))=qQ (.inr B.size):=by grind[qQ]
  rw[e];simpa using h
 grind
theorem Er{G:aE}{sl:L AV}{a:Act}(c:bY F γ sl a)(b:fZ F G)(x:Option Operand):RO F γ ((x.map aW).map (aM G sl)) (x.map a.eval):=by
 cases x with
 |none=>trivial
 |some x=>exact dC c b x
theorem aBe{F:Fz}{γ:L OI}{c:aU}{x:Value}(h:RV F γ (.one c) x):RC F γ c x:=by cases h with|one c v h=>exact h
theorem aDW{G:aE}{as:AS}{P:Program}{c:Array Operand}{f:Array TypeId}{d:AI}
  (b:(match f.toList,c.toList with
  |[t,u],[s,x]=>
   match P.underlying t,P.underlying u with
   |some (.slice e),some (.slice e')=>
    if e=e' then (P.info? e).bind fun i=>i.zero.bind fun z=>if z.cells.size=i.size/\0<i.bytes then some (AI.app i.size i.bytes z.cells.toList (aW s) (aW x)) else none else none
   |some (.slice e),some .string=>if P.underlying e matches some (.int .u8) then (P.info? e).bind fun i=>i.zero.bind fun z=>if i.size=1/\i.bytes=1/\z.cells.size=1 then some (AI.apps (aW s) (aW x)) else none else none
   |_,_=>none
  | _,_=>none)=some d):dJ G as d=none:=by
 repeat' (first|(obtain⟨_,_,b⟩:=b)|split at b|(simp only[aZT,Option.map_eq_some_iff] at b))
 all_goals first|(cases b;done)|(injection b with b;subst b;rfl)|(subst b;rfl)|rfl
theorem aDX{G:aE}{as:AS}{a:Act}{o:Oper}{ai:AI}{v:AV}(h:bE P o=some ai)(q:dJ G as ai=some v)(U:eG F γ as.hp w)(Q:bY F γ as.sl a)(O:fZ F G):∃x,(execOp a.eval o).run P w=.ok (.value x) w/\RV F γ v x:=by
 have j:∀(s:Sem Value),(∃r,s.run P w=.ok r w/\RV F γ v r)->∃x,((do pure (Next.value (<- s))):Sem Next).run P w=.ok (.value x) w/\RV F γ v x:=by
  simp_all
 have A:=fun x=>dC (G:=G) Q O x
 obtain⟨dst,X,Y,pos,after,guard⟩:=o;unfold bE at h;cases X<;>simp only[reduceCtorEq] at h
 case move x=>
  injection h with h;subst h
  simp only[dJ,Option.some.injEq] at q;subst q;exact⟨_,rfl,A x⟩
 case assign x=>
  injection h with h;subst h
  simp only[dJ,Option.some.injEq] at q;subst q;exact⟨_,rfl,A x⟩
 case pick c x y=>
  injection h with h;subst h
  simp only[dJ,Cq] at q;split at q;rename_i b hb;injection q with q;subst q
  have:=Nt (A c) hb;refine⟨if b then a.eval x else a.eval y,?_,?_⟩
  simp[execOp,this,asBool];grind;grind
 case alloc e=>cases B:P.info? e with
   | none=>simp_all
   | some i=>cases D:i.zero with
     | none=>simp_all
     | some z=>
       grind[dJ]
 case box e x=>grind[dJ]
 case load t x=>
  cases B:Ep P t with
  |none=>simp_all
  | some g=>cases D:dL P t with
    | none=>simp_all
    | some s=>
      simp only[B,D,aZs,aZf,Option.some.injEq] at h;subst h;exact j _ (Yh q U (A x) B D rfl)
 case store t x y=>cases D:dL P t with
     | none=>simp_all
     | some s=>grind[Option.some.injEq,dJ]
 case nilCheck x=>
  injection h with h;subst h
  obtain⟨hv,ad,R⟩:=Yi q (A x);simp_all[execOp]
 case binOp X t x y u=>
  unfold pN at h;split at h;rename_i C;cases X<;>simp only[reduceCtorEq] at h;injection h with h;subst h
  exact j _ (Yj (neg:=false) q (A x) (A y) C);injection h with h;subst h
  exact j _ (Yj (neg:=true) q (A x) (A y) C);injection h with h;subst h
  exact j _ (aDO q (A x) (A y));injection h with h;subst h
  exact j _ (aDO q (A x) (A y));rename_i Z C;split at h;rename_i J;cases X<;>simp only[reduceCtorEq] at h;cases hf:rA P Z.toList 0 with
  |none=>simp_all
  |some ks=>
   simp only[hf,aZf,Option.some.injEq] at h;subst h;exact j _ (aDP (neg:=false) q (A x) (A y) C hf J.1 J.2)
  cases hf:rA P Z.toList 0 with
  |none=>simp_all
  |some ks=>
   simp only[hf,aZf,Option.some.injEq] at h;subst h;exact j _ (aDP (neg:=true) q (A x) (A y) C hf J.1 J.2)
  grind
  rename_i n e C;split at h;rename_i J;split at h;rename_i k K;injection h with h;subst h
  exact j _ (Yk (neg:=false) q (A x) (A y) C K J.2.2 J.1);rename_i k K;injection h with h;subst h
  exact j _ (Yk (neg:=true) q (A x) (A y) C K J.2.2 J.1);grind;grind;rename_i d _ _ _ _ _ C;unfold mV at h;split at h;cases K:Q1 d y with
  |none=>simp_all
  |some p=>
   simp only[K,aZf,Option.some.injEq] at h;subst h;exact j _ (aDT (neg:=false) q (A x) C K)
  cases K:Q1 d y with
  |none=>simp_all
  |some p=>
   simp only[K,aZf,Option.some.injEq] at h;subst h;exact j _ (aDT (neg:=true) q (A x) C K)
  grind
  grind
 case unOp X t x=>
  injection h with h;subst h
  exact j _ (aSh q (A x))
 case convert s d x=>
  unfold nL at h;split at h;rename_i k1 k B D;injection h with h;subst h
  simp only[dJ] at q;cases E:bH (aM G as.sl (aW x)) with
  |none=>simp_all
  |some n=>
   simp only[E,aZf,Option.some.injEq] at q;subst q;exact j _ (aI2 E (A x) B D)
  rename_i B D;injection h with h;subst h
  simp only[dJ] at q;cases E:dN (aM G as.sl (aW x)) with
  |none=>simp_all
  |some n=>
   simp only[E,aZf,Option.some.injEq] at q;subst q;exact j _ (aI3 E (A x) B D)
  rename_i e B D;split at h;rename_i h3;injection h with h;subst h
  exact j _ (aI5 q (A x) U B D h3);grind;all_goals grind[dJ]
 case fieldAddr s x f=>
  cases B:uK P s f with
  |none=>simp_all
  | some T=>cases D:dL P T.type with
    | none=>simp_all
    | some n=>
      simp only[B,D,aZs] at h;split at h
      · cases h
      · rename_i E
        injection h with h;subst h
        obtain⟨b,off,R,hv⟩:=Hx q (A x);unfold uK at B;split at B
        · rename_i Z C
          unfold dL at D;cases V:P.info? T.type with
          | none=>simp_all
          | some inf=>
            simp only[V,aZf,Option.some.injEq] at D;refine j _ ⟨_, ?_,hv⟩;simp[Instr.fieldAt,R,run_underlying C,B,Instr.sureAddr,fieldPlace,sizeOf,typeInfo,V,D,E,dY]
        grind
 case field s x f=>
  cases B:uK P s f with
  |none=>simp_all
  | some T=>cases D:Ep P T.type with
    | none=>simp_all
    | some g=>cases h3:dL P T.type with
      | none=>simp_all
      | some n=>
        simp only[B,D,h3,aZs,aZf,Option.some.injEq] at h;subst h;obtain⟨y,cs,R,hr,hv⟩:=aNW (P:=P) (w:=w) q (A x) D h3 rfl;unfold uK at B;split at B
        · rename_i Z C
          refine j _ ⟨y, ?_,hv⟩
          simp_all[Instr.field,run_underlying,asAgg]
        grind
 case indexAddr t x i=>
  split at h;rename_i n e C;cases B:dL P e with
  |none=>simp_all
  |some s=>
   simp only[B,aZf,Option.some.injEq] at h;subst h;simp only[dJ] at q;cases E:bH (aM G as.sl (aW i)) with
   |none=>simp_all
   |some k=>simp only[E,aZs] at q;exact j _ (aNX E (A i) q (A x) C B)
  rename_i e C;cases B:dL P e with
  |none=>simp_all
  |some s=>
   simp only[B,aZf,Option.some.injEq] at h;subst h;simp only[dJ] at q;cases E:bH (aM G as.sl (aW i)) with
   |none=>simp_all
   |some k=>simp only[E,aZs] at q;exact j _ (aNY E (A i) q (A x) U C B)
  grind
 case index t x i=>
  split at h;rename_i h3;injection h with h;subst h
  simp only[dJ] at q;cases E:bH (aM G as.sl (aW i)) with
  |none=>simp_all
  |some k=>simp only[E,aZs] at q;exact j _ (aNZ E (A i) q (A x) (by rw[h3]))
  rename_i n e C;split at h;rename_i J;injection h with h;subst h
  simp only[dJ] at q;cases E:bH (aM G as.sl (aW i)) with
  |none=>simp_all
  |some k=>simp only[E,aZs] at q;exact j _ (aN3 E (A i) q (A x) C J.1 J.2)
  grind
  grind
 case sliceToArrayPointer t x=>
  split at h;rename_i n e C;split at h;rename_i J;injection h with h;subst h
  exact j _ (aN4 q (A x) C);grind;grind
 case slice t x lo hi' mx=>
  cases mx with
  |some m=>simp_all
  |none=>
   simp only at h;split at h;rename_i C;injection h with h;subst h
   exact j _ (aN0 (Er Q O lo) (Er Q O hi') q (A x) C);rename_i e C;cases B:dL P e with
   |none=>simp_all
   |some s=>
    simp only[B,aZf,Option.some.injEq] at h;subst h;exact j _ (aN1 (Er Q O lo) (Er Q O hi') q (A x) U C B)
   rename_i n e C;cases B:dL P e with
   |none=>simp_all
   |some s=>
    simp only[B,aZs] at h;split at h;cases h;rename_i h0;injection h with h;subst h
    exact j _ (aN2 (Er Q O lo) (Er Q O hi') q (A x) C B h0)
   grind
 case lookup t x ix ok=>
  split at h;rename_i kt et C;split at h;rename_i K;cases hz:(P.info? et).bind fun i=>i.zero with
  |none=>simp_all
  |some z=>
   rw[hz] at h;simp only[aZs,if_true] at h;split at h;rename_i S;injection h with h;subst h
   exact j _ (aN5 U.fz q (A x) (A ix) C K hz S);grind
  grind
  grind
 case build t ps=>
  cases B:Gy P t with
  |none=>simp_all
  | some p=>cases D:P.info? t with
    | none=>simp_all
    | some i=>cases h3:i.zero with
      | none=>simp_all
      | some z=>
        simp only[B,D,h3,aZs] at h;split at h
        · rename_i S
          cases h4:ps.toList.mapM (pB p) with
          | none=>simp_all
          | some l=>
            simp only[h4,aZf,Option.some.injEq] at h;subst h;simp only[dJ] at q;cases h5:iV (z.cells.toList.map cN) (l.map fun (o,s,x)=>(o,s,aM G as.sl x)) with
            | none=>simp_all
            | some cs=>
              simp only[h5,aZf,Option.some.injEq] at q;subst q;exact j _ (aDV Q O B D h3 S h4 h5)
        grind
 case buildSlice t len ps=>
  split at h;rename_i e C;cases B:P.info? e with
  |none=>simp_all
  | some i=>cases D:i.zero with
    | none=>simp_all
    | some z=>
      grind[dJ]
  grind
 case makeSlice t l c=>
  split at h;rename_i e C;cases B:P.info? e with
  |none=>simp_all
  | some i=>cases D:i.zero with
    | none=>simp_all
    | some z=>
      grind[dJ]
  grind
 case extract x n=>
  injection h with h;subst h
  exact j _ (aDQ q (A x))
 case makeFunc fn first caps=>
  cases fn<;>simp only[reduceCtorEq] at h;rename_i f;split at h;rename_i hfe;injection h with h;subst h
  simp only[dJ] at q;cases h5:((caps.toList.map aW).mapM fun c=>jM (aM G as.sl c):Option (L aU)) with
  |none=>simp_all
  |some cs=>
   rw[h5] at q;simp only[aZf,Option.some.injEq] at q;subst q;obtain⟨hl,hr⟩:=Yl Q O caps.toList cs h5;have hf0:first=#[]:=by simp_all
   subst hf0;refine j _ ⟨.func (.func f) #[] (caps.map a.eval),by simp[Instr.makeFunc],.one _ _ ?_⟩;have e:caps.map a.eval=((List.range cs.length).map fun i=>(caps.map a.eval).toList.getD i undef).toArray:=by
     grind
   rw[e];refine .fn f cs _ (fun i c hci=>?_)
   grind
  grind
 case call c=>
  obtain⟨N,H,I⟩:=c;unfold fY at h;cases N<;>simp only[reduceCtorEq] at h
  case value f=>
   cases f<;>simp only[reduceCtorEq] at h;all_goals grind[dJ]
  case builtin b=>
   cases b<;>simp only[reduceCtorEq] at h
   case append=>
    exfalso;have h0:=aDW (G:=G) (as:=as) h;simp_all
   case copy=>
    grind[dJ]
   case clear=>
    split at h;rename_i t x W R;split at h;rename_i e C;cases B:P.info? e with
    |none=>simp_all
    | some i=>cases D:i.zero with
      | none=>simp_all
      | some z=>
        grind[dJ]
    grind
    grind
   case len=>
    split at h;rename_i t x W R;have hax:(H.map a.eval)[0]?=some (a.eval x):=by simp[R]
    split at h;rename_i C;injection h with h;subst h
    simp only[dJ] at q;cases E:dN (aM G as.sl (aW x)) with
    |none=>simp_all
    |some s=>
     simp only[E,aZf,Option.some.injEq] at q;subst q;have:=uL (A x) E;exact⟨.int .i64 s.size,by simp[execOp,resolve,invoke,builtin,Builtin.len_,W,R,run_underlying C,this,goInt],bU rfl⟩
    rename_i e C;injection h with h;subst h
    obtain⟨r,B,D⟩:=aI4 (P:=P) (w:=w) (ty:=Y) q (A x) C I W (H.map a.eval) hax;exact⟨r,by simp[execOp,resolve,invoke,builtin,B],D⟩;rename_i n e C;injection h with h;subst h
    simp only[dJ,Option.some.injEq] at q;subst q;exact⟨.int .i64 n,by simp[execOp,resolve,invoke,builtin,Builtin.len_,W,R,run_underlying C,goInt],bU rfl⟩;rename_i e C;split at h;rename_i n e2 hu2;injection h with h;subst h
    simp only[dJ,Option.some.injEq] at q;subst q;exact⟨.int .i64 n,by simp[execOp,resolve,invoke,builtin,Builtin.len_,W,R,run_underlying C,run_underlying hu2,goInt],bU rfl⟩;grind;grind;grind
   case min=>
    split at h;rename_i x y M;injection h with h;subst h
    obtain⟨r,B,D⟩:=aN6 (P:=P) (w:=w) q (A x) (A y);have:(H.map a.eval).toList=[a.eval x,a.eval y]:=by simp[M]
    exact⟨r,by simp[execOp,resolve,invoke,builtin,Builtin.min_,this,M,B],D⟩;grind
   case max=>
    split at h;rename_i x y M;injection h with h;subst h
    obtain⟨r,B,D⟩:=aN7 (P:=P) (w:=w) q (A x) (A y);have:(H.map a.eval).toList=[a.eval x,a.eval y]:=by simp[M]
    exact⟨r,by simp[execOp,resolve,invoke,builtin,Builtin.max_,this,M,B],D⟩;grind
end
end
section
section
variable {P:Program}{F F':Fz}{γ γ':L OI}{w w':World}{hp:L aD}{p:Nat->Bool}
theorem OK.kill{o:aD}{x:OI}(h:OK F γ w o x)(l:F.sub F')(r:∀(id:Nat)(o:OI),p id=false->γ[id]?=some o->γ'[id]?=some o) (k:∀b,x.blk=some b->w'.heap[b]?=w.heap[b]?):OK F' γ' w' (cU p o) x:=by
 cases o with
 |box cs=>
  cases x with
  |box b=>
   obtain⟨vs,T,f,g,h3⟩:=h;exact⟨vs,T,f.of (k b rfl),by simpa using g,RCs.kill l r h3⟩
  |arr b c=>exact h.elim
  |dead=>exact h.elim
 |arr cap size es=>
  cases x with
  |box b=>exact h.elim
  |arr b c=>
   cases b with
   |none=>exact h
   |some b=>
    obtain⟨f,g,h3,vs,T,h4,h5,h6⟩:=h;exact⟨f,g,h3,vs,T,h4.of (k b rfl),h5,fun i j e d v m n q=>(h6 i j e d v m n q).mono l⟩
  |dead=>exact h.elim
 |dead=>
  cases x with
  |dead=>trivial
  |box b=>exact h.elim
  |arr b c=>exact h.elim
theorem OK.ext{o:aD}{x:OI}(h:OK F γ w o x)(l:F.sub F')(r:∀(id:Nat)(o:OI),γ[id]?=some o->γ'[id]?=some o) (k:∀b,x.blk=some b->w'.heap[b]?=w.heap[b]?):OK F' γ' w' o x:=by
 cases o with
 |box cs=>
  cases x with
  |box b=>
   obtain⟨vs,T,f,g,h3⟩:=h;exact⟨vs,T,f.of (k b rfl),g,fun i c v a b=>(h3 i c v a b).ext l r⟩
  |arr b c=>exact h.elim
  |dead=>exact h.elim
 |arr cap size es=>
  cases x with
  |box b=>exact h.elim
  |arr b c=>
   cases b with
   |none=>exact h
   |some b=>
    obtain⟨f,g,h3,vs,T,h4,h5,h6⟩:=h;exact⟨f,g,h3,vs,T,h4.of (k b rfl),h5,fun i j e d v m n q=>(h6 i j e d v m n q).mono l⟩
  |dead=>exact h.elim
 |dead=>
  cases x with
  |dead=>trivial
  |box b=>exact h.elim
  |arr b c=>exact h.elim
theorem Qq.lt{w:World}{b:Nat}{vs:Array Value}{T:TypeId}(h:Qq w b vs T):b<w.heap.size:=by
 obtain⟨_,h,_⟩:=h;exact (Array.getElem?_eq_some_iff.1 h).1
theorem Nu{b:Nat}{o:Obj}(h:w.heap[b]?=some o):b<w.heap.size:=(Array.getElem?_eq_some_iff.1 h).1
theorem OK.lt{o:aD}{x:OI}(h:OK F γ w o x){b:Nat}(d:x.blk=some b):b<w.heap.size:=by
 cases x with
 |dead=>simp[OI.blk] at d
 |box b'=>
  simp[OI.blk] at d;subst d;cases o with
  |box cs=>obtain⟨vs,T,⟨_,e,_⟩,_⟩:=h;exact Nu e
  |arr _ _ _=>exact h.elim
  |dead=>exact h.elim
 |arr b' c=>
  simp[OI.blk] at d;subst d;cases o with
  |arr cap size es=>obtain⟨_,_,_,vs,T,⟨_,e,_⟩,_⟩:=h;exact Nu e
  |box _=>exact h.elim
  |dead=>exact h.elim
theorem dD{i b:Nat}(h:cG γ i=some b):∃x,γ[i]?=some x/\x.blk=some b:=by
 unfold cG at h;cases c:γ[i]? with
 |none=>simp[c] at h
 |some x=>simp[c] at h;exact⟨x,rfl,h⟩
theorem bV{i b:Nat}{x:OI}(h:γ[i]?=some x)(c:x.blk=some b):cG γ i=some b:=by simp[cG,h,c]
theorem eG.lt(e:eG F γ hp w){i b:Nat}(g:cG γ i=some b):b<w.heap.size:=by
 obtain⟨x,f,d⟩:=dD g;have c:i<hp.length:=by rw[<- e.len];exact aJ f
 exact (e.ok i _ x (aZi c) f).lt d
theorem eG.fzlt(c:eG F γ hp w){b:Nat}{o:Obj}(h:F b=some o):b<w.heap.size:=Nu (c.fz b o h)
theorem eG.drawn(b:eG F γ hp w)(n:Nat):eG F γ hp { w with drawn:=n }:=
 ⟨b.fz,b.len,b.nd,b.disj,fun i o x c d=>(b.ok i o x c d).ext (fun _ _ h=>h) (fun _ _ h=>h) (fun _ _=>rfl)⟩
theorem iU.drawn(k:Nat)(F:Fz)(γ:L OI)(w:World)(n:Nat):iU k F γ w F γ { w with drawn:=n }:=
 ⟨fun _ _ h=>h,rfl,rfl,rfl,aZe _,fun _ _ _=>rfl,fun _ _ h=>.inl h,fun i _ h=>.inl ⟨i,h⟩,fun _ _ _ h=>h⟩
def fG(w:World)(o:Obj):World:={ w with heap:=w.heap.push o }
theorem pO{o:Obj}{b:Nat}(h:b<w.heap.size):(fG w o).heap[b]?=w.heap[b]?:=by
 show (w.heap.push o)[b]?=_;rw[Array.getElem?_push,if_neg (Nat.ne_of_lt h)]
theorem NF0(n:Nat):NF (0,0) n:=fun o _ h=>by omega
theorem Q3{o:Obj}:(fG w o).heap[w.heap.size]?=some o:=by
 show (w.heap.push o)[w.heap.size]?=_;rw[Array.getElem?_push,if_pos rfl]
theorem Ct{vs:Array Value}{T:TypeId}:Qq (fG w (.cells vs T)) w.heap.size vs T:=⟨_,Q3,NF0 _⟩
theorem bX{α:Type}{l r:L α}{i:Nat}{x:α}(h:l[i]?=some x):(l++r)[i]?=some x:=by
 rw[aZv (aJ h)];exact h
theorem iR{α:Type}{l:L α}{y x:α}{i:Nat}(h:(l++[y])[i]?=some x):l[i]?=some x\/(i=l.length/\x=y):=by
 rcases Nat.lt_trichotomy i l.length with b|b|b;rw[aZv b] at h;exact .inl h;subst b;simp at h;exact .inr ⟨rfl,h.symm⟩;rw[bAi (by simp;omega)] at h;cases h
theorem eG.pushG{w':World}(d:eG F γ hp w)(f:∀b,b<w.heap.size->w'.heap[b]?=w.heap[b]?)(o:aD)(x:OI)(t:∀b,x.blk=some b->b=w.heap.size)(n:OK F (γ++[x]) w' o x):eG F (γ++[x]) (hp++[o]) w':=by
 have l:∀i b,cG (γ++[x]) i=some b->cG γ i=some b\/(i=γ.length/\b=w.heap.size):=by
  intro i b h;obtain⟨y,u,e⟩:=dD h;rcases iR u with c|⟨c,rfl⟩
  exact .inl (bV c e);exact .inr ⟨c,t b e⟩
 refine⟨fun b k h=>by rw[f _ (d.fzlt h)];exact d.fz b k h,by simp[d.len],?_,?_,?_⟩
 intro i j b c g;rcases l i b c with c|⟨c,q⟩<;>rcases l j b g with g|⟨g,r⟩
 exact d.nd i j b c g;have:=d.lt c;omega;have:=d.lt g;omega;omega;intro i b h;rcases l i b h with h|⟨_,h⟩
 exact d.disj i b h;cases s:F b with
 |none=>rfl
 |some k=>have:=d.fzlt s;omega
 intro i k y c g;rcases iR g with h3|⟨h3,rfl⟩
 have m:i<hp.length:=by rw[<- d.len];exact aJ h3
 rw[aZv m] at c;refine (d.ok i k y c h3).ext (fun _ _ h=>h) (fun _ _ h=>bX h) (fun b e=>?_)
 exact f _ ((d.ok i k y c h3).lt e);rw[h3,d.len] at c;simp at c;subst c;exact n
theorem eG.push(f:eG F γ hp w)(d:Obj)(o:aD)(x:OI)(g:∀b,x.blk=some b->b=w.heap.size)(c:OK F (γ++[x]) (fG w d) o x):eG F (γ++[x]) (hp++[o]) (fG w d):=f.pushG (fun _ e=>pO e) o x g c
theorem iU.push{k:Nat}(l:eG F γ hp w)(j:Obj)(x:OI)(f:∀b,x.blk=some b->b=w.heap.size):iU k F γ w F (γ++[x]) (fG w j):=by
 refine⟨fun _ _ h=>h,rfl,rfl,rfl,by simp[fG],fun b e _=>pO e,fun _ _ h=>.inl h,fun i b h=>?_,fun i _ b h=>bX h⟩
 obtain⟨y,g,c⟩:=dD h;rcases iR g with d|⟨d,rfl⟩;exact .inl ⟨i,bV d c⟩;exact .inr (by rw[f b c];exact aZe _)
def Ym(vs:Array Value)(T:TypeId):Obj->Obj
 |.cells _ _ b=>.cells vs T b
 |_=>.cells vs T (0,0)
def setB(w:World)(b:Nat)(vs:Array Value)(T:TypeId):World:={ w with heap:=w.heap.modify b (Ym vs T) }
theorem aI6{b:Nat}{vs d:Array Value}{T U:TypeId}{c:Nat×Nat}(h:w.heap[b]?=some (.cells d U c)):(setB w b vs T).heap[b]?=some (.cells vs T c):=by
 simp[setB,Array.getElem?_modify,h,Ym]
theorem lQ{b:Nat}{vs c:Array Value}{T U:TypeId}(h:Qq w b c U)(f:vs.size=c.size):Qq (setB w b vs T) b vs T:=by
 obtain⟨d,h,e⟩:=h;exact⟨d,aI6 h,by rw[f];exact e⟩
theorem Cu{b b':Nat}{vs:Array Value}{T:TypeId}(h:b'≠b):(setB w b vs T).heap[b']?=w.heap[b']?:=by
 simp[setB,Array.getElem?_modify,Ne.symm h]
theorem aBf{b:Nat}{vs c:Array Value}{T T':TypeId}:setB (setB w b vs T) b c T'=setB w b c T':=by
 simp only[setB];congr 1;apply Array.ext_getElem?;intro i;simp only[Array.getElem?_modify];split;cases w.heap[i]? with
 |none=>rfl
 |some o=>cases o<;>rfl
 rfl
theorem Nv{b j:Nat}{vs:Array Value}{T:TypeId}{v:Value}(h:Qq w b vs T):w.setCell ⟨b,j,none⟩ v=setB w b (vs.setIfInBounds j v) T:=by
 obtain⟨d,h,_⟩:=h;simp only[World.setCell,setB];congr 1;apply Array.ext_getElem?;intro i;rw[Array.getElem?_modify,Array.getElem?_modify];by_cases c:b=i;subst c;rw[if_pos rfl,if_pos rfl,h];rfl;simp[c]
def eO(vs:Array Value)(k:Nat)(l:L Value)(i:Nat:=0):Array Value:=(l.zipIdx i).foldl (fun cs (c,j)=>cs.setIfInBounds (k+j) c) vs
theorem dZ(l:L Value):∀(vs:Array Value)(k i:Nat),(eO vs k l i).size=vs.size:=by
 induction l with
 |nil=>intro vs k i;rfl
 |cons x l b=>intro vs k i;simp only[eO,List.zipIdx_cons,List.foldl_cons];exact (b _ k (i+1)).trans (by simp)
theorem dU{b off:Nat}{T:TypeId}:∀(l:L Value)(i:Nat)(w:World)(vs:Array Value),Qq w b vs T->(∀v∈l,is1 v=true)->off+i+l.length<=vs.size-> (storeCells ⟨b,off,none⟩ l i).run P w=.ok () (if l=[] then w else setB w b (eO vs off l i) T)
 |[],i,w,vs,h,c,f=>rfl
 | v::l,i,w,vs,h,c,f=>by
   have m:=c v (aZt);simp only[aZb] at f;have e:(store (⟨b,off+i,none⟩:Addr) v).run P w=.ok () (setB w b (vs.setIfInBounds (off+i) v) T):=by
     have j:w.cell? ⟨b,off+i,none⟩=some (vs[off+i]'(by omega)):=by
       rw[mW h];exact aZR (by omega)
     have hf:w.frozen? ⟨b,off+i,none⟩=false:=by
       obtain⟨q,g,k⟩:=h;have:=k (off+i) (by omega);simp only[World.frozen?,g];simpa using this
     rw[<- Nv h];cases v<;>first | (simp[is1] at m;done) | (unfold store;simp only[Sem.run,j,hf];rfl)
   have o:=dU (off:=off) l (i+1) (setB w b (vs.setIfInBounds (off+i) v) T) (vs.setIfInBounds (off+i) v) (lQ h (by simp)) (fun x n=>c x (aZB _ n)) (by simp;omega)
   simp only[storeCells,Sem.run_bind,dY,e,Result.andThen_ok,o];simp only[reduceCtorEq,if_false];congr 1;split
   · rename_i d;subst d;rfl
   · rw[aBf];rfl
theorem rO{b off:Nat}{T t:TypeId}{x:Value}{vs:Array Value}(h:Qq w b vs T)(d:dL P t=some x.cells.size)(e:∀v∈x.cells.toList,is1 v=true) (f:off+x.cells.size<=vs.size):(Instr.storeAt t (.pointer (some ⟨b,off,none⟩)) x).run P w=.ok () (if x.cells.toList=[] then w else setB w b (eO vs off x.cells.toList) T):=by
 unfold dL at d;cases c:P.info? t with
 |none=>simp[c] at d
 |some g=>
  simp only[c,aZf,Option.some.injEq] at d;have:=dU (P:=P) (b:=b) (off:=off) x.cells.toList 0 w vs h e (by simpa using f);simp[Instr.storeAt,Instr.sureAddr,storeVar,sizeOf,typeInfo,c,d,this]
theorem eG.setObj(c:eG F γ hp w){id b:Nat}{x:OI}{q:aD}{vs:Array Value}{T:TypeId}(j:γ[id]?=some x)(n:x.blk=some b)(m:OK F γ (setB w b vs T) q x):eG F γ (hp.set id q) (setB w b vs T):=by
 refine⟨fun b' o h=>?_,by simp[c.len],c.nd,c.disj,fun i o y f g=>?_⟩
 have l:b'≠b:=fun e=>by subst e;rw[c.disj id _ (bV j n)] at h;cases h
 rw[Cu l];exact c.fz b' o h;by_cases d:i=id;subst d;rw[j] at g;injection g with g;subst g
 rw[aZH (by rw[<- c.len];exact aJ j)] at f;injection f with f;subst f
 exact m;rw[aZw (Ne.symm d)] at f;refine (c.ok i o y f g).ext (fun _ _ h=>h) (fun _ _ h=>h) (fun b' k=>?_)
 exact Cu (fun e=>d (by subst e;exact c.nd _ _ _ (bV g k) (bV j n)))
theorem iU.setB{k:Nat}(g:eG F γ hp w){id b:Nat}{x:OI}{vs:Array Value}{T:TypeId}(f:γ[id]?=some x)(c:x.blk=some b):iU k F γ w F γ (setB w b vs T):=
 ⟨fun _ _ h=>h,rfl,rfl,rfl,by simp[Go.Proofs.YtalhnjjchkmfeabGreatDoor.setB],fun b' _ d=>Cu (fun e=>d id (by subst e;exact bV f c)),fun _ _ h=>.inl h,fun i _ h=>.inl ⟨i,h⟩,fun _ _ _ h=>h⟩
theorem bY.ext{sl:L AV}{a:Act}(h:bY F γ sl a)(e:F.sub F')(d:∀(id:Nat)(o:OI),γ[id]?=some o->γ'[id]?=some o):bY F' γ' sl a:=
 ⟨h.1,h.2.1,fun i av v b c=>(h.2.2 i av v b c).ext e d⟩
theorem bY.kill{sl:L AV}{a:Act}(h:bY F γ sl a)(g:F.sub F')(f:∀(id:Nat)(o:OI),p id=false->γ[id]?=some o->γ'[id]?=some o):bY F' γ' (sl.map (bG p)) a:=by
 refine⟨h.1,by simpa using h.2.1,fun i av v b e=>?_⟩
 rw[aZj] at b;cases d:sl[i]? with
 |none=>simp[d] at b
 |some c=>simp[d] at b;subst b;exact (h.2.2 i c v d e).kill g f
theorem bY.put{sl:L AV}{a:Act}(h:bY F γ sl a)(c:Option Nat){av:AV}{v:Value}(l:RV F γ av v):bY F γ (aS sl c av) (a.put c v):=by
 cases c with
 |none=>exact h
 |some d=>
  refine⟨h.1,by simpa[aS,Act.put] using h.2.1,fun i j m b e=>?_⟩
  simp only[aS,Act.put] at b e;by_cases k:d=i;subst k;have f:d<sl.length:=by have:=aJ b;simpa using this
  rw[aZH f] at b;have g:d<a.tmps.size:=h.2.1 ▸ f;rw[bAM g] at e;injection b with b;injection e with e
  subst b;subst e;exact l;rw[aZw k] at b;rw[Array.getElem?_setIfInBounds_ne k] at e;exact h.2.2 i j m b e
