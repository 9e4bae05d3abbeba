/- Part. Conditions: none. -/
import Derived.Test.YtalhnjjchkmfeaaGreatDoorLd
namespace Go.Proofs.YtalhnjjchkmfeaaGreatDoor
set_option linter.unusedSimpArgs false
set_option linter.unusedVariables false
section
section
variable {P:Program}{F:Fz}{γ:L OI}{w:World}{hp:L aD}
theorem aK{α:Type}{l:L α}{i:Nat}{x:α}(h:l[i]?=some x):i<l.length:=by
 rcases bAT i l.length with b|b;exact b;rw[bAK b] at h;cases h
theorem aSG{d:UnOp}{c v:AV}{x:Value}(h:unV d c=some v)(b:RV F γ c x):∃r,(Op.unary d x).run P w=.ok r w/\RV F γ v r:=by
 unfold unV at h;split at h;injection h with h;subst h;rw[cX b]
 exact⟨_,by simp[Op.unary,Op.intArith],bR rfl⟩;injection h with h;subst h;rw[cX b]
 exact⟨_,by simp[Op.unary],bR rfl⟩;rename_i k n;rw[cX b];simp only[lQ,aZF,Option.some.injEq] at h;subst h;exact⟨_,by simp[Op.unary,Op.intBits],bR rfl⟩;cases h
theorem aJt{s d:TypeId}{c:TypeDesc}{k:IntKind}{n:Int}{b:AV}{x:Value}(h:bI b=some n)(g:RV F γ b x)(f:P.underlying s=some c)(e:P.underlying d=some (.int k)):∃r,(convert s d x).run P w=.ok r w/\RV F γ (dX (.int k (k.wrap n))) r:=by
 obtain⟨j,rfl⟩:=qQ g h;exact⟨_,by simp[convert,run_underlying f,run_underlying e,Conv.intToInt],bR rfl⟩
theorem aJu{s d:TypeId}{n:ByteArray}{b:AV}{x:Value}(h:dO b=some n)(f:RV F γ b x)(e:P.underlying s=some .string)(c:P.underlying d=some .string):∃r,(convert s d x).run P w=.ok r w/\RV F γ (dX (.string n)) r:=by
 have:=uF f h;subst this;exact⟨_,by simp[convert,run_underlying e,run_underlying c],bR rfl⟩
theorem aOo{g:Bool}{s A off:Nat}{z v:AV}{x:Value}{t:TypeId}(h:aJo g s off z=some v)(I:RV F γ z x)
  (j:Ez P t=some g) (e:dN P t=some A) (q:s=if g then A else 1):
  ∃y cs,x=.agg cs/\(part t cs off).run P w=.ok y w/\RV F γ v y:=by
 unfold aJo at h;split at h;rename_i cs;split at h
 ·rename_i E;cases I with|agg _ vs H G=>
  unfold Ez at j;cases k:P.underlying t with
  |none=>simp[k] at j
  |some d=>
   simp only[k,aZF,Option.some.injEq] at j;unfold dN at e;cases b:P.info? t with
   |none=>simp[b] at e
   |some n=>
    simp only[b,aZF,Option.some.injEq] at e;have u:∀(i:Nat) c v,((cs.drop off).take s)[i]?=some c->((vs.toList.drop off).take s)[i]?=some v->RC F γ c v:=by
     intro i c v o m;simp only[bAb,aZ9] at o m;split at o;rename_i r;rw[if_pos r] at m;exact G _ _ _ o (by simpa using m);cases o
    obtain⟨B,C⟩:=Zk h (vs:=(vs.toList.drop off).take s) (by simp;omega) u;cases g with
    |true=>
     refine⟨.agg (vs.extract off (off+n.size)),vs,rfl,?_,?_⟩;unfold aBP at j;split at j;simp[part,isAgg,sizeOf,typeInfo,run_underlying k,b];simp[part,isAgg,sizeOf,typeInfo,run_underlying k,b];cases j;have:=B rfl;have D:((vs.toList.drop off).take s).toArray=vs.extract off (off+n.size):=by
      apply Array.ext';simp at q;subst q;subst e;simp[List.take_drop,Array.toList_extract,List.extract_eq_take_drop]
     rwa[D] at this
    |false=>
     obtain⟨y,J,m⟩:=C rfl;simp at q;subst q;have f:vs[off]?=some y:=by
      have:=congrArg (fun l:L Value=>l[0]?) J
      simpa[bAb,aZ9] using this
     refine⟨y,vs,rfl,?_,m⟩;cases d<;>first|(simp[aBP] at j;done)|simp[part,isAgg,run_underlying k,f]
 cases h;cases h
theorem aOp{n s:Nat}{f g v:AV}{x y:Value}{i:Int}{t e:TypeId}(l:bI g=some i)(u:RV F γ g y)(h:aEk n s f i=some v)(q:RV F γ f x) (m:P.underlying t=some (.array n e)) (d:dN P e=some s):∃r,(Instr.indexAt t x y).run P w=.ok r w/\RV F γ v r:=by
 obtain⟨k,rfl⟩:=qQ u l;unfold aEk at h;split at h;rename_i j;obtain⟨b,off,rfl,o⟩:=Ik h q;unfold dN at d;cases c:P.info? e with
 |none=>simp[c] at d
 |some z=>
  simp only[c,aZF,Option.some.injEq] at d;subst d;refine⟨_,?_,o⟩;simp[Instr.indexAt,asIntOf,run_underlying m,Instr.sureAddr,j,sizeOf,typeInfo,c,eB]
 cases h
theorem aOq{s:Nat}{V Z v:AV}{x y:Value}{i:Int}{t e:TypeId}(hi:bI Z=some i)(hy:RV F γ Z y)(h:Cv hp s V i=some v)(J:RV F γ V x)(Y:dV F γ hp w) (I:P.underlying t=some (.slice e)) (H:dN P e=some s):∃r,(Instr.indexAt t x y).run P w=.ok r w/\RV F γ v r:=by
 obtain⟨k,rfl⟩:=qQ hy hi;unfold dN at H;cases o:P.info? e with
 |none=>simp[o] at H
 |some B=>
  simp only[o,aZF,Option.some.injEq] at H;subst H;unfold Cv at h;split at h;rename_i es;split at h;rename_i C;split at h;rename_i W G;split at h
  ·rename_i N;injection h with h;subst h
   have Q:=aK G;cases J with|one c v m=>cases m with|dc d v hd=>
   cases hd with
   |nil A c=>simp at Q
   |slc b off c size es g U hr K X=>
    have T:W.length=size:=U W (aZ4 G);have E:0<=i/\i<(es.length:Int):=⟨C,by omega⟩;refine⟨.pointer (some ⟨b,off+i.toNat*B.size,none⟩),?_,.one _ _ (.ref _ _ _ (fun j=>g i.toNat j) (fun j d O=>hr _ _ _ _ G O) (fun j d O=>?_))⟩
    simp[Instr.indexAt,asIntOf,run_underlying I,E,sizeOf,typeInfo,o,eB];have:=K _ _ _ _ G O;rw[<- T,N] at this;rw[Nat.add_assoc];exact this
  cases h;cases h;cases h;rename_i id n;split at h;rename_i cap s' es E;split at h;rename_i m;obtain⟨C,l,R,rfl⟩:=m;injection h with h;subst h;cases J with|one c v m=>cases m with
  |bldN _ q f=>omega
  |bld _ _ b q f=>
   have u:0<=i/\i<(n:Int):=⟨C,l⟩;refine⟨.pointer (some ⟨b,i.toNat*B.size+0,none⟩),?_,.one _ _ (.ept _ _ _ _ _ _ f)⟩;simp[Instr.indexAt,asIntOf,run_underlying I,u,sizeOf,typeInfo,o,eB]
  cases h;cases h;rename_i id k0 n z;split at h;rename_i cap s' es E;split at h;rename_i m;obtain⟨C,l,R,rfl,rfl⟩:=m;injection h with h;subst h;cases J with|one c v m=>cases m with
  |bls _ _ _ _ b q c off f S M=>
   have u:0<=i/\i<(n:Int):=⟨C,l⟩;have D:=S (by omega);subst D;rcases f with f|f
   refine⟨.pointer (some ⟨b,(k0+i.toNat)*B.size+0,none⟩),?_,.one _ _ (.ept _ _ _ _ _ _ f)⟩;simp[Instr.indexAt,asIntOf,run_underlying I,u,sizeOf,typeInfo,o,eB,bAj];exact absurd f (Y.noArr E)
  cases h;rename_i cs E;split at h;rename_i m;obtain⟨C,l,rfl⟩:=m;injection h with h;subst h;cases J with|one c v m=>cases m with
  |bls _ _ _ _ b q c off f S M=>
   have u:0<=i/\i<(n:Int):=⟨C,l⟩;have D:=S (by omega);subst D;rcases f with f|f
   exact absurd f (Y.noBox E);refine⟨.pointer (some ⟨b,(k0+i.toNat)*B.size,none⟩),?_,.one _ _ (.ptr _ _ _ f)⟩;simp[Instr.indexAt,asIntOf,run_underlying I,u,sizeOf,typeInfo,o,eB,bAj]
  cases h;cases h;cases h
theorem aOr{f g v:AV}{x y:Value}{i:Int}{t:TypeId}(m:bI g=some i)(u:RV F γ g y)(h:Gz f i=some v)(q:RV F γ f x) (o:P.underlying t=some .string):∃r,(Instr.index t x y).run P w=.ok r w/\RV F γ v r:=by
 obtain⟨k,rfl⟩:=qQ u m;unfold Gz at h;split at h;rename_i s n;rw[uF q n];split at h;rename_i j;split at h;rename_i b l;injection h with h;subst h;have d:s[i.toNat]?=some b:=by
  have:s.data[i.toNat]?=some b:=by simpa using l
  simp only[getElem?,decidableGetElem?] at this ⊢;split at this;rename_i e;have c:i.toNat<s.size:=e;rw[dif_pos c];exact this;cases this
 exact⟨_,by simp[Instr.index,asIntOf,run_underlying o,j,d],bR rfl⟩;cases h;cases h;cases h
theorem Im{e:Option AV}{x:Value}{d:AV}{top b r:Nat}{code:BoundsCode}(c:e=some d)(j:RV F γ d x)(h:eI e top b=some r):(Instr.sliceBound x top code).run P w=.ok r w/\r<=top:=by
 subst c;simp only[eI] at h;split at h;rename_i i g;split at h;rename_i f;injection h with h;subst h
 obtain⟨k,rfl⟩:=qQ j g;exact⟨by simp[Instr.sliceBound,asIntOf,f],by omega⟩;cases h;cases h
def RO(F:Fz)(γ:L OI)(o:Option AV)(x:Option Value):Prop:=
 match o,x with
 |none,none=>True
 |some a,some x=>RV F γ a x
 |_,_=>False
theorem iV{isSlice:Bool}{q f:Option AV}{d c:Option Value}{len cap l h:Nat}(n:RO F γ q d)(e:RO F γ f c)(s:len<=cap) (b:eI f len len=some h) (j:eI q h 0=some l):(Instr.sliceBounds isSlice len cap d c none).run P w=.ok (l,h,cap) w/\l<=h/\h<=len:=by
 have m:(match c with | some v=>(Instr.sliceBound v cap (if isSlice then .sliceAcap else .sliceAlen)) | none=>pure len:Sem Nat).run P w=.ok h w/\h<=len:=by
   cases f with
   | none=>
     cases c with
     | none=>simp[eI] at b;subst b;exact⟨rfl,aZE _⟩
     | some _=>exact e.elim
   | some a=>
     cases c with
     | none=>exact e.elim
     | some x=>
       have r:h<=len:=(Im (P:=P) (w:=w) (code:=.index) rfl e b).2;have g:eI (some a) cap len=some h:=by
         simp only[eI] at b ⊢;split at b
         · rename_i i f
           split at b
           · rename_i k
             rw[if_pos ⟨k.1,by omega⟩];exact b
           · cases b
         · cases b
       exact⟨(Im (P:=P) (w:=w) rfl e g).1,r⟩
 have o:(match d with | some v=>(Instr.sliceBound v h (if (none:Option Value).isSome then .slice3C else .sliceB)) | none=>pure 0:Sem Nat).run P w=.ok l w/\l<=h:=by
   cases q with
   | none=>
     cases d with
     | none=>simp[eI] at j;subst j;exact⟨rfl,aZV _⟩
     | some _=>exact n.elim
   | some a=>
     cases d with
     | none=>exact n.elim
     | some x=>exact Im (P:=P) (w:=w) rfl n j
 refine⟨?_,o.2,m.2⟩;cases c<;>cases d<;>simp_all [Instr.sliceBounds]
theorem aOs{b v:AV}{x:Value}{i f:Option AV}{k j:Option Value}{t:TypeId}(n:RO F γ i k)(m:RO F γ f j)(h:Lx b i f=some v)(q:RV F γ b x) (o:P.underlying t=some .string):∃r,(Instr.sliceAt t x k j none).run P w=.ok r w/\RV F γ v r:=by
 unfold Lx at h;cases g:dO b with
 |none=>simp[g] at h
 |some s=>
  simp only[g,aZQ] at h;cases c:eI f s.size s.size with
  |none=>simp[c] at h
  |some e=>
   simp only[c,aZQ] at h;cases d:eI i e 0 with
   |none=>simp[d] at h
   |some l=>
    simp only[d,aZQ,Option.some.injEq] at h;subst h;rw[uF q g];have:=(iV (P:=P) (w:=w) (isSlice:=false) n m (aZE _) c d).1;exact⟨_,by simp[Instr.sliceAt,Instr.slice,run_underlying o,this],bR rfl⟩
theorem aOt{s:Nat}{av v:AV}{x:Value}{lo J:Option AV}{xl xh:Option Value}{t e:TypeId}(O:RO F γ lo xl)(N:RO F γ J xh)(h:lM hp s av lo J=some v)(W:RV F γ av x) (hv:dV F γ hp w) (ht:P.underlying t=some (.slice e)) (hs:dN P e=some s):∃r,(Instr.sliceAt t x xl xh none).run P w=.ok r w/\RV F γ v r:=by
 unfold dN at hs;cases V:P.info? e with
 |none=>simp[V] at hs
 |some y=>
  simp only[V,aZF,Option.some.injEq] at hs;subst hs;have C:∀A len cap l S,(Instr.sliceBounds true len cap xl xh none).run P w=.ok (l,S,cap) w->
    (Instr.sliceAt t (.slice A len cap) xl xh none).run P w=.ok (.slice (if cap=l then A else A.map (·.add (l*y.size))) (S-l) (cap-l)) w:=by
   intro A len cap l S H;simp[Instr.sliceAt,Instr.slice,run_underlying ht,H,sizeOf,typeInfo,V]
  unfold lM at h;split at h;rename_i es;cases B:eI J es.length es.length with
  |none=>simp[B] at h
  |some o=>
   simp only[B,aZQ] at h;cases G:eI lo o 0 with
   |none=>simp[G] at h
   |some l=>
    simp only[G,aZQ] at h;split at h
    ·rename_i X;injection h with h;subst h
     cases W with|one c v K=>cases K with|dc d v hd=>
     cases hd with
     |nil A c=>
      obtain⟨H,D,m⟩:=iV (P:=P) (w:=w) (isSlice:=true) (len:=0) (cap:=c) O N (aZV _) B G;simp at m;subst m;have:l=0:=by omega
      subst this;refine⟨_,C _ _ _ _ _ H,.one _ _ (.dc _ _ ?_)⟩;simp;exact .nil _ _
     |slc b off c size es g Z hr T Y=>
      obtain⟨H,D,m⟩:=iV (P:=P) (w:=w) (isSlice:=true) O N Y B G;refine⟨_,C _ _ _ _ _ H,.one _ _ (.dc _ _ ?_)⟩;have I:((es.take o).drop l).length=o-l:=by simp;omega
      rw[<- I];by_cases u:c=l;have:(es.take o).drop l=[]:=bAL (by rw[I];omega);rw[this];exact .nil _ _;rw[if_neg u];have Q:∀(i:Nat) e',((es.take o).drop l)[i]?=some e'->es[l+i]?=some e':=by
       intro i e' J;simp only[aZ9,bAb] at J;split at J;exact J;cases J
      simp only[aZF,eB];by_cases R:∃e',e'∈es;obtain⟨e',M⟩:=R;have hsi:size=y.size:=by
       have h3:=Z e' M;have h4:=bA0.1 X e' M;simp at h4;omega
      subst hsi;refine .slc b (off+l*y.size) (c-l) y.size _ (fun i j=>g (l+i) j) (fun e h=>Z e (aZZ (bAa h))) (fun i j e d h S=>hr _ _ _ _ (Q i e h) S) (fun i j e d h S=>?_) (by rw[I];omega)
      have:=T _ _ _ _ (Q i e h) S;rw[bAj] at this;rw[show off+l*y.size+(i*y.size+j)=off+(l*y.size+i*y.size+j) by omega];exact this;have:es=[]:=List.eq_nil_iff_forall_not_mem.2 (fun e' M=>R ⟨e',M⟩)
      subst this;simp;exact .nil _ _
    cases h
  cases B:eI J 0 0 with
  |none=>simp[B] at h
  |some o=>
   simp only[B,aZQ] at h;cases G:eI lo o 0 with
   |none=>simp[G] at h
   |some l=>
    simp only[G,aZQ,Option.some.injEq] at h;subst h;rw[cX W];obtain⟨H,D,m⟩:=iV (P:=P) (w:=w) (isSlice:=true) (len:=0) (cap:=0) O N (aZV _) B G;have e1:l=0:=by omega
    have e2:o=0:=by omega
    subst e1;subst e2;exact⟨_,C _ _ _ _ _ H,by simp;exact bR rfl⟩
  rename_i id n;split at h;rename_i cap s' es H;split at h;rename_i E;cases B:eI J n n with
  |none=>simp[B] at h
  |some o=>
   simp only[B,aZQ,Option.some.injEq] at h;subst h;cases W with|one c v K=>cases K with
   |bldN _ k f=>
    obtain⟨q,D,m⟩:=iV (P:=P) (w:=w) (isSlice:=true) (len:=0) (cap:=0) (l:=0) O N (aZV _) B rfl;have:o=0:=by omega
    subst this;exact⟨_,C _ _ _ _ _ q,by simpa using RV.one _ _ (.bldN _ _ f)⟩
   |bld _ _ b k f=>
    obtain⟨T,hec,_⟩:=hv.arr H f;obtain⟨q,D,m⟩:=iV (P:=P) (w:=w) (isSlice:=true) (len:=n) (cap:=k) (l:=0) O N (by omega) B rfl;refine⟨_,C _ _ _ _ _ q,.one _ _ ?_⟩;have:(if k=0 then some (⟨b,0,none⟩:Addr) else (some ⟨b,0,none⟩:Option Addr).map (·.add (0*y.size)))=some ⟨b,0,none⟩:=by
     split<;>simp[Addr.add]
    rw[this];exact .bld _ _ _ _ f
  cases h;rename_i cap s' es lo' H;split at h;rename_i E;obtain⟨E,rfl⟩:=E;obtain⟨o,B,h⟩:=bAk.1 h;obtain⟨l,G,h⟩:=bAk.1 h;injection h with h;subst h;cases W with|one c v K=>cases K with
  |bldN _ k f=>
   obtain⟨q,D,m⟩:=iV (P:=P) (w:=w) (isSlice:=true) (len:=0) (cap:=0) O N (aZV _) B G;have e1:o=0:=by omega
   have e2:l=0:=by omega
   subst e1;subst e2;exact⟨_,C _ _ _ _ _ q,by simpa using RV.one _ _ (.bldN _ _ f)⟩
  |bld _ _ b k f=>
   obtain⟨T,hec,_⟩:=hv.arr H f;obtain⟨q,D,m⟩:=iV (P:=P) (w:=w) (isSlice:=true) (len:=n) (cap:=k) O N (by omega) B G;refine⟨_,C _ _ _ _ _ q,.one _ _ ?_⟩;by_cases l0:l=0;subst l0;have:(if k=0 then some (⟨b,0,none⟩:Addr) else (some ⟨b,0,none⟩:Option Addr).map (·.add (0*y.size)))=some ⟨b,0,none⟩:=by
    split<;>simp[Addr.add]
   rw[this,if_pos rfl];exact .bld _ _ _ _ f;rw[if_neg l0];by_cases u:k=l;rw[if_pos u];exact .bls _ _ _ _ _ _ _ _ (.inl f) (fun hn=>by omega) (by omega)
   rw[if_neg u];simp only[aZF,eB,bAm];exact .bls _ _ _ _ _ _ _ _ (.inl f) (fun _=>rfl) (by omega)
  cases h;cases h;rename_i id k0 n z;split at h;rename_i cap s' es H;split at h;rename_i E;obtain⟨E,rfl,rfl⟩:=E;obtain⟨o,B,h⟩:=bAk.1 h;obtain⟨l,G,h⟩:=bAk.1 h;injection h with h;subst h;cases W with|one c v K=>cases K with
  |bls _ _ _ _ b k c off f ho U=>
   obtain⟨q,D,m⟩:=iV (P:=P) (w:=w) (isSlice:=true) (len:=n) (cap:=c) O N U B G;refine⟨_,C _ _ _ _ _ q,.one _ _ ?_⟩;by_cases u:c=l;rw[if_pos u];exact .bls _ _ _ _ _ _ _ _ f (fun hn=>by omega) (by omega)
   rw[if_neg u];simp only[aZF,eB];exact .bls _ _ _ _ _ _ _ _ f (fun hn=>by rw[ho (by omega),bAj]) (by omega)
  cases h;rename_i cs H;split at h;rename_i E;subst E;obtain⟨o,B,h⟩:=bAk.1 h;obtain⟨l,G,h⟩:=bAk.1 h;injection h with h;subst h
  cases W with|one c v K=>cases K with
  |bls _ _ _ _ b k c off f ho U=>
   obtain⟨q,D,m⟩:=iV (P:=P) (w:=w) (isSlice:=true) (len:=n) (cap:=c) O N U B G;refine⟨_,C _ _ _ _ _ q,.one _ _ ?_⟩;by_cases u:c=l;rw[if_pos u];exact .bls _ _ _ _ _ _ _ _ f (fun hn=>by omega) (by omega)
   rw[if_neg u];simp only[aZF,eB];exact .bls _ _ _ _ _ _ _ _ f (fun hn=>by rw[ho (by omega),bAj]) (by omega)
  cases h;cases h;cases h
theorem aOu{n s:Nat}{o v:AV}{x:Value}{y q:Option AV}{A z:Option Value}{t e:TypeId}(G:RO F γ y A)(E:RO F γ q z)(h:aJp n s o y q=some v)(M:RV F γ o x) (K:P.underlying t=some (.array n e)) (i:dN P e=some s) (J:s≠0):∃r,(Instr.sliceAt t x A z none).run P w=.ok r w/\RV F γ v r:=by
 unfold dN at i;cases d:P.info? e with
 |none=>simp[d] at i
 |some m=>
  simp only[d,aZF,Option.some.injEq] at i;subst i;unfold aJp at h;split at h;rename_i id off;split at h;rename_i I;obtain⟨k,B,h⟩:=bAk.1 h;obtain⟨l,C,h⟩:=bAk.1 h;injection h with h;subst h;cases M with|one c v D=>cases D with
  |ptr _ _ b g=>
   obtain⟨j,H,u⟩:=iV (P:=P) (w:=w) (isSlice:=false) (len:=n) (cap:=n) G E (aZE _) B C;refine⟨.slice (some (if n=l then ⟨b,off,none⟩ else (⟨b,off,none⟩:Addr).add (l*m.size))) (k-l) (n-l),?_,.one _ _ ?_⟩;simp[Instr.sliceAt,Instr.sureAddr,run_underlying K,j,sizeOf,typeInfo,d];by_cases f:n=l;rw[if_pos f];exact .bls _ _ _ _ _ 0 _ _ (.inr g) (fun N=>by omega) (by omega)
   rw[if_neg f];simp only[eB];refine .bls _ _ _ _ _ 0 _ _ (.inr g) (fun _=>?_) (by omega)
   rw[bAj,Nat.div_mul_cancel (Nat.dvd_of_mod_eq_zero I)]
  cases h;cases h
end
end
section
section
variable {P:Program}{F:Fz}{γ:L OI}{w:World}{hp:L aD}{a:Act}
theorem aOv{n:Nat}{k:Int}{u l v:AV}{i x:Value}{t e:TypeId}(B:bI u=some k)(z:RV F γ u i)(h:Wl n l k=some v)(H:RV F γ l x)(E:P.underlying t=some (.array n e)) (o:Ez P e=some false) (q:dN P e=some 1):∃r,(Instr.index t x i).run P w=.ok r w/\RV F γ v r:=by
 obtain⟨K,rfl⟩:=qQ z B;unfold Wl at h;split at h;rename_i cs J;split at h
 ·rename_i m;cases H with|agg _ vs D C=>
  obtain⟨c,b,rfl⟩:=Option.map_eq_some_iff.1 h;have j:k.toNat<vs.size:=by omega
  have s:vs[k.toNat]?=some vs[k.toNat]:=bAe j;unfold Ez at o;obtain⟨d,G,y⟩:=Option.map_eq_some_iff.1 o;unfold dN at q;obtain⟨I,g,A⟩:=Option.map_eq_some_iff.1 q;have f:P.cellsOf e=1:=by grind[Program.cellsOf]
  refine⟨vs[k.toNat],?_,.one _ _ (C k.toNat c _ b s)⟩;simp only[Instr.index,Sem.run_bind,asIntOf,Sem.run_pure,Result.andThen_ok,run_underlying E,if_pos (show 0<=k/\k<(n:Int) from ⟨m.1,m.2.1⟩),run_sizeOf w g,f,bAs]
  cases d<;>simp[aBP] at y<;>simp[part,isAgg,run_underlying G,s]
 cases h;cases h
theorem aOw{n:Nat}{q v:AV}{x:Value}{t e:TypeId}(h:aBO n q=some v)(i:RV F γ q x)(D:P.underlying t=some (.array n e)):∃r,(Instr.arrayAt t x).run P w=.ok r w/\RV F γ v r:=by
 unfold aBO at h;split at h;rename_i es;split at h
 ·rename_i H;injection h with h;subst h
  cases i with|one _ _ i=>cases i with|dc _ _ i=>
  cases i with
  |nil A c=>grind
  |slc b off c size es g m J o z=>
   have l:∀(es:L (L DC)),(∀e∈es,e.length=size)->∀(j:Nat) d,es.flatten[j]?=some d->0<size/\∃e,es[j / size]?=some e/\e[j % size]?=some d:=by
    intro es
    induction es with
    |nil=>simp_all
    |cons e es E=>
     intro k j d f;have B:=k e aZT;rw[bAx] at f;by_cases I:j<size;grind[List.getElem?_append_left,Nat.div_eq_of_lt,Nat.mod_eq_of_lt];rw[aZ0 (by omega),B] at f;obtain⟨s,G,u,y⟩:=E (fun x i=>k x (aZ3 _ i)) (j-size) d f
     grind[Nat.div_eq_sub_div,Nat.mod_eq_sub_mod]
   refine⟨.pointer (some ⟨b,off,none⟩),?_,.one _ _ (.ref _ b off (fun j=>g (j / size) (j % size)) (fun j d f=>?_) (fun j d f=>?_))⟩
   have C:¬ ((es.length:Nat)<n):=by omega
   simp[Instr.arrayAt,run_underlying D,C];obtain⟨s,e,u,y⟩:=l _ (fun e k=>m e (aZZ k)) j d f
   grind
   obtain⟨s,e,u,y⟩:=l _ (fun e k=>m e (aZZ k)) j d f
   grind[Nat.mul_comm,Nat.div_add_mod]
 cases h;cases h
theorem aEt{n:Nat}{f v:AV}{x:Value}(h:Wk f n=some v)(j:RV F γ f x):∃r,(Instr.extract x n).run P w=.ok r w/\RV F γ v r:=by
 unfold Wk at h;split at h
 ·rename_i l;cases j with|tup _ vs m k=>
  have g:∀t,l[n]?=some t->∃r,vs[n]?=some r/\RT F γ t r:=by
   simp_all[aK,bAe]
  split at h;rename_i c e;injection h with h;subst h
  obtain⟨r,b,d⟩:=g _ e;refine⟨r,by simp[Instr.extract,b],?_⟩;cases d with|one c v h=>exact .one _ _ h
  rename_i c e;injection h with h;subst h
  obtain⟨r,b,d⟩:=g _ e;refine⟨r,by simp[Instr.extract,b],?_⟩;cases d with|agg c v h i=>exact .agg _ _ h i
  cases h
 cases h
theorem aJv{u v:AV}{x:Value}{t e:TypeId}{ty:TypeId}(h:tJ u=some v)(l:RV F γ u x)(E:P.underlying t=some (.slice e))(q:Array TypeId)(m:q[0]?=some t)(s:Array Value)(o:s[0]?=some x):∃r,(Builtin.len_ q ty s).run P w=.ok r w/\RV F γ v r:=by
 have i:∀A n c,x=.slice A n c->(Builtin.len_ q ty s).run P w=.ok (.int .i64 n) w:=by
  rintro A n c rfl;simp[Builtin.len_,m,o,run_underlying E,goInt]
 unfold tJ at h;split at h;injection h with h;subst h
 cases l with|one c v j=>cases j with|dc d v C=>cases C with
 |nil A c=>exact⟨_,i _ _ _ rfl,bR rfl⟩
 |slc b off c size es g D H z y=>exact⟨_,i _ _ _ rfl,bR rfl⟩
 injection h with h;subst h
 rw[cX l] at i;exact⟨_,i _ _ _ rfl,bR rfl⟩;injection h with h;subst h
 cases l with|one c v j=>cases j with
 |bldN _ f k=>exact⟨_,i _ _ _ rfl,bR rfl⟩
 |bld _ _ b f k=>exact⟨_,i _ _ _ rfl,bR rfl⟩
 injection h with h;subst h
 cases l with|one c v j=>cases j with
 |bls _ _ _ _ b f c off k G B=>exact⟨_,i _ _ _ rfl,bR rfl⟩
 cases h
theorem aEu{k:AV}{x:Value}{b:Bool}(h:aJq k=some b)(i:RV F γ k x):∃A n c,x=.slice A n c/\A.isNone=b:=by
 unfold aJq at h;split at h;injection h with h;subst h
 exact⟨_,_,_,cX i,rfl⟩;injection h with h;subst h
 cases i with|one c v f=>cases f with|dc d v q=>cases q with
 |slc b off c size es g r t m l=>simp_all
 injection h with h;subst h
 cases i with|one c v f=>cases f with
 |bld _ _ b e j=>simp_all
 injection h with h;subst h
 cases i with|one c v f=>cases f with
 |bls _ _ _ _ b e c off j s o=>simp_all
 cases h
theorem aEv{f:AV}{x:Value}{b:Bool}(h:aJr f=some b)(e:RV F γ f x):∃A,x=.pointer A/\A.isNone=b:=by
 unfold aJr at h;split at h;injection h with h;subst h
 exact⟨_,cX e,rfl⟩;all_goals first|(injection h with h;subst h;cases e with|one c v d=>cases d;simp_all)|(injection h with h;subst h;cases e with|one c v d=>cases d with|dc _ _ g=>cases g;simp_all)|cases h
theorem Mp{t e:TypeId}{A:Option Addr}{n c:Nat}(d:Nat)(h:P.underlying t=some (.slice e)):(Op.equalIn (d+1) t (.slice A n c) (.slice none 0 0)).run P w=.ok A.isNone w:=by
 cases A<;>simp[Op.equalIn,run_underlying h]
theorem Rk{t e:TypeId}{A:Option Addr}(d:Nat)(h:P.underlying t=some (.pointer e)):(Op.equalIn (d+1) t (.pointer A) (.pointer none)).run P w=.ok A.isNone w:=by
 cases A<;>simp[Op.equalIn,run_underlying h]
theorem aEw{p neg:Bool}{d:TypeDesc}{t:TypeId}{q k:Operand}{j v:AV}{x:Value}(h:aBN p neg j=some v)(o:RV F γ j x)(m:P.underlying t=some d)(f:Rj d k=some p):∃r,((do eqGuard (if neg then .neq else .eql) t q k x (a.eval k);Go.binOp (if neg then .neq else .eql) t x (a.eval k)):Sem Value).run P w=.ok r w/\RV F γ v r:=by
 unfold Rj at f;split at f;rename_i e;injection f with f;subst f
 cases g:aJq j with
 |none=>grind[aBN]
 |some b=>
  obtain⟨A,n,c,rfl,l⟩:=aEu g o;simp only[aBN,g,cond_false,aZF,Option.some.injEq] at h;subst h;have i:(Op.equal t (.slice A n c) (.slice none 0 0)).run P w=.ok b w:=by
   rw[<- l];exact Mp 9999 m
  cases neg;exact⟨_,by simp[eqGuard,Go.binOp,i,Act.eval],bR rfl⟩;exact⟨_,by simp[eqGuard,Go.binOp,i,Act.eval],bR rfl⟩
 rename_i e;injection f with f;subst f
 cases g:aJr j with
 |none=>grind[aBN]
 |some b=>
  obtain⟨A,rfl,l⟩:=aEv g o;simp only[aBN,g,cond_true,aZF,Option.some.injEq] at h;subst h;have i:(Op.equal t (.pointer A) (.pointer none)).run P w=.ok b w:=by
   rw[<- l];exact Rk 9999 m
  cases neg;exact⟨_,by simp[eqGuard,Go.binOp,i,Act.eval],bR rfl⟩;exact⟨_,by simp[eqGuard,Go.binOp,i,Act.eval],bR rfl⟩
 grind
theorem Io{k:Int}:∀(es:L (Int×Value)) (l:L MapEntry) (i:Nat),l.map (fun e=>(e.key,e.val))=es.map (fun p=>(Value.int .i64 p.1,p.2))-> ∃q,Instr.findNow (.int .i64) (.int .i64 k) l i=some q/\q.map (·.2)=By es k
 | [],l,i,h=>by
   have:l=[]:=by simpa using h
   subst this;exact⟨none,rfl,rfl⟩
 | (a,v)::es,l,i,h=>by
   cases l with
   | nil=>simp at h
   | cons e l=>
     simp only[aZL,List.cons.injEq,Prod.mk.injEq] at h;obtain⟨⟨d,f⟩,h3⟩:=h;obtain⟨q,g,c⟩:=Io es l (i+1) h3;by_cases b:a=k
     · grind[By,Instr.findNow,Instr.sameNow]
     · refine⟨q, ?_,by rw[c,By,if_neg b]⟩
       grind[Instr.findNow,Instr.sameNow]
theorem aOx{D:Bool}{z:Value}{I J v:AV}{x y:Value}{t C K:TypeId}(hf:∀b o,F b=some o->w.heap[b]?=some o)(h:Ri D z I J=some v)(U:RV F γ I x)(V:RV F γ J y)
  (S:P.underlying t=some (.map C K)) (O:P.underlying C=some (.int .i64)) (W:(P.info? K).bind (fun i=>i.zero)=some z) (B:is1 z=true):
  ∃r,(Instr.lookup t x y D).run P w=.ok r w/\RV F γ v r:=by
 unfold Ri at h;split at h
 ·rename_i es k;injection h with h;subst h
  cases U with|one c _ G=>cases G with|mpc _ r E f M N d=>
  have H:=cX V;subst H;have T:=hf _ _ M;obtain⟨q,R,Q⟩:=Io (k:=k) es f.toList 0 N;obtain⟨i,s,u⟩:=bAk.1 W;have g:∀v,By es k=some v->is1 v=true:=by
   clear N R Q M
   induction es with
   |nil=>intro v h;cases h
   |cons p es X=>
    grind[By,List.mem_cons_self,List.mem_cons_of_mem]
  have n:(getObj r).run P w=.ok (.map f E) w:=by simp[getObj,Sem.run,T]
  have l:(Instr.checkKey f.isEmpty (9999+1) C (.int .i64 k)).run P w=.ok () w:=by
   unfold Instr.checkKey;simp[run_underlying O]
  have m:(Instr.findKey C (.int .i64 k) f.toList).run P w=.ok q w:=by
   simp[Instr.findKey,run_underlying O,R]
  rw[<- Q] at g ⊢;cases q with
  |none=>
   cases D;exact⟨z,by simp[Instr.lookup,run_underlying S,n,l,m,zeroValue,typeInfo,s,u],bR B⟩;refine⟨.tuple #[z,.bool false],by simp[Instr.lookup,run_underlying S,n,l,m,zeroValue,typeInfo,s,u],?_⟩;refine .tup _ _ rfl (fun j t v d e=>?_)
   match j,d,e with
   |0,d,e=>injection d with d;simp at e;subst d;subst e;exact .one _ _ (.dc _ _ (.raw _ B))
   |1,d,e=>injection d with d;simp at e;subst d;subst e;exact .one _ _ (.dc _ _ (.raw _ rfl))
   |j+2,d,e=>simp at d
  |some p=>
   have A:=g p.2 rfl;cases D;exact⟨p.2,by simp_all[Instr.lookup,run_underlying],bR A⟩;refine⟨.tuple #[p.2,.bool true],by simp_all[Instr.lookup,run_underlying],?_⟩;refine .tup _ _ rfl (fun j t v d e=>?_)
   match j,d,e with
   |0,d,e=>injection d with d;simp at e;subst d;subst e;exact .one _ _ (.dc _ _ (.raw _ A))
   |1,d,e=>injection d with d;simp at e;subst d;subst e;exact .one _ _ (.dc _ _ (.raw _ rfl))
   |j+2,d,e=>simp at d
 cases h
theorem aOy{b c v:AV}{x y:Value}(h:aEl b c=some v)(d:RV F γ b x)(e:RV F γ c y):∃r,(Builtin.min2 x y).run P w=.ok r w/\RV F γ v r:=by
 unfold aEl at h;split at h;injection h with h;subst h
 rw[cX d,cX e];exact⟨_,by simp[Builtin.min2],bR rfl⟩;cases h
theorem aOz{b c v:AV}{x y:Value}(h:aEm b c=some v)(d:RV F γ b x)(e:RV F γ c y):∃r,(Builtin.max2 x y).run P w=.ok r w/\RV F γ v r:=by
 unfold aEm at h;split at h;injection h with h;subst h
 rw[cX d,cX e];exact⟨_,by simp[Builtin.max2],bR rfl⟩;cases h
def RCs(F:Fz)(γ:L OI)(cs:L aV)(vs:Array Value):Prop:=vs.size=cs.length/\∀(i:Nat) c v,cs[i]?=some c->vs[i]?=some v->RC F γ c v
theorem RCs.raw{vs:L Value}(h:∀v∈vs,is1 v=true):RCs F γ (vs.map cK) vs.toArray:=by
 refine⟨by simp,fun i c v b d=>?_⟩
 simp only[aZI,List.getElem?_toArray] at b d;rw[d] at b;simp at b;subst b;exact .dc _ _ (.raw _ (h v (aZ4 d)))
theorem RV.cells{b:AV}{x:Value}{cs:L aV}(d:RV F γ b x)(h:cellsOf b=some cs):RCs F γ cs x.cells:=by
 unfold cellsOf at h;split at h
 ·injection h with h;subst h
  cases d with|one c v e=>
  have l:=e.is1;have:x.cells=#[x]:=by cases x<;>first|rfl|grind[is1]
  rw[this];refine⟨rfl,fun i k v f m=>?_⟩
  grind
 injection h with h;subst h
 cases d with|agg _ vs j g=>exact⟨j,g⟩
 cases h
theorem RCs.put{cs vs:L aV}{as bs:Array Value}{off:Nat}(h:RCs F γ cs as)(m:RCs F γ vs bs)(r:off+vs.length<=cs.length):RCs F γ (dA cs off vs) (bs.zipIdx.foldl (fun cs (c,j)=>cs.setIfInBounds (off+j) c) as):=by
 have g:∀ (l:L Value) (k:Nat) (as:Array Value) (i:Nat),(l.zipIdx k |>.foldl (fun (cs:Array Value) (c,j)=>cs.setIfInBounds (off+j) c) as).size=as.size/\
     (l.zipIdx k |>.foldl (fun (cs:Array Value) (c,j)=>cs.setIfInBounds (off+j) c) as)[i]?=if off+k<=i/\i < off+k+l.length/\i < as.size then l[i - (off+k)]? else as[i]?:=by
   intro l
   induction l with
   | nil=>intro k as i;simp;omega
   | cons x l s=>
     intro k as i;simp only[List.zipIdx_cons,bAN];obtain⟨u,y⟩:=s (k+1) (as.setIfInBounds (off+k) x) i
     grind
 have n:=g bs.toList 0 as;rw[<- Array.foldl_toList,Array.toList_zipIdx];refine⟨?_,fun i c v b d=>?_⟩
 rw[(n 0).1,h.1];grind[dA];rw[(n i).2] at d;have q:=m.1;simp only[dA] at b;simp only[bBb,bAn] at d;by_cases o:i<off;rw[if_neg (by omega)] at d;rw[aZP,aZU (by grind),bAb,if_pos o] at b;exact h.2 i c v b d;by_cases t:i<off+vs.length;have f:i<as.size:=by grind
 rw[if_pos ⟨by omega,by omega,f⟩] at d;rw[aZP,aZ0 (by grind),aZU (by grind)] at b;have e:min off cs.length=off:=by omega
 simp only[aZD,e] at b;exact m.2 _ c v b (by simp_all);rw[if_neg (by omega)] at d;rw[aZ0 (by grind)] at b;have e:min off cs.length=off:=by omega
 simp only[aZA,aZD,e,aZ9] at b;rw[show off+vs.length+(i-(off+vs.length))=i by omega] at b;exact h.2 i c v b d
theorem Cx{place:Nat->Option (Nat×Nat)}:∀(k:L (Nat×Nat×AV)) (c:L (Nat×Value)) (b cs:L aV) (as:Array Value),RCs F γ b as->iQ b k=some cs->k.length=c.length-> (∀(i:Nat) o s d j x,k[i]?=some (o,s,d)->c[i]?=some (j,x)->place j=some (o,s)/\RV F γ d x)->∃r,Instr.fill place as c=some r/\RCs F γ cs r
 | [],c,b,cs,as,h,hf,m,_=>by
   cases c with
   | nil=>simp[iQ] at hf;subst hf;exact⟨as,rfl,h⟩
   | cons _ _=>simp at m
 | (o,s,d)::k,c,b,cs,as,h,hf,m,hp=>by
   cases c with
   | nil=>simp at m
   | cons q c=>
     obtain⟨j,x⟩:=q;obtain⟨n,B⟩:=hp 0 o s d j x rfl rfl;simp only[iQ] at hf;cases e:cellsOf d with
     | none=>simp_all
     | some vs=>
       simp only[e,aZQ] at hf;split at hf
       · rename_i y
         obtain⟨l,z⟩:=y;have g:=B.cells e;have f:=h.put g (off:=o) (by omega);obtain⟨r,A,t⟩:=Cx k c _ cs _ f hf (by simp_all) (fun i o s d j x u v=>hp (i+1) o s d j x u v)
         refine⟨r, ?_,t⟩;simp only[Instr.fill,n];have C:x.cells.size=s:=by rw[g.1,l]
         have D:=h.1
         simp_all
       grind
theorem Cy:∀(es:L (L DC)) (l:L UInt8),gF es=some l->∃b:L Int,es=b.map (fun n=>[DC.raw (.int .u8 n)])/\l=b.map (fun n=>UInt8.ofNat n.toNat)
 |[],l,h=>by simp[gF] at h;subst h;exact⟨[],rfl,rfl⟩
 | d::es,l,h=>by
   match d,h with
   | [.raw (.int .u8 n)],h=>
     simp only[gF] at h;cases c:gF es with
     | none=>simp_all
     | some e=>
       simp only[c,aZF,Option.some.injEq] at h;subst h;obtain⟨b,rfl,rfl⟩:=Cy es e c;exact⟨n::b,rfl,rfl⟩
theorem aEx(c:L Int):∀b:ByteArray,c.foldl (fun r n=>r.push (UInt8.ofNat n.toNat)) b=⟨b.data++(c.map (fun n=>UInt8.ofNat n.toNat)).toArray⟩:=by
 induction c with
 |nil=>simp_all
 |cons n c d=>
  simp_all
theorem Hl(a:Addr)(n c:Nat)(es:L (L DC))(l:L UInt8)(e:gF es=some l)(f:es.length=n) (g:∀(i:Nat) n,es[i]?=some [.raw (.int .u8 n)]->w.cell? (a.add i)=some (.int .u8 n)):(Conv.bytesToString (.slice (some a) n c)).run P w=.ok (.string ⟨l.toArray⟩) w:=by
 obtain⟨d,rfl,rfl⟩:=Cy es l e;subst f;have b:=run_loadCells_list (P:=P) w a (d.map (Value.int .u8)) (fun j v h=>by
   grind)
 simp only[aZz] at b ⊢;rw[run_bytesToString w a _ c d b,aEx];simp
theorem Gb:∀(cs:L aV)(l:L UInt8),jO cs=some l->∃b:L Int,cs=b.map (fun n=>aV.dc (.raw (.int .u8 n)))/\gF (b.map fun n=>[DC.raw (.int .u8 n)])=some l
 |[],l,h=>by simp[jO] at h;subst h;exact⟨[],rfl,rfl⟩
 | d::cs,l,h=>by
   match d,h with
   | .dc (.raw (.int .u8 n)),h=>
     simp only[jO] at h;cases c:jO cs with
     | none=>simp_all
     | some f=>
       simp only[c,aZF,Option.some.injEq] at h;subst h;obtain⟨b,rfl,e⟩:=Gb cs f c;exact⟨n::b,rfl,by simp[gF,e]⟩
theorem aJw{av v:AV}{x:Value}{s d e:TypeId}(h:nZ hp av=some v)(S:RV F γ av x)(R:dV F γ hp w)(hs:P.underlying s=some (.slice e))(hd:P.underlying d=some .string) (he:P.underlying e=some (.int .u8)):∃r,(convert s d x).run P w=.ok r w/\RV F γ v r:=by
 have hnil:∀A c,(Conv.bytesToString (.slice A 0 c)).run P w=.ok (.string ⟨#[]⟩) w:=by
  intro A c;cases A with
  |none=>rfl
  |some a=>exact Hl a 0 c [] [] rfl rfl (fun i n h=>by simp at h)
 have t:(∃A n c,x=.slice A n c)->(convert s d x).run P w=(Conv.bytesToString x).run P w:=by
  rintro⟨A,n,c,rfl⟩;simp[convert,run_underlying hs,run_underlying hd,run_underlying he]
 unfold nZ at h;split at h;rename_i es;cases D:gF es with
 |none=>simp_all
 |some l=>
  simp only[D,aZF,Option.some.injEq] at h;subst h;cases S with|one c v I=>cases I with|dc d v V=>cases V with
  |nil A c=>
   simp[gF] at D;subst D;exact⟨_,by simp_all,bR rfl⟩
  |slc b off c size es g H O J hcap=>
   have C:∀(i:Nat)(n:Int),es[i]?=some [.raw (.int .u8 n)]->w.cell? ((⟨b,off,none⟩:Addr).add i)=some (.int .u8 n):=by
    intro i n k;have U:size=1:=by have:=H _ (aZ4 k);simp_all
    subst U;have h2:=J i 0 _ _ k rfl;have h3:=O i 0 _ _ k rfl;rw[eB];simp at h2;have h4:=Fz.cell_world R.fz h2;rw[h4];generalize g i 0=y at h3;cases h3;rfl
   exact⟨_,by rw[t ⟨_,_,_,rfl⟩,Hl _ _ _ es l D rfl C],bR rfl⟩
 injection h with h;subst h
 rw[cX S] at t ⊢;exact⟨_,by rw[t ⟨_,_,_,rfl⟩];rfl,bR rfl⟩;rename_i id n;split at h;rename_i cap s' es D;split at h;rename_i M;cases j:gF (es.take n) with
 |none=>simp_all
 |some l=>
  simp only[j,aZF,Option.some.injEq] at h;subst h;cases S with|one c v I=>cases I with
  |bldN _ E f=>
   simp[gF] at j;subst j;exact⟨_,by simp_all,bR rfl⟩
  |bld _ _ b E f=>
   obtain⟨J,hec,W,vs,T,X,H,O⟩:=R.arr D f;have C:∀(i:Nat)(m:Int),(es.take n)[i]?=some [.raw (.int .u8 m)]->w.cell? ((⟨b,0,none⟩:Addr).add i)=some (.int .u8 m):=by
    intro i m k;have u:es[i]?=some [.raw (.int .u8 m)]:=by
     grind
    have U:s'=1:=by have:=W _ (aZ4 u);simp_all
    subst U;have hilt:=aK u;have B:i<vs.size:=by omega
    have Q:vs[i]?=some (vs[i]'B):=bAe B;have h3:=O i 0 _ _ _ u rfl (by rw[bAs,bAn];exact Q);rw[eB,mQ X];simp only[bAm];rw[Q];generalize vs[i]'B=y at h3;cases h3;rfl
   exact⟨_,by rw[t ⟨_,_,_,rfl⟩,Hl _ _ _ (es.take n) l j (by grind) C],bR rfl⟩
 cases h;cases h;rename_i id k0 n z;split at h;rename_i cs D;split at h;rename_i M;obtain⟨rfl,hle⟩:=M;cases j:jO ((cs.drop k0).take n) with
 |none=>simp_all
 |some l=>
  simp only[j,aZF,Option.some.injEq] at h;subst h;obtain⟨ns,Y,G⟩:=Gb _ _ j;cases S with|one c v I=>cases I with
  |bls _ _ _ _ b E c off f ho hcn=>
   rcases f with f|f;exact absurd f (R.noBox D);obtain⟨vs,T,X,H,O⟩:=R.box D f;have K:ns.length=n:=by
    have:=congrArg List.length Y;grind
   by_cases h0:n=0;subst h0;have:ns=[]:=List.length_eq_zero_iff.1 K;subst this;simp[gF] at G;subst G;exact⟨_,by simp_all,bR rfl⟩;have Z:=ho h0
   have C:∀ (i:Nat) (m:Int),(ns.map fun n=>[DC.raw (.int .u8 n)])[i]?=some [.raw (.int .u8 m)]->w.cell? ((⟨b,off,none⟩:Addr).add i)=some (.int .u8 m):=by
     intro i m k;rw[aZI] at k;obtain⟨q,hq,hqm⟩:=Option.map_eq_some_iff.1 k;have N:q=m:=by simp_all
     subst N;have o:((cs.drop k0).take n)[i]?=some (.dc (.raw (.int .u8 q))):=by simp_all
     rw[bAb] at o;split at o
     · rw[aZ9] at o
       have hlt:=aK o;have Q:vs[k0+i]?=some (vs[k0+i]'(by omega)):=bAe (by omega);have h3:=O _ _ _ o Q;rw[eB,mQ X,Z,bAs,Q];generalize vs[k0+i]'(by omega)=y at h3;cases h3 with | dc _ _ h3=>cases h3;rfl
     grind
   exact⟨_,by rw[t ⟨_,_,_,rfl⟩,Hl _ _ _ _ l G (by grind) C],bR rfl⟩
 cases h;cases h;cases h
theorem Zp{G:aF}{sl:L AV}{a:Act}(l:bZ F γ sl a)(j:fZ F G):∀(b:L Operand)(cs:L aV),
  ((b.map aY).mapM fun c=>jF (aM G sl c))=some cs->
  cs.length=b.length/\∀(i:Nat) c x,cs[i]?=some c->b[i]?=some x->RC F γ c (a.eval x)
 | [],cs,h=>by
   simp at h;subst h;exact⟨rfl,fun i c x h=>by simp at h⟩
 | o::b,cs,h=>by
   rw[aZL,bAA] at h;have k:=dB (G:=G) l j o;cases d:jF (aM G sl (aY o)) with
   | none=>rw[d] at h;cases h
   | some c=>
     have e:aM G sl (aY o)=.one c:=by
       generalize aM G sl (aY o)=n at d;cases n<;>simp[jF] at d;rw[d]
     rw[e] at k;rw[d] at h;cases f:((b.map aY).mapM fun c=>jF (aM G sl c)) with
     | none=>rw[f] at h;cases h
     | some cs'=>
       rw[f] at h;have q:c::cs'=cs:=by grind
       subst q;obtain⟨r,t⟩:=Zp l j b cs' f;refine⟨by simp[r],fun i s x g m=>?_⟩
       cases i with
       | zero=>
         simp at g m;subst g;subst m;cases k with | one c v h=>exact h
       | succ i=>grind
theorem Ip{G:aF}{sl:L AV}{p:L (Nat×Nat) ⊕ Nat}:∀(b:L (Nat×Operand)) (l:L (Nat×Nat×aH)),b.mapM (oT p)=some l-> l.length=b.length/\∀(i:Nat) o s c,(l.map fun (o,s,x)=>(o,s,aM G sl x))[i]?=some (o,s,c)->∃j x,b[i]?=some (j,x)/\qG p j=some (o,s)/\c=aM G sl (aY x)
 |[],l,h=>by simp_all
 | (j,x)::b,l,h=>by
   simp only[bAA,oT] at h;cases hp:qG p j with
   | none=>simp_all
   | some q=>
     obtain⟨o,s⟩:=q;cases d:b.mapM (oT p) with
     | none=>simp_all
     | some e=>
       simp[hp,d] at h;subst h;obtain⟨f,g⟩:=Ip (G:=G) (sl:=sl) b e d
       grind
theorem aEy{G:aF}{sl:L AV}{a:Act}(R:bZ F γ sl a)(Q:fZ F G){t:TypeId}{p:L (Nat×Nat) ⊕ Nat}{m:TypeInfo}{z:Value}{q:Array (Nat×Operand)}{l:L (Nat×Nat×aH)}{cs:L aV} (b:Hk P t=some p) (d:P.info? t=some m) (D:m.zero=some z) (y:z.cells.toList.all is1=true)
  (M:q.toList.mapM (oT p)=some l) (hf:iQ (z.cells.toList.map cK) (l.map fun (o,s,x)=>(o,s,aM G sl x))=some cs):
  ∃r,(Instr.build t (q.map fun (i,x)=>(i,a.eval x))).run P w=.ok r w/\RV F γ (.agg cs) r:=by
 obtain⟨O,J⟩:=Ip (G:=G) (sl:=sl) q.toList l M;have A:RCs F γ (z.cells.toList.map cK) z.cells:=by
  have:=RCs.raw (F:=F) (γ:=γ) (vs:=z.cells.toList) (fun v N=>bA0.1 y v N)
  omega
 obtain⟨r,h,k⟩:=Cx (place:=qG p) (l.map fun (o,s,x)=>(o,s,aM G sl x)) (q.toList.map fun (i,x)=>(i,a.eval x)) _ cs z.cells A hf (by grind) (fun i o s H j x K C=>by
   obtain⟨S,T,h3,h4,h5⟩:=J i o s H K;simp only[aZI,h3,aZF,Option.some.injEq,Prod.mk.injEq] at C;obtain⟨rfl,rfl⟩:=C
   grind[dB])
 refine⟨.agg r,?_,.agg _ _ k.1 k.2⟩;refine run_build w t _ r ?_;unfold Hk at b;unfold Program.built;split at b;rename_i I u;cases g:I.toList.mapM (fun f=>(P.info? f.type).map fun i=>(f.offset,i.size)) with
 |none=>grind
 |some E=>
  simp only[g,aZF,Option.some.injEq] at b;subst b;simp only[d,u,D,g];have e:(fun x=>E.toArray[x]?)=qG (.inl E):=by grind[qG]
  rw[e];simpa using h
 rename_i n e u;cases c:P.info? e with
 |none=>grind
 |some B=>
  simp only[c,aZF,Option.some.injEq] at b;subst b;simp only[d,u,D,c];have e:(fun i=>some (i*B.size,B.size))=qG (.inr B.size):=by grind[qG]
  rw[e];simpa using h
 grind
theorem E0{G:aF}{sl:L AV}{a:Act}(c:bZ F γ sl a)(b:fZ F G)(x:Option Operand):RO F γ ((x.map aY).map (aM G sl)) (x.map a.eval):=by
 cases x with
 |none=>trivial
 |some x=>exact dB c b x
theorem aBQ{F:Fz}{γ:L OI}{c:aV}{x:Value}(h:RV F γ (.one c) x):RC F γ c x:=by cases h with|one c v h=>exact h
theorem aEz{G:aF}{as:AS}{P:Program}{c:Array Operand}{f:Array TypeId}{d:AI}
  (b:(match f.toList,c.toList with
  |[t,u],[s,x]=>
   match P.underlying t,P.underlying u with
   |some (.slice e),some (.slice e')=>
    if e=e' then (P.info? e).bind fun i=>i.zero.bind fun z=>if z.cells.size=i.size/\0<i.bytes then some (AI.app i.size i.bytes z.cells.toList (aY s) (aY x)) else none else none
   |some (.slice e),some .string=>if P.underlying e matches some (.int .u8) then (P.info? e).bind fun i=>i.zero.bind fun z=>if i.size=1/\i.bytes=1/\z.cells.size=1 then some (AI.apps (aY s) (aY x)) else none else none
   |_,_=>none
  | _,_=>none)=some d):dL G as d=none:=by
 repeat' (first|(obtain⟨_,_,b⟩:=b)|split at b|(simp only[bAk,Option.map_eq_some_iff] at b))
 all_goals first|(cases b;done)|(injection b with b;subst b;rfl)|(subst b;rfl)|rfl
theorem aEA{G:aF}{as:AS}{a:Act}{o:Oper}{ai:AI}{v:AV}(h:bE P o=some ai)(q:dL G as ai=some v)(U:dV F γ as.hp w)(Q:bZ F γ as.sl a)(O:fZ F G):∃x,(execOp a.eval o).run P w=.ok (.value x) w/\RV F γ v x:=by
 have j:∀(s:Sem Value),(∃r,s.run P w=.ok r w/\RV F γ v r)->∃x,((do pure (Next.value (<- s))):Sem Next).run P w=.ok (.value x) w/\RV F γ v x:=by
  simp_all
 have A:=fun x=>dB (G:=G) Q O x
 obtain⟨dst,X,Y,pos,after,guard⟩:=o;unfold bE at h;cases X<;>simp only[reduceCtorEq] at h
 case move x=>
  injection h with h;subst h
  simp only[dL,Option.some.injEq] at q;subst q;exact⟨_,rfl,A x⟩
 case assign x=>
  injection h with h;subst h
  simp only[dL,Option.some.injEq] at q;subst q;exact⟨_,rfl,A x⟩
 case pick c x y=>
  injection h with h;subst h
  simp only[dL,Cw] at q;split at q;rename_i b hb;injection q with q;subst q
  have:=Ox (A c) hb;refine⟨if b then a.eval x else a.eval y,?_,?_⟩
  simp[execOp,this,asBool];grind;grind
 case alloc e=>cases B:P.info? e with
   | none=>simp_all
   | some i=>cases D:i.zero with
     | none=>simp_all
     | some z=>
       grind[dL]
 case box e x=>grind[dL]
 case load t x=>
  cases B:Ez P t with
  |none=>simp_all
  | some g=>cases D:dN P t with
    | none=>simp_all
    | some s=>
      simp only[B,D,aZQ,aZF,Option.some.injEq] at h;subst h;exact j _ (Zl q U (A x) B D rfl)
 case store t x y=>cases D:dN P t with
     | none=>simp_all
     | some s=>grind[Option.some.injEq,dL]
 case nilCheck x=>
  injection h with h;subst h
  obtain⟨hv,ad,R⟩:=Zm q (A x);simp_all[execOp]
 case binOp X t x y u=>
  unfold pB at h;split at h;rename_i C;cases X<;>simp only[reduceCtorEq] at h;injection h with h;subst h
  exact j _ (Zn (neg:=false) q (A x) (A y) C);injection h with h;subst h
  exact j _ (Zn (neg:=true) q (A x) (A y) C);injection h with h;subst h
  exact j _ (aEr q (A x) (A y));injection h with h;subst h
  exact j _ (aEr q (A x) (A y));rename_i Z C;split at h;rename_i J;cases X<;>simp only[reduceCtorEq] at h;cases hf:qP P Z.toList 0 with
  |none=>simp_all
  |some ks=>
   simp only[hf,aZF,Option.some.injEq] at h;subst h;exact j _ (aEs (neg:=false) q (A x) (A y) C hf J.1 J.2)
  cases hf:qP P Z.toList 0 with
  |none=>simp_all
  |some ks=>
   simp only[hf,aZF,Option.some.injEq] at h;subst h;exact j _ (aEs (neg:=true) q (A x) (A y) C hf J.1 J.2)
  grind
  rename_i n e C;split at h;rename_i J;split at h;rename_i k K;injection h with h;subst h
  exact j _ (Zo (neg:=false) q (A x) (A y) C K J.2.2 J.1);rename_i k K;injection h with h;subst h
  exact j _ (Zo (neg:=true) q (A x) (A y) C K J.2.2 J.1);grind;grind;rename_i d _ _ _ _ _ C;unfold mP at h;split at h;cases K:Rj d y with
  |none=>simp_all
  |some p=>
   simp only[K,aZF,Option.some.injEq] at h;subst h;exact j _ (aEw (neg:=false) q (A x) C K)
  cases K:Rj d y with
  |none=>simp_all
  |some p=>
   simp only[K,aZF,Option.some.injEq] at h;subst h;exact j _ (aEw (neg:=true) q (A x) C K)
  grind
  grind
 case unOp X t x=>
  injection h with h;subst h
  exact j _ (aSG q (A x))
 case convert s d x=>
  unfold nH at h;split at h;rename_i k1 k B D;injection h with h;subst h
  simp only[dL] at q;cases E:bI (aM G as.sl (aY x)) with
  |none=>simp_all
  |some n=>
   simp only[E,aZF,Option.some.injEq] at q;subst q;exact j _ (aJt E (A x) B D)
  rename_i B D;injection h with h;subst h
  simp only[dL] at q;cases E:dO (aM G as.sl (aY x)) with
  |none=>simp_all
  |some n=>
   simp only[E,aZF,Option.some.injEq] at q;subst q;exact j _ (aJu E (A x) B D)
  rename_i e B D;split at h;rename_i h3;injection h with h;subst h
  exact j _ (aJw q (A x) U B D h3);grind;all_goals grind[dL]
 case fieldAddr s x f=>
  cases B:uE P s f with
  |none=>simp_all
  | some T=>cases D:dN P T.type with
    | none=>simp_all
    | some n=>
      simp only[B,D,aZQ] at h;split at h
      · cases h
      · rename_i E
        injection h with h;subst h
        obtain⟨b,off,R,hv⟩:=Ik q (A x);unfold uE at B;split at B
        · rename_i Z C
          unfold dN at D;cases V:P.info? T.type with
          | none=>simp_all
          | some inf=>
            simp only[V,aZF,Option.some.injEq] at D;refine j _ ⟨_, ?_,hv⟩;simp[Instr.fieldAt,R,run_underlying C,B,Instr.sureAddr,fieldPlace,sizeOf,typeInfo,V,D,E,eB]
        grind
 case field s x f=>
  cases B:uE P s f with
  |none=>simp_all
  | some T=>cases D:Ez P T.type with
    | none=>simp_all
    | some g=>cases h3:dN P T.type with
      | none=>simp_all
      | some n=>
        simp only[B,D,h3,aZQ,aZF,Option.some.injEq] at h;subst h;obtain⟨y,cs,R,hr,hv⟩:=aOo (P:=P) (w:=w) q (A x) D h3 rfl;unfold uE at B;split at B
        · rename_i Z C
          refine j _ ⟨y, ?_,hv⟩
          simp_all[Instr.field,run_underlying,asAgg]
        grind
 case indexAddr t x i=>
  split at h;rename_i n e C;cases B:dN P e with
  |none=>simp_all
  |some s=>
   simp only[B,aZF,Option.some.injEq] at h;subst h;simp only[dL] at q;cases E:bI (aM G as.sl (aY i)) with
   |none=>simp_all
   |some k=>simp only[E,aZQ] at q;exact j _ (aOp E (A i) q (A x) C B)
  rename_i e C;cases B:dN P e with
  |none=>simp_all
  |some s=>
   simp only[B,aZF,Option.some.injEq] at h;subst h;simp only[dL] at q;cases E:bI (aM G as.sl (aY i)) with
   |none=>simp_all
   |some k=>simp only[E,aZQ] at q;exact j _ (aOq E (A i) q (A x) U C B)
  grind
 case index t x i=>
  split at h;rename_i h3;injection h with h;subst h
  simp only[dL] at q;cases E:bI (aM G as.sl (aY i)) with
  |none=>simp_all
  |some k=>simp only[E,aZQ] at q;exact j _ (aOr E (A i) q (A x) (by rw[h3]))
  rename_i n e C;split at h;rename_i J;injection h with h;subst h
  simp only[dL] at q;cases E:bI (aM G as.sl (aY i)) with
  |none=>simp_all
  |some k=>simp only[E,aZQ] at q;exact j _ (aOv E (A i) q (A x) C J.1 J.2)
  grind
  grind
 case sliceToArrayPointer t x=>
  split at h;rename_i n e C;split at h;rename_i J;injection h with h;subst h
  exact j _ (aOw q (A x) C);grind;grind
 case slice t x lo hi' mx=>
  cases mx with
  |some m=>simp_all
  |none=>
   simp only at h;split at h;rename_i C;injection h with h;subst h
   exact j _ (aOs (E0 Q O lo) (E0 Q O hi') q (A x) C);rename_i e C;cases B:dN P e with
   |none=>simp_all
   |some s=>
    simp only[B,aZF,Option.some.injEq] at h;subst h;exact j _ (aOt (E0 Q O lo) (E0 Q O hi') q (A x) U C B)
   rename_i n e C;cases B:dN P e with
   |none=>simp_all
   |some s=>
    simp only[B,aZQ] at h;split at h;cases h;rename_i h0;injection h with h;subst h
    exact j _ (aOu (E0 Q O lo) (E0 Q O hi') q (A x) C B h0)
   grind
 case lookup t x ix ok=>
  split at h;rename_i kt et C;split at h;rename_i K;cases hz:(P.info? et).bind fun i=>i.zero with
  |none=>simp_all
  |some z=>
   rw[hz] at h;simp only[aZQ,if_true] at h;split at h;rename_i S;injection h with h;subst h
   exact j _ (aOx U.fz q (A x) (A ix) C K hz S);grind
  grind
  grind
 case build t ps=>
  cases B:Hk P t with
  |none=>simp_all
  | some p=>cases D:P.info? t with
    | none=>simp_all
    | some i=>cases h3:i.zero with
      | none=>simp_all
      | some z=>
        simp only[B,D,h3,aZQ] at h;split at h
        · rename_i S
          cases h4:ps.toList.mapM (oT p) with
          | none=>simp_all
          | some l=>
            simp only[h4,aZF,Option.some.injEq] at h;subst h;simp only[dL] at q;cases h5:iQ (z.cells.toList.map cK) (l.map fun (o,s,x)=>(o,s,aM G as.sl x)) with
            | none=>simp_all
            | some cs=>
              simp only[h5,aZF,Option.some.injEq] at q;subst q;exact j _ (aEy Q O B D h3 S h4 h5)
        grind
 case buildSlice t len ps=>
  split at h;rename_i e C;cases B:P.info? e with
  |none=>simp_all
  | some i=>cases D:i.zero with
    | none=>simp_all
    | some z=>
      grind[dL]
  grind
 case makeSlice t l c=>
  split at h;rename_i e C;cases B:P.info? e with
  |none=>simp_all
  | some i=>cases D:i.zero with
    | none=>simp_all
    | some z=>
      grind[dL]
  grind
 case extract x n=>
  injection h with h;subst h
  exact j _ (aEt q (A x))
 case makeFunc fn first caps=>
  cases fn<;>simp only[reduceCtorEq] at h;rename_i f;split at h;rename_i hfe;injection h with h;subst h
  simp only[dL] at q;cases h5:((caps.toList.map aY).mapM fun c=>jF (aM G as.sl c):Option (L aV)) with
  |none=>simp_all
  |some cs=>
   rw[h5] at q;simp only[aZF,Option.some.injEq] at q;subst q;obtain⟨hl,hr⟩:=Zp Q O caps.toList cs h5;have hf0:first=#[]:=by simp_all
   subst hf0;refine j _ ⟨.func (.func f) #[] (caps.map a.eval),by simp[Instr.makeFunc],.one _ _ ?_⟩;have e:caps.map a.eval=((List.range cs.length).map fun i=>(caps.map a.eval).toList.getD i undef).toArray:=by
     grind
   rw[e];refine .fn f cs _ (fun i c hci=>?_)
   grind
  grind
 case call c=>
  obtain⟨N,H,I⟩:=c;unfold fY at h;cases N<;>simp only[reduceCtorEq] at h
  case value f=>
   cases f<;>simp only[reduceCtorEq] at h;all_goals grind[dL]
  case builtin b=>
   cases b<;>simp only[reduceCtorEq] at h
   case append=>
    exfalso;have h0:=aEz (G:=G) (as:=as) h;simp_all
   case copy=>
    grind[dL]
   case clear=>
    split at h;rename_i t x W R;split at h;rename_i e C;cases B:P.info? e with
    |none=>simp_all
    | some i=>cases D:i.zero with
      | none=>simp_all
      | some z=>
        grind[dL]
    grind
    grind
   case len=>
    split at h;rename_i t x W R;have hax:(H.map a.eval)[0]?=some (a.eval x):=by simp[R]
    split at h;rename_i C;injection h with h;subst h
    simp only[dL] at q;cases E:dO (aM G as.sl (aY x)) with
    |none=>simp_all
    |some s=>
     simp only[E,aZF,Option.some.injEq] at q;subst q;have:=uF (A x) E;exact⟨.int .i64 s.size,by simp[execOp,resolve,invoke,builtin,Builtin.len_,W,R,run_underlying C,this,goInt],bR rfl⟩
    rename_i e C;injection h with h;subst h
    obtain⟨r,B,D⟩:=aJv (P:=P) (w:=w) (ty:=Y) q (A x) C I W (H.map a.eval) hax;exact⟨r,by simp[execOp,resolve,invoke,builtin,B],D⟩;rename_i n e C;injection h with h;subst h
    simp only[dL,Option.some.injEq] at q;subst q;exact⟨.int .i64 n,by simp[execOp,resolve,invoke,builtin,Builtin.len_,W,R,run_underlying C,goInt],bR rfl⟩;rename_i e C;split at h;rename_i n e2 hu2;injection h with h;subst h
    simp only[dL,Option.some.injEq] at q;subst q;exact⟨.int .i64 n,by simp[execOp,resolve,invoke,builtin,Builtin.len_,W,R,run_underlying C,run_underlying hu2,goInt],bR rfl⟩;grind;grind;grind
   case min=>
    split at h;rename_i x y M;injection h with h;subst h
    obtain⟨r,B,D⟩:=aOy (P:=P) (w:=w) q (A x) (A y);have:(H.map a.eval).toList=[a.eval x,a.eval y]:=by simp[M]
    exact⟨r,by simp[execOp,resolve,invoke,builtin,Builtin.min_,this,M,B],D⟩;grind
   case max=>
    split at h;rename_i x y M;injection h with h;subst h
    obtain⟨r,B,D⟩:=aOz (P:=P) (w:=w) q (A x) (A y);have:(H.map a.eval).toList=[a.eval x,a.eval y]:=by simp[M]
    exact⟨r,by simp[execOp,resolve,invoke,builtin,Builtin.max_,this,M,B],D⟩;grind
end
end
section
section
variable {P:Program}{F F':Fz}{γ γ':L OI}{w w':World}{hp:L aD}{p:Nat->Bool}
theorem OK.kill{o:aD}{x:OI}(h:OK F γ w o x)(l:F.sub F')(r:∀(id:Nat)(o:OI),p id=false->γ[id]?=some o->γ'[id]?=some o) (k:∀b,x.blk=some b->w'.heap[b]?=w.heap[b]?):OK F' γ' w' (cU p o) x:=by
 cases o with
 |box cs=>
  cases x with
  |box b=>
   obtain⟨vs,T,f,g,h3⟩:=h;exact⟨vs,T,f.of (k b rfl),by simpa using g,RCs.kill l r h3⟩
  |arr b c=>exact h.elim
  |dead=>exact h.elim
 |arr cap size es=>
  cases x with
  |box b=>exact h.elim
  |arr b c=>
   cases b with
   |none=>exact h
   |some b=>
    obtain⟨f,g,h3,vs,T,h4,h5,h6⟩:=h;exact⟨f,g,h3,vs,T,h4.of (k b rfl),h5,fun i j e d v m n q=>(h6 i j e d v m n q).mono l⟩
  |dead=>exact h.elim
 |dead=>
  cases x with
  |dead=>trivial
  |box b=>exact h.elim
  |arr b c=>exact h.elim
theorem OK.ext{o:aD}{x:OI}(h:OK F γ w o x)(l:F.sub F')(r:∀(id:Nat)(o:OI),γ[id]?=some o->γ'[id]?=some o) (k:∀b,x.blk=some b->w'.heap[b]?=w.heap[b]?):OK F' γ' w' o x:=by
 cases o with
 |box cs=>
  cases x with
  |box b=>
   obtain⟨vs,T,f,g,h3⟩:=h;exact⟨vs,T,f.of (k b rfl),g,fun i c v a b=>(h3 i c v a b).ext l r⟩
  |arr b c=>exact h.elim
  |dead=>exact h.elim
 |arr cap size es=>
  cases x with
  |box b=>exact h.elim
  |arr b c=>
   cases b with
   |none=>exact h
   |some b=>
    obtain⟨f,g,h3,vs,T,h4,h5,h6⟩:=h;exact⟨f,g,h3,vs,T,h4.of (k b rfl),h5,fun i j e d v m n q=>(h6 i j e d v m n q).mono l⟩
  |dead=>exact h.elim
 |dead=>
  cases x with
  |dead=>trivial
  |box b=>exact h.elim
  |arr b c=>exact h.elim
theorem Ow.lt{w:World}{b:Nat}{vs:Array Value}{T:TypeId}(h:Ow w b vs T):b<w.heap.size:=by
 obtain⟨_,h,_⟩:=h;exact (Array.getElem?_eq_some_iff.1 h).1
theorem Oy{b:Nat}{o:Obj}(h:w.heap[b]?=some o):b<w.heap.size:=(Array.getElem?_eq_some_iff.1 h).1
theorem OK.lt{o:aD}{x:OI}(h:OK F γ w o x){b:Nat}(d:x.blk=some b):b<w.heap.size:=by
 cases x with
 |dead=>simp[OI.blk] at d
 |box b'=>
  simp[OI.blk] at d;subst d;cases o with
  |box cs=>obtain⟨vs,T,⟨_,e,_⟩,_⟩:=h;exact Oy e
  |arr _ _ _=>exact h.elim
  |dead=>exact h.elim
 |arr b' c=>
  simp[OI.blk] at d;subst d;cases o with
  |arr cap size es=>obtain⟨_,_,_,vs,T,⟨_,e,_⟩,_⟩:=h;exact Oy e
  |box _=>exact h.elim
  |dead=>exact h.elim
theorem dC{i b:Nat}(h:cF γ i=some b):∃x,γ[i]?=some x/\x.blk=some b:=by
 unfold cF at h;cases c:γ[i]? with
 |none=>simp[c] at h
 |some x=>simp[c] at h;exact⟨x,rfl,h⟩
theorem bT{i b:Nat}{x:OI}(h:γ[i]?=some x)(c:x.blk=some b):cF γ i=some b:=by simp[cF,h,c]
theorem dV.lt(e:dV F γ hp w){i b:Nat}(g:cF γ i=some b):b<w.heap.size:=by
 obtain⟨x,f,d⟩:=dC g;have c:i<hp.length:=by rw[<- e.len];exact aK f
 exact (e.ok i _ x (aZJ c) f).lt d
theorem dV.fzlt(c:dV F γ hp w){b:Nat}{o:Obj}(h:F b=some o):b<w.heap.size:=Oy (c.fz b o h)
theorem dV.drawn(b:dV F γ hp w)(n:Nat):dV F γ hp { w with drawn:=n }:=
 ⟨b.fz,b.len,b.nd,b.disj,fun i o x c d=>(b.ok i o x c d).ext (fun _ _ h=>h) (fun _ _ h=>h) (fun _ _=>rfl)⟩
theorem iL.drawn(k:Nat)(F:Fz)(γ:L OI)(w:World)(n:Nat):iL k F γ w F γ { w with drawn:=n }:=
 ⟨fun _ _ h=>h,rfl,rfl,rfl,aZE _,fun _ _ _=>rfl,fun _ _ h=>.inl h,fun i _ h=>.inl ⟨i,h⟩,fun _ _ _ h=>h⟩
def fF(w:World)(o:Obj):World:={ w with heap:=w.heap.push o }
theorem pC{o:Obj}{b:Nat}(h:b<w.heap.size):(fF w o).heap[b]?=w.heap[b]?:=by
 show (w.heap.push o)[b]?=_;rw[Array.getElem?_push,if_neg (Nat.ne_of_lt h)]
theorem NF0(n:Nat):NF (0,0) n:=fun o _ h=>by omega
theorem Rl{o:Obj}:(fF w o).heap[w.heap.size]?=some o:=by
 show (w.heap.push o)[w.heap.size]?=_;rw[Array.getElem?_push,if_pos rfl]
theorem Cz{vs:Array Value}{T:TypeId}:Ow (fF w (.cells vs T)) w.heap.size vs T:=⟨_,Rl,NF0 _⟩
theorem bY{α:Type}{l r:L α}{i:Nat}{x:α}(h:l[i]?=some x):(l++r)[i]?=some x:=by
 rw[aZU (aK h)];exact h
theorem iN{α:Type}{l:L α}{y x:α}{i:Nat}(h:(l++[y])[i]?=some x):l[i]?=some x\/(i=l.length/\x=y):=by
 rcases Nat.lt_trichotomy i l.length with b|b|b;rw[aZU b] at h;exact .inl h;subst b;simp at h;exact .inr ⟨rfl,h.symm⟩;rw[bAK (by simp;omega)] at h;cases h
theorem dV.pushG{w':World}(d:dV F γ hp w)(f:∀b,b<w.heap.size->w'.heap[b]?=w.heap[b]?)(o:aD)(x:OI)(t:∀b,x.blk=some b->b=w.heap.size)(n:OK F (γ++[x]) w' o x):dV F (γ++[x]) (hp++[o]) w':=by
 have l:∀i b,cF (γ++[x]) i=some b->cF γ i=some b\/(i=γ.length/\b=w.heap.size):=by
  intro i b h;obtain⟨y,u,e⟩:=dC h;rcases iN u with c|⟨c,rfl⟩
  exact .inl (bT c e);exact .inr ⟨c,t b e⟩
 refine⟨fun b k h=>by rw[f _ (d.fzlt h)];exact d.fz b k h,by simp[d.len],?_,?_,?_⟩
 intro i j b c g;rcases l i b c with c|⟨c,q⟩<;>rcases l j b g with g|⟨g,r⟩
 exact d.nd i j b c g;have:=d.lt c;omega;have:=d.lt g;omega;omega;intro i b h;rcases l i b h with h|⟨_,h⟩
 exact d.disj i b h;cases s:F b with
 |none=>rfl
 |some k=>have:=d.fzlt s;omega
 intro i k y c g;rcases iN g with h3|⟨h3,rfl⟩
 have m:i<hp.length:=by rw[<- d.len];exact aK h3
 rw[aZU m] at c;refine (d.ok i k y c h3).ext (fun _ _ h=>h) (fun _ _ h=>bY h) (fun b e=>?_)
 exact f _ ((d.ok i k y c h3).lt e);rw[h3,d.len] at c;simp at c;subst c;exact n
theorem dV.push(f:dV F γ hp w)(d:Obj)(o:aD)(x:OI)(g:∀b,x.blk=some b->b=w.heap.size)(c:OK F (γ++[x]) (fF w d) o x):dV F (γ++[x]) (hp++[o]) (fF w d):=f.pushG (fun _ e=>pC e) o x g c
theorem iL.push{k:Nat}(l:dV F γ hp w)(j:Obj)(x:OI)(f:∀b,x.blk=some b->b=w.heap.size):iL k F γ w F (γ++[x]) (fF w j):=by
 refine⟨fun _ _ h=>h,rfl,rfl,rfl,by simp[fF],fun b e _=>pC e,fun _ _ h=>.inl h,fun i b h=>?_,fun i _ b h=>bY h⟩
 obtain⟨y,g,c⟩:=dC h;rcases iN g with d|⟨d,rfl⟩;exact .inl ⟨i,bT d c⟩;exact .inr (by rw[f b c];exact aZE _)
def Zq(vs:Array Value)(T:TypeId):Obj->Obj
 |.cells _ _ b=>.cells vs T b
 |_=>.cells vs T (0,0)
def setB(w:World)(b:Nat)(vs:Array Value)(T:TypeId):World:={ w with heap:=w.heap.modify b (Zq vs T) }
theorem aJx{b:Nat}{vs d:Array Value}{T U:TypeId}{c:Nat×Nat}(h:w.heap[b]?=some (.cells d U c)):(setB w b vs T).heap[b]?=some (.cells vs T c):=by
 simp[setB,bBc,h,Zq]
theorem lJ{b:Nat}{vs c:Array Value}{T U:TypeId}(h:Ow w b c U)(f:vs.size=c.size):Ow (setB w b vs T) b vs T:=by
 obtain⟨d,h,e⟩:=h;exact⟨d,aJx h,by rw[f];exact e⟩
theorem C0{b b':Nat}{vs:Array Value}{T:TypeId}(h:b'≠b):(setB w b vs T).heap[b']?=w.heap[b']?:=by
 simp[setB,bBc,Ne.symm h]
theorem aBR{b:Nat}{vs c:Array Value}{T T':TypeId}:setB (setB w b vs T) b c T'=setB w b c T':=by
 simp only[setB];congr 1;apply Array.ext_getElem?;intro i;simp only[bBc];split;cases w.heap[i]? with
 |none=>rfl
 |some o=>cases o<;>rfl
 rfl
theorem Oz{b j:Nat}{vs:Array Value}{T:TypeId}{v:Value}(h:Ow w b vs T):w.setCell ⟨b,j,none⟩ v=setB w b (vs.setIfInBounds j v) T:=by
 obtain⟨d,h,_⟩:=h;simp only[World.setCell,setB];congr 1;apply Array.ext_getElem?;intro i;rw[bBc,bBc];by_cases c:b=i;subst c;rw[if_pos rfl,if_pos rfl,h];rfl;simp[c]
def eO(vs:Array Value)(k:Nat)(l:L Value)(i:Nat:=0):Array Value:=(l.zipIdx i).foldl (fun cs (c,j)=>cs.setIfInBounds (k+j) c) vs
theorem eG(l:L Value):∀(vs:Array Value)(k i:Nat),(eO vs k l i).size=vs.size:=by
 induction l with
 |nil=>intro vs k i;rfl
 |cons x l b=>intro vs k i;simp only[eO,List.zipIdx_cons,bAN];exact (b _ k (i+1)).trans (by simp)
theorem dY{b off:Nat}{T:TypeId}:∀(l:L Value)(i:Nat)(w:World)(vs:Array Value),Ow w b vs T->(∀v∈l,is1 v=true)->off+i+l.length<=vs.size-> (storeCells ⟨b,off,none⟩ l i).run P w=.ok () (if l=[] then w else setB w b (eO vs off l i) T)
 |[],i,w,vs,h,c,f=>rfl
 | v::l,i,w,vs,h,c,f=>by
   have m:=c v (aZT);simp only[aZB] at f;have e:(store (⟨b,off+i,none⟩:Addr) v).run P w=.ok () (setB w b (vs.setIfInBounds (off+i) v) T):=by
     have j:w.cell? ⟨b,off+i,none⟩=some (vs[off+i]'(by omega)):=by
       rw[mQ h];exact bAe (by omega)
     have hf:w.frozen? ⟨b,off+i,none⟩=false:=by
       obtain⟨q,g,k⟩:=h;have:=k (off+i) (by omega);simp only[World.frozen?,g];simpa using this
     rw[<- Oz h];cases v<;>first | (simp[is1] at m;done) | (unfold store;simp only[Sem.run,j,hf];rfl)
   have o:=dY (off:=off) l (i+1) (setB w b (vs.setIfInBounds (off+i) v) T) (vs.setIfInBounds (off+i) v) (lJ h (by simp)) (fun x n=>c x (aZ3 _ n)) (by simp;omega)
   simp only[storeCells,Sem.run_bind,eB,e,Result.andThen_ok,o];simp only[reduceCtorEq,if_false];congr 1;split
   · rename_i d;subst d;rfl
   · rw[aBR];rfl
theorem rB{b off:Nat}{T t:TypeId}{x:Value}{vs:Array Value}(h:Ow w b vs T)(d:dN P t=some x.cells.size)(e:∀v∈x.cells.toList,is1 v=true) (f:off+x.cells.size<=vs.size):(Instr.storeAt t (.pointer (some ⟨b,off,none⟩)) x).run P w=.ok () (if x.cells.toList=[] then w else setB w b (eO vs off x.cells.toList) T):=by
 unfold dN at d;cases c:P.info? t with
 |none=>simp[c] at d
 |some g=>
  simp only[c,aZF,Option.some.injEq] at d;have:=dY (P:=P) (b:=b) (off:=off) x.cells.toList 0 w vs h e (by simpa using f);simp[Instr.storeAt,Instr.sureAddr,storeVar,sizeOf,typeInfo,c,d,this]
theorem dV.setObj(c:dV F γ hp w){id b:Nat}{x:OI}{q:aD}{vs:Array Value}{T:TypeId}(j:γ[id]?=some x)(n:x.blk=some b)(m:OK F γ (setB w b vs T) q x):dV F γ (hp.set id q) (setB w b vs T):=by
 refine⟨fun b' o h=>?_,by simp[c.len],c.nd,c.disj,fun i o y f g=>?_⟩
 have l:b'≠b:=fun e=>by subst e;rw[c.disj id _ (bT j n)] at h;cases h
 rw[C0 l];exact c.fz b' o h;by_cases d:i=id;subst d;rw[j] at g;injection g with g;subst g
 rw[aZ7 (by rw[<- c.len];exact aK j)] at f;injection f with f;subst f
 exact m;rw[aZY (Ne.symm d)] at f;refine (c.ok i o y f g).ext (fun _ _ h=>h) (fun _ _ h=>h) (fun b' k=>?_)
 exact C0 (fun e=>d (by subst e;exact c.nd _ _ _ (bT g k) (bT j n)))
theorem iL.setB{k:Nat}(g:dV F γ hp w){id b:Nat}{x:OI}{vs:Array Value}{T:TypeId}(f:γ[id]?=some x)(c:x.blk=some b):iL k F γ w F γ (setB w b vs T):=
 ⟨fun _ _ h=>h,rfl,rfl,rfl,by simp[Go.Proofs.YtalhnjjchkmfeaaGreatDoor.setB],fun b' _ d=>C0 (fun e=>d id (by subst e;exact bT f c)),fun _ _ h=>.inl h,fun i _ h=>.inl ⟨i,h⟩,fun _ _ _ h=>h⟩
theorem bZ.ext{sl:L AV}{a:Act}(h:bZ F γ sl a)(f:F.sub F')(e:∀(id:Nat)(o:OI),γ[id]?=some o->γ'[id]?=some o):bZ F' γ' sl a:=
 ⟨h.1,h.2.1,fun i b v c d=>(h.2.2 i b v c d).ext f e⟩
theorem bZ.kill{sl:L AV}{a:Act}(h:bZ F γ sl a)(g:F.sub F')(f:∀(id:Nat)(o:OI),p id=false->γ[id]?=some o->γ'[id]?=some o):bZ F' γ' (sl.map (bG p)) a:=by
 refine⟨h.1,by simpa using h.2.1,fun i j v b e=>?_⟩
 rw[aZI] at b;cases d:sl[i]? with
 |none=>simp[d] at b
 |some c=>simp[d] at b;subst b;exact (h.2.2 i c v d e).kill g f
theorem bZ.put{sl:L AV}{a:Act}(h:bZ F γ sl a)(c:Option Nat){l:AV}{v:Value}(m:RV F γ l v):bZ F γ (aR sl c l) (a.put c v):=by
 cases c with
 |none=>exact h
 |some d=>
  refine⟨h.1,by simpa[aR,Act.put] using h.2.1,fun i j n b e=>?_⟩
  simp only[aR,Act.put] at b e;by_cases k:d=i;subst k;have f:d<sl.length:=by have:=aK b;simpa using this
  rw[aZ7 f] at b;have g:d<a.tmps.size:=h.2.1 ▸ f;rw[bBl g] at e;injection b with b;injection e with e
  subst b;subst e;exact m;rw[aZY k] at b;rw[Array.getElem?_setIfInBounds_ne k] at e;exact h.2.2 i j n b e
