/- Part. Conditions: none. -/
import Derived.Test.YtgdjbbnicgfohabGreatDoorNd
import Derived.Test.YtgdjbbnicgfohabGreatDoorCb
import Derived.WalkKit
import Derived.WideMake
import Derived.MapKept
import Derived.Lib.Bytealg
import Derived.Lib.Walk
import Derived.Lib.Strings
import Derived.BigCall
namespace Go.Proofs.YtgdjbbnicgfohabGreatDoor
set_option maxHeartbeats 1000000
set_option linter.unusedSimpArgs false
set_option linter.unusedVariables false
section
section
variable {call:aO}{G:aF}{st s s':AS}{a b:HC}{L:List Nat}{m:Nat}
noncomputable def sqK(call:aO)(G:aF)(b:HC)(r:Option (Exit×AS)):Option (Exit×AS):=match r with
 |some (.normal,s)=>EC call G b s
 |r=>r
noncomputable def cdK(call:aO)(G:aF)(a b:HC)(st:AS):Option Bool->Option (Exit×AS)
 |some true=>EC call G a st
 |some false=>EC call G b st
 |none=>none
noncomputable def EL(call:aO)(G:aF)(a:HC)(L:List Nat)(m:Nat)(st:AS):Option (Exit×AS):=B4 (EC call G a) L m st
noncomputable def fnK(call:aO)(G:aF)(a:HC)(L:List Nat)(m:Nat)(r:Option (Exit×AS)):Option (Exit×AS):=match r with
 |some (.normal,s)=>EL call G a L m (kR L m s)
 |r=>r
def Ls(L:List Nat)(m:Nat):Option (Exit×AS)->Option AS
 |some (.normal,s)=>some (kR L m s)
 |_=>none
theorem aKp:EC call G .skip st=some (.normal,st):=q_
theorem aPn:EC call G .ret st=some (.ret,st):=q_
theorem aKq{id:Nat}:EC call G (.exit id) st=some (.exit id,st):=q_
theorem aCI{ops:List aN}:EC call G (.region ops) st=nrm (evR call G ops (some st)):=q_
theorem aKr{L:List Nat}{ops:List aN}:EC call G (.regR L ops) st=nrm (G1 call G L ops (some st)):=q_
theorem aFK{ops:List (Bool×aN)}:EC call G (.drawn ops) st=nrm (G2 call G ops (some st)):=q_
theorem Xs:EC call G (.seq a b) st=sqK call G b (EC call G a st):=by rw[EC];rfl
theorem aKs{c:aH}:EC call G (.cond c a b) st=cdK call G a b st (cO (aM G st.sl c)):=by rw[EC];rfl
theorem aFL{id:Nat}:EC call G (.block id a) st=Bk id (EC call G a st):=q_
theorem aKt:EC call G (.loop L a) st=EL call G a L st.hp.length (kR L st.hp.length st):=q_
theorem aFM{L:List Nat}:EC call G (.trm L a) st=EC call G a (kR L st.hp.length st):=q_
theorem aTH{g:GH}:EC call G (.gh g a) st=EC call G a (ghE g st):=q_
theorem aNV:sqK call G b (some (.normal,s))=EC call G b s:=q_
theorem aTI:sqK call G b (some (.ret,s))=some (.ret,s):=q_
theorem aTJ{id:Nat}:sqK call G b (some (.exit id,s))=some (.exit id,s):=q_
theorem aTK:cdK call G a b st (some true)=EC call G a st:=q_
theorem aTL:cdK call G a b st (some false)=EC call G b st:=q_
theorem aKu{p:Prop}[Decidable p](h:p):cdK call G a b st (some (decide p))=EC call G a st:=by rw[decide_eq_true h];rfl
theorem aKv{p:Prop}[Decidable p](h:¬ p):cdK call G a b st (some (decide p))=EC call G b st:=by rw[decide_eq_false h];rfl
theorem aPo{id:Nat}:Bk id (some (.normal,s))=some (.normal,s):=q_
theorem aPp{id:Nat}:Bk id (some (.ret,s))=some (.ret,s):=q_
theorem aPq{id c:Nat}:Bk id (some (.exit c,s))=bif nq c id then some (.normal,s) else some (.exit c,s):=by
 simp only[Bk,aJ8,jJ];by_cases h:c=id;simp[h];simp[h,(beq_eq_false_iff_ne.2 h:(c==id)=false)]
theorem aTM:fnK call G a L m (some (.ret,s))=some (.ret,s):=q_
theorem aTN{id:Nat}:fnK call G a L m (some (.exit id,s))=some (.exit id,s):=q_
theorem aTO:Ls L m (some (.normal,s))=some (kR L m s):=q_
theorem aTP:nrm (some s)=some (.normal,s):=q_
theorem Po:EL call G a L m st=fnK call G a L m (EC call G a st):=by
 unfold EL;cases h:EC call G a st with
 |none=>
  simp only[fnK];cases j:B4 (EC call G a) L m st with
  |none=>rfl
  |some r=>
   obtain⟨n,i⟩:=jZ j;cases n with
   |zero=>simp[Lr] at i
   |succ n=>rw[Lr,h] at i;cases i
 |some r=>
  obtain⟨e,s⟩:=r;by_cases g:e=.normal;subst g;exact aFr st h;rw[aCE h g];unfold fnK;split;rename_i c;injection c with c;injection c with c;exact absurd c g;rfl
theorem aR(H:Nat->AS)(n:Nat)(e:st=H 0)(h:∀k,k<n->Ls L m (EC call G a (H k))=some (H (k+1))):EL call G a L m st=fnK call G a L m (EC call G a (H n)):=by
 subst e;have c:∀k,k<=n->EL call G a L m (H 0)=EL call G a L m (H k):=by
  intro k
  induction k with
  |zero=>intro _;rfl
  |succ k i=>
   intro j;rw[i (by omega),Po];have:=h k (by omega);unfold Ls at this;split at this;rename_i s g;injection this with this
   rw[g,<- this];rfl;cases this
 rw[c n (aZE _),Po]
theorem aFN(p:Nat->Prop):∀n:Nat,∃k,k<=n/\(k=n\/(k<n/\p k))/\∀j,j<k->¬ p j
 |0=>⟨0,aZE _,.inl rfl,fun j h=>by omega⟩
 | n+1=>by
  obtain⟨k,g,c,h3⟩:=aFN p n;rcases c with c | ⟨c,h4⟩
  ·subst c;by_cases hp:p k
   ·exact⟨k,by omega,.inr ⟨by omega,hp⟩,h3⟩
   ·exact⟨k+1,aZE _,.inl rfl,fun j i=>by
     by_cases e:j=k
     ·subst e;exact hp
     ·exact h3 j (by omega)⟩
  ·exact⟨k,by omega,.inr ⟨by omega,h4⟩,h3⟩
noncomputable def ix(p:Nat->Prop)(n:Nat):Nat:=(aFN p n).choose
theorem bD(p:Nat->Prop)(n:Nat):ix p n<=n/\(ix p n=n\/(ix p n<n/\p (ix p n)))/\∀j,j<ix p n->¬ p j:=(aFN p n).choose_spec
theorem dE(H:Nat->AS)(p:Nat->Prop)(n:Nat)(c:st=H 0)(e:∀k,k<n->(∀j,j<=k->¬ p j)->Ls L m (EC call G a (H k))=some (H (k+1))):EL call G a L m st=fnK call G a L m (EC call G a (H (ix p n))):=by
 obtain⟨g,_,h3⟩:=bD p n;exact aR H _ c (fun k i=>e k (by omega) (fun j h=>h3 j (by omega)))
theorem aCJ(n k:Nat):((n:Int)+(k:Int)).toNat=n+k:=by omega
theorem Xt(n:Nat):((n:Int)+1).toNat=n+1:=by omega
def jk:Nat->List AV->List AV
 |0,t=>t
 |n+1,t=>.junk::jk n t
theorem aKw{c:aU}{cs vs:List aU}{n:Nat}:cZ (c::cs) (n+1) vs=c::cZ cs n vs:=by
 simp only[cZ,bA4,aZT];rw[show n+1+vs.length=(n+vs.length)+1 by omega,bBa]
theorem aAG{cs vs:List aU}:cZ cs 0 vs=vs++cs.drop vs.length:=by simp[cZ]
theorem aXW(a b c:Int):a+(b+c)=a+b+c:=(Int.add_assoc a b c).symm
theorem aPr{st:AS}{d:Option Nat}{cs:List aU}:aOH st d (some cs)=some ⟨aP st.sl d (.one (.ptr st.hp.length 0)),st.hp++[.box cs]⟩:=q_
theorem Ce(n:Nat):((n:Int)-1).toNat=n-1:=by omega
theorem aKx:evR call G [] (some st)=some st:=q_
theorem aTQ{d:Option Nat}{ai:AI}{g:Option (Nat×Bool)}{l:List aN}:evR call G (⟨d,ai,g⟩::l) (some st)=evR call G l (Xj call G st l d ai g):=q_
theorem aCK{L:List Nat}{t:IT}{ops:List aN}:EC call G (.drawnT L t ops) st=nrm (Ge call G L st.hp.length ops t (some st)):=q_
theorem aKy{L:List Nat}{c:Nat}{ops:List aN}:Ge call G L c ops .nil (some st)=some st:=q_
theorem aPs{L:List Nat}{c:Nat}{ops:List aN}{i:Nat}{t:IT}:Ge call G L c ops (.st i t) (some st)=Ge call G L c ops t (Ji call G L st ops (iQ ops i).dst (iQ ops i).ai (iQ ops i).guard (kL L (iQ ops i).ai (iQ ops i).guard)):=q_
theorem aPt{L:List Nat}{c:Nat}{ops:List aN}{i:Nat}{t:IT}:Ge call G L c ops (.br i t .stop) (some st)=Ge call G L c ops t (Ji call G L st ops (iQ ops i).dst (iQ ops i).ai (iQ ops i).guard (kL L (iQ ops i).ai (iQ ops i).guard)):=q_
theorem aPu{L:List Nat}{c:Nat}{ops:List aN}{i j:Nat}{t e r:IT}:Ge call G L c ops (.br i t (.br j e r)) (some st)=Gd c (Ge call G L c ops t (Ji call G L st ops (iQ ops i).dst (iQ ops i).ai (iQ ops i).guard (kL L (iQ ops i).ai (iQ ops i).guard))) (Ge call G L c ops (.br j e r) (some st)):=q_
theorem aKz{c:Nat}{s s':AS}(p:List (Nat×Nat))(h3:pOK c s'.hp.length p)(h4:prm p s'=s):Gd c (some s) (some s')=some s:=Sz rfl rfl h3 h4
theorem aKA{e:Nat}{s:AS}:Gd e (some s) (some s)=some s:=aKz [] (fun x c=>by cases c) rfl
theorem aFO{L:List Nat}:G1 call G L [] (some st)=some st:=q_
theorem aPv{L:List Nat}{d:Option Nat}{ai:AI}{g:Option (Nat×Bool)}{l:List aN}:G1 call G L (⟨d,ai,g⟩::l) (some st)=G1 call G L l (Ji call G L st l d ai g (kL L ai g)):=q_
theorem aTR{L:List Nat}{l:List aN}{d:Option Nat}{ai:AI}{g:Option (Nat×Bool)}:Ji call G L st l d ai g true=Sw call G L st d ai:=q_
theorem aTS{L:List Nat}{l:List aN}{d:Option Nat}{ai:AI}{g:Option (Nat×Bool)}:Ji call G L st l d ai g false=Xj call G st l d ai g:=q_
theorem aPw{L:List Nat}{d:Option Nat}{f:FuncId}{xs:List aH}:Sw call G L st d (.call f xs)=aFo call G st d f xs (Pk L (f+100000)):=q_
theorem aPx{d:Option Nat}{f:FuncId}{xs:List aH}:aFo call G st d f xs false=lE (lI call) d f (xs.map (aM G st.sl)) st:=q_
def aZp(d:Option Nat)(st:AS)(av:AV):Bool->Option AS
 |true=>some ⟨aP st.sl d av,st.hp⟩
 |false=>none
theorem aTT{l:List aN}{d:Option Nat}{ai:AI}:Xj call G st l d ai none=mM call G st l d ai:=q_
theorem aTU{l:List aN}{d:Option Nat}{ai:AI}{g:Nat}{b:Bool}:Xj call G st l d ai (some (g,b))=guZ call G st l d ai (gK b (aM G st.sl (.t g))):=q_
section
variable {l:List aN}{d:Option Nat}{ai:AI}
theorem aTV:guZ call G st l d ai (some true)=mM call G st l d ai:=q_
theorem aTW:guZ call G st l d ai (some false)=some ⟨aP st.sl d (.tup []),st.hp⟩:=q_
theorem aKB{p:Prop}[Decidable p](h:p):guZ call G st l d ai (some (decide p))=mM call G st l d ai:=by rw[decide_eq_true h];rfl
theorem aKC{p:Prop}[Decidable p](h:¬ p):guZ call G st l d ai (some (decide p))=some ⟨aP st.sl d (.tup []),st.hp⟩:=by rw[decide_eq_false h];rfl
theorem aTX{q:Bool}:aCB call G st q d ai (some true)=drZ call G st d ai q:=q_
theorem aTY{q:Bool}:aCB call G st q d ai (some false)=some ⟨aP st.sl d (.tup []),st.hp⟩:=q_
theorem aKD{q:Bool}{p:Prop}[Decidable p](h:p):aCB call G st q d ai (some (decide p))=drZ call G st d ai q:=by rw[decide_eq_true h];rfl
theorem aKE{q:Bool}{p:Prop}[Decidable p](h:¬ p):aCB call G st q d ai (some (decide p))=some ⟨aP st.sl d (.tup []),st.hp⟩:=by rw[decide_eq_false h];rfl
theorem aTZ{q:Bool}:drO call G st q d ai none=drZ call G st d ai q:=q_
theorem aT0{q:Bool}{g:Nat}{b:Bool}:drO call G st q d ai (some (g,b))=aCB call G st q d ai (gK b (aM G st.sl (.t g))):=q_
theorem aFP:G2 call G [] (some st)=some st:=q_
theorem aPy{q:Bool}{g:Option (Nat×Bool)}{l:List (Bool×aN)}:G2 call G ((q,⟨d,ai,g⟩)::l) (some st)=G2 call G l (drO call G st q d ai g):=q_
theorem aFQ{f:FuncId}{xs:List aH}:mM call G st l d (.call f xs)=clZ call G d f xs st:=q_
theorem aCL{x:aH}{xs:List aH}:mM call G st l d (.callv x xs)=cvZ call G d x xs st:=q_
theorem aKF{z b:Nat}{c:List Value}{s x:aH}:mM call G st l d (.app z b c s x)=apZ d z b st (aM G st.sl s) (aM G st.sl x):=q_
theorem aT1{d:Option Nat}{size bytes:Nat}{z:List Value}{st:AS}{i j:Int}(h:0<=i/\i<=j/\j.toNat*bytes<=140737488355328):mkK d size bytes z st (some i) (some j)=some ⟨aP st.sl d (.one (.bld st.hp.length i.toNat)),st.hp++[.arr 0 size (List.replicate i.toNat (z.map DC.raw))]⟩:=by
 obtain⟨n,rfl⟩:=bAH h.1;obtain⟨m,rfl⟩:=bAH (Int.le_trans h.1 h.2.1);have e:=h.2.1;have c:=h.2.2;simp only[bAd] at c;simp only[mkK,bAd];exact if_pos ⟨by omega,c⟩
theorem aPz{z b:Nat}{c:List Value}{x y:aH}:mM call G st l d (.mk z b c x y)=mkZ G st d z b c x y:=q_
theorem aFR{x y:aH}:mM call G st l d (.cpys x y)=aCx G st d x y:=q_
theorem aFS{x:aH}:mM call G st l d (.cvsb x)=aCy G st d x:=q_
theorem aPA{id c n z:Nat}{s:ByteArray}:aO1 d st (.one (.bls id c n z)) (some s)=if z=1 then aFn d st id c n s (aL st.hp id) else none:=q_
theorem aPB{id c n:Nat}{s:ByteArray}{cs:List aU}:aFn d st id c n s (.box cs)=if c+n<=cs.length then some ⟨aP st.sl d (dU (.int .i64 (min s.size n:Nat))),st.hp.set id (.box (cZ cs c (fH (s.data.toList.take n))))⟩ else none:=q_
theorem aPC{s:ByteArray}:aJ6 d st (some s)=some ⟨aP st.sl d (.one (.bld st.hp.length s.size)),st.hp++[.arr 0 1 (hZ s)]⟩:=q_
theorem aFT{L:List Nat}{x:aH}:Sw call G L st d (.cvsb x)=aJ6 d st (dN (aM G st.sl x)):=q_
theorem aPD{s:ByteArray}:aTb d st (some s)=some ⟨aP st.sl d (.one (.dc (.slc (hZ s)))),st.hp⟩:=q_
theorem aT2{d:Option Nat}{bytes:Nat}{v:Value}{st:AS}{i j:Int}(h:0<=i/\i<=j/\j.toNat*bytes<=140737488355328):mbK d 1 bytes st [v] (some i) (some j)=some ⟨aP st.sl d (.one (.bls st.hp.length 0 i.toNat 1)),st.hp++[.box (List.replicate j.toNat (cI v))]⟩:=by
 obtain⟨n,rfl⟩:=bAH h.1;obtain⟨m,rfl⟩:=bAH (Int.le_trans h.1 h.2.1);have e:=h.2.1;have c:=h.2.2;simp only[bAd] at c;simp only[mbK,bAd];exact if_pos ⟨trivial,by omega,c⟩
theorem aKG{L:List Nat}{z b:Nat}{c:List Value}{x y:aH}:Sw call G L st d (.mk z b c x y)=mbK d z b st c (bH (aM G st.sl x)) (bH (aM G st.sl y)):=q_
theorem aKH{z:Nat}{c:List Value}{x:aH}:mM call G st l d (.clr z c x)=aCw G st d z c x:=q_
theorem aPE{z id k n s:Nat}{c:List Value}:aO0 d z c st (.one (.bls id k n s))=if s=z then Xi d st id k n z c (aL st.hp id) else none:=q_
theorem aPF{id k n:Nat}{v:Value}{cs:List aU}:Xi d st id k n 1 [v] (.box cs)=if 1=1/\0<n/\k+n<=cs.length then some ⟨aP st.sl d (.tup []),st.hp.set id (.box (cZ cs k (List.replicate n (cI v))))⟩ else none:=q_
theorem aFU{z b:Nat}{e:List Value}{c:List (Nat×aH)}:mM call G st l d (.bslc z b e c)=bsZ G st d z b e c (aJ5 d l):=q_
theorem aCM{z:List Value}:mM call G st l d (.alloc z)=some ⟨aP st.sl d (.one (.ptr st.hp.length 0)),st.hp++[.box (z.map cI)]⟩:=q_
theorem aKI{x:aH}:mM call G st l d (.box x)=aOH st d (cellsOf (aM G st.sl x)):=q_
theorem aCN{n:Nat}{x v:aH}:mM call G st l none (.store n x v)=stX G st n x v:=q_
theorem aKJ{x:aH}:mM call G st l d (.mov x)=some ⟨aP st.sl d (aM G st.sl x),st.hp⟩:=q_
theorem aFV{c x y:aH}:mM call G st l d (.pick c x y)=gP st d (Ct (aM G st.sl c) (aM G st.sl x) (aM G st.sl y)):=q_
theorem aFW{g:Bool}{n:Nat}{x:aH}:mM call G st l d (.load g n x)=gP st d (mJ st.hp g n (aM G st.sl x)):=q_
theorem aKK{p:Bool}{z:Value}{x y:aH}:mM call G st l d (.mpx p z x y)=gP st d (Rl p z (aM G st.sl x) (aM G st.sl y)):=q_
theorem aFX{x:aH}:mM call G st l d (.nilc x)=gP st d (Ml (aM G st.sl x)):=q_
theorem aKL{c:BinOp}{x y:aH}:mM call G st l d (.bin c x y)=gP st d (fX c (aM G st.sl x) (aM G st.sl y)):=q_
theorem aFY{n:Bool}{x y:aH}:mM call G st l d (.binb n x y)=gP st d (Mk n (aM G st.sl x) (aM G st.sl y)):=q_
theorem aKM{n:Bool}{c:List EK}{x y:aH}:mM call G st l d (.eqs n c x y)=gP st d (Rk n c (aM G st.sl x) (aM G st.sl y)):=q_
theorem aPG{c:UnOp}{x:aH}:mM call G st l d (.un c x)=gP st d (unV c (aM G st.sl x)):=q_
theorem aFZ{k:IntKind}{x:aH}:mM call G st l d (.conv k x)=gP st d (Z5 k (bH (aM G st.sl x))):=q_
theorem aF0{x:aH}:mM call G st l d (.cvbs x)=gP st d (nZ st.hp (aM G st.sl x)):=q_
theorem aF1{o:Nat}{x:aH}:mM call G st l d (.addo o x)=gP st d (F4 o (aM G st.sl x)):=q_
theorem aKN{n z:Nat}{x i:aH}:mM call G st l d (.ixA n z x i)=gP st d (aOI n z (aM G st.sl x) (bH (aM G st.sl i))):=q_
theorem aKO{z:Nat}{x i:aH}:mM call G st l d (.ixL z x i)=gP st d (aJJ st.hp z (aM G st.sl x) (bH (aM G st.sl i))):=q_
theorem aKP{n:Nat}{x i:aH}:mM call G st l d (.ixV n x i)=gP st d (aOJ n (aM G st.sl x) (bH (aM G st.sl i))):=q_
theorem aKQ{n:Nat}{x:aH}:mM call G st l d (.s2p n x)=gP st d (aBO n (aM G st.sl x)):=q_
theorem aKR{x i:aH}:mM call G st l d (.ixS x i)=gP st d (aJK (aM G st.sl x) (bH (aM G st.sl i))):=q_
theorem aKS{x:aH}{e c:Option aH}:mM call G st l d (.slS x e c)=gP st d (Lw (aM G st.sl x) (e.map (aM G st.sl)) (c.map (aM G st.sl))):=q_
theorem aKT{z:Nat}{x:aH}{e c:Option aH}:mM call G st l d (.slL z x e c)=gP st d (lN st.hp z (aM G st.sl x) (e.map (aM G st.sl)) (c.map (aM G st.sl))):=q_
theorem aCO{z:List Value}{c:List (Nat×Nat×aH)}:mM call G st l d (.build z c)=gP st d (aJL (iO (z.map cI) (c.map fun (o,s,x)=>(o,s,aM G st.sl x)))):=q_
theorem aKU{x:aH}{n:Nat}:mM call G st l d (.ext x n)=gP st d (Wl (aM G st.sl x) n):=q_
theorem aF2{x:aH}:mM call G st l d (.lenS x)=gP st d (Z6 (dN (aM G st.sl x))):=q_
theorem aF3{x:aH}:mM call G st l d (.lenL x)=gP st d (tD (aM G st.sl x)):=q_
theorem aKV{x y:aH}:mM call G st l d (.min2 x y)=gP st d (aEh (aM G st.sl x) (aM G st.sl y)):=q_
theorem aKW{x y:aH}:mM call G st l d (.max2 x y)=gP st d (aEi (aM G st.sl x) (aM G st.sl y)):=q_
theorem aF4{f:FuncId}{xs:List aH}:mM call G st l d (.mkfn f xs)=gP st d ((xs.mapM fun c=>jE (aM G st.sl c)).map fun cs=>.one (.fn f cs)):=q_
theorem aT3:drZ call G st d ai false=ldZ call G st d ai:=q_
theorem aT4:drZ call G st d ai true=Cq call G st d ai:=q_
theorem aF5{f:FuncId}{xs:List aH}:ldZ call G st d (.call f xs)=dvK call G d f xs st (call f (De G st xs) []):=q_
theorem aCP{x:aH}{xs:List aH}:ldZ call G st d (.callv x xs)=cvZ call G d x xs st:=q_
theorem aKX{z b:Nat}{c:List Value}{s x:aH}:ldZ call G st d (.app z b c s x)=apZ d z b st (aM G st.sl s) (aM G st.sl x):=q_
theorem aF6{z b:Nat}{c:List Value}{ps:List (Nat×aH)}:ldZ call G st d (.bslc z b c ps)=bsO G st d z b c ps:=q_
theorem aCQ{z:List Value}:ldZ call G st d (.alloc z)=some ⟨aP st.sl d (.one (.ptr st.hp.length 0)),st.hp++[.box (z.map cI)]⟩:=q_
theorem aCR{n:Nat}{x v:aH}:ldZ call G st none (.store n x v)=stX G st n x v:=q_
theorem aKY{z:Nat}{x:aH}{e c:Option aH}:Cq call G st d (.slL z x e c)=gP st d (lN [] z (aM G st.sl x) (e.map (aM G st.sl)) (c.map (aM G st.sl))):=q_
theorem aKZ{x:aH}:Cq call G st d (.mov x)=some ⟨aP st.sl d (aM G st.sl x),st.hp⟩:=q_
theorem aF7{c x y:aH}:Cq call G st d (.pick c x y)=gP st d (Ct (aM G st.sl c) (aM G st.sl x) (aM G st.sl y)):=q_
theorem aF8{g:Bool}{n:Nat}{x:aH}:Cq call G st d (.load g n x)=gP st d (mJ st.hp g n (aM G st.sl x)):=q_
theorem aK0{p:Bool}{z:Value}{x y:aH}:Cq call G st d (.mpx p z x y)=gP st d (Rl p z (aM G st.sl x) (aM G st.sl y)):=q_
theorem aF9{x:aH}:Cq call G st d (.nilc x)=gP st d (Ml (aM G st.sl x)):=q_
theorem aK1{c:BinOp}{x y:aH}:Cq call G st d (.bin c x y)=gP st d (fX c (aM G st.sl x) (aM G st.sl y)):=q_
theorem aGa{n:Bool}{x y:aH}:Cq call G st d (.binb n x y)=gP st d (Mk n (aM G st.sl x) (aM G st.sl y)):=q_
theorem aK2{n:Bool}{c:List EK}{x y:aH}:Cq call G st d (.eqs n c x y)=gP st d (Rk n c (aM G st.sl x) (aM G st.sl y)):=q_
theorem aPH{c:UnOp}{x:aH}:Cq call G st d (.un c x)=gP st d (unV c (aM G st.sl x)):=q_
theorem aGb{k:IntKind}{x:aH}:Cq call G st d (.conv k x)=gP st d (Z5 k (bH (aM G st.sl x))):=q_
theorem aGc{o:Nat}{x:aH}:Cq call G st d (.addo o x)=gP st d (F4 o (aM G st.sl x)):=q_
theorem aK3{z:Nat}{x i:aH}:Cq call G st d (.ixL z x i)=gP st d (aJJ st.hp z (aM G st.sl x) (bH (aM G st.sl i))):=q_
theorem aK4{x i:aH}:Cq call G st d (.ixS x i)=gP st d (aJK (aM G st.sl x) (bH (aM G st.sl i))):=q_
theorem aK5{x:aH}{e c:Option aH}:Cq call G st d (.slS x e c)=gP st d (Lw (aM G st.sl x) (e.map (aM G st.sl)) (c.map (aM G st.sl))):=q_
theorem aCS{z:List Value}{c:List (Nat×Nat×aH)}:Cq call G st d (.build z c)=gP st d (aJL (iO (z.map cI) (c.map fun (o,s,x)=>(o,s,aM G st.sl x)))):=q_
theorem aK6{x:aH}{n:Nat}:Cq call G st d (.ext x n)=gP st d (Wl (aM G st.sl x) n):=q_
theorem aGd{x:aH}:Cq call G st d (.lenS x)=gP st d (Z6 (dN (aM G st.sl x))):=q_
theorem aGe{x:aH}:Cq call G st d (.lenL x)=gP st d (tD (aM G st.sl x)):=q_
theorem aXX{c b:Bool}:gK b (.one (.dc (.raw (.bool c))))=some (eqb c b):=q_
theorem aK7{b:Bool}:gK b (.tup [])=some false:=q_
theorem aGf(c:Bool):eqb c true=c:=by cases c<;>rfl
theorem aCT(c:Bool):eqb c false=!c:=by cases c<;>rfl
theorem aPI{v:AV}:gP st d (some v)=some ⟨aP st.sl d v,st.hp⟩:=q_
end
theorem aK8{x y:AV}:Ct (.one (.dc (.raw (.bool true)))) x y=some x:=q_
theorem aK9{x y:AV}:Ct (.one (.dc (.raw (.bool false)))) x y=some y:=q_
theorem aCU{p:Prop}[Decidable p]{x y:AV}(h:p):Ct (.one (.dc (.raw (.bool (decide p))))) x y=some x:=by rw[decide_eq_true h];rfl
theorem aCV{p:Prop}[Decidable p]{x y:AV}(h:¬ p):Ct (.one (.dc (.raw (.bool (decide p))))) x y=some y:=by rw[decide_eq_false h];rfl
section
variable {k:IntKind}{x y:Int}
theorem aLa:fX .add (.one (.dc (.raw (.int k x)))) (.one (.dc (.raw (.int k y))))=some (.one (.dc (.raw (.int k (k.wrap (x+y)))))):=by simp[fX,lR]
theorem aLb:fX .sub (.one (.dc (.raw (.int k x)))) (.one (.dc (.raw (.int k y))))=some (.one (.dc (.raw (.int k (k.wrap (x-y)))))):=by simp[fX,lR]
theorem aLc:fX .mul (.one (.dc (.raw (.int k x)))) (.one (.dc (.raw (.int k y))))=some (.one (.dc (.raw (.int k (k.wrap (x*y)))))):=by simp[fX,lR]
theorem aLd:fX .eql (.one (.dc (.raw (.int k x)))) (.one (.dc (.raw (.int k y))))=some (.one (.dc (.raw (.bool (decide (x=y)))))):=by simp[fX,lR,Bool.beq_eq_decide_eq]
theorem aLe:fX .neq (.one (.dc (.raw (.int k x)))) (.one (.dc (.raw (.int k y))))=some (.one (.dc (.raw (.bool (decide (x≠y)))))):=by
 simp only[fX,lR,if_true,aZG,dU];congr 5;rw[bAY];simp
theorem aLf:fX .lss (.one (.dc (.raw (.int k x)))) (.one (.dc (.raw (.int k y))))=some (.one (.dc (.raw (.bool (decide (x<y)))))):=by simp[fX,lR]
theorem aLg:fX .leq (.one (.dc (.raw (.int k x)))) (.one (.dc (.raw (.int k y))))=some (.one (.dc (.raw (.bool (decide (x<=y)))))):=by simp[fX,lR]
theorem aLh:fX .gtr (.one (.dc (.raw (.int k x)))) (.one (.dc (.raw (.int k y))))=some (.one (.dc (.raw (.bool (decide (y<x)))))):=by simp[fX,lR]
theorem aLi:fX .geq (.one (.dc (.raw (.int k x)))) (.one (.dc (.raw (.int k y))))=some (.one (.dc (.raw (.bool (decide (y<=x)))))):=by simp[fX,lR]
end
theorem aLj{x y:ByteArray}:fX .eql (.one (.dc (.raw (.string x)))) (.one (.dc (.raw (.string y))))=some (.one (.dc (.raw (.bool (decide (x=y)))))):=by
 simp only[fX,Ij,aZG,dU];congr 5;rw[bAY];simp[ByteArray.toList_eq,ByteArray.ext_iff,Array.ext_iff]
theorem aPJ{c:Bool}:unV .not (.one (.dc (.raw (.bool c))))=some (.one (.dc (.raw (.bool (!c))))):=q_
theorem aXY(b:Bool):(b==true)=b:=by cases b<;>rfl
theorem aXZ(b:Bool):(b==false)=!b:=by cases b<;>rfl
theorem aX0(a b:Int):(a==b)=decide (a=b):=by rw[bAY];simp
theorem aLk{p q:Prop}[Decidable p][Decidable q]:(decide p&&decide q)=decide (p/\q):=by simp
theorem aPK{p q:Prop}[Decidable p][Decidable q]:(decide p||decide q)=decide (p\/q):=by simp
theorem aLl{p:Prop}[Decidable p]:(!decide p)=decide (¬ p):=by simp
theorem jG{α:Type}{f:α->List DC}{n:Nat}(h:∀x,(f x).length=n)(l:List α):gG n (l.map f)=true:=by
 induction l with
 |nil=>rfl
 |cons x l c=>simp[gG,c,h,jJ]
theorem kF{α c:Type}{f:α->c}{l:List α}:List.take l.length (l.map f)=l.map f:=bAc (by simp)
noncomputable def aGg(c:Bool)(e:List lC)(n:Nat)(s:AS):Bool->Option (AV×List aD)
 |true=>Xl c n s.hp (tK s e)
 |false=>none
theorem aPL{c:Bool}{e:List lC}{n:Nat}:qC c e n (some (.ret,s))=aGg c e n s (decide (n<=s.hp.length)):=by
 by_cases h:n<=s.hp.length<;>simp[qC,Mz,h,aGg]
theorem aPM{c:Bool}{e:List lC}{n:Nat}:qC c e n (some (.normal,s))=aGg c e n s (decide (n<=s.hp.length)):=by
 by_cases h:n<=s.hp.length<;>simp[qC,Mz,h,aGg]
theorem aPN{c:Bool}{e:List lC}{n:Nat}:aGg c e n s true=Xl c n s.hp (tK s e):=q_
def aPO(n:Nat)(hp:List aD)(v:AV):Bool->AV×List aD
 |true=>(Gy v,hp.take n)
 |false=>(Gy v,hp)
theorem aPP{n:Nat}{hp:List aD}{v:AV}:Xl true n hp (some v)=some (aPO n hp v (dH (fun id=>decide (n<=id)) v&&(hp.take n).all (pF fun id=>decide (n<=id)))):=by
 simp only[Xl,aO4,cond_true];cases (dH (fun id=>decide (n<=id)) v&&(hp.take n).all (pF fun id=>decide (n<=id)))<;>rfl
theorem aPQ{n:Nat}{hp:List aD}{v:AV}:aPO n hp v true=(Gy v,hp.take n):=q_
theorem aPR{n:Nat}{hp:List aD}{v:AV}:aPO n hp v false=(Gy v,hp):=q_
def aT5(n:Nat)(st:AS):AV×List aD:=(Gy (bF (fun id=>decide (n<=id)) (st.sl.getD 0 .junk)),(st.hp.take n).map (cP fun id=>decide (n<=id)))
theorem aPS{n:Nat}{hp:List aD}{v:AV}:Xl false n hp (some v)=some (aT5 n (bV (jY v) (bxW n (jY v) ⟨[v],hp⟩ (Xe v)))):=q_
theorem aT6{n:Nat}{c:List Nat}:bxW n c st true=Db n c st:=q_
theorem aT7{n:Nat}{c:List Nat}:bxW n c st false=st:=q_
theorem aT8{id:Nat}{cs:List aU}:bx1 id st (.box cs) true=bxB id cs st:=q_
theorem aT9{id:Nat}{o:aD}:bx1 id st o false=st:=by cases o<;>rfl
def aUa:Option TV->Option (List TV)->Option (List TV)
 |some a,some l=>some (a::l)
 |_,_=>none
def aCW(st:AS):List lC->Option (List TV)
 |[]=>some []
 |r::c=>aUa ((gU st r).bind tJ) (aCW st c)
theorem aPT{a:TV}{l:List TV}:aUa (some a) (some l)=some (a::l):=q_
theorem aAH(st:AS):∀c:List lC,c.mapM (fun r=>(gU st r).bind tJ)=aCW st c
 |[]=>rfl
 | r::c=>by
  rw[bAz,aAH st c,aCW];cases (gU st r).bind tJ<;>cases aCW st c<;>rfl
theorem aPU{st:AS}:tK st []=some (.tup []):=q_
theorem aPV{st:AS}{r:lC}:tK st [r]=gU st r:=q_
theorem aPW{st:AS}{r q:lC}{c:List lC}:tK st (r::q::c)=(aCW st (r::q::c)).map .tup:=by
 rw[<- aAH];rfl
theorem aB{G:aF}{T:HT}{f:FuncId}{h:HF}{c:List AV}{hp:List aD}{r:AV×List aD}(e:T.tab f=some h)(g:qC h.own h.rs hp.length (EC (EV G T) G h.code ⟨c++tF (h.nt-c.length),hp⟩)=some r):EV G T f c hp=some r:=aNT e g
end
section
variable {call:aO}{G:aF}{st:AS}{d:Option Nat}{f:FuncId}{xs:List aH}{av:AV}{os:List aD}{o:aD}
def aPX(call:aO)(G:aF)(d:Option Nat)(f:FuncId)(xs:List aH)(st:AS):Bool->Option AS
 |true=>vwK call G d f xs st (call f (G0 G st xs) [])
 |false=>lE (lI call) d f (xs.map (aM G (bV (mL G st.sl xs) st).sl)) (bV (mL G st.sl xs) st)
def aPY(call:aO)(G:aF)(d:Option Nat)(f:FuncId)(xs:List aH)(st:AS)(av:AV):Bool->Option AS
 |true=>some ⟨aP st.sl d av,st.hp⟩
 |false=>Xh call G d f xs (bV (mL G st.sl xs) st)
def aUb(call:aO)(G:aF)(d:Option Nat)(f:FuncId)(xs:List aH)(st:AS)(av:AV):Bool->Option AS
 |true=>some ⟨aP st.sl d av,st.hp⟩
 |false=>dnZ call G d f xs st
def aUc(call:aO)(G:aF)(d:Option Nat)(f:FuncId)(xs:List aH)(st:AS):Bool->Option AS
 |true=>nwK d st (call f (lG G st.sl xs) [])
 |false=>none
def aUd(call:aO)(G:aF)(d:Option Nat)(f:FuncId)(xs:List aH)(st:AS):Bool->Option AS
 |true=>qcK d st (call f (lG G st.sl xs) [])
 |false=>none
theorem aUe:clZ call G d f xs st=aPX call G d f xs st (sL G st.sl xs):=by unfold clZ;cases sL G st.sl xs<;>rfl
theorem aPZ:aPX call G d f xs st true=vwK call G d f xs st (call f (G0 G st xs) []):=q_
theorem aP0:aPX call G d f xs st false=lE (lI call) d f (xs.map (aM G (bV (mL G st.sl xs) st).sl)) (bV (mL G st.sl xs) st):=q_
theorem aUf:Xh call G d f xs st=aUc call G d f xs st ((lG G st.sl xs).all (dH fun _=>true)):=by unfold Xh;cases (lG G st.sl xs).all (dH fun _=>true)<;>rfl
theorem aP1:aUc call G d f xs st true=nwK d st (call f (lG G st.sl xs) []):=q_
theorem aUg:Cq call G st d (.call f xs)=aUd call G d f xs st ((lG G st.sl xs).all (dH fun _=>true)):=by rw[Cq];cases (lG G st.sl xs).all (dH fun _=>true)<;>rfl
theorem aP2:aUd call G d f xs st true=qcK d st (call f (lG G st.sl xs) []):=q_
theorem aP3:aPY call G d f xs st av true=some ⟨aP st.sl d av,st.hp⟩:=q_
theorem aP4:aPY call G d f xs st av false=Xh call G d f xs (bV (mL G st.sl xs) st):=q_
theorem aP5:aUb call G d f xs st av true=some ⟨aP st.sl d av,st.hp⟩:=q_
theorem aUh:vwK call G d f xs st (some (av,[]))=aPY call G d f xs st av (mK av):=by rw[vwK];cases mK av<;>rfl
theorem aUi:vwK call G d f xs st (some (av,o::os))=Xh call G d f xs (bV (mL G st.sl xs) st):=q_
theorem aUj:dvK call G d f xs st (some (av,[]))=aUb call G d f xs st av (mK av):=by rw[dvK];cases mK av<;>rfl
theorem aUk:nwK d st (some (av,os))=some ⟨aP st.sl d (dD (cJ [] st.hp.length) av),st.hp++os.map (eQ (cJ [] st.hp.length))⟩:=q_
theorem aUl:qcK d st (some (av,[]))=bif dH (fun _=>true) av then some ⟨aP st.sl d av,st.hp⟩ else none:=q_
theorem aUm:qcK d st (some (av,o::os))=qcF d st (bF (fun id=>decide (0<=id)) ((bV (jY av) ⟨[av],o::os⟩).sl.getD 0 .junk)):=q_
theorem aUn{c:List aU}:cvK call G d xs st (.one (.fn f c))=lE (lI call) d f (xs.map (aM G st.sl)++c.map AV.one) st:=q_
theorem aUo{size bytes id n:Nat}{x:AV}:apZ d size bytes st (.one (.bld id n)) x=apB d size bytes st id n (aL st.hp id) (sD st.hp x):=q_
theorem aUp{size bytes id n c sz:Nat}{es e:List (List DC)}:apB d size bytes st id n (.arr c sz es) (some e)=if sz=size/\n<=es.length/\gG size e=true/\(n+e.length)*bytes<=140737488355328 then some ⟨aP (klS id st.sl) d (.one (.bld id (n+e.length))),(klH id st.hp).set id (.arr 0 size (es.take n++e))⟩ else none:=rfl
theorem aUq{size bytes:Nat}{c:List (List DC)}:apN d size bytes st (some c)=if gG size c=true/\c.length*bytes<=140737488355328 then some ⟨aP st.sl d (.one (.bld st.hp.length c.length)),klH st.hp.length st.hp++[.arr 0 size c]⟩ else none:=rfl
theorem aUr{size len:Nat}{cs:List aU}{c:List DC}:bsP st d size len cs (some c)=if c.length=len*size then some ⟨aP st.sl d (.one (.bld st.hp.length len)),st.hp++[.arr 0 size (gD size len c)]⟩ else none:=q_
theorem aUs{size len:Nat}{cs:List aU}:bsP st d size len cs none=if size=1 then some ⟨aP st.sl d (.one (.bls st.hp.length 0 len 1)),st.hp++[.box cs]⟩ else none:=q_
theorem aLm{a b:Nat}{cs:List aU}:dcs (.ptr a b::cs)=none:=rfl
theorem aUt{size len:Nat}{z:List Value}{ps:List (Nat×aH)}:bsZ G st d size len z ps true=bsX G (bV (Jh G st.sl ps) st) d size len z ps:=q_
theorem aUu{size len:Nat}{z:List Value}{ps:List (Nat×aH)}:bsZ G st d size len z ps false=bsO G (bV (Jh G st.sl ps) st) d size len z ps:=q_
theorem aUv{id c s:Nat}{es:List (List DC)}:bvZ id st (.arr c s es)=bv1 id s es st es.isEmpty:=q_
theorem aUw{id s:Nat}{es:List (List DC)}:bv1 id s es st true=bV [id] st:=q_
theorem aUx{id s:Nat}{es:List (List DC)}:bv1 id s es st false=bvB id s es st:=q_
theorem aUy{i sz:Nat}:ghN i sz st (.one (.dc (.raw (.slice none 0 0))))=⟨st.sl.set i (.one (.bld st.hp.length 0)),st.hp++[.arr 0 sz []]⟩:=q_
theorem aUz{j sz id off:Nat}:ghB j sz st (.one (.ptr id off))=aJ2 id (off+j) sz st (aL st.hp id):=q_
theorem aP6{id j sz:Nat}{cs:List aU}:aJ2 id j sz st (.box cs)=aJ1 id j sz cs st cs[j]?:=q_
theorem aP7{id j sz:Nat}{cs:List aU}:aJ1 id j sz cs st (some (.dc (.raw (.slice none 0 0))))=⟨st.sl,st.hp.set id (.box (cs.set j (.bld st.hp.length 0)))++[.arr 0 sz []]⟩:=q_
def sbK(n:Nat):aD->Option (List (List DC))
 |.arr _ _ es=>if n<=es.length then some (es.take n) else none
 |_=>none
theorem aP8{hp:List aD}{id n:Nat}:sD hp (.one (.bld id n))=sbK n (aL hp id):=by
 simp only[sD];cases aL hp id<;>rfl
theorem aUA{n c z:Nat}{es:List (List DC)}:sbK n (.arr c z es)=if n<=es.length then some (es.take n) else none:=q_
theorem aP9{hp:List aD}{es:List (List DC)}:sD hp (.one (.dc (.slc es)))=some es:=q_
end
section
variable {k:IntKind}{x y:Int}
theorem aLn:fX .quo (.one (.dc (.raw (.int k x)))) (.one (.dc (.raw (.int k y))))=if y=0 then none else some (.one (.dc (.raw (.int k (k.wrap (x.tdiv y)))))):=by
 simp only[fX,lR,if_true];split<;>rfl
theorem aLo:fX .rem (.one (.dc (.raw (.int k x)))) (.one (.dc (.raw (.int k y))))=if y=0 then none else some (.one (.dc (.raw (.int k (x.tmod y))))):=by
 simp only[fX,lR,if_true];split<;>rfl
def Xu(k:IntKind)(x y:Int):Int:=k.wrap (BitVec.ofInt k.bits x &&& BitVec.ofInt k.bits y).toNat
def Xv(k:IntKind)(x y:Int):Int:=k.wrap (BitVec.ofInt k.bits x ||| BitVec.ofInt k.bits y).toNat
theorem aLp:fX .and (.one (.dc (.raw (.int k x)))) (.one (.dc (.raw (.int k y))))=some (.one (.dc (.raw (.int k (Xu k x y))))):=by simp[fX,lR,Xu]
theorem aQa:fX .or (.one (.dc (.raw (.int k x)))) (.one (.dc (.raw (.int k y))))=some (.one (.dc (.raw (.int k (Xv k x y))))):=by simp[fX,lR,Xv]
theorem aLq{j:IntKind}(h:0<=y):fX .shl (.one (.dc (.raw (.int j x)))) (.one (.dc (.raw (.int k y))))=some (.one (.dc (.raw (.int j (j.wrap (x*2 ^ (min y.toNat j.bits))))))):=by
 simp only[fX];rw[if_neg (by omega)]
theorem aLr{j:IntKind}(h:0<=y):fX .shr (.one (.dc (.raw (.int j x)))) (.one (.dc (.raw (.int k y))))=some (.one (.dc (.raw (.int j (x.fdiv (2 ^ (min y.toNat j.bits))))))):=by
 simp only[fX];rw[if_neg (by omega)]
theorem aQb:unV .neg (.one (.dc (.raw (.int k x))))=some (.one (.dc (.raw (.int k (k.wrap (0-x)))))):=q_
theorem Dj{a b:ByteArray}(h:a.size+b.size<=9223372036854775807):fX .add (.one (.dc (.raw (.string a)))) (.one (.dc (.raw (.string b))))=some (.one (.dc (.raw (.string (a++b))))):=by
 simp only[fX,Ij];rw[if_pos h];rfl
theorem Js{x y:ByteArray}:(x.toList==y.toList)=decide (x=y):=by
 rw[bAY];simp[ByteArray.toList_eq,ByteArray.ext_iff,Array.ext_iff]
theorem aGh{x y:ByteArray}:fX .neq (.one (.dc (.raw (.string x)))) (.one (.dc (.raw (.string y))))=some (.one (.dc (.raw (.bool (decide (x≠y)))))):=by
 simp only[fX,Ij,aZG,dU,Js];congr 5;simp
end
section
variable {call:aO}{G:aF}{st s s':AS}{l:List aN}
variable {r:Nat}{prs:List (Nat×Nat)}{acc:List FP}{d:Option Nat}{ai:AI}{f:FP}{R:List Nat}
def fvK(call:aO)(G:aF)(prs:List (Nat×Nat))(acc:List FP)(r:Nat)(l:List aN):Option (AS×FP)->Option AS
 |some (s,f)=>Xk call G prs (acc++[f]) r l (some s)
 |none=>none
theorem aCX{ops:List aN}:EC call G (.drawnF prs ops) st=nrm (Xk call G prs [] st.hp.length ops (some ⟨st.sl,st.hp++Df (nAl ops)⟩)):=q_
theorem aLs:Xk call G prs acc r [] (some st)=bif L3 prs acc then some st else none:=q_
theorem aUB{g:Option (Nat×Bool)}{l:List aN}:Xk call G prs acc r (⟨d,ai,g⟩::l) (some st)=fvK call G prs acc (bif aCC ai then r+1 else r) l (fvO call G st d r ai g):=by rw[Xk];cases fvO call G st d r ai g<;>rfl
theorem aUC{l:List aN}:fvK call G prs acc r l (some (st,f))=Xk call G prs (acc++[f]) r l (some st):=q_
theorem aUD:fvO call G st d r ai none=L2 call G st d r ai:=q_
theorem aCY{z:List Value}:L2 call G st d r (.alloc z)=fvN d r z st st.hp[r]?:=q_
theorem aUE{z:List Value}:fvN d r z st (some .dead)=some (⟨aP st.sl d (.one (.ptr r 0)),st.hp.set r (.box (z.map cI))⟩,[r],[]):=q_
theorem aCZ{n:Nat}{x v:aH}:L2 call G st d r (.store n x v)=fvS d n st (aM G st.sl x) (cellsOf (aM G st.sl v)):=q_
theorem aUF{n id off:Nat}{vs:List aU}:fvS none n st (.one (.ptr id off)) (some vs)=fvT n id off vs st st.hp[id]?:=q_
theorem aNW{n id off:Nat}{vs cs:List aU}(c:vs.length=n)(e:off+n<=cs.length):fvT n id off vs st (some (.box cs))=some (⟨st.sl,st.hp.set id (.box (cZ cs off vs))⟩,[id],[id]):=if_pos ⟨c,e⟩
theorem aGi{f:FuncId}{xs:List aH}:L2 call G st d r (.call f xs)=fvC call G st d f xs ((xs.map (aM G st.sl)).flatMap jY):=q_
theorem aGj{x y:aH}:L2 call G st d r (.cpys x y)=fvY d st (aM G st.sl x) (dN (aM G st.sl y)):=q_
theorem aUG{id c n:Nat}{bs:ByteArray}:fvY d st (.one (.bls id c n 1)) (some bs)=aJ7 d id c n bs st st.hp[id]?:=by simp only[fvY,if_true]
theorem aQc{id c n:Nat}{bs:ByteArray}{cs:List aU}(h:c+n<=cs.length):aJ7 d id c n bs st (some (.box cs))=some (⟨aP st.sl d (dU (.int .i64 (min bs.size n:Nat))),st.hp.set id (.box (cZ cs c (fH (bs.data.toList.take n))))⟩,[id],[id]):=if_pos h
theorem aUH{f:FuncId}{xs:List aH}:fvC call G st d f xs []=Wh [] (Cq call G st d (.call f xs)):=q_
theorem aUI{f:FuncId}{xs:List aH}{id:Nat}:fvC call G st d f xs [id]=fvB call d f st (xs.map (aM G st.sl)) id st.hp[id]?:=q_
theorem aUJ:Wh R (some s)=some (s,[],R):=q_
theorem aUK{c:aU}:Rf (.one c)=fpC c:=q_
theorem aUL{sl:List AV}:fpA G sl []=[]:=q_
theorem aUM{sl:List AV}{x:aH}{xs:List aH}:fpA G sl (x::xs)=Rf (aM G sl x)++fpA G sl xs:=q_
theorem aUN:nAl []=0:=q_
theorem aUO{g:Option (Nat×Bool)}{l:List aN}:nAl (⟨d,ai,g⟩::l)=bif aCC ai then nAl l+1 else nAl l:=q_
theorem aLt:Df 0=[]:=q_
theorem aLu:Df 3=[.dead,.dead,.dead]:=q_
theorem aQd{c:List FP}:L3 [] c=true:=q_
theorem aQe{p q:Nat}{c:List FP}:L3 ((p,q)::prs) c=(dsM (atF c p) (atF c q)&&L3 prs c):=q_
theorem aUP{a b c e:List Nat}:dsM (a,b) (c,e)=(G3 a e&&(G3 a c&&G3 c b)):=q_
theorem aQf{b:List Nat}:G3 [] b=true:=q_
theorem aQg{x:Nat}{a b:List Nat}:G3 (x::a) b=(!Sx b x&&G3 a b):=q_
theorem aQh{x:Nat}:Sx [] x=false:=q_
theorem aQi{x y:Nat}{a:List Nat}:Sx (y::a) x=(nq x y||Sx a x):=q_
theorem aUQ{c:List FP}:atF (f::c) 0=f:=q_
theorem aUR{c:List FP}{n:Nat}:atF (f::c) (n+1)=atF c n:=q_
theorem aLv{x:aH}:L2 call G st d r (.mov x)=Wh (fpA G st.sl [x]) (mM call G st [] d (.mov x)):=q_
theorem aGk{g:Bool}{n:Nat}{x:aH}:L2 call G st d r (.load g n x)=Wh (fpA G st.sl [x]) (mM call G st [] d (.load g n x)):=q_
theorem aLw{c:BinOp}{x y:aH}:L2 call G st d r (.bin c x y)=Wh (fpA G st.sl [x,y]) (mM call G st [] d (.bin c x y)):=q_
theorem aGl{o:Nat}{x:aH}:L2 call G st d r (.addo o x)=Wh (fpA G st.sl [x]) (mM call G st [] d (.addo o x)):=q_
theorem aLx{z:Nat}{x:aH}{e c:Option aH}:L2 call G st d r (.slL z x e c)=Wh (fpA G st.sl (x::(e.toList++c.toList))) (mM call G st [] d (.slL z x e c)):=q_
end
attribute [go_sem] aCX aLs aUB aUC aUD aCY aUE aCZ aUF aNW aGj aUG aQc aGi aUH aUI aUJ aUK aUL aUM aUN aUO aLt aLu aQd aQe aUP aQf aQg aQh aQi aUQ aUR fpC aCC aLv aGk aLw aGl aLx
attribute [go_sem] aKp aPn aKq aCI aFK Xs aKs aFL aKt aTH aFM aNV aTI aTJ aTK aTL aKu aKv aPo aPp aPq aTM aTN aTO aTP aKx aTQ aTT aTU aTV aTW aKB aKC aTX aTY aKD aKE aTZ aT0 aFP aPy
attribute [go_sem] aUv aUw aUx Sv bvB bvC Su bvV bvT bvS bvO bvH
attribute [go_sem] aT6 aT7 aT8 aT9 Db bxB bxV bxT bxC bxD bxO Xe aJZ aAd aS1 aFi
attribute [go_sem] aCK aKy aPs aPt aPu aKA iQ
attribute [go_sem] aPx De aKK aK0 aFR aFS aCx aPA aPB aPF aPC aFT aCy aPD aT2 aKG aKr aFO aPv aTR aTS aPw kL Pk So aCw aPE aKH mkZ aT1 aPz aFQ aCL aKF aFU aCM aKI aCN aKJ aFV aFW aFX aKL aFY aKM aPG aFZ aF0 aF1 aKN aKO aKR aKS aKT aCO aKU aF2 aF3 aKV aKW aF4
attribute [go_sem] aT3 aT4 aF5 aCP aKX aF6 aCQ aCR aKY aKZ aF7 aF8 aF9 aK1 aGa aK2 aPH aGb aGc aK3 aK4 aK5 aCS aK6 aGd aGe aXX aK7 aGf aCT aPI aK8 aK9 aCU aCV aLa aLb aLc aLd aLe aLf aLg aLh aLi aLj aPJ aLk aPK aLl
attribute [go_sem] aX0 and_false false_and or_false false_or or_true true_or bAD bAq Bool.or_true Bool.or_false not_true_eq_false not_false_eq_true List.flatMap_cons List.flatMap_nil aXY aXZ Ce gG kF aPL aPM aPN aXW aPr aCJ Xt jk aKw aAG aPP aPQ aPR aT5 aPS
attribute [go_sem] aUr aUs aLm aKP aKQ
attribute [go_sem] aOW aCu aUe aPZ aP0 aUf aP1 aUg aP2 aP3 aP4 aP5 aUh aUi aUj aUk aUl aUm qcF List.getD_cons_zero aUn aUo aUp aUq aUt aUu aUy aUz aP6 aP7 aP9 aP8 aUA aLn aLo aLp aQa aLq aLr aQb Dj aGh ghE klC Pj klV klS klO klH Xg aFm sL G0 lG aOU aFk aFl mL lI cvZ isT aOX aNS aOY aJ5 Jh bsO ctC G4 ctV ctO ctH ctS kR bV mI lB iV jY aEZ idsL aST dH keepL Gc pF aU.keep bF cL tX cP dD jV Iu renL eQ cJ Cb tF aPT aCW aPU aPV aPW tJ gU
end
section
def kG(x:Nat):List Nat->Bool
 |[]=>false
 |j::J=>nq x j||kG x J
theorem Hs(x:Nat):∀J:List Nat,kG x J=J.contains x
 |[]=>rfl
 |j::J=>by rw[kG,List.contains_cons,Hs x J,jJ]
def rcB(hp:List aD)(n id:Nat)(c J:List Nat):Bool->List Nat
 |true=>uL hp n c J
 |false=>uL hp n (aJF (aL hp id)++c) (J++[id])
theorem aC0{hp:List aD}{n:Nat}{J:List Nat}:uL hp n [] J=J:=by cases n<;>rfl
theorem aLy{hp:List aD}{n id:Nat}{c J:List Nat}:uL hp (n+1) (id::c) J=rcB hp n id c J (kG id J):=by
 rw[uL,Hs];cases J.contains id<;>rfl
theorem aUS{hp:List aD}{n id:Nat}{c J:List Nat}:rcB hp n id c J false=uL hp n (aJF (aL hp id)++c) (J++[id]):=q_
def S9:List Nat->Bool
 |[]=>true
 |j::J=>!kG j J&&S9 J
theorem aAI:∀J:List Nat,S9 J=oF (fun i j=>i != j) J
 |[]=>rfl
 | j::J=>by
  rw[S9,oF,aAI J,Hs];congr 1
  induction J with
  | nil=>rfl
  | cons i J c=>simp only[List.contains_cons,List.all_cons,Bool.not_or,c];rfl
def kpC(J:List Nat):aU->Bool
 |.ptr id _=>kG id J
 |.bld id _=>kG id J
 |.ept id _ _ _=>kG id J
 |.bls id _ _ _=>kG id J
 |.fn f c=>(aU.fn f c).keep (lD J)
 |.dc _=>true
 |.ref _=>true
 |.mpc _=>true
 |.junk=>true
def Dk(J:List Nat):List aU->Bool
 |[]=>true
 |c::cs=>kpC J c&&Dk J cs
def kpV(J:List Nat):AV->Bool
 |.one c=>kpC J c
 |.agg cs=>Dk J cs
 |.tup l=>l.all (Gc (lD J))
 |.junk=>true
def Pp(J:List Nat):List AV->Bool
 |[]=>true
 |v::vs=>kpV J v&&Pp J vs
def kpO(J:List Nat):aD->Bool
 |.box cs=>Dk J cs
 |.arr _ _ _=>true
 |.dead=>true
def kpH(J:List Nat)(hp:List aD):List Nat->Bool
 |[]=>true
 |j::l=>decide (j<hp.length)&&kpO J (aL hp j)&&kpH J hp l
theorem aGm(J:List Nat)(c:aU):kpC J c=c.keep (lD J):=by
 cases c<;>simp[kpC,aU.keep,lD,Hs]
theorem Pq(J:List Nat):∀cs,Dk J cs=keepL (lD J) cs
 |[]=>rfl
 |c::cs=>by rw[Dk,keepL,aGm,Pq J cs]
theorem aQj(J:List Nat)(v:AV):kpV J v=dH (lD J) v:=by
 cases v<;>simp[kpV,dH,aGm,Pq]
theorem Ps(J:List Nat):∀vs,Pp J vs=vs.all (dH (lD J))
 |[]=>rfl
 |v::vs=>by rw[Pp,List.all_cons,aQj,Ps J vs]
theorem aQk(J:List Nat)(o:aD):kpO J o=pF (lD J) o:=by
 cases o<;>simp[kpO,pF,Pq]
theorem aGn(J:List Nat)(hp:List aD):∀l,kpH J hp l=l.all fun j=>decide (j<hp.length)&&pF (lD J) (aL hp j)
 |[]=>rfl
 |j::l=>by rw[kpH,List.all_cons,aQk,aGn J hp l]
def arB(j:Nat)(l:List Nat):aD->List Nat
 |.box _=>l
 |_=>j::l
def arJ(hp:List aD):List Nat->List Nat
 |[]=>[]
 |j::J=>arB j (arJ hp J) (aL hp j)
def kaC(A:List Nat):aU->aU
 |.dc d=>.dc d
 |.ref cs=>.ref cs
 |.mpc es=>.mpc es
 |.junk=>.junk
 |.ptr j o=>bif kG j A then .junk else .ptr j o
 |.bld j n=>bif kG j A then .junk else .bld j n
 |.ept j i s o=>bif kG j A then .junk else .ept j i s o
 |.bls j i s o=>bif kG j A then .junk else .bls j i s o
 |.fn f c=>cL (fun id=>kG id A) (.fn f c)
def aC1(A:List Nat):List aU->List aU
 |[]=>[]
 |c::cs=>kaC A c::aC1 A cs
def kaV(A:List Nat):AV->AV
 |.one c=>.one (kaC A c)
 |.agg cs=>.agg (aC1 A cs)
 |.tup l=>.tup (l.map (tX fun id=>kG id A))
 |.junk=>.junk
def kaS(A:List Nat):List AV->List AV
 |[]=>[]
 |v::vs=>kaV A v::kaS A vs
def kaO(A:List Nat):aD->aD
 |.box cs=>.box (aC1 A cs)
 |.arr c s es=>.arr c s es
 |.dead=>.dead
def kaH(A:List Nat):List aD->List aD
 |[]=>[]
 |o::os=>kaO A o::kaH A os
theorem aGo(A:List Nat)(c:aU):kaC A c=cL (fun id=>kG id A) c:=by
 cases c<;>simp only[kaC,cL,aU.keep,if_true]
 case ptr j o=>
  by_cases h:kG j A=true;simp[h];simp[h,(bA0.2 h:kG j A=false)]
 case bld j n=>
  by_cases h:kG j A=true;simp[h];simp[h,(bA0.2 h:kG j A=false)]
 case ept j i s o=>
  by_cases h:kG j A=true;simp[h];simp[h,(bA0.2 h:kG j A=false)]
 case bls j i s o=>
  by_cases h:kG j A=true;simp[h];simp[h,(bA0.2 h:kG j A=false)]
theorem Pt(A:List Nat):∀cs,aC1 A cs=cs.map (cL fun id=>kG id A)
 |[]=>rfl
 |c::cs=>by simp[aC1,aGo,Pt A cs]
theorem aQm(A:List Nat)(v:AV):kaV A v=bF (fun id=>kG id A) v:=by
 cases v<;>simp only[kaV,bF,aGo,Pt]
theorem aGp(A:List Nat):∀l,kaS A l=l.map (bF fun id=>kG id A)
 |[]=>rfl
 |c::cs=>by simp[kaS,aQm,aGp A cs]
theorem aGq(A:List Nat):∀l,kaH A l=l.map (cP fun id=>kG id A)
 |[]=>rfl
 |o::os=>by cases o<;>simp[kaH,kaO,cP,Pt,aGq A os]
theorem aGr(hp:List aD):∀J:List Nat,(fun id=>kG id (arJ hp J))=fun id=>J.contains id&&!iV (aL hp id)
 |[]=>by funext id;rfl
 | j::J=>by
  funext id;have c:kG id (arJ hp J)=(J.contains id&&!iV (aL hp id)):=congrFun (aGr hp J) id;rw[List.contains_cons,arJ];by_cases h:id=j
  ·subst h;cases g:aL hp id with
   | box cs=>rw[arB,c,g];simp[iV]
   | _=>simp[arB,kG,jJ,iV]
  ·have e:(id==j)=false:=by simpa using h
   cases g:aL hp j with
   | box cs=>rw[arB,c,e,bAq]
   | _=>simp only[arB,kG,jJ,e,bAq];exact c
def afB(J:List Nat)(st:AS)(d:Option Nat)(av:AV)(os:List aD):List Nat->AS
 |[]=>⟨aP st.sl d (dD (cJ J st.hp.length) av),lB J (os.map (eQ (cJ J st.hp.length))) st.hp++(os.drop J.length).map (eQ (cJ J st.hp.length))⟩
 |a::A=>⟨aP (kaS (a::A) st.sl) d (dD (cJ J st.hp.length) av),lB J (os.map (eQ (cJ J st.hp.length))) (kaH (a::A) st.hp)++(os.drop J.length).map (eQ (cJ J st.hp.length))⟩
theorem aGs{J:List Nat}{st:AS}{d:Option Nat}{av:AV}{os:List aD}:iW J st d av os=afB J st d av os (arJ st.hp J):=by
 unfold iW;rw[<- aGr];cases h:arJ st.hp J with
 |nil=>
  have c:∀id,kG id []=false:=fun _=>rfl
  rw[rC c,rE c];rfl
 |cons a A=>rw[afB,aGp,aGq]
theorem aUW{J:List Nat}{st:AS}{d:Option Nat}{av:AV}{os:List aD}:afB J st d av os []=⟨aP st.sl d (dD (cJ J st.hp.length) av),lB J (os.map (eQ (cJ J st.hp.length))) st.hp++(os.drop J.length).map (eQ (cJ J st.hp.length))⟩:=q_
def evJ(call:aO)(d:Option Nat)(f:FuncId)(c:List AV)(st:AS)(J:List Nat):Option AS:=if okJ J st.hp c then (call f (c.map (dD (mI J))) (J.map fun j=>eQ (mI J) (aL st.hp j))).map fun r=>iW J st d r.1 r.2 else none
def evK(d:Option Nat)(st:AS)(J:List Nat):Option (AV×List aD)->Option AS
 |some (av,os)=>some (iW J st d av os)
 |none=>none
def evB(call:aO)(d:Option Nat)(f:FuncId)(c:List AV)(st:AS)(J:List Nat):Bool->Option AS
 |true=>evK d st J (call f (c.map (dD (mI J))) (J.map fun j=>eQ (mI J) (aL st.hp j)))
 |false=>none
theorem aGt{call:aO}{d:Option Nat}{f:FuncId}{c:List AV}{st:AS}:lE call d f c st=evJ call d f c st (uL st.hp 2000 (c.flatMap jY) []):=q_
theorem aGu{call:aO}{d:Option Nat}{f:FuncId}{c:List AV}{st:AS}(J:List Nat):evJ call d f c st J=evB call d f c st J (S9 J&&kpH J st.hp J&&Pp J c):=by
 unfold evJ okJ;rw[aAI,aGn,Ps];cases (oF (fun i j=>i != j) J&&(J.all fun j=>decide (j<st.hp.length)&&pF (lD J) (aL st.hp j))&&c.all (dH (lD J))) with
 |false=>rfl
 |true=>
  simp only[if_true,evB];cases call f (c.map (dD (mI J))) (J.map fun j=>eQ (mI J) (aL st.hp j))<;>rfl
theorem aUX{call:aO}{d:Option Nat}{f:FuncId}{c:List AV}{st:AS}:evJ call d f c st []=evB call d f c st [] (S9 []&&kpH [] st.hp []&&Pp [] c):=aGu _
theorem aUY{call:aO}{d:Option Nat}{f:FuncId}{c:List AV}{st:AS}{a:Nat}:evJ call d f c st [a]=evB call d f c st [a] (S9 [a]&&kpH [a] st.hp [a]&&Pp [a] c):=aGu _
theorem aUZ{call:aO}{d:Option Nat}{f:FuncId}{c:List AV}{st:AS}{a b:Nat}:evJ call d f c st [a,b]=evB call d f c st [a,b] (S9 [a,b]&&kpH [a,b] st.hp [a,b]&&Pp [a,b] c):=aGu _
theorem aU0{call:aO}{d:Option Nat}{f:FuncId}{c:List AV}{st:AS}{J:List Nat}:evB call d f c st J true=evK d st J (call f (c.map (dD (mI J))) (J.map fun j=>eQ (mI J) (aL st.hp j))):=q_
theorem aU1{d:Option Nat}{st:AS}{J:List Nat}{av:AV}{os:List aD}:evK d st J (some (av,os))=some (iW J st d av os):=q_
theorem Ta:∀c:List DC,idsL (kP c)=[]
 |[]=>rfl
 | d::c=>by
  have:=Ta c;simp only[kP,aZM,idsL,aEZ,aZP] at this ⊢;exact this
theorem Tc(J:List Nat):∀c:List DC,Dk J (kP c)=true
 |[]=>rfl
 | d::c=>by
  have:=Tc J c;simp only[kP,aZM,Dk,kpC,aZ8] at this ⊢;exact this
theorem aLz(ρ:Nat->Nat)(ds:List DC):(kP ds).map (jV ρ)=kP ds:=by
 simp only[kP,aZ4];exact aZZ fun d _=>rfl
theorem Td(id:Nat):∀c:List DC,Pj id (kP c)=kP c
 |[]=>rfl
 | d::c=>by
  have:=Td id c;simp only[kP,aZM,Pj,klC] at this ⊢;rw[this]
theorem Te(m:Nat):∀c:List DC,G4 m (kP c)=kP c
 |[]=>rfl
 | d::c=>by
  have:=Te m c;simp only[kP,aZM,G4,ctC] at this ⊢;rw[this]
theorem Ht:∀c:List DC,dcs (kP c)=some c
 |[]=>rfl
 | d::c=>by
  have:=Ht c;simp only[kP,aZM,dcs] at this ⊢;rw[this];rfl
theorem Pu(a:Nat):nq a a=true:=by rw[jJ];simp
attribute [go_sem] Ta Tc aLz Td Te Ht
attribute [go_sem] kG aC0 aLy aUS S9 kpC Dk kpV Pp kpO kpH arB arJ kaC aC1 kaV kaS kaO kaH aGs aUW aGt aUX aUY aUZ aU0 aU1 aJF Nat.reduceLT
section
variable {call:aO}{G:aF}{st:AS}{d:Option Nat}
def aU2(call:aO)(d:Option Nat)(f:FuncId)(st:AS)(c:List AV)(id:Nat)(cs:List aU):Bool->Option (AS×FP)
 |true=>aFp d id st (lI call f (c.map (dD (mI [id]))) [.box cs])
 |false=>none
theorem aU3{f:FuncId}{c:List AV}{id:Nat}{cs:List aU}:fvB call d f st c id (some (.box cs))=aU2 call d f st c id cs (keepL (fun _=>true) cs&&Pp [id] c):=by
 rw[Ps];simp only[fvB];cases (keepL (fun _=>true) cs&&c.all (dH (lD [id])))<;>rfl
theorem aQn{f:FuncId}{c:List AV}{id:Nat}{cs:List aU}:aU2 call d f st c id cs true=aFp d id st (lI call f (c.map (dD (mI [id]))) [.box cs]):=q_
end
attribute [go_sem] aU3 aQn
attribute [go_sem] Nat.reduceAdd Nat.reduceSub Nat.reduceMul Nat.reduceLeDiff Nat.reduceEqDiff
end
section
def aGv(size bytes:Nat)(z:List Value):HC:=
 (.seq (.region [Oo 2 (.mov (.k (.slice none 0 0)))])
 (.seq (.seq (.region [Oo 3 (.mov (.t 0)),Oo 4 (.isnil false false (.t 3))])
 (.cond (.t 4) (.seq (.region [Oo 2 (.mov (.k (.slice none 0 0)))])
 .ret)
 .skip))
 (.seq (.region [Oo 5 (.bslc size 0 z []),Oo 6 (.mov (.t 0)),Oo 7 (.app size bytes z (.t 5) (.t 6)),Oo 2 (.mov (.t 7))])
 .ret)))
section
variable {P:Program}{G:aF}{call:aO}
theorem aC2:cH P G (fun _ _ _=>none):=fun f c hp av e h=>by cases h
theorem Xw{size bytes:Nat}{z:List Value}{es:List (List DC)}{c:AV}(h4:c=dU (.bool false))(h:0<z.length)(g:gG size es=true)(e:es.length*bytes<=140737488355328):EC call G (.seq (.region [Oo 5 (.bslc size 0 z []),Oo 6 (.mov (.t 0)),Oo 7 (.app size bytes z (.t 5) (.t 6)),Oo 2 (.mov (.t 7))]) .ret) ⟨[.one (.dc (.slc es)),.junk,dU (.slice none 0 0),.one (.dc (.slc es)),c,.junk,.junk,.junk],[]⟩= some (.ret,⟨[.one (.dc (.slc es)),.junk,.one (.bld 0 es.length),.one (.dc (.slc es)),c,.one .junk,.one (.dc (.slc es)),.one (.bld 0 es.length)],[.arr 0 size es]⟩):=by
 subst h4;simp[go_sem,g,e]
theorem aGw{f:FuncId}{g:Func}{size bytes:Nat}{z:List Value}{es:List (List DC)}(hf:P.funcs[f]?=some g)(A:g.ntmps=8) (v:g.body.bind (bU P)=some (aGv size bytes z).er) (B:g.results.toList.mapM (jR P)=some [.tmp 2]) (C:0<z.length) (w:gG size es=true) (u:es.length*bytes<=140737488355328):AC P G f [.one (.dc (.slc es))] [] fun a o=>a=.one (.bld 0 es.length)/\o.map aQ=[.arr 0 size es]:=by
 have q:AC P G f [.one (.dc (.slc es))] [] fun a o=>(a=.one (.bld 0 es.length)/\o.map aQ=[.arr 0 size es])\/(es=[]/\a=dU (.slice none 0 0)/\o=[]):=by
  refine AC.of_codeJ hf A v B ?_;have c:∀ b:Bool,(b=true->es=[])->AW P G 0 (.cond (.t 4) (.seq (.region [Oo 2 (.mov (.k (.slice none 0 0)))]) .ret) .skip)
    (I2 P G 0 (.seq (.region [Oo 5 (.bslc size 0 z []),Oo 6 (.mov (.t 0)),Oo 7 (.app size bytes z (.t 5) (.t 6)),Oo 2 (.mov (.t 7))]) .ret) (Fin 0 [.tmp 2] fun a o=>(a=.one (.bld 0 es.length)/\o.map aQ=[.arr 0 size es])\/(es=[]/\a=dU (.slice none 0 0)/\o=[])))
    ⟨[.one (.dc (.slc es)),.junk,dU (.slice none 0 0),.one (.dc (.slc es)),dU (.bool b),.junk,.junk,.junk],[]⟩:=by
   intro b i;refine AW.cond (b:=b) rfl (fun h=>?_) (fun h=>?_)
   ·refine AW.seq (AW.region (WR.exX trivial rfl rfl (WR.nil ?_)));exact AW.ret (I2.r (by unfold Fin;exact⟨.inr rfl,aZX _,_,rfl,.inr ⟨i h,rfl,rfl⟩⟩))
   ·subst h;refine AW.skip (I2.n ?_);refine (aNU (aC2 (P:=P) (G:=G)) (.seq (.region [Oo 5 (.bslc size 0 z []),Oo 6 (.mov (.t 0)),Oo 7 (.app size bytes z (.t 5) (.t 6)),Oo 2 (.mov (.t 7))]) .ret) _ .ret _ (Xw rfl C w u) 0).mono ?_;rintro e s ⟨rfl,p⟩;unfold Fin;refine⟨.inr rfl,aZX _,.one (.bld 0 es.length), ?_,.inl ⟨rfl,congrArg AS.hp p⟩⟩;rw[<- E0,p];rfl
  refine AW.seq (AW.region (WR.exX trivial rfl rfl (WR.nil ?_)));refine AW.seqv (AW.seq (AW.region (WR.exX trivial rfl rfl ?_)));cases es with
  | nil=>exact WR.isnil0 trivial rfl rfl (fun b=>WR.nil (c b (fun _=>rfl)))
  | cons e es=>exact WR.exX trivial rfl rfl (WR.nil (c false (fun h=>by cases h)))
 refine q.gh (fun a o h j=>?_)
 rcases h with⟨rfl,h⟩|⟨rfl,rfl,rfl⟩;exact⟨_,_,Gh.refl,j,rfl,h⟩;exact⟨_,_,Gh.nil (d:=0) size rfl,aZX _,rfl,rfl⟩
def aGx(size bytes:Nat):List AV->List aD->Option (AV×List aD)
 |[.one (.dc (.slc es))],[]=>if gG size es=true/\es.length*bytes<=140737488355328 then some (.one (.bld 0 es.length),[.arr 0 size es]) else none
 |_,_=>none
def Jt:List (FuncId×Nat×Nat)->aO
 |[],_,_,_=>none
 |(g,size,bytes)::L,f,c,hp=>if f=g then aGx size bytes c hp else Jt L f c hp
theorem E5:∀(L:List (FuncId×Nat×Nat)),(∀e∈L,Zv P e.1=true/\∃i z,P.funcs[e.1]?=some i/\i.ntmps=8/\i.body.bind (bU P)=some (aGv e.2.1 e.2.2 z).er/\i.results.toList.mapM (jR P)=some [.tmp 2]/\0<z.length)->cH P G (Jt L)
 |[],_=>fun f c hp av t h=>by cases h
 | (g,size,bytes)::L,n=>fun f c hp av t h j q=>by
  unfold Jt at h;split at h
  ·rename_i hf;subst hf;obtain⟨u,i,z,v,h3,h4,h5,h6⟩:=n _ aZV;refine⟨u, ?_⟩;unfold aGx at h;split at h
   ·rename_i es;split at h
    ·rename_i p;simp only[Option.some.injEq,Prod.mk.injEq] at h;obtain⟨rfl,rfl⟩:=h;have:j=[]:=by simpa using q
     subst this;exact aGw v h3 h4 h5 h6 p.1 p.2
    ·cases h
   ·cases h
  ·exact E5 L (fun e w=>n e (aZ2 _ w)) f c hp av t h j q
end
end
section
open Go.RowKit
theorem Dl(k:Int):∀(l:List MapEntry)(i:Nat),(∀x∈l,∃n,x.key=.int .i64 n/\n≠k)->Instr.findNow (.int .i64) (.int .i64 k) l i=some none
 |[],i,h=>rfl
 | e::l,i,h=>by
  obtain⟨n,g,j⟩:=h e aZV;have c:(k==n)=false:=by simp;exact fun e=>j e.symm
  simp[Instr.findNow,Instr.sameNow,g,c,Dl k l (i+1) (fun x p=>h x (aZ2 _ p))]
theorem Dm{P:Program}{t g u:TypeId}(A:P.underlying t=some (.map g u))(q:P.underlying g=some (.int .i64))(w:World)(es:Array MapEntry)(c:Nat)(n:Int)(v:Value) (z:∀x∈es.toList,∃m,x.key=.int .i64 m/\m≠n):(Instr.mapUpdate t (.map (some w.heap.size)) (.int .i64 n) v).run P (w.alloc (.map es c))=.ok () (w.alloc (.map (es.push { key:=.int .i64 n,val:=v,born:=c }) (c+1))):=by
 have p:(w.alloc (.map es c)).heap[w.heap.size]?=some (.map es c):=by
  show (w.heap.push _)[w.heap.size]?=_;simp
 have j:(getObj w.heap.size).run P (w.alloc (.map es c))=.ok (.map es c) (w.alloc (.map es c)):=by simp only[getObj,Sem.run,p]
 have h:(Instr.checkKey false (9999+1) g (.int .i64 n)).run P (w.alloc (.map es c))=.ok () (w.alloc (.map es c)):=by
  unfold Instr.checkKey;simp[run_underlying q]
 have i:(Instr.findKey g (.int .i64 n) es.toList).run P (w.alloc (.map es c))=.ok none (w.alloc (.map es c)):=by
  simp[Instr.findKey,run_underlying q,Dl n es.toList 0 z]
 have e:∀o,(setObj w.heap.size o).run P (w.alloc (.map es c))=.ok () (w.alloc o):=by
  intro o;rw[MapKept.run_setObj_map o p];have:(w.heap.push (.map es c)).setIfInBounds w.heap.size o=w.heap.push o:=by
   apply Array.ext';simp
  show Result.ok () ({ w.alloc (.map es c) with heap:=(w.heap.push (.map es c)).setIfInBounds w.heap.size o }:World)=_
  rw[this];rfl
 simp[Instr.mapUpdate,run_underlying A,j,h,i,e]
def tyL:List (Int×Value):=[(16,.bool true),(32,.bool false),(48,.bool true),(64,.bool false),(96,.bool true),(112,.bool true),(128,.bool false),(144,.bool true),(160,.bool false),(176,.bool false),(192,.bool false)]
def tyE:Array MapEntry:=#[⟨.int .i64 16,.bool true,0⟩,⟨.int .i64 32,.bool false,1⟩,⟨.int .i64 48,.bool true,2⟩,⟨.int .i64 64,.bool false,3⟩,⟨.int .i64 96,.bool true,4⟩,⟨.int .i64 112,.bool true,5⟩,⟨.int .i64 128,.bool false,6⟩,⟨.int .i64 144,.bool true,7⟩,⟨.int .i64 160,.bool false,8⟩,⟨.int .i64 176,.bool false,9⟩,⟨.int .i64 192,.bool false,10⟩]
set_option maxRecDepth 100000 in
theorem aLA(w:World):Calls Tryz.prog 204 #[] w fun e w'=>e=.returned (.map (some w.heap.size))/\w'=w.alloc (.map tyE 11):=by
 have c:=fun w=>run_makeMap_plain (P:=Tryz.prog) (w:=w) 166
 go_enter Tryz.func204,Tryz.ntmps204
 go_wp2
 iterate 11
  rw[Dm Tryz.underlying166 Tryz.underlying3]
  rotate_left
  ·simp
  simp only[Result.andThen]
  go_wp2
 go_ret
 exact⟨rfl,rfl⟩
set_option maxRecDepth 100000 in
theorem aU4(s:ByteArray)(c:Int)(w:World):Calls Tryz.prog 301 #[.string s,.int .u8 c] w fun e w'=>e=.returned (.int .i64 (Lib.indexByte s.data.toList c.toNat.toUInt8))/\w'=w:=by
 go_enter Tryz.func301,Tryz.ntmps301
 go_wp2
 rw[run_callFunc_extern Tryz.func302 (by kernel_rfl) (by kernel_rfl) (by kernel_rfl) (e:=Extern.BytealgIndexByte.indexByte) (by kernel_rfl),Lib.run_indexByteString];simp only[Result.andThen];rw[Oper.upon_value]
 go_wp2
 go_ret
 exact⟨rfl,rfl⟩
theorem aGy{γ:List OI}{hp:List aD}{F:Fz}{w:World}(c:dS F γ hp w)(h:hp=[]):γ=[]:=bAJ (by rw[c.len,h];rfl)
theorem aLB{G:aF}:QC Tryz.prog G 204 [] (.one (.mpc tyL)):=by
 intro F γ vs w n v u;have t:=aGy n rfl;subst t;have q:vs=#[]:=Array.eq_empty_of_size_eq_zero u.1;subst q;have p:∀ b o,F b=some o->b < w.heap.size:=fun b o h=>by
  have:=n.fz b o h;exact (Array.getElem?_eq_some_iff.1 this).1
 have g:∀b,b<w.heap.size->(w.heap.push (.map tyE 11))[b]?=w.heap[b]?:=fun b c=>by rw[Array.getElem?_push_lt c,bAf c]
 refine (aLA w).mono ?_;rintro e w' ⟨rfl,rfl⟩;refine⟨_,_,[],fun b=>if b=w.heap.size then some (.map tyE 11) else F b,[],rfl,⟨rfl,rfl⟩,aZE _,⟨?_,rfl,rfl,rfl,?_,?_,?_,?_,?_⟩,⟨?_,rfl,?_,?_,?_⟩,.one _ _ (.mpc tyL w.heap.size 11 tyE (by simp) (by rfl) (by decide))⟩
 intro b o h;have:=p b o h;show (if b=w.heap.size then _ else F b)=_
 rw[if_neg (by omega)];exact h;show w.heap.size<=(w.heap.push _).size;simp;intro b c _;exact g b c;intro b o h;by_cases c:b=w.heap.size;exact .inr (.inl (by omega));simp only[if_neg c] at h;exact .inl h;intro i b h;simp[cD] at h;intro i n;exact absurd n (Nat.not_lt_zero _);intro b o h;by_cases c:b=w.heap.size;subst c;simp only[if_true] at h;rw[<- h];show (w.heap.push _)[w.heap.size]?=_;simp;simp only[if_neg c] at h;exact (g b (p b o h)).trans (n.fz b o h);intro i j b h;simp[cD] at h;intro i b h;simp[cD] at h;intro i o x h;simp at h
theorem aU5{G:aF}(s:ByteArray)(c:Int):QC Tryz.prog G 301 [.one (.dc (.raw (.string s))),.one (.dc (.raw (.int .u8 c)))] (.one (.dc (.raw (.int .i64 (Lib.indexByte s.data.toList c.toNat.toUInt8))))):=by
 intro F γ vs w i q g;obtain⟨p,g⟩:=g;have h:=aGy i rfl;subst h;obtain⟨x,y,rfl⟩:∃x y,vs=#[x,y]:=by
  obtain⟨l⟩:=vs
  match l,p with
  |[x,y],_=>exact⟨x,y,rfl⟩
 have j:=cV (g 0 _ _ rfl rfl);have n:=cV (g 1 _ _ rfl rfl);subst j;subst n;refine (aU4 s c w).mono ?_;rintro e w' ⟨rfl,rfl⟩;exact⟨_,_,[],F,[],rfl,⟨rfl,rfl⟩,aZE _,iK.refl _ _ _ _,i,.one _ _ (.dc _ _ (.raw _ rfl))⟩
def tyK:List AV->List aD->Option (AV×List aD)
 |[],[]=>some (.one (.mpc tyL),[])
 |_,_=>none
def ixK:List AV->List aD->Option (AV×List aD)
 |[.one (.dc (.raw (.string s))),.one (.dc (.raw (.int .u8 c)))],[]=>some (.one (.dc (.raw (.int .i64 (Lib.indexByte s.data.toList c.toNat.toUInt8)))),[])
 |_,_=>none
def awK:List AV->List aD->Option (AV×List aD)
 |[],[]=>some (.one (.dc (.raw (.bool true))),[])
 |_,_=>none
def bs(b:Bool):aO:=fun f c hp=>if f=204 then tyK c hp else if f=301 then ixK c hp else if f=4 then (if b=true then awK c hp else none) else Jt [(158,2,16)] f c hp
theorem aU6{G:aF}{b:Bool}(q:b=true->QC Tryz.prog G 4 [] (.one (.dc (.raw (.bool true))))):cH Tryz.prog G (bs b):=by
 intro f j hp av u h i n;unfold bs at h;split at h;rename_i hf;subst hf;unfold tyK at h;split at h;injection h with h;injection h with c g;subst c;subst g
 have:i=[]:=by simpa using n
 subst this;exact⟨by kernel_rfl,aLB.gh (fun a o ⟨c,g⟩ _=>⟨a,o,Gh.refl,aZX _,c,by rw[g];rfl⟩)⟩
 cases h;split at h;rename_i hf;subst hf;unfold ixK at h;split at h;injection h with h;injection h with c g;subst c;subst g
 have:i=[]:=by simpa using n
 subst this;exact⟨by kernel_rfl,(aU5 _ _).gh (fun a o ⟨c,g⟩ _=>⟨a,o,Gh.refl,aZX _,c,by rw[g];rfl⟩)⟩
 cases h;split at h;rename_i hf;subst hf;split at h;rename_i t;unfold awK at h;split at h;injection h with h;injection h with c g;subst c;subst g
 have:i=[]:=by simpa using n
 subst this;exact⟨by kernel_rfl,(q t).gh (fun a o ⟨c,g⟩ _=>⟨a,o,Gh.refl,aZX _,c,by rw[g];rfl⟩)⟩
 cases h;cases h
 exact E5 [(158,2,16)] (fun e p=>by
  simp only[List.mem_singleton] at p;subst p;exact⟨by kernel_rfl,_,[Zi 0,Zi 0],Tryz.func158,Tryz.ntmps158,h158_ok,aKo,by decide⟩) f j hp av u h i n
