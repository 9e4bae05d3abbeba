/- Part. Conditions: none. -/
import Derived.Test.YtalhnjjchkmfeaaGreatDoorNd
import Derived.Test.YtalhnjjchkmfeaaGreatDoorCb
import Derived.WalkKit
import Derived.WideMake
import Derived.MapKept
import Derived.Lib.Bytealg
import Derived.Lib.Walk
import Derived.Lib.Strings
import Derived.BigCall
namespace Go.Proofs.YtalhnjjchkmfeaaGreatDoor
set_option maxHeartbeats 1000000
set_option linter.unusedSimpArgs false
set_option linter.unusedVariables false
section
section
variable {call:aO}{G:aF}{st s s':AS}{a b:HC}{L:List Nat}{m:Nat}
noncomputable def sqK(call:aO)(G:aF)(b:HC)(r:Option (Exit×AS)):Option (Exit×AS):=match r with
 |some (.normal,s)=>EC call G b s
 |r=>r
noncomputable def cdK(call:aO)(G:aF)(a b:HC)(st:AS):Option Bool->Option (Exit×AS)
 |some true=>EC call G a st
 |some false=>EC call G b st
 |none=>none
noncomputable def EL(call:aO)(G:aF)(a:HC)(L:List Nat)(m:Nat)(st:AS):Option (Exit×AS):=B6 (EC call G a) L m st
noncomputable def fnK(call:aO)(G:aF)(a:HC)(L:List Nat)(m:Nat)(r:Option (Exit×AS)):Option (Exit×AS):=match r with
 |some (.normal,s)=>EL call G a L m (kO L m s)
 |r=>r
def Lt(L:List Nat)(m:Nat):Option (Exit×AS)->Option AS
 |some (.normal,s)=>some (kO L m s)
 |_=>none
theorem aKt:EC call G .skip st=some (.normal,st):=q_
theorem aPm:EC call G .ret st=some (.ret,st):=q_
theorem aKu{id:Nat}:EC call G (.exit id) st=some (.exit id,st):=q_
theorem aCI{ops:List aN}:EC call G (.region ops) st=nrm (evR call G ops (some st)):=q_
theorem aKv{L:List Nat}{ops:List aN}:EC call G (.regR L ops) st=nrm (G6 call G L ops (some st)):=q_
theorem aFO{ops:List (Bool×aN)}:EC call G (.drawn ops) st=nrm (G7 call G ops (some st)):=q_
theorem Xr:EC call G (.seq a b) st=sqK call G b (EC call G a st):=by rw[EC];rfl
theorem aKw{c:aH}:EC call G (.cond c a b) st=cdK call G a b st (cO (aM G st.sl c)):=by rw[EC];rfl
theorem aFP{id:Nat}:EC call G (.block id a) st=Bn id (EC call G a st):=q_
theorem aKx:EC call G (.loop L a) st=EL call G a L st.hp.length (kO L st.hp.length st):=q_
theorem aFQ{L:List Nat}:EC call G (.trm L a) st=EC call G a (kO L st.hp.length st):=q_
theorem aTD{g:GH}:EC call G (.gh g a) st=EC call G a (ghE g st):=q_
theorem aNZ:sqK call G b (some (.normal,s))=EC call G b s:=q_
theorem aTE:sqK call G b (some (.ret,s))=some (.ret,s):=q_
theorem aTF{id:Nat}:sqK call G b (some (.exit id,s))=some (.exit id,s):=q_
theorem aTG:cdK call G a b st (some true)=EC call G a st:=q_
theorem aTH:cdK call G a b st (some false)=EC call G b st:=q_
theorem aKy{p:Prop}[Decidable p](h:p):cdK call G a b st (some (decide p))=EC call G a st:=by rw[decide_eq_true h];rfl
theorem aKz{p:Prop}[Decidable p](h:¬ p):cdK call G a b st (some (decide p))=EC call G b st:=by rw[decide_eq_false h];rfl
theorem aPn{id:Nat}:Bn id (some (.normal,s))=some (.normal,s):=q_
theorem aPo{id:Nat}:Bn id (some (.ret,s))=some (.ret,s):=q_
theorem aPp{id c:Nat}:Bn id (some (.exit c,s))=bif nq c id then some (.normal,s) else some (.exit c,s):=by
 simp only[Bn,aKc,jK];by_cases h:c=id;simp[h];simp[h,(beq_eq_false_iff_ne.2 h:(c==id)=false)]
theorem aTI:fnK call G a L m (some (.ret,s))=some (.ret,s):=q_
theorem aTJ{id:Nat}:fnK call G a L m (some (.exit id,s))=some (.exit id,s):=q_
theorem aTK:Lt L m (some (.normal,s))=some (kO L m s):=q_
theorem aTL:nrm (some s)=some (.normal,s):=q_
theorem Ps:EL call G a L m st=fnK call G a L m (EC call G a st):=by
 unfold EL;cases h:EC call G a st with
 |none=>
  simp only[fnK];cases j:B6 (EC call G a) L m st with
  |none=>rfl
  |some r=>
   obtain⟨n,i⟩:=jW j;cases n with
   |zero=>simp[Ls] at i
   |succ n=>rw[Ls,h] at i;cases i
 |some r=>
  obtain⟨e,s⟩:=r;by_cases g:e=.normal;subst g;exact aFv st h;rw[aCE h g];unfold fnK;split;rename_i c;injection c with c;injection c with c;exact absurd c g;rfl
theorem aT(H:Nat->AS)(n:Nat)(e:st=H 0)(h:∀k,k<n->Lt L m (EC call G a (H k))=some (H (k+1))):EL call G a L m st=fnK call G a L m (EC call G a (H n)):=by
 subst e;have c:∀k,k<=n->EL call G a L m (H 0)=EL call G a L m (H k):=by
  intro k
  induction k with
  |zero=>intro _;rfl
  |succ k i=>
   intro j;rw[i (by omega),Ps];have:=h k (by omega);unfold Lt at this;split at this;rename_i s g;injection this with this
   rw[g,<- this];rfl;cases this
 rw[c n (aZE _),Ps]
theorem aFR(p:Nat->Prop):∀n:Nat,∃k,k<=n/\(k=n\/(k<n/\p k))/\∀j,j<k->¬ p j
 |0=>⟨0,aZE _,.inl rfl,fun j h=>by omega⟩
 | n+1=>by
  obtain⟨k,g,c,h3⟩:=aFR p n;rcases c with c | ⟨c,h4⟩
  ·subst c;by_cases hp:p k
   ·exact⟨k,by omega,.inr ⟨by omega,hp⟩,h3⟩
   ·exact⟨k+1,aZE _,.inl rfl,fun j i=>by
     by_cases e:j=k
     ·subst e;exact hp
     ·exact h3 j (by omega)⟩
  ·exact⟨k,by omega,.inr ⟨by omega,h4⟩,h3⟩
noncomputable def ix(p:Nat->Prop)(n:Nat):Nat:=(aFR p n).choose
theorem bF(p:Nat->Prop)(n:Nat):ix p n<=n/\(ix p n=n\/(ix p n<n/\p (ix p n)))/\∀j,j<ix p n->¬ p j:=(aFR p n).choose_spec
theorem dQ(H:Nat->AS)(p:Nat->Prop)(n:Nat)(c:st=H 0)(e:∀k,k<n->(∀j,j<=k->¬ p j)->Lt L m (EC call G a (H k))=some (H (k+1))):EL call G a L m st=fnK call G a L m (EC call G a (H (ix p n))):=by
 obtain⟨g,_,h3⟩:=bF p n;exact aT H _ c (fun k i=>e k (by omega) (fun j h=>h3 j (by omega)))
theorem aCJ(n k:Nat):((n:Int)+(k:Int)).toNat=n+k:=by omega
theorem Xs(n:Nat):((n:Int)+1).toNat=n+1:=by omega
def jk:Nat->List AV->List AV
 |0,t=>t
 |n+1,t=>.junk::jk n t
theorem aKA{c:aV}{cs vs:List aV}{n:Nat}:dA (c::cs) (n+1) vs=c::dA cs n vs:=by
 simp only[dA,bAP,aZW];rw[show n+1+vs.length=(n+vs.length)+1 by omega,bAZ]
theorem aAE{cs vs:List aV}:dA cs 0 vs=vs++cs.drop vs.length:=by simp[dA]
theorem aXW(a b c:Int):a+(b+c)=a+b+c:=(Int.add_assoc a b c).symm
theorem aPq{st:AS}{d:Option Nat}{cs:List aV}:aOL st d (some cs)=some ⟨aR st.sl d (.one (.ptr st.hp.length 0)),st.hp++[.box cs]⟩:=q_
theorem Cg(n:Nat):((n:Int)-1).toNat=n-1:=by omega
theorem aKB:evR call G [] (some st)=some st:=q_
theorem aTM{d:Option Nat}{ai:AI}{g:Option (Nat×Bool)}{l:List aN}:evR call G (⟨d,ai,g⟩::l) (some st)=evR call G l (Xi call G st l d ai g):=q_
theorem aCK{L:List Nat}{t:IT}{ops:List aN}:EC call G (.drawnT L t ops) st=nrm (Gk call G L st.hp.length ops t (some st)):=q_
theorem aKC{L:List Nat}{c:Nat}{ops:List aN}:Gk call G L c ops .nil (some st)=some st:=q_
theorem aPr{L:List Nat}{c:Nat}{ops:List aN}{i:Nat}{t:IT}:Gk call G L c ops (.st i t) (some st)=Gk call G L c ops t (Jh call G L st ops (iR ops i).dst (iR ops i).ai (iR ops i).guard (kL L (iR ops i).ai (iR ops i).guard)):=q_
theorem aPs{L:List Nat}{c:Nat}{ops:List aN}{i:Nat}{t:IT}:Gk call G L c ops (.br i t .stop) (some st)=Gk call G L c ops t (Jh call G L st ops (iR ops i).dst (iR ops i).ai (iR ops i).guard (kL L (iR ops i).ai (iR ops i).guard)):=q_
theorem aPt{L:List Nat}{c:Nat}{ops:List aN}{i j:Nat}{t e r:IT}:Gk call G L c ops (.br i t (.br j e r)) (some st)=Gj c (Gk call G L c ops t (Jh call G L st ops (iR ops i).dst (iR ops i).ai (iR ops i).guard (kL L (iR ops i).ai (iR ops i).guard))) (Gk call G L c ops (.br j e r) (some st)):=q_
theorem aKD{c:Nat}{s s':AS}(p:List (Nat×Nat))(h3:pOK c s'.hp.length p)(h4:prm p s'=s):Gj c (some s) (some s')=some s:=Sw rfl rfl h3 h4
theorem aKE{e:Nat}{s:AS}:Gj e (some s) (some s)=some s:=aKD [] (fun x c=>by cases c) rfl
theorem aFS{L:List Nat}:G6 call G L [] (some st)=some st:=q_
theorem aPu{L:List Nat}{d:Option Nat}{ai:AI}{g:Option (Nat×Bool)}{l:List aN}:G6 call G L (⟨d,ai,g⟩::l) (some st)=G6 call G L l (Jh call G L st l d ai g (kL L ai g)):=q_
theorem aTN{L:List Nat}{l:List aN}{d:Option Nat}{ai:AI}{g:Option (Nat×Bool)}:Jh call G L st l d ai g true=St call G L st d ai:=q_
theorem aTO{L:List Nat}{l:List aN}{d:Option Nat}{ai:AI}{g:Option (Nat×Bool)}:Jh call G L st l d ai g false=Xi call G st l d ai g:=q_
theorem aPv{L:List Nat}{d:Option Nat}{f:FuncId}{xs:List aH}:St call G L st d (.call f xs)=aFs call G st d f xs (Pn L (f+100000)):=q_
theorem aPw{d:Option Nat}{f:FuncId}{xs:List aH}:aFs call G st d f xs false=lE (lI call) d f (xs.map (aM G st.sl)) st:=q_
def aZl(d:Option Nat)(st:AS)(av:AV):Bool->Option AS
 |true=>some ⟨aR st.sl d av,st.hp⟩
 |false=>none
theorem aTP{l:List aN}{d:Option Nat}{ai:AI}:Xi call G st l d ai none=mN call G st l d ai:=q_
theorem aTQ{l:List aN}{d:Option Nat}{ai:AI}{g:Nat}{b:Bool}:Xi call G st l d ai (some (g,b))=guZ call G st l d ai (gK b (aM G st.sl (.t g))):=q_
section
variable {l:List aN}{d:Option Nat}{ai:AI}
theorem aTR:guZ call G st l d ai (some true)=mN call G st l d ai:=q_
theorem aTS:guZ call G st l d ai (some false)=some ⟨aR st.sl d (.tup []),st.hp⟩:=q_
theorem aKF{p:Prop}[Decidable p](h:p):guZ call G st l d ai (some (decide p))=mN call G st l d ai:=by rw[decide_eq_true h];rfl
theorem aKG{p:Prop}[Decidable p](h:¬ p):guZ call G st l d ai (some (decide p))=some ⟨aR st.sl d (.tup []),st.hp⟩:=by rw[decide_eq_false h];rfl
theorem aTT{q:Bool}:aCB call G st q d ai (some true)=drZ call G st d ai q:=q_
theorem aTU{q:Bool}:aCB call G st q d ai (some false)=some ⟨aR st.sl d (.tup []),st.hp⟩:=q_
theorem aKH{q:Bool}{p:Prop}[Decidable p](h:p):aCB call G st q d ai (some (decide p))=drZ call G st d ai q:=by rw[decide_eq_true h];rfl
theorem aKI{q:Bool}{p:Prop}[Decidable p](h:¬ p):aCB call G st q d ai (some (decide p))=some ⟨aR st.sl d (.tup []),st.hp⟩:=by rw[decide_eq_false h];rfl
theorem aTV{q:Bool}:drO call G st q d ai none=drZ call G st d ai q:=q_
theorem aTW{q:Bool}{g:Nat}{b:Bool}:drO call G st q d ai (some (g,b))=aCB call G st q d ai (gK b (aM G st.sl (.t g))):=q_
theorem aFT:G7 call G [] (some st)=some st:=q_
theorem aPx{q:Bool}{g:Option (Nat×Bool)}{l:List (Bool×aN)}:G7 call G ((q,⟨d,ai,g⟩)::l) (some st)=G7 call G l (drO call G st q d ai g):=q_
theorem aFU{f:FuncId}{xs:List aH}:mN call G st l d (.call f xs)=clZ call G d f xs st:=q_
theorem aCL{x:aH}{xs:List aH}:mN call G st l d (.callv x xs)=cvZ call G d x xs st:=q_
theorem aKJ{z b:Nat}{c:List Value}{s x:aH}:mN call G st l d (.app z b c s x)=apZ d z b st (aM G st.sl s) (aM G st.sl x):=q_
theorem aTX{d:Option Nat}{size bytes:Nat}{z:List Value}{st:AS}{i j:Int}(h:0<=i/\i<=j/\j.toNat*bytes<=140737488355328):mkK d size bytes z st (some i) (some j)=some ⟨aR st.sl d (.one (.bld st.hp.length i.toNat)),st.hp++[.arr 0 size (List.replicate i.toNat (z.map DC.raw))]⟩:=by
 obtain⟨n,rfl⟩:=bAI h.1;obtain⟨m,rfl⟩:=bAI (Int.le_trans h.1 h.2.1);have e:=h.2.1;have c:=h.2.2;simp only[bAc] at c;simp only[mkK,bAc];exact if_pos ⟨by omega,c⟩
theorem aPy{z b:Nat}{c:List Value}{x y:aH}:mN call G st l d (.mk z b c x y)=mkZ G st d z b c x y:=q_
theorem aFV{x y:aH}:mN call G st l d (.cpys x y)=aCx G st d x y:=q_
theorem aFW{x:aH}:mN call G st l d (.cvsb x)=aCy G st d x:=q_
theorem aPz{id c n z:Nat}{s:ByteArray}:aO5 d st (.one (.bls id c n z)) (some s)=if z=1 then aFr d st id c n s (aL st.hp id) else none:=q_
theorem aPA{id c n:Nat}{s:ByteArray}{cs:List aV}:aFr d st id c n s (.box cs)=if c+n<=cs.length then some ⟨aR st.sl d (dX (.int .i64 (min s.size n:Nat))),st.hp.set id (.box (dA cs c (fG (s.data.toList.take n))))⟩ else none:=q_
theorem aPB{s:ByteArray}:aKa d st (some s)=some ⟨aR st.sl d (.one (.bld st.hp.length s.size)),st.hp++[.arr 0 1 (iA s)]⟩:=q_
theorem aFX{L:List Nat}{x:aH}:St call G L st d (.cvsb x)=aKa d st (dO (aM G st.sl x)):=q_
theorem aPC{s:ByteArray}:aS8 d st (some s)=some ⟨aR st.sl d (.one (.dc (.slc (iA s)))),st.hp⟩:=q_
theorem aTY{d:Option Nat}{bytes:Nat}{v:Value}{st:AS}{i j:Int}(h:0<=i/\i<=j/\j.toNat*bytes<=140737488355328):mbK d 1 bytes st [v] (some i) (some j)=some ⟨aR st.sl d (.one (.bls st.hp.length 0 i.toNat 1)),st.hp++[.box (List.replicate j.toNat (cK v))]⟩:=by
 obtain⟨n,rfl⟩:=bAI h.1;obtain⟨m,rfl⟩:=bAI (Int.le_trans h.1 h.2.1);have e:=h.2.1;have c:=h.2.2;simp only[bAc] at c;simp only[mbK,bAc];exact if_pos ⟨trivial,by omega,c⟩
theorem aKK{L:List Nat}{z b:Nat}{c:List Value}{x y:aH}:St call G L st d (.mk z b c x y)=mbK d z b st c (bI (aM G st.sl x)) (bI (aM G st.sl y)):=q_
theorem aKL{z:Nat}{c:List Value}{x:aH}:mN call G st l d (.clr z c x)=aCw G st d z c x:=q_
theorem aPD{z id k n s:Nat}{c:List Value}:aO4 d z c st (.one (.bls id k n s))=if s=z then Xh d st id k n z c (aL st.hp id) else none:=q_
theorem aPE{id k n:Nat}{v:Value}{cs:List aV}:Xh d st id k n 1 [v] (.box cs)=if 1=1/\0<n/\k+n<=cs.length then some ⟨aR st.sl d (.tup []),st.hp.set id (.box (dA cs k (List.replicate n (cK v))))⟩ else none:=q_
theorem aFY{z b:Nat}{e:List Value}{c:List (Nat×aH)}:mN call G st l d (.bslc z b e c)=bsZ G st d z b e c (aJ9 d l):=q_
theorem aCM{z:List Value}:mN call G st l d (.alloc z)=some ⟨aR st.sl d (.one (.ptr st.hp.length 0)),st.hp++[.box (z.map cK)]⟩:=q_
theorem aKM{x:aH}:mN call G st l d (.box x)=aOL st d (cellsOf (aM G st.sl x)):=q_
theorem aCN{n:Nat}{x v:aH}:mN call G st l none (.store n x v)=stX G st n x v:=q_
theorem aKN{x:aH}:mN call G st l d (.mov x)=some ⟨aR st.sl d (aM G st.sl x),st.hp⟩:=q_
theorem aFZ{c x y:aH}:mN call G st l d (.pick c x y)=gO st d (Cw (aM G st.sl c) (aM G st.sl x) (aM G st.sl y)):=q_
theorem aF0{g:Bool}{n:Nat}{x:aH}:mN call G st l d (.load g n x)=gO st d (mK st.hp g n (aM G st.sl x)):=q_
theorem aKO{p:Bool}{z:Value}{x y:aH}:mN call G st l d (.mpx p z x y)=gO st d (Ri p z (aM G st.sl x) (aM G st.sl y)):=q_
theorem aF1{x:aH}:mN call G st l d (.nilc x)=gO st d (Mn (aM G st.sl x)):=q_
theorem aKP{c:BinOp}{x y:aH}:mN call G st l d (.bin c x y)=gO st d (fX c (aM G st.sl x) (aM G st.sl y)):=q_
theorem aF2{n:Bool}{x y:aH}:mN call G st l d (.binb n x y)=gO st d (Mm n (aM G st.sl x) (aM G st.sl y)):=q_
theorem aKQ{n:Bool}{c:List EK}{x y:aH}:mN call G st l d (.eqs n c x y)=gO st d (Rh n c (aM G st.sl x) (aM G st.sl y)):=q_
theorem aPF{c:UnOp}{x:aH}:mN call G st l d (.un c x)=gO st d (unV c (aM G st.sl x)):=q_
theorem aF3{k:IntKind}{x:aH}:mN call G st l d (.conv k x)=gO st d (Z3 k (bI (aM G st.sl x))):=q_
theorem aF4{x:aH}:mN call G st l d (.cvbs x)=gO st d (nZ st.hp (aM G st.sl x)):=q_
theorem aF5{o:Nat}{x:aH}:mN call G st l d (.addo o x)=gO st d (F9 o (aM G st.sl x)):=q_
theorem aKR{n z:Nat}{x i:aH}:mN call G st l d (.ixA n z x i)=gO st d (aOM n z (aM G st.sl x) (bI (aM G st.sl i))):=q_
theorem aKS{z:Nat}{x i:aH}:mN call G st l d (.ixL z x i)=gO st d (aJN st.hp z (aM G st.sl x) (bI (aM G st.sl i))):=q_
theorem aKT{n:Nat}{x i:aH}:mN call G st l d (.ixV n x i)=gO st d (aON n (aM G st.sl x) (bI (aM G st.sl i))):=q_
theorem aKU{n:Nat}{x:aH}:mN call G st l d (.s2p n x)=gO st d (aBO n (aM G st.sl x)):=q_
theorem aKV{x i:aH}:mN call G st l d (.ixS x i)=gO st d (aJO (aM G st.sl x) (bI (aM G st.sl i))):=q_
theorem aKW{x:aH}{e c:Option aH}:mN call G st l d (.slS x e c)=gO st d (Lx (aM G st.sl x) (e.map (aM G st.sl)) (c.map (aM G st.sl))):=q_
theorem aKX{z:Nat}{x:aH}{e c:Option aH}:mN call G st l d (.slL z x e c)=gO st d (lM st.hp z (aM G st.sl x) (e.map (aM G st.sl)) (c.map (aM G st.sl))):=q_
theorem aCO{z:List Value}{c:List (Nat×Nat×aH)}:mN call G st l d (.build z c)=gO st d (aJP (iQ (z.map cK) (c.map fun (o,s,x)=>(o,s,aM G st.sl x)))):=q_
theorem aKY{x:aH}{n:Nat}:mN call G st l d (.ext x n)=gO st d (Wk (aM G st.sl x) n):=q_
theorem aF6{x:aH}:mN call G st l d (.lenS x)=gO st d (Z4 (dO (aM G st.sl x))):=q_
theorem aF7{x:aH}:mN call G st l d (.lenL x)=gO st d (tJ (aM G st.sl x)):=q_
theorem aKZ{x y:aH}:mN call G st l d (.min2 x y)=gO st d (aEl (aM G st.sl x) (aM G st.sl y)):=q_
theorem aK0{x y:aH}:mN call G st l d (.max2 x y)=gO st d (aEm (aM G st.sl x) (aM G st.sl y)):=q_
theorem aF8{f:FuncId}{xs:List aH}:mN call G st l d (.mkfn f xs)=gO st d ((xs.mapM fun c=>jF (aM G st.sl c)).map fun cs=>.one (.fn f cs)):=q_
theorem aTZ:drZ call G st d ai false=ldZ call G st d ai:=q_
theorem aT0:drZ call G st d ai true=Ct call G st d ai:=q_
theorem aF9{f:FuncId}{xs:List aH}:ldZ call G st d (.call f xs)=dvK call G d f xs st (call f (Di G st xs) []):=q_
theorem aCP{x:aH}{xs:List aH}:ldZ call G st d (.callv x xs)=cvZ call G d x xs st:=q_
theorem aK1{z b:Nat}{c:List Value}{s x:aH}:ldZ call G st d (.app z b c s x)=apZ d z b st (aM G st.sl s) (aM G st.sl x):=q_
theorem aGa{z b:Nat}{c:List Value}{ps:List (Nat×aH)}:ldZ call G st d (.bslc z b c ps)=bsO G st d z b c ps:=q_
theorem aCQ{z:List Value}:ldZ call G st d (.alloc z)=some ⟨aR st.sl d (.one (.ptr st.hp.length 0)),st.hp++[.box (z.map cK)]⟩:=q_
theorem aCR{n:Nat}{x v:aH}:ldZ call G st none (.store n x v)=stX G st n x v:=q_
theorem aK2{z:Nat}{x:aH}{e c:Option aH}:Ct call G st d (.slL z x e c)=gO st d (lM [] z (aM G st.sl x) (e.map (aM G st.sl)) (c.map (aM G st.sl))):=q_
theorem aK3{x:aH}:Ct call G st d (.mov x)=some ⟨aR st.sl d (aM G st.sl x),st.hp⟩:=q_
theorem aGb{c x y:aH}:Ct call G st d (.pick c x y)=gO st d (Cw (aM G st.sl c) (aM G st.sl x) (aM G st.sl y)):=q_
theorem aGc{g:Bool}{n:Nat}{x:aH}:Ct call G st d (.load g n x)=gO st d (mK st.hp g n (aM G st.sl x)):=q_
theorem aK4{p:Bool}{z:Value}{x y:aH}:Ct call G st d (.mpx p z x y)=gO st d (Ri p z (aM G st.sl x) (aM G st.sl y)):=q_
theorem aGd{x:aH}:Ct call G st d (.nilc x)=gO st d (Mn (aM G st.sl x)):=q_
theorem aK5{c:BinOp}{x y:aH}:Ct call G st d (.bin c x y)=gO st d (fX c (aM G st.sl x) (aM G st.sl y)):=q_
theorem aGe{n:Bool}{x y:aH}:Ct call G st d (.binb n x y)=gO st d (Mm n (aM G st.sl x) (aM G st.sl y)):=q_
theorem aK6{n:Bool}{c:List EK}{x y:aH}:Ct call G st d (.eqs n c x y)=gO st d (Rh n c (aM G st.sl x) (aM G st.sl y)):=q_
theorem aPG{c:UnOp}{x:aH}:Ct call G st d (.un c x)=gO st d (unV c (aM G st.sl x)):=q_
theorem aGf{k:IntKind}{x:aH}:Ct call G st d (.conv k x)=gO st d (Z3 k (bI (aM G st.sl x))):=q_
theorem aGg{o:Nat}{x:aH}:Ct call G st d (.addo o x)=gO st d (F9 o (aM G st.sl x)):=q_
theorem aK7{z:Nat}{x i:aH}:Ct call G st d (.ixL z x i)=gO st d (aJN st.hp z (aM G st.sl x) (bI (aM G st.sl i))):=q_
theorem aK8{x i:aH}:Ct call G st d (.ixS x i)=gO st d (aJO (aM G st.sl x) (bI (aM G st.sl i))):=q_
theorem aK9{x:aH}{e c:Option aH}:Ct call G st d (.slS x e c)=gO st d (Lx (aM G st.sl x) (e.map (aM G st.sl)) (c.map (aM G st.sl))):=q_
theorem aCS{z:List Value}{c:List (Nat×Nat×aH)}:Ct call G st d (.build z c)=gO st d (aJP (iQ (z.map cK) (c.map fun (o,s,x)=>(o,s,aM G st.sl x)))):=q_
theorem aLa{x:aH}{n:Nat}:Ct call G st d (.ext x n)=gO st d (Wk (aM G st.sl x) n):=q_
theorem aGh{x:aH}:Ct call G st d (.lenS x)=gO st d (Z4 (dO (aM G st.sl x))):=q_
theorem aGi{x:aH}:Ct call G st d (.lenL x)=gO st d (tJ (aM G st.sl x)):=q_
theorem aXX{c b:Bool}:gK b (.one (.dc (.raw (.bool c))))=some (eqb c b):=q_
theorem aLb{b:Bool}:gK b (.tup [])=some false:=q_
theorem aGj(c:Bool):eqb c true=c:=by cases c<;>rfl
theorem aCT(c:Bool):eqb c false=!c:=by cases c<;>rfl
theorem aPH{v:AV}:gO st d (some v)=some ⟨aR st.sl d v,st.hp⟩:=q_
end
theorem aLc{x y:AV}:Cw (.one (.dc (.raw (.bool true)))) x y=some x:=q_
theorem aLd{x y:AV}:Cw (.one (.dc (.raw (.bool false)))) x y=some y:=q_
theorem aCU{p:Prop}[Decidable p]{x y:AV}(h:p):Cw (.one (.dc (.raw (.bool (decide p))))) x y=some x:=by rw[decide_eq_true h];rfl
theorem aCV{p:Prop}[Decidable p]{x y:AV}(h:¬ p):Cw (.one (.dc (.raw (.bool (decide p))))) x y=some y:=by rw[decide_eq_false h];rfl
section
variable {k:IntKind}{x y:Int}
theorem aLe:fX .add (.one (.dc (.raw (.int k x)))) (.one (.dc (.raw (.int k y))))=some (.one (.dc (.raw (.int k (k.wrap (x+y)))))):=by simp[fX,lQ]
theorem aLf:fX .sub (.one (.dc (.raw (.int k x)))) (.one (.dc (.raw (.int k y))))=some (.one (.dc (.raw (.int k (k.wrap (x-y)))))):=by simp[fX,lQ]
theorem aLg:fX .mul (.one (.dc (.raw (.int k x)))) (.one (.dc (.raw (.int k y))))=some (.one (.dc (.raw (.int k (k.wrap (x*y)))))):=by simp[fX,lQ]
theorem aLh:fX .eql (.one (.dc (.raw (.int k x)))) (.one (.dc (.raw (.int k y))))=some (.one (.dc (.raw (.bool (decide (x=y)))))):=by simp[fX,lQ,Bool.beq_eq_decide_eq]
theorem aLi:fX .neq (.one (.dc (.raw (.int k x)))) (.one (.dc (.raw (.int k y))))=some (.one (.dc (.raw (.bool (decide (x≠y)))))):=by
 simp only[fX,lQ,if_true,aZF,dX];congr 5;rw[bA1];simp
theorem aLj:fX .lss (.one (.dc (.raw (.int k x)))) (.one (.dc (.raw (.int k y))))=some (.one (.dc (.raw (.bool (decide (x<y)))))):=by simp[fX,lQ]
theorem aLk:fX .leq (.one (.dc (.raw (.int k x)))) (.one (.dc (.raw (.int k y))))=some (.one (.dc (.raw (.bool (decide (x<=y)))))):=by simp[fX,lQ]
theorem aLl:fX .gtr (.one (.dc (.raw (.int k x)))) (.one (.dc (.raw (.int k y))))=some (.one (.dc (.raw (.bool (decide (y<x)))))):=by simp[fX,lQ]
theorem aLm:fX .geq (.one (.dc (.raw (.int k x)))) (.one (.dc (.raw (.int k y))))=some (.one (.dc (.raw (.bool (decide (y<=x)))))):=by simp[fX,lQ]
end
theorem aLn{x y:ByteArray}:fX .eql (.one (.dc (.raw (.string x)))) (.one (.dc (.raw (.string y))))=some (.one (.dc (.raw (.bool (decide (x=y)))))):=by
 simp only[fX,Ij,aZF,dX];congr 5;rw[bA1];simp[ByteArray.toList_eq,ByteArray.ext_iff,Array.ext_iff]
theorem aPI{c:Bool}:unV .not (.one (.dc (.raw (.bool c))))=some (.one (.dc (.raw (.bool (!c))))):=q_
theorem aXY(b:Bool):(b==true)=b:=by cases b<;>rfl
theorem aXZ(b:Bool):(b==false)=!b:=by cases b<;>rfl
theorem aX0(a b:Int):(a==b)=decide (a=b):=by rw[bA1];simp
theorem aLo{p q:Prop}[Decidable p][Decidable q]:(decide p&&decide q)=decide (p/\q):=by simp
theorem aPJ{p q:Prop}[Decidable p][Decidable q]:(decide p||decide q)=decide (p\/q):=by simp
theorem aLp{p:Prop}[Decidable p]:(!decide p)=decide (¬ p):=by simp
theorem jH{α:Type}{f:α->List DC}{n:Nat}(h:∀x,(f x).length=n)(l:List α):gG n (l.map f)=true:=by
 induction l with
 |nil=>rfl
 |cons x l c=>simp[gG,c,h,jK]
theorem kF{α c:Type}{f:α->c}{l:List α}:List.take l.length (l.map f)=l.map f:=aZ6 (by simp)
noncomputable def aGk(c:Bool)(e:List lC)(n:Nat)(s:AS):Bool->Option (AV×List aD)
 |true=>Xk c n s.hp (tQ s e)
 |false=>none
theorem aPK{c:Bool}{e:List lC}{n:Nat}:qC c e n (some (.ret,s))=aGk c e n s (decide (n<=s.hp.length)):=by
 by_cases h:n<=s.hp.length<;>simp[qC,M4,h,aGk]
theorem aPL{c:Bool}{e:List lC}{n:Nat}:qC c e n (some (.normal,s))=aGk c e n s (decide (n<=s.hp.length)):=by
 by_cases h:n<=s.hp.length<;>simp[qC,M4,h,aGk]
theorem aPM{c:Bool}{e:List lC}{n:Nat}:aGk c e n s true=Xk c n s.hp (tQ s e):=q_
def aPN(n:Nat)(hp:List aD)(v:AV):Bool->AV×List aD
 |true=>(G3 v,hp.take n)
 |false=>(G3 v,hp)
theorem aPO{n:Nat}{hp:List aD}{v:AV}:Xk true n hp (some v)=some (aPN n hp v (dH (fun id=>decide (n<=id)) v&&(hp.take n).all (pE fun id=>decide (n<=id)))):=by
 simp only[Xk,aO8,cond_true];cases (dH (fun id=>decide (n<=id)) v&&(hp.take n).all (pE fun id=>decide (n<=id)))<;>rfl
theorem aPP{n:Nat}{hp:List aD}{v:AV}:aPN n hp v true=(G3 v,hp.take n):=q_
theorem aPQ{n:Nat}{hp:List aD}{v:AV}:aPN n hp v false=(G3 v,hp):=q_
def aT1(n:Nat)(st:AS):AV×List aD:=(G3 (bG (fun id=>decide (n<=id)) (st.sl.getD 0 .junk)),(st.hp.take n).map (cU fun id=>decide (n<=id)))
theorem aPR{n:Nat}{hp:List aD}{v:AV}:Xk false n hp (some v)=some (aT1 n (bX (jV v) (bxW n (jV v) ⟨[v],hp⟩ (Xd v)))):=q_
theorem aT2{n:Nat}{c:List Nat}:bxW n c st true=Dg n c st:=q_
theorem aT3{n:Nat}{c:List Nat}:bxW n c st false=st:=q_
theorem aT4{id:Nat}{cs:List aV}:bx1 id st (.box cs) true=bxB id cs st:=q_
theorem aT5{id:Nat}{o:aD}:bx1 id st o false=st:=by cases o<;>rfl
def aT6:Option TV->Option (List TV)->Option (List TV)
 |some a,some l=>some (a::l)
 |_,_=>none
def aCW(st:AS):List lC->Option (List TV)
 |[]=>some []
 |r::c=>aT6 ((gT st r).bind tP) (aCW st c)
theorem aPS{a:TV}{l:List TV}:aT6 (some a) (some l)=some (a::l):=q_
theorem aAF(st:AS):∀c:List lC,c.mapM (fun r=>(gT st r).bind tP)=aCW st c
 |[]=>rfl
 | r::c=>by
  rw[bAA,aAF st c,aCW];cases (gT st r).bind tP<;>cases aCW st c<;>rfl
theorem aPT{st:AS}:tQ st []=some (.tup []):=q_
theorem aPU{st:AS}{r:lC}:tQ st [r]=gT st r:=q_
theorem aPV{st:AS}{r q:lC}{c:List lC}:tQ st (r::q::c)=(aCW st (r::q::c)).map .tup:=by
 rw[<- aAF];rfl
theorem aB{G:aF}{T:HT}{f:FuncId}{h:HF}{c:List AV}{hp:List aD}{r:AV×List aD}(e:T.tab f=some h)(g:qC h.own h.rs hp.length (EC (EV G T) G h.code ⟨c++tK (h.nt-c.length),hp⟩)=some r):EV G T f c hp=some r:=aNX e g
end
section
variable {call:aO}{G:aF}{st:AS}{d:Option Nat}{f:FuncId}{xs:List aH}{av:AV}{os:List aD}{o:aD}
def aPW(call:aO)(G:aF)(d:Option Nat)(f:FuncId)(xs:List aH)(st:AS):Bool->Option AS
 |true=>vwK call G d f xs st (call f (G5 G st xs) [])
 |false=>lE (lI call) d f (xs.map (aM G (bX (mM G st.sl xs) st).sl)) (bX (mM G st.sl xs) st)
def aPX(call:aO)(G:aF)(d:Option Nat)(f:FuncId)(xs:List aH)(st:AS)(av:AV):Bool->Option AS
 |true=>some ⟨aR st.sl d av,st.hp⟩
 |false=>Xg call G d f xs (bX (mM G st.sl xs) st)
def aT7(call:aO)(G:aF)(d:Option Nat)(f:FuncId)(xs:List aH)(st:AS)(av:AV):Bool->Option AS
 |true=>some ⟨aR st.sl d av,st.hp⟩
 |false=>dnZ call G d f xs st
def aT8(call:aO)(G:aF)(d:Option Nat)(f:FuncId)(xs:List aH)(st:AS):Bool->Option AS
 |true=>nwK d st (call f (lG G st.sl xs) [])
 |false=>none
def aT9(call:aO)(G:aF)(d:Option Nat)(f:FuncId)(xs:List aH)(st:AS):Bool->Option AS
 |true=>qcK d st (call f (lG G st.sl xs) [])
 |false=>none
theorem aUa:clZ call G d f xs st=aPW call G d f xs st (sM G st.sl xs):=by unfold clZ;cases sM G st.sl xs<;>rfl
theorem aPY:aPW call G d f xs st true=vwK call G d f xs st (call f (G5 G st xs) []):=q_
theorem aPZ:aPW call G d f xs st false=lE (lI call) d f (xs.map (aM G (bX (mM G st.sl xs) st).sl)) (bX (mM G st.sl xs) st):=q_
theorem aUb:Xg call G d f xs st=aT8 call G d f xs st ((lG G st.sl xs).all (dH fun _=>true)):=by unfold Xg;cases (lG G st.sl xs).all (dH fun _=>true)<;>rfl
theorem aP0:aT8 call G d f xs st true=nwK d st (call f (lG G st.sl xs) []):=q_
theorem aUc:Ct call G st d (.call f xs)=aT9 call G d f xs st ((lG G st.sl xs).all (dH fun _=>true)):=by rw[Ct];cases (lG G st.sl xs).all (dH fun _=>true)<;>rfl
theorem aP1:aT9 call G d f xs st true=qcK d st (call f (lG G st.sl xs) []):=q_
theorem aP2:aPX call G d f xs st av true=some ⟨aR st.sl d av,st.hp⟩:=q_
theorem aP3:aPX call G d f xs st av false=Xg call G d f xs (bX (mM G st.sl xs) st):=q_
theorem aP4:aT7 call G d f xs st av true=some ⟨aR st.sl d av,st.hp⟩:=q_
theorem aUd:vwK call G d f xs st (some (av,[]))=aPX call G d f xs st av (mL av):=by rw[vwK];cases mL av<;>rfl
theorem aUe:vwK call G d f xs st (some (av,o::os))=Xg call G d f xs (bX (mM G st.sl xs) st):=q_
theorem aUf:dvK call G d f xs st (some (av,[]))=aT7 call G d f xs st av (mL av):=by rw[dvK];cases mL av<;>rfl
theorem aUg:nwK d st (some (av,os))=some ⟨aR st.sl d (dP (cQ [] st.hp.length) av),st.hp++os.map (fA (cQ [] st.hp.length))⟩:=q_
theorem aUh:qcK d st (some (av,[]))=bif dH (fun _=>true) av then some ⟨aR st.sl d av,st.hp⟩ else none:=q_
theorem aUi:qcK d st (some (av,o::os))=qcF d st (bG (fun id=>decide (0<=id)) ((bX (jV av) ⟨[av],o::os⟩).sl.getD 0 .junk)):=q_
theorem aUj{c:List aV}:cvK call G d xs st (.one (.fn f c))=lE (lI call) d f (xs.map (aM G st.sl)++c.map AV.one) st:=q_
theorem aUk{size bytes id n:Nat}{x:AV}:apZ d size bytes st (.one (.bld id n)) x=apB d size bytes st id n (aL st.hp id) (sF st.hp x):=q_
theorem aUl{size bytes id n c sz:Nat}{es e:List (List DC)}:apB d size bytes st id n (.arr c sz es) (some e)=if sz=size/\n<=es.length/\gG size e=true/\(n+e.length)*bytes<=140737488355328 then some ⟨aR (klS id st.sl) d (.one (.bld id (n+e.length))),(klH id st.hp).set id (.arr 0 size (es.take n++e))⟩ else none:=rfl
theorem aUm{size bytes:Nat}{c:List (List DC)}:apN d size bytes st (some c)=if gG size c=true/\c.length*bytes<=140737488355328 then some ⟨aR st.sl d (.one (.bld st.hp.length c.length)),klH st.hp.length st.hp++[.arr 0 size c]⟩ else none:=rfl
theorem aUn{size len:Nat}{cs:List aV}{c:List DC}:bsP st d size len cs (some c)=if c.length=len*size then some ⟨aR st.sl d (.one (.bld st.hp.length len)),st.hp++[.arr 0 size (gD size len c)]⟩ else none:=q_
theorem aUo{size len:Nat}{cs:List aV}:bsP st d size len cs none=if size=1 then some ⟨aR st.sl d (.one (.bls st.hp.length 0 len 1)),st.hp++[.box cs]⟩ else none:=q_
theorem aLq{a b:Nat}{cs:List aV}:dcs (.ptr a b::cs)=none:=rfl
theorem aUp{size len:Nat}{z:List Value}{ps:List (Nat×aH)}:bsZ G st d size len z ps true=bsX G (bX (Jg G st.sl ps) st) d size len z ps:=q_
theorem aUq{size len:Nat}{z:List Value}{ps:List (Nat×aH)}:bsZ G st d size len z ps false=bsO G (bX (Jg G st.sl ps) st) d size len z ps:=q_
theorem aUr{id c s:Nat}{es:List (List DC)}:bvZ id st (.arr c s es)=bv1 id s es st es.isEmpty:=q_
theorem aUs{id s:Nat}{es:List (List DC)}:bv1 id s es st true=bX [id] st:=q_
theorem aUt{id s:Nat}{es:List (List DC)}:bv1 id s es st false=bvB id s es st:=q_
theorem aUu{i sz:Nat}:ghN i sz st (.one (.dc (.raw (.slice none 0 0))))=⟨st.sl.set i (.one (.bld st.hp.length 0)),st.hp++[.arr 0 sz []]⟩:=q_
theorem aUv{j sz id off:Nat}:ghB j sz st (.one (.ptr id off))=aJ6 id (off+j) sz st (aL st.hp id):=q_
theorem aP5{id j sz:Nat}{cs:List aV}:aJ6 id j sz st (.box cs)=aJ5 id j sz cs st cs[j]?:=q_
theorem aP6{id j sz:Nat}{cs:List aV}:aJ5 id j sz cs st (some (.dc (.raw (.slice none 0 0))))=⟨st.sl,st.hp.set id (.box (cs.set j (.bld st.hp.length 0)))++[.arr 0 sz []]⟩:=q_
def sbK(n:Nat):aD->Option (List (List DC))
 |.arr _ _ es=>if n<=es.length then some (es.take n) else none
 |_=>none
theorem aP7{hp:List aD}{id n:Nat}:sF hp (.one (.bld id n))=sbK n (aL hp id):=by
 simp only[sF];cases aL hp id<;>rfl
theorem aUw{n c z:Nat}{es:List (List DC)}:sbK n (.arr c z es)=if n<=es.length then some (es.take n) else none:=q_
theorem aP8{hp:List aD}{es:List (List DC)}:sF hp (.one (.dc (.slc es)))=some es:=q_
end
section
variable {k:IntKind}{x y:Int}
theorem aLr:fX .quo (.one (.dc (.raw (.int k x)))) (.one (.dc (.raw (.int k y))))=if y=0 then none else some (.one (.dc (.raw (.int k (k.wrap (x.tdiv y)))))):=by
 simp only[fX,lQ,if_true];split<;>rfl
theorem aLs:fX .rem (.one (.dc (.raw (.int k x)))) (.one (.dc (.raw (.int k y))))=if y=0 then none else some (.one (.dc (.raw (.int k (x.tmod y))))):=by
 simp only[fX,lQ,if_true];split<;>rfl
def Xt(k:IntKind)(x y:Int):Int:=k.wrap (BitVec.ofInt k.bits x &&& BitVec.ofInt k.bits y).toNat
def Xu(k:IntKind)(x y:Int):Int:=k.wrap (BitVec.ofInt k.bits x ||| BitVec.ofInt k.bits y).toNat
theorem aLt:fX .and (.one (.dc (.raw (.int k x)))) (.one (.dc (.raw (.int k y))))=some (.one (.dc (.raw (.int k (Xt k x y))))):=by simp[fX,lQ,Xt]
theorem aP9:fX .or (.one (.dc (.raw (.int k x)))) (.one (.dc (.raw (.int k y))))=some (.one (.dc (.raw (.int k (Xu k x y))))):=by simp[fX,lQ,Xu]
theorem aLu{j:IntKind}(h:0<=y):fX .shl (.one (.dc (.raw (.int j x)))) (.one (.dc (.raw (.int k y))))=some (.one (.dc (.raw (.int j (j.wrap (x*2 ^ (min y.toNat j.bits))))))):=by
 simp only[fX];rw[if_neg (by omega)]
theorem aLv{j:IntKind}(h:0<=y):fX .shr (.one (.dc (.raw (.int j x)))) (.one (.dc (.raw (.int k y))))=some (.one (.dc (.raw (.int j (x.fdiv (2 ^ (min y.toNat j.bits))))))):=by
 simp only[fX];rw[if_neg (by omega)]
theorem aQa:unV .neg (.one (.dc (.raw (.int k x))))=some (.one (.dc (.raw (.int k (k.wrap (0-x)))))):=q_
theorem Dn{a b:ByteArray}(h:a.size+b.size<=9223372036854775807):fX .add (.one (.dc (.raw (.string a)))) (.one (.dc (.raw (.string b))))=some (.one (.dc (.raw (.string (a++b))))):=by
 simp only[fX,Ij];rw[if_pos h];rfl
theorem Jr{x y:ByteArray}:(x.toList==y.toList)=decide (x=y):=by
 rw[bA1];simp[ByteArray.toList_eq,ByteArray.ext_iff,Array.ext_iff]
theorem aGl{x y:ByteArray}:fX .neq (.one (.dc (.raw (.string x)))) (.one (.dc (.raw (.string y))))=some (.one (.dc (.raw (.bool (decide (x≠y)))))):=by
 simp only[fX,Ij,aZF,dX,Jr];congr 5;simp
end
section
variable {call:aO}{G:aF}{st s s':AS}{l:List aN}
variable {r:Nat}{prs:List (Nat×Nat)}{acc:List FP}{d:Option Nat}{ai:AI}{f:FP}{R:List Nat}
def fvK(call:aO)(G:aF)(prs:List (Nat×Nat))(acc:List FP)(r:Nat)(l:List aN):Option (AS×FP)->Option AS
 |some (s,f)=>Xj call G prs (acc++[f]) r l (some s)
 |none=>none
theorem aCX{ops:List aN}:EC call G (.drawnF prs ops) st=nrm (Xj call G prs [] st.hp.length ops (some ⟨st.sl,st.hp++Dj (nAl ops)⟩)):=q_
theorem aLw:Xj call G prs acc r [] (some st)=bif L4 prs acc then some st else none:=q_
theorem aUx{g:Option (Nat×Bool)}{l:List aN}:Xj call G prs acc r (⟨d,ai,g⟩::l) (some st)=fvK call G prs acc (bif aCC ai then r+1 else r) l (fvO call G st d r ai g):=by rw[Xj];cases fvO call G st d r ai g<;>rfl
theorem aUy{l:List aN}:fvK call G prs acc r l (some (st,f))=Xj call G prs (acc++[f]) r l (some st):=q_
theorem aUz:fvO call G st d r ai none=L3 call G st d r ai:=q_
theorem aCY{z:List Value}:L3 call G st d r (.alloc z)=fvN d r z st st.hp[r]?:=q_
theorem aUA{z:List Value}:fvN d r z st (some .dead)=some (⟨aR st.sl d (.one (.ptr r 0)),st.hp.set r (.box (z.map cK))⟩,[r],[]):=q_
theorem aCZ{n:Nat}{x v:aH}:L3 call G st d r (.store n x v)=fvS d n st (aM G st.sl x) (cellsOf (aM G st.sl v)):=q_
theorem aUB{n id off:Nat}{vs:List aV}:fvS none n st (.one (.ptr id off)) (some vs)=fvT n id off vs st st.hp[id]?:=q_
theorem aN0{n id off:Nat}{vs cs:List aV}(c:vs.length=n)(e:off+n<=cs.length):fvT n id off vs st (some (.box cs))=some (⟨st.sl,st.hp.set id (.box (dA cs off vs))⟩,[id],[id]):=if_pos ⟨c,e⟩
theorem aGm{f:FuncId}{xs:List aH}:L3 call G st d r (.call f xs)=fvC call G st d f xs ((xs.map (aM G st.sl)).flatMap jV):=q_
theorem aGn{x y:aH}:L3 call G st d r (.cpys x y)=fvY d st (aM G st.sl x) (dO (aM G st.sl y)):=q_
theorem aUC{id c n:Nat}{bs:ByteArray}:fvY d st (.one (.bls id c n 1)) (some bs)=aKb d id c n bs st st.hp[id]?:=by simp only[fvY,if_true]
theorem aQb{id c n:Nat}{bs:ByteArray}{cs:List aV}(h:c+n<=cs.length):aKb d id c n bs st (some (.box cs))=some (⟨aR st.sl d (dX (.int .i64 (min bs.size n:Nat))),st.hp.set id (.box (dA cs c (fG (bs.data.toList.take n))))⟩,[id],[id]):=if_pos h
theorem aUD{f:FuncId}{xs:List aH}:fvC call G st d f xs []=Wg [] (Ct call G st d (.call f xs)):=q_
theorem aUE{f:FuncId}{xs:List aH}{id:Nat}:fvC call G st d f xs [id]=fvB call d f st (xs.map (aM G st.sl)) id st.hp[id]?:=q_
theorem aUF:Wg R (some s)=some (s,[],R):=q_
theorem aUG{c:aV}:Rd (.one c)=fpC c:=q_
theorem aUH{sl:List AV}:fpA G sl []=[]:=q_
theorem aUI{sl:List AV}{x:aH}{xs:List aH}:fpA G sl (x::xs)=Rd (aM G sl x)++fpA G sl xs:=q_
theorem aUJ:nAl []=0:=q_
theorem aUK{g:Option (Nat×Bool)}{l:List aN}:nAl (⟨d,ai,g⟩::l)=bif aCC ai then nAl l+1 else nAl l:=q_
theorem aLx:Dj 0=[]:=q_
theorem aLy:Dj 3=[.dead,.dead,.dead]:=q_
theorem aQc{c:List FP}:L4 [] c=true:=q_
theorem aQd{p q:Nat}{c:List FP}:L4 ((p,q)::prs) c=(dsM (atF c p) (atF c q)&&L4 prs c):=q_
theorem aUL{a b c e:List Nat}:dsM (a,b) (c,e)=(G8 a e&&(G8 a c&&G8 c b)):=q_
theorem aQe{b:List Nat}:G8 [] b=true:=q_
theorem aQf{x:Nat}{a b:List Nat}:G8 (x::a) b=(!Su b x&&G8 a b):=q_
theorem aQg{x:Nat}:Su [] x=false:=q_
theorem aQh{x y:Nat}{a:List Nat}:Su (y::a) x=(nq x y||Su a x):=q_
theorem aUM{c:List FP}:atF (f::c) 0=f:=q_
theorem aUN{c:List FP}{n:Nat}:atF (f::c) (n+1)=atF c n:=q_
theorem aLz{x:aH}:L3 call G st d r (.mov x)=Wg (fpA G st.sl [x]) (mN call G st [] d (.mov x)):=q_
theorem aGo{g:Bool}{n:Nat}{x:aH}:L3 call G st d r (.load g n x)=Wg (fpA G st.sl [x]) (mN call G st [] d (.load g n x)):=q_
theorem aLA{c:BinOp}{x y:aH}:L3 call G st d r (.bin c x y)=Wg (fpA G st.sl [x,y]) (mN call G st [] d (.bin c x y)):=q_
theorem aGp{o:Nat}{x:aH}:L3 call G st d r (.addo o x)=Wg (fpA G st.sl [x]) (mN call G st [] d (.addo o x)):=q_
theorem aLB{z:Nat}{x:aH}{e c:Option aH}:L3 call G st d r (.slL z x e c)=Wg (fpA G st.sl (x::(e.toList++c.toList))) (mN call G st [] d (.slL z x e c)):=q_
end
attribute [go_sem] aCX aLw aUx aUy aUz aCY aUA aCZ aUB aN0 aGn aUC aQb aGm aUD aUE aUF aUG aUH aUI aUJ aUK aLx aLy aQc aQd aUL aQe aQf aQg aQh aUM aUN fpC aCC aLz aGo aLA aGp aLB
attribute [go_sem] aKt aPm aKu aCI aFO Xr aKw aFP aKx aTD aFQ aNZ aTE aTF aTG aTH aKy aKz aPn aPo aPp aTI aTJ aTK aTL aKB aTM aTP aTQ aTR aTS aKF aKG aTT aTU aKH aKI aTV aTW aFT aPx
attribute [go_sem] aUr aUs aUt Ss bvB bvC Sr bvV bvT bvS bvO bvH
attribute [go_sem] aT2 aT3 aT4 aT5 Dg bxB bxV bxT bxC bxD bxO Xd aJ3 aAb aSY aFm
attribute [go_sem] aCK aKC aPr aPs aPt aKE iR
attribute [go_sem] aPw Di aKO aK4 aFV aFW aCx aPz aPA aPE aPB aFX aCy aPC aTY aKK aKv aFS aPu aTN aTO aPv kL Pn Sl aCw aPD aKL mkZ aTX aPy aFU aCL aKJ aFY aCM aKM aCN aKN aFZ aF0 aF1 aKP aF2 aKQ aPF aF3 aF4 aF5 aKR aKS aKV aKW aKX aCO aKY aF6 aF7 aKZ aK0 aF8
attribute [go_sem] aTZ aT0 aF9 aCP aK1 aGa aCQ aCR aK2 aK3 aGb aGc aGd aK5 aGe aK6 aPG aGf aGg aK7 aK8 aK9 aCS aLa aGh aGi aXX aLb aGj aCT aPH aLc aLd aCU aCV aLe aLf aLg aLh aLi aLj aLk aLl aLm aLn aPI aLo aPJ aLp
attribute [go_sem] aX0 and_false false_and or_false false_or or_true true_or bAE bAp Bool.or_true Bool.or_false not_true_eq_false not_false_eq_true List.flatMap_cons List.flatMap_nil aXY aXZ Cg gG kF aPK aPL aPM aXW aPq aCJ Xs jk aKA aAE aPO aPP aPQ aT1 aPR
attribute [go_sem] aUn aUo aLq aKT aKU
attribute [go_sem] aO0 aCu aUa aPY aPZ aUb aP0 aUc aP1 aP2 aP3 aP4 aUd aUe aUf aUg aUh aUi qcF List.getD_cons_zero aUj aUk aUl aUm aUp aUq aUu aUv aP5 aP6 aP8 aP7 aUw aLr aLs aLt aP9 aLu aLv aQa Dn aGl ghE klC Pm klV klS klO klH Xf aFq sM G5 lG aOY aFo aFp mM lI cvZ isT aO1 aNW aO2 aJ9 Jg bsO ctC Ha ctV ctO ctH ctS kO bX mJ lB iW jV aE3 idsL aSQ dH keepL Gi pE aV.keep bG cN uD cU dP kD It renL fA cQ Cd tK aPS aCW aPT aPU aPV tP gT
end
section
def kG(x:Nat):List Nat->Bool
 |[]=>false
 |j::J=>nq x j||kG x J
theorem Hu(x:Nat):∀J:List Nat,kG x J=J.contains x
 |[]=>rfl
 |j::J=>by rw[kG,List.contains_cons,Hu x J,jK]
def rcB(hp:List aD)(n id:Nat)(c J:List Nat):Bool->List Nat
 |true=>uR hp n c J
 |false=>uR hp n (aJJ (aL hp id)++c) (J++[id])
theorem aC0{hp:List aD}{n:Nat}{J:List Nat}:uR hp n [] J=J:=by cases n<;>rfl
theorem aLC{hp:List aD}{n id:Nat}{c J:List Nat}:uR hp (n+1) (id::c) J=rcB hp n id c J (kG id J):=by
 rw[uR,Hu];cases J.contains id<;>rfl
theorem aUO{hp:List aD}{n id:Nat}{c J:List Nat}:rcB hp n id c J false=uR hp n (aJJ (aL hp id)++c) (J++[id]):=q_
def S8:List Nat->Bool
 |[]=>true
 |j::J=>!kG j J&&S8 J
theorem aAG:∀J:List Nat,S8 J=oF (fun i j=>i != j) J
 |[]=>rfl
 | j::J=>by
  rw[S8,oF,aAG J,Hu];congr 1
  induction J with
  | nil=>rfl
  | cons i J c=>simp only[List.contains_cons,List.all_cons,Bool.not_or,c];rfl
def kpC(J:List Nat):aV->Bool
 |.ptr id _=>kG id J
 |.bld id _=>kG id J
 |.ept id _ _ _=>kG id J
 |.bls id _ _ _=>kG id J
 |.fn f c=>(aV.fn f c).keep (lD J)
 |.dc _=>true
 |.ref _=>true
 |.mpc _=>true
 |.junk=>true
def Do(J:List Nat):List aV->Bool
 |[]=>true
 |c::cs=>kpC J c&&Do J cs
def kpV(J:List Nat):AV->Bool
 |.one c=>kpC J c
 |.agg cs=>Do J cs
 |.tup l=>l.all (Gi (lD J))
 |.junk=>true
def Pt(J:List Nat):List AV->Bool
 |[]=>true
 |v::vs=>kpV J v&&Pt J vs
def kpO(J:List Nat):aD->Bool
 |.box cs=>Do J cs
 |.arr _ _ _=>true
 |.dead=>true
def kpH(J:List Nat)(hp:List aD):List Nat->Bool
 |[]=>true
 |j::l=>decide (j<hp.length)&&kpO J (aL hp j)&&kpH J hp l
theorem aGq(J:List Nat)(c:aV):kpC J c=c.keep (lD J):=by
 cases c<;>simp[kpC,aV.keep,lD,Hu]
theorem Pu(J:List Nat):∀cs,Do J cs=keepL (lD J) cs
 |[]=>rfl
 |c::cs=>by rw[Do,keepL,aGq,Pu J cs]
theorem aQi(J:List Nat)(v:AV):kpV J v=dH (lD J) v:=by
 cases v<;>simp[kpV,dH,aGq,Pu]
theorem Pv(J:List Nat):∀vs,Pt J vs=vs.all (dH (lD J))
 |[]=>rfl
 |v::vs=>by rw[Pt,List.all_cons,aQi,Pv J vs]
theorem aQj(J:List Nat)(o:aD):kpO J o=pE (lD J) o:=by
 cases o<;>simp[kpO,pE,Pu]
theorem aGr(J:List Nat)(hp:List aD):∀l,kpH J hp l=l.all fun j=>decide (j<hp.length)&&pE (lD J) (aL hp j)
 |[]=>rfl
 |j::l=>by rw[kpH,List.all_cons,aQj,aGr J hp l]
def arB(j:Nat)(l:List Nat):aD->List Nat
 |.box _=>l
 |_=>j::l
def arJ(hp:List aD):List Nat->List Nat
 |[]=>[]
 |j::J=>arB j (arJ hp J) (aL hp j)
def kaC(A:List Nat):aV->aV
 |.dc d=>.dc d
 |.ref cs=>.ref cs
 |.mpc es=>.mpc es
 |.junk=>.junk
 |.ptr j o=>bif kG j A then .junk else .ptr j o
 |.bld j n=>bif kG j A then .junk else .bld j n
 |.ept j i s o=>bif kG j A then .junk else .ept j i s o
 |.bls j i s o=>bif kG j A then .junk else .bls j i s o
 |.fn f c=>cN (fun id=>kG id A) (.fn f c)
def aC1(A:List Nat):List aV->List aV
 |[]=>[]
 |c::cs=>kaC A c::aC1 A cs
def kaV(A:List Nat):AV->AV
 |.one c=>.one (kaC A c)
 |.agg cs=>.agg (aC1 A cs)
 |.tup l=>.tup (l.map (uD fun id=>kG id A))
 |.junk=>.junk
def kaS(A:List Nat):List AV->List AV
 |[]=>[]
 |v::vs=>kaV A v::kaS A vs
def kaO(A:List Nat):aD->aD
 |.box cs=>.box (aC1 A cs)
 |.arr c s es=>.arr c s es
 |.dead=>.dead
def kaH(A:List Nat):List aD->List aD
 |[]=>[]
 |o::os=>kaO A o::kaH A os
theorem aGs(A:List Nat)(c:aV):kaC A c=cN (fun id=>kG id A) c:=by
 cases c<;>simp only[kaC,cN,aV.keep,if_true]
 case ptr j o=>
  by_cases h:kG j A=true;simp[h];simp[h,(bA2.2 h:kG j A=false)]
 case bld j n=>
  by_cases h:kG j A=true;simp[h];simp[h,(bA2.2 h:kG j A=false)]
 case ept j i s o=>
  by_cases h:kG j A=true;simp[h];simp[h,(bA2.2 h:kG j A=false)]
 case bls j i s o=>
  by_cases h:kG j A=true;simp[h];simp[h,(bA2.2 h:kG j A=false)]
theorem Pw(A:List Nat):∀cs,aC1 A cs=cs.map (cN fun id=>kG id A)
 |[]=>rfl
 |c::cs=>by simp[aC1,aGs,Pw A cs]
theorem aQl(A:List Nat)(v:AV):kaV A v=bG (fun id=>kG id A) v:=by
 cases v<;>simp only[kaV,bG,aGs,Pw]
theorem aGt(A:List Nat):∀l,kaS A l=l.map (bG fun id=>kG id A)
 |[]=>rfl
 |c::cs=>by simp[kaS,aQl,aGt A cs]
theorem aGu(A:List Nat):∀l,kaH A l=l.map (cU fun id=>kG id A)
 |[]=>rfl
 |o::os=>by cases o<;>simp[kaH,kaO,cU,Pw,aGu A os]
theorem aGv(hp:List aD):∀J:List Nat,(fun id=>kG id (arJ hp J))=fun id=>J.contains id&&!iW (aL hp id)
 |[]=>by funext id;rfl
 | j::J=>by
  funext id;have c:kG id (arJ hp J)=(J.contains id&&!iW (aL hp id)):=congrFun (aGv hp J) id;rw[List.contains_cons,arJ];by_cases h:id=j
  ·subst h;cases g:aL hp id with
   | box cs=>rw[arB,c,g];simp[iW]
   | _=>simp[arB,kG,jK,iW]
  ·have e:(id==j)=false:=by simpa using h
   cases g:aL hp j with
   | box cs=>rw[arB,c,e,bAp]
   | _=>simp only[arB,kG,jK,e,bAp];exact c
def afB(J:List Nat)(st:AS)(d:Option Nat)(av:AV)(os:List aD):List Nat->AS
 |[]=>⟨aR st.sl d (dP (cQ J st.hp.length) av),lB J (os.map (fA (cQ J st.hp.length))) st.hp++(os.drop J.length).map (fA (cQ J st.hp.length))⟩
 |a::A=>⟨aR (kaS (a::A) st.sl) d (dP (cQ J st.hp.length) av),lB J (os.map (fA (cQ J st.hp.length))) (kaH (a::A) st.hp)++(os.drop J.length).map (fA (cQ J st.hp.length))⟩
theorem aGw{J:List Nat}{st:AS}{d:Option Nat}{av:AV}{os:List aD}:iX J st d av os=afB J st d av os (arJ st.hp J):=by
 unfold iX;rw[<- aGv];cases h:arJ st.hp J with
 |nil=>
  have c:∀id,kG id []=false:=fun _=>rfl
  rw[rC c,rE c];rfl
 |cons a A=>rw[afB,aGt,aGu]
theorem aUS{J:List Nat}{st:AS}{d:Option Nat}{av:AV}{os:List aD}:afB J st d av os []=⟨aR st.sl d (dP (cQ J st.hp.length) av),lB J (os.map (fA (cQ J st.hp.length))) st.hp++(os.drop J.length).map (fA (cQ J st.hp.length))⟩:=q_
def evJ(call:aO)(d:Option Nat)(f:FuncId)(c:List AV)(st:AS)(J:List Nat):Option AS:=if okJ J st.hp c then (call f (c.map (dP (mJ J))) (J.map fun j=>fA (mJ J) (aL st.hp j))).map fun r=>iX J st d r.1 r.2 else none
def evK(d:Option Nat)(st:AS)(J:List Nat):Option (AV×List aD)->Option AS
 |some (av,os)=>some (iX J st d av os)
 |none=>none
def evB(call:aO)(d:Option Nat)(f:FuncId)(c:List AV)(st:AS)(J:List Nat):Bool->Option AS
 |true=>evK d st J (call f (c.map (dP (mJ J))) (J.map fun j=>fA (mJ J) (aL st.hp j)))
 |false=>none
theorem aGx{call:aO}{d:Option Nat}{f:FuncId}{c:List AV}{st:AS}:lE call d f c st=evJ call d f c st (uR st.hp 2000 (c.flatMap jV) []):=q_
theorem aGy{call:aO}{d:Option Nat}{f:FuncId}{c:List AV}{st:AS}(J:List Nat):evJ call d f c st J=evB call d f c st J (S8 J&&kpH J st.hp J&&Pt J c):=by
 unfold evJ okJ;rw[aAG,aGr,Pv];cases (oF (fun i j=>i != j) J&&(J.all fun j=>decide (j<st.hp.length)&&pE (lD J) (aL st.hp j))&&c.all (dH (lD J))) with
 |false=>rfl
 |true=>
  simp only[if_true,evB];cases call f (c.map (dP (mJ J))) (J.map fun j=>fA (mJ J) (aL st.hp j))<;>rfl
theorem aUT{call:aO}{d:Option Nat}{f:FuncId}{c:List AV}{st:AS}:evJ call d f c st []=evB call d f c st [] (S8 []&&kpH [] st.hp []&&Pt [] c):=aGy _
theorem aUU{call:aO}{d:Option Nat}{f:FuncId}{c:List AV}{st:AS}{a:Nat}:evJ call d f c st [a]=evB call d f c st [a] (S8 [a]&&kpH [a] st.hp [a]&&Pt [a] c):=aGy _
theorem aUV{call:aO}{d:Option Nat}{f:FuncId}{c:List AV}{st:AS}{a b:Nat}:evJ call d f c st [a,b]=evB call d f c st [a,b] (S8 [a,b]&&kpH [a,b] st.hp [a,b]&&Pt [a,b] c):=aGy _
theorem aUW{call:aO}{d:Option Nat}{f:FuncId}{c:List AV}{st:AS}{J:List Nat}:evB call d f c st J true=evK d st J (call f (c.map (dP (mJ J))) (J.map fun j=>fA (mJ J) (aL st.hp j))):=q_
theorem aUX{d:Option Nat}{st:AS}{J:List Nat}{av:AV}{os:List aD}:evK d st J (some (av,os))=some (iX J st d av os):=q_
theorem S9:∀c:List DC,idsL (kY c)=[]
 |[]=>rfl
 | d::c=>by
  have:=S9 c;simp only[kY,aZL,idsL,aE3,aZR] at this ⊢;exact this
theorem Ta(J:List Nat):∀c:List DC,Do J (kY c)=true
 |[]=>rfl
 | d::c=>by
  have:=Ta J c;simp only[kY,aZL,Do,kpC,aZ8] at this ⊢;exact this
theorem aLD(ρ:Nat->Nat)(ds:List DC):(kY ds).map (kD ρ)=kY ds:=by
 simp only[kY,aZ5];exact aZ1 fun d _=>rfl
theorem Tc(id:Nat):∀c:List DC,Pm id (kY c)=kY c
 |[]=>rfl
 | d::c=>by
  have:=Tc id c;simp only[kY,aZL,Pm,klC] at this ⊢;rw[this]
theorem Td(m:Nat):∀c:List DC,Ha m (kY c)=kY c
 |[]=>rfl
 | d::c=>by
  have:=Td m c;simp only[kY,aZL,Ha,ctC] at this ⊢;rw[this]
theorem Hv:∀c:List DC,dcs (kY c)=some c
 |[]=>rfl
 | d::c=>by
  have:=Hv c;simp only[kY,aZL,dcs] at this ⊢;rw[this];rfl
theorem Px(a:Nat):nq a a=true:=by rw[jK];simp
attribute [go_sem] S9 Ta aLD Tc Td Hv
attribute [go_sem] kG aC0 aLC aUO S8 kpC Do kpV Pt kpO kpH arB arJ kaC aC1 kaV kaS kaO kaH aGw aUS aGx aUT aUU aUV aUW aUX aJJ Nat.reduceLT
section
variable {call:aO}{G:aF}{st:AS}{d:Option Nat}
def aUY(call:aO)(d:Option Nat)(f:FuncId)(st:AS)(c:List AV)(id:Nat)(cs:List aV):Bool->Option (AS×FP)
 |true=>aFt d id st (lI call f (c.map (dP (mJ [id]))) [.box cs])
 |false=>none
theorem aUZ{f:FuncId}{c:List AV}{id:Nat}{cs:List aV}:fvB call d f st c id (some (.box cs))=aUY call d f st c id cs (keepL (fun _=>true) cs&&Pt [id] c):=by
 rw[Pv];simp only[fvB];cases (keepL (fun _=>true) cs&&c.all (dH (lD [id])))<;>rfl
theorem aQm{f:FuncId}{c:List AV}{id:Nat}{cs:List aV}:aUY call d f st c id cs true=aFt d id st (lI call f (c.map (dP (mJ [id]))) [.box cs]):=q_
end
attribute [go_sem] aUZ aQm
attribute [go_sem] Nat.reduceAdd Nat.reduceSub Nat.reduceMul Nat.reduceLeDiff Nat.reduceEqDiff
end
section
def aGz(size bytes:Nat)(z:List Value):HC:=
 (.seq (.region [Oo 2 (.mov (.k (.slice none 0 0)))])
 (.seq (.seq (.region [Oo 3 (.mov (.t 0)),Oo 4 (.isnil false false (.t 3))])
 (.cond (.t 4) (.seq (.region [Oo 2 (.mov (.k (.slice none 0 0)))])
 .ret)
 .skip))
 (.seq (.region [Oo 5 (.bslc size 0 z []),Oo 6 (.mov (.t 0)),Oo 7 (.app size bytes z (.t 5) (.t 6)),Oo 2 (.mov (.t 7))])
 .ret)))
section
variable {P:Program}{G:aF}{call:aO}
theorem aC2:cI P G (fun _ _ _=>none):=fun f c hp av e h=>by cases h
theorem Xv{size bytes:Nat}{z:List Value}{es:List (List DC)}{c:AV}(h4:c=dX (.bool false))(h:0<z.length)(g:gG size es=true)(e:es.length*bytes<=140737488355328):EC call G (.seq (.region [Oo 5 (.bslc size 0 z []),Oo 6 (.mov (.t 0)),Oo 7 (.app size bytes z (.t 5) (.t 6)),Oo 2 (.mov (.t 7))]) .ret) ⟨[.one (.dc (.slc es)),.junk,dX (.slice none 0 0),.one (.dc (.slc es)),c,.junk,.junk,.junk],[]⟩= some (.ret,⟨[.one (.dc (.slc es)),.junk,.one (.bld 0 es.length),.one (.dc (.slc es)),c,.one .junk,.one (.dc (.slc es)),.one (.bld 0 es.length)],[.arr 0 size es]⟩):=by
 subst h4;simp[go_sem,g,e]
theorem aGA{f:FuncId}{g:Func}{size bytes:Nat}{z:List Value}{es:List (List DC)}(hf:P.funcs[f]?=some g)(A:g.ntmps=8) (v:g.body.bind (bW P)=some (aGz size bytes z).er) (B:g.results.toList.mapM (jS P)=some [.tmp 2]) (C:0<z.length) (w:gG size es=true) (u:es.length*bytes<=140737488355328):AC P G f [.one (.dc (.slc es))] [] fun a o=>a=.one (.bld 0 es.length)/\o.map aP=[.arr 0 size es]:=by
 have q:AC P G f [.one (.dc (.slc es))] [] fun a o=>(a=.one (.bld 0 es.length)/\o.map aP=[.arr 0 size es])\/(es=[]/\a=dX (.slice none 0 0)/\o=[]):=by
  refine AC.of_codeJ hf A v B ?_;have c:∀ b:Bool,(b=true->es=[])->AW P G 0 (.cond (.t 4) (.seq (.region [Oo 2 (.mov (.k (.slice none 0 0)))]) .ret) .skip)
    (I1 P G 0 (.seq (.region [Oo 5 (.bslc size 0 z []),Oo 6 (.mov (.t 0)),Oo 7 (.app size bytes z (.t 5) (.t 6)),Oo 2 (.mov (.t 7))]) .ret) (Fin 0 [.tmp 2] fun a o=>(a=.one (.bld 0 es.length)/\o.map aP=[.arr 0 size es])\/(es=[]/\a=dX (.slice none 0 0)/\o=[])))
    ⟨[.one (.dc (.slc es)),.junk,dX (.slice none 0 0),.one (.dc (.slc es)),dX (.bool b),.junk,.junk,.junk],[]⟩:=by
   intro b i;refine AW.cond (b:=b) rfl (fun h=>?_) (fun h=>?_)
   ·refine AW.seq (AW.region (WR.exX trivial rfl rfl (WR.nil ?_)));exact AW.ret (I1.r (by unfold Fin;exact⟨.inr rfl,aZV _,_,rfl,.inr ⟨i h,rfl,rfl⟩⟩))
   ·subst h;refine AW.skip (I1.n ?_);refine (aNY (aC2 (P:=P) (G:=G)) (.seq (.region [Oo 5 (.bslc size 0 z []),Oo 6 (.mov (.t 0)),Oo 7 (.app size bytes z (.t 5) (.t 6)),Oo 2 (.mov (.t 7))]) .ret) _ .ret _ (Xv rfl C w u) 0).mono ?_;rintro e s ⟨rfl,p⟩;unfold Fin;refine⟨.inr rfl,aZV _,.one (.bld 0 es.length), ?_,.inl ⟨rfl,congrArg AS.hp p⟩⟩;rw[<- E6,p];rfl
  refine AW.seq (AW.region (WR.exX trivial rfl rfl (WR.nil ?_)));refine AW.seqv (AW.seq (AW.region (WR.exX trivial rfl rfl ?_)));cases es with
  | nil=>exact WR.isnil0 trivial rfl rfl (fun b=>WR.nil (c b (fun _=>rfl)))
  | cons e es=>exact WR.exX trivial rfl rfl (WR.nil (c false (fun h=>by cases h)))
 refine q.gh (fun a o h j=>?_)
 rcases h with⟨rfl,h⟩|⟨rfl,rfl,rfl⟩;exact⟨_,_,Gh.refl,j,rfl,h⟩;exact⟨_,_,Gh.nil (d:=0) size rfl,aZV _,rfl,rfl⟩
def aGB(size bytes:Nat):List AV->List aD->Option (AV×List aD)
 |[.one (.dc (.slc es))],[]=>if gG size es=true/\es.length*bytes<=140737488355328 then some (.one (.bld 0 es.length),[.arr 0 size es]) else none
 |_,_=>none
def Js:List (FuncId×Nat×Nat)->aO
 |[],_,_,_=>none
 |(g,size,bytes)::L,f,c,hp=>if f=g then aGB size bytes c hp else Js L f c hp
theorem Fb:∀(L:List (FuncId×Nat×Nat)),(∀e∈L,Zt P e.1=true/\∃i z,P.funcs[e.1]?=some i/\i.ntmps=8/\i.body.bind (bW P)=some (aGz e.2.1 e.2.2 z).er/\i.results.toList.mapM (jS P)=some [.tmp 2]/\0<z.length)->cI P G (Js L)
 |[],_=>fun f c hp av t h=>by cases h
 | (g,size,bytes)::L,n=>fun f c hp av t h j q=>by
  unfold Js at h;split at h
  ·rename_i hf;subst hf;obtain⟨u,i,z,v,h3,h4,h5,h6⟩:=n _ aZT;refine⟨u, ?_⟩;unfold aGB at h;split at h
   ·rename_i es;split at h
    ·rename_i p;simp only[Option.some.injEq,Prod.mk.injEq] at h;obtain⟨rfl,rfl⟩:=h;have:j=[]:=by simpa using q
     subst this;exact aGA v h3 h4 h5 h6 p.1 p.2
    ·cases h
   ·cases h
  ·exact Fb L (fun e w=>n e (aZ3 _ w)) f c hp av t h j q
end
end
section
open Go.RowKit
theorem Dp(k:Int):∀(l:List MapEntry)(i:Nat),(∀x∈l,∃n,x.key=.int .i64 n/\n≠k)->Instr.findNow (.int .i64) (.int .i64 k) l i=some none
 |[],i,h=>rfl
 | e::l,i,h=>by
  obtain⟨n,g,j⟩:=h e aZT;have c:(k==n)=false:=by simp;exact fun e=>j e.symm
  simp[Instr.findNow,Instr.sameNow,g,c,Dp k l (i+1) (fun x p=>h x (aZ3 _ p))]
theorem Dq{P:Program}{t g u:TypeId}(A:P.underlying t=some (.map g u))(q:P.underlying g=some (.int .i64))(w:World)(es:Array MapEntry)(c:Nat)(n:Int)(v:Value) (z:∀x∈es.toList,∃m,x.key=.int .i64 m/\m≠n):(Instr.mapUpdate t (.map (some w.heap.size)) (.int .i64 n) v).run P (w.alloc (.map es c))=.ok () (w.alloc (.map (es.push { key:=.int .i64 n,val:=v,born:=c }) (c+1))):=by
 have p:(w.alloc (.map es c)).heap[w.heap.size]?=some (.map es c):=by
  show (w.heap.push _)[w.heap.size]?=_;simp
 have j:(getObj w.heap.size).run P (w.alloc (.map es c))=.ok (.map es c) (w.alloc (.map es c)):=by simp only[getObj,Sem.run,p]
 have h:(Instr.checkKey false (9999+1) g (.int .i64 n)).run P (w.alloc (.map es c))=.ok () (w.alloc (.map es c)):=by
  unfold Instr.checkKey;simp[run_underlying q]
 have i:(Instr.findKey g (.int .i64 n) es.toList).run P (w.alloc (.map es c))=.ok none (w.alloc (.map es c)):=by
  simp[Instr.findKey,run_underlying q,Dp n es.toList 0 z]
 have e:∀o,(setObj w.heap.size o).run P (w.alloc (.map es c))=.ok () (w.alloc o):=by
  intro o;rw[MapKept.run_setObj_map o p];have:(w.heap.push (.map es c)).setIfInBounds w.heap.size o=w.heap.push o:=by
   apply Array.ext';simp
  show Result.ok () ({ w.alloc (.map es c) with heap:=(w.heap.push (.map es c)).setIfInBounds w.heap.size o }:World)=_
  rw[this];rfl
 simp[Instr.mapUpdate,run_underlying A,j,h,i,e]
def tyL:List (Int×Value):=[(16,.bool true),(32,.bool false),(48,.bool true),(64,.bool false),(96,.bool true),(112,.bool true),(128,.bool false),(144,.bool true),(160,.bool false),(176,.bool false),(192,.bool false)]
def tyE:Array MapEntry:=#[⟨.int .i64 16,.bool true,0⟩,⟨.int .i64 32,.bool false,1⟩,⟨.int .i64 48,.bool true,2⟩,⟨.int .i64 64,.bool false,3⟩,⟨.int .i64 96,.bool true,4⟩,⟨.int .i64 112,.bool true,5⟩,⟨.int .i64 128,.bool false,6⟩,⟨.int .i64 144,.bool true,7⟩,⟨.int .i64 160,.bool false,8⟩,⟨.int .i64 176,.bool false,9⟩,⟨.int .i64 192,.bool false,10⟩]
set_option maxRecDepth 100000 in
theorem aLE(w:World):Calls Tryz.prog 211 #[] w fun e w'=>e=.returned (.map (some w.heap.size))/\w'=w.alloc (.map tyE 11):=by
 have c:=fun w=>run_makeMap_plain (P:=Tryz.prog) (w:=w) 171
 go_enter Tryz.func211,Tryz.ntmps211
 go_wp2
 iterate 11
  rw[Dq Tryz.underlying171 Tryz.underlying3]
  rotate_left
  ·simp
  simp only[Result.andThen]
  go_wp2
 go_ret
 exact⟨rfl,rfl⟩
set_option maxRecDepth 100000 in
theorem aU0(s:ByteArray)(c:Int)(w:World):Calls Tryz.prog 289 #[.string s,.int .u8 c] w fun e w'=>e=.returned (.int .i64 (Lib.indexByte s.data.toList c.toNat.toUInt8))/\w'=w:=by
 go_enter Tryz.func289,Tryz.ntmps289
 go_wp2
 rw[run_callFunc_extern Tryz.func294 (by kernel_rfl) (by kernel_rfl) (by kernel_rfl) (e:=Extern.BytealgIndexByte.indexByte) (by kernel_rfl),Lib.run_indexByteString];simp only[Result.andThen];rw[Oper.upon_value]
 go_wp2
 go_ret
 exact⟨rfl,rfl⟩
theorem aGC{γ:List OI}{hp:List aD}{F:Fz}{w:World}(c:dV F γ hp w)(h:hp=[]):γ=[]:=bAL (by rw[c.len,h];rfl)
theorem aLF{G:aF}:QC Tryz.prog G 211 [] (.one (.mpc tyL)):=by
 intro F γ vs w n v u;have t:=aGC n rfl;subst t;have q:vs=#[]:=Array.eq_empty_of_size_eq_zero u.1;subst q;have p:∀ b o,F b=some o->b < w.heap.size:=fun b o h=>by
  have:=n.fz b o h;exact (Array.getElem?_eq_some_iff.1 this).1
 have g:∀b,b<w.heap.size->(w.heap.push (.map tyE 11))[b]?=w.heap[b]?:=fun b c=>by rw[Array.getElem?_push_lt c,bAe c]
 refine (aLE w).mono ?_;rintro e w' ⟨rfl,rfl⟩;refine⟨_,_,[],fun b=>if b=w.heap.size then some (.map tyE 11) else F b,[],rfl,⟨rfl,rfl⟩,aZE _,⟨?_,rfl,rfl,rfl,?_,?_,?_,?_,?_⟩,⟨?_,rfl,?_,?_,?_⟩,.one _ _ (.mpc tyL w.heap.size 11 tyE (by simp) (by rfl) (by decide))⟩
 intro b o h;have:=p b o h;show (if b=w.heap.size then _ else F b)=_
 rw[if_neg (by omega)];exact h;show w.heap.size<=(w.heap.push _).size;simp;intro b c _;exact g b c;intro b o h;by_cases c:b=w.heap.size;exact .inr (.inl (by omega));simp only[if_neg c] at h;exact .inl h;intro i b h;simp[cF] at h;intro i n;exact absurd n (Nat.not_lt_zero _);intro b o h;by_cases c:b=w.heap.size;subst c;simp only[if_true] at h;rw[<- h];show (w.heap.push _)[w.heap.size]?=_;simp;simp only[if_neg c] at h;exact (g b (p b o h)).trans (n.fz b o h);intro i j b h;simp[cF] at h;intro i b h;simp[cF] at h;intro i o x h;simp at h
theorem aU1{G:aF}(s:ByteArray)(c:Int):QC Tryz.prog G 289 [.one (.dc (.raw (.string s))),.one (.dc (.raw (.int .u8 c)))] (.one (.dc (.raw (.int .i64 (Lib.indexByte s.data.toList c.toNat.toUInt8))))):=by
 intro F γ vs w i q g;obtain⟨p,g⟩:=g;have h:=aGC i rfl;subst h;obtain⟨x,y,rfl⟩:∃x y,vs=#[x,y]:=by
  obtain⟨l⟩:=vs
  match l,p with
  |[x,y],_=>exact⟨x,y,rfl⟩
 have j:=cX (g 0 _ _ rfl rfl);have n:=cX (g 1 _ _ rfl rfl);subst j;subst n;refine (aU0 s c w).mono ?_;rintro e w' ⟨rfl,rfl⟩;exact⟨_,_,[],F,[],rfl,⟨rfl,rfl⟩,aZE _,iL.refl _ _ _ _,i,.one _ _ (.dc _ _ (.raw _ rfl))⟩
def tyK:List AV->List aD->Option (AV×List aD)
 |[],[]=>some (.one (.mpc tyL),[])
 |_,_=>none
def ixK:List AV->List aD->Option (AV×List aD)
 |[.one (.dc (.raw (.string s))),.one (.dc (.raw (.int .u8 c)))],[]=>some (.one (.dc (.raw (.int .i64 (Lib.indexByte s.data.toList c.toNat.toUInt8)))),[])
 |_,_=>none
def awK:List AV->List aD->Option (AV×List aD)
 |[],[]=>some (.one (.dc (.raw (.bool true))),[])
 |_,_=>none
def bs(b:Bool):aO:=fun f c hp=>if f=211 then tyK c hp else if f=289 then ixK c hp else if f=4 then (if b=true then awK c hp else none) else Js [(171,2,16)] f c hp
theorem aU2{G:aF}{b:Bool}(q:b=true->QC Tryz.prog G 4 [] (.one (.dc (.raw (.bool true))))):cI Tryz.prog G (bs b):=by
 intro f j hp av u h i n;unfold bs at h;split at h;rename_i hf;subst hf;unfold tyK at h;split at h;injection h with h;injection h with c g;subst c;subst g
 have:i=[]:=by simpa using n
 subst this;exact⟨by kernel_rfl,aLF.gh (fun a o ⟨c,g⟩ _=>⟨a,o,Gh.refl,aZV _,c,by rw[g];rfl⟩)⟩
 cases h;split at h;rename_i hf;subst hf;unfold ixK at h;split at h;injection h with h;injection h with c g;subst c;subst g
 have:i=[]:=by simpa using n
 subst this;exact⟨by kernel_rfl,(aU1 _ _).gh (fun a o ⟨c,g⟩ _=>⟨a,o,Gh.refl,aZV _,c,by rw[g];rfl⟩)⟩
 cases h;split at h;rename_i hf;subst hf;split at h;rename_i t;unfold awK at h;split at h;injection h with h;injection h with c g;subst c;subst g
 have:i=[]:=by simpa using n
 subst this;exact⟨by kernel_rfl,(q t).gh (fun a o ⟨c,g⟩ _=>⟨a,o,Gh.refl,aZV _,c,by rw[g];rfl⟩)⟩
 cases h;cases h
 exact Fb [(171,2,16)] (fun e p=>by
  simp only[List.mem_singleton] at p;subst p;exact⟨by kernel_rfl,_,[Zi 0,Zi 0],Tryz.func171,Tryz.ntmps171,h171_ok,aKs,by decide⟩) f j hp av u h i n
