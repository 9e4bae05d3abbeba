/- Functions of the base: the map of the types, and the index of a byte, walked by the kit's rules. Conditions: none. -/
import Derived.Test.YthepfneloomngaaGreatDoorNd
import Derived.Test.YthepfneloomngaaGreatDoorCb
import Derived.WalkKit
import Derived.WideMake
import Derived.MapKept
import Derived.Lib.Bytealg
import Derived.Lib.Walk
import Derived.Lib.Strings
import Derived.BigCall
namespace Go.Proofs.YthepfneloomngaaGreatDoor
set_option linter.unusedSimpArgs false
set_option linter.unusedVariables false
section
section
variable {call:aO}{G:aE}{st s s':AS}{a b:HC}{L:List Nat}{m:Nat}
noncomputable def sqK(call:aO)(G:aE)(b:HC)(r:Option (Exit×AS)):Option (Exit×AS):=match r with
 |some (.normal,s)=>EC call G b s
 |r=>r
noncomputable def cdK(call:aO)(G:aE)(a b:HC)(st:AS):Option Bool->Option (Exit×AS)
 |some true=>EC call G a st
 |some false=>EC call G b st
 |none=>none
noncomputable def EL(call:aO)(G:aE)(a:HC)(L:List Nat)(m:Nat)(st:AS):Option (Exit×AS):=zU (EC call G a) L m st
noncomputable def fnK(call:aO)(G:aE)(a:HC)(L:List Nat)(m:Nat)(r:Option (Exit×AS)):Option (Exit×AS):=match r with
 |some (.normal,s)=>EL call G a L m (jY L m s)
 |r=>r
def K6(L:List Nat)(m:Nat):Option (Exit×AS)->Option AS
 |some (.normal,s)=>some (jY L m s)
 |_=>none
theorem aIi:EC call G .skip st=some (.normal,st):=Eq.trans rfl rfl
theorem aNs:EC call G .ret st=some (.ret,st):=Eq.trans rfl rfl
theorem aIj{id:Nat}:EC call G (.exit id) st=some (.exit id,st):=Eq.trans rfl rfl
theorem aAO{ops:List aN}:EC call G (.region ops) st=nrm (evR call G ops (some st)):=Eq.trans rfl rfl
theorem aIk{L:List Nat}{ops:List aN}:EC call G (.regR L ops) st=nrm (Ey call G L ops (some st)):=Eq.trans rfl rfl
theorem aDM{ops:List (Bool×aN)}:EC call G (.drawn ops) st=nrm (Ez call G ops (some st)):=Eq.trans rfl rfl
theorem Ue:EC call G (.seq a b) st=sqK call G b (EC call G a st):=by rw[EC];rfl
theorem aIl{c:aH}:EC call G (.cond c a b) st=cdK call G a b st (cH (aK G st.sl c)):=by rw[EC];rfl
theorem aDN{id:Nat}:EC call G (.block id a) st=Hl id (EC call G a st):=Eq.trans rfl rfl
theorem aIm:EC call G (.loop L a) st=EL call G a L st.hp.length (jY L st.hp.length st):=Eq.trans rfl rfl
theorem aDO{L:List Nat}:EC call G (.trm L a) st=EC call G a (jY L st.hp.length st):=Eq.trans rfl rfl
theorem aRF{g:GH}:EC call G (.gh g a) st=EC call G a (ghE g st):=Eq.trans rfl rfl
theorem aLS:sqK call G b (some (.normal,s))=EC call G b s:=Eq.trans rfl rfl
theorem aRG:sqK call G b (some (.ret,s))=some (.ret,s):=Eq.trans rfl rfl
theorem aRH{id:Nat}:sqK call G b (some (.exit id,s))=some (.exit id,s):=Eq.trans rfl rfl
theorem aRI:cdK call G a b st (some true)=EC call G a st:=Eq.trans rfl rfl
theorem aRJ:cdK call G a b st (some false)=EC call G b st:=Eq.trans rfl rfl
theorem aIn{p:Prop}[Decidable p](h:p):cdK call G a b st (some (decide p))=EC call G a st:=by rw[decide_eq_true h];rfl
theorem aIo{p:Prop}[Decidable p](h:¬ p):cdK call G a b st (some (decide p))=EC call G b st:=by rw[decide_eq_false h];rfl
theorem aNt{id:Nat}:Hl id (some (.normal,s))=some (.normal,s):=Eq.trans rfl rfl
theorem aNu{id:Nat}:Hl id (some (.ret,s))=some (.ret,s):=Eq.trans rfl rfl
theorem aNv{id id':Nat}:Hl id (some (.exit id',s))=bif nq id' id then some (.normal,s) else some (.exit id',s):=by
 simp only[Hl,aHZ,iM];by_cases h:id'=id;simp[h];simp[h,(beq_eq_false_iff_ne.2 h:(id'==id)=false)]
theorem aRK:fnK call G a L m (some (.ret,s))=some (.ret,s):=Eq.trans rfl rfl
theorem aRL{id:Nat}:fnK call G a L m (some (.exit id,s))=some (.exit id,s):=Eq.trans rfl rfl
theorem aRM:K6 L m (some (.normal,s))=some (jY L m s):=Eq.trans rfl rfl
theorem aRN:nrm (some s)=some (.normal,s):=Eq.trans rfl rfl
theorem Uf:EL call G a L m st=fnK call G a L m (EC call G a st):=by
 unfold EL;cases h:EC call G a st with
 |none=>
  simp only[fnK];cases hl:zU (EC call G a) L m st with
  |none=>rfl
  |some r=>
   obtain⟨n,hn⟩:=iN hl;cases n with
   |zero=>simp[Jr] at hn
   |succ n=>rw[Jr,h] at hn;cases hn
 |some r=>
  obtain⟨e,s⟩:=r;by_cases he:e=.normal;subst he;exact aDv st h;rw[aAK h he];unfold fnK;split;rename_i h1;injection h1 with h1;injection h1 with h1;exact absurd h1 he;rfl
theorem aR(H:Nat->AS)(n:Nat)(h0:st=H 0)(hr:∀k,k<n->K6 L m (EC call G a (H k))=some (H (k+1))):EL call G a L m st=fnK call G a L m (EC call G a (H n)):=by
 subst h0;have key:∀k,k<=n->EL call G a L m (H 0)=EL call G a L m (H k):=by
  intro k
  induction k with
  |zero=>intro _;rfl
  |succ k ih=>
   intro hk;rw[ih (by omega),Uf];have:=hr k (by omega);unfold K6 at this;split at this;rename_i s h1;injection this with this
   rw[h1,<- this];rfl;cases this
 rw[key n (aXF _),Uf]
theorem aDP(p:Nat->Prop):∀n:Nat,∃k,k<=n/\(k=n\/(k<n/\p k))/\∀j,j<k->¬ p j
 |0=>⟨0,aXF _,.inl rfl,fun j h=>by omega⟩
 | n+1=>by
  obtain⟨k,h1,h2,h3⟩:=aDP p n;rcases h2 with h2 | ⟨h2,h4⟩
  ·subst h2;by_cases hp:p k
   ·exact⟨k,by omega,.inr ⟨by omega,hp⟩,h3⟩
   ·exact⟨k+1,aXF _,.inl rfl,fun j hj=>by
     by_cases he:j=k
     ·subst he;exact hp
     ·exact h3 j (by omega)⟩
  ·exact⟨k,by omega,.inr ⟨by omega,h4⟩,h3⟩
noncomputable def ix(p:Nat->Prop)(n:Nat):Nat:=(aDP p n).choose
theorem bT(p:Nat->Prop)(n:Nat):ix p n<=n/\(ix p n=n\/(ix p n<n/\p (ix p n)))/\∀j,j<ix p n->¬ p j:=(aDP p n).choose_spec
theorem gF(H:Nat->AS)(p:Nat->Prop)(n:Nat)(h0:st=H 0)(hr:∀k,k<n->(∀j,j<=k->¬ p j)->K6 L m (EC call G a (H k))=some (H (k+1))):
  EL call G a L m st=fnK call G a L m (EC call G a (H (ix p n))):=by
 obtain⟨h1,_,h3⟩:=bT p n;exact aR H _ h0 (fun k hk=>hr k (by omega) (fun j hj=>h3 j (by omega)))
theorem aAP(n k:Nat):((n:Int)+(k:Int)).toNat=n+k:=by omega
theorem Ug(n:Nat):((n:Int)+1).toNat=n+1:=by omega
def jk:Nat->List AV->List AV
 |0,t=>t
 |n+1,t=>.junk::jk n t
theorem aIp{c:aT}{cs vs:List aT}{n:Nat}:cQ (c::cs) (n+1) vs=c::cQ cs n vs:=by
 simp only[cQ,aZb,aYd];rw[show n+1+vs.length=(n+vs.length)+1 by omega,aY7]
theorem Xs{cs vs:List aT}:cQ cs 0 vs=vs++cs.drop vs.length:=by simp[cQ]
theorem aVR(a b c:Int):a+(b+c)=a+b+c:=(Int.add_assoc a b c).symm
theorem aNw{st:AS}{d:Option Nat}{cs:List aT}:aMR st d (some cs)=some ⟨aQ st.sl d (.one (.ptr st.hp.length 0)),st.hp++[.box cs]⟩:=Eq.trans rfl rfl
theorem Ai(n:Nat):((n:Int)-1).toNat=n-1:=by omega
theorem aIq:evR call G [] (some st)=some st:=Eq.trans rfl rfl
theorem aRO{d:Option Nat}{ai:AI}{g:Option (Nat×Bool)}{l:List aN}:evR call G (⟨d,ai,g⟩::l) (some st)=evR call G l (T4 call G st l d ai g):=Eq.trans rfl rfl
theorem aAQ{L:List Nat}{t:IT}{ops:List aN}:EC call G (.drawnT L t ops) st=nrm (Ec call G L st.hp.length ops t (some st)):=Eq.trans rfl rfl
theorem aIr{L:List Nat}{n0:Nat}{ops:List aN}:Ec call G L n0 ops .nil (some st)=some st:=Eq.trans rfl rfl
theorem aNx{L:List Nat}{n0:Nat}{ops:List aN}{i:Nat}{t:IT}:Ec call G L n0 ops (.st i t) (some st)=Ec call G L n0 ops t (Hk call G L st ops (gY ops i).dst (gY ops i).ai (gY ops i).guard (jU L (gY ops i).ai (gY ops i).guard)):=Eq.trans rfl rfl
theorem aNy{L:List Nat}{n0:Nat}{ops:List aN}{i:Nat}{t:IT}:Ec call G L n0 ops (.br i t .stop) (some st)=Ec call G L n0 ops t (Hk call G L st ops (gY ops i).dst (gY ops i).ai (gY ops i).guard (jU L (gY ops i).ai (gY ops i).guard)):=Eq.trans rfl rfl
theorem aNz{L:List Nat}{n0:Nat}{ops:List aN}{i j:Nat}{t t' r:IT}:Ec call G L n0 ops (.br i t (.br j t' r)) (some st)=Eb n0 (Ec call G L n0 ops t (Hk call G L st ops (gY ops i).dst (gY ops i).ai (gY ops i).guard (jU L (gY ops i).ai (gY ops i).guard))) (Ec call G L n0 ops (.br j t' r) (some st)):=Eq.trans rfl rfl
theorem aIs{n0:Nat}{s s':AS}(p:List (Nat×Nat))(h3:pOK n0 s'.hp.length p)(h4:prm p s'=s):Eb n0 (some s) (some s')=some s:=Qa rfl rfl h3 h4
theorem aIt{n0:Nat}{s:AS}:Eb n0 (some s) (some s)=some s:=aIs [] (fun x hx=>by cases hx) rfl
theorem aDQ{L:List Nat}:Ey call G L [] (some st)=some st:=Eq.trans rfl rfl
theorem aNA{L:List Nat}{d:Option Nat}{ai:AI}{g:Option (Nat×Bool)}{l:List aN}:Ey call G L (⟨d,ai,g⟩::l) (some st)=Ey call G L l (Hk call G L st l d ai g (jU L ai g)):=Eq.trans rfl rfl
theorem aRP{L:List Nat}{l:List aN}{d:Option Nat}{ai:AI}{g:Option (Nat×Bool)}:Hk call G L st l d ai g true=P7 call G L st d ai:=Eq.trans rfl rfl
theorem aRQ{L:List Nat}{l:List aN}{d:Option Nat}{ai:AI}{g:Option (Nat×Bool)}:Hk call G L st l d ai g false=T4 call G st l d ai g:=Eq.trans rfl rfl
theorem aNB{L:List Nat}{d:Option Nat}{f:FuncId}{xs:List aH}:P7 call G L st d (.call f xs)=aDs call G st d f xs (Mv L (f+100000)):=Eq.trans rfl rfl
theorem aNC{d:Option Nat}{f:FuncId}{xs:List aH}:aDs call G st d f xs false=kG (kI call) d f (xs.map (aK G st.sl)) st:=Eq.trans rfl rfl
def aXq(d:Option Nat)(st:AS)(av:AV):Bool->Option AS
 |true=>some ⟨aQ st.sl d av,st.hp⟩
 |false=>none
theorem aRR{l:List aN}{d:Option Nat}{ai:AI}:T4 call G st l d ai none=lK call G st l d ai:=Eq.trans rfl rfl
theorem aRS{l:List aN}{d:Option Nat}{ai:AI}{g:Nat}{b:Bool}:T4 call G st l d ai (some (g,b))=guZ call G st l d ai (gK b (aK G st.sl (.t g))):=Eq.trans rfl rfl
section
variable {l:List aN}{d:Option Nat}{ai:AI}
theorem aRT:guZ call G st l d ai (some true)=lK call G st l d ai:=Eq.trans rfl rfl
theorem aRU:guZ call G st l d ai (some false)=some ⟨aQ st.sl d (.tup []),st.hp⟩:=Eq.trans rfl rfl
theorem aIu{p:Prop}[Decidable p](h:p):guZ call G st l d ai (some (decide p))=lK call G st l d ai:=by rw[decide_eq_true h];rfl
theorem aIv{p:Prop}[Decidable p](h:¬ p):guZ call G st l d ai (some (decide p))=some ⟨aQ st.sl d (.tup []),st.hp⟩:=by rw[decide_eq_false h];rfl
theorem aRV{q:Bool}:aAH call G st q d ai (some true)=drZ call G st d ai q:=Eq.trans rfl rfl
theorem aRW{q:Bool}:aAH call G st q d ai (some false)=some ⟨aQ st.sl d (.tup []),st.hp⟩:=Eq.trans rfl rfl
theorem aIw{q:Bool}{p:Prop}[Decidable p](h:p):aAH call G st q d ai (some (decide p))=drZ call G st d ai q:=by rw[decide_eq_true h];rfl
theorem aIx{q:Bool}{p:Prop}[Decidable p](h:¬ p):aAH call G st q d ai (some (decide p))=some ⟨aQ st.sl d (.tup []),st.hp⟩:=by rw[decide_eq_false h];rfl
theorem aRX{q:Bool}:drO call G st q d ai none=drZ call G st d ai q:=Eq.trans rfl rfl
theorem aRY{q:Bool}{g:Nat}{b:Bool}:drO call G st q d ai (some (g,b))=aAH call G st q d ai (gK b (aK G st.sl (.t g))):=Eq.trans rfl rfl
theorem aDR:Ez call G [] (some st)=some st:=Eq.trans rfl rfl
theorem aND{q:Bool}{g:Option (Nat×Bool)}{l:List (Bool×aN)}:Ez call G ((q,⟨d,ai,g⟩)::l) (some st)=Ez call G l (drO call G st q d ai g):=Eq.trans rfl rfl
theorem aDS{f:FuncId}{xs:List aH}:lK call G st l d (.call f xs)=clZ call G d f xs st:=Eq.trans rfl rfl
theorem aAR{x:aH}{xs:List aH}:lK call G st l d (.callv x xs)=cvZ call G d x xs st:=Eq.trans rfl rfl
theorem aIy{z b:Nat}{zz:List Value}{s x:aH}:lK call G st l d (.app z b zz s x)=apZ d z b st (aK G st.sl s) (aK G st.sl x):=Eq.trans rfl rfl
theorem aRZ{d:Option Nat}{size bytes:Nat}{z:List Value}{st:AS}{i j:Int}(h:0<=i/\i<=j/\j.toNat*bytes<=140737488355328):mkK d size bytes z st (some i) (some j)=some ⟨aQ st.sl d (.one (.bld st.hp.length i.toNat)),st.hp++[.arr 0 size (List.replicate i.toNat (z.map DC.raw))]⟩:=by
 obtain⟨n,rfl⟩:=aYJ h.1;obtain⟨m,rfl⟩:=aYJ (Int.le_trans h.1 h.2.1);have h1:=h.2.1;have h2:=h.2.2;simp only[aYm] at h2;simp only[mkK,aYm];exact if_pos ⟨by omega,h2⟩
theorem aNE{z b:Nat}{zz:List Value}{x y:aH}:lK call G st l d (.mk z b zz x y)=mkZ G st d z b zz x y:=Eq.trans rfl rfl
theorem aDT{x y:aH}:lK call G st l d (.cpys x y)=aAD G st d x y:=Eq.trans rfl rfl
theorem aDU{x:aH}:lK call G st l d (.cvsb x)=aAE G st d x:=Eq.trans rfl rfl
theorem aNF{id lo n z:Nat}{s:ByteArray}:aNb d st (.one (.bls id lo n z)) (some s)=if z=1 then aDr d st id lo n s (aI st.hp id) else none:=Eq.trans rfl rfl
theorem aNG{id lo n:Nat}{s:ByteArray}{cs:List aT}:aDr d st id lo n s (.box cs)=if lo+n<=cs.length then some ⟨aQ st.sl d (dG (.int .i64 (min s.size n:Nat))),st.hp.set id (.box (cQ cs lo (dZ (s.data.toList.take n))))⟩ else none:=Eq.trans rfl rfl
theorem aNH{s:ByteArray}:aHX d st (some s)=some ⟨aQ st.sl d (.one (.bld st.hp.length s.size)),st.hp++[.arr 0 1 (gD s)]⟩:=Eq.trans rfl rfl
theorem aDV{L:List Nat}{x:aH}:P7 call G L st d (.cvsb x)=aHX d st (dB (aK G st.sl x)):=Eq.trans rfl rfl
theorem aNI{s:ByteArray}:aRh d st (some s)=some ⟨aQ st.sl d (.one (.dc (.slc (gD s)))),st.hp⟩:=Eq.trans rfl rfl
theorem aR0{d:Option Nat}{bytes:Nat}{v:Value}{st:AS}{i j:Int}(h:0<=i/\i<=j/\j.toNat*bytes<=140737488355328):mbK d 1 bytes st [v] (some i) (some j)=some ⟨aQ st.sl d (.one (.bls st.hp.length 0 i.toNat 1)),st.hp++[.box (List.replicate j.toNat (dA v))]⟩:=by
 obtain⟨n,rfl⟩:=aYJ h.1;obtain⟨m,rfl⟩:=aYJ (Int.le_trans h.1 h.2.1);have h1:=h.2.1;have h2:=h.2.2;simp only[aYm] at h2;simp only[mbK,aYm];exact if_pos ⟨trivial,by omega,h2⟩
theorem aIz{L:List Nat}{z b:Nat}{zz:List Value}{x y:aH}:P7 call G L st d (.mk z b zz x y)=mbK d z b st zz (bH (aK G st.sl x)) (bH (aK G st.sl y)):=Eq.trans rfl rfl
theorem aIA{z:Nat}{zz:List Value}{x:aH}:lK call G st l d (.clr z zz x)=aAC G st d z zz x:=Eq.trans rfl rfl
theorem aNJ{z id k n s:Nat}{zz:List Value}:aNa d z zz st (.one (.bls id k n s))=if s=z then T2 d st id k n z zz (aI st.hp id) else none:=Eq.trans rfl rfl
theorem aNK{id k n:Nat}{v:Value}{cs:List aT}:T2 d st id k n 1 [v] (.box cs)=if 1=1/\0<n/\k+n<=cs.length then some ⟨aQ st.sl d (.tup []),st.hp.set id (.box (cQ cs k (List.replicate n (dA v))))⟩ else none:=Eq.trans rfl rfl
theorem aDW{z b:Nat}{zz:List Value}{ps:List (Nat×aH)}:lK call G st l d (.bslc z b zz ps)=bsZ G st d z b zz ps (aHW d l):=Eq.trans rfl rfl
theorem aAS{z:List Value}:lK call G st l d (.alloc z)=some ⟨aQ st.sl d (.one (.ptr st.hp.length 0)),st.hp++[.box (z.map dA)]⟩:=Eq.trans rfl rfl
theorem aIB{x:aH}:lK call G st l d (.box x)=aMR st d (cellsOf (aK G st.sl x)):=Eq.trans rfl rfl
theorem aAT{n:Nat}{x v:aH}:lK call G st l none (.store n x v)=stX G st n x v:=Eq.trans rfl rfl
theorem aIC{x:aH}:lK call G st l d (.mov x)=some ⟨aQ st.sl d (aK G st.sl x),st.hp⟩:=Eq.trans rfl rfl
theorem aDX{c x y:aH}:lK call G st l d (.pick c x y)=fX st d (Au (aK G st.sl c) (aK G st.sl x) (aK G st.sl y)):=Eq.trans rfl rfl
theorem aDY{g:Bool}{n:Nat}{x:aH}:lK call G st l d (.load g n x)=fX st d (lG st.hp g n (aK G st.sl x)):=Eq.trans rfl rfl
theorem aID{p:Bool}{z:Value}{x y:aH}:lK call G st l d (.mpx p z x y)=fX st d (Ox p z (aK G st.sl x) (aK G st.sl y)):=Eq.trans rfl rfl
theorem aDZ{x:aH}:lK call G st l d (.nilc x)=fX st d (Kg (aK G st.sl x)):=Eq.trans rfl rfl
theorem aIE{op:BinOp}{x y:aH}:lK call G st l d (.bin op x y)=fX st d (eP op (aK G st.sl x) (aK G st.sl y)):=Eq.trans rfl rfl
theorem aD0{n:Bool}{x y:aH}:lK call G st l d (.binb n x y)=fX st d (Kf n (aK G st.sl x) (aK G st.sl y)):=Eq.trans rfl rfl
theorem aIF{n:Bool}{ks:List EK}{x y:aH}:lK call G st l d (.eqs n ks x y)=fX st d (Ow n ks (aK G st.sl x) (aK G st.sl y)):=Eq.trans rfl rfl
theorem aNL{op:UnOp}{x:aH}:lK call G st l d (.un op x)=fX st d (unV op (aK G st.sl x)):=Eq.trans rfl rfl
theorem aD1{k:IntKind}{x:aH}:lK call G st l d (.conv k x)=fX st d (Wp k (bH (aK G st.sl x))):=Eq.trans rfl rfl
theorem aD2{x:aH}:lK call G st l d (.cvbs x)=fX st d (mU st.hp (aK G st.sl x)):=Eq.trans rfl rfl
theorem aD3{o:Nat}{x:aH}:lK call G st l d (.addo o x)=fX st d (D0 o (aK G st.sl x)):=Eq.trans rfl rfl
theorem aIG{n z:Nat}{x i:aH}:lK call G st l d (.ixA n z x i)=fX st d (aMS n z (aK G st.sl x) (bH (aK G st.sl i))):=Eq.trans rfl rfl
theorem aIH{z:Nat}{x i:aH}:lK call G st l d (.ixL z x i)=fX st d (aHB st.hp z (aK G st.sl x) (bH (aK G st.sl i))):=Eq.trans rfl rfl
theorem aII{n:Nat}{x i:aH}:lK call G st l d (.ixV n x i)=fX st d (aMT n (aK G st.sl x) (bH (aK G st.sl i))):=Eq.trans rfl rfl
theorem aIJ{n:Nat}{x:aH}:lK call G st l d (.s2p n x)=fX st d (Zv n (aK G st.sl x)):=Eq.trans rfl rfl
theorem aIK{x i:aH}:lK call G st l d (.ixS x i)=fX st d (aHC (aK G st.sl x) (bH (aK G st.sl i))):=Eq.trans rfl rfl
theorem aIL{x:aH}{lo hi:Option aH}:lK call G st l d (.slS x lo hi)=fX st d (Jt (aK G st.sl x) (lo.map (aK G st.sl)) (hi.map (aK G st.sl))):=Eq.trans rfl rfl
theorem aIM{z:Nat}{x:aH}{lo hi:Option aH}:lK call G st l d (.slL z x lo hi)=fX st d (kS st.hp z (aK G st.sl x) (lo.map (aK G st.sl)) (hi.map (aK G st.sl))):=Eq.trans rfl rfl
theorem aAU{z:List Value}{ps:List (Nat×Nat×aH)}:lK call G st l d (.build z ps)=fX st d (aHD (gX (z.map dA) (ps.map fun (o,s,x)=>(o,s,aK G st.sl x)))):=Eq.trans rfl rfl
theorem aIN{x:aH}{n:Nat}:lK call G st l d (.ext x n)=fX st d (S5 (aK G st.sl x) n):=Eq.trans rfl rfl
theorem aD4{x:aH}:lK call G st l d (.lenS x)=fX st d (Wq (dB (aK G st.sl x))):=Eq.trans rfl rfl
theorem aD5{x:aH}:lK call G st l d (.lenL x)=fX st d (rR (aK G st.sl x)):=Eq.trans rfl rfl
theorem aIO{x y:aH}:lK call G st l d (.min2 x y)=fX st d (aCl (aK G st.sl x) (aK G st.sl y)):=Eq.trans rfl rfl
theorem aIP{x y:aH}:lK call G st l d (.max2 x y)=fX st d (aCm (aK G st.sl x) (aK G st.sl y)):=Eq.trans rfl rfl
theorem aD6{f:FuncId}{xs:List aH}:lK call G st l d (.mkfn f xs)=fX st d ((xs.mapM fun c=>hP (aK G st.sl c)).map fun cs=>.one (.fn f cs)):=Eq.trans rfl rfl
theorem aR1:drZ call G st d ai false=ldZ call G st d ai:=Eq.trans rfl rfl
theorem aR2:drZ call G st d ai true=Bg call G st d ai:=Eq.trans rfl rfl
theorem aD7{f:FuncId}{xs:List aH}:ldZ call G st d (.call f xs)=dvK call G d f xs st (call f (Bf G st xs) []):=Eq.trans rfl rfl
theorem aAV{x:aH}{xs:List aH}:ldZ call G st d (.callv x xs)=cvZ call G d x xs st:=Eq.trans rfl rfl
theorem aIQ{z b:Nat}{zz:List Value}{s x:aH}:ldZ call G st d (.app z b zz s x)=apZ d z b st (aK G st.sl s) (aK G st.sl x):=Eq.trans rfl rfl
theorem aD8{z b:Nat}{zz:List Value}{ps:List (Nat×aH)}:ldZ call G st d (.bslc z b zz ps)=bsO G st d z b zz ps:=Eq.trans rfl rfl
theorem aAW{z:List Value}:ldZ call G st d (.alloc z)=some ⟨aQ st.sl d (.one (.ptr st.hp.length 0)),st.hp++[.box (z.map dA)]⟩:=Eq.trans rfl rfl
theorem aAX{n:Nat}{x v:aH}:ldZ call G st none (.store n x v)=stX G st n x v:=Eq.trans rfl rfl
theorem aIR{x:aH}:Bg call G st d (.mov x)=some ⟨aQ st.sl d (aK G st.sl x),st.hp⟩:=Eq.trans rfl rfl
theorem aD9{c x y:aH}:Bg call G st d (.pick c x y)=fX st d (Au (aK G st.sl c) (aK G st.sl x) (aK G st.sl y)):=Eq.trans rfl rfl
theorem aEa{g:Bool}{n:Nat}{x:aH}:Bg call G st d (.load g n x)=fX st d (lG st.hp g n (aK G st.sl x)):=Eq.trans rfl rfl
theorem aIS{p:Bool}{z:Value}{x y:aH}:Bg call G st d (.mpx p z x y)=fX st d (Ox p z (aK G st.sl x) (aK G st.sl y)):=Eq.trans rfl rfl
theorem aEb{x:aH}:Bg call G st d (.nilc x)=fX st d (Kg (aK G st.sl x)):=Eq.trans rfl rfl
theorem aIT{op:BinOp}{x y:aH}:Bg call G st d (.bin op x y)=fX st d (eP op (aK G st.sl x) (aK G st.sl y)):=Eq.trans rfl rfl
theorem aEc{n:Bool}{x y:aH}:Bg call G st d (.binb n x y)=fX st d (Kf n (aK G st.sl x) (aK G st.sl y)):=Eq.trans rfl rfl
theorem aIU{n:Bool}{ks:List EK}{x y:aH}:Bg call G st d (.eqs n ks x y)=fX st d (Ow n ks (aK G st.sl x) (aK G st.sl y)):=Eq.trans rfl rfl
theorem aNM{op:UnOp}{x:aH}:Bg call G st d (.un op x)=fX st d (unV op (aK G st.sl x)):=Eq.trans rfl rfl
theorem aEd{k:IntKind}{x:aH}:Bg call G st d (.conv k x)=fX st d (Wp k (bH (aK G st.sl x))):=Eq.trans rfl rfl
theorem aEe{o:Nat}{x:aH}:Bg call G st d (.addo o x)=fX st d (D0 o (aK G st.sl x)):=Eq.trans rfl rfl
theorem aIV{z:Nat}{x i:aH}:Bg call G st d (.ixL z x i)=fX st d (aHB st.hp z (aK G st.sl x) (bH (aK G st.sl i))):=Eq.trans rfl rfl
theorem aIW{x i:aH}:Bg call G st d (.ixS x i)=fX st d (aHC (aK G st.sl x) (bH (aK G st.sl i))):=Eq.trans rfl rfl
theorem aIX{x:aH}{lo hi:Option aH}:Bg call G st d (.slS x lo hi)=fX st d (Jt (aK G st.sl x) (lo.map (aK G st.sl)) (hi.map (aK G st.sl))):=Eq.trans rfl rfl
theorem aAY{z:List Value}{ps:List (Nat×Nat×aH)}:Bg call G st d (.build z ps)=fX st d (aHD (gX (z.map dA) (ps.map fun (o,s,x)=>(o,s,aK G st.sl x)))):=Eq.trans rfl rfl
theorem aIY{x:aH}{n:Nat}:Bg call G st d (.ext x n)=fX st d (S5 (aK G st.sl x) n):=Eq.trans rfl rfl
theorem aEf{x:aH}:Bg call G st d (.lenS x)=fX st d (Wq (dB (aK G st.sl x))):=Eq.trans rfl rfl
theorem aEg{x:aH}:Bg call G st d (.lenL x)=fX st d (rR (aK G st.sl x)):=Eq.trans rfl rfl
theorem aVS{c b:Bool}:gK b (.one (.dc (.raw (.bool c))))=some (eqb c b):=Eq.trans rfl rfl
theorem aIZ{b:Bool}:gK b (.tup [])=some false:=Eq.trans rfl rfl
theorem aEh(c:Bool):eqb c true=c:=by cases c<;>rfl
theorem aAZ(c:Bool):eqb c false=!c:=by cases c<;>rfl
theorem aNN{v:AV}:fX st d (some v)=some ⟨aQ st.sl d v,st.hp⟩:=Eq.trans rfl rfl
end
theorem aI0{x y:AV}:Au (.one (.dc (.raw (.bool true)))) x y=some x:=Eq.trans rfl rfl
theorem aI1{x y:AV}:Au (.one (.dc (.raw (.bool false)))) x y=some y:=Eq.trans rfl rfl
theorem aA0{p:Prop}[Decidable p]{x y:AV}(h:p):Au (.one (.dc (.raw (.bool (decide p))))) x y=some x:=by rw[decide_eq_true h];rfl
theorem aA1{p:Prop}[Decidable p]{x y:AV}(h:¬ p):Au (.one (.dc (.raw (.bool (decide p))))) x y=some y:=by rw[decide_eq_false h];rfl
section
variable {k:IntKind}{x y:Int}
theorem aI2:eP .add (.one (.dc (.raw (.int k x)))) (.one (.dc (.raw (.int k y))))=some (.one (.dc (.raw (.int k (k.wrap (x+y)))))):=by simp[eP,kR]
theorem aI3:eP .sub (.one (.dc (.raw (.int k x)))) (.one (.dc (.raw (.int k y))))=some (.one (.dc (.raw (.int k (k.wrap (x-y)))))):=by simp[eP,kR]
theorem aI4:eP .mul (.one (.dc (.raw (.int k x)))) (.one (.dc (.raw (.int k y))))=some (.one (.dc (.raw (.int k (k.wrap (x*y)))))):=by simp[eP,kR]
theorem aI5:eP .eql (.one (.dc (.raw (.int k x)))) (.one (.dc (.raw (.int k y))))=some (.one (.dc (.raw (.bool (decide (x=y)))))):=by simp[eP,kR,Bool.beq_eq_decide_eq]
theorem aI6:eP .neq (.one (.dc (.raw (.int k x)))) (.one (.dc (.raw (.int k y))))=some (.one (.dc (.raw (.bool (decide (x≠y)))))):=by
 simp only[eP,kR,if_true,aXG,dG];congr 5;rw[aYN];simp
theorem aI7:eP .lss (.one (.dc (.raw (.int k x)))) (.one (.dc (.raw (.int k y))))=some (.one (.dc (.raw (.bool (decide (x<y)))))):=by simp[eP,kR]
theorem aI8:eP .leq (.one (.dc (.raw (.int k x)))) (.one (.dc (.raw (.int k y))))=some (.one (.dc (.raw (.bool (decide (x<=y)))))):=by simp[eP,kR]
theorem aI9:eP .gtr (.one (.dc (.raw (.int k x)))) (.one (.dc (.raw (.int k y))))=some (.one (.dc (.raw (.bool (decide (y<x)))))):=by simp[eP,kR]
theorem aJa:eP .geq (.one (.dc (.raw (.int k x)))) (.one (.dc (.raw (.int k y))))=some (.one (.dc (.raw (.bool (decide (y<=x)))))):=by simp[eP,kR]
end
theorem aJb{x y:ByteArray}:eP .eql (.one (.dc (.raw (.string x)))) (.one (.dc (.raw (.string y))))=some (.one (.dc (.raw (.bool (decide (x=y)))))):=by
 simp only[eP,Gl,aXG,dG];congr 5;rw[aYN];simp[ByteArray.toList_eq,ByteArray.ext_iff,Array.ext_iff]
theorem aNO{c:Bool}:unV .not (.one (.dc (.raw (.bool c))))=some (.one (.dc (.raw (.bool (!c))))):=Eq.trans rfl rfl
theorem aVT(b:Bool):(b==true)=b:=by cases b<;>rfl
theorem aVU(b:Bool):(b==false)=!b:=by cases b<;>rfl
theorem aVV(a b:Int):(a==b)=decide (a=b):=by rw[aYN];simp
theorem aJc{p q:Prop}[Decidable p][Decidable q]:(decide p&&decide q)=decide (p/\q):=by simp
theorem aNP{p q:Prop}[Decidable p][Decidable q]:(decide p||decide q)=decide (p\/q):=by simp
theorem aJd{p:Prop}[Decidable p]:(!decide p)=decide (¬ p):=by simp
theorem kJ{α:Type}{f:α->List DC}{n:Nat}(h:∀x,(f x).length=n)(l:List α):gE n (l.map f)=true:=by
 induction l with
 |nil=>rfl
 |cons x l ih=>simp[gE,ih,h,iM]
theorem kZ{α β:Type}{f:α->β}{l:List α}:List.take l.length (l.map f)=l.map f:=aYe (by simp)
noncomputable def aEi(own:Bool)(rs:List kQ)(n:Nat)(s:AS):Bool->Option (AV×List aC)
 |true=>T6 own n s.hp (rW s rs)
 |false=>none
theorem aNQ{own:Bool}{rs:List kQ}{n:Nat}:C8 own rs n (some (.ret,s))=aEi own rs n s (decide (n<=s.hp.length)):=by
 by_cases h:n<=s.hp.length<;>simp[C8,Kv,h,aEi]
theorem aNR{own:Bool}{rs:List kQ}{n:Nat}:C8 own rs n (some (.normal,s))=aEi own rs n s (decide (n<=s.hp.length)):=by
 by_cases h:n<=s.hp.length<;>simp[C8,Kv,h,aEi]
theorem aNS{own:Bool}{rs:List kQ}{n:Nat}:aEi own rs n s true=T6 own n s.hp (rW s rs):=Eq.trans rfl rfl
def aNT(n:Nat)(hp:List aC)(v:AV):Bool->AV×List aC
 |true=>(Ev v,hp.take n)
 |false=>(Ev v,hp)
theorem aNU{n:Nat}{hp:List aC}{v:AV}:T6 true n hp (some v)=some (aNT n hp v (cV (fun id=>decide (n<=id)) v&&(hp.take n).all (nX fun id=>decide (n<=id)))):=by
 simp only[T6,aNe,cond_true];cases (cV (fun id=>decide (n<=id)) v&&(hp.take n).all (nX fun id=>decide (n<=id)))<;>rfl
theorem aNV{n:Nat}{hp:List aC}{v:AV}:aNT n hp v true=(Ev v,hp.take n):=Eq.trans rfl rfl
theorem aNW{n:Nat}{hp:List aC}{v:AV}:aNT n hp v false=(Ev v,hp):=Eq.trans rfl rfl
def aR3(n:Nat)(st:AS):AV×List aC:=(Ev (bD (fun id=>decide (n<=id)) (st.sl.getD 0 .junk)),(st.hp.take n).map (cJ fun id=>decide (n<=id)))
theorem aNX{n:Nat}{hp:List aC}{v:AV}:T6 false n hp (some v)=some (aR3 n (bU (jE v) (bxW n (jE v) ⟨[v],hp⟩ (Tw v)))):=Eq.trans rfl rfl
theorem aR4{n:Nat}{ids:List Nat}:bxW n ids st true=Bc n ids st:=Eq.trans rfl rfl
theorem aR5{n:Nat}{ids:List Nat}:bxW n ids st false=st:=Eq.trans rfl rfl
theorem aR6{id:Nat}{cs:List aT}:bx1 id st (.box cs) true=bxB id cs st:=Eq.trans rfl rfl
theorem aR7{id:Nat}{o:aC}:bx1 id st o false=st:=by cases o<;>rfl
def aR8:Option TV->Option (List TV)->Option (List TV)
 |some a,some l=>some (a::l)
 |_,_=>none
def aA2(st:AS):List kQ->Option (List TV)
 |[]=>some []
 |r::rs=>aR8 ((fW st r).bind rV) (aA2 st rs)
theorem aNY{a:TV}{l:List TV}:aR8 (some a) (some l)=some (a::l):=Eq.trans rfl rfl
theorem Xt(st:AS):∀rs:List kQ,rs.mapM (fun r=>(fW st r).bind rV)=aA2 st rs
 |[]=>rfl
 | r::rs=>by
  rw[aYw,Xt st rs,aA2];cases (fW st r).bind rV<;>cases aA2 st rs<;>rfl
theorem aNZ{st:AS}:rW st []=some (.tup []):=Eq.trans rfl rfl
theorem aN0{st:AS}{r:kQ}:rW st [r]=fW st r:=Eq.trans rfl rfl
theorem aN1{st:AS}{r q:kQ}{rs:List kQ}:rW st (r::q::rs)=(aA2 st (r::q::rs)).map .tup:=by
 rw[<- Xt];rfl
theorem aA{G:aE}{T:HT}{f:FuncId}{h:HF}{args:List AV}{hp:List aC}{r:AV×List aC}(hT:T.tab f=some h)(he:C8 h.own h.rs hp.length (EC (EV G T) G h.code ⟨args++rS (h.nt-args.length),hp⟩)=some r):EV G T f args hp=some r:=aLO hT he
end
section
variable {call:aO}{G:aE}{st:AS}{d:Option Nat}{f:FuncId}{xs:List aH}{av:AV}{os:List aC}{o:aC}
def aN2(call:aO)(G:aE)(d:Option Nat)(f:FuncId)(xs:List aH)(st:AS):Bool->Option AS
 |true=>vwK call G d f xs st (call f (Ex G st xs) [])
 |false=>kG (kI call) d f (xs.map (aK G (bU (lJ G st.sl xs) st).sl)) (bU (lJ G st.sl xs) st)
def aN3(call:aO)(G:aE)(d:Option Nat)(f:FuncId)(xs:List aH)(st:AS)(av:AV):Bool->Option AS
 |true=>some ⟨aQ st.sl d av,st.hp⟩
 |false=>T1 call G d f xs (bU (lJ G st.sl xs) st)
def aN4(call:aO)(G:aE)(d:Option Nat)(f:FuncId)(xs:List aH)(st:AS)(av:AV):Bool->Option AS
 |true=>some ⟨aQ st.sl d av,st.hp⟩
 |false=>dnZ call G d f xs st
def aR9(call:aO)(G:aE)(d:Option Nat)(f:FuncId)(xs:List aH)(st:AS):Bool->Option AS
 |true=>dnK d st (call f (jF G st.sl xs) [])
 |false=>none
def aSa(d:Option Nat)(st:AS)(av:AV)(os:List aC):Bool->Option AS
 |true=>some ⟨aQ st.sl d (cY (cF [] st.hp.length) av),st.hp++os.map (dC (cF [] st.hp.length))⟩
 |false=>none
def aSb(call:aO)(G:aE)(d:Option Nat)(f:FuncId)(xs:List aH)(st:AS):Bool->Option AS
 |true=>nwK d st (call f (jF G st.sl xs) [])
 |false=>none
def aSc(call:aO)(G:aE)(d:Option Nat)(f:FuncId)(xs:List aH)(st:AS):Bool->Option AS
 |true=>qcK d st (call f (jF G st.sl xs) [])
 |false=>none
theorem aSd:clZ call G d f xs st=aN2 call G d f xs st (qY G st.sl xs):=by unfold clZ;cases qY G st.sl xs<;>rfl
theorem aN5:aN2 call G d f xs st true=vwK call G d f xs st (call f (Ex G st xs) []):=Eq.trans rfl rfl
theorem aN6:aN2 call G d f xs st false=kG (kI call) d f (xs.map (aK G (bU (lJ G st.sl xs) st).sl)) (bU (lJ G st.sl xs) st):=Eq.trans rfl rfl
theorem aSe:T1 call G d f xs st=aSb call G d f xs st ((jF G st.sl xs).all (cV fun _=>true)):=by unfold T1;cases (jF G st.sl xs).all (cV fun _=>true)<;>rfl
theorem aN7:aSb call G d f xs st true=nwK d st (call f (jF G st.sl xs) []):=Eq.trans rfl rfl
theorem aSf:Bg call G st d (.call f xs)=aSc call G d f xs st ((jF G st.sl xs).all (cV fun _=>true)):=by rw[Bg];cases (jF G st.sl xs).all (cV fun _=>true)<;>rfl
theorem aN8:aSc call G d f xs st true=qcK d st (call f (jF G st.sl xs) []):=Eq.trans rfl rfl
theorem aN9:aN3 call G d f xs st av true=some ⟨aQ st.sl d av,st.hp⟩:=Eq.trans rfl rfl
theorem aOa:aN3 call G d f xs st av false=T1 call G d f xs (bU (lJ G st.sl xs) st):=Eq.trans rfl rfl
theorem aOb:aN4 call G d f xs st av true=some ⟨aQ st.sl d av,st.hp⟩:=Eq.trans rfl rfl
theorem aOc:aN4 call G d f xs st av false=dnZ call G d f xs st:=Eq.trans rfl rfl
theorem aSg:dnZ call G d f xs st=aR9 call G d f xs st ((jF G st.sl xs).all (cV fun _=>true)):=by unfold dnZ;cases (jF G st.sl xs).all (cV fun _=>true)<;>rfl
theorem aOd:aR9 call G d f xs st true=dnK d st (call f (jF G st.sl xs) []):=Eq.trans rfl rfl
theorem aSh:dnK d st (some (av,os))=aSa d st av os (P6 os):=by rw[dnK];cases P6 os<;>rfl
theorem aOe:aSa d st av os true=some ⟨aQ st.sl d (cY (cF [] st.hp.length) av),st.hp++os.map (dC (cF [] st.hp.length))⟩:=Eq.trans rfl rfl
theorem aSi:vwK call G d f xs st (some (av,[]))=aN3 call G d f xs st av (lI av):=by rw[vwK];cases lI av<;>rfl
theorem aSj:vwK call G d f xs st (some (av,o::os))=T1 call G d f xs (bU (lJ G st.sl xs) st):=Eq.trans rfl rfl
theorem aSk:dvK call G d f xs st (some (av,[]))=aN4 call G d f xs st av (lI av):=by rw[dvK];cases lI av<;>rfl
theorem aSl:nwK d st (some (av,os))=some ⟨aQ st.sl d (cY (cF [] st.hp.length) av),st.hp++os.map (dC (cF [] st.hp.length))⟩:=Eq.trans rfl rfl
theorem aSm:qcK d st (some (av,[]))=bif cV (fun _=>true) av then some ⟨aQ st.sl d av,st.hp⟩ else none:=Eq.trans rfl rfl
theorem aSn:qcK d st (some (av,o::os))=qcF d st (bD (fun id=>decide (0<=id)) ((bU (jE av) ⟨[av],o::os⟩).sl.getD 0 .junk)):=Eq.trans rfl rfl
theorem aSo{caps:List aT}:cvK call G d xs st (.one (.fn f caps))=kG (kI call) d f (xs.map (aK G st.sl)++caps.map AV.one) st:=Eq.trans rfl rfl
theorem aSp{size bytes id n:Nat}{x:AV}:apZ d size bytes st (.one (.bld id n)) x=apB d size bytes st id n (aI st.hp id) (qS st.hp x):=Eq.trans rfl rfl
theorem aSq{size bytes id n c sz:Nat}{es news:List (List DC)}:apB d size bytes st id n (.arr c sz es) (some news)=if sz=size/\n<=es.length/\gE size news=true/\(n+news.length)*bytes<=140737488355328 then
 some ⟨aQ (klS id st.sl) d (.one (.bld id (n+news.length))),(klH id st.hp).set id (.arr 0 size (es.take n++news))⟩ else none:=rfl
theorem aSr{size bytes:Nat}{news:List (List DC)}:apN d size bytes st (some news)=if gE size news=true/\news.length*bytes<=140737488355328 then
 some ⟨aQ st.sl d (.one (.bld st.hp.length news.length)),klH st.hp.length st.hp++[.arr 0 size news]⟩ else none:=rfl
theorem aSs{size len:Nat}{cs:List aT}{ds:List DC}:bsP st d size len cs (some ds)=if ds.length=len*size then some ⟨aQ st.sl d (.one (.bld st.hp.length len)),st.hp++[.arr 0 size (fE size len ds)]⟩ else none:=Eq.trans rfl rfl
theorem aSt{size len:Nat}{cs:List aT}:bsP st d size len cs none=if size=1 then some ⟨aQ st.sl d (.one (.bls st.hp.length 0 len 1)),st.hp++[.box cs]⟩ else none:=Eq.trans rfl rfl
theorem aJe{a b:Nat}{cs:List aT}:dcs (.ptr a b::cs)=none:=rfl
theorem aSu{size len:Nat}{z:List Value}{ps:List (Nat×aH)}:bsZ G st d size len z ps true=bsX G (bU (Hj G st.sl ps) st) d size len z ps:=Eq.trans rfl rfl
theorem aSv{size len:Nat}{z:List Value}{ps:List (Nat×aH)}:bsZ G st d size len z ps false=bsO G (bU (Hj G st.sl ps) st) d size len z ps:=Eq.trans rfl rfl
theorem aSw{id c s:Nat}{es:List (List DC)}:bvZ id st (.arr c s es)=bv1 id s es st es.isEmpty:=Eq.trans rfl rfl
theorem aSx{id s:Nat}{es:List (List DC)}:bv1 id s es st true=bU [id] st:=Eq.trans rfl rfl
theorem aSy{id s:Nat}{es:List (List DC)}:bv1 id s es st false=bvB id s es st:=Eq.trans rfl rfl
theorem aSz{i sz:Nat}:ghN i sz st (.one (.dc (.raw (.slice none 0 0))))=⟨st.sl.set i (.one (.bld st.hp.length 0)),st.hp++[.arr 0 sz []]⟩:=Eq.trans rfl rfl
theorem aSA{j sz id off:Nat}:ghB j sz st (.one (.ptr id off))=aHU id (off+j) sz st (aI st.hp id):=Eq.trans rfl rfl
theorem aOf{id j sz:Nat}{cs:List aT}:aHU id j sz st (.box cs)=aHT id j sz cs st cs[j]?:=Eq.trans rfl rfl
theorem aOg{id j sz:Nat}{cs:List aT}:aHT id j sz cs st (some (.dc (.raw (.slice none 0 0))))=⟨st.sl,st.hp.set id (.box (cs.set j (.bld st.hp.length 0)))++[.arr 0 sz []]⟩:=Eq.trans rfl rfl
def sbK(n:Nat):aC->Option (List (List DC))
 |.arr _ _ es=>if n<=es.length then some (es.take n) else none
 |_=>none
theorem aOh{hp:List aC}{id n:Nat}:qS hp (.one (.bld id n))=sbK n (aI hp id):=by
 simp only[qS];cases aI hp id<;>rfl
theorem aSB{n c z:Nat}{es:List (List DC)}:sbK n (.arr c z es)=if n<=es.length then some (es.take n) else none:=Eq.trans rfl rfl
theorem aOi{hp:List aC}{es:List (List DC)}:qS hp (.one (.dc (.slc es)))=some es:=Eq.trans rfl rfl
end
section
variable {k:IntKind}{x y:Int}
theorem aJf:eP .quo (.one (.dc (.raw (.int k x)))) (.one (.dc (.raw (.int k y))))=if y=0 then none else some (.one (.dc (.raw (.int k (k.wrap (x.tdiv y)))))):=by
 simp only[eP,kR,if_true];split<;>rfl
theorem aJg:eP .rem (.one (.dc (.raw (.int k x)))) (.one (.dc (.raw (.int k y))))=if y=0 then none else some (.one (.dc (.raw (.int k (x.tmod y))))):=by
 simp only[eP,kR,if_true];split<;>rfl
def Uh(k:IntKind)(x y:Int):Int:=k.wrap (BitVec.ofInt k.bits x &&& BitVec.ofInt k.bits y).toNat
def Ui(k:IntKind)(x y:Int):Int:=k.wrap (BitVec.ofInt k.bits x ||| BitVec.ofInt k.bits y).toNat
theorem aJh:eP .and (.one (.dc (.raw (.int k x)))) (.one (.dc (.raw (.int k y))))=some (.one (.dc (.raw (.int k (Uh k x y))))):=by simp[eP,kR,Uh]
theorem aOj:eP .or (.one (.dc (.raw (.int k x)))) (.one (.dc (.raw (.int k y))))=some (.one (.dc (.raw (.int k (Ui k x y))))):=by simp[eP,kR,Ui]
theorem aJi{j:IntKind}(h:0<=y):eP .shl (.one (.dc (.raw (.int j x)))) (.one (.dc (.raw (.int k y))))=some (.one (.dc (.raw (.int j (j.wrap (x*2 ^ (min y.toNat j.bits))))))):=by
 simp only[eP];rw[if_neg (by omega)]
theorem aJj{j:IntKind}(h:0<=y):eP .shr (.one (.dc (.raw (.int j x)))) (.one (.dc (.raw (.int k y))))=some (.one (.dc (.raw (.int j (x.fdiv (2 ^ (min y.toNat j.bits))))))):=by
 simp only[eP];rw[if_neg (by omega)]
theorem aOk:unV .neg (.one (.dc (.raw (.int k x))))=some (.one (.dc (.raw (.int k (k.wrap (0-x)))))):=Eq.trans rfl rfl
theorem Bl{a b:ByteArray}(h:a.size+b.size<=9223372036854775807):eP .add (.one (.dc (.raw (.string a)))) (.one (.dc (.raw (.string b))))=some (.one (.dc (.raw (.string (a++b))))):=by
 simp only[eP,Gl];rw[if_pos h];rfl
theorem Uj{x y:ByteArray}:(x.toList==y.toList)=decide (x=y):=by
 rw[aYN];simp[ByteArray.toList_eq,ByteArray.ext_iff,Array.ext_iff]
theorem aEj{x y:ByteArray}:eP .neq (.one (.dc (.raw (.string x)))) (.one (.dc (.raw (.string y))))=some (.one (.dc (.raw (.bool (decide (x≠y)))))):=by
 simp only[eP,Gl,aXG,dG,Uj];congr 5;simp
end
section
variable {call:aO}{G:aE}{st s s':AS}{l:List aN}
variable {r:Nat}{prs:List (Nat×Nat)}{acc:List FP}{d:Option Nat}{ai:AI}{f:FP}{R:List Nat}
def fvK(call:aO)(G:aE)(prs:List (Nat×Nat))(acc:List FP)(r:Nat)(l:List aN):Option (AS×FP)->Option AS
 |some (s,f)=>T5 call G prs (acc++[f]) r l (some s)
 |none=>none
theorem aA3{ops:List aN}:EC call G (.drawnF prs ops) st=nrm (T5 call G prs [] st.hp.length ops (some ⟨st.sl,st.hp++Bh (nAl ops)⟩)):=Eq.trans rfl rfl
theorem aJk:T5 call G prs acc r [] (some st)=bif Jy prs acc then some st else none:=Eq.trans rfl rfl
theorem aSC{g:Option (Nat×Bool)}{l:List aN}:T5 call G prs acc r (⟨d,ai,g⟩::l) (some st)=fvK call G prs acc (bif aAI ai then r+1 else r) l (fvO call G st d r ai g):=by rw[T5];cases fvO call G st d r ai g<;>rfl
theorem aSD{l:List aN}:fvK call G prs acc r l (some (st,f))=T5 call G prs (acc++[f]) r l (some st):=Eq.trans rfl rfl
theorem aSE:fvO call G st d r ai none=Jx call G st d r ai:=Eq.trans rfl rfl
theorem aA4{z:List Value}:Jx call G st d r (.alloc z)=fvN d r z st st.hp[r]?:=Eq.trans rfl rfl
theorem aSF{z:List Value}:fvN d r z st (some .dead)=some (⟨aQ st.sl d (.one (.ptr r 0)),st.hp.set r (.box (z.map dA))⟩,[r],[]):=Eq.trans rfl rfl
theorem aA5{n:Nat}{x v:aH}:Jx call G st d r (.store n x v)=fvS d n st (aK G st.sl x) (cellsOf (aK G st.sl v)):=Eq.trans rfl rfl
theorem aSG{n id off:Nat}{vs:List aT}:fvS none n st (.one (.ptr id off)) (some vs)=fvT n id off vs st st.hp[id]?:=Eq.trans rfl rfl
theorem aLT{n id off:Nat}{vs cs:List aT}(h1:vs.length=n)(h2:off+n<=cs.length):fvT n id off vs st (some (.box cs))=some (⟨st.sl,st.hp.set id (.box (cQ cs off vs))⟩,[id],[id]):=if_pos ⟨h1,h2⟩
theorem aEk{f:FuncId}{xs:List aH}:Jx call G st d r (.call f xs)=fvC call G st d f xs ((xs.map (aK G st.sl)).flatMap jE):=Eq.trans rfl rfl
theorem aEl{x y:aH}:Jx call G st d r (.cpys x y)=fvY d st (aK G st.sl x) (dB (aK G st.sl y)):=Eq.trans rfl rfl
theorem aSH{id lo n:Nat}{bs:ByteArray}:fvY d st (.one (.bls id lo n 1)) (some bs)=aHY d id lo n bs st st.hp[id]?:=by simp only[fvY,if_true]
theorem aOl{id lo n:Nat}{bs:ByteArray}{cs:List aT}(h:lo+n<=cs.length):aHY d id lo n bs st (some (.box cs))=some (⟨aQ st.sl d (dG (.int .i64 (min bs.size n:Nat))),st.hp.set id (.box (cQ cs lo (dZ (bs.data.toList.take n))))⟩,[id],[id]):=if_pos h
theorem aSI{f:FuncId}{xs:List aH}:fvC call G st d f xs []=S4 [] (Bg call G st d (.call f xs)):=Eq.trans rfl rfl
theorem aSJ{f:FuncId}{xs:List aH}{id:Nat}:fvC call G st d f xs [id]=fvB call d f st (xs.map (aK G st.sl)) id st.hp[id]?:=Eq.trans rfl rfl
theorem aSK:S4 R (some s)=some (s,[],R):=Eq.trans rfl rfl
theorem aSL{c:aT}:Oq (.one c)=fpC c:=Eq.trans rfl rfl
theorem aSM{sl:List AV}:fpA G sl []=[]:=Eq.trans rfl rfl
theorem aSN{sl:List AV}{x:aH}{xs:List aH}:fpA G sl (x::xs)=Oq (aK G sl x)++fpA G sl xs:=Eq.trans rfl rfl
theorem aSO:nAl []=0:=Eq.trans rfl rfl
theorem aSP{g:Option (Nat×Bool)}{l:List aN}:nAl (⟨d,ai,g⟩::l)=bif aAI ai then nAl l+1 else nAl l:=Eq.trans rfl rfl
theorem aJl:Bh 0=[]:=Eq.trans rfl rfl
theorem aJm:Bh 3=[.dead,.dead,.dead]:=Eq.trans rfl rfl
theorem aOm{fs:List FP}:Jy [] fs=true:=Eq.trans rfl rfl
theorem aOn{p q:Nat}{fs:List FP}:Jy ((p,q)::prs) fs=(dsM (atF fs p) (atF fs q)&&Jy prs fs):=Eq.trans rfl rfl
theorem aSQ{a b c e:List Nat}:dsM (a,b) (c,e)=(E0 a e&&(E0 a c&&E0 c b)):=Eq.trans rfl rfl
theorem aOo{b:List Nat}:E0 [] b=true:=Eq.trans rfl rfl
theorem aOp{x:Nat}{a b:List Nat}:E0 (x::a) b=(!P8 b x&&E0 a b):=Eq.trans rfl rfl
theorem aOq{x:Nat}:P8 [] x=false:=Eq.trans rfl rfl
theorem aOr{x y:Nat}{a:List Nat}:P8 (y::a) x=(nq x y||P8 a x):=Eq.trans rfl rfl
theorem aSR{fs:List FP}:atF (f::fs) 0=f:=Eq.trans rfl rfl
theorem aSS{fs:List FP}{n:Nat}:atF (f::fs) (n+1)=atF fs n:=Eq.trans rfl rfl
theorem aJn{x:aH}:Jx call G st d r (.mov x)=S4 (fpA G st.sl [x]) (lK call G st [] d (.mov x)):=Eq.trans rfl rfl
theorem aEm{g:Bool}{n:Nat}{x:aH}:Jx call G st d r (.load g n x)=S4 (fpA G st.sl [x]) (lK call G st [] d (.load g n x)):=Eq.trans rfl rfl
theorem aJo{op:BinOp}{x y:aH}:Jx call G st d r (.bin op x y)=S4 (fpA G st.sl [x,y]) (lK call G st [] d (.bin op x y)):=Eq.trans rfl rfl
theorem aEn{o:Nat}{x:aH}:Jx call G st d r (.addo o x)=S4 (fpA G st.sl [x]) (lK call G st [] d (.addo o x)):=Eq.trans rfl rfl
theorem aJp{z:Nat}{x:aH}{lo hi:Option aH}:Jx call G st d r (.slL z x lo hi)=S4 (fpA G st.sl (x::(lo.toList++hi.toList))) (lK call G st [] d (.slL z x lo hi)):=Eq.trans rfl rfl
end
attribute [go_sem] aA3 aJk aSC aSD aSE aA4 aSF aA5 aSG aLT aEl aSH aOl aEk aSI aSJ aSK aSL aSM aSN aSO aSP aJl aJm aOm aOn aSQ aOo aOp aOq aOr aSR aSS fpC aAI aJn aEm aJo aEn aJp
attribute [go_sem] aIi aNs aIj aAO aDM Ue aIl aDN aIm aRF aDO aLS aRG aRH aRI aRJ aIn aIo aNt aNu aNv aRK aRL aRM aRN aIq aRO aRR aRS aRT aRU aIu aIv aRV aRW aIw aIx aRX aRY aDR aND
attribute [go_sem] aSw aSx aSy P5 bvB bvC P4 bvV bvT bvS bvO bvH
attribute [go_sem] aR4 aR5 aR6 aR7 Bc bxB bxV bxT bxC bxD bxO Tw aHR Wx aQ6 aDm
attribute [go_sem] aAQ aIr aNx aNy aNz aIt gY
attribute [go_sem] aNC Bf aID aIS aDT aDU aAD aNF aNG aNK aNH aDV aAE aNI aR0 aIz aIk aDQ aNA aRP aRQ aNB jU Mv Py aAC aNJ aIA mkZ aRZ aNE aDS aAR aIy aDW aAS aIB aAT aIC aDX aDY aDZ aIE aD0 aIF aNL aD1 aD2 aD3 aIG aIH aIK aIL aIM aAU aIN aD4 aD5 aIO aIP aD6
attribute [go_sem] aR1 aR2 aD7 aAV aIQ aD8 aAW aAX aIR aD9 aEa aEb aIT aEc aIU aNM aEd aEe aIV aIW aIX aAY aIY aEf aEg aVS aIZ aEh aAZ aNN aI0 aI1 aA0 aA1 aI2 aI3 aI4 aI5 aI6 aI7 aI8 aI9 aJa aJb aNO aJc aNP aJd
attribute [go_sem] aVV and_false false_and or_false false_or or_true true_or aYK aYt Bool.or_true Bool.or_false not_true_eq_false not_false_eq_true List.flatMap_cons List.flatMap_nil aVT aVU Ai gE kZ aNQ aNR aNS aVR aNw aAP Ug jk aIp Xs aNU aNV aNW aR3 aNX
attribute [go_sem] aSs aSt aJe aII aIJ
attribute [go_sem] aSg aOd aSh aOe aM6 P6 aSd aN5 aN6 aSe aN7 aSf aN8 aN9 aOa aOb aOc aSi aSj aSk aSl aSm aSn qcF List.getD_cons_zero aSo aSp aSq aSr aSu aSv aSz aSA aOf aOg aOi aOh aSB aJf aJg aJh aOj aJi aJj aOk Bl aEj ghE klC Tz klV klS klO klH T0 aDq qY Ex jF aM4 aDo aDp lJ kI cvZ isT aM7 aLN aM8 aHW Hj bsO ctC Jz ctV ctO ctH ctS jY bU lE kE hZ jE aC3 idsL aQY cV keepL Ea nX aT.keep bD cG sG cJ cY jN Gw renL dC cF Af rS aNY aA2 aNZ aN0 aN1 rV fW
end
section
def jP(x:Nat):List Nat->Bool
 |[]=>false
 |j::J=>nq x j||jP x J
theorem Ft(x:Nat):∀J:List Nat,jP x J=J.contains x
 |[]=>rfl
 |j::J=>by rw[jP,List.contains_cons,Ft x J,iM]
def rcB(hp:List aC)(n id:Nat)(todo J:List Nat):Bool->List Nat
 |true=>sX hp n todo J
 |false=>sX hp n (aHx (aI hp id)++todo) (J++[id])
theorem aA6{hp:List aC}{n:Nat}{J:List Nat}:sX hp n [] J=J:=by cases n<;>rfl
theorem aJq{hp:List aC}{n id:Nat}{todo J:List Nat}:sX hp (n+1) (id::todo) J=rcB hp n id todo J (jP id J):=by
 rw[sX,Ft];cases J.contains id<;>rfl
theorem aST{hp:List aC}{n id:Nat}{todo J:List Nat}:rcB hp n id todo J false=sX hp n (aHx (aI hp id)++todo) (J++[id]):=Eq.trans rfl rfl
def Qp:List Nat->Bool
 |[]=>true
 |j::J=>!jP j J&&Qp J
theorem Xu:∀J:List Nat,Qp J=mX (fun i j=>i != j) J
 |[]=>rfl
 | j::J=>by
  rw[Qp,mX,Xu J,Ft];congr 1
  induction J with
  | nil=>rfl
  | cons i J ih=>simp only[List.contains_cons,List.all_cons,Bool.not_or,ih];rfl
def kpC(J:List Nat):aT->Bool
 |.ptr id _=>jP id J
 |.bld id _=>jP id J
 |.ept id _ _ _=>jP id J
 |.bls id _ _ _=>jP id J
 |.fn f caps=>(aT.fn f caps).keep (kF J)
 |.dc _=>true
 |.ref _=>true
 |.mpc _=>true
 |.junk=>true
def Bm(J:List Nat):List aT->Bool
 |[]=>true
 |c::cs=>kpC J c&&Bm J cs
def kpV(J:List Nat):AV->Bool
 |.one c=>kpC J c
 |.agg cs=>Bm J cs
 |.tup l=>l.all (Ea (kF J))
 |.junk=>true
def Mz(J:List Nat):List AV->Bool
 |[]=>true
 |v::vs=>kpV J v&&Mz J vs
def kpO(J:List Nat):aC->Bool
 |.box cs=>Bm J cs
 |.arr _ _ _=>true
 |.dead=>true
def kpH(J:List Nat)(hp:List aC):List Nat->Bool
 |[]=>true
 |j::l=>decide (j<hp.length)&&kpO J (aI hp j)&&kpH J hp l
theorem aEo(J:List Nat)(c:aT):kpC J c=c.keep (kF J):=by
 cases c<;>simp[kpC,aT.keep,kF,Ft]
theorem M0(J:List Nat):∀cs,Bm J cs=keepL (kF J) cs
 |[]=>rfl
 |c::cs=>by rw[Bm,keepL,aEo,M0 J cs]
theorem aOs(J:List Nat)(v:AV):kpV J v=cV (kF J) v:=by
 cases v<;>simp[kpV,cV,aEo,M0]
theorem M4(J:List Nat):∀vs,Mz J vs=vs.all (cV (kF J))
 |[]=>rfl
 |v::vs=>by rw[Mz,List.all_cons,aOs,M4 J vs]
theorem aOt(J:List Nat)(o:aC):kpO J o=nX (kF J) o:=by
 cases o<;>simp[kpO,nX,M0]
theorem aEp(J:List Nat)(hp:List aC):∀l,kpH J hp l=l.all fun j=>decide (j<hp.length)&&nX (kF J) (aI hp j)
 |[]=>rfl
 |j::l=>by rw[kpH,List.all_cons,aOt,aEp J hp l]
def arB(j:Nat)(l:List Nat):aC->List Nat
 |.box _=>l
 |_=>j::l
def arJ(hp:List aC):List Nat->List Nat
 |[]=>[]
 |j::J=>arB j (arJ hp J) (aI hp j)
def kaC(A:List Nat):aT->aT
 |.dc d=>.dc d
 |.ref cs=>.ref cs
 |.mpc es=>.mpc es
 |.junk=>.junk
 |.ptr j o=>bif jP j A then .junk else .ptr j o
 |.bld j n=>bif jP j A then .junk else .bld j n
 |.ept j i s o=>bif jP j A then .junk else .ept j i s o
 |.bls j i s o=>bif jP j A then .junk else .bls j i s o
 |.fn f caps=>cG (fun id=>jP id A) (.fn f caps)
def aA7(A:List Nat):List aT->List aT
 |[]=>[]
 |c::cs=>kaC A c::aA7 A cs
def kaV(A:List Nat):AV->AV
 |.one c=>.one (kaC A c)
 |.agg cs=>.agg (aA7 A cs)
 |.tup l=>.tup (l.map (sG fun id=>jP id A))
 |.junk=>.junk
def kaS(A:List Nat):List AV->List AV
 |[]=>[]
 |v::vs=>kaV A v::kaS A vs
def kaO(A:List Nat):aC->aC
 |.box cs=>.box (aA7 A cs)
 |.arr c s es=>.arr c s es
 |.dead=>.dead
def kaH(A:List Nat):List aC->List aC
 |[]=>[]
 |o::os=>kaO A o::kaH A os
theorem aEq(A:List Nat)(c:aT):kaC A c=cG (fun id=>jP id A) c:=by
 cases c<;>simp only[kaC,cG,aT.keep,if_true]
 case ptr j o=>
  by_cases h:jP j A=true;simp[h];simp[h,(aYY.2 h:jP j A=false)]
 case bld j n=>
  by_cases h:jP j A=true;simp[h];simp[h,(aYY.2 h:jP j A=false)]
 case ept j i s o=>
  by_cases h:jP j A=true;simp[h];simp[h,(aYY.2 h:jP j A=false)]
 case bls j i s o=>
  by_cases h:jP j A=true;simp[h];simp[h,(aYY.2 h:jP j A=false)]
theorem M5(A:List Nat):∀cs,aA7 A cs=cs.map (cG fun id=>jP id A)
 |[]=>rfl
 |c::cs=>by simp[aA7,aEq,M5 A cs]
theorem aOv(A:List Nat)(v:AV):kaV A v=bD (fun id=>jP id A) v:=by
 cases v<;>simp only[kaV,bD,aEq,M5]
theorem aEr(A:List Nat):∀l,kaS A l=l.map (bD fun id=>jP id A)
 |[]=>rfl
 |c::cs=>by simp[kaS,aOv,aEr A cs]
theorem aEs(A:List Nat):∀l,kaH A l=l.map (cJ fun id=>jP id A)
 |[]=>rfl
 |o::os=>by cases o<;>simp[kaH,kaO,cJ,M5,aEs A os]
theorem aEt(hp:List aC):∀J:List Nat,(fun id=>jP id (arJ hp J))=fun id=>J.contains id&&!hZ (aI hp id)
 |[]=>by funext id;rfl
 | j::J=>by
  funext id;have ih:jP id (arJ hp J)=(J.contains id&&!hZ (aI hp id)):=congrFun (aEt hp J) id;rw[List.contains_cons,arJ];by_cases h:id=j
  ·subst h;cases ho:aI hp id with
   | box cs=>rw[arB,ih,ho];simp[hZ]
   | _=>simp[arB,jP,iM,hZ]
  ·have hb:(id==j)=false:=by simpa using h
   cases ho:aI hp j with
   | box cs=>rw[arB,ih,hb,aYt]
   | _=>simp only[arB,jP,iM,hb,aYt];exact ih
def afB(J:List Nat)(st:AS)(d:Option Nat)(av:AV)(os:List aC):List Nat->AS
 |[]=>⟨aQ st.sl d (cY (cF J st.hp.length) av),kE J (os.map (dC (cF J st.hp.length))) st.hp++(os.drop J.length).map (dC (cF J st.hp.length))⟩
 |a::A=>⟨aQ (kaS (a::A) st.sl) d (cY (cF J st.hp.length) av),kE J (os.map (dC (cF J st.hp.length))) (kaH (a::A) st.hp)++(os.drop J.length).map (dC (cF J st.hp.length))⟩
theorem aEu{J:List Nat}{st:AS}{d:Option Nat}{av:AV}{os:List aC}:iA J st d av os=afB J st d av os (arJ st.hp J):=by
 unfold iA;rw[<- aEt];cases h:arJ st.hp J with
 |nil=>
  have hn:∀id,jP id []=false:=fun _=>rfl
  rw[pS hn,pT hn];rfl
 |cons a A=>rw[afB,aEr,aEs]
theorem aSX{J:List Nat}{st:AS}{d:Option Nat}{av:AV}{os:List aC}:afB J st d av os []=⟨aQ st.sl d (cY (cF J st.hp.length) av),kE J (os.map (dC (cF J st.hp.length))) st.hp++(os.drop J.length).map (dC (cF J st.hp.length))⟩:=Eq.trans rfl rfl
def evJ(call:aO)(d:Option Nat)(f:FuncId)(avs:List AV)(st:AS)(J:List Nat):Option AS:=if okJ J st.hp avs then (call f (avs.map (cY (lE J))) (J.map fun j=>dC (lE J) (aI st.hp j))).map fun r=>iA J st d r.1 r.2 else none
def evK(d:Option Nat)(st:AS)(J:List Nat):Option (AV×List aC)->Option AS
 |some (av,os)=>some (iA J st d av os)
 |none=>none
def evB(call:aO)(d:Option Nat)(f:FuncId)(avs:List AV)(st:AS)(J:List Nat):Bool->Option AS
 |true=>evK d st J (call f (avs.map (cY (lE J))) (J.map fun j=>dC (lE J) (aI st.hp j)))
 |false=>none
theorem aEv{call:aO}{d:Option Nat}{f:FuncId}{avs:List AV}{st:AS}:kG call d f avs st=evJ call d f avs st (sX st.hp 2000 (avs.flatMap jE) []):=Eq.trans rfl rfl
theorem aEw{call:aO}{d:Option Nat}{f:FuncId}{avs:List AV}{st:AS}(J:List Nat):evJ call d f avs st J=evB call d f avs st J (Qp J&&kpH J st.hp J&&Mz J avs):=by
 unfold evJ okJ;rw[Xu,aEp,M4];cases (mX (fun i j=>i != j) J&&(J.all fun j=>decide (j<st.hp.length)&&nX (kF J) (aI st.hp j))&&avs.all (cV (kF J))) with
 |false=>rfl
 |true=>
  simp only[if_true,evB];cases call f (avs.map (cY (lE J))) (J.map fun j=>dC (lE J) (aI st.hp j))<;>rfl
theorem aSY{call:aO}{d:Option Nat}{f:FuncId}{avs:List AV}{st:AS}:evJ call d f avs st []=evB call d f avs st [] (Qp []&&kpH [] st.hp []&&Mz [] avs):=aEw _
theorem aSZ{call:aO}{d:Option Nat}{f:FuncId}{avs:List AV}{st:AS}{a:Nat}:evJ call d f avs st [a]=evB call d f avs st [a] (Qp [a]&&kpH [a] st.hp [a]&&Mz [a] avs):=aEw _
theorem aS0{call:aO}{d:Option Nat}{f:FuncId}{avs:List AV}{st:AS}{a b:Nat}:evJ call d f avs st [a,b]=evB call d f avs st [a,b] (Qp [a,b]&&kpH [a,b] st.hp [a,b]&&Mz [a,b] avs):=aEw _
theorem aS1{call:aO}{d:Option Nat}{f:FuncId}{avs:List AV}{st:AS}{J:List Nat}:evB call d f avs st J true=evK d st J (call f (avs.map (cY (lE J))) (J.map fun j=>dC (lE J) (aI st.hp j))):=Eq.trans rfl rfl
theorem aS2{d:Option Nat}{st:AS}{J:List Nat}{av:AV}{os:List aC}:evK d st J (some (av,os))=some (iA J st d av os):=Eq.trans rfl rfl
theorem Qq:∀ds:List DC,idsL (mD ds)=[]
 |[]=>rfl
 | d::ds=>by
  have:=Qq ds;simp only[mD,aXL,idsL,aC3,aX4] at this ⊢;exact this
theorem Qr(J:List Nat):∀ds:List DC,Bm J (mD ds)=true
 |[]=>rfl
 | d::ds=>by
  have:=Qr J ds;simp only[mD,aXL,Bm,kpC,aYb] at this ⊢;exact this
theorem aJr(ρ:Nat->Nat)(ds:List DC):(mD ds).map (jN ρ)=mD ds:=by
 simp only[mD,aX1];exact aXZ fun d _=>rfl
theorem Fu:∀ds:List DC,dcs (mD ds)=some ds
 |[]=>rfl
 | d::ds=>by
  have:=Fu ds;simp only[mD,aXL,dcs] at this ⊢;rw[this];rfl
theorem M6(a:Nat):nq a a=true:=by rw[iM];simp
attribute [go_sem] Qq Qr aJr Fu
attribute [go_sem] jP aA6 aJq aST Qp kpC Bm kpV Mz kpO kpH arB arJ kaC aA7 kaV kaS kaO kaH aEu aSX aEv aSY aSZ aS0 aS1 aS2 aHx Nat.reduceLT
section
variable {call:aO}{G:aE}{st:AS}{d:Option Nat}
def aS3(call:aO)(d:Option Nat)(f:FuncId)(st:AS)(avs:List AV)(id:Nat)(cs:List aT):Bool->Option (AS×FP)
 |true=>aDt d id st (kI call f (avs.map (cY (lE [id]))) [.box cs])
 |false=>none
theorem aS4{f:FuncId}{avs:List AV}{id:Nat}{cs:List aT}:fvB call d f st avs id (some (.box cs))=aS3 call d f st avs id cs (keepL (fun _=>true) cs&&Mz [id] avs):=by
 rw[M4];simp only[fvB];cases (keepL (fun _=>true) cs&&avs.all (cV (kF [id])))<;>rfl
theorem aOw{f:FuncId}{avs:List AV}{id:Nat}{cs:List aT}:aS3 call d f st avs id cs true=aDt d id st (kI call f (avs.map (cY (lE [id]))) [.box cs]):=Eq.trans rfl rfl
end
attribute [go_sem] aS4 aOw
attribute [go_sem] Nat.reduceAdd Nat.reduceSub Nat.reduceMul Nat.reduceLeDiff Nat.reduceEqDiff
end
section
def aEx(size bytes:Nat)(z:List Value):HC:=
 (.seq (.region [Oo 2 (.mov (.k (.slice none 0 0)))])
 (.seq (.seq (.region [Oo 3 (.mov (.t 0)),Oo 4 (.isnil false false (.t 3))])
 (.cond (.t 4) (.seq (.region [Oo 2 (.mov (.k (.slice none 0 0)))])
 .ret)
 .skip))
 (.seq (.region [Oo 5 (.bslc size 0 z []),Oo 6 (.mov (.t 0)),Oo 7 (.app size bytes z (.t 5) (.t 6)),Oo 2 (.mov (.t 7))])
 .ret)))
section
variable {P:Program}{G:aE}{call:aO}
theorem aA8:cE P G (fun _ _ _=>none):=fun f args hp av o' h=>by cases h
theorem Ul{size bytes:Nat}{z:List Value}{es:List (List DC)}{v4:AV}(h4:v4=dG (.bool false))(hz:0<z.length)(hl:gE size es=true)(hb:es.length*bytes<=140737488355328):
  EC call G (.seq (.region [Oo 5 (.bslc size 0 z []),Oo 6 (.mov (.t 0)),Oo 7 (.app size bytes z (.t 5) (.t 6)),Oo 2 (.mov (.t 7))]) .ret)
   ⟨[.one (.dc (.slc es)),.junk,dG (.slice none 0 0),.one (.dc (.slc es)),v4,.junk,.junk,.junk],[]⟩=
  some (.ret,⟨[.one (.dc (.slc es)),.junk,.one (.bld 0 es.length),.one (.dc (.slc es)),v4,.one .junk,.one (.dc (.slc es)),.one (.bld 0 es.length)],[.arr 0 size es]⟩):=by
 subst h4;simp[go_sem,hl,hb]
theorem aEy{f:FuncId}{fn:Func}{size bytes:Nat}{z:List Value}{es:List (List DC)}(hf:P.funcs[f]?=some fn)(hn:fn.ntmps=8)
  (hc:fn.body.bind (bR P)=some (aEx size bytes z).er) (hr:fn.results.toList.mapM (iZ P)=some [.tmp 2])
  (hz:0<z.length) (hl:gE size es=true) (hb:es.length*bytes<=140737488355328):
  AC P G f [.one (.dc (.slc es))] [] fun a o=>a=.one (.bld 0 es.length)/\o.map aP=[.arr 0 size es]:=by
 have hA:AC P G f [.one (.dc (.slc es))] [] fun a o=>(a=.one (.bld 0 es.length)/\o.map aP=[.arr 0 size es])\/(es=[]/\a=dG (.slice none 0 0)/\o=[]):=by
  refine AC.of_codeJ hf hn hc hr ?_;have rest:∀ b:Bool,(b=true->es=[])->AW P G 0 (.cond (.t 4) (.seq (.region [Oo 2 (.mov (.k (.slice none 0 0)))]) .ret) .skip)
    (G3 P G 0 (.seq (.region [Oo 5 (.bslc size 0 z []),Oo 6 (.mov (.t 0)),Oo 7 (.app size bytes z (.t 5) (.t 6)),Oo 2 (.mov (.t 7))]) .ret) (Fin 0 [.tmp 2] fun a o=>(a=.one (.bld 0 es.length)/\o.map aP=[.arr 0 size es])\/(es=[]/\a=dG (.slice none 0 0)/\o=[])))
    ⟨[.one (.dc (.slc es)),.junk,dG (.slice none 0 0),.one (.dc (.slc es)),dG (.bool b),.junk,.junk,.junk],[]⟩:=by
   intro b hb0;refine AW.cond (b:=b) rfl (fun h=>?_) (fun h=>?_)
   ·refine AW.seq (AW.region (WR.exX trivial rfl rfl (WR.nil ?_)));exact AW.ret (G3.r (by unfold Fin;exact⟨.inr rfl,aXX _,_,rfl,.inr ⟨hb0 h,rfl,rfl⟩⟩))
   ·subst h;refine AW.skip (G3.n ?_);refine (aLP (aA8 (P:=P) (G:=G)) (.seq (.region [Oo 5 (.bslc size 0 z []),Oo 6 (.mov (.t 0)),Oo 7 (.app size bytes z (.t 5) (.t 6)),Oo 2 (.mov (.t 7))]) .ret) _ .ret _ (Ul rfl hz hl hb) 0).mono ?_;rintro e s ⟨rfl,hs⟩;unfold Fin;refine⟨.inr rfl,aXX _,.one (.bld 0 es.length), ?_,.inl ⟨rfl,congrArg AS.hp hs⟩⟩;rw[<- C5,hs];rfl
  refine AW.seq (AW.region (WR.exX trivial rfl rfl (WR.nil ?_)));refine AW.seqv (AW.seq (AW.region (WR.exX trivial rfl rfl ?_)));cases es with
  | nil=>exact WR.isnil0 trivial rfl rfl (fun b=>WR.nil (rest b (fun _=>rfl)))
  | cons e es=>exact WR.exX trivial rfl rfl (WR.nil (rest false (fun h=>by cases h)))
 refine hA.gh (fun a o h hl0=>?_)
 rcases h with⟨rfl,h⟩|⟨rfl,rfl,rfl⟩;exact⟨_,_,Gh.refl,hl0,rfl,h⟩;exact⟨_,_,Gh.nil (d:=0) size rfl,aXX _,rfl,rfl⟩
def aEz(size bytes:Nat):List AV->List aC->Option (AV×List aC)
 |[.one (.dc (.slc es))],[]=>if gE size es=true/\es.length*bytes<=140737488355328 then some (.one (.bld 0 es.length),[.arr 0 size es]) else none
 |_,_=>none
def Hu:List (FuncId×Nat×Nat)->aO
 |[],_,_,_=>none
 |(g,size,bytes)::L,f,args,hp=>if f=g then aEz size bytes args hp else Hu L f args hp
theorem Db:∀(L:List (FuncId×Nat×Nat)),(∀e∈L,Wf P e.1=true/\∃fn z,P.funcs[e.1]?=some fn/\fn.ntmps=8/\fn.body.bind (bR P)=some (aEx e.2.1 e.2.2 z).er/\fn.results.toList.mapM (iZ P)=some [.tmp 2]/\0<z.length)->cE P G (Hu L)
 |[],_=>fun f args hp av o' h=>by cases h
 | (g,size,bytes)::L,hL=>fun f args hp av o' h hp0 hh=>by
  unfold Hu at h;split at h
  ·rename_i hf;subst hf;obtain⟨h1,fn,z,h2,h3,h4,h5,h6⟩:=hL _ aXV;refine⟨h1, ?_⟩;unfold aEz at h;split at h
   ·rename_i es;split at h
    ·rename_i hc;simp only[Option.some.injEq,Prod.mk.injEq] at h;obtain⟨rfl,rfl⟩:=h;have:hp0=[]:=by simpa using hh
     subst this;exact aEy h2 h3 h4 h5 h6 hc.1 hc.2
    ·cases h
   ·cases h
  ·exact Db L (fun e he=>hL e (aX3 _ he)) f args hp av o' h hp0 hh
end
end
section
open Go.RowKit
theorem Bn(k:Int):∀(l:List MapEntry) (i:Nat),(∀x∈l,∃n,x.key=.int .i64 n/\n≠k)->Instr.findNow (.int .i64) (.int .i64 k) l i=some none
 |[],i,h=>rfl
 | e::l,i,h=>by
  obtain⟨n,h1,h2⟩:=h e aXV;have hne:(k==n)=false:=by simp;exact fun e=>h2 e.symm
  simp[Instr.findNow,Instr.sameNow,h1,hne,Bn k l (i+1) (fun x hx=>h x (aX3 _ hx))]
theorem Bo{P:Program}{t kt et:TypeId}(ht:P.underlying t=some (.map kt et))(hk:P.underlying kt=some (.int .i64))(w:World)(es:Array MapEntry)(clk:Nat)(n:Int)(v:Value)
  (hn:∀x∈es.toList,∃m,x.key=.int .i64 m/\m≠n):
  (Instr.mapUpdate t (.map (some w.heap.size)) (.int .i64 n) v).run P (w.alloc (.map es clk))=.ok () (w.alloc (.map (es.push { key:=.int .i64 n,val:=v,born:=clk }) (clk+1))):=by
 have hb:(w.alloc (.map es clk)).heap[w.heap.size]?=some (.map es clk):=by
  show (w.heap.push _)[w.heap.size]?=_;simp
 have hgo:(getObj w.heap.size).run P (w.alloc (.map es clk))=.ok (.map es clk) (w.alloc (.map es clk)):=by simp only[getObj,Sem.run,hb]
 have hck:(Instr.checkKey false (9999+1) kt (.int .i64 n)).run P (w.alloc (.map es clk))=.ok () (w.alloc (.map es clk)):=by
  unfold Instr.checkKey;simp[run_underlying hk]
 have hfk:(Instr.findKey kt (.int .i64 n) es.toList).run P (w.alloc (.map es clk))=.ok none (w.alloc (.map es clk)):=by
  simp[Instr.findKey,run_underlying hk,Bn n es.toList 0 hn]
 have hset:∀o,(setObj w.heap.size o).run P (w.alloc (.map es clk))=.ok () (w.alloc o):=by
  intro o;rw[MapKept.run_setObj_map o hb];have:(w.heap.push (.map es clk)).setIfInBounds w.heap.size o=w.heap.push o:=by
   apply Array.ext';simp
  show Result.ok () ({ w.alloc (.map es clk) with heap:=(w.heap.push (.map es clk)).setIfInBounds w.heap.size o }:World)=_
  rw[this];rfl
 simp[Instr.mapUpdate,run_underlying ht,hgo,hck,hfk,hset]
def tyL:List (Int×Value):=[(16,.bool true),(32,.bool false),(48,.bool true),(64,.bool false),(96,.bool true),(112,.bool true),(128,.bool false),(144,.bool true),(160,.bool false),(176,.bool false),(192,.bool false)]
def tyE:Array MapEntry:=#[⟨.int .i64 16,.bool true,0⟩,⟨.int .i64 32,.bool false,1⟩,⟨.int .i64 48,.bool true,2⟩,⟨.int .i64 64,.bool false,3⟩,⟨.int .i64 96,.bool true,4⟩,⟨.int .i64 112,.bool true,5⟩,⟨.int .i64 128,.bool false,6⟩,⟨.int .i64 144,.bool true,7⟩,⟨.int .i64 160,.bool false,8⟩,⟨.int .i64 176,.bool false,9⟩,⟨.int .i64 192,.bool false,10⟩]
set_option maxRecDepth 100000 in
set_option maxHeartbeats 1000000 in
theorem aJs(w:World):Calls Tryz.prog 281 #[] w fun e w'=>e=.returned (.map (some w.heap.size))/\w'=w.alloc (.map tyE 11):=by
 have hmm:=fun w=>run_makeMap_plain (P:=Tryz.prog) (w:=w) 231
 go_enter Tryz.func281,Tryz.ntmps281
 go_wp2
 iterate 11
  rw[Bo Tryz.underlying231 Tryz.underlying3]
  rotate_left
  ·simp
  simp only[Result.andThen]
  go_wp2
 go_ret
 exact⟨rfl,rfl⟩
set_option maxRecDepth 100000 in
theorem aS5(s:ByteArray)(c:Int)(w:World):
  Calls Tryz.prog 312 #[.string s,.int .u8 c] w fun e w'=>e=.returned (.int .i64 (Lib.indexByte s.data.toList c.toNat.toUInt8))/\w'=w:=by
 go_enter Tryz.func312,Tryz.ntmps312
 go_wp2
 rw[run_callFunc_extern Tryz.func336 (by kernel_rfl) (by kernel_rfl) (by kernel_rfl) (e:=Extern.BytealgIndexByte.indexByte) (by kernel_rfl),Lib.run_indexByteString];simp only[Result.andThen];rw[Oper.upon_value]
 go_wp2
 go_ret
 exact⟨rfl,rfl⟩
theorem aEA{γ:List OI}{hp:List aC}{F:Fz}{w:World}(hi:dE F γ hp w)(h:hp=[]):γ=[]:=aYL (by rw[hi.len,h];rfl)
theorem aJt{G:aE}:QC Tryz.prog G 281 [] (.one (.mpc tyL)):=by
 intro F γ vs w hi hg hv;have hγ:=aEA hi rfl;subst hγ;have hvs:vs=#[]:=Array.eq_empty_of_size_eq_zero hv.1;subst hvs;have hlt:∀ b o,F b=some o->b < w.heap.size:=fun b o h=>by
  have:=hi.fz b o h;exact (Array.getElem?_eq_some_iff.1 this).1
 have hold:∀b,b<w.heap.size->(w.heap.push (.map tyE 11))[b]?=w.heap[b]?:=fun b hb=>by rw[Array.getElem?_push_lt hb,aX8 hb]
 refine (aJs w).mono ?_;rintro e w' ⟨rfl,rfl⟩;refine⟨_,_,[],fun b=>if b=w.heap.size then some (.map tyE 11) else F b,[],rfl,⟨rfl,rfl⟩,aXF _,⟨?_,rfl,rfl,rfl,?_,?_,?_,?_,?_⟩,⟨?_,rfl,?_,?_,?_⟩,.one _ _ (.mpc tyL w.heap.size 11 tyE (by simp) (by rfl) (by decide))⟩
 intro b o h;have:=hlt b o h;show (if b=w.heap.size then _ else F b)=_
 rw[if_neg (by omega)];exact h;show w.heap.size<=(w.heap.push _).size;simp;intro b hb _;exact hold b hb;intro b o h;by_cases hb:b=w.heap.size;exact .inr (.inl (by omega));simp only[if_neg hb] at h;exact .inl h;intro i b h;simp[bZ] at h;intro i hi;exact absurd hi (Nat.not_lt_zero _);intro b o h;by_cases hb:b=w.heap.size;subst hb;simp only[if_true] at h;rw[<- h];show (w.heap.push _)[w.heap.size]?=_;simp;simp only[if_neg hb] at h;exact (hold b (hlt b o h)).trans (hi.fz b o h);intro i j b h;simp[bZ] at h;intro i b h;simp[bZ] at h;intro i o x h;simp at h
theorem aS6{G:aE}(s:ByteArray)(c:Int):QC Tryz.prog G 312 [.one (.dc (.raw (.string s))),.one (.dc (.raw (.int .u8 c)))] (.one (.dc (.raw (.int .i64 (Lib.indexByte s.data.toList c.toNat.toUInt8))))):=by
 intro F γ vs w hi hg hv;obtain⟨hz,hv⟩:=hv;have hγ:=aEA hi rfl;subst hγ;obtain⟨x,y,rfl⟩:∃x y,vs=#[x,y]:=by
  obtain⟨l⟩:=vs
  match l,hz with
  |[x,y],_=>exact⟨x,y,rfl⟩
 have h1:=cO (hv 0 _ _ rfl rfl);have h2:=cO (hv 1 _ _ rfl rfl);subst h1;subst h2;refine (aS5 s c w).mono ?_;rintro e w' ⟨rfl,rfl⟩;exact⟨_,_,[],F,[],rfl,⟨rfl,rfl⟩,aXF _,gU.refl _ _ _ _,hi,.one _ _ (.dc _ _ (.raw _ rfl))⟩
def tyK:List AV->List aC->Option (AV×List aC)
 |[],[]=>some (.one (.mpc tyL),[])
 |_,_=>none
def ixK:List AV->List aC->Option (AV×List aC)
 |[.one (.dc (.raw (.string s))),.one (.dc (.raw (.int .u8 c)))],[]=>some (.one (.dc (.raw (.int .i64 (Lib.indexByte s.data.toList c.toNat.toUInt8)))),[])
 |_,_=>none
def awK:List AV->List aC->Option (AV×List aC)
 |[],[]=>some (.one (.dc (.raw (.bool true))),[])
 |_,_=>none
def bs(b:Bool):aO:=fun f args hp=>if f=281 then tyK args hp else if f=312 then ixK args hp else if f=11 then (if b=true then awK args hp else none) else Hu [(219,2,16)] f args hp
theorem aLV{G:aE}{b:Bool}(hA:b=true->QC Tryz.prog G 11 [] (.one (.dc (.raw (.bool true))))):cE Tryz.prog G (bs b):=by
 intro f args hp av o' h hp0 hh;unfold bs at h;split at h;rename_i hf;subst hf;unfold tyK at h;split at h;injection h with h;injection h with h1 h2;subst h1;subst h2
 have:hp0=[]:=by simpa using hh
 subst this;exact⟨by kernel_rfl,aJt.gh (fun a o ⟨h1,h2⟩ _=>⟨a,o,Gh.refl,aXX _,h1,by rw[h2];rfl⟩)⟩
 cases h;split at h;rename_i hf;subst hf;unfold ixK at h;split at h;injection h with h;injection h with h1 h2;subst h1;subst h2
 have:hp0=[]:=by simpa using hh
 subst this;exact⟨by kernel_rfl,(aS6 _ _).gh (fun a o ⟨h1,h2⟩ _=>⟨a,o,Gh.refl,aXX _,h1,by rw[h2];rfl⟩)⟩
 cases h;split at h;rename_i hf;subst hf;split at h;rename_i hb;unfold awK at h;split at h;injection h with h;injection h with h1 h2;subst h1;subst h2
 have:hp0=[]:=by simpa using hh
 subst this;exact⟨by kernel_rfl,(hA hb).gh (fun a o ⟨h1,h2⟩ _=>⟨a,o,Gh.refl,aXX _,h1,by rw[h2];rfl⟩)⟩
 cases h;cases h
 exact Db [(219,2,16)] (fun e he=>by
  simp only[List.mem_singleton] at he;subst he;exact⟨by kernel_rfl,_,[Zi 0,Zi 0],Tryz.func219,Tryz.ntmps219,h219_ok,aIg,by decide⟩) f args hp av o' h hp0 hh
end
end Go.Proofs.YthepfneloomngaaGreatDoor
