/- Part. Conditions: none. -/
import Derived.Test.YtalhnjjchkmfeabGreatDoorNd
import Derived.Test.YtalhnjjchkmfeabGreatDoorCb
import Derived.WalkKit
import Derived.WideMake
import Derived.MapKept
import Derived.Lib.Bytealg
import Derived.Lib.Walk
import Derived.Lib.Strings
import Derived.BigCall
namespace Go.Proofs.YtalhnjjchkmfeabGreatDoor
set_option maxHeartbeats 1000000
set_option linter.unusedSimpArgs false
set_option linter.unusedVariables false
section
section
variable {call:aN}{G:aE}{st s s':AS}{a b:HC}{L:List Nat}{m:Nat}
noncomputable def sqK(call:aN)(G:aE)(b:HC)(r:Option (Exit×AS)):Option (Exit×AS):=match r with
 |some (.normal,s)=>EC call G b s
 |r=>r
noncomputable def cdK(call:aN)(G:aE)(a b:HC)(st:AS):Option Bool->Option (Exit×AS)
 |some true=>EC call G a st
 |some false=>EC call G b st
 |none=>none
noncomputable def EL(call:aN)(G:aE)(a:HC)(L:List Nat)(m:Nat)(st:AS):Option (Exit×AS):=Bv (EC call G a) L m st
noncomputable def fnK(call:aN)(G:aE)(a:HC)(L:List Nat)(m:Nat)(r:Option (Exit×AS)):Option (Exit×AS):=match r with
 |some (.normal,s)=>EL call G a L m (lA L m s)
 |r=>r
def K7(L:List Nat)(m:Nat):Option (Exit×AS)->Option AS
 |some (.normal,s)=>some (lA L m s)
 |_=>none
theorem aJ2:EC call G .skip st=some (.normal,st):=q_
theorem aOU:EC call G .ret st=some (.ret,st):=q_
theorem aJ3{id:Nat}:EC call G (.exit id) st=some (.exit id,st):=q_
theorem aB5{ops:List aO}:EC call G (.region ops) st=nrm (evR call G ops (some st)):=q_
theorem aJ4{L:List Nat}{ops:List aO}:EC call G (.regR L ops) st=nrm (Gm call G L ops (some st)):=q_
theorem aFb{ops:List (Bool×aO)}:EC call G (.drawn ops) st=nrm (Gn call G ops (some st)):=q_
theorem Wo:EC call G (.seq a b) st=sqK call G b (EC call G a st):=by rw[EC];rfl
theorem aJ5{c:aI}:EC call G (.cond c a b) st=cdK call G a b st (cP (aM G st.sl c)):=by rw[EC];rfl
theorem aFc{id:Nat}:EC call G (.block id a) st=Bg id (EC call G a st):=q_
theorem aJ6:EC call G (.loop L a) st=EL call G a L st.hp.length (lA L st.hp.length st):=q_
theorem aFd{L:List Nat}:EC call G (.trm L a) st=EC call G a (lA L st.hp.length st):=q_
theorem aTd{g:GH}:EC call G (.gh g a) st=EC call G a (ghE g st):=q_
theorem aNt:sqK call G b (some (.normal,s))=EC call G b s:=q_
theorem aTe:sqK call G b (some (.ret,s))=some (.ret,s):=q_
theorem aTf{id:Nat}:sqK call G b (some (.exit id,s))=some (.exit id,s):=q_
theorem aTg:cdK call G a b st (some true)=EC call G a st:=q_
theorem aTh:cdK call G a b st (some false)=EC call G b st:=q_
theorem aJ7{p:Prop}[Decidable p](h:p):cdK call G a b st (some (decide p))=EC call G a st:=by rw[decide_eq_true h];rfl
theorem aJ8{p:Prop}[Decidable p](h:¬ p):cdK call G a b st (some (decide p))=EC call G b st:=by rw[decide_eq_false h];rfl
theorem aOV{id:Nat}:Bg id (some (.normal,s))=some (.normal,s):=q_
theorem aOW{id:Nat}:Bg id (some (.ret,s))=some (.ret,s):=q_
theorem aOX{id c:Nat}:Bg id (some (.exit c,s))=bif nq c id then some (.normal,s) else some (.exit c,s):=by
 simp only[Bg,aJL,jT];by_cases h:c=id;simp[h];simp[h,(beq_eq_false_iff_ne.2 h:(c==id)=false)]
theorem aTi:fnK call G a L m (some (.ret,s))=some (.ret,s):=q_
theorem aTj{id:Nat}:fnK call G a L m (some (.exit id,s))=some (.exit id,s):=q_
theorem aTk:K7 L m (some (.normal,s))=some (lA L m s):=q_
theorem aTl:nrm (some s)=some (.normal,s):=q_
theorem zY:EL call G a L m st=fnK call G a L m (EC call G a st):=by
 unfold EL;cases h:EC call G a st with
 |none=>
  simp only[fnK];cases j:Bv (EC call G a) L m st with
  |none=>rfl
  |some r=>
   obtain⟨n,i⟩:=iH j;cases n with
   |zero=>simp[K6] at i
   |succ n=>rw[K6,h] at i;cases i
 |some r=>
  obtain⟨e,s⟩:=r;by_cases g:e=.normal;subst g;exact aES st h;rw[aB1 h g];unfold fnK;split;rename_i c;injection c with c;injection c with c;exact absurd c g;rfl
theorem aQ(H:Nat->AS)(n:Nat)(e:st=H 0)(h:∀k,k<n->K7 L m (EC call G a (H k))=some (H (k+1))):EL call G a L m st=fnK call G a L m (EC call G a (H n)):=by
 subst e;have c:∀k,k<=n->EL call G a L m (H 0)=EL call G a L m (H k):=by
  intro k
  induction k with
  |zero=>intro _;rfl
  |succ k i=>
   intro j;rw[i (by omega),zY];have:=h k (by omega);unfold K7 at this;split at this;rename_i s g;injection this with this
   rw[g,<- this];rfl;cases this
 rw[c n (aZe _),zY]
theorem aFe(p:Nat->Prop):∀n:Nat,∃k,k<=n/\(k=n\/(k<n/\p k))/\∀j,j<k->¬ p j
 |0=>⟨0,aZe _,.inl rfl,fun j h=>by omega⟩
 | n+1=>by
  obtain⟨k,g,c,h3⟩:=aFe p n;rcases c with c | ⟨c,h4⟩
  ·subst c;by_cases hp:p k
   ·exact⟨k,by omega,.inr ⟨by omega,hp⟩,h3⟩
   ·exact⟨k+1,aZe _,.inl rfl,fun j i=>by
     by_cases e:j=k
     ·subst e;exact hp
     ·exact h3 j (by omega)⟩
  ·exact⟨k,by omega,.inr ⟨by omega,h4⟩,h3⟩
noncomputable def ix(p:Nat->Prop)(n:Nat):Nat:=(aFe p n).choose
theorem bI(p:Nat->Prop)(n:Nat):ix p n<=n/\(ix p n=n\/(ix p n<n/\p (ix p n)))/\∀j,j<ix p n->¬ p j:=(aFe p n).choose_spec
theorem dP(H:Nat->AS)(p:Nat->Prop)(n:Nat)(c:st=H 0)(e:∀k,k<n->(∀j,j<=k->¬ p j)->K7 L m (EC call G a (H k))=some (H (k+1))):EL call G a L m st=fnK call G a L m (EC call G a (H (ix p n))):=by
 obtain⟨g,_,h3⟩:=bI p n;exact aQ H _ c (fun k i=>e k (by omega) (fun j h=>h3 j (by omega)))
theorem aB6(n k:Nat):((n:Int)+(k:Int)).toNat=n+k:=by omega
theorem Wp(n:Nat):((n:Int)+1).toNat=n+1:=by omega
def jk:Nat->List AV->List AV
 |0,t=>t
 |n+1,t=>.junk::jk n t
theorem aJ9{c:aU}{cs vs:List aU}{n:Nat}:dB (c::cs) (n+1) vs=c::dB cs n vs:=by
 simp only[dB,bAt,aZp];rw[show n+1+vs.length=(n+vs.length)+1 by omega,bAC]
theorem Zz{cs vs:List aU}:dB cs 0 vs=vs++cs.drop vs.length:=by simp[dB]
theorem aXv(a b c:Int):a+(b+c)=a+b+c:=(Int.add_assoc a b c).symm
theorem aOY{st:AS}{d:Option Nat}{cs:List aU}:aOj st d (some cs)=some ⟨aS st.sl d (.one (.ptr st.hp.length 0)),st.hp++[.box cs]⟩:=q_
theorem B7(n:Nat):((n:Int)-1).toNat=n-1:=by omega
theorem aKa:evR call G [] (some st)=some st:=q_
theorem aTm{d:Option Nat}{ai:AI}{g:Option (Nat×Bool)}{l:List aO}:evR call G (⟨d,ai,g⟩::l) (some st)=evR call G l (Wg call G st l d ai g):=q_
theorem aB7{L:List Nat}{t:IT}{ops:List aO}:EC call G (.drawnT L t ops) st=nrm (F6 call G L st.hp.length ops t (some st)):=q_
theorem aKb{L:List Nat}{n0:Nat}{ops:List aO}:F6 call G L n0 ops .nil (some st)=some st:=q_
theorem aOZ{L:List Nat}{n0:Nat}{ops:List aO}{i:Nat}{t:IT}:F6 call G L n0 ops (.st i t) (some st)=F6 call G L n0 ops t (Iy call G L st ops (iW ops i).dst (iW ops i).ai (iW ops i).guard (kQ L (iW ops i).ai (iW ops i).guard)):=q_
theorem aO0{L:List Nat}{n0:Nat}{ops:List aO}{i:Nat}{t:IT}:F6 call G L n0 ops (.br i t .stop) (some st)=F6 call G L n0 ops t (Iy call G L st ops (iW ops i).dst (iW ops i).ai (iW ops i).guard (kQ L (iW ops i).ai (iW ops i).guard)):=q_
theorem aO1{L:List Nat}{n0:Nat}{ops:List aO}{i j:Nat}{t c r:IT}:F6 call G L n0 ops (.br i t (.br j c r)) (some st)=F5 n0 (F6 call G L n0 ops t (Iy call G L st ops (iW ops i).dst (iW ops i).ai (iW ops i).guard (kQ L (iW ops i).ai (iW ops i).guard))) (F6 call G L n0 ops (.br j c r) (some st)):=q_
theorem aKc{n0:Nat}{s s':AS}(p:List (Nat×Nat))(h3:pOK n0 s'.hp.length p)(h4:prm p s'=s):F5 n0 (some s) (some s')=some s:=Se rfl rfl h3 h4
theorem aKd{n0:Nat}{s:AS}:F5 n0 (some s) (some s)=some s:=aKc [] (fun x c=>by cases c) rfl
theorem aFf{L:List Nat}:Gm call G L [] (some st)=some st:=q_
theorem aO2{L:List Nat}{d:Option Nat}{ai:AI}{g:Option (Nat×Bool)}{l:List aO}:Gm call G L (⟨d,ai,g⟩::l) (some st)=Gm call G L l (Iy call G L st l d ai g (kQ L ai g)):=q_
theorem aTn{L:List Nat}{l:List aO}{d:Option Nat}{ai:AI}{g:Option (Nat×Bool)}:Iy call G L st l d ai g true=Sb call G L st d ai:=q_
theorem aTo{L:List Nat}{l:List aO}{d:Option Nat}{ai:AI}{g:Option (Nat×Bool)}:Iy call G L st l d ai g false=Wg call G st l d ai g:=q_
theorem aO3{L:List Nat}{d:Option Nat}{f:FuncId}{xs:List aI}:Sb call G L st d (.call f xs)=aEP call G st d f xs (Oq L (f+100000)):=q_
theorem aO4{d:Option Nat}{f:FuncId}{xs:List aI}:aEP call G st d f xs false=lM (lO call) d f (xs.map (aM G st.sl)) st:=q_
def aYW(d:Option Nat)(st:AS)(av:AV):Bool->Option AS
 |true=>some ⟨aS st.sl d av,st.hp⟩
 |false=>none
theorem aTp{l:List aO}{d:Option Nat}{ai:AI}:Wg call G st l d ai none=mU call G st l d ai:=q_
theorem aTq{l:List aO}{d:Option Nat}{ai:AI}{g:Nat}{b:Bool}:Wg call G st l d ai (some (g,b))=guZ call G st l d ai (gK b (aM G st.sl (.t g))):=q_
section
variable {l:List aO}{d:Option Nat}{ai:AI}
theorem aTr:guZ call G st l d ai (some true)=mU call G st l d ai:=q_
theorem aTs:guZ call G st l d ai (some false)=some ⟨aS st.sl d (.tup []),st.hp⟩:=q_
theorem aKe{p:Prop}[Decidable p](h:p):guZ call G st l d ai (some (decide p))=mU call G st l d ai:=by rw[decide_eq_true h];rfl
theorem aKf{p:Prop}[Decidable p](h:¬ p):guZ call G st l d ai (some (decide p))=some ⟨aS st.sl d (.tup []),st.hp⟩:=by rw[decide_eq_false h];rfl
theorem aTt{q:Bool}:aBY call G st q d ai (some true)=drZ call G st d ai q:=q_
theorem aTu{q:Bool}:aBY call G st q d ai (some false)=some ⟨aS st.sl d (.tup []),st.hp⟩:=q_
theorem aKg{q:Bool}{p:Prop}[Decidable p](h:p):aBY call G st q d ai (some (decide p))=drZ call G st d ai q:=by rw[decide_eq_true h];rfl
theorem aKh{q:Bool}{p:Prop}[Decidable p](h:¬ p):aBY call G st q d ai (some (decide p))=some ⟨aS st.sl d (.tup []),st.hp⟩:=by rw[decide_eq_false h];rfl
theorem aTv{q:Bool}:drO call G st q d ai none=drZ call G st d ai q:=q_
theorem aTw{q:Bool}{g:Nat}{b:Bool}:drO call G st q d ai (some (g,b))=aBY call G st q d ai (gK b (aM G st.sl (.t g))):=q_
theorem aFg:Gn call G [] (some st)=some st:=q_
theorem aO5{q:Bool}{g:Option (Nat×Bool)}{l:List (Bool×aO)}:Gn call G ((q,⟨d,ai,g⟩)::l) (some st)=Gn call G l (drO call G st q d ai g):=q_
theorem aFh{f:FuncId}{xs:List aI}:mU call G st l d (.call f xs)=clZ call G d f xs st:=q_
theorem aB8{x:aI}{xs:List aI}:mU call G st l d (.callv x xs)=cvZ call G d x xs st:=q_
theorem aKi{z b:Nat}{c:List Value}{s x:aI}:mU call G st l d (.app z b c s x)=apZ d z b st (aM G st.sl s) (aM G st.sl x):=q_
theorem aTx{d:Option Nat}{size bytes:Nat}{z:List Value}{st:AS}{i j:Int}(h:0<=i/\i<=j/\j.toNat*bytes<=140737488355328):mkK d size bytes z st (some i) (some j)=some ⟨aS st.sl d (.one (.bld st.hp.length i.toNat)),st.hp++[.arr 0 size (List.replicate i.toNat (z.map DC.raw))]⟩:=by
 obtain⟨n,rfl⟩:=bAh h.1;obtain⟨m,rfl⟩:=bAh (Int.le_trans h.1 h.2.1);have e:=h.2.1;have c:=h.2.2;simp only[aZy] at c;simp only[mkK,aZy];exact if_pos ⟨by omega,c⟩
theorem aO6{z b:Nat}{c:List Value}{x y:aI}:mU call G st l d (.mk z b c x y)=mkZ G st d z b c x y:=q_
theorem aFi{x y:aI}:mU call G st l d (.cpys x y)=aBU G st d x y:=q_
theorem aFj{x:aI}:mU call G st l d (.cvsb x)=aBV G st d x:=q_
theorem aO7{id c n z:Nat}{s:ByteArray}:aOD d st (.one (.bls id c n z)) (some s)=if z=1 then aEO d st id c n s (aL st.hp id) else none:=q_
theorem aO8{id c n:Nat}{s:ByteArray}{cs:List aU}:aEO d st id c n s (.box cs)=if c+n<=cs.length then some ⟨aS st.sl d (dS (.int .i64 (min s.size n:Nat))),st.hp.set id (.box (dB cs c (fH (s.data.toList.take n))))⟩ else none:=q_
theorem aO9{s:ByteArray}:aJJ d st (some s)=some ⟨aS st.sl d (.one (.bld st.hp.length s.size)),st.hp++[.arr 0 1 (iA s)]⟩:=q_
theorem aFk{L:List Nat}{x:aI}:Sb call G L st d (.cvsb x)=aJJ d st (dN (aM G st.sl x)):=q_
theorem aPa{s:ByteArray}:aSJ d st (some s)=some ⟨aS st.sl d (.one (.dc (.slc (iA s)))),st.hp⟩:=q_
theorem aTy{d:Option Nat}{bytes:Nat}{v:Value}{st:AS}{i j:Int}(h:0<=i/\i<=j/\j.toNat*bytes<=140737488355328):mbK d 1 bytes st [v] (some i) (some j)=some ⟨aS st.sl d (.one (.bls st.hp.length 0 i.toNat 1)),st.hp++[.box (List.replicate j.toNat (cN v))]⟩:=by
 obtain⟨n,rfl⟩:=bAh h.1;obtain⟨m,rfl⟩:=bAh (Int.le_trans h.1 h.2.1);have e:=h.2.1;have c:=h.2.2;simp only[aZy] at c;simp only[mbK,aZy];exact if_pos ⟨trivial,by omega,c⟩
theorem aKj{L:List Nat}{z b:Nat}{c:List Value}{x y:aI}:Sb call G L st d (.mk z b c x y)=mbK d z b st c (bH (aM G st.sl x)) (bH (aM G st.sl y)):=q_
theorem aKk{z:Nat}{c:List Value}{x:aI}:mU call G st l d (.clr z c x)=aBT G st d z c x:=q_
theorem aPb{z id k n s:Nat}{c:List Value}:aOC d z c st (.one (.bls id k n s))=if s=z then Wf d st id k n z c (aL st.hp id) else none:=q_
theorem aPc{id k n:Nat}{v:Value}{cs:List aU}:Wf d st id k n 1 [v] (.box cs)=if 1=1/\0<n/\k+n<=cs.length then some ⟨aS st.sl d (.tup []),st.hp.set id (.box (dB cs k (List.replicate n (cN v))))⟩ else none:=q_
theorem aFl{z b:Nat}{e:List Value}{c:List (Nat×aI)}:mU call G st l d (.bslc z b e c)=bsZ G st d z b e c (aJI d l):=q_
theorem aB9{z:List Value}:mU call G st l d (.alloc z)=some ⟨aS st.sl d (.one (.ptr st.hp.length 0)),st.hp++[.box (z.map cN)]⟩:=q_
theorem aKl{x:aI}:mU call G st l d (.box x)=aOj st d (cellsOf (aM G st.sl x)):=q_
theorem aCa{n:Nat}{x v:aI}:mU call G st l none (.store n x v)=stX G st n x v:=q_
theorem aKm{x:aI}:mU call G st l d (.mov x)=some ⟨aS st.sl d (aM G st.sl x),st.hp⟩:=q_
theorem aFm{c x y:aI}:mU call G st l d (.pick c x y)=gO st d (Cq (aM G st.sl c) (aM G st.sl x) (aM G st.sl y)):=q_
theorem aFn{g:Bool}{n:Nat}{x:aI}:mU call G st l d (.load g n x)=gO st d (mR st.hp g n (aM G st.sl x)):=q_
theorem aKn{p:Bool}{z:Value}{x y:aI}:mU call G st l d (.mpx p z x y)=gO st d (Qz p z (aM G st.sl x) (aM G st.sl y)):=q_
theorem aFo{x:aI}:mU call G st l d (.nilc x)=gO st d (Lx (aM G st.sl x)):=q_
theorem aKo{c:BinOp}{x y:aI}:mU call G st l d (.bin c x y)=gO st d (fX c (aM G st.sl x) (aM G st.sl y)):=q_
theorem aFp{n:Bool}{x y:aI}:mU call G st l d (.binb n x y)=gO st d (Lw n (aM G st.sl x) (aM G st.sl y)):=q_
theorem aKp{n:Bool}{c:List EK}{x y:aI}:mU call G st l d (.eqs n c x y)=gO st d (Qy n c (aM G st.sl x) (aM G st.sl y)):=q_
theorem aPd{c:UnOp}{x:aI}:mU call G st l d (.un c x)=gO st d (unV c (aM G st.sl x)):=q_
theorem aFq{k:IntKind}{x:aI}:mU call G st l d (.conv k x)=gO st d (Yy k (bH (aM G st.sl x))):=q_
theorem aFr{x:aI}:mU call G st l d (.cvbs x)=gO st d (oQ st.hp (aM G st.sl x)):=q_
theorem aFs{o:Nat}{x:aI}:mU call G st l d (.addo o x)=gO st d (Fs o (aM G st.sl x)):=q_
theorem aKq{n z:Nat}{x i:aI}:mU call G st l d (.ixA n z x i)=gO st d (aOk n z (aM G st.sl x) (bH (aM G st.sl i))):=q_
theorem aKr{z:Nat}{x i:aI}:mU call G st l d (.ixL z x i)=gO st d (aJm st.hp z (aM G st.sl x) (bH (aM G st.sl i))):=q_
theorem aKs{n:Nat}{x i:aI}:mU call G st l d (.ixV n x i)=gO st d (aOl n (aM G st.sl x) (bH (aM G st.sl i))):=q_
theorem aKt{n:Nat}{x:aI}:mU call G st l d (.s2p n x)=gO st d (aBc n (aM G st.sl x)):=q_
theorem aKu{x i:aI}:mU call G st l d (.ixS x i)=gO st d (aJn (aM G st.sl x) (bH (aM G st.sl i))):=q_
theorem aKv{x:aI}{e c:Option aI}:mU call G st l d (.slS x e c)=gO st d (Lc (aM G st.sl x) (e.map (aM G st.sl)) (c.map (aM G st.sl))):=q_
theorem aKw{z:Nat}{x:aI}{e c:Option aI}:mU call G st l d (.slL z x e c)=gO st d (lV st.hp z (aM G st.sl x) (e.map (aM G st.sl)) (c.map (aM G st.sl))):=q_
theorem aCb{z:List Value}{c:List (Nat×Nat×aI)}:mU call G st l d (.build z c)=gO st d (aJo (iV (z.map cN) (c.map fun (o,s,x)=>(o,s,aM G st.sl x)))):=q_
theorem aKx{x:aI}{n:Nat}:mU call G st l d (.ext x n)=gO st d (Vk (aM G st.sl x) n):=q_
theorem aFt{x:aI}:mU call G st l d (.lenS x)=gO st d (Yz (dN (aM G st.sl x))):=q_
theorem aFu{x:aI}:mU call G st l d (.lenL x)=gO st d (tV (aM G st.sl x)):=q_
theorem aKy{x y:aI}:mU call G st l d (.min2 x y)=gO st d (aDI (aM G st.sl x) (aM G st.sl y)):=q_
theorem aKz{x y:aI}:mU call G st l d (.max2 x y)=gO st d (aDJ (aM G st.sl x) (aM G st.sl y)):=q_
theorem aFv{f:FuncId}{xs:List aI}:mU call G st l d (.mkfn f xs)=gO st d ((xs.mapM fun c=>jM (aM G st.sl c)).map fun cs=>.one (.fn f cs)):=q_
theorem aTz:drZ call G st d ai false=ldZ call G st d ai:=q_
theorem aTA:drZ call G st d ai true=Cn call G st d ai:=q_
theorem aFw{f:FuncId}{xs:List aI}:ldZ call G st d (.call f xs)=dvK call G d f xs st (call f (Db G st xs) []):=q_
theorem aCc{x:aI}{xs:List aI}:ldZ call G st d (.callv x xs)=cvZ call G d x xs st:=q_
theorem aKA{z b:Nat}{c:List Value}{s x:aI}:ldZ call G st d (.app z b c s x)=apZ d z b st (aM G st.sl s) (aM G st.sl x):=q_
theorem aFx{z b:Nat}{c:List Value}{ps:List (Nat×aI)}:ldZ call G st d (.bslc z b c ps)=bsO G st d z b c ps:=q_
theorem aCd{z:List Value}:ldZ call G st d (.alloc z)=some ⟨aS st.sl d (.one (.ptr st.hp.length 0)),st.hp++[.box (z.map cN)]⟩:=q_
theorem aCe{n:Nat}{x v:aI}:ldZ call G st none (.store n x v)=stX G st n x v:=q_
theorem aKB{z:Nat}{x:aI}{e c:Option aI}:Cn call G st d (.slL z x e c)=gO st d (lV [] z (aM G st.sl x) (e.map (aM G st.sl)) (c.map (aM G st.sl))):=q_
theorem aKC{x:aI}:Cn call G st d (.mov x)=some ⟨aS st.sl d (aM G st.sl x),st.hp⟩:=q_
theorem aFy{c x y:aI}:Cn call G st d (.pick c x y)=gO st d (Cq (aM G st.sl c) (aM G st.sl x) (aM G st.sl y)):=q_
theorem aFz{g:Bool}{n:Nat}{x:aI}:Cn call G st d (.load g n x)=gO st d (mR st.hp g n (aM G st.sl x)):=q_
theorem aKD{p:Bool}{z:Value}{x y:aI}:Cn call G st d (.mpx p z x y)=gO st d (Qz p z (aM G st.sl x) (aM G st.sl y)):=q_
theorem aFA{x:aI}:Cn call G st d (.nilc x)=gO st d (Lx (aM G st.sl x)):=q_
theorem aKE{c:BinOp}{x y:aI}:Cn call G st d (.bin c x y)=gO st d (fX c (aM G st.sl x) (aM G st.sl y)):=q_
theorem aFB{n:Bool}{x y:aI}:Cn call G st d (.binb n x y)=gO st d (Lw n (aM G st.sl x) (aM G st.sl y)):=q_
theorem aKF{n:Bool}{c:List EK}{x y:aI}:Cn call G st d (.eqs n c x y)=gO st d (Qy n c (aM G st.sl x) (aM G st.sl y)):=q_
theorem aPe{c:UnOp}{x:aI}:Cn call G st d (.un c x)=gO st d (unV c (aM G st.sl x)):=q_
theorem aFC{k:IntKind}{x:aI}:Cn call G st d (.conv k x)=gO st d (Yy k (bH (aM G st.sl x))):=q_
theorem aFD{o:Nat}{x:aI}:Cn call G st d (.addo o x)=gO st d (Fs o (aM G st.sl x)):=q_
theorem aKG{z:Nat}{x i:aI}:Cn call G st d (.ixL z x i)=gO st d (aJm st.hp z (aM G st.sl x) (bH (aM G st.sl i))):=q_
theorem aKH{x i:aI}:Cn call G st d (.ixS x i)=gO st d (aJn (aM G st.sl x) (bH (aM G st.sl i))):=q_
theorem aKI{x:aI}{e c:Option aI}:Cn call G st d (.slS x e c)=gO st d (Lc (aM G st.sl x) (e.map (aM G st.sl)) (c.map (aM G st.sl))):=q_
theorem aCf{z:List Value}{c:List (Nat×Nat×aI)}:Cn call G st d (.build z c)=gO st d (aJo (iV (z.map cN) (c.map fun (o,s,x)=>(o,s,aM G st.sl x)))):=q_
theorem aKJ{x:aI}{n:Nat}:Cn call G st d (.ext x n)=gO st d (Vk (aM G st.sl x) n):=q_
theorem aFE{x:aI}:Cn call G st d (.lenS x)=gO st d (Yz (dN (aM G st.sl x))):=q_
theorem aFF{x:aI}:Cn call G st d (.lenL x)=gO st d (tV (aM G st.sl x)):=q_
theorem aXw{c b:Bool}:gK b (.one (.dc (.raw (.bool c))))=some (eqb c b):=q_
theorem aKK{b:Bool}:gK b (.tup [])=some false:=q_
theorem aFG(c:Bool):eqb c true=c:=by cases c<;>rfl
theorem aCg(c:Bool):eqb c false=!c:=by cases c<;>rfl
theorem aPf{v:AV}:gO st d (some v)=some ⟨aS st.sl d v,st.hp⟩:=q_
end
theorem aKL{x y:AV}:Cq (.one (.dc (.raw (.bool true)))) x y=some x:=q_
theorem aKM{x y:AV}:Cq (.one (.dc (.raw (.bool false)))) x y=some y:=q_
theorem aCh{p:Prop}[Decidable p]{x y:AV}(h:p):Cq (.one (.dc (.raw (.bool (decide p))))) x y=some x:=by rw[decide_eq_true h];rfl
theorem aCi{p:Prop}[Decidable p]{x y:AV}(h:¬ p):Cq (.one (.dc (.raw (.bool (decide p))))) x y=some y:=by rw[decide_eq_false h];rfl
section
variable {k:IntKind}{x y:Int}
theorem aKN:fX .add (.one (.dc (.raw (.int k x)))) (.one (.dc (.raw (.int k y))))=some (.one (.dc (.raw (.int k (k.wrap (x+y)))))):=by simp[fX,lZ]
theorem aKO:fX .sub (.one (.dc (.raw (.int k x)))) (.one (.dc (.raw (.int k y))))=some (.one (.dc (.raw (.int k (k.wrap (x-y)))))):=by simp[fX,lZ]
theorem aKP:fX .mul (.one (.dc (.raw (.int k x)))) (.one (.dc (.raw (.int k y))))=some (.one (.dc (.raw (.int k (k.wrap (x*y)))))):=by simp[fX,lZ]
theorem aKQ:fX .eql (.one (.dc (.raw (.int k x)))) (.one (.dc (.raw (.int k y))))=some (.one (.dc (.raw (.bool (decide (x=y)))))):=by simp[fX,lZ,Bool.beq_eq_decide_eq]
theorem aKR:fX .neq (.one (.dc (.raw (.int k x)))) (.one (.dc (.raw (.int k y))))=some (.one (.dc (.raw (.bool (decide (x≠y)))))):=by
 simp only[fX,lZ,if_true,aZf,dS];congr 5;rw[bAv];simp
theorem aKS:fX .lss (.one (.dc (.raw (.int k x)))) (.one (.dc (.raw (.int k y))))=some (.one (.dc (.raw (.bool (decide (x<y)))))):=by simp[fX,lZ]
theorem aKT:fX .leq (.one (.dc (.raw (.int k x)))) (.one (.dc (.raw (.int k y))))=some (.one (.dc (.raw (.bool (decide (x<=y)))))):=by simp[fX,lZ]
theorem aKU:fX .gtr (.one (.dc (.raw (.int k x)))) (.one (.dc (.raw (.int k y))))=some (.one (.dc (.raw (.bool (decide (y<x)))))):=by simp[fX,lZ]
theorem aKV:fX .geq (.one (.dc (.raw (.int k x)))) (.one (.dc (.raw (.int k y))))=some (.one (.dc (.raw (.bool (decide (y<=x)))))):=by simp[fX,lZ]
end
theorem aKW{x y:ByteArray}:fX .eql (.one (.dc (.raw (.string x)))) (.one (.dc (.raw (.string y))))=some (.one (.dc (.raw (.bool (decide (x=y)))))):=by
 simp only[fX,Hv,aZf,dS];congr 5;rw[bAv];simp[ByteArray.toList_eq,ByteArray.ext_iff,Array.ext_iff]
theorem aPg{c:Bool}:unV .not (.one (.dc (.raw (.bool c))))=some (.one (.dc (.raw (.bool (!c))))):=q_
theorem aXx(b:Bool):(b==true)=b:=by cases b<;>rfl
theorem aXy(b:Bool):(b==false)=!b:=by cases b<;>rfl
theorem aXz(a b:Int):(a==b)=decide (a=b):=by rw[bAv];simp
theorem aKX{p q:Prop}[Decidable p][Decidable q]:(decide p&&decide q)=decide (p/\q):=by simp
theorem aPh{p q:Prop}[Decidable p][Decidable q]:(decide p||decide q)=decide (p\/q):=by simp
theorem aKY{p:Prop}[Decidable p]:(!decide p)=decide (¬ p):=by simp
theorem jP{α:Type}{f:α->List DC}{n:Nat}(h:∀x,(f x).length=n)(l:List α):gG n (l.map f)=true:=by
 induction l with
 |nil=>rfl
 |cons x l c=>simp[gG,c,h,jT]
theorem jQ{α c:Type}{f:α->c}{l:List α}:List.take l.length (l.map f)=l.map f:=aZI (by simp)
noncomputable def aFH(c:Bool)(e:List lK)(n:Nat)(s:AS):Bool->Option (AV×List aD)
 |true=>Wi c n s.hp (uC s e)
 |false=>none
theorem aPi{c:Bool}{e:List lK}{n:Nat}:qL c e n (some (.ret,s))=aFH c e n s (decide (n<=s.hp.length)):=by
 by_cases h:n<=s.hp.length<;>simp[qL,Mc,h,aFH]
theorem aPj{c:Bool}{e:List lK}{n:Nat}:qL c e n (some (.normal,s))=aFH c e n s (decide (n<=s.hp.length)):=by
 by_cases h:n<=s.hp.length<;>simp[qL,Mc,h,aFH]
theorem aPk{c:Bool}{e:List lK}{n:Nat}:aFH c e n s true=Wi c n s.hp (uC s e):=q_
def aPl(n:Nat)(hp:List aD)(v:AV):Bool->AV×List aD
 |true=>(Gj v,hp.take n)
 |false=>(Gj v,hp)
theorem aPm{n:Nat}{hp:List aD}{v:AV}:Wi true n hp (some v)=some (aPl n hp v (dH (fun id=>decide (n<=id)) v&&(hp.take n).all (pQ fun id=>decide (n<=id)))):=by
 simp only[Wi,aOF,cond_true];cases (dH (fun id=>decide (n<=id)) v&&(hp.take n).all (pQ fun id=>decide (n<=id)))<;>rfl
theorem aPn{n:Nat}{hp:List aD}{v:AV}:aPl n hp v true=(Gj v,hp.take n):=q_
theorem aPo{n:Nat}{hp:List aD}{v:AV}:aPl n hp v false=(Gj v,hp):=q_
def aTB(n:Nat)(st:AS):AV×List aD:=(Gj (bG (fun id=>decide (n<=id)) (st.sl.getD 0 .junk)),(st.hp.take n).map (cU fun id=>decide (n<=id)))
theorem aPp{n:Nat}{hp:List aD}{v:AV}:Wi false n hp (some v)=some (aTB n (bZ (kK v) (bxW n (kK v) ⟨[v],hp⟩ (Wb v)))):=q_
theorem aTC{n:Nat}{c:List Nat}:bxW n c st true=C9 n c st:=q_
theorem aTD{n:Nat}{c:List Nat}:bxW n c st false=st:=q_
theorem aTE{id:Nat}{o:aD}:bx1 id st o false=st:=by cases o<;>rfl
theorem bxO1{id:Nat}{cs:List aU}:bx1 id st (.box cs) true=bxB id cs st:=q_
def aTF:Option TV->Option (List TV)->Option (List TV)
 |some a,some l=>some (a::l)
 |_,_=>none
def aCj(st:AS):List lK->Option (List TV)
 |[]=>some []
 |r::c=>aTF ((gU st r).bind uB) (aCj st c)
theorem aPq{a:TV}{l:List TV}:aTF (some a) (some l)=some (a::l):=q_
theorem Z0(st:AS):∀c:List lK,c.mapM (fun r=>(gU st r).bind uB)=aCj st c
 |[]=>rfl
 | r::c=>by
  rw[aZ8,Z0 st c,aCj];cases (gU st r).bind uB<;>cases aCj st c<;>rfl
theorem aPr{st:AS}:uC st []=some (.tup []):=q_
theorem aPs{st:AS}{r:lK}:uC st [r]=gU st r:=q_
theorem aPt{st:AS}{r q:lK}{c:List lK}:uC st (r::q::c)=(aCj st (r::q::c)).map .tup:=by
 rw[<- Z0];rfl
theorem aA{G:aE}{T:HT}{f:FuncId}{h:HF}{c:List AV}{hp:List aD}{r:AV×List aD}(e:T.tab f=some h)(g:qL h.own h.rs hp.length (EC (EV G T) G h.code ⟨c++tW (h.nt-c.length),hp⟩)=some r):EV G T f c hp=some r:=aNr e g
end
section
variable {call:aN}{G:aE}{st:AS}{d:Option Nat}{f:FuncId}{xs:List aI}{av:AV}{os:List aD}{o:aD}
def aPu(call:aN)(G:aE)(d:Option Nat)(f:FuncId)(xs:List aI)(st:AS):Bool->Option AS
 |true=>vwK call G d f xs st (call f (Gl G st xs) [])
 |false=>lM (lO call) d f (xs.map (aM G (bZ (mT G st.sl xs) st).sl)) (bZ (mT G st.sl xs) st)
def aPv(call:aN)(G:aE)(d:Option Nat)(f:FuncId)(xs:List aI)(st:AS)(av:AV):Bool->Option AS
 |true=>some ⟨aS st.sl d av,st.hp⟩
 |false=>We call G d f xs (bZ (mT G st.sl xs) st)
def aTG(call:aN)(G:aE)(d:Option Nat)(f:FuncId)(xs:List aI)(st:AS)(av:AV):Bool->Option AS
 |true=>some ⟨aS st.sl d av,st.hp⟩
 |false=>dnZ call G d f xs st
def aTH(call:aN)(G:aE)(d:Option Nat)(f:FuncId)(xs:List aI)(st:AS):Bool->Option AS
 |true=>nwK d st (call f (lN G st.sl xs) [])
 |false=>none
def aTI(call:aN)(G:aE)(d:Option Nat)(f:FuncId)(xs:List aI)(st:AS):Bool->Option AS
 |true=>qcK d st (call f (lN G st.sl xs) [])
 |false=>none
theorem aTJ:clZ call G d f xs st=aPu call G d f xs st (tC G st.sl xs):=by unfold clZ;cases tC G st.sl xs<;>rfl
theorem aPw:aPu call G d f xs st true=vwK call G d f xs st (call f (Gl G st xs) []):=q_
theorem aPx:aPu call G d f xs st false=lM (lO call) d f (xs.map (aM G (bZ (mT G st.sl xs) st).sl)) (bZ (mT G st.sl xs) st):=q_
theorem aTK:We call G d f xs st=aTH call G d f xs st ((lN G st.sl xs).all (dH fun _=>true)):=by unfold We;cases (lN G st.sl xs).all (dH fun _=>true)<;>rfl
theorem aPy:aTH call G d f xs st true=nwK d st (call f (lN G st.sl xs) []):=q_
theorem aTL:Cn call G st d (.call f xs)=aTI call G d f xs st ((lN G st.sl xs).all (dH fun _=>true)):=by rw[Cn];cases (lN G st.sl xs).all (dH fun _=>true)<;>rfl
theorem aPz:aTI call G d f xs st true=qcK d st (call f (lN G st.sl xs) []):=q_
theorem aPA:aPv call G d f xs st av true=some ⟨aS st.sl d av,st.hp⟩:=q_
theorem aPB:aPv call G d f xs st av false=We call G d f xs (bZ (mT G st.sl xs) st):=q_
theorem aPC:aTG call G d f xs st av true=some ⟨aS st.sl d av,st.hp⟩:=q_
theorem aTM:vwK call G d f xs st (some (av,[]))=aPv call G d f xs st av (mS av):=by rw[vwK];cases mS av<;>rfl
theorem aTN:vwK call G d f xs st (some (av,o::os))=We call G d f xs (bZ (mT G st.sl xs) st):=q_
theorem aTO:dvK call G d f xs st (some (av,[]))=aTG call G d f xs st av (mS av):=by rw[dvK];cases mS av<;>rfl
theorem aTP:nwK d st (some (av,os))=some ⟨aS st.sl d (dO (cQ [] st.hp.length) av),st.hp++os.map (eL (cQ [] st.hp.length))⟩:=q_
theorem aTQ:qcK d st (some (av,[]))=bif dH (fun _=>true) av then some ⟨aS st.sl d av,st.hp⟩ else none:=q_
theorem qKo:qcK d st (some (av,o::os))=qcF d st (bG (fun id=>decide (0<=id)) ((bZ (kK av) ⟨[av],o::os⟩).sl.getD 0 .junk)):=q_
theorem aTR{c:List aU}:cvK call G d xs st (.one (.fn f c))=lM (lO call) d f (xs.map (aM G st.sl)++c.map AV.one) st:=q_
theorem aTS{size bytes id n:Nat}{x:AV}:apZ d size bytes st (.one (.bld id n)) x=apB d size bytes st id n (aL st.hp id) (sV st.hp x):=q_
theorem aTT{size bytes id n c sz:Nat}{es e:List (List DC)}:apB d size bytes st id n (.arr c sz es) (some e)=if sz=size/\n<=es.length/\gG size e=true/\(n+e.length)*bytes<=140737488355328 then some ⟨aS (klS id st.sl) d (.one (.bld id (n+e.length))),(klH id st.hp).set id (.arr 0 size (es.take n++e))⟩ else none:=rfl
theorem aTU{size bytes:Nat}{c:List (List DC)}:apN d size bytes st (some c)=if gG size c=true/\c.length*bytes<=140737488355328 then some ⟨aS st.sl d (.one (.bld st.hp.length c.length)),klH st.hp.length st.hp++[.arr 0 size c]⟩ else none:=rfl
theorem aTV{size len:Nat}{cs:List aU}{c:List DC}:bsP st d size len cs (some c)=if c.length=len*size then some ⟨aS st.sl d (.one (.bld st.hp.length len)),st.hp++[.arr 0 size (gZ size len c)]⟩ else none:=q_
theorem aTW{size len:Nat}{cs:List aU}:bsP st d size len cs none=if size=1 then some ⟨aS st.sl d (.one (.bls st.hp.length 0 len 1)),st.hp++[.box cs]⟩ else none:=q_
theorem aKZ{a b:Nat}{cs:List aU}:dcs (.ptr a b::cs)=none:=rfl
theorem aTX{size len:Nat}{z:List Value}{ps:List (Nat×aI)}:bsZ G st d size len z ps true=bsX G (bZ (Ix G st.sl ps) st) d size len z ps:=q_
theorem aTY{size len:Nat}{z:List Value}{ps:List (Nat×aI)}:bsZ G st d size len z ps false=bsO G (bZ (Ix G st.sl ps) st) d size len z ps:=q_
theorem aTZ{id c s:Nat}{es:List (List DC)}:bvZ id st (.arr c s es)=bv1 id s es st es.isEmpty:=q_
theorem aT0{id s:Nat}{es:List (List DC)}:bv1 id s es st false=bvB id s es st:=q_
theorem bvT1{id s:Nat}{es:List (List DC)}:bv1 id s es st true=bZ [id] st:=q_
theorem aT1{i sz:Nat}:ghN i sz st (.one (.dc (.raw (.slice none 0 0))))=⟨st.sl.set i (.one (.bld st.hp.length 0)),st.hp++[.arr 0 sz []]⟩:=q_
theorem aT2{j sz id off:Nat}:ghB j sz st (.one (.ptr id off))=aJF id (off+j) sz st (aL st.hp id):=q_
theorem aPD{id j sz:Nat}{cs:List aU}:aJF id j sz st (.box cs)=aJE id j sz cs st cs[j]?:=q_
theorem aPE{id j sz:Nat}{cs:List aU}:aJE id j sz cs st (some (.dc (.raw (.slice none 0 0))))=⟨st.sl,st.hp.set id (.box (cs.set j (.bld st.hp.length 0)))++[.arr 0 sz []]⟩:=q_
def sbK(n:Nat):aD->Option (List (List DC))
 |.arr _ _ es=>if n<=es.length then some (es.take n) else none
 |_=>none
theorem aPF{hp:List aD}{id n:Nat}:sV hp (.one (.bld id n))=sbK n (aL hp id):=by
 simp only[sV];cases aL hp id<;>rfl
theorem aT3{n c z:Nat}{es:List (List DC)}:sbK n (.arr c z es)=if n<=es.length then some (es.take n) else none:=q_
theorem aPG{hp:List aD}{es:List (List DC)}:sV hp (.one (.dc (.slc es)))=some es:=q_
end
section
variable {k:IntKind}{x y:Int}
theorem aK0:fX .quo (.one (.dc (.raw (.int k x)))) (.one (.dc (.raw (.int k y))))=if y=0 then none else some (.one (.dc (.raw (.int k (k.wrap (x.tdiv y)))))):=by
 simp only[fX,lZ,if_true];split<;>rfl
theorem aK1:fX .rem (.one (.dc (.raw (.int k x)))) (.one (.dc (.raw (.int k y))))=if y=0 then none else some (.one (.dc (.raw (.int k (x.tmod y))))):=by
 simp only[fX,lZ,if_true];split<;>rfl
def Wq(k:IntKind)(x y:Int):Int:=k.wrap (BitVec.ofInt k.bits x &&& BitVec.ofInt k.bits y).toNat
def Wr(k:IntKind)(x y:Int):Int:=k.wrap (BitVec.ofInt k.bits x ||| BitVec.ofInt k.bits y).toNat
theorem aK2:fX .and (.one (.dc (.raw (.int k x)))) (.one (.dc (.raw (.int k y))))=some (.one (.dc (.raw (.int k (Wq k x y))))):=by simp[fX,lZ,Wq]
theorem aPH:fX .or (.one (.dc (.raw (.int k x)))) (.one (.dc (.raw (.int k y))))=some (.one (.dc (.raw (.int k (Wr k x y))))):=by simp[fX,lZ,Wr]
theorem aK3{j:IntKind}(h:0<=y):fX .shl (.one (.dc (.raw (.int j x)))) (.one (.dc (.raw (.int k y))))=some (.one (.dc (.raw (.int j (j.wrap (x*2 ^ (min y.toNat j.bits))))))):=by
 simp only[fX];rw[if_neg (by omega)]
theorem aK4{j:IntKind}(h:0<=y):fX .shr (.one (.dc (.raw (.int j x)))) (.one (.dc (.raw (.int k y))))=some (.one (.dc (.raw (.int j (x.fdiv (2 ^ (min y.toNat j.bits))))))):=by
 simp only[fX];rw[if_neg (by omega)]
theorem aPI:unV .neg (.one (.dc (.raw (.int k x))))=some (.one (.dc (.raw (.int k (k.wrap (0-x)))))):=q_
theorem Dh{a b:ByteArray}(h:a.size+b.size<=9223372036854775807):fX .add (.one (.dc (.raw (.string a)))) (.one (.dc (.raw (.string b))))=some (.one (.dc (.raw (.string (a++b))))):=by
 simp only[fX,Hv];rw[if_pos h];rfl
theorem I8{x y:ByteArray}:(x.toList==y.toList)=decide (x=y):=by
 rw[bAv];simp[ByteArray.toList_eq,ByteArray.ext_iff,Array.ext_iff]
theorem aFI{x y:ByteArray}:fX .neq (.one (.dc (.raw (.string x)))) (.one (.dc (.raw (.string y))))=some (.one (.dc (.raw (.bool (decide (x≠y)))))):=by
 simp only[fX,Hv,aZf,dS,I8];congr 5;simp
end
section
variable {call:aN}{G:aE}{st s s':AS}{l:List aO}
variable {r:Nat}{prs:List (Nat×Nat)}{acc:List FP}{d:Option Nat}{ai:AI}{f:FP}{R:List Nat}
def fvK(call:aN)(G:aE)(prs:List (Nat×Nat))(acc:List FP)(r:Nat)(l:List aO):Option (AS×FP)->Option AS
 |some (s,f)=>Wh call G prs (acc++[f]) r l (some s)
 |none=>none
theorem aCk{ops:List aO}:EC call G (.drawnF prs ops) st=nrm (Wh call G prs [] st.hp.length ops (some ⟨st.sl,st.hp++Dd (nAl ops)⟩)):=q_
theorem aK5:Wh call G prs acc r [] (some st)=bif Lh prs acc then some st else none:=q_
theorem aT4{g:Option (Nat×Bool)}{l:List aO}:Wh call G prs acc r (⟨d,ai,g⟩::l) (some st)=fvK call G prs acc (bif aBZ ai then r+1 else r) l (fvO call G st d r ai g):=by rw[Wh];cases fvO call G st d r ai g<;>rfl
theorem aT5{l:List aO}:fvK call G prs acc r l (some (st,f))=Wh call G prs (acc++[f]) r l (some st):=q_
theorem aT6:fvO call G st d r ai none=Lg call G st d r ai:=q_
theorem aCl{z:List Value}:Lg call G st d r (.alloc z)=fvN d r z st st.hp[r]?:=q_
theorem aT7{z:List Value}:fvN d r z st (some .dead)=some (⟨aS st.sl d (.one (.ptr r 0)),st.hp.set r (.box (z.map cN))⟩,[r],[]):=q_
theorem aCm{n:Nat}{x v:aI}:Lg call G st d r (.store n x v)=fvS d n st (aM G st.sl x) (cellsOf (aM G st.sl v)):=q_
theorem aT8{n id off:Nat}{vs:List aU}:fvS none n st (.one (.ptr id off)) (some vs)=fvT n id off vs st st.hp[id]?:=q_
theorem aNu{n id off:Nat}{vs cs:List aU}(c:vs.length=n)(e:off+n<=cs.length):fvT n id off vs st (some (.box cs))=some (⟨st.sl,st.hp.set id (.box (dB cs off vs))⟩,[id],[id]):=if_pos ⟨c,e⟩
theorem aFJ{f:FuncId}{xs:List aI}:Lg call G st d r (.call f xs)=fvC call G st d f xs ((xs.map (aM G st.sl)).flatMap kK):=q_
theorem aFK{x y:aI}:Lg call G st d r (.cpys x y)=fvY d st (aM G st.sl x) (dN (aM G st.sl y)):=q_
theorem aT9{id c n:Nat}{bs:ByteArray}:fvY d st (.one (.bls id c n 1)) (some bs)=aJK d id c n bs st st.hp[id]?:=by simp only[fvY,if_true]
theorem aPJ{id c n:Nat}{bs:ByteArray}{cs:List aU}(h:c+n<=cs.length):aJK d id c n bs st (some (.box cs))=some (⟨aS st.sl d (dS (.int .i64 (min bs.size n:Nat))),st.hp.set id (.box (dB cs c (fH (bs.data.toList.take n))))⟩,[id],[id]):=if_pos h
theorem aUa{f:FuncId}{xs:List aI}:fvC call G st d f xs []=Vj [] (Cn call G st d (.call f xs)):=q_
theorem aUb{f:FuncId}{xs:List aI}{id:Nat}:fvC call G st d f xs [id]=fvB call d f st (xs.map (aM G st.sl)) id st.hp[id]?:=q_
theorem aUc:Vj R (some s)=some (s,[],R):=q_
theorem aUd{c:aU}:Qr (.one c)=fpC c:=q_
theorem aUe{sl:List AV}:fpA G sl []=[]:=q_
theorem aUf{sl:List AV}{x:aI}{xs:List aI}:fpA G sl (x::xs)=Qr (aM G sl x)++fpA G sl xs:=q_
theorem aUg:nAl []=0:=q_
theorem aUh{g:Option (Nat×Bool)}{l:List aO}:nAl (⟨d,ai,g⟩::l)=bif aBZ ai then nAl l+1 else nAl l:=q_
theorem aK6:Dd 0=[]:=q_
theorem aK7:Dd 3=[.dead,.dead,.dead]:=q_
theorem aPK{c:List FP}:Lh [] c=true:=q_
theorem aPL{p q:Nat}{c:List FP}:Lh ((p,q)::prs) c=(dsM (atF c p) (atF c q)&&Lh prs c):=q_
theorem aUi{a b c e:List Nat}:dsM (a,b) (c,e)=(Gp a e&&(Gp a c&&Gp c b)):=q_
theorem aPM{b:List Nat}:Gp [] b=true:=q_
theorem aPN{x:Nat}{a b:List Nat}:Gp (x::a) b=(!Sc b x&&Gp a b):=q_
theorem aPO{x:Nat}:Sc [] x=false:=q_
theorem aPP{x y:Nat}{a:List Nat}:Sc (y::a) x=(nq x y||Sc a x):=q_
theorem aUj{c:List FP}:atF (f::c) 0=f:=q_
theorem aUk{c:List FP}{n:Nat}:atF (f::c) (n+1)=atF c n:=q_
theorem aK8{x:aI}:Lg call G st d r (.mov x)=Vj (fpA G st.sl [x]) (mU call G st [] d (.mov x)):=q_
theorem aFL{g:Bool}{n:Nat}{x:aI}:Lg call G st d r (.load g n x)=Vj (fpA G st.sl [x]) (mU call G st [] d (.load g n x)):=q_
theorem aK9{c:BinOp}{x y:aI}:Lg call G st d r (.bin c x y)=Vj (fpA G st.sl [x,y]) (mU call G st [] d (.bin c x y)):=q_
theorem aFM{o:Nat}{x:aI}:Lg call G st d r (.addo o x)=Vj (fpA G st.sl [x]) (mU call G st [] d (.addo o x)):=q_
theorem aLa{z:Nat}{x:aI}{e c:Option aI}:Lg call G st d r (.slL z x e c)=Vj (fpA G st.sl (x::(e.toList++c.toList))) (mU call G st [] d (.slL z x e c)):=q_
end
attribute [go_sem] aCk aK5 aT4 aT5 aT6 aCl aT7 aCm aT8 aNu aFK aT9 aPJ aFJ aUa aUb aUc aUd aUe aUf aUg aUh aK6 aK7 aPK aPL aUi aPM aPN aPO aPP aUj aUk fpC aBZ aK8 aFL aK9 aFM aLa
attribute [go_sem] aJ2 aOU aJ3 aB5 aFb Wo aJ5 aFc aJ6 aTd aFd aNt aTe aTf aTg aTh aJ7 aJ8 aOV aOW aOX aTi aTj aTk aTl aKa aTm aTp aTq aTr aTs aKe aKf aTt aTu aKg aKh aTv aTw aFg aO5
attribute [go_sem] aTZ aT0 bvT1 Sa bvB bvC R9 bvV bvT bvS bvO bvH
attribute [go_sem] aTC aTD aTE bxO1 C9 bxB bxV bxT bxC bxD bxO Wb aJC Y6 aSz aEJ
attribute [go_sem] aB7 aKb aOZ aO0 aO1 aKd iW
attribute [go_sem] aO4 Db aKn aKD aFi aFj aBU aO7 aO8 aPc aO9 aFk aBV aPa aTy aKj aJ4 aFf aO2 aTn aTo aO3 kQ Oq R3 aBT aPb aKk mkZ aTx aO6 aFh aB8 aKi aFl aB9 aKl aCa aKm aFm aFn aFo aKo aFp aKp aPd aFq aFr aFs aKq aKr aKu aKv aKw aCb aKx aFt aFu aKy aKz aFv
attribute [go_sem] aTz aTA aFw aCc aKA aFx aCd aCe aKB aKC aFy aFz aFA aKE aFB aKF aPe aFC aFD aKG aKH aKI aCf aKJ aFE aFF aXw aKK aFG aCg aPf aKL aKM aCh aCi aKN aKO aKP aKQ aKR aKS aKT aKU aKV aKW aPg aKX aPh aKY
attribute [go_sem] aXz and_false false_and or_false false_or or_true true_or bAd aZX Bool.or_true Bool.or_false not_true_eq_false not_false_eq_true List.flatMap_cons List.flatMap_nil aXx aXy B7 gG jQ aPi aPj aPk aXv aOY aB6 Wp jk aJ9 Zz aPm aPn aPo aTB aPp
attribute [go_sem] aTV aTW aKZ aKs aKt
attribute [go_sem] aOy aBR aTJ aPw aPx aTK aPy aTL aPz aPA aPB aPC aTM aTN aTO aTP aTQ qKo qcF List.getD_cons_zero aTR aTS aTT aTU aTX aTY aT1 aT2 aPD aPE aPG aPF aT3 aK0 aK1 aK2 aPH aK3 aK4 aPI Dh aFI ghE klC Om klV klS klO klH Wd aEN tC Gl lN aOw aEL aEM mT lO cvZ isT aOz aNq aOA aJI Ix bsO ctC Gq ctV ctO ctH ctS lA bZ mO lJ jC kK aEq idsL aSr dH keepL F4 pQ aU.keep bG cO uJ cU dO kT H7 renL eL cQ B4 tW aPq aCj aPr aPs aPt uB gU
end
section
def kL(x:Nat):List Nat->Bool
 |[]=>false
 |j::J=>nq x j||kL x J
theorem G8(x:Nat):∀J:List Nat,kL x J=J.contains x
 |[]=>rfl
 |j::J=>by rw[kL,List.contains_cons,G8 x J,jT]
def rcB(hp:List aD)(n id:Nat)(c J:List Nat):Bool->List Nat
 |true=>uX hp n c J
 |false=>uX hp n (aJi (aL hp id)++c) (J++[id])
theorem aCn{hp:List aD}{n:Nat}{J:List Nat}:uX hp n [] J=J:=by cases n<;>rfl
theorem aLb{hp:List aD}{n id:Nat}{c J:List Nat}:uX hp (n+1) (id::c) J=rcB hp n id c J (kL id J):=by
 rw[uX,G8];cases J.contains id<;>rfl
theorem aUl{hp:List aD}{n id:Nat}{c J:List Nat}:rcB hp n id c J false=uX hp n (aJi (aL hp id)++c) (J++[id]):=q_
def Sp:List Nat->Bool
 |[]=>true
 |j::J=>!kL j J&&Sp J
theorem Z1:∀J:List Nat,Sp J=oU (fun i j=>i != j) J
 |[]=>rfl
 | j::J=>by
  rw[Sp,oU,Z1 J,G8];congr 1
  induction J with
  | nil=>rfl
  | cons i J c=>simp only[List.contains_cons,List.all_cons,Bool.not_or,c];rfl
def kpC(J:List Nat):aU->Bool
 |.ptr id _=>kL id J
 |.bld id _=>kL id J
 |.ept id _ _ _=>kL id J
 |.bls id _ _ _=>kL id J
 |.fn f c=>(aU.fn f c).keep (lL J)
 |.dc _=>true
 |.ref _=>true
 |.mpc _=>true
 |.junk=>true
def Gr(J:List Nat):List aU->Bool
 |[]=>true
 |c::cs=>kpC J c&&Gr J cs
def kpV(J:List Nat):AV->Bool
 |.one c=>kpC J c
 |.agg cs=>Gr J cs
 |.tup l=>l.all (F4 (lL J))
 |.junk=>true
def Ox(J:List Nat):List AV->Bool
 |[]=>true
 |v::vs=>kpV J v&&Ox J vs
def kpO(J:List Nat):aD->Bool
 |.box cs=>Gr J cs
 |.arr _ _ _=>true
 |.dead=>true
def kpH(J:List Nat)(hp:List aD):List Nat->Bool
 |[]=>true
 |j::l=>decide (j<hp.length)&&kpO J (aL hp j)&&kpH J hp l
theorem aFN(J:List Nat)(c:aU):kpC J c=c.keep (lL J):=by
 cases c<;>simp[kpC,aU.keep,lL,G8]
theorem Oy(J:List Nat):∀cs,Gr J cs=keepL (lL J) cs
 |[]=>rfl
 |c::cs=>by rw[Gr,keepL,aFN,Oy J cs]
theorem aPQ(J:List Nat)(v:AV):kpV J v=dH (lL J) v:=by
 cases v<;>simp[kpV,dH,aFN,Oy]
theorem Oz(J:List Nat):∀vs,Ox J vs=vs.all (dH (lL J))
 |[]=>rfl
 |v::vs=>by rw[Ox,List.all_cons,aPQ,Oz J vs]
theorem aPR(J:List Nat)(o:aD):kpO J o=pQ (lL J) o:=by
 cases o<;>simp[kpO,pQ,Oy]
theorem aFO(J:List Nat)(hp:List aD):∀l,kpH J hp l=l.all fun j=>decide (j<hp.length)&&pQ (lL J) (aL hp j)
 |[]=>rfl
 |j::l=>by rw[kpH,List.all_cons,aPR,aFO J hp l]
def arB(j:Nat)(l:List Nat):aD->List Nat
 |.box _=>l
 |_=>j::l
def arJ(hp:List aD):List Nat->List Nat
 |[]=>[]
 |j::J=>arB j (arJ hp J) (aL hp j)
def kaC(A:List Nat):aU->aU
 |.dc d=>.dc d
 |.ref cs=>.ref cs
 |.mpc es=>.mpc es
 |.junk=>.junk
 |.ptr j o=>bif kL j A then .junk else .ptr j o
 |.bld j n=>bif kL j A then .junk else .bld j n
 |.ept j i s o=>bif kL j A then .junk else .ept j i s o
 |.bls j i s o=>bif kL j A then .junk else .bls j i s o
 |.fn f c=>cO (fun id=>kL id A) (.fn f c)
def aCo(A:List Nat):List aU->List aU
 |[]=>[]
 |c::cs=>kaC A c::aCo A cs
def kaV(A:List Nat):AV->AV
 |.one c=>.one (kaC A c)
 |.agg cs=>.agg (aCo A cs)
 |.tup l=>.tup (l.map (uJ fun id=>kL id A))
 |.junk=>.junk
def kaS(A:List Nat):List AV->List AV
 |[]=>[]
 |v::vs=>kaV A v::kaS A vs
def kaO(A:List Nat):aD->aD
 |.box cs=>.box (aCo A cs)
 |.arr c s es=>.arr c s es
 |.dead=>.dead
def kaH(A:List Nat):List aD->List aD
 |[]=>[]
 |o::os=>kaO A o::kaH A os
theorem aFP(A:List Nat)(c:aU):kaC A c=cO (fun id=>kL id A) c:=by
 cases c<;>simp only[kaC,cO,aU.keep,if_true]
 case ptr j o=>
  by_cases h:kL j A=true;simp[h];simp[h,(bAw.2 h:kL j A=false)]
 case bld j n=>
  by_cases h:kL j A=true;simp[h];simp[h,(bAw.2 h:kL j A=false)]
 case ept j i s o=>
  by_cases h:kL j A=true;simp[h];simp[h,(bAw.2 h:kL j A=false)]
 case bls j i s o=>
  by_cases h:kL j A=true;simp[h];simp[h,(bAw.2 h:kL j A=false)]
theorem O0(A:List Nat):∀cs,aCo A cs=cs.map (cO fun id=>kL id A)
 |[]=>rfl
 |c::cs=>by simp[aCo,aFP,O0 A cs]
theorem aPT(A:List Nat)(v:AV):kaV A v=bG (fun id=>kL id A) v:=by
 cases v<;>simp only[kaV,bG,aFP,O0]
theorem aFQ(A:List Nat):∀l,kaS A l=l.map (bG fun id=>kL id A)
 |[]=>rfl
 |c::cs=>by simp[kaS,aPT,aFQ A cs]
theorem aFR(A:List Nat):∀l,kaH A l=l.map (cU fun id=>kL id A)
 |[]=>rfl
 |o::os=>by cases o<;>simp[kaH,kaO,cU,O0,aFR A os]
theorem aFS(hp:List aD):∀J:List Nat,(fun id=>kL id (arJ hp J))=fun id=>J.contains id&&!jC (aL hp id)
 |[]=>by funext id;rfl
 | j::J=>by
  funext id;have c:kL id (arJ hp J)=(J.contains id&&!jC (aL hp id)):=congrFun (aFS hp J) id;rw[List.contains_cons,arJ];by_cases h:id=j
  ·subst h;cases g:aL hp id with
   | box cs=>rw[arB,c,g];simp[jC]
   | _=>simp[arB,kL,jT,jC]
  ·have e:(id==j)=false:=by simpa using h
   cases g:aL hp j with
   | box cs=>rw[arB,c,e,aZX]
   | _=>simp only[arB,kL,jT,e,aZX];exact c
def afB(J:List Nat)(st:AS)(d:Option Nat)(av:AV)(os:List aD):List Nat->AS
 |[]=>⟨aS st.sl d (dO (cQ J st.hp.length) av),lJ J (os.map (eL (cQ J st.hp.length))) st.hp++(os.drop J.length).map (eL (cQ J st.hp.length))⟩
 |a::A=>⟨aS (kaS (a::A) st.sl) d (dO (cQ J st.hp.length) av),lJ J (os.map (eL (cQ J st.hp.length))) (kaH (a::A) st.hp)++(os.drop J.length).map (eL (cQ J st.hp.length))⟩
theorem aFT{J:List Nat}{st:AS}{d:Option Nat}{av:AV}{os:List aD}:jD J st d av os=afB J st d av os (arJ st.hp J):=by
 unfold jD;rw[<- aFS];cases h:arJ st.hp J with
 |nil=>
  have c:∀id,kL id []=false:=fun _=>rfl
  rw[rP c,rQ c];rfl
 |cons a A=>rw[afB,aFQ,aFR]
theorem aUq{J:List Nat}{st:AS}{d:Option Nat}{av:AV}{os:List aD}:afB J st d av os []=⟨aS st.sl d (dO (cQ J st.hp.length) av),lJ J (os.map (eL (cQ J st.hp.length))) st.hp++(os.drop J.length).map (eL (cQ J st.hp.length))⟩:=q_
def evJ(call:aN)(d:Option Nat)(f:FuncId)(c:List AV)(st:AS)(J:List Nat):Option AS:=if okJ J st.hp c then (call f (c.map (dO (mO J))) (J.map fun j=>eL (mO J) (aL st.hp j))).map fun r=>jD J st d r.1 r.2 else none
def evK(d:Option Nat)(st:AS)(J:List Nat):Option (AV×List aD)->Option AS
 |some (av,os)=>some (jD J st d av os)
 |none=>none
def evB(call:aN)(d:Option Nat)(f:FuncId)(c:List AV)(st:AS)(J:List Nat):Bool->Option AS
 |true=>evK d st J (call f (c.map (dO (mO J))) (J.map fun j=>eL (mO J) (aL st.hp j)))
 |false=>none
theorem aFU{call:aN}{d:Option Nat}{f:FuncId}{c:List AV}{st:AS}:lM call d f c st=evJ call d f c st (uX st.hp 2000 (c.flatMap kK) []):=q_
theorem aFV{call:aN}{d:Option Nat}{f:FuncId}{c:List AV}{st:AS}(J:List Nat):evJ call d f c st J=evB call d f c st J (Sp J&&kpH J st.hp J&&Ox J c):=by
 unfold evJ okJ;rw[Z1,aFO,Oz];cases (oU (fun i j=>i != j) J&&(J.all fun j=>decide (j<st.hp.length)&&pQ (lL J) (aL st.hp j))&&c.all (dH (lL J))) with
 |false=>rfl
 |true=>
  simp only[if_true,evB];cases call f (c.map (dO (mO J))) (J.map fun j=>eL (mO J) (aL st.hp j))<;>rfl
theorem aUr{call:aN}{d:Option Nat}{f:FuncId}{c:List AV}{st:AS}:evJ call d f c st []=evB call d f c st [] (Sp []&&kpH [] st.hp []&&Ox [] c):=aFV _
theorem aUs{call:aN}{d:Option Nat}{f:FuncId}{c:List AV}{st:AS}{a:Nat}:evJ call d f c st [a]=evB call d f c st [a] (Sp [a]&&kpH [a] st.hp [a]&&Ox [a] c):=aFV _
theorem aUt{call:aN}{d:Option Nat}{f:FuncId}{c:List AV}{st:AS}{a b:Nat}:evJ call d f c st [a,b]=evB call d f c st [a,b] (Sp [a,b]&&kpH [a,b] st.hp [a,b]&&Ox [a,b] c):=aFV _
theorem aUu{call:aN}{d:Option Nat}{f:FuncId}{c:List AV}{st:AS}{J:List Nat}:evB call d f c st J true=evK d st J (call f (c.map (dO (mO J))) (J.map fun j=>eL (mO J) (aL st.hp j))):=q_
theorem aUv{d:Option Nat}{st:AS}{J:List Nat}{av:AV}{os:List aD}:evK d st J (some (av,os))=some (jD J st d av os):=q_
theorem Sq:∀c:List DC,idsL (oR c)=[]
 |[]=>rfl
 | d::c=>by
  have:=Sq c;simp only[oR,aZl,idsL,aEq,aZn] at this ⊢;exact this
theorem kpAl(J:List Nat):∀c:List DC,Gr J (oR c)=true
 |[]=>rfl
 | d::c=>by
  have:=kpAl J c;simp only[oR,aZl,Gr,kpC,aZJ] at this ⊢;exact this
theorem rnAl(ρ:Nat->Nat)(ds:List DC):(oR ds).map (kT ρ)=oR ds:=by
 simp only[oR,aZG];exact aZC fun d _=>rfl
theorem Sr(id:Nat):∀c:List DC,Om id (oR c)=oR c
 |[]=>rfl
 | d::c=>by
  have:=Sr id c;simp only[oR,aZl,Om,klC] at this ⊢;rw[this]
theorem Ss(m:Nat):∀c:List DC,Gq m (oR c)=oR c
 |[]=>rfl
 | d::c=>by
  have:=Ss m c;simp only[oR,aZl,Gq,ctC] at this ⊢;rw[this]
theorem O1:∀c:List DC,dcs (oR c)=some c
 |[]=>rfl
 | d::c=>by
  have:=O1 c;simp only[oR,aZl,dcs] at this ⊢;rw[this];rfl
theorem O2(a:Nat):nq a a=true:=by rw[jT];simp
attribute [go_sem] Sq kpAl rnAl Sr Ss O1
attribute [go_sem] kL aCn aLb aUl Sp kpC Gr kpV Ox kpO kpH arB arJ kaC aCo kaV kaS kaO kaH aFT aUq aFU aUr aUs aUt aUu aUv aJi Nat.reduceLT
section
variable {call:aN}{G:aE}{st:AS}{d:Option Nat}
def aUw(call:aN)(d:Option Nat)(f:FuncId)(st:AS)(c:List AV)(id:Nat)(cs:List aU):Bool->Option (AS×FP)
 |true=>aEQ d id st (lO call f (c.map (dO (mO [id]))) [.box cs])
 |false=>none
theorem aUx{f:FuncId}{c:List AV}{id:Nat}{cs:List aU}:fvB call d f st c id (some (.box cs))=aUw call d f st c id cs (keepL (fun _=>true) cs&&Ox [id] c):=by
 rw[Oz];simp only[fvB];cases (keepL (fun _=>true) cs&&c.all (dH (lL [id])))<;>rfl
theorem aPU{f:FuncId}{c:List AV}{id:Nat}{cs:List aU}:aUw call d f st c id cs true=aEQ d id st (lO call f (c.map (dO (mO [id]))) [.box cs]):=q_
end
attribute [go_sem] aUx aPU
attribute [go_sem] Nat.reduceAdd Nat.reduceSub Nat.reduceMul Nat.reduceLeDiff Nat.reduceEqDiff
end
section
def aFW(size bytes:Nat)(z:List Value):HC:=
 (.seq (.region [Oo 2 (.mov (.k (.slice none 0 0)))])
 (.seq (.seq (.region [Oo 3 (.mov (.t 0)),Oo 4 (.isnil false false (.t 3))])
 (.cond (.t 4) (.seq (.region [Oo 2 (.mov (.k (.slice none 0 0)))])
 .ret)
 .skip))
 (.seq (.region [Oo 5 (.bslc size 0 z []),Oo 6 (.mov (.t 0)),Oo 7 (.app size bytes z (.t 5) (.t 6)),Oo 2 (.mov (.t 7))])
 .ret)))
section
variable {P:Program}{G:aE}{call:aN}
theorem aCp:cJ P G (fun _ _ _=>none):=fun f c hp av e h=>by cases h
theorem Ws{size bytes:Nat}{z:List Value}{es:List (List DC)}{c:AV}(h4:c=dS (.bool false))(h:0<z.length)(g:gG size es=true)(e:es.length*bytes<=140737488355328):EC call G (.seq (.region [Oo 5 (.bslc size 0 z []),Oo 6 (.mov (.t 0)),Oo 7 (.app size bytes z (.t 5) (.t 6)),Oo 2 (.mov (.t 7))]) .ret) ⟨[.one (.dc (.slc es)),.junk,dS (.slice none 0 0),.one (.dc (.slc es)),c,.junk,.junk,.junk],[]⟩= some (.ret,⟨[.one (.dc (.slc es)),.junk,.one (.bld 0 es.length),.one (.dc (.slc es)),c,.one .junk,.one (.dc (.slc es)),.one (.bld 0 es.length)],[.arr 0 size es]⟩):=by
 subst h4;simp[go_sem,g,e]
theorem aFX{f:FuncId}{g:Func}{size bytes:Nat}{z:List Value}{es:List (List DC)}(hf:P.funcs[f]?=some g)(A:g.ntmps=8) (v:g.body.bind (bN P)=some (aFW size bytes z).er) (B:g.results.toList.mapM (iG P)=some [.tmp 2]) (C:0<z.length) (w:gG size es=true) (u:es.length*bytes<=140737488355328):AC P G f [.one (.dc (.slc es))] [] fun a o=>a=.one (.bld 0 es.length)/\o.map aR=[.arr 0 size es]:=by
 have q:AC P G f [.one (.dc (.slc es))] [] fun a o=>(a=.one (.bld 0 es.length)/\o.map aR=[.arr 0 size es])\/(es=[]/\a=dS (.slice none 0 0)/\o=[]):=by
  refine AC.of_codeJ hf A v B ?_;have c:∀ b:Bool,(b=true->es=[])->AW P G 0 (.cond (.t 4) (.seq (.region [Oo 2 (.mov (.k (.slice none 0 0)))]) .ret) .skip)
    (Ig P G 0 (.seq (.region [Oo 5 (.bslc size 0 z []),Oo 6 (.mov (.t 0)),Oo 7 (.app size bytes z (.t 5) (.t 6)),Oo 2 (.mov (.t 7))]) .ret) (Fin 0 [.tmp 2] fun a o=>(a=.one (.bld 0 es.length)/\o.map aR=[.arr 0 size es])\/(es=[]/\a=dS (.slice none 0 0)/\o=[])))
    ⟨[.one (.dc (.slc es)),.junk,dS (.slice none 0 0),.one (.dc (.slc es)),dS (.bool b),.junk,.junk,.junk],[]⟩:=by
   intro b i;refine AW.cond (b:=b) rfl (fun h=>?_) (fun h=>?_)
   ·refine AW.seq (AW.region (WR.exX trivial rfl rfl (WR.nil ?_)));exact AW.ret (Ig.r (by unfold Fin;exact⟨.inr rfl,aZx _,_,rfl,.inr ⟨i h,rfl,rfl⟩⟩))
   ·subst h;refine AW.skip (Ig.n ?_);refine (aNs (aCp (P:=P) (G:=G)) (.seq (.region [Oo 5 (.bslc size 0 z []),Oo 6 (.mov (.t 0)),Oo 7 (.app size bytes z (.t 5) (.t 6)),Oo 2 (.mov (.t 7))]) .ret) _ .ret _ (Ws rfl C w u) 0).mono ?_;rintro e s ⟨rfl,p⟩;unfold Fin;refine⟨.inr rfl,aZx _,.one (.bld 0 es.length), ?_,.inl ⟨rfl,congrArg AS.hp p⟩⟩;rw[<- Ex,p];rfl
  refine AW.seq (AW.region (WR.exX trivial rfl rfl (WR.nil ?_)));refine AW.seqv (AW.seq (AW.region (WR.exX trivial rfl rfl ?_)));cases es with
  | nil=>exact WR.isnil0 trivial rfl rfl (fun b=>WR.nil (c b (fun _=>rfl)))
  | cons e es=>exact WR.exX trivial rfl rfl (WR.nil (c false (fun h=>by cases h)))
 refine q.gh (fun a o h j=>?_)
 rcases h with⟨rfl,h⟩|⟨rfl,rfl,rfl⟩;exact⟨_,_,Gh.refl,j,rfl,h⟩;exact⟨_,_,Gh.nil (d:=0) size rfl,aZx _,rfl,rfl⟩
def aFY(size bytes:Nat):List AV->List aD->Option (AV×List aD)
 |[.one (.dc (.slc es))],[]=>if gG size es=true/\es.length*bytes<=140737488355328 then some (.one (.bld 0 es.length),[.arr 0 size es]) else none
 |_,_=>none
def I9:List (FuncId×Nat×Nat)->aN
 |[],_,_,_=>none
 |(g,size,bytes)::L,f,c,hp=>if f=g then aFY size bytes c hp else I9 L f c hp
theorem E2:∀(L:List (FuncId×Nat×Nat)),(∀e∈L,Vq P e.1=true/\∃i z,P.funcs[e.1]?=some i/\i.ntmps=8/\i.body.bind (bN P)=some (aFW e.2.1 e.2.2 z).er/\i.results.toList.mapM (iG P)=some [.tmp 2]/\0<z.length)->cJ P G (I9 L)
 |[],_=>fun f c hp av t h=>by cases h
 | (g,size,bytes)::L,n=>fun f c hp av t h j q=>by
  unfold I9 at h;split at h
  ·rename_i hf;subst hf;obtain⟨u,i,z,v,h3,h4,h5,h6⟩:=n _ aZt;refine⟨u, ?_⟩;unfold aFY at h;split at h
   ·rename_i es;split at h
    ·rename_i p;simp only[Option.some.injEq,Prod.mk.injEq] at h;obtain⟨rfl,rfl⟩:=h;have:j=[]:=by simpa using q
     subst this;exact aFX v h3 h4 h5 h6 p.1 p.2
    ·cases h
   ·cases h
  ·exact E2 L (fun e w=>n e (aZB _ w)) f c hp av t h j q
end
end
section
open Go.RowKit
theorem Di(k:Int):∀(l:List MapEntry)(i:Nat),(∀x∈l,∃n,x.key=.int .i64 n/\n≠k)->Instr.findNow (.int .i64) (.int .i64 k) l i=some none
 |[],i,h=>rfl
 | e::l,i,h=>by
  obtain⟨n,g,j⟩:=h e aZt;have c:(k==n)=false:=by simp;exact fun e=>j e.symm
  simp[Instr.findNow,Instr.sameNow,g,c,Di k l (i+1) (fun x p=>h x (aZB _ p))]
theorem Dj{P:Program}{t g u:TypeId}(A:P.underlying t=some (.map g u))(q:P.underlying g=some (.int .i64))(w:World)(es:Array MapEntry)(c:Nat)(n:Int)(v:Value) (z:∀x∈es.toList,∃m,x.key=.int .i64 m/\m≠n):(Instr.mapUpdate t (.map (some w.heap.size)) (.int .i64 n) v).run P (w.alloc (.map es c))=.ok () (w.alloc (.map (es.push { key:=.int .i64 n,val:=v,born:=c }) (c+1))):=by
 have p:(w.alloc (.map es c)).heap[w.heap.size]?=some (.map es c):=by
  show (w.heap.push _)[w.heap.size]?=_;simp
 have j:(getObj w.heap.size).run P (w.alloc (.map es c))=.ok (.map es c) (w.alloc (.map es c)):=by simp only[getObj,Sem.run,p]
 have h:(Instr.checkKey false (9999+1) g (.int .i64 n)).run P (w.alloc (.map es c))=.ok () (w.alloc (.map es c)):=by
  unfold Instr.checkKey;simp[run_underlying q]
 have i:(Instr.findKey g (.int .i64 n) es.toList).run P (w.alloc (.map es c))=.ok none (w.alloc (.map es c)):=by
  simp[Instr.findKey,run_underlying q,Di n es.toList 0 z]
 have e:∀o,(setObj w.heap.size o).run P (w.alloc (.map es c))=.ok () (w.alloc o):=by
  intro o;rw[MapKept.run_setObj_map o p];have:(w.heap.push (.map es c)).setIfInBounds w.heap.size o=w.heap.push o:=by
   apply Array.ext';simp
  show Result.ok () ({ w.alloc (.map es c) with heap:=(w.heap.push (.map es c)).setIfInBounds w.heap.size o }:World)=_
  rw[this];rfl
 simp[Instr.mapUpdate,run_underlying A,j,h,i,e]
def tyL:List (Int×Value):=[(16,.bool true),(32,.bool false),(48,.bool true),(64,.bool false),(96,.bool true),(112,.bool true),(128,.bool false),(144,.bool true),(160,.bool false),(176,.bool false),(192,.bool false)]
def tyE:Array MapEntry:=#[⟨.int .i64 16,.bool true,0⟩,⟨.int .i64 32,.bool false,1⟩,⟨.int .i64 48,.bool true,2⟩,⟨.int .i64 64,.bool false,3⟩,⟨.int .i64 96,.bool true,4⟩,⟨.int .i64 112,.bool true,5⟩,⟨.int .i64 128,.bool false,6⟩,⟨.int .i64 144,.bool true,7⟩,⟨.int .i64 160,.bool false,8⟩,⟨.int .i64 176,.bool false,9⟩,⟨.int .i64 192,.bool false,10⟩]
set_option maxRecDepth 100000 in
theorem aLc(w:World):Calls Tryz.prog 233 #[] w fun e w'=>e=.returned (.map (some w.heap.size))/\w'=w.alloc (.map tyE 11):=by
 have c:=fun w=>run_makeMap_plain (P:=Tryz.prog) (w:=w) 192
 go_enter Tryz.func233,Tryz.ntmps233
 go_wp2
 iterate 11
  rw[Dj Tryz.underlying192 Tryz.underlying3]
  rotate_left
  ·simp
  simp only[Result.andThen]
  go_wp2
 go_ret
 exact⟨rfl,rfl⟩
set_option maxRecDepth 100000 in
theorem aUy(s:ByteArray)(c:Int)(w:World):Calls Tryz.prog 306 #[.string s,.int .u8 c] w fun e w'=>e=.returned (.int .i64 (Lib.indexByte s.data.toList c.toNat.toUInt8))/\w'=w:=by
 go_enter Tryz.func306,Tryz.ntmps306
 go_wp2
 rw[run_callFunc_extern Tryz.func307 (by kernel_rfl) (by kernel_rfl) (by kernel_rfl) (e:=Extern.BytealgIndexByte.indexByte) (by kernel_rfl),Lib.run_indexByteString];simp only[Result.andThen];rw[Oper.upon_value]
 go_wp2
 go_ret
 exact⟨rfl,rfl⟩
theorem aFZ{γ:List OI}{hp:List aD}{F:Fz}{w:World}(c:eG F γ hp w)(h:hp=[]):γ=[]:=bAk (by rw[c.len,h];rfl)
theorem aLd{G:aE}:QC Tryz.prog G 233 [] (.one (.mpc tyL)):=by
 intro F γ vs w n v u;have t:=aFZ n rfl;subst t;have q:vs=#[]:=Array.eq_empty_of_size_eq_zero u.1;subst q;have p:∀ b o,F b=some o->b < w.heap.size:=fun b o h=>by
  have:=n.fz b o h;exact (Array.getElem?_eq_some_iff.1 this).1
 have g:∀b,b<w.heap.size->(w.heap.push (.map tyE 11))[b]?=w.heap[b]?:=fun b c=>by rw[Array.getElem?_push_lt c,aZR c]
 refine (aLc w).mono ?_;rintro e w' ⟨rfl,rfl⟩;refine⟨_,_,[],fun b=>if b=w.heap.size then some (.map tyE 11) else F b,[],rfl,⟨rfl,rfl⟩,aZe _,⟨?_,rfl,rfl,rfl,?_,?_,?_,?_,?_⟩,⟨?_,rfl,?_,?_,?_⟩,.one _ _ (.mpc tyL w.heap.size 11 tyE (by simp) (by rfl) (by decide))⟩
 intro b o h;have:=p b o h;show (if b=w.heap.size then _ else F b)=_
 rw[if_neg (by omega)];exact h;show w.heap.size<=(w.heap.push _).size;simp;intro b c _;exact g b c;intro b o h;by_cases c:b=w.heap.size;exact .inr (.inl (by omega));simp only[if_neg c] at h;exact .inl h;intro i b h;simp[cG] at h;intro i n;exact absurd n (Nat.not_lt_zero _);intro b o h;by_cases c:b=w.heap.size;subst c;simp only[if_true] at h;rw[<- h];show (w.heap.push _)[w.heap.size]?=_;simp;simp only[if_neg c] at h;exact (g b (p b o h)).trans (n.fz b o h);intro i j b h;simp[cG] at h;intro i b h;simp[cG] at h;intro i o x h;simp at h
theorem aUz{G:aE}(s:ByteArray)(c:Int):QC Tryz.prog G 306 [.one (.dc (.raw (.string s))),.one (.dc (.raw (.int .u8 c)))] (.one (.dc (.raw (.int .i64 (Lib.indexByte s.data.toList c.toNat.toUInt8))))):=by
 intro F γ vs w i q g;obtain⟨p,g⟩:=g;have h:=aFZ i rfl;subst h;obtain⟨x,y,rfl⟩:∃x y,vs=#[x,y]:=by
  obtain⟨l⟩:=vs
  match l,p with
  |[x,y],_=>exact⟨x,y,rfl⟩
 have j:=cX (g 0 _ _ rfl rfl);have n:=cX (g 1 _ _ rfl rfl);subst j;subst n;refine (aUy s c w).mono ?_;rintro e w' ⟨rfl,rfl⟩;exact⟨_,_,[],F,[],rfl,⟨rfl,rfl⟩,aZe _,iU.refl _ _ _ _,i,.one _ _ (.dc _ _ (.raw _ rfl))⟩
def tyK:List AV->List aD->Option (AV×List aD)
 |[],[]=>some (.one (.mpc tyL),[])
 |_,_=>none
def ixK:List AV->List aD->Option (AV×List aD)
 |[.one (.dc (.raw (.string s))),.one (.dc (.raw (.int .u8 c)))],[]=>some (.one (.dc (.raw (.int .i64 (Lib.indexByte s.data.toList c.toNat.toUInt8)))),[])
 |_,_=>none
def awK:List AV->List aD->Option (AV×List aD)
 |[],[]=>some (.one (.dc (.raw (.bool true))),[])
 |_,_=>none
def bs(b:Bool):aN:=fun f c hp=>if f=233 then tyK c hp else if f=306 then ixK c hp else if f=4 then (if b=true then awK c hp else none) else I9 [(199,2,16)] f c hp
theorem aNw{G:aE}{b:Bool}(q:b=true->QC Tryz.prog G 4 [] (.one (.dc (.raw (.bool true))))):cJ Tryz.prog G (bs b):=by
 intro f j hp av u h i n;unfold bs at h;split at h;rename_i hf;subst hf;unfold tyK at h;split at h;injection h with h;injection h with c g;subst c;subst g
 have:i=[]:=by simpa using n
 subst this;exact⟨by kernel_rfl,aLd.gh (fun a o ⟨c,g⟩ _=>⟨a,o,Gh.refl,aZx _,c,by rw[g];rfl⟩)⟩
 cases h;split at h;rename_i hf;subst hf;unfold ixK at h;split at h;injection h with h;injection h with c g;subst c;subst g
 have:i=[]:=by simpa using n
 subst this;exact⟨by kernel_rfl,(aUz _ _).gh (fun a o ⟨c,g⟩ _=>⟨a,o,Gh.refl,aZx _,c,by rw[g];rfl⟩)⟩
 cases h;split at h;rename_i hf;subst hf;split at h;rename_i t;unfold awK at h;split at h;injection h with h;injection h with c g;subst c;subst g
 have:i=[]:=by simpa using n
 subst this;exact⟨by kernel_rfl,(q t).gh (fun a o ⟨c,g⟩ _=>⟨a,o,Gh.refl,aZx _,c,by rw[g];rfl⟩)⟩
 cases h;cases h
 exact E2 [(199,2,16)] (fun e p=>by
  simp only[List.mem_singleton] at p;subst p;exact⟨by kernel_rfl,_,[Zi 0,Zi 0],Tryz.func199,Tryz.ntmps199,h199_ok,aJ1,by decide⟩) f j hp av u h i n
