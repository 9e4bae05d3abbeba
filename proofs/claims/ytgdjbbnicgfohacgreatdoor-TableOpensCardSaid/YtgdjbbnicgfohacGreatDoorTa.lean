/- Part. Conditions: none. -/
import Derived.Test.YtgdjbbnicgfohacGreatDoorNd
import Derived.Test.YtgdjbbnicgfohacGreatDoorCb
import Derived.WalkKit
import Derived.WideMake
import Derived.MapKept
import Derived.Lib.Bytealg
import Derived.Lib.Walk
import Derived.Lib.Strings
import Derived.BigCall
namespace Go.Proofs.YtgdjbbnicgfohacGreatDoor
set_option maxHeartbeats 1000000
set_option linter.unusedSimpArgs false
set_option linter.unusedVariables false
section
section
variable {call:aO}{G:aF}{st s s':AS}{a b:HC}{L:List Nat}{m:Nat}
noncomputable def sqK(call:aO)(G:aF)(b:HC)(r:Option (Exit×AS)):Option (Exit×AS):=match r with
 |some (.normal,s)=>EC call G b s
 |r=>r
noncomputable def cdK(call:aO)(G:aF)(a b:HC)(st:AS):Option Bool->Option (Exit×AS)
 |some true=>EC call G a st
 |some false=>EC call G b st
 |none=>none
noncomputable def EL(call:aO)(G:aF)(a:HC)(L:List Nat)(m:Nat)(st:AS):Option (Exit×AS):=Bw (EC call G a) L m st
noncomputable def fnK(call:aO)(G:aF)(a:HC)(L:List Nat)(m:Nat)(r:Option (Exit×AS)):Option (Exit×AS):=match r with
 |some (.normal,s)=>EL call G a L m (kN L m s)
 |r=>r
def Lf(L:List Nat)(m:Nat):Option (Exit×AS)->Option AS
 |some (.normal,s)=>some (kN L m s)
 |_=>none
theorem aJ2:EC call G .skip st=some (.normal,st):=q_
theorem aOU:EC call G .ret st=some (.ret,st):=q_
theorem aJ3{id:Nat}:EC call G (.exit id) st=some (.exit id,st):=q_
theorem aCs{ops:List aN}:EC call G (.region ops) st=nrm (evR call G ops (some st)):=q_
theorem aJ4{L:List Nat}{ops:List aN}:EC call G (.regR L ops) st=nrm (Gu call G L ops (some st)):=q_
theorem aFw{ops:List (Bool×aN)}:EC call G (.drawn ops) st=nrm (Gv call G ops (some st)):=q_
theorem W6:EC call G (.seq a b) st=sqK call G b (EC call G a st):=by rw[EC];rfl
theorem aJ5{c:aH}:EC call G (.cond c a b) st=cdK call G a b st (cK (aM G st.sl c)):=by rw[EC];rfl
theorem aFx{id:Nat}:EC call G (.block id a) st=Bf id (EC call G a st):=q_
theorem aJ6:EC call G (.loop L a) st=EL call G a L st.hp.length (kN L st.hp.length st):=q_
theorem aFy{L:List Nat}:EC call G (.trm L a) st=EC call G a (kN L st.hp.length st):=q_
theorem aTi{g:GH}:EC call G (.gh g a) st=EC call G a (ghE g st):=q_
theorem aNv:sqK call G b (some (.normal,s))=EC call G b s:=q_
theorem aTj:sqK call G b (some (.ret,s))=some (.ret,s):=q_
theorem aTk{id:Nat}:sqK call G b (some (.exit id,s))=some (.exit id,s):=q_
theorem aTl:cdK call G a b st (some true)=EC call G a st:=q_
theorem aTm:cdK call G a b st (some false)=EC call G b st:=q_
theorem aJ7{p:Prop}[Decidable p](h:p):cdK call G a b st (some (decide p))=EC call G a st:=by rw[decide_eq_true h];rfl
theorem aJ8{p:Prop}[Decidable p](h:¬ p):cdK call G a b st (some (decide p))=EC call G b st:=by rw[decide_eq_false h];rfl
theorem aOV{id:Nat}:Bf id (some (.normal,s))=some (.normal,s):=q_
theorem aOW{id:Nat}:Bf id (some (.ret,s))=some (.ret,s):=q_
theorem aOX{id c:Nat}:Bf id (some (.exit c,s))=bif nq c id then some (.normal,s) else some (.exit c,s):=by
 simp only[Bf,aJL,jG];by_cases h:c=id;simp[h];simp[h,(beq_eq_false_iff_ne.2 h:(c==id)=false)]
theorem aTn:fnK call G a L m (some (.ret,s))=some (.ret,s):=q_
theorem aTo{id:Nat}:fnK call G a L m (some (.exit id,s))=some (.exit id,s):=q_
theorem aTp:Lf L m (some (.normal,s))=some (kN L m s):=q_
theorem aTq:nrm (some s)=some (.normal,s):=q_
theorem Pb:EL call G a L m st=fnK call G a L m (EC call G a st):=by
 unfold EL;cases h:EC call G a st with
 |none=>
  simp only[fnK];cases j:Bw (EC call G a) L m st with
  |none=>rfl
  |some r=>
   obtain⟨n,i⟩:=jV j;cases n with
   |zero=>simp[Le] at i
   |succ n=>rw[Le,h] at i;cases i
 |some r=>
  obtain⟨e,s⟩:=r;by_cases g:e=.normal;subst g;exact aFd st h;rw[aCo h g];unfold fnK;split;rename_i c;injection c with c;injection c with c;exact absurd c g;rfl
theorem aR(H:Nat->AS)(n:Nat)(h0:st=H 0)(g:∀k,k<n->Lf L m (EC call G a (H k))=some (H (k+1))):EL call G a L m st=fnK call G a L m (EC call G a (H n)):=by
 subst h0;have c:∀k,k<=n->EL call G a L m (H 0)=EL call G a L m (H k):=by
  intro k
  induction k with
  |zero=>intro _;rfl
  |succ k h=>
   intro i;rw[h (by omega),Pb];have:=g k (by omega);unfold Lf at this;split at this;rename_i s e;injection this with this
   rw[e,<- this];rfl;cases this
 rw[c n (aZe _),Pb]
theorem aFz(p:Nat->Prop):∀n:Nat,∃k,k<=n/\(k=n\/(k<n/\p k))/\∀j,j<k->¬ p j
 |0=>⟨0,aZe _,.inl rfl,fun j h=>by omega⟩
 | n+1=>by
  obtain⟨k,g,c,h3⟩:=aFz p n;rcases c with c | ⟨c,h4⟩
  ·subst c;by_cases hp:p k
   ·exact⟨k,by omega,.inr ⟨by omega,hp⟩,h3⟩
   ·exact⟨k+1,aZe _,.inl rfl,fun j i=>by
     by_cases e:j=k
     ·subst e;exact hp
     ·exact h3 j (by omega)⟩
  ·exact⟨k,by omega,.inr ⟨by omega,h4⟩,h3⟩
noncomputable def ix(p:Nat->Prop)(n:Nat):Nat:=(aFz p n).choose
theorem bE(p:Nat->Prop)(n:Nat):ix p n<=n/\(ix p n=n\/(ix p n<n/\p (ix p n)))/\∀j,j<ix p n->¬ p j:=(aFz p n).choose_spec
theorem dN(H:Nat->AS)(p:Nat->Prop)(n:Nat)(h0:st=H 0)(c:∀k,k<n->(∀j,j<=k->¬ p j)->Lf L m (EC call G a (H k))=some (H (k+1))):EL call G a L m st=fnK call G a L m (EC call G a (H (ix p n))):=by
 obtain⟨e,_,h3⟩:=bE p n;exact aR H _ h0 (fun k h=>c k (by omega) (fun j g=>h3 j (by omega)))
theorem aCt(n k:Nat):((n:Int)+(k:Int)).toNat=n+k:=by omega
theorem W7(n:Nat):((n:Int)+1).toNat=n+1:=by omega
def jk:Nat->List AV->List AV
 |0,t=>t
 |n+1,t=>.junk::jk n t
theorem aJ9{c:aU}{cs vs:List aU}{n:Nat}:cY (c::cs) (n+1) vs=c::cY cs n vs:=by
 simp only[cY,bAE,aZx];rw[show n+1+vs.length=(n+vs.length)+1 by omega,bAK]
theorem aAm{cs vs:List aU}:cY cs 0 vs=vs++cs.drop vs.length:=by simp[cY]
theorem aXx(a b c:Int):a+(b+c)=a+b+c:=(Int.add_assoc a b c).symm
theorem aOY{st:AS}{d:Option Nat}{cs:List aU}:aOi st d (some cs)=some ⟨aQ st.sl d (.one (.ptr st.hp.length 0)),st.hp++[.box cs]⟩:=q_
theorem B8(n:Nat):((n:Int)-1).toNat=n-1:=by omega
theorem aKa:evR call G [] (some st)=some st:=q_
theorem aTr{d:Option Nat}{ai:AI}{g:Option (Nat×Bool)}{l:List aN}:evR call G (⟨d,ai,g⟩::l) (some st)=evR call G l (Wu call G st l d ai g):=q_
theorem aCu{L:List Nat}{t:IT}{ops:List aN}:EC call G (.drawnT L t ops) st=nrm (F7 call G L st.hp.length ops t (some st)):=q_
theorem aKb{L:List Nat}{c:Nat}{ops:List aN}:F7 call G L c ops .nil (some st)=some st:=q_
theorem aOZ{L:List Nat}{c:Nat}{ops:List aN}{i:Nat}{t:IT}:F7 call G L c ops (.st i t) (some st)=F7 call G L c ops t (Ja call G L st ops (iM ops i).dst (iM ops i).ai (iM ops i).guard (kI L (iM ops i).ai (iM ops i).guard)):=q_
theorem aO0{L:List Nat}{c:Nat}{ops:List aN}{i:Nat}{t:IT}:F7 call G L c ops (.br i t .stop) (some st)=F7 call G L c ops t (Ja call G L st ops (iM ops i).dst (iM ops i).ai (iM ops i).guard (kI L (iM ops i).ai (iM ops i).guard)):=q_
theorem aO1{L:List Nat}{c:Nat}{ops:List aN}{i j:Nat}{t e r:IT}:F7 call G L c ops (.br i t (.br j e r)) (some st)=F6 c (F7 call G L c ops t (Ja call G L st ops (iM ops i).dst (iM ops i).ai (iM ops i).guard (kI L (iM ops i).ai (iM ops i).guard))) (F7 call G L c ops (.br j e r) (some st)):=q_
theorem aKc{c:Nat}{s s':AS}(p:List (Nat×Nat))(h3:pOK c s'.hp.length p)(h4:prm p s'=s):F6 c (some s) (some s')=some s:=Si rfl rfl h3 h4
theorem aKd{e:Nat}{s:AS}:F6 e (some s) (some s)=some s:=aKc [] (fun x c=>by cases c) rfl
theorem aFA{L:List Nat}:Gu call G L [] (some st)=some st:=q_
theorem aO2{L:List Nat}{d:Option Nat}{ai:AI}{g:Option (Nat×Bool)}{l:List aN}:Gu call G L (⟨d,ai,g⟩::l) (some st)=Gu call G L l (Ja call G L st l d ai g (kI L ai g)):=q_
theorem aTs{L:List Nat}{l:List aN}{d:Option Nat}{ai:AI}{g:Option (Nat×Bool)}:Ja call G L st l d ai g true=Sf call G L st d ai:=q_
theorem aTt{L:List Nat}{l:List aN}{d:Option Nat}{ai:AI}{g:Option (Nat×Bool)}:Ja call G L st l d ai g false=Wu call G st l d ai g:=q_
theorem aO3{L:List Nat}{d:Option Nat}{f:FuncId}{xs:List aH}:Sf call G L st d (.call f xs)=aFa call G st d f xs (O7 L (f+100000)):=q_
theorem aO4{d:Option Nat}{f:FuncId}{xs:List aH}:aFa call G st d f xs false=lA (lD call) d f (xs.map (aM G st.sl)) st:=q_
def aYZ(d:Option Nat)(st:AS)(av:AV):Bool->Option AS
 |true=>some ⟨aQ st.sl d av,st.hp⟩
 |false=>none
theorem aTu{l:List aN}{d:Option Nat}{ai:AI}:Wu call G st l d ai none=mK call G st l d ai:=q_
theorem aTv{l:List aN}{d:Option Nat}{ai:AI}{g:Nat}{b:Bool}:Wu call G st l d ai (some (g,b))=guZ call G st l d ai (gK b (aM G st.sl (.t g))):=q_
section
variable {l:List aN}{d:Option Nat}{ai:AI}
theorem aTw:guZ call G st l d ai (some true)=mK call G st l d ai:=q_
theorem aTx:guZ call G st l d ai (some false)=some ⟨aQ st.sl d (.tup []),st.hp⟩:=q_
theorem aKe{p:Prop}[Decidable p](h:p):guZ call G st l d ai (some (decide p))=mK call G st l d ai:=by rw[decide_eq_true h];rfl
theorem aKf{p:Prop}[Decidable p](h:¬ p):guZ call G st l d ai (some (decide p))=some ⟨aQ st.sl d (.tup []),st.hp⟩:=by rw[decide_eq_false h];rfl
theorem aTy{q:Bool}:aCl call G st q d ai (some true)=drZ call G st d ai q:=q_
theorem aTz{q:Bool}:aCl call G st q d ai (some false)=some ⟨aQ st.sl d (.tup []),st.hp⟩:=q_
theorem aKg{q:Bool}{p:Prop}[Decidable p](h:p):aCl call G st q d ai (some (decide p))=drZ call G st d ai q:=by rw[decide_eq_true h];rfl
theorem aKh{q:Bool}{p:Prop}[Decidable p](h:¬ p):aCl call G st q d ai (some (decide p))=some ⟨aQ st.sl d (.tup []),st.hp⟩:=by rw[decide_eq_false h];rfl
theorem aTA{q:Bool}:drO call G st q d ai none=drZ call G st d ai q:=q_
theorem aTB{q:Bool}{g:Nat}{b:Bool}:drO call G st q d ai (some (g,b))=aCl call G st q d ai (gK b (aM G st.sl (.t g))):=q_
theorem aFB:Gv call G [] (some st)=some st:=q_
theorem aO5{q:Bool}{g:Option (Nat×Bool)}{l:List (Bool×aN)}:Gv call G ((q,⟨d,ai,g⟩)::l) (some st)=Gv call G l (drO call G st q d ai g):=q_
theorem aFC{f:FuncId}{xs:List aH}:mK call G st l d (.call f xs)=clZ call G d f xs st:=q_
theorem aCv{x:aH}{xs:List aH}:mK call G st l d (.callv x xs)=cvZ call G d x xs st:=q_
theorem aKi{z b:Nat}{c:List Value}{s x:aH}:mK call G st l d (.app z b c s x)=apZ d z b st (aM G st.sl s) (aM G st.sl x):=q_
theorem aTC{d:Option Nat}{size bytes:Nat}{z:List Value}{st:AS}{i j:Int}(h:0<=i/\i<=j/\j.toNat*bytes<=140737488355328):mkK d size bytes z st (some i) (some j)=some ⟨aQ st.sl d (.one (.bld st.hp.length i.toNat)),st.hp++[.arr 0 size (List.replicate i.toNat (z.map DC.raw))]⟩:=by
 obtain⟨n,rfl⟩:=bAh h.1;obtain⟨m,rfl⟩:=bAh (Int.le_trans h.1 h.2.1);have e:=h.2.1;have c:=h.2.2;simp only[aZN] at c;simp only[mkK,aZN];exact if_pos ⟨by omega,c⟩
theorem aO6{z b:Nat}{c:List Value}{x y:aH}:mK call G st l d (.mk z b c x y)=mkZ G st d z b c x y:=q_
theorem aFD{x y:aH}:mK call G st l d (.cpys x y)=aCh G st d x y:=q_
theorem aFE{x:aH}:mK call G st l d (.cvsb x)=aCi G st d x:=q_
theorem aO7{id c n z:Nat}{s:ByteArray}:aOC d st (.one (.bls id c n z)) (some s)=if z=1 then aE9 d st id c n s (aL st.hp id) else none:=q_
theorem aO8{id c n:Nat}{s:ByteArray}{cs:List aU}:aE9 d st id c n s (.box cs)=if c+n<=cs.length then some ⟨aQ st.sl d (dQ (.int .i64 (min s.size n:Nat))),st.hp.set id (.box (cY cs c (eU (s.data.toList.take n))))⟩ else none:=q_
theorem aO9{s:ByteArray}:aJJ d st (some s)=some ⟨aQ st.sl d (.one (.bld st.hp.length s.size)),st.hp++[.arr 0 1 (gX s)]⟩:=q_
theorem aFF{L:List Nat}{x:aH}:Sf call G L st d (.cvsb x)=aJJ d st (dJ (aM G st.sl x)):=q_
theorem aPa{s:ByteArray}:aSM d st (some s)=some ⟨aQ st.sl d (.one (.dc (.slc (gX s)))),st.hp⟩:=q_
theorem aTD{d:Option Nat}{bytes:Nat}{v:Value}{st:AS}{i j:Int}(h:0<=i/\i<=j/\j.toNat*bytes<=140737488355328):mbK d 1 bytes st [v] (some i) (some j)=some ⟨aQ st.sl d (.one (.bls st.hp.length 0 i.toNat 1)),st.hp++[.box (List.replicate j.toNat (cI v))]⟩:=by
 obtain⟨n,rfl⟩:=bAh h.1;obtain⟨m,rfl⟩:=bAh (Int.le_trans h.1 h.2.1);have e:=h.2.1;have c:=h.2.2;simp only[aZN] at c;simp only[mbK,aZN];exact if_pos ⟨trivial,by omega,c⟩
theorem aKj{L:List Nat}{z b:Nat}{c:List Value}{x y:aH}:Sf call G L st d (.mk z b c x y)=mbK d z b st c (bH (aM G st.sl x)) (bH (aM G st.sl y)):=q_
theorem aKk{z:Nat}{c:List Value}{x:aH}:mK call G st l d (.clr z c x)=aCg G st d z c x:=q_
theorem aPb{z id k n s:Nat}{c:List Value}:aOB d z c st (.one (.bls id k n s))=if s=z then Wt d st id k n z c (aL st.hp id) else none:=q_
theorem aPc{id k n:Nat}{v:Value}{cs:List aU}:Wt d st id k n 1 [v] (.box cs)=if 1=1/\0<n/\k+n<=cs.length then some ⟨aQ st.sl d (.tup []),st.hp.set id (.box (cY cs k (List.replicate n (cI v))))⟩ else none:=q_
theorem aFG{z b:Nat}{e:List Value}{c:List (Nat×aH)}:mK call G st l d (.bslc z b e c)=bsZ G st d z b e c (aJI d l):=q_
theorem aCw{z:List Value}:mK call G st l d (.alloc z)=some ⟨aQ st.sl d (.one (.ptr st.hp.length 0)),st.hp++[.box (z.map cI)]⟩:=q_
theorem aKl{x:aH}:mK call G st l d (.box x)=aOi st d (cellsOf (aM G st.sl x)):=q_
theorem aCx{n:Nat}{x v:aH}:mK call G st l none (.store n x v)=stX G st n x v:=q_
theorem aKm{x:aH}:mK call G st l d (.mov x)=some ⟨aQ st.sl d (aM G st.sl x),st.hp⟩:=q_
theorem aFH{c x y:aH}:mK call G st l d (.pick c x y)=gH st d (Cn (aM G st.sl c) (aM G st.sl x) (aM G st.sl y)):=q_
theorem aFI{g:Bool}{n:Nat}{x:aH}:mK call G st l d (.load g n x)=gH st d (mH st.hp g n (aM G st.sl x)):=q_
theorem aKn{p:Bool}{z:Value}{x y:aH}:mK call G st l d (.mpx p z x y)=gH st d (Q4 p z (aM G st.sl x) (aM G st.sl y)):=q_
theorem aFJ{x:aH}:mK call G st l d (.nilc x)=gH st d (L9 (aM G st.sl x)):=q_
theorem aKo{c:BinOp}{x y:aH}:mK call G st l d (.bin c x y)=gH st d (fM c (aM G st.sl x) (aM G st.sl y)):=q_
theorem aFK{n:Bool}{x y:aH}:mK call G st l d (.binb n x y)=gH st d (L8 n (aM G st.sl x) (aM G st.sl y)):=q_
theorem aKp{n:Bool}{c:List EK}{x y:aH}:mK call G st l d (.eqs n c x y)=gH st d (Q3 n c (aM G st.sl x) (aM G st.sl y)):=q_
theorem aPd{c:UnOp}{x:aH}:mK call G st l d (.un c x)=gH st d (unV c (aM G st.sl x)):=q_
theorem aFL{k:IntKind}{x:aH}:mK call G st l d (.conv k x)=gH st d (Zl k (bH (aM G st.sl x))):=q_
theorem aFM{x:aH}:mK call G st l d (.cvbs x)=gH st d (nW st.hp (aM G st.sl x)):=q_
theorem aFN{o:Nat}{x:aH}:mK call G st l d (.addo o x)=gH st d (Ft o (aM G st.sl x)):=q_
theorem aKq{n z:Nat}{x i:aH}:mK call G st l d (.ixA n z x i)=gH st d (aOj n z (aM G st.sl x) (bH (aM G st.sl i))):=q_
theorem aKr{z:Nat}{x i:aH}:mK call G st l d (.ixL z x i)=gH st d (aJm st.hp z (aM G st.sl x) (bH (aM G st.sl i))):=q_
theorem aKs{n:Nat}{x i:aH}:mK call G st l d (.ixV n x i)=gH st d (aOk n (aM G st.sl x) (bH (aM G st.sl i))):=q_
theorem aKt{n:Nat}{x:aH}:mK call G st l d (.s2p n x)=gH st d (aBy n (aM G st.sl x)):=q_
theorem aKu{x i:aH}:mK call G st l d (.ixS x i)=gH st d (aJn (aM G st.sl x) (bH (aM G st.sl i))):=q_
theorem aKv{x:aH}{e c:Option aH}:mK call G st l d (.slS x e c)=gH st d (Li (aM G st.sl x) (e.map (aM G st.sl)) (c.map (aM G st.sl))):=q_
theorem aKw{z:Nat}{x:aH}{e c:Option aH}:mK call G st l d (.slL z x e c)=gH st d (lK st.hp z (aM G st.sl x) (e.map (aM G st.sl)) (c.map (aM G st.sl))):=q_
theorem aCy{z:List Value}{c:List (Nat×Nat×aH)}:mK call G st l d (.build z c)=gH st d (aJo (iL (z.map cI) (c.map fun (o,s,x)=>(o,s,aM G st.sl x)))):=q_
theorem aKx{x:aH}{n:Nat}:mK call G st l d (.ext x n)=gH st d (Vz (aM G st.sl x) n):=q_
theorem aFO{x:aH}:mK call G st l d (.lenS x)=gH st d (Zm (dJ (aM G st.sl x))):=q_
theorem aFP{x:aH}:mK call G st l d (.lenL x)=gH st d (tA (aM G st.sl x)):=q_
theorem aKy{x y:aH}:mK call G st l d (.min2 x y)=gH st d (aD3 (aM G st.sl x) (aM G st.sl y)):=q_
theorem aKz{x y:aH}:mK call G st l d (.max2 x y)=gH st d (aD4 (aM G st.sl x) (aM G st.sl y)):=q_
theorem aFQ{f:FuncId}{xs:List aH}:mK call G st l d (.mkfn f xs)=gH st d ((xs.mapM fun c=>jB (aM G st.sl c)).map fun cs=>.one (.fn f cs)):=q_
theorem aTE:drZ call G st d ai false=ldZ call G st d ai:=q_
theorem aTF:drZ call G st d ai true=Cj call G st d ai:=q_
theorem aFR{f:FuncId}{xs:List aH}:ldZ call G st d (.call f xs)=dvK call G d f xs st (call f (C8 G st xs) []):=q_
theorem aCz{x:aH}{xs:List aH}:ldZ call G st d (.callv x xs)=cvZ call G d x xs st:=q_
theorem aKA{z b:Nat}{c:List Value}{s x:aH}:ldZ call G st d (.app z b c s x)=apZ d z b st (aM G st.sl s) (aM G st.sl x):=q_
theorem aFS{z b:Nat}{c:List Value}{ps:List (Nat×aH)}:ldZ call G st d (.bslc z b c ps)=bsO G st d z b c ps:=q_
theorem aCA{z:List Value}:ldZ call G st d (.alloc z)=some ⟨aQ st.sl d (.one (.ptr st.hp.length 0)),st.hp++[.box (z.map cI)]⟩:=q_
theorem aCB{n:Nat}{x v:aH}:ldZ call G st none (.store n x v)=stX G st n x v:=q_
theorem aKB{z:Nat}{x:aH}{e c:Option aH}:Cj call G st d (.slL z x e c)=gH st d (lK [] z (aM G st.sl x) (e.map (aM G st.sl)) (c.map (aM G st.sl))):=q_
theorem aKC{x:aH}:Cj call G st d (.mov x)=some ⟨aQ st.sl d (aM G st.sl x),st.hp⟩:=q_
theorem aFT{c x y:aH}:Cj call G st d (.pick c x y)=gH st d (Cn (aM G st.sl c) (aM G st.sl x) (aM G st.sl y)):=q_
theorem aFU{g:Bool}{n:Nat}{x:aH}:Cj call G st d (.load g n x)=gH st d (mH st.hp g n (aM G st.sl x)):=q_
theorem aKD{p:Bool}{z:Value}{x y:aH}:Cj call G st d (.mpx p z x y)=gH st d (Q4 p z (aM G st.sl x) (aM G st.sl y)):=q_
theorem aFV{x:aH}:Cj call G st d (.nilc x)=gH st d (L9 (aM G st.sl x)):=q_
theorem aKE{c:BinOp}{x y:aH}:Cj call G st d (.bin c x y)=gH st d (fM c (aM G st.sl x) (aM G st.sl y)):=q_
theorem aFW{n:Bool}{x y:aH}:Cj call G st d (.binb n x y)=gH st d (L8 n (aM G st.sl x) (aM G st.sl y)):=q_
theorem aKF{n:Bool}{c:List EK}{x y:aH}:Cj call G st d (.eqs n c x y)=gH st d (Q3 n c (aM G st.sl x) (aM G st.sl y)):=q_
theorem aPe{c:UnOp}{x:aH}:Cj call G st d (.un c x)=gH st d (unV c (aM G st.sl x)):=q_
theorem aFX{k:IntKind}{x:aH}:Cj call G st d (.conv k x)=gH st d (Zl k (bH (aM G st.sl x))):=q_
theorem aFY{o:Nat}{x:aH}:Cj call G st d (.addo o x)=gH st d (Ft o (aM G st.sl x)):=q_
theorem aKG{z:Nat}{x i:aH}:Cj call G st d (.ixL z x i)=gH st d (aJm st.hp z (aM G st.sl x) (bH (aM G st.sl i))):=q_
theorem aKH{x i:aH}:Cj call G st d (.ixS x i)=gH st d (aJn (aM G st.sl x) (bH (aM G st.sl i))):=q_
theorem aKI{x:aH}{e c:Option aH}:Cj call G st d (.slS x e c)=gH st d (Li (aM G st.sl x) (e.map (aM G st.sl)) (c.map (aM G st.sl))):=q_
theorem aCC{z:List Value}{c:List (Nat×Nat×aH)}:Cj call G st d (.build z c)=gH st d (aJo (iL (z.map cI) (c.map fun (o,s,x)=>(o,s,aM G st.sl x)))):=q_
theorem aKJ{x:aH}{n:Nat}:Cj call G st d (.ext x n)=gH st d (Vz (aM G st.sl x) n):=q_
theorem aFZ{x:aH}:Cj call G st d (.lenS x)=gH st d (Zm (dJ (aM G st.sl x))):=q_
theorem aF0{x:aH}:Cj call G st d (.lenL x)=gH st d (tA (aM G st.sl x)):=q_
theorem aXy{c b:Bool}:gK b (.one (.dc (.raw (.bool c))))=some (eqb c b):=q_
theorem aKK{b:Bool}:gK b (.tup [])=some false:=q_
theorem aF1(c:Bool):eqb c true=c:=by cases c<;>rfl
theorem aCD(c:Bool):eqb c false=!c:=by cases c<;>rfl
theorem aPf{v:AV}:gH st d (some v)=some ⟨aQ st.sl d v,st.hp⟩:=q_
end
theorem aKL{x y:AV}:Cn (.one (.dc (.raw (.bool true)))) x y=some x:=q_
theorem aKM{x y:AV}:Cn (.one (.dc (.raw (.bool false)))) x y=some y:=q_
theorem aCE{p:Prop}[Decidable p]{x y:AV}(h:p):Cn (.one (.dc (.raw (.bool (decide p))))) x y=some x:=by rw[decide_eq_true h];rfl
theorem aCF{p:Prop}[Decidable p]{x y:AV}(h:¬ p):Cn (.one (.dc (.raw (.bool (decide p))))) x y=some y:=by rw[decide_eq_false h];rfl
section
variable {k:IntKind}{x y:Int}
theorem aKN:fM .add (.one (.dc (.raw (.int k x)))) (.one (.dc (.raw (.int k y))))=some (.one (.dc (.raw (.int k (k.wrap (x+y)))))):=by simp[fM,lP]
theorem aKO:fM .sub (.one (.dc (.raw (.int k x)))) (.one (.dc (.raw (.int k y))))=some (.one (.dc (.raw (.int k (k.wrap (x-y)))))):=by simp[fM,lP]
theorem aKP:fM .mul (.one (.dc (.raw (.int k x)))) (.one (.dc (.raw (.int k y))))=some (.one (.dc (.raw (.int k (k.wrap (x*y)))))):=by simp[fM,lP]
theorem aKQ:fM .eql (.one (.dc (.raw (.int k x)))) (.one (.dc (.raw (.int k y))))=some (.one (.dc (.raw (.bool (decide (x=y)))))):=by simp[fM,lP,Bool.beq_eq_decide_eq]
theorem aKR:fM .neq (.one (.dc (.raw (.int k x)))) (.one (.dc (.raw (.int k y))))=some (.one (.dc (.raw (.bool (decide (x≠y)))))):=by
 simp only[fM,lP,if_true,aZg,dQ];congr 5;rw[bAy];simp
theorem aKS:fM .lss (.one (.dc (.raw (.int k x)))) (.one (.dc (.raw (.int k y))))=some (.one (.dc (.raw (.bool (decide (x<y)))))):=by simp[fM,lP]
theorem aKT:fM .leq (.one (.dc (.raw (.int k x)))) (.one (.dc (.raw (.int k y))))=some (.one (.dc (.raw (.bool (decide (x<=y)))))):=by simp[fM,lP]
theorem aKU:fM .gtr (.one (.dc (.raw (.int k x)))) (.one (.dc (.raw (.int k y))))=some (.one (.dc (.raw (.bool (decide (y<x)))))):=by simp[fM,lP]
theorem aKV:fM .geq (.one (.dc (.raw (.int k x)))) (.one (.dc (.raw (.int k y))))=some (.one (.dc (.raw (.bool (decide (y<=x)))))):=by simp[fM,lP]
end
theorem aKW{x y:ByteArray}:fM .eql (.one (.dc (.raw (.string x)))) (.one (.dc (.raw (.string y))))=some (.one (.dc (.raw (.bool (decide (x=y)))))):=by
 simp only[fM,H9,aZg,dQ];congr 5;rw[bAy];simp[ByteArray.toList_eq,ByteArray.ext_iff,Array.ext_iff]
theorem aPg{c:Bool}:unV .not (.one (.dc (.raw (.bool c))))=some (.one (.dc (.raw (.bool (!c))))):=q_
theorem aXz(b:Bool):(b==true)=b:=by cases b<;>rfl
theorem aXA(b:Bool):(b==false)=!b:=by cases b<;>rfl
theorem aXB(a b:Int):(a==b)=decide (a=b):=by rw[bAy];simp
theorem aKX{p q:Prop}[Decidable p][Decidable q]:(decide p&&decide q)=decide (p/\q):=by simp
theorem aPh{p q:Prop}[Decidable p][Decidable q]:(decide p||decide q)=decide (p\/q):=by simp
theorem aKY{p:Prop}[Decidable p]:(!decide p)=decide (¬ p):=by simp
theorem jD{α:Type}{f:α->List DC}{n:Nat}(h:∀x,(f x).length=n)(l:List α):gC n (l.map f)=true:=by
 induction l with
 |nil=>rfl
 |cons x l c=>simp[gC,c,h,jG]
theorem kC{α c:Type}{f:α->c}{l:List α}:List.take l.length (l.map f)=l.map f:=aZM (by simp)
noncomputable def aF2(c:Bool)(e:List kY)(n:Nat)(s:AS):Bool->Option (AV×List aD)
 |true=>Ww c n s.hp (tJ s e)
 |false=>none
theorem aPi{c:Bool}{e:List kY}{n:Nat}:pX c e n (some (.ret,s))=aF2 c e n s (decide (n<=s.hp.length)):=by
 by_cases h:n<=s.hp.length<;>simp[pX,Mo,h,aF2]
theorem aPj{c:Bool}{e:List kY}{n:Nat}:pX c e n (some (.normal,s))=aF2 c e n s (decide (n<=s.hp.length)):=by
 by_cases h:n<=s.hp.length<;>simp[pX,Mo,h,aF2]
theorem aPk{c:Bool}{e:List kY}{n:Nat}:aF2 c e n s true=Ww c n s.hp (tJ s e):=q_
def aPl(n:Nat)(hp:List aD)(v:AV):Bool->AV×List aD
 |true=>(Gr v,hp.take n)
 |false=>(Gr v,hp)
theorem aPm{n:Nat}{hp:List aD}{v:AV}:Ww true n hp (some v)=some (aPl n hp v (dE (fun id=>decide (n<=id)) v&&(hp.take n).all (pB fun id=>decide (n<=id)))):=by
 simp only[Ww,aOF,cond_true];cases (dE (fun id=>decide (n<=id)) v&&(hp.take n).all (pB fun id=>decide (n<=id)))<;>rfl
theorem aPn{n:Nat}{hp:List aD}{v:AV}:aPl n hp v true=(Gr v,hp.take n):=q_
theorem aPo{n:Nat}{hp:List aD}{v:AV}:aPl n hp v false=(Gr v,hp):=q_
def aTG(n:Nat)(st:AS):AV×List aD:=(Gr (bF (fun id=>decide (n<=id)) (st.sl.getD 0 .junk)),(st.hp.take n).map (cO fun id=>decide (n<=id)))
theorem aPp{n:Nat}{hp:List aD}{v:AV}:Ww false n hp (some v)=some (aTG n (bV (jU v) (bxW n (jU v) ⟨[v],hp⟩ (Wp v)))):=q_
theorem aTH{n:Nat}{c:List Nat}:bxW n c st true=C6 n c st:=q_
theorem aTI{n:Nat}{c:List Nat}:bxW n c st false=st:=q_
theorem aTJ{id:Nat}{cs:List aU}:bx1 id st (.box cs) true=bxB id cs st:=q_
theorem aTK{id:Nat}{o:aD}:bx1 id st o false=st:=by cases o<;>rfl
def aTL:Option TV->Option (List TV)->Option (List TV)
 |some a,some l=>some (a::l)
 |_,_=>none
def aCG(st:AS):List kY->Option (List TV)
 |[]=>some []
 |r::c=>aTL ((gQ st r).bind tH) (aCG st c)
theorem aPq{a:TV}{l:List TV}:aTL (some a) (some l)=some (a::l):=q_
theorem aAn(st:AS):∀c:List kY,c.mapM (fun r=>(gQ st r).bind tH)=aCG st c
 |[]=>rfl
 | r::c=>by
  rw[aZ9,aAn st c,aCG];cases (gQ st r).bind tH<;>cases aCG st c<;>rfl
theorem aPr{st:AS}:tJ st []=some (.tup []):=q_
theorem aPs{st:AS}{r:kY}:tJ st [r]=gQ st r:=q_
theorem aPt{st:AS}{r q:kY}{c:List kY}:tJ st (r::q::c)=(aCG st (r::q::c)).map .tup:=by
 rw[<- aAn];rfl
theorem aB{G:aF}{T:HT}{f:FuncId}{h:HF}{c:List AV}{hp:List aD}{r:AV×List aD}(e:T.tab f=some h)(g:pX h.own h.rs hp.length (EC (EV G T) G h.code ⟨c++tC (h.nt-c.length),hp⟩)=some r):EV G T f c hp=some r:=aNt e g
end
section
variable {call:aO}{G:aF}{st:AS}{d:Option Nat}{f:FuncId}{xs:List aH}{av:AV}{os:List aD}{o:aD}
def aPu(call:aO)(G:aF)(d:Option Nat)(f:FuncId)(xs:List aH)(st:AS):Bool->Option AS
 |true=>vwK call G d f xs st (call f (Gt G st xs) [])
 |false=>lA (lD call) d f (xs.map (aM G (bV (mJ G st.sl xs) st).sl)) (bV (mJ G st.sl xs) st)
def aPv(call:aO)(G:aF)(d:Option Nat)(f:FuncId)(xs:List aH)(st:AS)(av:AV):Bool->Option AS
 |true=>some ⟨aQ st.sl d av,st.hp⟩
 |false=>Ws call G d f xs (bV (mJ G st.sl xs) st)
def aTM(call:aO)(G:aF)(d:Option Nat)(f:FuncId)(xs:List aH)(st:AS)(av:AV):Bool->Option AS
 |true=>some ⟨aQ st.sl d av,st.hp⟩
 |false=>dnZ call G d f xs st
def aTN(call:aO)(G:aF)(d:Option Nat)(f:FuncId)(xs:List aH)(st:AS):Bool->Option AS
 |true=>nwK d st (call f (lC G st.sl xs) [])
 |false=>none
def aTO(call:aO)(G:aF)(d:Option Nat)(f:FuncId)(xs:List aH)(st:AS):Bool->Option AS
 |true=>qcK d st (call f (lC G st.sl xs) [])
 |false=>none
theorem aTP:clZ call G d f xs st=aPu call G d f xs st (sJ G st.sl xs):=by unfold clZ;cases sJ G st.sl xs<;>rfl
theorem aPw:aPu call G d f xs st true=vwK call G d f xs st (call f (Gt G st xs) []):=q_
theorem aPx:aPu call G d f xs st false=lA (lD call) d f (xs.map (aM G (bV (mJ G st.sl xs) st).sl)) (bV (mJ G st.sl xs) st):=q_
theorem aTQ:Ws call G d f xs st=aTN call G d f xs st ((lC G st.sl xs).all (dE fun _=>true)):=by unfold Ws;cases (lC G st.sl xs).all (dE fun _=>true)<;>rfl
theorem aPy:aTN call G d f xs st true=nwK d st (call f (lC G st.sl xs) []):=q_
theorem aTR:Cj call G st d (.call f xs)=aTO call G d f xs st ((lC G st.sl xs).all (dE fun _=>true)):=by rw[Cj];cases (lC G st.sl xs).all (dE fun _=>true)<;>rfl
theorem aPz:aTO call G d f xs st true=qcK d st (call f (lC G st.sl xs) []):=q_
theorem aPA:aPv call G d f xs st av true=some ⟨aQ st.sl d av,st.hp⟩:=q_
theorem aPB:aPv call G d f xs st av false=Ws call G d f xs (bV (mJ G st.sl xs) st):=q_
theorem aPC:aTM call G d f xs st av true=some ⟨aQ st.sl d av,st.hp⟩:=q_
theorem aTS:vwK call G d f xs st (some (av,[]))=aPv call G d f xs st av (mI av):=by rw[vwK];cases mI av<;>rfl
theorem aTT:vwK call G d f xs st (some (av,o::os))=Ws call G d f xs (bV (mJ G st.sl xs) st):=q_
theorem aTU:dvK call G d f xs st (some (av,[]))=aTM call G d f xs st av (mI av):=by rw[dvK];cases mI av<;>rfl
theorem aTV:nwK d st (some (av,os))=some ⟨aQ st.sl d (dL (cN [] st.hp.length) av),st.hp++os.map (dY (cN [] st.hp.length))⟩:=q_
theorem aTW:qcK d st (some (av,[]))=bif dE (fun _=>true) av then some ⟨aQ st.sl d av,st.hp⟩ else none:=q_
theorem aTX:qcK d st (some (av,o::os))=qcF d st (bF (fun id=>decide (0<=id)) ((bV (jU av) ⟨[av],o::os⟩).sl.getD 0 .junk)):=q_
theorem aTY{c:List aU}:cvK call G d xs st (.one (.fn f c))=lA (lD call) d f (xs.map (aM G st.sl)++c.map AV.one) st:=q_
theorem aTZ{size bytes id n:Nat}{x:AV}:apZ d size bytes st (.one (.bld id n)) x=apB d size bytes st id n (aL st.hp id) (rZ st.hp x):=q_
theorem aT0{size bytes id n c sz:Nat}{es e:List (List DC)}:apB d size bytes st id n (.arr c sz es) (some e)=if sz=size/\n<=es.length/\gC size e=true/\(n+e.length)*bytes<=140737488355328 then some ⟨aQ (klS id st.sl) d (.one (.bld id (n+e.length))),(klH id st.hp).set id (.arr 0 size (es.take n++e))⟩ else none:=rfl
theorem aT1{size bytes:Nat}{c:List (List DC)}:apN d size bytes st (some c)=if gC size c=true/\c.length*bytes<=140737488355328 then some ⟨aQ st.sl d (.one (.bld st.hp.length c.length)),klH st.hp.length st.hp++[.arr 0 size c]⟩ else none:=rfl
theorem aT2{size len:Nat}{cs:List aU}{c:List DC}:bsP st d size len cs (some c)=if c.length=len*size then some ⟨aQ st.sl d (.one (.bld st.hp.length len)),st.hp++[.arr 0 size (fY size len c)]⟩ else none:=q_
theorem aT3{size len:Nat}{cs:List aU}:bsP st d size len cs none=if size=1 then some ⟨aQ st.sl d (.one (.bls st.hp.length 0 len 1)),st.hp++[.box cs]⟩ else none:=q_
theorem aKZ{a b:Nat}{cs:List aU}:dcs (.ptr a b::cs)=none:=rfl
theorem aT4{size len:Nat}{z:List Value}{ps:List (Nat×aH)}:bsZ G st d size len z ps true=bsX G (bV (I9 G st.sl ps) st) d size len z ps:=q_
theorem aT5{size len:Nat}{z:List Value}{ps:List (Nat×aH)}:bsZ G st d size len z ps false=bsO G (bV (I9 G st.sl ps) st) d size len z ps:=q_
theorem aT6{id c s:Nat}{es:List (List DC)}:bvZ id st (.arr c s es)=bv1 id s es st es.isEmpty:=q_
theorem aT7{id s:Nat}{es:List (List DC)}:bv1 id s es st true=bV [id] st:=q_
theorem aT8{id s:Nat}{es:List (List DC)}:bv1 id s es st false=bvB id s es st:=q_
theorem aT9{i sz:Nat}:ghN i sz st (.one (.dc (.raw (.slice none 0 0))))=⟨st.sl.set i (.one (.bld st.hp.length 0)),st.hp++[.arr 0 sz []]⟩:=q_
theorem aUa{j sz id off:Nat}:ghB j sz st (.one (.ptr id off))=aJF id (off+j) sz st (aL st.hp id):=q_
theorem aPD{id j sz:Nat}{cs:List aU}:aJF id j sz st (.box cs)=aJE id j sz cs st cs[j]?:=q_
theorem aPE{id j sz:Nat}{cs:List aU}:aJE id j sz cs st (some (.dc (.raw (.slice none 0 0))))=⟨st.sl,st.hp.set id (.box (cs.set j (.bld st.hp.length 0)))++[.arr 0 sz []]⟩:=q_
def sbK(n:Nat):aD->Option (List (List DC))
 |.arr _ _ es=>if n<=es.length then some (es.take n) else none
 |_=>none
theorem aPF{hp:List aD}{id n:Nat}:rZ hp (.one (.bld id n))=sbK n (aL hp id):=by
 simp only[rZ];cases aL hp id<;>rfl
theorem aUb{n c z:Nat}{es:List (List DC)}:sbK n (.arr c z es)=if n<=es.length then some (es.take n) else none:=q_
theorem aPG{hp:List aD}{es:List (List DC)}:rZ hp (.one (.dc (.slc es)))=some es:=q_
end
section
variable {k:IntKind}{x y:Int}
theorem aK0:fM .quo (.one (.dc (.raw (.int k x)))) (.one (.dc (.raw (.int k y))))=if y=0 then none else some (.one (.dc (.raw (.int k (k.wrap (x.tdiv y)))))):=by
 simp only[fM,lP,if_true];split<;>rfl
theorem aK1:fM .rem (.one (.dc (.raw (.int k x)))) (.one (.dc (.raw (.int k y))))=if y=0 then none else some (.one (.dc (.raw (.int k (x.tmod y))))):=by
 simp only[fM,lP,if_true];split<;>rfl
def W8(k:IntKind)(x y:Int):Int:=k.wrap (BitVec.ofInt k.bits x &&& BitVec.ofInt k.bits y).toNat
def W9(k:IntKind)(x y:Int):Int:=k.wrap (BitVec.ofInt k.bits x ||| BitVec.ofInt k.bits y).toNat
theorem aK2:fM .and (.one (.dc (.raw (.int k x)))) (.one (.dc (.raw (.int k y))))=some (.one (.dc (.raw (.int k (W8 k x y))))):=by simp[fM,lP,W8]
theorem aPH:fM .or (.one (.dc (.raw (.int k x)))) (.one (.dc (.raw (.int k y))))=some (.one (.dc (.raw (.int k (W9 k x y))))):=by simp[fM,lP,W9]
theorem aK3{j:IntKind}(h:0<=y):fM .shl (.one (.dc (.raw (.int j x)))) (.one (.dc (.raw (.int k y))))=some (.one (.dc (.raw (.int j (j.wrap (x*2 ^ (min y.toNat j.bits))))))):=by
 simp only[fM];rw[if_neg (by omega)]
theorem aK4{j:IntKind}(h:0<=y):fM .shr (.one (.dc (.raw (.int j x)))) (.one (.dc (.raw (.int k y))))=some (.one (.dc (.raw (.int j (x.fdiv (2 ^ (min y.toNat j.bits))))))):=by
 simp only[fM];rw[if_neg (by omega)]
theorem aPI:unV .neg (.one (.dc (.raw (.int k x))))=some (.one (.dc (.raw (.int k (k.wrap (0-x)))))):=q_
theorem De{a b:ByteArray}(h:a.size+b.size<=9223372036854775807):fM .add (.one (.dc (.raw (.string a)))) (.one (.dc (.raw (.string b))))=some (.one (.dc (.raw (.string (a++b))))):=by
 simp only[fM,H9];rw[if_pos h];rfl
theorem Jk{x y:ByteArray}:(x.toList==y.toList)=decide (x=y):=by
 rw[bAy];simp[ByteArray.toList_eq,ByteArray.ext_iff,Array.ext_iff]
theorem aF3{x y:ByteArray}:fM .neq (.one (.dc (.raw (.string x)))) (.one (.dc (.raw (.string y))))=some (.one (.dc (.raw (.bool (decide (x≠y)))))):=by
 simp only[fM,H9,aZg,dQ,Jk];congr 5;simp
end
section
variable {call:aO}{G:aF}{st s s':AS}{l:List aN}
variable {r:Nat}{prs:List (Nat×Nat)}{acc:List FP}{d:Option Nat}{ai:AI}{f:FP}{R:List Nat}
def fvK(call:aO)(G:aF)(prs:List (Nat×Nat))(acc:List FP)(r:Nat)(l:List aN):Option (AS×FP)->Option AS
 |some (s,f)=>Wv call G prs (acc++[f]) r l (some s)
 |none=>none
theorem aCH{ops:List aN}:EC call G (.drawnF prs ops) st=nrm (Wv call G prs [] st.hp.length ops (some ⟨st.sl,st.hp++C9 (nAl ops)⟩)):=q_
theorem aK5:Wv call G prs acc r [] (some st)=bif Lp prs acc then some st else none:=q_
theorem aUc{g:Option (Nat×Bool)}{l:List aN}:Wv call G prs acc r (⟨d,ai,g⟩::l) (some st)=fvK call G prs acc (bif aCm ai then r+1 else r) l (fvO call G st d r ai g):=by rw[Wv];cases fvO call G st d r ai g<;>rfl
theorem aUd{l:List aN}:fvK call G prs acc r l (some (st,f))=Wv call G prs (acc++[f]) r l (some st):=q_
theorem aUe:fvO call G st d r ai none=Lo call G st d r ai:=q_
theorem aCI{z:List Value}:Lo call G st d r (.alloc z)=fvN d r z st st.hp[r]?:=q_
theorem aUf{z:List Value}:fvN d r z st (some .dead)=some (⟨aQ st.sl d (.one (.ptr r 0)),st.hp.set r (.box (z.map cI))⟩,[r],[]):=q_
theorem aCJ{n:Nat}{x v:aH}:Lo call G st d r (.store n x v)=fvS d n st (aM G st.sl x) (cellsOf (aM G st.sl v)):=q_
theorem aUg{n id off:Nat}{vs:List aU}:fvS none n st (.one (.ptr id off)) (some vs)=fvT n id off vs st st.hp[id]?:=q_
theorem aNw{n id off:Nat}{vs cs:List aU}(c:vs.length=n)(e:off+n<=cs.length):fvT n id off vs st (some (.box cs))=some (⟨st.sl,st.hp.set id (.box (cY cs off vs))⟩,[id],[id]):=if_pos ⟨c,e⟩
theorem aF4{f:FuncId}{xs:List aH}:Lo call G st d r (.call f xs)=fvC call G st d f xs ((xs.map (aM G st.sl)).flatMap jU):=q_
theorem aF5{x y:aH}:Lo call G st d r (.cpys x y)=fvY d st (aM G st.sl x) (dJ (aM G st.sl y)):=q_
theorem aUh{id c n:Nat}{bs:ByteArray}:fvY d st (.one (.bls id c n 1)) (some bs)=aJK d id c n bs st st.hp[id]?:=by simp only[fvY,if_true]
theorem aPJ{id c n:Nat}{bs:ByteArray}{cs:List aU}(h:c+n<=cs.length):aJK d id c n bs st (some (.box cs))=some (⟨aQ st.sl d (dQ (.int .i64 (min bs.size n:Nat))),st.hp.set id (.box (cY cs c (eU (bs.data.toList.take n))))⟩,[id],[id]):=if_pos h
theorem aUi{f:FuncId}{xs:List aH}:fvC call G st d f xs []=Vw [] (Cj call G st d (.call f xs)):=q_
theorem aUj{f:FuncId}{xs:List aH}{id:Nat}:fvC call G st d f xs [id]=fvB call d f st (xs.map (aM G st.sl)) id st.hp[id]?:=q_
theorem aUk:Vw R (some s)=some (s,[],R):=q_
theorem aUl{c:aU}:Qy (.one c)=fpC c:=q_
theorem aUm{sl:List AV}:fpA G sl []=[]:=q_
theorem aUn{sl:List AV}{x:aH}{xs:List aH}:fpA G sl (x::xs)=Qy (aM G sl x)++fpA G sl xs:=q_
theorem aUo:nAl []=0:=q_
theorem aUp{g:Option (Nat×Bool)}{l:List aN}:nAl (⟨d,ai,g⟩::l)=bif aCm ai then nAl l+1 else nAl l:=q_
theorem aK6:C9 0=[]:=q_
theorem aK7:C9 3=[.dead,.dead,.dead]:=q_
theorem aPK{c:List FP}:Lp [] c=true:=q_
theorem aPL{p q:Nat}{c:List FP}:Lp ((p,q)::prs) c=(dsM (atF c p) (atF c q)&&Lp prs c):=q_
theorem aUq{a b c e:List Nat}:dsM (a,b) (c,e)=(Gw a e&&(Gw a c&&Gw c b)):=q_
theorem aPM{b:List Nat}:Gw [] b=true:=q_
theorem aPN{x:Nat}{a b:List Nat}:Gw (x::a) b=(!Sg b x&&Gw a b):=q_
theorem aPO{x:Nat}:Sg [] x=false:=q_
theorem aPP{x y:Nat}{a:List Nat}:Sg (y::a) x=(nq x y||Sg a x):=q_
theorem aUr{c:List FP}:atF (f::c) 0=f:=q_
theorem aUs{c:List FP}{n:Nat}:atF (f::c) (n+1)=atF c n:=q_
theorem aK8{x:aH}:Lo call G st d r (.mov x)=Vw (fpA G st.sl [x]) (mK call G st [] d (.mov x)):=q_
theorem aF6{g:Bool}{n:Nat}{x:aH}:Lo call G st d r (.load g n x)=Vw (fpA G st.sl [x]) (mK call G st [] d (.load g n x)):=q_
theorem aK9{c:BinOp}{x y:aH}:Lo call G st d r (.bin c x y)=Vw (fpA G st.sl [x,y]) (mK call G st [] d (.bin c x y)):=q_
theorem aF7{o:Nat}{x:aH}:Lo call G st d r (.addo o x)=Vw (fpA G st.sl [x]) (mK call G st [] d (.addo o x)):=q_
theorem aLa{z:Nat}{x:aH}{e c:Option aH}:Lo call G st d r (.slL z x e c)=Vw (fpA G st.sl (x::(e.toList++c.toList))) (mK call G st [] d (.slL z x e c)):=q_
end
attribute [go_sem] aCH aK5 aUc aUd aUe aCI aUf aCJ aUg aNw aF5 aUh aPJ aF4 aUi aUj aUk aUl aUm aUn aUo aUp aK6 aK7 aPK aPL aUq aPM aPN aPO aPP aUr aUs fpC aCm aK8 aF6 aK9 aF7 aLa
attribute [go_sem] aJ2 aOU aJ3 aCs aFw W6 aJ5 aFx aJ6 aTi aFy aNv aTj aTk aTl aTm aJ7 aJ8 aOV aOW aOX aTn aTo aTp aTq aKa aTr aTu aTv aTw aTx aKe aKf aTy aTz aKg aKh aTA aTB aFB aO5
attribute [go_sem] aT6 aT7 aT8 Se bvB bvC Sd bvV bvT bvS bvO bvH
attribute [go_sem] aTH aTI aTJ aTK C6 bxB bxV bxT bxC bxD bxO Wp aJC Zt aSC aE4
attribute [go_sem] aCu aKb aOZ aO0 aO1 aKd iM
attribute [go_sem] aO4 C8 aKn aKD aFD aFE aCh aO7 aO8 aPc aO9 aFF aCi aPa aTD aKj aJ4 aFA aO2 aTs aTt aO3 kI O7 R7 aCg aPb aKk mkZ aTC aO6 aFC aCv aKi aFG aCw aKl aCx aKm aFH aFI aFJ aKo aFK aKp aPd aFL aFM aFN aKq aKr aKu aKv aKw aCy aKx aFO aFP aKy aKz aFQ
attribute [go_sem] aTE aTF aFR aCz aKA aFS aCA aCB aKB aKC aFT aFU aFV aKE aFW aKF aPe aFX aFY aKG aKH aKI aCC aKJ aFZ aF0 aXy aKK aF1 aCD aPf aKL aKM aCE aCF aKN aKO aKP aKQ aKR aKS aKT aKU aKV aKW aPg aKX aPh aKY
attribute [go_sem] aXB and_false false_and or_false false_or or_true true_or bAd aZ0 Bool.or_true Bool.or_false not_true_eq_false not_false_eq_true List.flatMap_cons List.flatMap_nil aXz aXA B8 gC kC aPi aPj aPk aXx aOY aCt W7 jk aJ9 aAm aPm aPn aPo aTG aPp
attribute [go_sem] aT2 aT3 aKZ aKs aKt
attribute [go_sem] aOx aCe aTP aPw aPx aTQ aPy aTR aPz aPA aPB aPC aTS aTT aTU aTV aTW aTX qcF List.getD_cons_zero aTY aTZ aT0 aT1 aT4 aT5 aT9 aUa aPD aPE aPG aPF aUb aK0 aK1 aK2 aPH aK3 aK4 aPI De aF3 ghE klC O6 klV klS klO klH Wr aE8 sJ Gt lC aOv aE6 aE7 mJ lD cvZ isT aOy aNs aOz aJI I9 bsO ctC Gx ctV ctO ctH ctS kN bV mG kX iR jU aEL idsL aSu dE keepL F5 pB aU.keep bF cJ tV cO dL kA Il renL dY cN B5 tC aPq aCG aPr aPs aPt tH gQ
end
section
def kD(x:Nat):List Nat->Bool
 |[]=>false
 |j::J=>nq x j||kD x J
theorem Hl(x:Nat):∀J:List Nat,kD x J=J.contains x
 |[]=>rfl
 |j::J=>by rw[kD,List.contains_cons,Hl x J,jG]
def rcB(hp:List aD)(n id:Nat)(c J:List Nat):Bool->List Nat
 |true=>uJ hp n c J
 |false=>uJ hp n (aJi (aL hp id)++c) (J++[id])
theorem aCK{hp:List aD}{n:Nat}{J:List Nat}:uJ hp n [] J=J:=by cases n<;>rfl
theorem aLb{hp:List aD}{n id:Nat}{c J:List Nat}:uJ hp (n+1) (id::c) J=rcB hp n id c J (kD id J):=by
 rw[uJ,Hl];cases J.contains id<;>rfl
theorem aUt{hp:List aD}{n id:Nat}{c J:List Nat}:rcB hp n id c J false=uJ hp n (aJi (aL hp id)++c) (J++[id]):=q_
def Ss:List Nat->Bool
 |[]=>true
 |j::J=>!kD j J&&Ss J
theorem aAo:∀J:List Nat,Ss J=nY (fun i j=>i != j) J
 |[]=>rfl
 | j::J=>by
  rw[Ss,nY,aAo J,Hl];congr 1
  induction J with
  | nil=>rfl
  | cons i J c=>simp only[List.contains_cons,List.all_cons,Bool.not_or,c];rfl
def kpC(J:List Nat):aU->Bool
 |.ptr id _=>kD id J
 |.bld id _=>kD id J
 |.ept id _ _ _=>kD id J
 |.bls id _ _ _=>kD id J
 |.fn f c=>(aU.fn f c).keep (kZ J)
 |.dc _=>true
 |.ref _=>true
 |.mpc _=>true
 |.junk=>true
def Df(J:List Nat):List aU->Bool
 |[]=>true
 |c::cs=>kpC J c&&Df J cs
def kpV(J:List Nat):AV->Bool
 |.one c=>kpC J c
 |.agg cs=>Df J cs
 |.tup l=>l.all (F5 (kZ J))
 |.junk=>true
def Pc(J:List Nat):List AV->Bool
 |[]=>true
 |v::vs=>kpV J v&&Pc J vs
def kpO(J:List Nat):aD->Bool
 |.box cs=>Df J cs
 |.arr _ _ _=>true
 |.dead=>true
def kpH(J:List Nat)(hp:List aD):List Nat->Bool
 |[]=>true
 |j::l=>decide (j<hp.length)&&kpO J (aL hp j)&&kpH J hp l
theorem aF8(J:List Nat)(c:aU):kpC J c=c.keep (kZ J):=by
 cases c<;>simp[kpC,aU.keep,kZ,Hl]
theorem Pd(J:List Nat):∀cs,Df J cs=keepL (kZ J) cs
 |[]=>rfl
 |c::cs=>by rw[Df,keepL,aF8,Pd J cs]
theorem aPQ(J:List Nat)(v:AV):kpV J v=dE (kZ J) v:=by
 cases v<;>simp[kpV,dE,aF8,Pd]
theorem Pe(J:List Nat):∀vs,Pc J vs=vs.all (dE (kZ J))
 |[]=>rfl
 |v::vs=>by rw[Pc,List.all_cons,aPQ,Pe J vs]
theorem aPR(J:List Nat)(o:aD):kpO J o=pB (kZ J) o:=by
 cases o<;>simp[kpO,pB,Pd]
theorem aF9(J:List Nat)(hp:List aD):∀l,kpH J hp l=l.all fun j=>decide (j<hp.length)&&pB (kZ J) (aL hp j)
 |[]=>rfl
 |j::l=>by rw[kpH,List.all_cons,aPR,aF9 J hp l]
def arB(j:Nat)(l:List Nat):aD->List Nat
 |.box _=>l
 |_=>j::l
def arJ(hp:List aD):List Nat->List Nat
 |[]=>[]
 |j::J=>arB j (arJ hp J) (aL hp j)
def kaC(A:List Nat):aU->aU
 |.dc d=>.dc d
 |.ref cs=>.ref cs
 |.mpc es=>.mpc es
 |.junk=>.junk
 |.ptr j o=>bif kD j A then .junk else .ptr j o
 |.bld j n=>bif kD j A then .junk else .bld j n
 |.ept j i s o=>bif kD j A then .junk else .ept j i s o
 |.bls j i s o=>bif kD j A then .junk else .bls j i s o
 |.fn f c=>cJ (fun id=>kD id A) (.fn f c)
def aCL(A:List Nat):List aU->List aU
 |[]=>[]
 |c::cs=>kaC A c::aCL A cs
def kaV(A:List Nat):AV->AV
 |.one c=>.one (kaC A c)
 |.agg cs=>.agg (aCL A cs)
 |.tup l=>.tup (l.map (tV fun id=>kD id A))
 |.junk=>.junk
def kaS(A:List Nat):List AV->List AV
 |[]=>[]
 |v::vs=>kaV A v::kaS A vs
def kaO(A:List Nat):aD->aD
 |.box cs=>.box (aCL A cs)
 |.arr c s es=>.arr c s es
 |.dead=>.dead
def kaH(A:List Nat):List aD->List aD
 |[]=>[]
 |o::os=>kaO A o::kaH A os
theorem aGa(A:List Nat)(c:aU):kaC A c=cJ (fun id=>kD id A) c:=by
 cases c<;>simp only[kaC,cJ,aU.keep,if_true]
 case ptr j o=>
  by_cases h:kD j A=true;simp[h];simp[h,(bAA.2 h:kD j A=false)]
 case bld j n=>
  by_cases h:kD j A=true;simp[h];simp[h,(bAA.2 h:kD j A=false)]
 case ept j i s o=>
  by_cases h:kD j A=true;simp[h];simp[h,(bAA.2 h:kD j A=false)]
 case bls j i s o=>
  by_cases h:kD j A=true;simp[h];simp[h,(bAA.2 h:kD j A=false)]
theorem Pf(A:List Nat):∀cs,aCL A cs=cs.map (cJ fun id=>kD id A)
 |[]=>rfl
 |c::cs=>by simp[aCL,aGa,Pf A cs]
theorem aPT(A:List Nat)(v:AV):kaV A v=bF (fun id=>kD id A) v:=by
 cases v<;>simp only[kaV,bF,aGa,Pf]
theorem aGb(A:List Nat):∀l,kaS A l=l.map (bF fun id=>kD id A)
 |[]=>rfl
 |c::cs=>by simp[kaS,aPT,aGb A cs]
theorem aGc(A:List Nat):∀l,kaH A l=l.map (cO fun id=>kD id A)
 |[]=>rfl
 |o::os=>by cases o<;>simp[kaH,kaO,cO,Pf,aGc A os]
theorem aGd(hp:List aD):∀J:List Nat,(fun id=>kD id (arJ hp J))=fun id=>J.contains id&&!iR (aL hp id)
 |[]=>by funext id;rfl
 | j::J=>by
  funext id;have c:kD id (arJ hp J)=(J.contains id&&!iR (aL hp id)):=congrFun (aGd hp J) id;rw[List.contains_cons,arJ];by_cases h:id=j
  ·subst h;cases g:aL hp id with
   | box cs=>rw[arB,c,g];simp[iR]
   | _=>simp[arB,kD,jG,iR]
  ·have e:(id==j)=false:=by simpa using h
   cases g:aL hp j with
   | box cs=>rw[arB,c,e,aZ0]
   | _=>simp only[arB,kD,jG,e,aZ0];exact c
def afB(J:List Nat)(st:AS)(d:Option Nat)(av:AV)(os:List aD):List Nat->AS
 |[]=>⟨aQ st.sl d (dL (cN J st.hp.length) av),kX J (os.map (dY (cN J st.hp.length))) st.hp++(os.drop J.length).map (dY (cN J st.hp.length))⟩
 |a::A=>⟨aQ (kaS (a::A) st.sl) d (dL (cN J st.hp.length) av),kX J (os.map (dY (cN J st.hp.length))) (kaH (a::A) st.hp)++(os.drop J.length).map (dY (cN J st.hp.length))⟩
theorem aGe{J:List Nat}{st:AS}{d:Option Nat}{av:AV}{os:List aD}:iT J st d av os=afB J st d av os (arJ st.hp J):=by
 unfold iT;rw[<- aGd];cases h:arJ st.hp J with
 |nil=>
  have c:∀id,kD id []=false:=fun _=>rfl
  rw[qY c,qZ c];rfl
 |cons a A=>rw[afB,aGb,aGc]
theorem aUx{J:List Nat}{st:AS}{d:Option Nat}{av:AV}{os:List aD}:afB J st d av os []=⟨aQ st.sl d (dL (cN J st.hp.length) av),kX J (os.map (dY (cN J st.hp.length))) st.hp++(os.drop J.length).map (dY (cN J st.hp.length))⟩:=q_
def evJ(call:aO)(d:Option Nat)(f:FuncId)(c:List AV)(st:AS)(J:List Nat):Option AS:=if okJ J st.hp c then (call f (c.map (dL (mG J))) (J.map fun j=>dY (mG J) (aL st.hp j))).map fun r=>iT J st d r.1 r.2 else none
def evK(d:Option Nat)(st:AS)(J:List Nat):Option (AV×List aD)->Option AS
 |some (av,os)=>some (iT J st d av os)
 |none=>none
def evB(call:aO)(d:Option Nat)(f:FuncId)(c:List AV)(st:AS)(J:List Nat):Bool->Option AS
 |true=>evK d st J (call f (c.map (dL (mG J))) (J.map fun j=>dY (mG J) (aL st.hp j)))
 |false=>none
theorem aGf{call:aO}{d:Option Nat}{f:FuncId}{c:List AV}{st:AS}:lA call d f c st=evJ call d f c st (uJ st.hp 2000 (c.flatMap jU) []):=q_
theorem aGg{call:aO}{d:Option Nat}{f:FuncId}{c:List AV}{st:AS}(J:List Nat):evJ call d f c st J=evB call d f c st J (Ss J&&kpH J st.hp J&&Pc J c):=by
 unfold evJ okJ;rw[aAo,aF9,Pe];cases (nY (fun i j=>i != j) J&&(J.all fun j=>decide (j<st.hp.length)&&pB (kZ J) (aL st.hp j))&&c.all (dE (kZ J))) with
 |false=>rfl
 |true=>
  simp only[if_true,evB];cases call f (c.map (dL (mG J))) (J.map fun j=>dY (mG J) (aL st.hp j))<;>rfl
theorem aUy{call:aO}{d:Option Nat}{f:FuncId}{c:List AV}{st:AS}:evJ call d f c st []=evB call d f c st [] (Ss []&&kpH [] st.hp []&&Pc [] c):=aGg _
theorem aUz{call:aO}{d:Option Nat}{f:FuncId}{c:List AV}{st:AS}{a:Nat}:evJ call d f c st [a]=evB call d f c st [a] (Ss [a]&&kpH [a] st.hp [a]&&Pc [a] c):=aGg _
theorem aUA{call:aO}{d:Option Nat}{f:FuncId}{c:List AV}{st:AS}{a b:Nat}:evJ call d f c st [a,b]=evB call d f c st [a,b] (Ss [a,b]&&kpH [a,b] st.hp [a,b]&&Pc [a,b] c):=aGg _
theorem aUB{call:aO}{d:Option Nat}{f:FuncId}{c:List AV}{st:AS}{J:List Nat}:evB call d f c st J true=evK d st J (call f (c.map (dL (mG J))) (J.map fun j=>dY (mG J) (aL st.hp j))):=q_
theorem aUC{d:Option Nat}{st:AS}{J:List Nat}{av:AV}{os:List aD}:evK d st J (some (av,os))=some (iT J st d av os):=q_
theorem St:∀c:List DC,idsL (kV c)=[]
 |[]=>rfl
 | d::c=>by
  have:=St c;simp only[kV,aZl,idsL,aEL,aZs] at this ⊢;exact this
theorem Su(J:List Nat):∀c:List DC,Df J (kV c)=true
 |[]=>rfl
 | d::c=>by
  have:=Su J c;simp only[kV,aZl,Df,kpC,aZI] at this ⊢;exact this
theorem aLc(ρ:Nat->Nat)(ds:List DC):(kV ds).map (kA ρ)=kV ds:=by
 simp only[kV,aZE];exact aZz fun d _=>rfl
theorem Sv(id:Nat):∀c:List DC,O6 id (kV c)=kV c
 |[]=>rfl
 | d::c=>by
  have:=Sv id c;simp only[kV,aZl,O6,klC] at this ⊢;rw[this]
theorem Sw(m:Nat):∀c:List DC,Gx m (kV c)=kV c
 |[]=>rfl
 | d::c=>by
  have:=Sw m c;simp only[kV,aZl,Gx,ctC] at this ⊢;rw[this]
theorem Hm:∀c:List DC,dcs (kV c)=some c
 |[]=>rfl
 | d::c=>by
  have:=Hm c;simp only[kV,aZl,dcs] at this ⊢;rw[this];rfl
theorem Pg(a:Nat):nq a a=true:=by rw[jG];simp
attribute [go_sem] St Su aLc Sv Sw Hm
attribute [go_sem] kD aCK aLb aUt Ss kpC Df kpV Pc kpO kpH arB arJ kaC aCL kaV kaS kaO kaH aGe aUx aGf aUy aUz aUA aUB aUC aJi Nat.reduceLT
section
variable {call:aO}{G:aF}{st:AS}{d:Option Nat}
def aUD(call:aO)(d:Option Nat)(f:FuncId)(st:AS)(c:List AV)(id:Nat)(cs:List aU):Bool->Option (AS×FP)
 |true=>aFb d id st (lD call f (c.map (dL (mG [id]))) [.box cs])
 |false=>none
theorem aUE{f:FuncId}{c:List AV}{id:Nat}{cs:List aU}:fvB call d f st c id (some (.box cs))=aUD call d f st c id cs (keepL (fun _=>true) cs&&Pc [id] c):=by
 rw[Pe];simp only[fvB];cases (keepL (fun _=>true) cs&&c.all (dE (kZ [id])))<;>rfl
theorem aPU{f:FuncId}{c:List AV}{id:Nat}{cs:List aU}:aUD call d f st c id cs true=aFb d id st (lD call f (c.map (dL (mG [id]))) [.box cs]):=q_
end
attribute [go_sem] aUE aPU
attribute [go_sem] Nat.reduceAdd Nat.reduceSub Nat.reduceMul Nat.reduceLeDiff Nat.reduceEqDiff
end
section
def aGh(size bytes:Nat)(z:List Value):HC:=
 (.seq (.region [Oo 2 (.mov (.k (.slice none 0 0)))])
 (.seq (.seq (.region [Oo 3 (.mov (.t 0)),Oo 4 (.isnil false false (.t 3))])
 (.cond (.t 4) (.seq (.region [Oo 2 (.mov (.k (.slice none 0 0)))])
 .ret)
 .skip))
 (.seq (.region [Oo 5 (.bslc size 0 z []),Oo 6 (.mov (.t 0)),Oo 7 (.app size bytes z (.t 5) (.t 6)),Oo 2 (.mov (.t 7))])
 .ret)))
section
variable {P:Program}{G:aF}{call:aO}
theorem aCM:cH P G (fun _ _ _=>none):=fun f c hp av e h=>by cases h
theorem Xa{size bytes:Nat}{z:List Value}{es:List (List DC)}{v4:AV}(h4:v4=dQ (.bool false))(hz:0<z.length)(hl:gC size es=true)(hb:es.length*bytes<=140737488355328):
  EC call G (.seq (.region [Oo 5 (.bslc size 0 z []),Oo 6 (.mov (.t 0)),Oo 7 (.app size bytes z (.t 5) (.t 6)),Oo 2 (.mov (.t 7))]) .ret)
   ⟨[.one (.dc (.slc es)),.junk,dQ (.slice none 0 0),.one (.dc (.slc es)),v4,.junk,.junk,.junk],[]⟩=
  some (.ret,⟨[.one (.dc (.slc es)),.junk,.one (.bld 0 es.length),.one (.dc (.slc es)),v4,.one .junk,.one (.dc (.slc es)),.one (.bld 0 es.length)],[.arr 0 size es]⟩):=by
 subst h4;simp[go_sem,hl,hb]
theorem aGi{f:FuncId}{fn:Func}{size bytes:Nat}{z:List Value}{es:List (List DC)}(hf:P.funcs[f]?=some fn)(hn:fn.ntmps=8)
  (hc:fn.body.bind (bU P)=some (aGh size bytes z).er) (hr:fn.results.toList.mapM (jQ P)=some [.tmp 2])
  (hz:0<z.length) (hl:gC size es=true) (hb:es.length*bytes<=140737488355328):
  AC P G f [.one (.dc (.slc es))] [] fun a o=>a=.one (.bld 0 es.length)/\o.map aP=[.arr 0 size es]:=by
 have hA:AC P G f [.one (.dc (.slc es))] [] fun a o=>(a=.one (.bld 0 es.length)/\o.map aP=[.arr 0 size es])\/(es=[]/\a=dQ (.slice none 0 0)/\o=[]):=by
  refine AC.of_codeJ hf hn hc hr ?_;have rest:∀ b:Bool,(b=true->es=[])->AW P G 0 (.cond (.t 4) (.seq (.region [Oo 2 (.mov (.k (.slice none 0 0)))]) .ret) .skip)
    (Iu P G 0 (.seq (.region [Oo 5 (.bslc size 0 z []),Oo 6 (.mov (.t 0)),Oo 7 (.app size bytes z (.t 5) (.t 6)),Oo 2 (.mov (.t 7))]) .ret) (Fin 0 [.tmp 2] fun a o=>(a=.one (.bld 0 es.length)/\o.map aP=[.arr 0 size es])\/(es=[]/\a=dQ (.slice none 0 0)/\o=[])))
    ⟨[.one (.dc (.slc es)),.junk,dQ (.slice none 0 0),.one (.dc (.slc es)),dQ (.bool b),.junk,.junk,.junk],[]⟩:=by
   intro b hb0;refine AW.cond (b:=b) rfl (fun h=>?_) (fun h=>?_)
   ·refine AW.seq (AW.region (WR.exX trivial rfl rfl (WR.nil ?_)));exact AW.ret (Iu.r (by unfold Fin;exact⟨.inr rfl,aZv _,_,rfl,.inr ⟨hb0 h,rfl,rfl⟩⟩))
   ·subst h;refine AW.skip (Iu.n ?_);refine (aNu (aCM (P:=P) (G:=G)) (.seq (.region [Oo 5 (.bslc size 0 z []),Oo 6 (.mov (.t 0)),Oo 7 (.app size bytes z (.t 5) (.t 6)),Oo 2 (.mov (.t 7))]) .ret) _ .ret _ (Xa rfl hz hl hb) 0).mono ?_;rintro e s ⟨rfl,hs⟩;unfold Fin;refine⟨.inr rfl,aZv _,.one (.bld 0 es.length), ?_,.inl ⟨rfl,congrArg AS.hp hs⟩⟩;rw[<- Ew,hs];rfl
  refine AW.seq (AW.region (WR.exX trivial rfl rfl (WR.nil ?_)));refine AW.seqv (AW.seq (AW.region (WR.exX trivial rfl rfl ?_)));cases es with
  | nil=>exact WR.isnil0 trivial rfl rfl (fun b=>WR.nil (rest b (fun _=>rfl)))
  | cons e es=>exact WR.exX trivial rfl rfl (WR.nil (rest false (fun h=>by cases h)))
 refine hA.gh (fun a o h hl0=>?_)
 rcases h with⟨rfl,h⟩|⟨rfl,rfl,rfl⟩;exact⟨_,_,Gh.refl,hl0,rfl,h⟩;exact⟨_,_,Gh.nil (d:=0) size rfl,aZv _,rfl,rfl⟩
def aGj(size bytes:Nat):List AV->List aD->Option (AV×List aD)
 |[.one (.dc (.slc es))],[]=>if gC size es=true/\es.length*bytes<=140737488355328 then some (.one (.bld 0 es.length),[.arr 0 size es]) else none
 |_,_=>none
def Jl:List (FuncId×Nat×Nat)->aO
 |[],_,_,_=>none
 |(g,size,bytes)::L,f,c,hp=>if f=g then aGj size bytes c hp else Jl L f c hp
theorem E1:∀(L:List (FuncId×Nat×Nat)),(∀e∈L,Za P e.1=true/\∃i z,P.funcs[e.1]?=some i/\i.ntmps=8/\i.body.bind (bU P)=some (aGh e.2.1 e.2.2 z).er/\i.results.toList.mapM (jQ P)=some [.tmp 2]/\0<z.length)->cH P G (Jl L)
 |[],_=>fun f c hp av t h=>by cases h
 | (g,size,bytes)::L,n=>fun f c hp av t h j q=>by
  unfold Jl at h;split at h
  ·rename_i hf;subst hf;obtain⟨u,i,z,v,h3,h4,h5,h6⟩:=n _ aZu;refine⟨u, ?_⟩;unfold aGj at h;split at h
   ·rename_i es;split at h
    ·rename_i p;simp only[Option.some.injEq,Prod.mk.injEq] at h;obtain⟨rfl,rfl⟩:=h;have:j=[]:=by simpa using q
     subst this;exact aGi v h3 h4 h5 h6 p.1 p.2
    ·cases h
   ·cases h
  ·exact E1 L (fun e w=>n e (aZC _ w)) f c hp av t h j q
end
end
section
open Go.RowKit
theorem Dg(k:Int):∀(l:List MapEntry)(i:Nat),(∀x∈l,∃n,x.key=.int .i64 n/\n≠k)->Instr.findNow (.int .i64) (.int .i64 k) l i=some none
 |[],i,h=>rfl
 | e::l,i,h=>by
  obtain⟨n,g,j⟩:=h e aZu;have c:(k==n)=false:=by simp;exact fun e=>j e.symm
  simp[Instr.findNow,Instr.sameNow,g,c,Dg k l (i+1) (fun x p=>h x (aZC _ p))]
theorem Dh{P:Program}{t g u:TypeId}(A:P.underlying t=some (.map g u))(q:P.underlying g=some (.int .i64))(w:World)(es:Array MapEntry)(c:Nat)(n:Int)(v:Value)(z:∀x∈es.toList,∃m,x.key=.int .i64 m/\m≠n):(Instr.mapUpdate t (.map (some w.heap.size)) (.int .i64 n) v).run P (w.alloc (.map es c))=.ok () (w.alloc (.map (es.push { key:=.int .i64 n,val:=v,born:=c }) (c+1))):=by
 have p:(w.alloc (.map es c)).heap[w.heap.size]?=some (.map es c):=by
  show (w.heap.push _)[w.heap.size]?=_;simp
 have j:(getObj w.heap.size).run P (w.alloc (.map es c))=.ok (.map es c) (w.alloc (.map es c)):=by simp only[getObj,Sem.run,p]
 have h:(Instr.checkKey false (9999+1) g (.int .i64 n)).run P (w.alloc (.map es c))=.ok () (w.alloc (.map es c)):=by
  unfold Instr.checkKey;simp[run_underlying q]
 have i:(Instr.findKey g (.int .i64 n) es.toList).run P (w.alloc (.map es c))=.ok none (w.alloc (.map es c)):=by
  simp[Instr.findKey,run_underlying q,Dg n es.toList 0 z]
 have e:∀o,(setObj w.heap.size o).run P (w.alloc (.map es c))=.ok () (w.alloc o):=by
  intro o;rw[MapKept.run_setObj_map o p];have:(w.heap.push (.map es c)).setIfInBounds w.heap.size o=w.heap.push o:=by
   apply Array.ext';simp
  show Result.ok () ({ w.alloc (.map es c) with heap:=(w.heap.push (.map es c)).setIfInBounds w.heap.size o }:World)=_
  rw[this];rfl
 simp[Instr.mapUpdate,run_underlying A,j,h,i,e]
def tyL:List (Int×Value):=[(16,.bool true),(32,.bool false),(48,.bool true),(64,.bool false),(96,.bool true),(112,.bool true),(128,.bool false),(144,.bool true),(160,.bool false),(176,.bool false),(192,.bool false)]
def tyE:Array MapEntry:=#[⟨.int .i64 16,.bool true,0⟩,⟨.int .i64 32,.bool false,1⟩,⟨.int .i64 48,.bool true,2⟩,⟨.int .i64 64,.bool false,3⟩,⟨.int .i64 96,.bool true,4⟩,⟨.int .i64 112,.bool true,5⟩,⟨.int .i64 128,.bool false,6⟩,⟨.int .i64 144,.bool true,7⟩,⟨.int .i64 160,.bool false,8⟩,⟨.int .i64 176,.bool false,9⟩,⟨.int .i64 192,.bool false,10⟩]
set_option maxRecDepth 100000 in
theorem aLd(w:World):Calls Tryz.prog 210 #[] w fun e w'=>e=.returned (.map (some w.heap.size))/\w'=w.alloc (.map tyE 11):=by
 have c:=fun w=>run_makeMap_plain (P:=Tryz.prog) (w:=w) 147
 go_enter Tryz.func210,Tryz.ntmps210
 go_wp2
 iterate 11
  rw[Dh Tryz.underlying147 Tryz.underlying3]
  rotate_left
  ·simp
  simp only[Result.andThen]
  go_wp2
 go_ret
 exact⟨rfl,rfl⟩
set_option maxRecDepth 100000 in
theorem aUF(s:ByteArray)(c:Int)(w:World):Calls Tryz.prog 297 #[.string s,.int .u8 c] w fun e w'=>e=.returned (.int .i64 (Lib.indexByte s.data.toList c.toNat.toUInt8))/\w'=w:=by
 go_enter Tryz.func297,Tryz.ntmps297
 go_wp2
 rw[run_callFunc_extern Tryz.func298 (by kernel_rfl) (by kernel_rfl) (by kernel_rfl) (e:=Extern.BytealgIndexByte.indexByte) (by kernel_rfl),Lib.run_indexByteString];simp only[Result.andThen];rw[Oper.upon_value]
 go_wp2
 go_ret
 exact⟨rfl,rfl⟩
theorem aGk{γ:List OI}{hp:List aD}{F:Fz}{w:World}(c:dP F γ hp w)(h:hp=[]):γ=[]:=bAj (by rw[c.len,h];rfl)
theorem aLe{G:aF}:QC Tryz.prog G 210 [] (.one (.mpc tyL)):=by
 intro F γ vs w n v u;have t:=aGk n rfl;subst t;have q:vs=#[]:=Array.eq_empty_of_size_eq_zero u.1;subst q;have p:∀ b o,F b=some o->b < w.heap.size:=fun b o h=>by
  have:=n.fz b o h;exact (Array.getElem?_eq_some_iff.1 this).1
 have g:∀b,b<w.heap.size->(w.heap.push (.map tyE 11))[b]?=w.heap[b]?:=fun b c=>by rw[Array.getElem?_push_lt c,aZP c]
 refine (aLd w).mono ?_;rintro e w' ⟨rfl,rfl⟩;refine⟨_,_,[],fun b=>if b=w.heap.size then some (.map tyE 11) else F b,[],rfl,⟨rfl,rfl⟩,aZe _,⟨?_,rfl,rfl,rfl,?_,?_,?_,?_,?_⟩,⟨?_,rfl,?_,?_,?_⟩,.one _ _ (.mpc tyL w.heap.size 11 tyE (by simp) (by rfl) (by decide))⟩
 intro b o h;have:=p b o h;show (if b=w.heap.size then _ else F b)=_
 rw[if_neg (by omega)];exact h;show w.heap.size<=(w.heap.push _).size;simp;intro b c _;exact g b c;intro b o h;by_cases c:b=w.heap.size;exact .inr (.inl (by omega));simp only[if_neg c] at h;exact .inl h;intro i b h;simp[cE] at h;intro i n;exact absurd n (Nat.not_lt_zero _);intro b o h;by_cases c:b=w.heap.size;subst c;simp only[if_true] at h;rw[<- h];show (w.heap.push _)[w.heap.size]?=_;simp;simp only[if_neg c] at h;exact (g b (p b o h)).trans (n.fz b o h);intro i j b h;simp[cE] at h;intro i b h;simp[cE] at h;intro i o x h;simp at h
theorem aUG{G:aF}(s:ByteArray)(c:Int):QC Tryz.prog G 297 [.one (.dc (.raw (.string s))),.one (.dc (.raw (.int .u8 c)))] (.one (.dc (.raw (.int .i64 (Lib.indexByte s.data.toList c.toNat.toUInt8))))):=by
 intro F γ vs w i q g;obtain⟨p,g⟩:=g;have h:=aGk i rfl;subst h;obtain⟨x,y,rfl⟩:∃x y,vs=#[x,y]:=by
  obtain⟨l⟩:=vs
  match l,p with
  |[x,y],_=>exact⟨x,y,rfl⟩
 have j:=cU (g 0 _ _ rfl rfl);have n:=cU (g 1 _ _ rfl rfl);subst j;subst n;refine (aUF s c w).mono ?_;rintro e w' ⟨rfl,rfl⟩;exact⟨_,_,[],F,[],rfl,⟨rfl,rfl⟩,aZe _,iH.refl _ _ _ _,i,.one _ _ (.dc _ _ (.raw _ rfl))⟩
def tyK:List AV->List aD->Option (AV×List aD)
 |[],[]=>some (.one (.mpc tyL),[])
 |_,_=>none
def ixK:List AV->List aD->Option (AV×List aD)
 |[.one (.dc (.raw (.string s))),.one (.dc (.raw (.int .u8 c)))],[]=>some (.one (.dc (.raw (.int .i64 (Lib.indexByte s.data.toList c.toNat.toUInt8)))),[])
 |_,_=>none
def awK:List AV->List aD->Option (AV×List aD)
 |[],[]=>some (.one (.dc (.raw (.bool true))),[])
 |_,_=>none
def bs(b:Bool):aO:=fun f c hp=>if f=210 then tyK c hp else if f=297 then ixK c hp else if f=4 then (if b=true then awK c hp else none) else Jl [(174,2,16)] f c hp
theorem aUH{G:aF}{b:Bool}(q:b=true->QC Tryz.prog G 4 [] (.one (.dc (.raw (.bool true))))):cH Tryz.prog G (bs b):=by
 intro f j hp av u h i n;unfold bs at h;split at h;rename_i hf;subst hf;unfold tyK at h;split at h;injection h with h;injection h with c g;subst c;subst g
 have:i=[]:=by simpa using n
 subst this;exact⟨by kernel_rfl,aLe.gh (fun a o ⟨c,g⟩ _=>⟨a,o,Gh.refl,aZv _,c,by rw[g];rfl⟩)⟩
 cases h;split at h;rename_i hf;subst hf;unfold ixK at h;split at h;injection h with h;injection h with c g;subst c;subst g
 have:i=[]:=by simpa using n
 subst this;exact⟨by kernel_rfl,(aUG _ _).gh (fun a o ⟨c,g⟩ _=>⟨a,o,Gh.refl,aZv _,c,by rw[g];rfl⟩)⟩
 cases h;split at h;rename_i hf;subst hf;split at h;rename_i t;unfold awK at h;split at h;injection h with h;injection h with c g;subst c;subst g
 have:i=[]:=by simpa using n
 subst this;exact⟨by kernel_rfl,(q t).gh (fun a o ⟨c,g⟩ _=>⟨a,o,Gh.refl,aZv _,c,by rw[g];rfl⟩)⟩
 cases h;cases h
 exact E1 [(174,2,16)] (fun e p=>by
  simp only[List.mem_singleton] at p;subst p;exact⟨by kernel_rfl,_,[Zi 0,Zi 0],Tryz.func174,Tryz.ntmps174,h174_ok,aJ1,by decide⟩) f j hp av u h i n
