/- Functions of the base: the map of the types, and the index of a byte, walked by the kit's rules. Conditions: none. -/
import Derived.Test.YtcplecjhmnblpaaGreatDoorNd
import Derived.Test.YtcplecjhmnblpaaGreatDoorCb
import Derived.WalkKit
import Derived.WideMake
import Derived.MapKept
import Derived.Lib.Bytealg
import Derived.Lib.Walk
import Derived.Lib.Strings
import Derived.BigCall
namespace Go.Proofs.YtcplecjhmnblpaaGreatDoor
set_option linter.unusedSimpArgs false
set_option linter.unusedVariables false
section
section
variable {call:aW} {G:aH} {st s s':AS} {a b:HC} {L:List Nat} {m:Nat}
noncomputable def T9(call:aW)(G:aH)(b:HC)(r:Option (Exit × AS)):Option (Exit × AS):=match r with
 | some (.normal,s)=>EC call G b s
 | r=>r
noncomputable def cdK(call:aW)(G:aH)(a b:HC)(st:AS):Option Bool->Option (Exit × AS)
 | some true=>EC call G a st
 | some false=>EC call G b st
 | none=>none
noncomputable def EL(call:aW)(G:aH)(a:HC)(L:List Nat)(m:Nat)(st:AS):Option (Exit × AS):=tO (EC call G a) L m st
noncomputable def Y4(call:aW)(G:aH)(a:HC)(L:List Nat)(m:Nat)(r:Option (Exit × AS)):Option (Exit × AS):=match r with
 | some (.normal,s)=>EL call G a L m (jL L m s)
 | r=>r
def Ua(L:List Nat)(m:Nat):Option (Exit × AS)->Option AS
 | some (.normal,s)=>some (jL L m s)
 | _=>none
theorem aDA:EC call G .skip st=some (.normal,st):=Eq.trans rfl rfl
theorem aHX:EC call G .ret st=some (.ret,st):=Eq.trans rfl rfl
theorem aDB{id:Nat}:EC call G (.exit id) st=some (.exit id,st):=Eq.trans rfl rfl
theorem Ub{ops:List aY}:EC call G (.region ops) st=Yl (Wa call G ops (some st)):=Eq.trans rfl rfl
theorem aDC{L:List Nat}{ops:List aY}:EC call G (.regR L ops) st=Yl (yY call G L ops (some st)):=Eq.trans rfl rfl
theorem Y5{ops:List (Bool × aY)}:EC call G (.drawn ops) st=Yl (yZ call G ops (some st)):=Eq.trans rfl rfl
theorem Nd:EC call G (.seq a b) st=T9 call G b (EC call G a st):=by rw[EC];rfl
theorem aDD{c:aJ}:EC call G (.cond c a b) st=cdK call G a b st (cG (aK G st.sl c)):=by rw[EC];rfl
theorem Y6{id:Nat}:EC call G (.block id a) st=rQ id (EC call G a st):=Eq.trans rfl rfl
theorem aDE:EC call G (.loop L a) st=EL call G a L st.hp.length (jL L st.hp.length st):=Eq.trans rfl rfl
theorem Y7{L:List Nat}:EC call G (.trm L a) st=EC call G a (jL L st.hp.length st):=Eq.trans rfl rfl
theorem aK4{g:GH}:EC call G (.gh g a) st=EC call G a (ghE g st):=Eq.trans rfl rfl
theorem aGv:T9 call G b (some (.normal,s))=EC call G b s:=Eq.trans rfl rfl
theorem aK5:T9 call G b (some (.ret,s))=some (.ret,s):=Eq.trans rfl rfl
theorem aK6{id:Nat}:T9 call G b (some (.exit id,s))=some (.exit id,s):=Eq.trans rfl rfl
theorem aK7:cdK call G a b st (some true)=EC call G a st:=Eq.trans rfl rfl
theorem aK8:cdK call G a b st (some false)=EC call G b st:=Eq.trans rfl rfl
theorem aDF{p:Prop}[Decidable p](h:p):cdK call G a b st (some (decide p))=EC call G a st:=by rw[decide_eq_true h];rfl
theorem aDG{p:Prop}[Decidable p](h:¬ p):cdK call G a b st (some (decide p))=EC call G b st:=by rw[decide_eq_false h];rfl
theorem aHY{id:Nat}:rQ id (some (.normal,s))=some (.normal,s):=Eq.trans rfl rfl
theorem aHZ{id:Nat}:rQ id (some (.ret,s))=some (.ret,s):=Eq.trans rfl rfl
theorem aH0{id id':Nat}:rQ id (some (.exit id',s))=bif nq id' id then some (.normal,s) else some (.exit id',s):=by
 simp only[rQ,aDc,iI];by_cases h:id'=id
 ·simp[h]
 ·simp[h,(beq_eq_false_iff_ne.2 h:(id'==id)=false)]
theorem aK9:Y4 call G a L m (some (.ret,s))=some (.ret,s):=Eq.trans rfl rfl
theorem aLa{id:Nat}:Y4 call G a L m (some (.exit id,s))=some (.exit id,s):=Eq.trans rfl rfl
theorem aLb:Ua L m (some (.normal,s))=some (jL L m s):=Eq.trans rfl rfl
theorem aLc:Yl (some s)=some (.normal,s):=Eq.trans rfl rfl
theorem Gk:EL call G a L m st=Y4 call G a L m (EC call G a st):=by
 unfold EL;cases h:EC call G a st with
 | none=>
  simp only[Y4];cases hl:tO (EC call G a) L m st with
  | none=>rfl
  | some r=>
   obtain⟨n,hn⟩:=jM hl;cases n with
   | zero=>simp[Dl] at hn
   | succ n=>rw[Dl,h] at hn;cases hn
 | some r=>
  obtain⟨e,s⟩:=r;by_cases he:e=.normal
  ·subst he;exact Ym st h
  ·rw[T4 h he];unfold Y4;split
   ·rename_i h1;injection h1 with h1;injection h1 with h1;exact absurd h1 he
   ·rfl
theorem bG(H:Nat->AS)(n:Nat)(h0:st=H 0)(hr:∀ k,k < n->Ua L m (EC call G a (H k))=some (H (k+1))):EL call G a L m st=Y4 call G a L m (EC call G a (H n)):=by
 subst h0;have key:∀ k,k<=n->EL call G a L m (H 0)=EL call G a L m (H k):=by
  intro k
  induction k with
  | zero=>intro _;rfl
  | succ k ih=>
   intro hk;rw[ih (by omega),Gk];have:=hr k (by omega);unfold Ua at this;split at this
   ·rename_i s h1;injection this with this
    rw[h1,<- this];rfl
   ·cases this
 rw[key n (aQf _),Gk]
theorem Y8(p:Nat->Prop):∀ n:Nat,∃ k,k<=n/\(k=n\/(k < n/\p k))/\∀ j,j < k->¬ p j
 | 0=>⟨0,aQf _,.inl rfl,fun j h=>by omega⟩
 | n+1=>by
  obtain⟨k,h1,h2,h3⟩:=Y8 p n;rcases h2 with h2 | ⟨h2,h4⟩
  ·subst h2;by_cases hp:p k
   ·exact⟨k,by omega,.inr ⟨by omega,hp⟩,h3⟩
   ·exact⟨k+1,aQf _,.inl rfl,fun j hj=>by
     by_cases he:j=k
     ·subst he;exact hp
     ·exact h3 j (by omega)⟩
  ·exact⟨k,by omega,.inr ⟨by omega,h4⟩,h3⟩
noncomputable def ix(p:Nat->Prop)(n:Nat):Nat:=(Y8 p n).choose
theorem bW(p:Nat->Prop)(n:Nat):ix p n<=n/\(ix p n=n\/(ix p n < n/\p (ix p n)))/\∀ j,j < ix p n->¬ p j:=(Y8 p n).choose_spec
theorem gA(H:Nat->AS)(p:Nat->Prop)(n:Nat)(h0:st=H 0)(hr:∀ k,k < n->(∀ j,j<=k->¬ p j)->Ua L m (EC call G a (H k))=some (H (k+1))):
  EL call G a L m st=Y4 call G a L m (EC call G a (H (ix p n))):=by
 obtain⟨h1,_,h3⟩:=bW p n;exact bG H _ h0 (fun k hk=>hr k (by omega) (fun j hj=>h3 j (by omega)))
theorem Uc(n k:Nat):((n:Int)+(k:Int)).toNat=n+k:=by omega
theorem Nf(n:Nat):((n:Int)+1).toNat=n+1:=by omega
def jk:Nat->List AV->List AV
 | 0,t=>t
 | n+1,t=>.junk::jk n t
theorem aDH{c:aR}{cs vs:List aR}{n:Nat}:cN (c::cs) (n+1) vs=c::cN cs n vs:=by
 simp only[cN,aRx,aQy];rw[show n+1+vs.length=(n+vs.length)+1 by omega,aRG]
theorem Qr{cs vs:List aR}:cN cs 0 vs=vs++cs.drop vs.length:=by simp[cN]
theorem aOU(a b c:Int):a+(b+c)=a+b+c:=(Int.add_assoc a b c).symm
theorem aH1{st:AS}{d:Option Nat}{cs:List aR}:aHg st d (some cs)=some ⟨aO st.sl d (.one (.ptr st.hp.length 0)),st.hp++[.box cs]⟩:=Eq.trans rfl rfl
theorem tX(n:Nat):((n:Int) - 1).toNat=n - 1:=by omega
theorem aDI:Wa call G [] (some st)=some st:=Eq.trans rfl rfl
theorem aLd{d:Option Nat}{ai:AI}{g:Option (Nat × Bool)}{l:List aY}:Wa call G (⟨d,ai,g⟩::l) (some st)=Wa call G l (M5 call G st l d ai g):=Eq.trans rfl rfl
theorem Y9{L:List Nat}:yY call G L [] (some st)=some st:=Eq.trans rfl rfl
theorem aH2{L:List Nat}{d:Option Nat}{ai:AI}{g:Option (Nat × Bool)}{l:List aY}:yY call G L (⟨d,ai,g⟩::l) (some st)=yY call G L l (Eu call G L st l d ai g (kR L ai g)):=Eq.trans rfl rfl
theorem aLe{L:List Nat}{l:List aY}{d:Option Nat}{ai:AI}{g:Option (Nat × Bool)}:Eu call G L st l d ai g true=Jm call G L st d ai:=Eq.trans rfl rfl
theorem aLf{L:List Nat}{l:List aY}{d:Option Nat}{ai:AI}{g:Option (Nat × Bool)}:Eu call G L st l d ai g false=M5 call G st l d ai g:=Eq.trans rfl rfl
theorem aH3{L:List Nat}{d:Option Nat}{f:FuncId}{xs:List aJ}:Jm call G L st d (.call f xs)=Yh call G st d f xs (Gd L (f+100000)):=Eq.trans rfl rfl
theorem aH4{d:Option Nat}{f:FuncId}{xs:List aJ}:Yh call G st d f xs false=jW (jZ call) d f (xs.map (aK G st.sl)) st:=Eq.trans rfl rfl
def aP2(d:Option Nat)(st:AS)(av:AV):Bool->Option AS
 | true=>some ⟨aO st.sl d av,st.hp⟩
 | false=>none
theorem aLg{l:List aY}{d:Option Nat}{ai:AI}:M5 call G st l d ai none=lP call G st l d ai:=Eq.trans rfl rfl
theorem aLh{l:List aY}{d:Option Nat}{ai:AI}{g:Nat}{b:Bool}:M5 call G st l d ai (some (g,b))=guZ call G st l d ai (gK b (aK G st.sl (.t g))):=Eq.trans rfl rfl
section
variable {l:List aY} {d:Option Nat} {ai:AI}
theorem aLi:guZ call G st l d ai (some true)=lP call G st l d ai:=Eq.trans rfl rfl
theorem aLj:guZ call G st l d ai (some false)=some ⟨aO st.sl d (.tup []),st.hp⟩:=Eq.trans rfl rfl
theorem aDJ{p:Prop}[Decidable p](h:p):guZ call G st l d ai (some (decide p))=lP call G st l d ai:=by rw[decide_eq_true h];rfl
theorem aDK{p:Prop}[Decidable p](h:¬ p):guZ call G st l d ai (some (decide p))=some ⟨aO st.sl d (.tup []),st.hp⟩:=by rw[decide_eq_false h];rfl
theorem aLk{q:Bool}:T0 call G st q d ai (some true)=Tz call G st d ai q:=Eq.trans rfl rfl
theorem aLl{q:Bool}:T0 call G st q d ai (some false)=some ⟨aO st.sl d (.tup []),st.hp⟩:=Eq.trans rfl rfl
theorem aDL{q:Bool}{p:Prop}[Decidable p](h:p):T0 call G st q d ai (some (decide p))=Tz call G st d ai q:=by rw[decide_eq_true h];rfl
theorem aDM{q:Bool}{p:Prop}[Decidable p](h:¬ p):T0 call G st q d ai (some (decide p))=some ⟨aO st.sl d (.tup []),st.hp⟩:=by rw[decide_eq_false h];rfl
theorem aLm{q:Bool}:drO call G st q d ai none=Tz call G st d ai q:=Eq.trans rfl rfl
theorem aLn{q:Bool}{g:Nat}{b:Bool}:drO call G st q d ai (some (g,b))=T0 call G st q d ai (gK b (aK G st.sl (.t g))):=Eq.trans rfl rfl
theorem Za:yZ call G [] (some st)=some st:=Eq.trans rfl rfl
theorem aH5{q:Bool}{g:Option (Nat × Bool)}{l:List (Bool × aY)}:yZ call G ((q,⟨d,ai,g⟩)::l) (some st)=yZ call G l (drO call G st q d ai g):=Eq.trans rfl rfl
theorem Zb{f:FuncId}{xs:List aJ}:lP call G st l d (.call f xs)=clZ call G d f xs st:=Eq.trans rfl rfl
theorem Ud{x:aJ}{xs:List aJ}:lP call G st l d (.callv x xs)=cvZ call G d x xs st:=Eq.trans rfl rfl
theorem aDN{z b:Nat}{zz:List Value}{s x:aJ}:lP call G st l d (.app z b zz s x)=apZ d z b st (aK G st.sl s) (aK G st.sl x):=Eq.trans rfl rfl
theorem aLo{d:Option Nat}{size bytes:Nat}{z:List Value}{st:AS}{i j:Int}(h:0<=i/\i<=j/\j.toNat * bytes<=140737488355328):mkK d size bytes z st (some i) (some j)=some ⟨aO st.sl d (.one (.bld st.hp.length i.toNat)),st.hp++[.arr 0 size (List.replicate i.toNat (z.map DC.raw))]⟩:=by
 obtain⟨n,rfl⟩:=aRs h.1;obtain⟨m,rfl⟩:=aRs (Int.le_trans h.1 h.2.1);have h1:=h.2.1;have h2:=h.2.2;simp only[aQN] at h2;simp only[mkK,aQN];exact if_pos ⟨by omega,h2⟩
theorem aH6{z b:Nat}{zz:List Value}{x y:aJ}:lP call G st l d (.mk z b zz x y)=mkZ G st d z b zz x y:=Eq.trans rfl rfl
theorem Zc{x y:aJ}:lP call G st l d (.cpys x y)=Tw G st d x y:=Eq.trans rfl rfl
theorem Zd{x:aJ}:lP call G st l d (.cvsb x)=Tx G st d x:=Eq.trans rfl rfl
theorem aH7{id lo n z:Nat}{s:ByteArray}:aHy d st (.one (.bls id lo n z)) (some s)=if z=1 then Yg d st id lo n s (aI st.hp id) else none:=Eq.trans rfl rfl
theorem aH8{id lo n:Nat}{s:ByteArray}{cs:List aR}:Yg d st id lo n s (.box cs)=if lo+n<=cs.length then some ⟨aO st.sl d (cX (.int .i64 (min s.size n:Nat))),st.hp.set id (.box (cN cs lo (dS (s.data.toList.take n))))⟩ else none:=Eq.trans rfl rfl
theorem aH9{s:ByteArray}:aC9 d st (some s)=some ⟨aO st.sl d (.one (.bld st.hp.length s.size)),st.hp++[.arr 0 1 (gE s)]⟩:=Eq.trans rfl rfl
theorem Ze{L:List Nat}{x:aJ}:Jm call G L st d (.cvsb x)=aC9 d st (cS (aK G st.sl x)):=Eq.trans rfl rfl
theorem aIa{s:ByteArray}:aK0 d st (some s)=some ⟨aO st.sl d (.one (.dc (.slc (gE s)))),st.hp⟩:=Eq.trans rfl rfl
theorem aLp{d:Option Nat}{bytes:Nat}{v:Value}{st:AS}{i j:Int}(h:0<=i/\i<=j/\j.toNat * bytes<=140737488355328):mbK d 1 bytes st [v] (some i) (some j)=some ⟨aO st.sl d (.one (.bls st.hp.length 0 i.toNat 1)),st.hp++[.box (List.replicate j.toNat (cI v))]⟩:=by
 obtain⟨n,rfl⟩:=aRs h.1;obtain⟨m,rfl⟩:=aRs (Int.le_trans h.1 h.2.1);have h1:=h.2.1;have h2:=h.2.2;simp only[aQN] at h2;simp only[mbK,aQN];exact if_pos ⟨trivial,by omega,h2⟩
theorem aDO{L:List Nat}{z b:Nat}{zz:List Value}{x y:aJ}:Jm call G L st d (.mk z b zz x y)=mbK d z b st zz (bP (aK G st.sl x)) (bP (aK G st.sl y)):=Eq.trans rfl rfl
theorem aDP{z:Nat}{zz:List Value}{x:aJ}:lP call G st l d (.clr z zz x)=Tv G st d z zz x:=Eq.trans rfl rfl
theorem aIb{z id k n s:Nat}{zz:List Value}:aHx d z zz st (.one (.bls id k n s))=if s=z then M4 d st id k n z zz (aI st.hp id) else none:=Eq.trans rfl rfl
theorem aIc{id k n:Nat}{v:Value}{cs:List aR}:M4 d st id k n 1 [v] (.box cs)=if 1=1/\0 < n/\k+n<=cs.length then some ⟨aO st.sl d (.tup []),st.hp.set id (.box (cN cs k (List.replicate n (cI v))))⟩ else none:=Eq.trans rfl rfl
theorem Zf{z b:Nat}{zz:List Value}{ps:List (Nat × aJ)}:lP call G st l d (.bslc z b zz ps)=bsZ G st d z b zz ps (aC8 d l):=Eq.trans rfl rfl
theorem Ue{z:List Value}:lP call G st l d (.alloc z)=some ⟨aO st.sl d (.one (.ptr st.hp.length 0)),st.hp++[.box (z.map cI)]⟩:=Eq.trans rfl rfl
theorem aDQ{x:aJ}:lP call G st l d (.box x)=aHg st d (cellsOf (aK G st.sl x)):=Eq.trans rfl rfl
theorem Uf{n:Nat}{x v:aJ}:lP call G st l none (.store n x v)=stX G st n x v:=Eq.trans rfl rfl
theorem aDR{x:aJ}:lP call G st l d (.mov x)=some ⟨aO st.sl d (aK G st.sl x),st.hp⟩:=Eq.trans rfl rfl
theorem Zg{c x y:aJ}:lP call G st l d (.pick c x y)=gI st d (uN (aK G st.sl c) (aK G st.sl x) (aK G st.sl y)):=Eq.trans rfl rfl
theorem Zh{g:Bool}{n:Nat}{x:aJ}:lP call G st l d (.load g n x)=gI st d (lB st.hp g n (aK G st.sl x)):=Eq.trans rfl rfl
theorem aDS{p:Bool}{z:Value}{x y:aJ}:lP call G st l d (.mpx p z x y)=gI st d (H9 p z (aK G st.sl x) (aK G st.sl y)):=Eq.trans rfl rfl
theorem Zj{x:aJ}:lP call G st l d (.nilc x)=gI st d (H8 (aK G st.sl x)):=Eq.trans rfl rfl
theorem aDT{op:BinOp}{x y:aJ}:lP call G st l d (.bin op x y)=gI st d (eK op (aK G st.sl x) (aK G st.sl y)):=Eq.trans rfl rfl
theorem Zk{n:Bool}{x y:aJ}:lP call G st l d (.binb n x y)=gI st d (D6 n (aK G st.sl x) (aK G st.sl y)):=Eq.trans rfl rfl
theorem aDU{n:Bool}{ks:List EK}{x y:aJ}:lP call G st l d (.eqs n ks x y)=gI st d (So n ks (aK G st.sl x) (aK G st.sl y)):=Eq.trans rfl rfl
theorem aId{op:UnOp}{x:aJ}:lP call G st l d (.un op x)=gI st d (unV op (aK G st.sl x)):=Eq.trans rfl rfl
theorem Zl{k:IntKind}{x:aJ}:lP call G st l d (.conv k x)=gI st d (Pn k (bP (aK G st.sl x))):=Eq.trans rfl rfl
theorem Zm{x:aJ}:lP call G st l d (.cvbs x)=gI st d (mF st.hp (aK G st.sl x)):=Eq.trans rfl rfl
theorem Zn{o:Nat}{x:aJ}:lP call G st l d (.addo o x)=gI st d (yA o (aK G st.sl x)):=Eq.trans rfl rfl
theorem aDV{n z:Nat}{x i:aJ}:lP call G st l d (.ixA n z x i)=gI st d (aHh n z (aK G st.sl x) (bP (aK G st.sl i))):=Eq.trans rfl rfl
theorem aDW{z:Nat}{x i:aJ}:lP call G st l d (.ixL z x i)=gI st d (aCM st.hp z (aK G st.sl x) (bP (aK G st.sl i))):=Eq.trans rfl rfl
theorem aDX{x i:aJ}:lP call G st l d (.ixS x i)=gI st d (aCN (aK G st.sl x) (bP (aK G st.sl i))):=Eq.trans rfl rfl
theorem aDY{x:aJ}{lo hi:Option aJ}:lP call G st l d (.slS x lo hi)=gI st d (Do (aK G st.sl x) (lo.map (aK G st.sl)) (hi.map (aK G st.sl))):=Eq.trans rfl rfl
theorem aDZ{z:Nat}{x:aJ}{lo hi:Option aJ}:lP call G st l d (.slL z x lo hi)=gI st d (kJ st.hp z (aK G st.sl x) (lo.map (aK G st.sl)) (hi.map (aK G st.sl))):=Eq.trans rfl rfl
theorem Ug{z:List Value}{ps:List (Nat × Nat × aJ)}:lP call G st l d (.build z ps)=gI st d (aCO (iB (z.map cI) (ps.map fun (o,s,x)=>(o,s,aK G st.sl x)))):=Eq.trans rfl rfl
theorem aD0{x:aJ}{n:Nat}:lP call G st l d (.ext x n)=gI st d (Ma (aK G st.sl x) n):=Eq.trans rfl rfl
theorem Zo{x:aJ}:lP call G st l d (.lenS x)=gI st d (Po (cS (aK G st.sl x))):=Eq.trans rfl rfl
theorem Zp{x:aJ}:lP call G st l d (.lenL x)=gI st d (qI (aK G st.sl x)):=Eq.trans rfl rfl
theorem aD1{x y:aJ}:lP call G st l d (.min2 x y)=gI st d (Wk (aK G st.sl x) (aK G st.sl y)):=Eq.trans rfl rfl
theorem aD2{x y:aJ}:lP call G st l d (.max2 x y)=gI st d (Wl (aK G st.sl x) (aK G st.sl y)):=Eq.trans rfl rfl
theorem Zq{f:FuncId}{xs:List aJ}:lP call G st l d (.mkfn f xs)=gI st d ((xs.mapM fun c=>qV (aK G st.sl c)).map fun cs=>.one (.fn f cs)):=Eq.trans rfl rfl
theorem aLq:Tz call G st d ai false=Yi call G st d ai:=Eq.trans rfl rfl
theorem aLr:Tz call G st d ai true=wU call G st d ai:=Eq.trans rfl rfl
theorem Zr{f:FuncId}{xs:List aJ}:Yi call G st d (.call f xs)=dvK call G d f xs st (call f (vI G st xs) []):=Eq.trans rfl rfl
theorem Zs{z b:Nat}{zz:List Value}{ps:List (Nat × aJ)}:Yi call G st d (.bslc z b zz ps)=bsO G st d z b zz ps:=Eq.trans rfl rfl
theorem Uh{z:List Value}:Yi call G st d (.alloc z)=some ⟨aO st.sl d (.one (.ptr st.hp.length 0)),st.hp++[.box (z.map cI)]⟩:=Eq.trans rfl rfl
theorem Ui{n:Nat}{x v:aJ}:Yi call G st none (.store n x v)=stX G st n x v:=Eq.trans rfl rfl
theorem aD3{x:aJ}:wU call G st d (.mov x)=some ⟨aO st.sl d (aK G st.sl x),st.hp⟩:=Eq.trans rfl rfl
theorem Zt{c x y:aJ}:wU call G st d (.pick c x y)=gI st d (uN (aK G st.sl c) (aK G st.sl x) (aK G st.sl y)):=Eq.trans rfl rfl
theorem Zu{g:Bool}{n:Nat}{x:aJ}:wU call G st d (.load g n x)=gI st d (lB st.hp g n (aK G st.sl x)):=Eq.trans rfl rfl
theorem aD4{p:Bool}{z:Value}{x y:aJ}:wU call G st d (.mpx p z x y)=gI st d (H9 p z (aK G st.sl x) (aK G st.sl y)):=Eq.trans rfl rfl
theorem aD5{op:BinOp}{x y:aJ}:wU call G st d (.bin op x y)=gI st d (eK op (aK G st.sl x) (aK G st.sl y)):=Eq.trans rfl rfl
theorem Zv{n:Bool}{x y:aJ}:wU call G st d (.binb n x y)=gI st d (D6 n (aK G st.sl x) (aK G st.sl y)):=Eq.trans rfl rfl
theorem aD6{n:Bool}{ks:List EK}{x y:aJ}:wU call G st d (.eqs n ks x y)=gI st d (So n ks (aK G st.sl x) (aK G st.sl y)):=Eq.trans rfl rfl
theorem aIe{op:UnOp}{x:aJ}:wU call G st d (.un op x)=gI st d (unV op (aK G st.sl x)):=Eq.trans rfl rfl
theorem Zw{k:IntKind}{x:aJ}:wU call G st d (.conv k x)=gI st d (Pn k (bP (aK G st.sl x))):=Eq.trans rfl rfl
theorem Zx{o:Nat}{x:aJ}:wU call G st d (.addo o x)=gI st d (yA o (aK G st.sl x)):=Eq.trans rfl rfl
theorem aD7{z:Nat}{x i:aJ}:wU call G st d (.ixL z x i)=gI st d (aCM st.hp z (aK G st.sl x) (bP (aK G st.sl i))):=Eq.trans rfl rfl
theorem aD8{x i:aJ}:wU call G st d (.ixS x i)=gI st d (aCN (aK G st.sl x) (bP (aK G st.sl i))):=Eq.trans rfl rfl
theorem aD9{x:aJ}{lo hi:Option aJ}:wU call G st d (.slS x lo hi)=gI st d (Do (aK G st.sl x) (lo.map (aK G st.sl)) (hi.map (aK G st.sl))):=Eq.trans rfl rfl
theorem Uj{z:List Value}{ps:List (Nat × Nat × aJ)}:wU call G st d (.build z ps)=gI st d (aCO (iB (z.map cI) (ps.map fun (o,s,x)=>(o,s,aK G st.sl x)))):=Eq.trans rfl rfl
theorem aEa{x:aJ}{n:Nat}:wU call G st d (.ext x n)=gI st d (Ma (aK G st.sl x) n):=Eq.trans rfl rfl
theorem Zy{x:aJ}:wU call G st d (.lenS x)=gI st d (Po (cS (aK G st.sl x))):=Eq.trans rfl rfl
theorem Zz{x:aJ}:wU call G st d (.lenL x)=gI st d (qI (aK G st.sl x)):=Eq.trans rfl rfl
theorem aOV{c b:Bool}:gK b (.one (.dc (.raw (.bool c))))=some (eqb c b):=Eq.trans rfl rfl
theorem aEb{b:Bool}:gK b (.tup [])=some false:=Eq.trans rfl rfl
theorem Z0(c:Bool):eqb c true=c:=by cases c<;>rfl
theorem Ul(c:Bool):eqb c false=!c:=by cases c<;>rfl
theorem aIf{v:AV}:gI st d (some v)=some ⟨aO st.sl d v,st.hp⟩:=Eq.trans rfl rfl
end
theorem aEc{x y:AV}:uN (.one (.dc (.raw (.bool true)))) x y=some x:=Eq.trans rfl rfl
theorem aEd{x y:AV}:uN (.one (.dc (.raw (.bool false)))) x y=some y:=Eq.trans rfl rfl
theorem Um{p:Prop}[Decidable p]{x y:AV}(h:p):uN (.one (.dc (.raw (.bool (decide p))))) x y=some x:=by rw[decide_eq_true h];rfl
theorem Un{p:Prop}[Decidable p]{x y:AV}(h:¬ p):uN (.one (.dc (.raw (.bool (decide p))))) x y=some y:=by rw[decide_eq_false h];rfl
section
variable {k:IntKind} {x y:Int}
theorem aEe:eK .add (.one (.dc (.raw (.int k x)))) (.one (.dc (.raw (.int k y))))=some (.one (.dc (.raw (.int k (k.wrap (x+y)))))):=by simp[eK,kI]
theorem aEf:eK .sub (.one (.dc (.raw (.int k x)))) (.one (.dc (.raw (.int k y))))=some (.one (.dc (.raw (.int k (k.wrap (x - y)))))):=by simp[eK,kI]
theorem aEg:eK .mul (.one (.dc (.raw (.int k x)))) (.one (.dc (.raw (.int k y))))=some (.one (.dc (.raw (.int k (k.wrap (x * y)))))):=by simp[eK,kI]
theorem aEh:eK .eql (.one (.dc (.raw (.int k x)))) (.one (.dc (.raw (.int k y))))=some (.one (.dc (.raw (.bool (decide (x=y)))))):=by simp[eK,kI,Bool.beq_eq_decide_eq]
theorem aEi:eK .neq (.one (.dc (.raw (.int k x)))) (.one (.dc (.raw (.int k y))))=some (.one (.dc (.raw (.bool (decide (x≠y)))))):=by
 simp only[eK,kI,if_true,aQg,cX];congr 5;rw[aRn];simp
theorem aEj:eK .lss (.one (.dc (.raw (.int k x)))) (.one (.dc (.raw (.int k y))))=some (.one (.dc (.raw (.bool (decide (x < y)))))):=by simp[eK,kI]
theorem aEk:eK .leq (.one (.dc (.raw (.int k x)))) (.one (.dc (.raw (.int k y))))=some (.one (.dc (.raw (.bool (decide (x<=y)))))):=by simp[eK,kI]
theorem aEl:eK .gtr (.one (.dc (.raw (.int k x)))) (.one (.dc (.raw (.int k y))))=some (.one (.dc (.raw (.bool (decide (y < x)))))):=by simp[eK,kI]
theorem aEm:eK .geq (.one (.dc (.raw (.int k x)))) (.one (.dc (.raw (.int k y))))=some (.one (.dc (.raw (.bool (decide (y<=x)))))):=by simp[eK,kI]
end
theorem aEn{x y:ByteArray}:eK .eql (.one (.dc (.raw (.string x)))) (.one (.dc (.raw (.string y))))=some (.one (.dc (.raw (.bool (decide (x=y)))))):=by
 simp only[eK,An,aQg,cX];congr 5;rw[aRn];simp[ByteArray.toList_eq,ByteArray.ext_iff,Array.ext_iff]
theorem aIg{c:Bool}:unV .not (.one (.dc (.raw (.bool c))))=some (.one (.dc (.raw (.bool (!c))))):=Eq.trans rfl rfl
theorem aOW(b:Bool):(b==true)=b:=by cases b<;>rfl
theorem aOX(b:Bool):(b==false)=!b:=by cases b<;>rfl
theorem aOY(a b:Int):(a==b)=decide (a=b):=by rw[aRn];simp
theorem aEo{p q:Prop}[Decidable p][Decidable q]:(decide p&&decide q)=decide (p/\q):=by simp
theorem aIh{p q:Prop}[Decidable p][Decidable q]:(decide p||decide q)=decide (p\/q):=by simp
theorem aEp{p:Prop}[Decidable p]:(!decide p)=decide (¬ p):=by simp
theorem iV{α:Type}{f:α->List DC}{n:Nat}(h:∀ x,(f x).length=n)(l:List α):fZ n (l.map f)=true:=by
 induction l with
 | nil=>rfl
 | cons x l ih=>simp[fZ,ih,h,iI]
theorem iE{α β:Type}{f:α->β}{l:List α}:List.take l.length (l.map f)=l.map f:=aQM (by simp)
noncomputable def Z1(own:Bool)(rs:List kQ)(n:Nat)(s:AS):Bool->Option (AV × List aC)
 | true=>M7 own n s.hp (qM s rs)
 | false=>none
theorem aIi{own:Bool}{rs:List kQ}{n:Nat}:oO own rs n (some (.ret,s))=Z1 own rs n s (decide (n<=s.hp.length)):=by
 by_cases h:n<=s.hp.length<;>simp[oO,Ek,h,Z1]
theorem aIj{own:Bool}{rs:List kQ}{n:Nat}:oO own rs n (some (.normal,s))=Z1 own rs n s (decide (n<=s.hp.length)):=by
 by_cases h:n<=s.hp.length<;>simp[oO,Ek,h,Z1]
theorem aIk{own:Bool}{rs:List kQ}{n:Nat}:Z1 own rs n s true=M7 own n s.hp (qM s rs):=Eq.trans rfl rfl
def aLs(n:Nat)(hp:List aC)(v:AV):Bool->AV × List aC
 | true=>(zR v,hp.take n)
 | false=>(zR v,hp)
theorem aIl{n:Nat}{hp:List aC}{v:AV}:M7 true n hp (some v)=some (aLs n hp v (cQ (fun id=>decide (n<=id)) v&&(hp.take n).all (nD fun id=>decide (n<=id)))):=by
 simp only[M7,aHB,cond_true];cases (cQ (fun id=>decide (n<=id)) v&&(hp.take n).all (nD fun id=>decide (n<=id)))<;>rfl
theorem aIm{n:Nat}{hp:List aC}{v:AV}:aLs n hp v false=(zR v,hp):=Eq.trans rfl rfl
def aLt(n:Nat)(st:AS):AV × List aC:=(zR (aZ (fun id=>decide (n<=id)) (st.sl.getD 0 .junk)),(st.hp.take n).map (cJ fun id=>decide (n<=id)))
theorem aIn{n:Nat}{hp:List aC}{v:AV}:M7 false n hp (some v)=some (aLt n (bR (iU v) (bxW n (iU v) ⟨[v],hp⟩ (M0 v)))):=Eq.trans rfl rfl
theorem aLu{n:Nat}{ids:List Nat}:bxW n ids st true=vG n ids st:=Eq.trans rfl rfl
theorem aLv{n:Nat}{ids:List Nat}:bxW n ids st false=st:=Eq.trans rfl rfl
theorem aLw{id:Nat}{cs:List aR}:bx1 id st (.box cs) true=Tq id cs st:=Eq.trans rfl rfl
def aLx:Option TV->Option (List TV)->Option (List TV)
 | some a,some l=>some (a::l)
 | _,_=>none
def Uo(st:AS):List kQ->Option (List TV)
 | []=>some []
 | r::rs=>aLx ((fY st r).bind qL) (Uo st rs)
theorem aIo{a:TV}{l:List TV}:aLx (some a) (some l)=some (a::l):=Eq.trans rfl rfl
theorem Qs(st:AS):∀ rs:List kQ,rs.mapM (fun r=>(fY st r).bind qL)=Uo st rs
 | []=>rfl
 | r::rs=>by
  rw[aQ2,Qs st rs,Uo];cases (fY st r).bind qL<;>cases Uo st rs<;>rfl
theorem aIp{st:AS}:qM st []=some (.tup []):=Eq.trans rfl rfl
theorem aIq{st:AS}{r:kQ}:qM st [r]=fY st r:=Eq.trans rfl rfl
theorem aIr{st:AS}{r q:kQ}{rs:List kQ}:qM st (r::q::rs)=(Uo st (r::q::rs)).map .tup:=by
 rw[<- Qs];rfl
theorem aB{G:aH}{T:HT}{f:FuncId}{h:HF}{args:List AV}{hp:List aC}{r:AV × List aC}(hT:T.tab f=some h)(he:oO h.own h.rs hp.length (EC (EV G T) G h.code ⟨args++tN (h.nt - args.length),hp⟩)=some r):EV G T f args hp=some r:=aGt hT he
end
section
variable {call:aW} {G:aH} {st:AS} {d:Option Nat} {f:FuncId} {xs:List aJ} {av:AV} {os:List aC} {o:aC}
def aIs(call:aW)(G:aH)(d:Option Nat)(f:FuncId)(xs:List aJ)(st:AS):Bool->Option AS
 | true=>Tu call G d f xs st (call f (yX G st xs) [])
 | false=>jW (jZ call) d f (xs.map (aK G (bR (lD G st.sl xs) st).sl)) (bR (lD G st.sl xs) st)
def aIt(call:aW)(G:aH)(d:Option Nat)(f:FuncId)(xs:List aJ)(st:AS)(av:AV):Bool->Option AS
 | true=>some ⟨aO st.sl d av,st.hp⟩
 | false=>M3 call G d f xs (bR (lD G st.sl xs) st)
def aLy(call:aW)(G:aH)(d:Option Nat)(f:FuncId)(xs:List aJ)(st:AS)(av:AV):Bool->Option AS
 | true=>some ⟨aO st.sl d av,st.hp⟩
 | false=>dnZ call G d f xs st
def aLz(call:aW)(G:aH)(d:Option Nat)(f:FuncId)(xs:List aJ)(st:AS):Bool->Option AS
 | true=>nwK d st (call f (jY G st.sl xs) [])
 | false=>none
def aLA(call:aW)(G:aH)(d:Option Nat)(f:FuncId)(xs:List aJ)(st:AS):Bool->Option AS
 | true=>qcK d st (call f (jY G st.sl xs) [])
 | false=>none
theorem aLB:clZ call G d f xs st=aIs call G d f xs st (pY G st.sl xs):=by unfold clZ;cases pY G st.sl xs<;>rfl
theorem aIu:aIs call G d f xs st true=Tu call G d f xs st (call f (yX G st xs) []):=Eq.trans rfl rfl
theorem aIv:aIs call G d f xs st false=jW (jZ call) d f (xs.map (aK G (bR (lD G st.sl xs) st).sl)) (bR (lD G st.sl xs) st):=Eq.trans rfl rfl
theorem aLC:M3 call G d f xs st=aLz call G d f xs st ((jY G st.sl xs).all (cQ fun _=>true)):=by unfold M3;cases (jY G st.sl xs).all (cQ fun _=>true)<;>rfl
theorem aIw:aLz call G d f xs st true=nwK d st (call f (jY G st.sl xs) []):=Eq.trans rfl rfl
theorem aLD:wU call G st d (.call f xs)=aLA call G d f xs st ((jY G st.sl xs).all (cQ fun _=>true)):=by rw[wU];cases (jY G st.sl xs).all (cQ fun _=>true)<;>rfl
theorem aIx:aLA call G d f xs st true=qcK d st (call f (jY G st.sl xs) []):=Eq.trans rfl rfl
theorem aIy:aIt call G d f xs st av true=some ⟨aO st.sl d av,st.hp⟩:=Eq.trans rfl rfl
theorem aIz:aIt call G d f xs st av false=M3 call G d f xs (bR (lD G st.sl xs) st):=Eq.trans rfl rfl
theorem aIA:aLy call G d f xs st av true=some ⟨aO st.sl d av,st.hp⟩:=Eq.trans rfl rfl
theorem aLE:Tu call G d f xs st (some (av,[]))=aIt call G d f xs st av (lC av):=by rw[Tu];cases lC av<;>rfl
theorem aLF:Tu call G d f xs st (some (av,o::os))=M3 call G d f xs (bR (lD G st.sl xs) st):=Eq.trans rfl rfl
theorem aLG:dvK call G d f xs st (some (av,[]))=aLy call G d f xs st av (lC av):=by rw[dvK];cases lC av<;>rfl
theorem aLH:nwK d st (some (av,os))=some ⟨aO st.sl d (cU (cH [] st.hp.length) av),st.hp++os.map (fQ (cH [] st.hp.length))⟩:=Eq.trans rfl rfl
theorem aLI:qcK d st (some (av,[]))=bif cQ (fun _=>true) av then some ⟨aO st.sl d av,st.hp⟩ else none:=Eq.trans rfl rfl
theorem aLJ:qcK d st (some (av,o::os))=qcF d st (aZ (fun id=>decide (0<=id)) ((bR (iU av) ⟨[av],o::os⟩).sl.getD 0 .junk)):=Eq.trans rfl rfl
theorem aLK{caps:List aR}:cvK call G d xs st (.one (.fn f caps))=jW (jZ call) d f (xs.map (aK G st.sl)++caps.map AV.one) st:=Eq.trans rfl rfl
theorem aLL{size bytes id n:Nat}{x:AV}:apZ d size bytes st (.one (.bld id n)) x=apB d size bytes st id n (aI st.hp id) (rC st.hp x):=Eq.trans rfl rfl
theorem aLM{size bytes id n c sz:Nat}{es news:List (List DC)}:apB d size bytes st id n (.arr c sz es) (some news)=if sz=size/\n<=es.length/\fZ size news=true/\(n+news.length) * bytes<=140737488355328 then
   some ⟨aO (klS id st.sl) d (.one (.bld id (n+news.length))),(klH id st.hp).set id (.arr 0 size (es.take n++news))⟩ else none:=rfl
theorem aLN{size bytes:Nat}{news:List (List DC)}:apN d size bytes st (some news)=if fZ size news=true/\news.length * bytes<=140737488355328 then
   some ⟨aO st.sl d (.one (.bld st.hp.length news.length)),klH st.hp.length st.hp++[.arr 0 size news]⟩ else none:=rfl
theorem aLO{size len:Nat}{z:List Value}{ps:List (Nat × aJ)}:bsZ G st d size len z ps true=bsX G (bR (Bh G st.sl ps) st) d size len z ps:=Eq.trans rfl rfl
theorem aLP{size len:Nat}{z:List Value}{ps:List (Nat × aJ)}:bsZ G st d size len z ps false=bsO G (bR (Bh G st.sl ps) st) d size len z ps:=Eq.trans rfl rfl
theorem aLQ{id c s:Nat}{es:List (List DC)}:bvZ id st (.arr c s es)=bv1 id s es st es.isEmpty:=Eq.trans rfl rfl
theorem aLR{id s:Nat}{es:List (List DC)}:bv1 id s es st true=bR [id] st:=Eq.trans rfl rfl
theorem aLS{id s:Nat}{es:List (List DC)}:bv1 id s es st false=bvB id s es st:=Eq.trans rfl rfl
theorem aLT{i sz:Nat}:ghN i sz st (.one (.dc (.raw (.slice none 0 0))))=⟨st.sl.set i (.one (.bld st.hp.length 0)),st.hp++[.arr 0 sz []]⟩:=Eq.trans rfl rfl
theorem aLU{j sz id off:Nat}:ghB j sz st (.one (.ptr id off))=aC4 id (off+j) sz st (aI st.hp id):=Eq.trans rfl rfl
theorem aIB{id j sz:Nat}{cs:List aR}:aC4 id j sz st (.box cs)=aC3 id j sz cs st cs[j]?:=Eq.trans rfl rfl
theorem aIC{id j sz:Nat}{cs:List aR}:aC3 id j sz cs st (some (.dc (.raw (.slice none 0 0))))=⟨st.sl,st.hp.set id (.box (cs.set j (.bld st.hp.length 0)))++[.arr 0 sz []]⟩:=Eq.trans rfl rfl
theorem aID{hp:List aC}{es:List (List DC)}:rC hp (.one (.dc (.slc es)))=some es:=Eq.trans rfl rfl
end
section
variable {k:IntKind} {x y:Int}
theorem aEq:eK .quo (.one (.dc (.raw (.int k x)))) (.one (.dc (.raw (.int k y))))=if y=0 then none else some (.one (.dc (.raw (.int k (k.wrap (x.tdiv y)))))):=by
 simp only[eK,kI,if_true];split<;>rfl
theorem aEr:eK .rem (.one (.dc (.raw (.int k x)))) (.one (.dc (.raw (.int k y))))=if y=0 then none else some (.one (.dc (.raw (.int k (x.tmod y))))):=by
 simp only[eK,kI,if_true];split<;>rfl
def Z2(k:IntKind)(x y:Int):Int:=k.wrap (BitVec.ofInt k.bits x &&& BitVec.ofInt k.bits y).toNat
def Wd(k:IntKind)(x y:Int):Int:=k.wrap (BitVec.ofInt k.bits x ||| BitVec.ofInt k.bits y).toNat
theorem aEs:eK .and (.one (.dc (.raw (.int k x)))) (.one (.dc (.raw (.int k y))))=some (.one (.dc (.raw (.int k (Z2 k x y))))):=by simp[eK,kI,Z2]
theorem aIE:eK .or (.one (.dc (.raw (.int k x)))) (.one (.dc (.raw (.int k y))))=some (.one (.dc (.raw (.int k (Wd k x y))))):=by simp[eK,kI,Wd]
theorem aEt{j:IntKind}(h:0<=y):eK .shl (.one (.dc (.raw (.int j x)))) (.one (.dc (.raw (.int k y))))=some (.one (.dc (.raw (.int j (j.wrap (x * 2 ^ (min y.toNat j.bits))))))):=by
 simp only[eK];rw[if_neg (by omega)]
theorem aEu{j:IntKind}(h:0<=y):eK .shr (.one (.dc (.raw (.int j x)))) (.one (.dc (.raw (.int k y))))=some (.one (.dc (.raw (.int j (x.fdiv (2 ^ (min y.toNat j.bits))))))):=by
 simp only[eK];rw[if_neg (by omega)]
theorem aIF:unV .neg (.one (.dc (.raw (.int k x))))=some (.one (.dc (.raw (.int k (k.wrap (0 - x)))))):=Eq.trans rfl rfl
theorem vN{a b:ByteArray}(h:a.size+b.size<=9223372036854775807):eK .add (.one (.dc (.raw (.string a)))) (.one (.dc (.raw (.string b))))=some (.one (.dc (.raw (.string (a++b))))):=by
 simp only[eK,An];rw[if_pos h];rfl
theorem zB{x y:ByteArray}:(x.toList==y.toList)=decide (x=y):=by
 rw[aRn];simp[ByteArray.toList_eq,ByteArray.ext_iff,Array.ext_iff]
theorem Z3{x y:ByteArray}:eK .neq (.one (.dc (.raw (.string x)))) (.one (.dc (.raw (.string y))))=some (.one (.dc (.raw (.bool (decide (x≠y)))))):=by
 simp only[eK,An,aQg,cX,zB];congr 5;simp
end
section
variable {call:aW} {G:aH} {st s s':AS} {l:List aY}
variable {r:Nat} {prs:List (Nat × Nat)} {acc:List FP} {d:Option Nat} {ai:AI} {f:FP} {R:List Nat}
def fvK(call:aW)(G:aH)(prs:List (Nat × Nat))(acc:List FP)(r:Nat)(l:List aY):Option (AS × FP)->Option AS
 | some (s,f)=>M6 call G prs (acc++[f]) r l (some s)
 | none=>none
theorem Uq{ops:List aY}:EC call G (.drawnF prs ops) st=Yl (M6 call G prs [] st.hp.length ops (some ⟨st.sl,st.hp++yM (Wb ops)⟩)):=Eq.trans rfl rfl
theorem aEv:M6 call G prs acc r [] (some st)=bif Dv prs acc then some st else none:=Eq.trans rfl rfl
theorem aLV{g:Option (Nat × Bool)}{l:List aY}:M6 call G prs acc r (⟨d,ai,g⟩::l) (some st)=fvK call G prs acc (bif T1 ai then r+1 else r) l (Yk call G st d r ai g):=by rw[M6];cases Yk call G st d r ai g<;>rfl
theorem aLW{l:List aY}:fvK call G prs acc r l (some (st,f))=M6 call G prs (acc++[f]) r l (some st):=Eq.trans rfl rfl
theorem aLX:Yk call G st d r ai none=Ge call G st d r ai:=Eq.trans rfl rfl
theorem Z4{f:FuncId}{xs:List aJ}:Ge call G st d r (.call f xs)=fvC call G st d f xs ((xs.map (aK G st.sl)).flatMap iU):=Eq.trans rfl rfl
theorem Z5{x y:aJ}:Ge call G st d r (.cpys x y)=fvY d st (aK G st.sl x) (cS (aK G st.sl y)):=Eq.trans rfl rfl
theorem aLY{id lo n:Nat}{bs:ByteArray}:fvY d st (.one (.bls id lo n 1)) (some bs)=aDa d id lo n bs st st.hp[id]?:=by simp only[fvY,if_true]
theorem aIG{id lo n:Nat}{bs:ByteArray}{cs:List aR}(h:lo+n<=cs.length):aDa d id lo n bs st (some (.box cs))=some (⟨aO st.sl d (cX (.int .i64 (min bs.size n:Nat))),st.hp.set id (.box (cN cs lo (dS (bs.data.toList.take n))))⟩,[id],[id]):=if_pos h
theorem aLZ{f:FuncId}{xs:List aJ}:fvC call G st d f xs []=L7 [] (wU call G st d (.call f xs)):=Eq.trans rfl rfl
theorem aL0{f:FuncId}{xs:List aJ}{id:Nat}:fvC call G st d f xs [id]=fvB call d f st (xs.map (aK G st.sl)) id st.hp[id]?:=Eq.trans rfl rfl
theorem aL1:L7 R (some s)=some (s,[],R):=Eq.trans rfl rfl
theorem aL2{c:aR}:H2 (.one c)=Xk c:=Eq.trans rfl rfl
theorem aL3{sl:List AV}:T3 G sl []=[]:=Eq.trans rfl rfl
theorem aL4{sl:List AV}{x:aJ}{xs:List aJ}:T3 G sl (x::xs)=H2 (aK G sl x)++T3 G sl xs:=Eq.trans rfl rfl
theorem aL5:Wb []=0:=Eq.trans rfl rfl
theorem aL6{g:Option (Nat × Bool)}{l:List aY}:Wb (⟨d,ai,g⟩::l)=bif T1 ai then Wb l+1 else Wb l:=Eq.trans rfl rfl
theorem aEw:yM 0=[]:=Eq.trans rfl rfl
theorem aIH{fs:List FP}:Dv [] fs=true:=Eq.trans rfl rfl
theorem aII{p q:Nat}{fs:List FP}:Dv ((p,q)::prs) fs=(dsM (atF fs p) (atF fs q)&&Dv prs fs):=Eq.trans rfl rfl
theorem aL7{a b c e:List Nat}:dsM (a,b) (c,e)=(Du a e&&(Du a c&&Du c b)):=Eq.trans rfl rfl
theorem aIJ{b:List Nat}:Du [] b=true:=Eq.trans rfl rfl
theorem aL8{fs:List FP}:atF (f::fs) 0=f:=Eq.trans rfl rfl
theorem aL9{fs:List FP}{n:Nat}:atF (f::fs) (n+1)=atF fs n:=Eq.trans rfl rfl
theorem aEx{x:aJ}:Ge call G st d r (.mov x)=L7 (T3 G st.sl [x]) (lP call G st [] d (.mov x)):=Eq.trans rfl rfl
theorem Z6{g:Bool}{n:Nat}{x:aJ}:Ge call G st d r (.load g n x)=L7 (T3 G st.sl [x]) (lP call G st [] d (.load g n x)):=Eq.trans rfl rfl
theorem aEy{op:BinOp}{x y:aJ}:Ge call G st d r (.bin op x y)=L7 (T3 G st.sl [x,y]) (lP call G st [] d (.bin op x y)):=Eq.trans rfl rfl
theorem Z7{o:Nat}{x:aJ}:Ge call G st d r (.addo o x)=L7 (T3 G st.sl [x]) (lP call G st [] d (.addo o x)):=Eq.trans rfl rfl
theorem aEz{z:Nat}{x:aJ}{lo hi:Option aJ}:Ge call G st d r (.slL z x lo hi)=L7 (T3 G st.sl (x::(lo.toList++hi.toList))) (lP call G st [] d (.slL z x lo hi)):=Eq.trans rfl rfl
end
attribute [go_sem] Uq aEv aLV aLW aLX Z5 aLY aIG Z4 aLZ aL0 aL1 aL2 aL3 aL4 aL5 aL6 aEw aIH aII aL7 aIJ aL8 aL9 Xk T1 aEx Z6 aEy Z7 aEz
attribute [go_sem] aDA aHX aDB Ub Y5 Nd aDD Y6 aDE aK4 Y7 aGv aK5 aK6 aK7 aK8 aDF aDG aHY aHZ aH0 aK9 aLa aLb aLc aDI aLd aLg aLh aLi aLj aDJ aDK aLk aLl aDL aDM aLm aLn Za aH5
attribute [go_sem] aLQ aLR aLS Jk bvB bvC Jj bvV bvT bvS bvO bvH
attribute [go_sem] aLu aLv aLw vG Tq bxV bxT Yc bxD bxO M0 aC1 Pw aKQ Yb
attribute [go_sem] iT
attribute [go_sem] aH4 vI aDS aD4 Zc Zd Tw aH7 aH8 aIc aH9 Ze Tx aIa aLp aDO aDC Y9 aH2 aLe aLf aH3 kR Gd Jd Tv aIb aDP mkZ aLo aH6 Zb Ud aDN Zf Ue aDQ Uf aDR Zg Zh Zj aDT Zk aDU aId Zl Zm Zn aDV aDW aDX aDY aDZ Ug aD0 Zo Zp aD1 aD2 Zq
attribute [go_sem] aLq aLr Zr Zs Uh Ui aD3 Zt Zu aD5 Zv aD6 aIe Zw Zx aD7 aD8 aD9 Uj aEa Zy Zz aOV aEb Z0 Ul aIf aEc aEd Um Un aEe aEf aEg aEh aEi aEj aEk aEl aEm aEn aIg aEo aIh aEp
attribute [go_sem] aOY and_false false_and or_false false_or or_true true_or aRa aQT Bool.or_true Bool.or_false not_true_eq_false not_false_eq_true List.flatMap_cons List.flatMap_nil aOW aOX tX fZ iE aIi aIj aIk aOU aH1 Uc Nf jk aDH Qr aIl aIm aLt aIn
attribute [go_sem] aHt Tt aLB aIu aIv aLC aIw aLD aIx aIy aIz aIA aLE aLF aLG aLH aLI aLJ qcF List.getD_cons_zero aLK aLL aLM aLN aLO aLP aLT aLU aIB aIC aID aEq aEr aEs aIE aEt aEu aIF vN Z3 ghE klC Jl klV klS klO klH M2 Yf pY yX jY aHs Yd Ye lD jZ cvZ isT aHu aGs aHv aC8 Bh bsO ctC zA ctV ctO Wc ctS jL bR lA jU gW iU Xs idsL aKI cQ keepL yK nD aR.keep aZ cF qU cJ cU jC Au renL fQ cH tU tN aIo Uo aIp aIq aIr qL fY
end
section
def jF(x:Nat):List Nat->Bool
 | []=>false
 | j::J=>nq x j||jF x J
theorem zV(x:Nat):∀ J:List Nat,jF x J=J.contains x
 | []=>rfl
 | j::J=>by rw[jF,List.contains_cons,zV x J,iI]
def rcB(hp:List aC)(n id:Nat)(todo J:List Nat):Bool->List Nat
 | true=>rK hp n todo J
 | false=>rK hp n (aCI (aI hp id)++todo) (J++[id])
theorem Ur{hp:List aC}{n:Nat}{J:List Nat}:rK hp n [] J=J:=by cases n<;>rfl
theorem aEA{hp:List aC}{n id:Nat}{todo J:List Nat}:rK hp (n+1) (id::todo) J=rcB hp n id todo J (jF id J):=by
 rw[rK,zV];cases J.contains id<;>rfl
theorem aMa{hp:List aC}{n id:Nat}{todo J:List Nat}:rcB hp n id todo J false=rK hp n (aCI (aI hp id)++todo) (J++[id]):=Eq.trans rfl rfl
def J1:List Nat->Bool
 | []=>true
 | j::J=>!jF j J&&J1 J
theorem Qt:∀ J:List Nat,J1 J=mI (fun i j=>i != j) J
 | []=>rfl
 | j::J=>by
  rw[J1,mI,Qt J,zV];congr 1
  induction J with
  | nil=>rfl
  | cons i J ih=>simp only[List.contains_cons,List.all_cons,Bool.not_or,ih];rfl
def kpC(J:List Nat):aR->Bool
 | .ptr id _=>jF id J
 | .bld id _=>jF id J
 | .ept id _ _ _=>jF id J
 | .bls id _ _ _=>jF id J
 | .fn f caps=>(aR.fn f caps).keep (jV J)
 | .dc _=>true
 | .ref _=>true
 | .mpc _=>true
 | .junk=>true
def vO(J:List Nat):List aR->Bool
 | []=>true
 | c::cs=>kpC J c&&vO J cs
def kpV(J:List Nat):AV->Bool
 | .one c=>kpC J c
 | .agg cs=>vO J cs
 | .tup l=>l.all (yK (jV J))
 | .junk=>true
def Gl(J:List Nat):List AV->Bool
 | []=>true
 | v::vs=>kpV J v&&Gl J vs
def kpO(J:List Nat):aC->Bool
 | .box cs=>vO J cs
 | .arr _ _ _=>true
 | .dead=>true
def kpH(J:List Nat)(hp:List aC):List Nat->Bool
 | []=>true
 | j::l=>decide (j < hp.length)&&kpO J (aI hp j)&&kpH J hp l
theorem Z8(J:List Nat)(c:aR):kpC J c=c.keep (jV J):=by
 cases c<;>simp[kpC,aR.keep,jV,zV]
theorem Gm(J:List Nat):∀ cs,vO J cs=keepL (jV J) cs
 | []=>rfl
 | c::cs=>by rw[vO,keepL,Z8,Gm J cs]
theorem aIK(J:List Nat)(v:AV):kpV J v=cQ (jV J) v:=by
 cases v<;>simp[kpV,cQ,Z8,Gm]
theorem Gn(J:List Nat):∀ vs,Gl J vs=vs.all (cQ (jV J))
 | []=>rfl
 | v::vs=>by rw[Gl,List.all_cons,aIK,Gn J vs]
theorem aIL(J:List Nat)(o:aC):kpO J o=nD (jV J) o:=by
 cases o<;>simp[kpO,nD,Gm]
theorem Z9(J:List Nat)(hp:List aC):∀ l,kpH J hp l=l.all fun j=>decide (j < hp.length)&&nD (jV J) (aI hp j)
 | []=>rfl
 | j::l=>by rw[kpH,List.all_cons,aIL,Z9 J hp l]
def arB(j:Nat)(l:List Nat):aC->List Nat
 | .box _=>l
 | _=>j::l
def arJ(hp:List aC):List Nat->List Nat
 | []=>[]
 | j::J=>arB j (arJ hp J) (aI hp j)
def kaC(A:List Nat):aR->aR
 | .dc d=>.dc d
 | .ref cs=>.ref cs
 | .mpc es=>.mpc es
 | .junk=>.junk
 | .ptr j o=>bif jF j A then .junk else .ptr j o
 | .bld j n=>bif jF j A then .junk else .bld j n
 | .ept j i s o=>bif jF j A then .junk else .ept j i s o
 | .bls j i s o=>bif jF j A then .junk else .bls j i s o
 | .fn f caps=>cF (fun id=>jF id A) (.fn f caps)
def Us(A:List Nat):List aR->List aR
 | []=>[]
 | c::cs=>kaC A c::Us A cs
def kaV(A:List Nat):AV->AV
 | .one c=>.one (kaC A c)
 | .agg cs=>.agg (Us A cs)
 | .tup l=>.tup (l.map (qU fun id=>jF id A))
 | .junk=>.junk
def kaS(A:List Nat):List AV->List AV
 | []=>[]
 | v::vs=>kaV A v::kaS A vs
def kaO(A:List Nat):aC->aC
 | .box cs=>.box (Us A cs)
 | .arr c s es=>.arr c s es
 | .dead=>.dead
def kaH(A:List Nat):List aC->List aC
 | []=>[]
 | o::os=>kaO A o::kaH A os
theorem aAa(A:List Nat)(c:aR):kaC A c=cF (fun id=>jF id A) c:=by
 cases c<;>simp only[kaC,cF,aR.keep,if_true]
 case ptr j o=>
  by_cases h:jF j A=true
  ·simp[h]
  ·simp[h,(Bool.eq_false_iff.2 h:jF j A=false)]
 case bld j n=>
  by_cases h:jF j A=true
  ·simp[h]
  ·simp[h,(Bool.eq_false_iff.2 h:jF j A=false)]
 case ept j i s o=>
  by_cases h:jF j A=true
  ·simp[h]
  ·simp[h,(Bool.eq_false_iff.2 h:jF j A=false)]
 case bls j i s o=>
  by_cases h:jF j A=true
  ·simp[h]
  ·simp[h,(Bool.eq_false_iff.2 h:jF j A=false)]
theorem Gp(A:List Nat):∀ cs,Us A cs=cs.map (cF fun id=>jF id A)
 | []=>rfl
 | c::cs=>by simp[Us,aAa,Gp A cs]
theorem aIN(A:List Nat)(v:AV):kaV A v=aZ (fun id=>jF id A) v:=by
 cases v<;>simp only[kaV,aZ,aAa,Gp]
theorem aAb(A:List Nat):∀ l,kaS A l=l.map (aZ fun id=>jF id A)
 | []=>rfl
 | c::cs=>by simp[kaS,aIN,aAb A cs]
theorem aAc(A:List Nat):∀ l,kaH A l=l.map (cJ fun id=>jF id A)
 | []=>rfl
 | o::os=>by cases o<;>simp[kaH,kaO,cJ,Gp,aAc A os]
theorem aAd(hp:List aC):∀ J:List Nat,(fun id=>jF id (arJ hp J))=fun id=>J.contains id&&!gW (aI hp id)
 | []=>by funext id;rfl
 | j::J=>by
  funext id;have ih:jF id (arJ hp J)=(J.contains id&&!gW (aI hp id)):=congrFun (aAd hp J) id;rw[List.contains_cons,arJ];by_cases h:id=j
  ·subst h;cases ho:aI hp id with
   | box cs=>rw[arB,ih,ho];simp[gW]
   | _=>simp[arB,jF,iI,gW]
  ·have hb:(id==j)=false:=by simpa using h
   cases ho:aI hp j with
   | box cs=>rw[arB,ih,hb,aQT]
   | _=>simp only[arB,jF,iI,hb,aQT];exact ih
def afB(J:List Nat)(st:AS)(d:Option Nat)(av:AV)(os:List aC):List Nat->AS
 | []=>⟨aO st.sl d (cU (cH J st.hp.length) av),jU J (os.map (fQ (cH J st.hp.length))) st.hp++(os.drop J.length).map (fQ (cH J st.hp.length))⟩
 | a::A=>⟨aO (kaS (a::A) st.sl) d (cU (cH J st.hp.length) av),jU J (os.map (fQ (cH J st.hp.length))) (kaH (a::A) st.hp)++(os.drop J.length).map (fQ (cH J st.hp.length))⟩
theorem aAe{J:List Nat}{st:AS}{d:Option Nat}{av:AV}{os:List aC}:gX J st d av os=afB J st d av os (arJ st.hp J):=by
 unfold gX;rw[<- aAd];cases h:arJ st.hp J with
 | nil=>
  have hn:∀ id,jF id []=false:=fun _=>rfl
  rw[oW hn,oX hn];rfl
 | cons a A=>rw[afB,aAb,aAc]
theorem aMe{J:List Nat}{st:AS}{d:Option Nat}{av:AV}{os:List aC}:afB J st d av os []=⟨aO st.sl d (cU (cH J st.hp.length) av),jU J (os.map (fQ (cH J st.hp.length))) st.hp++(os.drop J.length).map (fQ (cH J st.hp.length))⟩:=Eq.trans rfl rfl
def evJ(call:aW)(d:Option Nat)(f:FuncId)(avs:List AV)(st:AS)(J:List Nat):Option AS:=if okJ J st.hp avs then (call f (avs.map (cU (lA J))) (J.map fun j=>fQ (lA J) (aI st.hp j))).map fun r=>gX J st d r.1 r.2 else none
def evK(d:Option Nat)(st:AS)(J:List Nat):Option (AV × List aC)->Option AS
 | some (av,os)=>some (gX J st d av os)
 | none=>none
def evB(call:aW)(d:Option Nat)(f:FuncId)(avs:List AV)(st:AS)(J:List Nat):Bool->Option AS
 | true=>evK d st J (call f (avs.map (cU (lA J))) (J.map fun j=>fQ (lA J) (aI st.hp j)))
 | false=>none
theorem aAf{call:aW}{d:Option Nat}{f:FuncId}{avs:List AV}{st:AS}:jW call d f avs st=evJ call d f avs st (rK st.hp 2000 (avs.flatMap iU) []):=Eq.trans rfl rfl
theorem aAg{call:aW}{d:Option Nat}{f:FuncId}{avs:List AV}{st:AS}(J:List Nat):evJ call d f avs st J=evB call d f avs st J (J1 J&&kpH J st.hp J&&Gl J avs):=by
 unfold evJ okJ;rw[Qt,Z9,Gn];cases (mI (fun i j=>i != j) J&&(J.all fun j=>decide (j < st.hp.length)&&nD (jV J) (aI st.hp j))&&avs.all (cQ (jV J))) with
 | false=>rfl
 | true=>
  simp only[if_true,evB];cases call f (avs.map (cU (lA J))) (J.map fun j=>fQ (lA J) (aI st.hp j))<;>rfl
theorem aMf{call:aW}{d:Option Nat}{f:FuncId}{avs:List AV}{st:AS}:evJ call d f avs st []=evB call d f avs st [] (J1 []&&kpH [] st.hp []&&Gl [] avs):=aAg _
theorem aMg{call:aW}{d:Option Nat}{f:FuncId}{avs:List AV}{st:AS}{a:Nat}:evJ call d f avs st [a]=evB call d f avs st [a] (J1 [a]&&kpH [a] st.hp [a]&&Gl [a] avs):=aAg _
theorem aMh{call:aW}{d:Option Nat}{f:FuncId}{avs:List AV}{st:AS}{a b:Nat}:evJ call d f avs st [a,b]=evB call d f avs st [a,b] (J1 [a,b]&&kpH [a,b] st.hp [a,b]&&Gl [a,b] avs):=aAg _
theorem aMi{call:aW}{d:Option Nat}{f:FuncId}{avs:List AV}{st:AS}{J:List Nat}:evB call d f avs st J true=evK d st J (call f (avs.map (cU (lA J))) (J.map fun j=>fQ (lA J) (aI st.hp j))):=Eq.trans rfl rfl
theorem aMj{d:Option Nat}{st:AS}{J:List Nat}{av:AV}{os:List aC}:evK d st J (some (av,os))=some (gX J st d av os):=Eq.trans rfl rfl
theorem J2:∀ ds:List DC,idsL (jB ds)=[]
 | []=>rfl
 | d::ds=>by
  have:=J2 ds;simp only[jB,aQo,idsL,Xs,aQv] at this ⊢;exact this
theorem J3(J:List Nat):∀ ds:List DC,vO J (jB ds)=true
 | []=>rfl
 | d::ds=>by
  have:=J3 J ds;simp only[jB,aQo,vO,kpC,aQW] at this ⊢;exact this
theorem aEB(ρ:Nat->Nat)(ds:List DC):(jB ds).map (jC ρ)=jB ds:=by
 simp only[jB,aQC];exact aQz fun d _=>rfl
theorem J4(id:Nat):∀ ds:List DC,Jl id (jB ds)=jB ds
 | []=>rfl
 | d::ds=>by
  have:=J4 id ds;simp only[jB,aQo,Jl,klC] at this ⊢;rw[this]
theorem J5(m:Nat):∀ ds:List DC,zA m (jB ds)=jB ds
 | []=>rfl
 | d::ds=>by
  have:=J5 m ds;simp only[jB,aQo,zA,ctC] at this ⊢;rw[this]
theorem zW:∀ ds:List DC,dcs (jB ds)=some ds
 | []=>rfl
 | d::ds=>by
  have:=zW ds;simp only[jB,aQo,dcs] at this ⊢;rw[this];rfl
theorem Gq(a:Nat):nq a a=true:=by rw[iI];simp
attribute [go_sem] J2 J3 aEB J4 J5 zW
attribute [go_sem] jF Ur aEA aMa J1 kpC vO kpV Gl kpO kpH arB arJ kaC Us kaV kaS kaO kaH aAe aMe aAf aMf aMg aMh aMi aMj aCI Nat.reduceLT
section
variable {call:aW} {G:aH} {st:AS} {d:Option Nat}
def aMk(call:aW)(d:Option Nat)(f:FuncId)(st:AS)(avs:List AV)(id:Nat)(cs:List aR):Bool->Option (AS × FP)
 | true=>Yj d id st (jZ call f (avs.map (cU (lA [id]))) [.box cs])
 | false=>none
theorem aMl{f:FuncId}{avs:List AV}{id:Nat}{cs:List aR}:fvB call d f st avs id (some (.box cs))=aMk call d f st avs id cs (keepL (fun _=>true) cs&&Gl [id] avs):=by
 rw[Gn];simp only[fvB];cases (keepL (fun _=>true) cs&&avs.all (cQ (jV [id])))<;>rfl
theorem aIO{f:FuncId}{avs:List AV}{id:Nat}{cs:List aR}:aMk call d f st avs id cs true=Yj d id st (jZ call f (avs.map (cU (lA [id]))) [.box cs]):=Eq.trans rfl rfl
end
attribute [go_sem] aMl aIO
attribute [go_sem] Nat.reduceAdd Nat.reduceSub Nat.reduceMul Nat.reduceLeDiff Nat.reduceEqDiff
end
section
def aAh(size bytes:Nat)(z:List Value):HC:=
 (.seq (.region [Oo 2 (.mov (.k (.slice none 0 0)))])
 (.seq (.seq (.region [Oo 3 (.mov (.t 0)),Oo 4 (.isnil false false (.t 3))])
 (.cond (.t 4) (.seq (.region [Oo 2 (.mov (.k (.slice none 0 0)))])
 .ret)
 .skip))
 (.seq (.region [Oo 5 (.bslc size 0 z []),Oo 6 (.mov (.t 0)),Oo 7 (.app size bytes z (.t 5) (.t 6)),Oo 2 (.mov (.t 7))])
 .ret)))
section
variable {P:Program} {G:aH} {call:aW}
theorem Ut:cE P G (fun _ _ _=>none):=fun f args hp av o' h=>by cases h
theorem Ng{size bytes:Nat}{z:List Value}{es:List (List DC)}{v4:AV}(h4:v4=cX (.bool false))(hz:0 < z.length)(hl:fZ size es=true)(hb:es.length * bytes<=140737488355328):
  EC call G (.seq (.region [Oo 5 (.bslc size 0 z []),Oo 6 (.mov (.t 0)),Oo 7 (.app size bytes z (.t 5) (.t 6)),Oo 2 (.mov (.t 7))]) .ret)
   ⟨[.one (.dc (.slc es)),.junk,cX (.slice none 0 0),.one (.dc (.slc es)),v4,.junk,.junk,.junk],[]⟩=
  some (.ret,⟨[.one (.dc (.slc es)),.junk,.one (.bld 0 es.length),.one (.dc (.slc es)),v4,.one .junk,.one (.dc (.slc es)),.one (.bld 0 es.length)],[.arr 0 size es]⟩):=by
 subst h4;simp[go_sem,hl,hb]
theorem aAi{f:FuncId}{fn:Func}{size bytes:Nat}{z:List Value}{es:List (List DC)}(hf:P.funcs[f]?=some fn)(hn:fn.ntmps=8)
  (hc:fn.body.bind (bF P)=some (aAh size bytes z).er) (hr:fn.results.toList.mapM (gD P)=some [.tmp 2])
  (hz:0 < z.length) (hl:fZ size es=true) (hb:es.length * bytes<=140737488355328):
  AC P G f [.one (.dc (.slc es))] [] fun a o=>a=.one (.bld 0 es.length)/\o.map aN=[.arr 0 size es]:=by
 have hA:AC P G f [.one (.dc (.slc es))] [] fun a o=>(a=.one (.bld 0 es.length)/\o.map aN=[.arr 0 size es])\/(es=[]/\a=cX (.slice none 0 0)/\o=[]):=by
  refine AC.of_codeJ hf hn hc hr ?_;have rest:∀ b:Bool,(b=true->es=[])->AW P G 0 (.cond (.t 4) (.seq (.region [Oo 2 (.mov (.k (.slice none 0 0)))]) .ret) .skip)
    (A1 P G 0 (.seq (.region [Oo 5 (.bslc size 0 z []),Oo 6 (.mov (.t 0)),Oo 7 (.app size bytes z (.t 5) (.t 6)),Oo 2 (.mov (.t 7))]) .ret) (Fin 0 [.tmp 2] fun a o=>(a=.one (.bld 0 es.length)/\o.map aN=[.arr 0 size es])\/(es=[]/\a=cX (.slice none 0 0)/\o=[])))
    ⟨[.one (.dc (.slc es)),.junk,cX (.slice none 0 0),.one (.dc (.slc es)),cX (.bool b),.junk,.junk,.junk],[]⟩:=by
   intro b hb0;refine AW.cond (b:=b) rfl (fun h=>?_) (fun h=>?_)
   ·refine AW.seq (AW.region (WR.exX trivial rfl rfl (WR.nil ?_)));exact AW.ret (A1.r (by unfold Fin;exact⟨.inr rfl,aQD _,_,rfl,.inr ⟨hb0 h,rfl,rfl⟩⟩))
   ·subst h;refine AW.skip (A1.n ?_);refine (aGu (Ut (P:=P) (G:=G)) (.seq (.region [Oo 5 (.bslc size 0 z []),Oo 6 (.mov (.t 0)),Oo 7 (.app size bytes z (.t 5) (.t 6)),Oo 2 (.mov (.t 7))]) .ret) _ .ret _ (Ng rfl hz hl hb) 0).mono ?_;rintro e s ⟨rfl,hs⟩;unfold Fin;refine⟨.inr rfl,aQD _,.one (.bld 0 es.length), ?_,.inl ⟨rfl,congrArg AS.hp hs⟩⟩;rw[<- xA,hs];rfl
  refine AW.seq (AW.region (WR.exX trivial rfl rfl (WR.nil ?_)));refine AW.seqv (AW.seq (AW.region (WR.exX trivial rfl rfl ?_)));cases es with
  | nil=>exact WR.isnil0 trivial rfl rfl (fun b=>WR.nil (rest b (fun _=>rfl)))
  | cons e es=>exact WR.exX trivial rfl rfl (WR.nil (rest false (fun h=>by cases h)))
 refine hA.gh (fun a o h hl0=>?_)
 rcases h with⟨rfl,h⟩ | ⟨rfl,rfl,rfl⟩
 ·exact⟨_,_,Gh.refl,hl0,rfl,h⟩
 ·exact⟨_,_,Gh.nil (d:=0) size rfl,aQD _,rfl,rfl⟩
def aAj(size bytes:Nat):List AV->List aC->Option (AV × List aC)
 | [.one (.dc (.slc es))],[]=>if fZ size es=true/\es.length * bytes<=140737488355328 then some (.one (.bld 0 es.length),[.arr 0 size es]) else none
 | _,_=>none
def Bq:List (FuncId × Nat × Nat)->aW
 | [],_,_,_=>none
 | (g,size,bytes)::L,f,args,hp=>if f=g then aAj size bytes args hp else Bq L f args hp
theorem xF:∀ (L:List (FuncId × Nat × Nat)),(∀ e∈L,Dq P e.1=true/\∃ fn z,P.funcs[e.1]?=some fn/\fn.ntmps=8/\fn.body.bind (bF P)=some (aAh e.2.1 e.2.2 z).er/\fn.results.toList.mapM (gD P)=some [.tmp 2]/\0 < z.length)->cE P G (Bq L)
 | [],_=>fun f args hp av o' h=>by cases h
 | (g,size,bytes)::L,hL=>fun f args hp av o' h hp0 hh=>by
  unfold Bq at h;split at h
  ·rename_i hf;subst hf;obtain⟨h1,fn,z,h2,h3,h4,h5,h6⟩:=hL _ aQt;refine⟨h1, ?_⟩;unfold aAj at h;split at h
   ·rename_i es;split at h
    ·rename_i hc;simp only[Option.some.injEq,Prod.mk.injEq] at h;obtain⟨rfl,rfl⟩:=h;have:hp0=[]:=by simpa using hh
     subst this;exact aAi h2 h3 h4 h5 h6 hc.1 hc.2
    ·cases h
   ·cases h
  ·exact xF L (fun e he=>hL e (aQE _ he)) f args hp av o' h hp0 hh
end
end
section
open Go.RowKit
theorem vP(k:Int):∀ (l:List MapEntry) (i:Nat),(∀ x∈l,∃ n,x.key=.int .i64 n/\n≠k)->Instr.findNow (.int .i64) (.int .i64 k) l i=some none
 | [],i,h=>rfl
 | e::l,i,h=>by
  obtain⟨n,h1,h2⟩:=h e aQt;have hne:(k==n)=false:=by simp;exact fun e=>h2 e.symm
  simp[Instr.findNow,Instr.sameNow,h1,hne,vP k l (i+1) (fun x hx=>h x (aQE _ hx))]
theorem aEC{P:Program}{t kt et:TypeId}(ht:P.underlying t=some (.map kt et))(hk:P.underlying kt=some (.int .i64))(w:World)(es:Array MapEntry)(clk:Nat)(n:Int)(v:Value)
  (hn:∀ x∈es.toList,∃ m,x.key=.int .i64 m/\m≠n):
  (Instr.mapUpdate t (.map (some w.heap.size)) (.int .i64 n) v).run P (w.alloc (.map es clk))=.ok () (w.alloc (.map (es.push { key:=.int .i64 n,val:=v,born:=clk }) (clk+1))):=by
 have hb:(w.alloc (.map es clk)).heap[w.heap.size]?=some (.map es clk):=by
  show (w.heap.push _)[w.heap.size]?=_;simp
 have hgo:(getObj w.heap.size).run P (w.alloc (.map es clk))=.ok (.map es clk) (w.alloc (.map es clk)):=by simp only[getObj,Sem.run,hb]
 have hck:(Instr.checkKey false (9999+1) kt (.int .i64 n)).run P (w.alloc (.map es clk))=.ok () (w.alloc (.map es clk)):=by
  unfold Instr.checkKey;simp[run_underlying hk]
 have hfk:(Instr.findKey kt (.int .i64 n) es.toList).run P (w.alloc (.map es clk))=.ok none (w.alloc (.map es clk)):=by
  simp[Instr.findKey,run_underlying hk,vP n es.toList 0 hn]
 have hset:∀ o,(setObj w.heap.size o).run P (w.alloc (.map es clk))=.ok () (w.alloc o):=by
  intro o;rw[MapKept.run_setObj_map o hb];have:(w.heap.push (.map es clk)).setIfInBounds w.heap.size o=w.heap.push o:=by
   apply Array.ext';simp
  show Result.ok () ({ w.alloc (.map es clk) with heap:=(w.heap.push (.map es clk)).setIfInBounds w.heap.size o }:World)=_
  rw[this];rfl
 simp[Instr.mapUpdate,run_underlying ht,hgo,hck,hfk,hset]
def tyL:List (Int × Value):=[(16,.bool true),(32,.bool false),(48,.bool true),(64,.bool false),(96,.bool true),(112,.bool true),(128,.bool false),(144,.bool true),(160,.bool false),(176,.bool false),(192,.bool false)]
def tyE:Array MapEntry:=#[⟨.int .i64 16,.bool true,0⟩,⟨.int .i64 32,.bool false,1⟩,⟨.int .i64 48,.bool true,2⟩,⟨.int .i64 64,.bool false,3⟩,⟨.int .i64 96,.bool true,4⟩,⟨.int .i64 112,.bool true,5⟩,⟨.int .i64 128,.bool false,6⟩,⟨.int .i64 144,.bool true,7⟩,⟨.int .i64 160,.bool false,8⟩,⟨.int .i64 176,.bool false,9⟩,⟨.int .i64 192,.bool false,10⟩]
set_option maxRecDepth 100000 in
set_option maxHeartbeats 1000000 in
theorem aED(w:World):Calls Tryz.prog 172 #[] w fun e w'=>e=.returned (.map (some w.heap.size))/\w'=w.alloc (.map tyE 11):=by
 have hmm:=fun w=>run_makeMap_plain (P:=Tryz.prog) (w:=w) 184
 go_enter Tryz.func172,Tryz.ntmps172
 go_wp2
 iterate 11
  rw[aEC Tryz.underlying184 Tryz.underlying3]
  rotate_left
  ·simp
  simp only[Result.andThen]
  go_wp2
 go_ret
 exact⟨rfl,rfl⟩
set_option maxRecDepth 100000 in
theorem aMm(s:ByteArray)(c:Int)(w:World):
  Calls Tryz.prog 240 #[.string s,.int .u8 c] w fun e w'=>e=.returned (.int .i64 (Lib.indexByte s.data.toList c.toNat.toUInt8))/\w'=w:=by
 go_enter Tryz.func240,Tryz.ntmps240
 go_wp2
 rw[run_callFunc_extern Tryz.func267 (by kernel_rfl) (by kernel_rfl) (by kernel_rfl) (e:=Extern.BytealgIndexByte.indexByte) (by kernel_rfl),Lib.run_indexByteString];simp only[Result.andThen];rw[Oper.upon_value]
 go_wp2
 go_ret
 exact⟨rfl,rfl⟩
theorem aAk{γ:List OI}{hp:List aC}{F:Fz}{w:World}(hi:dB F γ hp w)(h:hp=[]):γ=[]:=aRf (by rw[hi.len,h];rfl)
theorem aEE{G:aH}:QC Tryz.prog G 172 [] (.one (.mpc tyL)):=by
 intro F γ vs w hi hg hv;have hγ:=aAk hi rfl;subst hγ;have hvs:vs=#[]:=Array.eq_empty_of_size_eq_zero hv.1;subst hvs;have hlt:∀ b o,F b=some o->b < w.heap.size:=fun b o h=>by
  have:=hi.fz b o h;exact (Array.getElem?_eq_some_iff.1 this).1
 have hold:∀ b,b < w.heap.size->(w.heap.push (.map tyE 11))[b]?=w.heap[b]?:=fun b hb=>by rw[Array.getElem?_push_lt hb,aQI hb]
 refine (aED w).mono ?_;rintro e w' ⟨rfl,rfl⟩;refine⟨_,_,[],fun b=>if b=w.heap.size then some (.map tyE 11) else F b,[],rfl,⟨rfl,rfl⟩,aQf _,⟨?_,rfl,rfl,rfl, ?_, ?_, ?_, ?_, ?_⟩,⟨?_,rfl, ?_, ?_, ?_⟩,.one _ _ (.mpc tyL w.heap.size 11 tyE (by simp) (by rfl) (by decide))⟩
 ·intro b o h;have:=hlt b o h;show (if b=w.heap.size then _ else F b)=_
  rw[if_neg (by omega)];exact h
 ·show w.heap.size<=(w.heap.push _).size;simp
 ·intro b hb _;exact hold b hb
 ·intro b o h;by_cases hb:b=w.heap.size
  ·exact .inr (.inl (by omega))
  ·simp only[if_neg hb] at h;exact .inl h
 ·intro i b h;simp[cB] at h
 ·intro i hi;exact absurd hi (Nat.not_lt_zero _)
 ·intro b o h;by_cases hb:b=w.heap.size
  ·subst hb;simp only[if_true] at h;rw[<- h];show (w.heap.push _)[w.heap.size]?=_;simp
  ·simp only[if_neg hb] at h;exact (hold b (hlt b o h)).trans (hi.fz b o h)
 ·intro i j b h;simp[cB] at h
 ·intro i b h;simp[cB] at h
 ·intro i o x h;simp at h
theorem aMn{G:aH}(s:ByteArray)(c:Int):QC Tryz.prog G 240 [.one (.dc (.raw (.string s))),.one (.dc (.raw (.int .u8 c)))] (.one (.dc (.raw (.int .i64 (Lib.indexByte s.data.toList c.toNat.toUInt8))))):=by
 intro F γ vs w hi hg hv;obtain⟨hz,hv⟩:=hv;have hγ:=aAk hi rfl;subst hγ;obtain⟨x,y,rfl⟩:∃ x y,vs=#[x,y]:=by
  obtain⟨l⟩:=vs
  match l,hz with
  | [x,y],_=>exact⟨x,y,rfl⟩
 have h1:=cY (hv 0 _ _ rfl rfl);have h2:=cY (hv 1 _ _ rfl rfl);subst h1;subst h2;refine (aMm s c w).mono ?_;rintro e w' ⟨rfl,rfl⟩;exact⟨_,_,[],F,[],rfl,⟨rfl,rfl⟩,aQf _,gP.refl _ _ _ _,hi,.one _ _ (.dc _ _ (.raw _ rfl))⟩
def tyK:List AV->List aC->Option (AV × List aC)
 | [],[]=>some (.one (.mpc tyL),[])
 | _,_=>none
def ixK:List AV->List aC->Option (AV × List aC)
 | [.one (.dc (.raw (.string s))),.one (.dc (.raw (.int .u8 c)))],[]=>some (.one (.dc (.raw (.int .i64 (Lib.indexByte s.data.toList c.toNat.toUInt8)))),[])
 | _,_=>none
def awK:List AV->List aC->Option (AV × List aC)
 | [],[]=>some (.one (.dc (.raw (.bool true))),[])
 | _,_=>none
def bs(b:Bool):aW:=fun f args hp=>if f=172 then tyK args hp else if f=240 then ixK args hp else if f=11 then (if b=true then awK args hp else none) else Bq [(78,2,16)] f args hp
theorem aGx{G:aH}{b:Bool}(hA:b=true->QC Tryz.prog G 11 [] (.one (.dc (.raw (.bool true))))):cE Tryz.prog G (bs b):=by
 intro f args hp av o' h hp0 hh;unfold bs at h;split at h
 ·rename_i hf;subst hf;unfold tyK at h;split at h
  ·injection h with h;injection h with h1 h2;subst h1;subst h2
   have:hp0=[]:=by simpa using hh
   subst this;exact⟨by kernel_rfl,aEE.gh (fun a o ⟨h1,h2⟩ _=>⟨a,o,Gh.refl,aQD _,h1,by rw[h2];rfl⟩)⟩
  ·cases h
 ·split at h
  ·rename_i hf;subst hf;unfold ixK at h;split at h
   ·injection h with h;injection h with h1 h2;subst h1;subst h2
    have:hp0=[]:=by simpa using hh
    subst this;exact⟨by kernel_rfl,(aMn _ _).gh (fun a o ⟨h1,h2⟩ _=>⟨a,o,Gh.refl,aQD _,h1,by rw[h2];rfl⟩)⟩
   ·cases h
  ·split at h
   ·rename_i hf;subst hf;split at h
    ·rename_i hb;unfold awK at h;split at h
     ·injection h with h;injection h with h1 h2;subst h1;subst h2
      have:hp0=[]:=by simpa using hh
      subst this;exact⟨by kernel_rfl,(hA hb).gh (fun a o ⟨h1,h2⟩ _=>⟨a,o,Gh.refl,aQD _,h1,by rw[h2];rfl⟩)⟩
     ·cases h
    ·cases h
   ·exact xF [(78,2,16)] (fun e he=>by
     simp only[List.mem_singleton] at he;subst he;exact⟨by kernel_rfl,_,[Zi 0,Zi 0],Tryz.func78,Tryz.ntmps78,h78_ok,aHN,by decide⟩) f args hp av o' h hp0 hh
end
end Go.Proofs.YtcplecjhmnblpaaGreatDoor
