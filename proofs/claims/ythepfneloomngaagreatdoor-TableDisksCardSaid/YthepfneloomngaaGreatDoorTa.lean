/- Functions of the base: the map of the types, and the index of a byte, walked by the kit's rules. Conditions: none. -/
import Derived.Test.YthepfneloomngaaGreatDoorNd
import Derived.Test.YthepfneloomngaaGreatDoorCb
import Derived.WalkKit
import Derived.WideMake
import Derived.MapKept
import Derived.Lib.Bytealg
import Derived.Lib.Walk
import Derived.Lib.Strings
import Derived.BigCall
namespace Go.Proofs.YthepfneloomngaaGreatDoor
set_option linter.unusedSimpArgs false
set_option linter.unusedVariables false
section
section
variable {call:aO} {G:aF} {st s s':AS} {a b:HC} {L:List Nat} {m:Nat}
noncomputable def sqK(call:aO)(G:aF)(b:HC)(r:Option (Exit × AS)):Option (Exit × AS):=match r with
 | some (.normal,s)=>EC call G b s
 | r=>r
noncomputable def cdK(call:aO)(G:aF)(a b:HC)(st:AS):Option Bool->Option (Exit × AS)
 | some true=>EC call G a st
 | some false=>EC call G b st
 | none=>none
noncomputable def EL(call:aO)(G:aF)(a:HC)(L:List Nat)(m:Nat)(st:AS):Option (Exit × AS):=uJ (EC call G a) L m st
noncomputable def fnK(call:aO)(G:aF)(a:HC)(L:List Nat)(m:Nat)(r:Option (Exit × AS)):Option (Exit × AS):=match r with
 | some (.normal,s)=>EL call G a L m (jL L m s)
 | r=>r
def K1(L:List Nat)(m:Nat):Option (Exit × AS)->Option AS
 | some (.normal,s)=>some (jL L m s)
 | _=>none
theorem aG9:EC call G .skip st=some (.normal,st):=Eq.trans rfl rfl
theorem aL2:EC call G .ret st=some (.ret,st):=Eq.trans rfl rfl
theorem aHa{id:Nat}:EC call G (.exit id) st=some (.exit id,st):=Eq.trans rfl rfl
theorem Zo{ops:List aM}:EC call G (.region ops) st=nrm (evR call G ops (some st)):=Eq.trans rfl rfl
theorem aHb{L:List Nat}{ops:List aM}:EC call G (.regR L ops) st=nrm (Dm call G L ops (some st)):=Eq.trans rfl rfl
theorem aCD{ops:List (Bool × aM)}:EC call G (.drawn ops) st=nrm (Dn call G ops (some st)):=Eq.trans rfl rfl
theorem Sq:EC call G (.seq a b) st=sqK call G b (EC call G a st):=by rw[EC];rfl
theorem aHc{c:aH}:EC call G (.cond c a b) st=cdK call G a b st (cF (aJ G st.sl c)):=by rw[EC];rfl
theorem aCE{id:Nat}:EC call G (.block id a) st=Fy id (EC call G a st):=Eq.trans rfl rfl
theorem aHd:EC call G (.loop L a) st=EL call G a L st.hp.length (jL L st.hp.length st):=Eq.trans rfl rfl
theorem aCF{L:List Nat}:EC call G (.trm L a) st=EC call G a (jL L st.hp.length st):=Eq.trans rfl rfl
theorem aP2{g:GH}:EC call G (.gh g a) st=EC call G a (ghE g st):=Eq.trans rfl rfl
theorem aKr:sqK call G b (some (.normal,s))=EC call G b s:=Eq.trans rfl rfl
theorem aP3:sqK call G b (some (.ret,s))=some (.ret,s):=Eq.trans rfl rfl
theorem aP4{id:Nat}:sqK call G b (some (.exit id,s))=some (.exit id,s):=Eq.trans rfl rfl
theorem aP5:cdK call G a b st (some true)=EC call G a st:=Eq.trans rfl rfl
theorem aP6:cdK call G a b st (some false)=EC call G b st:=Eq.trans rfl rfl
theorem aHe{p:Prop}[Decidable p](h:p):cdK call G a b st (some (decide p))=EC call G a st:=by rw[decide_eq_true h];rfl
theorem aHf{p:Prop}[Decidable p](h:¬ p):cdK call G a b st (some (decide p))=EC call G b st:=by rw[decide_eq_false h];rfl
theorem aL3{id:Nat}:Fy id (some (.normal,s))=some (.normal,s):=Eq.trans rfl rfl
theorem aL4{id:Nat}:Fy id (some (.ret,s))=some (.ret,s):=Eq.trans rfl rfl
theorem aL5{id id':Nat}:Fy id (some (.exit id',s))=bif nq id' id then some (.normal,s) else some (.exit id',s):=by
 simp only[Fy,aGP,iA];by_cases h:id'=id
 ·simp[h]
 ·simp[h,(beq_eq_false_iff_ne.2 h:(id'==id)=false)]
theorem aP7:fnK call G a L m (some (.ret,s))=some (.ret,s):=Eq.trans rfl rfl
theorem aP8{id:Nat}:fnK call G a L m (some (.exit id,s))=some (.exit id,s):=Eq.trans rfl rfl
theorem aP9:K1 L m (some (.normal,s))=some (jL L m s):=Eq.trans rfl rfl
theorem aQa:nrm (some s)=some (.normal,s):=Eq.trans rfl rfl
theorem Sr:EL call G a L m st=fnK call G a L m (EC call G a st):=by
 unfold EL;cases h:EC call G a st with
 | none=>
  simp only[fnK];cases hl:uJ (EC call G a) L m st with
  | none=>rfl
  | some r=>
   obtain⟨n,hn⟩:=jM hl;cases n with
   | zero=>simp[H3] at hn
   | succ n=>rw[H3,h] at hn;cases hn
 | some r=>
  obtain⟨e,s⟩:=r;by_cases he:e=.normal
  ·subst he;exact aCn st h
  ·rw[Zj h he];unfold fnK;split
   ·rename_i h1;injection h1 with h1;injection h1 with h1;exact absurd h1 he
   ·rfl
theorem aU(H:Nat->AS)(n:Nat)(h0:st=H 0)(hr:∀ k,k < n->K1 L m (EC call G a (H k))=some (H (k+1))):EL call G a L m st=fnK call G a L m (EC call G a (H n)):=by
 subst h0;have key:∀ k,k<=n->EL call G a L m (H 0)=EL call G a L m (H k):=by
  intro k
  induction k with
  | zero=>intro _;rfl
  | succ k ih=>
   intro hk;rw[ih (by omega),Sr];have:=hr k (by omega);unfold K1 at this;split at this
   ·rename_i s h1;injection this with this
    rw[h1,<- this];rfl
   ·cases this
 rw[key n (aWj _),Sr]
theorem aCG(p:Nat->Prop):∀ n:Nat,∃ k,k<=n/\(k=n\/(k < n/\p k))/\∀ j,j < k->¬ p j
 | 0=>⟨0,aWj _,.inl rfl,fun j h=>by omega⟩
 | n+1=>by
  obtain⟨k,h1,h2,h3⟩:=aCG p n;rcases h2 with h2 | ⟨h2,h4⟩
  ·subst h2;by_cases hp:p k
   ·exact⟨k,by omega,.inr ⟨by omega,hp⟩,h3⟩
   ·exact⟨k+1,aWj _,.inl rfl,fun j hj=>by
     by_cases he:j=k
     ·subst he;exact hp
     ·exact h3 j (by omega)⟩
  ·exact⟨k,by omega,.inr ⟨by omega,h4⟩,h3⟩
noncomputable def ix(p:Nat->Prop)(n:Nat):Nat:=(aCG p n).choose
theorem bZ(p:Nat->Prop)(n:Nat):ix p n<=n/\(ix p n=n\/(ix p n < n/\p (ix p n)))/\∀ j,j < ix p n->¬ p j:=(aCG p n).choose_spec
theorem jH(H:Nat->AS)(p:Nat->Prop)(n:Nat)(h0:st=H 0)(hr:∀ k,k < n->(∀ j,j<=k->¬ p j)->K1 L m (EC call G a (H k))=some (H (k+1))):
  EL call G a L m st=fnK call G a L m (EC call G a (H (ix p n))):=by
 obtain⟨h1,_,h3⟩:=bZ p n;exact aU H _ h0 (fun k hk=>hr k (by omega) (fun j hj=>h3 j (by omega)))
theorem Zp(n k:Nat):((n:Int)+(k:Int)).toNat=n+k:=by omega
theorem Ss(n:Nat):((n:Int)+1).toNat=n+1:=by omega
def jk:Nat->List AV->List AV
 | 0,t=>t
 | n+1,t=>.junk::jk n t
theorem aHg{c:aR}{cs vs:List aR}{n:Nat}:cO (c::cs) (n+1) vs=c::cO cs n vs:=by
 simp only[cO,aXO,aWR];rw[show n+1+vs.length=(n+vs.length)+1 by omega,aXJ]
theorem V5{cs vs:List aR}:cO cs 0 vs=vs++cs.drop vs.length:=by simp[cO]
theorem aUm(a b c:Int):a+(b+c)=a+b+c:=(Int.add_assoc a b c).symm
theorem aL6{st:AS}{d:Option Nat}{cs:List aR}:aLs st d (some cs)=some ⟨aP st.sl d (.one (.ptr st.hp.length 0)),st.hp++[.box cs]⟩:=Eq.trans rfl rfl
theorem St(n:Nat):((n:Int) - 1).toNat=n - 1:=by omega
theorem aHh:evR call G [] (some st)=some st:=Eq.trans rfl rfl
theorem aQb{d:Option Nat}{ai:AI}{g:Option (Nat × Bool)}{l:List aM}:evR call G (⟨d,ai,g⟩::l) (some st)=evR call G l (Si call G st l d ai g):=Eq.trans rfl rfl
theorem Zq{L:List Nat}{t:IT}{ops:List aM}:EC call G (.drawnT L t ops) st=nrm (C1 call G L st.hp.length ops t (some st)):=Eq.trans rfl rfl
theorem aHi{L:List Nat}{n0:Nat}{ops:List aM}:C1 call G L n0 ops .nil (some st)=some st:=Eq.trans rfl rfl
theorem aL7{L:List Nat}{n0:Nat}{ops:List aM}{i:Nat}{t:IT}:C1 call G L n0 ops (.st i t) (some st)=C1 call G L n0 ops t (Fx call G L st ops (gE ops i).dst (gE ops i).ai (gE ops i).guard (jF L (gE ops i).ai (gE ops i).guard)):=Eq.trans rfl rfl
theorem aL8{L:List Nat}{n0:Nat}{ops:List aM}{i:Nat}{t:IT}:C1 call G L n0 ops (.br i t .stop) (some st)=C1 call G L n0 ops t (Fx call G L st ops (gE ops i).dst (gE ops i).ai (gE ops i).guard (jF L (gE ops i).ai (gE ops i).guard)):=Eq.trans rfl rfl
theorem aL9{L:List Nat}{n0:Nat}{ops:List aM}{i j:Nat}{t t' r:IT}:C1 call G L n0 ops (.br i t (.br j t' r)) (some st)=C0 n0 (C1 call G L n0 ops t (Fx call G L st ops (gE ops i).dst (gE ops i).ai (gE ops i).guard (jF L (gE ops i).ai (gE ops i).guard))) (C1 call G L n0 ops (.br j t' r) (some st)):=Eq.trans rfl rfl
theorem aHj{n0:Nat}{s s':AS}(p:List (Nat × Nat))(h3:pOK n0 s'.hp.length p)(h4:prm p s'=s):C0 n0 (some s) (some s')=some s:=N6 rfl rfl h3 h4
theorem aHk{n0:Nat}{s:AS}:C0 n0 (some s) (some s)=some s:=aHj [] (fun x hx=>by cases hx) rfl
theorem aCH{L:List Nat}:Dm call G L [] (some st)=some st:=Eq.trans rfl rfl
theorem aMa{L:List Nat}{d:Option Nat}{ai:AI}{g:Option (Nat × Bool)}{l:List aM}:Dm call G L (⟨d,ai,g⟩::l) (some st)=Dm call G L l (Fx call G L st l d ai g (jF L ai g)):=Eq.trans rfl rfl
theorem aQc{L:List Nat}{l:List aM}{d:Option Nat}{ai:AI}{g:Option (Nat × Bool)}:Fx call G L st l d ai g true=N3 call G L st d ai:=Eq.trans rfl rfl
theorem aQd{L:List Nat}{l:List aM}{d:Option Nat}{ai:AI}{g:Option (Nat × Bool)}:Fx call G L st l d ai g false=Si call G st l d ai g:=Eq.trans rfl rfl
theorem aMb{L:List Nat}{d:Option Nat}{f:FuncId}{xs:List aH}:N3 call G L st d (.call f xs)=aCk call G st d f xs (Kx L (f+100000)):=Eq.trans rfl rfl
theorem aMc{d:Option Nat}{f:FuncId}{xs:List aH}:aCk call G st d f xs false=jV (jY call) d f (xs.map (aJ G st.sl)) st:=Eq.trans rfl rfl
def aV5(d:Option Nat)(st:AS)(av:AV):Bool->Option AS
 | true=>some ⟨aP st.sl d av,st.hp⟩
 | false=>none
theorem aQe{l:List aM}{d:Option Nat}{ai:AI}:Si call G st l d ai none=lF call G st l d ai:=Eq.trans rfl rfl
theorem aQf{l:List aM}{d:Option Nat}{ai:AI}{g:Nat}{b:Bool}:Si call G st l d ai (some (g,b))=guZ call G st l d ai (gK b (aJ G st.sl (.t g))):=Eq.trans rfl rfl
section
variable {l:List aM} {d:Option Nat} {ai:AI}
theorem aQg:guZ call G st l d ai (some true)=lF call G st l d ai:=Eq.trans rfl rfl
theorem aQh:guZ call G st l d ai (some false)=some ⟨aP st.sl d (.tup []),st.hp⟩:=Eq.trans rfl rfl
theorem aHl{p:Prop}[Decidable p](h:p):guZ call G st l d ai (some (decide p))=lF call G st l d ai:=by rw[decide_eq_true h];rfl
theorem aHm{p:Prop}[Decidable p](h:¬ p):guZ call G st l d ai (some (decide p))=some ⟨aP st.sl d (.tup []),st.hp⟩:=by rw[decide_eq_false h];rfl
theorem aQi{q:Bool}:Zf call G st q d ai (some true)=Ze call G st d ai q:=Eq.trans rfl rfl
theorem aQj{q:Bool}:Zf call G st q d ai (some false)=some ⟨aP st.sl d (.tup []),st.hp⟩:=Eq.trans rfl rfl
theorem aHn{q:Bool}{p:Prop}[Decidable p](h:p):Zf call G st q d ai (some (decide p))=Ze call G st d ai q:=by rw[decide_eq_true h];rfl
theorem aHo{q:Bool}{p:Prop}[Decidable p](h:¬ p):Zf call G st q d ai (some (decide p))=some ⟨aP st.sl d (.tup []),st.hp⟩:=by rw[decide_eq_false h];rfl
theorem aQk{q:Bool}:drO call G st q d ai none=Ze call G st d ai q:=Eq.trans rfl rfl
theorem aQl{q:Bool}{g:Nat}{b:Bool}:drO call G st q d ai (some (g,b))=Zf call G st q d ai (gK b (aJ G st.sl (.t g))):=Eq.trans rfl rfl
theorem aCI:Dn call G [] (some st)=some st:=Eq.trans rfl rfl
theorem aMd{q:Bool}{g:Option (Nat × Bool)}{l:List (Bool × aM)}:Dn call G ((q,⟨d,ai,g⟩)::l) (some st)=Dn call G l (drO call G st q d ai g):=Eq.trans rfl rfl
theorem aCJ{f:FuncId}{xs:List aH}:lF call G st l d (.call f xs)=clZ call G d f xs st:=Eq.trans rfl rfl
theorem Zr{x:aH}{xs:List aH}:lF call G st l d (.callv x xs)=cvZ call G d x xs st:=Eq.trans rfl rfl
theorem aHp{z b:Nat}{zz:List Value}{s x:aH}:lF call G st l d (.app z b zz s x)=apZ d z b st (aJ G st.sl s) (aJ G st.sl x):=Eq.trans rfl rfl
theorem aQm{d:Option Nat}{size bytes:Nat}{z:List Value}{st:AS}{i j:Int}(h:0<=i/\i<=j/\j.toNat * bytes<=140737488355328):mkK d size bytes z st (some i) (some j)=some ⟨aP st.sl d (.one (.bld st.hp.length i.toNat)),st.hp++[.arr 0 size (List.replicate i.toNat (z.map DC.raw))]⟩:=by
 obtain⟨n,rfl⟩:=aXi h.1;obtain⟨m,rfl⟩:=aXi (Int.le_trans h.1 h.2.1);have h1:=h.2.1;have h2:=h.2.2;simp only[aW6] at h2;simp only[mkK,aW6];exact if_pos ⟨by omega,h2⟩
theorem aMe{z b:Nat}{zz:List Value}{x y:aH}:lF call G st l d (.mk z b zz x y)=mkZ G st d z b zz x y:=Eq.trans rfl rfl
theorem aCK{x y:aH}:lF call G st l d (.cpys x y)=Zb G st d x y:=Eq.trans rfl rfl
theorem aCL{x:aH}:lF call G st l d (.cvsb x)=Zc G st d x:=Eq.trans rfl rfl
theorem aMf{id lo n z:Nat}{s:ByteArray}:aLM d st (.one (.bls id lo n z)) (some s)=if z=1 then aCj d st id lo n s (aI st.hp id) else none:=Eq.trans rfl rfl
theorem aMg{id lo n:Nat}{s:ByteArray}{cs:List aR}:aCj d st id lo n s (.box cs)=if lo+n<=cs.length then some ⟨aP st.sl d (dD (.int .i64 (min s.size n:Nat))),st.hp.set id (.box (cO cs lo (dR (s.data.toList.take n))))⟩ else none:=Eq.trans rfl rfl
theorem aMh{s:ByteArray}:aGN d st (some s)=some ⟨aP st.sl d (.one (.bld st.hp.length s.size)),st.hp++[.arr 0 1 (fK s)]⟩:=Eq.trans rfl rfl
theorem aCM{L:List Nat}{x:aH}:N3 call G L st d (.cvsb x)=aGN d st (dA (aJ G st.sl x)):=Eq.trans rfl rfl
theorem aMi{s:ByteArray}:aPI d st (some s)=some ⟨aP st.sl d (.one (.dc (.slc (fK s)))),st.hp⟩:=Eq.trans rfl rfl
theorem aQn{d:Option Nat}{bytes:Nat}{v:Value}{st:AS}{i j:Int}(h:0<=i/\i<=j/\j.toNat * bytes<=140737488355328):mbK d 1 bytes st [v] (some i) (some j)=some ⟨aP st.sl d (.one (.bls st.hp.length 0 i.toNat 1)),st.hp++[.box (List.replicate j.toNat (cZ v))]⟩:=by
 obtain⟨n,rfl⟩:=aXi h.1;obtain⟨m,rfl⟩:=aXi (Int.le_trans h.1 h.2.1);have h1:=h.2.1;have h2:=h.2.2;simp only[aW6] at h2;simp only[mbK,aW6];exact if_pos ⟨trivial,by omega,h2⟩
theorem aHq{L:List Nat}{z b:Nat}{zz:List Value}{x y:aH}:N3 call G L st d (.mk z b zz x y)=mbK d z b st zz (bE (aJ G st.sl x)) (bE (aJ G st.sl y)):=Eq.trans rfl rfl
theorem aHr{z:Nat}{zz:List Value}{x:aH}:lF call G st l d (.clr z zz x)=Za G st d z zz x:=Eq.trans rfl rfl
theorem aMj{z id k n s:Nat}{zz:List Value}:aLL d z zz st (.one (.bls id k n s))=if s=z then Sh d st id k n z zz (aI st.hp id) else none:=Eq.trans rfl rfl
theorem aMk{id k n:Nat}{v:Value}{cs:List aR}:Sh d st id k n 1 [v] (.box cs)=if 1=1/\0 < n/\k+n<=cs.length then some ⟨aP st.sl d (.tup []),st.hp.set id (.box (cO cs k (List.replicate n (cZ v))))⟩ else none:=Eq.trans rfl rfl
theorem aCN{z b:Nat}{zz:List Value}{ps:List (Nat × aH)}:lF call G st l d (.bslc z b zz ps)=bsZ G st d z b zz ps (aGM d l):=Eq.trans rfl rfl
theorem Zs{z:List Value}:lF call G st l d (.alloc z)=some ⟨aP st.sl d (.one (.ptr st.hp.length 0)),st.hp++[.box (z.map cZ)]⟩:=Eq.trans rfl rfl
theorem aHs{x:aH}:lF call G st l d (.box x)=aLs st d (cellsOf (aJ G st.sl x)):=Eq.trans rfl rfl
theorem Zt{n:Nat}{x v:aH}:lF call G st l none (.store n x v)=stX G st n x v:=Eq.trans rfl rfl
theorem aHt{x:aH}:lF call G st l d (.mov x)=some ⟨aP st.sl d (aJ G st.sl x),st.hp⟩:=Eq.trans rfl rfl
theorem aCO{c x y:aH}:lF call G st l d (.pick c x y)=fF st d (yY (aJ G st.sl c) (aJ G st.sl x) (aJ G st.sl y)):=Eq.trans rfl rfl
theorem aCP{g:Bool}{n:Nat}{x:aH}:lF call G st l d (.load g n x)=fF st d (kW st.hp g n (aJ G st.sl x)):=Eq.trans rfl rfl
theorem aHu{p:Bool}{z:Value}{x y:aH}:lF call G st l d (.mpx p z x y)=fF st d (Mo p z (aJ G st.sl x) (aJ G st.sl y)):=Eq.trans rfl rfl
theorem aCQ{x:aH}:lF call G st l d (.nilc x)=fF st d (Ir (aJ G st.sl x)):=Eq.trans rfl rfl
theorem aHv{op:BinOp}{x y:aH}:lF call G st l d (.bin op x y)=fF st d (eC op (aJ G st.sl x) (aJ G st.sl y)):=Eq.trans rfl rfl
theorem aCR{n:Bool}{x y:aH}:lF call G st l d (.binb n x y)=fF st d (Iq n (aJ G st.sl x) (aJ G st.sl y)):=Eq.trans rfl rfl
theorem aHw{n:Bool}{ks:List EK}{x y:aH}:lF call G st l d (.eqs n ks x y)=fF st d (Rh n ks (aJ G st.sl x) (aJ G st.sl y)):=Eq.trans rfl rfl
theorem aMl{op:UnOp}{x:aH}:lF call G st l d (.un op x)=fF st d (unV op (aJ G st.sl x)):=Eq.trans rfl rfl
theorem aCS{k:IntKind}{x:aH}:lF call G st l d (.conv k x)=fF st d (U6 k (bE (aJ G st.sl x))):=Eq.trans rfl rfl
theorem aCT{x:aH}:lF call G st l d (.cvbs x)=fF st d (mC st.hp (aJ G st.sl x)):=Eq.trans rfl rfl
theorem aCU{o:Nat}{x:aH}:lF call G st l d (.addo o x)=fF st d (Cr o (aJ G st.sl x)):=Eq.trans rfl rfl
theorem aHx{n z:Nat}{x i:aH}:lF call G st l d (.ixA n z x i)=fF st d (aLt n z (aJ G st.sl x) (bE (aJ G st.sl i))):=Eq.trans rfl rfl
theorem aHy{z:Nat}{x i:aH}:lF call G st l d (.ixL z x i)=fF st d (aGq st.hp z (aJ G st.sl x) (bE (aJ G st.sl i))):=Eq.trans rfl rfl
theorem aHz{n:Nat}{x i:aH}:lF call G st l d (.ixV n x i)=fF st d (aLu n (aJ G st.sl x) (bE (aJ G st.sl i))):=Eq.trans rfl rfl
theorem aHA{n:Nat}{x:aH}:lF call G st l d (.s2p n x)=fF st d (X4 n (aJ G st.sl x)):=Eq.trans rfl rfl
theorem aHB{x i:aH}:lF call G st l d (.ixS x i)=fF st d (aGr (aJ G st.sl x) (bE (aJ G st.sl i))):=Eq.trans rfl rfl
theorem aHC{x:aH}{lo hi:Option aH}:lF call G st l d (.slS x lo hi)=fF st d (H6 (aJ G st.sl x) (lo.map (aJ G st.sl)) (hi.map (aJ G st.sl))):=Eq.trans rfl rfl
theorem aHD{z:Nat}{x:aH}{lo hi:Option aH}:lF call G st l d (.slL z x lo hi)=fF st d (kI st.hp z (aJ G st.sl x) (lo.map (aJ G st.sl)) (hi.map (aJ G st.sl))):=Eq.trans rfl rfl
theorem Zu{z:List Value}{ps:List (Nat × Nat × aH)}:lF call G st l d (.build z ps)=fF st d (aGs (gD (z.map cZ) (ps.map fun (o,s,x)=>(o,s,aJ G st.sl x)))):=Eq.trans rfl rfl
theorem aHE{x:aH}{n:Nat}:lF call G st l d (.ext x n)=fF st d (Ri (aJ G st.sl x) n):=Eq.trans rfl rfl
theorem aCV{x:aH}:lF call G st l d (.lenS x)=fF st d (U7 (dA (aJ G st.sl x))):=Eq.trans rfl rfl
theorem aCW{x:aH}:lF call G st l d (.lenL x)=fF st d (qR (aJ G st.sl x)):=Eq.trans rfl rfl
theorem aHF{x y:aH}:lF call G st l d (.min2 x y)=fF st d (aBd (aJ G st.sl x) (aJ G st.sl y)):=Eq.trans rfl rfl
theorem aHG{x y:aH}:lF call G st l d (.max2 x y)=fF st d (aBe (aJ G st.sl x) (aJ G st.sl y)):=Eq.trans rfl rfl
theorem aCX{f:FuncId}{xs:List aH}:lF call G st l d (.mkfn f xs)=fF st d ((xs.mapM fun c=>gO (aJ G st.sl c)).map fun cs=>.one (.fn f cs)):=Eq.trans rfl rfl
theorem aQo:Ze call G st d ai false=Zd call G st d ai:=Eq.trans rfl rfl
theorem aQp:Ze call G st d ai true=Bb call G st d ai:=Eq.trans rfl rfl
theorem aCY{f:FuncId}{xs:List aH}:Zd call G st d (.call f xs)=dvK call G d f xs st (call f (zT G st xs) []):=Eq.trans rfl rfl
theorem Zv{x:aH}{xs:List aH}:Zd call G st d (.callv x xs)=cvZ call G d x xs st:=Eq.trans rfl rfl
theorem aHH{z b:Nat}{zz:List Value}{s x:aH}:Zd call G st d (.app z b zz s x)=apZ d z b st (aJ G st.sl s) (aJ G st.sl x):=Eq.trans rfl rfl
theorem aCZ{z b:Nat}{zz:List Value}{ps:List (Nat × aH)}:Zd call G st d (.bslc z b zz ps)=bsO G st d z b zz ps:=Eq.trans rfl rfl
theorem Zw{z:List Value}:Zd call G st d (.alloc z)=some ⟨aP st.sl d (.one (.ptr st.hp.length 0)),st.hp++[.box (z.map cZ)]⟩:=Eq.trans rfl rfl
theorem Zx{n:Nat}{x v:aH}:Zd call G st none (.store n x v)=stX G st n x v:=Eq.trans rfl rfl
theorem aHI{x:aH}:Bb call G st d (.mov x)=some ⟨aP st.sl d (aJ G st.sl x),st.hp⟩:=Eq.trans rfl rfl
theorem aC0{c x y:aH}:Bb call G st d (.pick c x y)=fF st d (yY (aJ G st.sl c) (aJ G st.sl x) (aJ G st.sl y)):=Eq.trans rfl rfl
theorem aC1{g:Bool}{n:Nat}{x:aH}:Bb call G st d (.load g n x)=fF st d (kW st.hp g n (aJ G st.sl x)):=Eq.trans rfl rfl
theorem aHJ{p:Bool}{z:Value}{x y:aH}:Bb call G st d (.mpx p z x y)=fF st d (Mo p z (aJ G st.sl x) (aJ G st.sl y)):=Eq.trans rfl rfl
theorem aC2{x:aH}:Bb call G st d (.nilc x)=fF st d (Ir (aJ G st.sl x)):=Eq.trans rfl rfl
theorem aHK{op:BinOp}{x y:aH}:Bb call G st d (.bin op x y)=fF st d (eC op (aJ G st.sl x) (aJ G st.sl y)):=Eq.trans rfl rfl
theorem aC3{n:Bool}{x y:aH}:Bb call G st d (.binb n x y)=fF st d (Iq n (aJ G st.sl x) (aJ G st.sl y)):=Eq.trans rfl rfl
theorem aMm{op:UnOp}{x:aH}:Bb call G st d (.un op x)=fF st d (unV op (aJ G st.sl x)):=Eq.trans rfl rfl
theorem aC4{k:IntKind}{x:aH}:Bb call G st d (.conv k x)=fF st d (U6 k (bE (aJ G st.sl x))):=Eq.trans rfl rfl
theorem aC5{o:Nat}{x:aH}:Bb call G st d (.addo o x)=fF st d (Cr o (aJ G st.sl x)):=Eq.trans rfl rfl
theorem aHL{z:Nat}{x i:aH}:Bb call G st d (.ixL z x i)=fF st d (aGq st.hp z (aJ G st.sl x) (bE (aJ G st.sl i))):=Eq.trans rfl rfl
theorem aHM{x i:aH}:Bb call G st d (.ixS x i)=fF st d (aGr (aJ G st.sl x) (bE (aJ G st.sl i))):=Eq.trans rfl rfl
theorem aHN{x:aH}{lo hi:Option aH}:Bb call G st d (.slS x lo hi)=fF st d (H6 (aJ G st.sl x) (lo.map (aJ G st.sl)) (hi.map (aJ G st.sl))):=Eq.trans rfl rfl
theorem Zy{z:List Value}{ps:List (Nat × Nat × aH)}:Bb call G st d (.build z ps)=fF st d (aGs (gD (z.map cZ) (ps.map fun (o,s,x)=>(o,s,aJ G st.sl x)))):=Eq.trans rfl rfl
theorem aHO{x:aH}{n:Nat}:Bb call G st d (.ext x n)=fF st d (Ri (aJ G st.sl x) n):=Eq.trans rfl rfl
theorem aC6{x:aH}:Bb call G st d (.lenS x)=fF st d (U7 (dA (aJ G st.sl x))):=Eq.trans rfl rfl
theorem aC7{x:aH}:Bb call G st d (.lenL x)=fF st d (qR (aJ G st.sl x)):=Eq.trans rfl rfl
theorem aUn{c b:Bool}:gK b (.one (.dc (.raw (.bool c))))=some (eqb c b):=Eq.trans rfl rfl
theorem aHP{b:Bool}:gK b (.tup [])=some false:=Eq.trans rfl rfl
theorem aC8(c:Bool):eqb c true=c:=by cases c<;>rfl
theorem Zz(c:Bool):eqb c false=!c:=by cases c<;>rfl
theorem aMn{v:AV}:fF st d (some v)=some ⟨aP st.sl d v,st.hp⟩:=Eq.trans rfl rfl
end
theorem aHQ{x y:AV}:yY (.one (.dc (.raw (.bool true)))) x y=some x:=Eq.trans rfl rfl
theorem aHR{x y:AV}:yY (.one (.dc (.raw (.bool false)))) x y=some y:=Eq.trans rfl rfl
theorem Z0{p:Prop}[Decidable p]{x y:AV}(h:p):yY (.one (.dc (.raw (.bool (decide p))))) x y=some x:=by rw[decide_eq_true h];rfl
theorem Z1{p:Prop}[Decidable p]{x y:AV}(h:¬ p):yY (.one (.dc (.raw (.bool (decide p))))) x y=some y:=by rw[decide_eq_false h];rfl
section
variable {k:IntKind} {x y:Int}
theorem aHS:eC .add (.one (.dc (.raw (.int k x)))) (.one (.dc (.raw (.int k y))))=some (.one (.dc (.raw (.int k (k.wrap (x+y)))))):=by simp[eC,kH]
theorem aHT:eC .sub (.one (.dc (.raw (.int k x)))) (.one (.dc (.raw (.int k y))))=some (.one (.dc (.raw (.int k (k.wrap (x - y)))))):=by simp[eC,kH]
theorem aHU:eC .mul (.one (.dc (.raw (.int k x)))) (.one (.dc (.raw (.int k y))))=some (.one (.dc (.raw (.int k (k.wrap (x * y)))))):=by simp[eC,kH]
theorem aHV:eC .eql (.one (.dc (.raw (.int k x)))) (.one (.dc (.raw (.int k y))))=some (.one (.dc (.raw (.bool (decide (x=y)))))):=by simp[eC,kH,Bool.beq_eq_decide_eq]
theorem aHW:eC .neq (.one (.dc (.raw (.int k x)))) (.one (.dc (.raw (.int k y))))=some (.one (.dc (.raw (.bool (decide (x≠y)))))):=by
 simp only[eC,kH,if_true,aWi,dD];congr 5;rw[aXu];simp
theorem aHX:eC .lss (.one (.dc (.raw (.int k x)))) (.one (.dc (.raw (.int k y))))=some (.one (.dc (.raw (.bool (decide (x < y)))))):=by simp[eC,kH]
theorem aHY:eC .leq (.one (.dc (.raw (.int k x)))) (.one (.dc (.raw (.int k y))))=some (.one (.dc (.raw (.bool (decide (x<=y)))))):=by simp[eC,kH]
theorem aHZ:eC .gtr (.one (.dc (.raw (.int k x)))) (.one (.dc (.raw (.int k y))))=some (.one (.dc (.raw (.bool (decide (y < x)))))):=by simp[eC,kH]
theorem aH0:eC .geq (.one (.dc (.raw (.int k x)))) (.one (.dc (.raw (.int k y))))=some (.one (.dc (.raw (.bool (decide (y<=x)))))):=by simp[eC,kH]
end
theorem aH1{x y:ByteArray}:eC .eql (.one (.dc (.raw (.string x)))) (.one (.dc (.raw (.string y))))=some (.one (.dc (.raw (.bool (decide (x=y)))))):=by
 simp only[eC,E0,aWi,dD];congr 5;rw[aXu];simp[ByteArray.toList_eq,ByteArray.ext_iff,Array.ext_iff]
theorem aMo{c:Bool}:unV .not (.one (.dc (.raw (.bool c))))=some (.one (.dc (.raw (.bool (!c))))):=Eq.trans rfl rfl
theorem aUo(b:Bool):(b==true)=b:=by cases b<;>rfl
theorem aUp(b:Bool):(b==false)=!b:=by cases b<;>rfl
theorem aUq(a b:Int):(a==b)=decide (a=b):=by rw[aXu];simp
theorem aH2{p q:Prop}[Decidable p][Decidable q]:(decide p&&decide q)=decide (p/\q):=by simp
theorem aH3{p:Prop}[Decidable p]:(!decide p)=decide (¬ p):=by simp
theorem jZ{α:Type}{f:α->List DC}{n:Nat}(h:∀ x,(f x).length=n)(l:List α):fM n (l.map f)=true:=by
 induction l with
 | nil=>rfl
 | cons x l ih=>simp[fM,ih,h,iA]
theorem kP{α β:Type}{f:α->β}{l:List α}:List.take l.length (l.map f)=l.map f:=aWP (by simp)
noncomputable def aC9(own:Bool)(rs:List kE)(n:Nat)(s:AS):Bool->Option (AV × List aD)
 | true=>Sk own n s.hp (qV s rs)
 | false=>none
theorem aMp{own:Bool}{rs:List kE}{n:Nat}:Br own rs n (some (.ret,s))=aC9 own rs n s (decide (n<=s.hp.length)):=by
 by_cases h:n<=s.hp.length<;>simp[Br,I5,h,aC9]
theorem aMq{own:Bool}{rs:List kE}{n:Nat}:Br own rs n (some (.normal,s))=aC9 own rs n s (decide (n<=s.hp.length)):=by
 by_cases h:n<=s.hp.length<;>simp[Br,I5,h,aC9]
theorem aMr{own:Bool}{rs:List kE}{n:Nat}:aC9 own rs n s true=Sk own n s.hp (qV s rs):=Eq.trans rfl rfl
def aMs(n:Nat)(hp:List aD)(v:AV):Bool->AV × List aD
 | true=>(Dj v,hp.take n)
 | false=>(Dj v,hp)
theorem aMt{n:Nat}{hp:List aD}{v:AV}:Sk true n hp (some v)=some (aMs n hp v (cU (fun id=>decide (n<=id)) v&&(hp.take n).all (nD fun id=>decide (n<=id)))):=by
 simp only[Sk,aLP,cond_true];cases (cU (fun id=>decide (n<=id)) v&&(hp.take n).all (nD fun id=>decide (n<=id)))<;>rfl
theorem aMu{n:Nat}{hp:List aD}{v:AV}:aMs n hp v true=(Dj v,hp.take n):=Eq.trans rfl rfl
theorem aMv{n:Nat}{hp:List aD}{v:AV}:aMs n hp v false=(Dj v,hp):=Eq.trans rfl rfl
def aQq(n:Nat)(st:AS):AV × List aD:=(Dj (bA (fun id=>decide (n<=id)) (st.sl.getD 0 .junk)),(st.hp.take n).map (cI fun id=>decide (n<=id)))
theorem aMw{n:Nat}{hp:List aD}{v:AV}:Sk false n hp (some v)=some (aQq n (bR (iL v) (bxW n (iL v) ⟨[v],hp⟩ (Sc v)))):=Eq.trans rfl rfl
theorem aQr{n:Nat}{ids:List Nat}:bxW n ids st true=zR n ids st:=Eq.trans rfl rfl
theorem aQs{n:Nat}{ids:List Nat}:bxW n ids st false=st:=Eq.trans rfl rfl
theorem aQt{id:Nat}{cs:List aR}:bx1 id st (.box cs) true=Y5 id cs st:=Eq.trans rfl rfl
theorem aQu{id:Nat}{o:aD}:bx1 id st o false=st:=by cases o<;>rfl
def aQv:Option TV->Option (List TV)->Option (List TV)
 | some a,some l=>some (a::l)
 | _,_=>none
def Z2(st:AS):List kE->Option (List TV)
 | []=>some []
 | r::rs=>aQv ((fA st r).bind qU) (Z2 st rs)
theorem aMx{a:TV}{l:List TV}:aQv (some a) (some l)=some (a::l):=Eq.trans rfl rfl
theorem V6(st:AS):∀ rs:List kE,rs.mapM (fun r=>(fA st r).bind qU)=Z2 st rs
 | []=>rfl
 | r::rs=>by
  rw[aW9,V6 st rs,Z2];cases (fA st r).bind qU<;>cases Z2 st rs<;>rfl
theorem aMy{st:AS}:qV st []=some (.tup []):=Eq.trans rfl rfl
theorem aMz{st:AS}{r:kE}:qV st [r]=fA st r:=Eq.trans rfl rfl
theorem aMA{st:AS}{r q:kE}{rs:List kE}:qV st (r::q::rs)=(Z2 st (r::q::rs)).map .tup:=by
 rw[<- V6];rfl
theorem aA{G:aF}{T:HT}{f:FuncId}{h:HF}{args:List AV}{hp:List aD}{r:AV × List aD}(hT:T.tab f=some h)(he:Br h.own h.rs hp.length (EC (EV G T) G h.code ⟨args++qS (h.nt - args.length),hp⟩)=some r):EV G T f args hp=some r:=aKo hT he
end
section
variable {call:aO} {G:aF} {st:AS} {d:Option Nat} {f:FuncId} {xs:List aH} {av:AV} {os:List aD} {o:aD}
def aMB(call:aO)(G:aF)(d:Option Nat)(f:FuncId)(xs:List aH)(st:AS):Bool->Option AS
 | true=>Y9 call G d f xs st (call f (Dl G st xs) [])
 | false=>jV (jY call) d f (xs.map (aJ G (bR (kY G st.sl xs) st).sl)) (bR (kY G st.sl xs) st)
def aMC(call:aO)(G:aF)(d:Option Nat)(f:FuncId)(xs:List aH)(st:AS)(av:AV):Bool->Option AS
 | true=>some ⟨aP st.sl d av,st.hp⟩
 | false=>Sg call G d f xs (bR (kY G st.sl xs) st)
def aQw(call:aO)(G:aF)(d:Option Nat)(f:FuncId)(xs:List aH)(st:AS)(av:AV):Bool->Option AS
 | true=>some ⟨aP st.sl d av,st.hp⟩
 | false=>dnZ call G d f xs st
def aQx(call:aO)(G:aF)(d:Option Nat)(f:FuncId)(xs:List aH)(st:AS):Bool->Option AS
 | true=>nwK d st (call f (jX G st.sl xs) [])
 | false=>none
def aQy(call:aO)(G:aF)(d:Option Nat)(f:FuncId)(xs:List aH)(st:AS):Bool->Option AS
 | true=>qcK d st (call f (jX G st.sl xs) [])
 | false=>none
theorem aQz:clZ call G d f xs st=aMB call G d f xs st (qG G st.sl xs):=by unfold clZ;cases qG G st.sl xs<;>rfl
theorem aMD:aMB call G d f xs st true=Y9 call G d f xs st (call f (Dl G st xs) []):=Eq.trans rfl rfl
theorem aME:aMB call G d f xs st false=jV (jY call) d f (xs.map (aJ G (bR (kY G st.sl xs) st).sl)) (bR (kY G st.sl xs) st):=Eq.trans rfl rfl
theorem aQA:Sg call G d f xs st=aQx call G d f xs st ((jX G st.sl xs).all (cU fun _=>true)):=by unfold Sg;cases (jX G st.sl xs).all (cU fun _=>true)<;>rfl
theorem aMF:aQx call G d f xs st true=nwK d st (call f (jX G st.sl xs) []):=Eq.trans rfl rfl
theorem aQB:Bb call G st d (.call f xs)=aQy call G d f xs st ((jX G st.sl xs).all (cU fun _=>true)):=by rw[Bb];cases (jX G st.sl xs).all (cU fun _=>true)<;>rfl
theorem aMG:aQy call G d f xs st true=qcK d st (call f (jX G st.sl xs) []):=Eq.trans rfl rfl
theorem aMH:aMC call G d f xs st av true=some ⟨aP st.sl d av,st.hp⟩:=Eq.trans rfl rfl
theorem aMI:aMC call G d f xs st av false=Sg call G d f xs (bR (kY G st.sl xs) st):=Eq.trans rfl rfl
theorem aMJ:aQw call G d f xs st av true=some ⟨aP st.sl d av,st.hp⟩:=Eq.trans rfl rfl
theorem aQC:Y9 call G d f xs st (some (av,[]))=aMC call G d f xs st av (kX av):=by rw[Y9];cases kX av<;>rfl
theorem aQD:Y9 call G d f xs st (some (av,o::os))=Sg call G d f xs (bR (kY G st.sl xs) st):=Eq.trans rfl rfl
theorem aQE:dvK call G d f xs st (some (av,[]))=aQw call G d f xs st av (kX av):=by rw[dvK];cases kX av<;>rfl
theorem aQF:nwK d st (some (av,os))=some ⟨aP st.sl d (dB (cG [] st.hp.length) av),st.hp++os.map (dP (cG [] st.hp.length))⟩:=Eq.trans rfl rfl
theorem aQG:qcK d st (some (av,[]))=bif cU (fun _=>true) av then some ⟨aP st.sl d av,st.hp⟩ else none:=Eq.trans rfl rfl
theorem aQH:qcK d st (some (av,o::os))=qcF d st (bA (fun id=>decide (0<=id)) ((bR (iL av) ⟨[av],o::os⟩).sl.getD 0 .junk)):=Eq.trans rfl rfl
theorem aQI{caps:List aR}:cvK call G d xs st (.one (.fn f caps))=jV (jY call) d f (xs.map (aJ G st.sl)++caps.map AV.one) st:=Eq.trans rfl rfl
theorem aQJ{size bytes id n:Nat}{x:AV}:apZ d size bytes st (.one (.bld id n)) x=apB d size bytes st id n (aI st.hp id) (qA st.hp x):=Eq.trans rfl rfl
theorem aQK{size bytes id n c sz:Nat}{es news:List (List DC)}:apB d size bytes st id n (.arr c sz es) (some news)=if sz=size/\n<=es.length/\fM size news=true/\(n+news.length) * bytes<=140737488355328 then
   some ⟨aP (klS id st.sl) d (.one (.bld id (n+news.length))),(klH id st.hp).set id (.arr 0 size (es.take n++news))⟩ else none:=rfl
theorem aQL{size bytes:Nat}{news:List (List DC)}:apN d size bytes st (some news)=if fM size news=true/\news.length * bytes<=140737488355328 then
   some ⟨aP st.sl d (.one (.bld st.hp.length news.length)),klH st.hp.length st.hp++[.arr 0 size news]⟩ else none:=rfl
theorem aQM{size len:Nat}{cs:List aR}{ds:List DC}:bsP st d size len cs (some ds)=if ds.length=len * size then some ⟨aP st.sl d (.one (.bld st.hp.length len)),st.hp++[.arr 0 size (eO size len ds)]⟩ else none:=Eq.trans rfl rfl
theorem aQN{size len:Nat}{cs:List aR}:bsP st d size len cs none=if size=1 then some ⟨aP st.sl d (.one (.bls st.hp.length 0 len 1)),st.hp++[.box cs]⟩ else none:=Eq.trans rfl rfl
theorem aH4{a b:Nat}{cs:List aR}:dcs (.ptr a b::cs)=none:=rfl
theorem aQO{size len:Nat}{z:List Value}{ps:List (Nat × aH)}:bsZ G st d size len z ps true=bsX G (bR (Fw G st.sl ps) st) d size len z ps:=Eq.trans rfl rfl
theorem aQP{size len:Nat}{z:List Value}{ps:List (Nat × aH)}:bsZ G st d size len z ps false=bsO G (bR (Fw G st.sl ps) st) d size len z ps:=Eq.trans rfl rfl
theorem aQQ{id c s:Nat}{es:List (List DC)}:bvZ id st (.arr c s es)=bv1 id s es st es.isEmpty:=Eq.trans rfl rfl
theorem aQR{id s:Nat}{es:List (List DC)}:bv1 id s es st true=bR [id] st:=Eq.trans rfl rfl
theorem aQS{id s:Nat}{es:List (List DC)}:bv1 id s es st false=bvB id s es st:=Eq.trans rfl rfl
theorem aQT{i sz:Nat}:ghN i sz st (.one (.dc (.raw (.slice none 0 0))))=⟨st.sl.set i (.one (.bld st.hp.length 0)),st.hp++[.arr 0 sz []]⟩:=Eq.trans rfl rfl
theorem aQU{j sz id off:Nat}:ghB j sz st (.one (.ptr id off))=aGJ id (off+j) sz st (aI st.hp id):=Eq.trans rfl rfl
theorem aMK{id j sz:Nat}{cs:List aR}:aGJ id j sz st (.box cs)=aGI id j sz cs st cs[j]?:=Eq.trans rfl rfl
theorem aML{id j sz:Nat}{cs:List aR}:aGI id j sz cs st (some (.dc (.raw (.slice none 0 0))))=⟨st.sl,st.hp.set id (.box (cs.set j (.bld st.hp.length 0)))++[.arr 0 sz []]⟩:=Eq.trans rfl rfl
def sbK(n:Nat):aD->Option (List (List DC))
 | .arr _ _ es=>if n<=es.length then some (es.take n) else none
 | _=>none
theorem aMM{hp:List aD}{id n:Nat}:qA hp (.one (.bld id n))=sbK n (aI hp id):=by
 simp only[qA];cases aI hp id<;>rfl
theorem aQV{n c z:Nat}{es:List (List DC)}:sbK n (.arr c z es)=if n<=es.length then some (es.take n) else none:=Eq.trans rfl rfl
theorem aMN{hp:List aD}{es:List (List DC)}:qA hp (.one (.dc (.slc es)))=some es:=Eq.trans rfl rfl
end
section
variable {k:IntKind} {x y:Int}
theorem aH5:eC .quo (.one (.dc (.raw (.int k x)))) (.one (.dc (.raw (.int k y))))=if y=0 then none else some (.one (.dc (.raw (.int k (k.wrap (x.tdiv y)))))):=by
 simp only[eC,kH,if_true];split<;>rfl
theorem aH6:eC .rem (.one (.dc (.raw (.int k x)))) (.one (.dc (.raw (.int k y))))=if y=0 then none else some (.one (.dc (.raw (.int k (x.tmod y))))):=by
 simp only[eC,kH,if_true];split<;>rfl
def Su(k:IntKind)(x y:Int):Int:=k.wrap (BitVec.ofInt k.bits x &&& BitVec.ofInt k.bits y).toNat
def Sv(k:IntKind)(x y:Int):Int:=k.wrap (BitVec.ofInt k.bits x ||| BitVec.ofInt k.bits y).toNat
theorem aH7:eC .and (.one (.dc (.raw (.int k x)))) (.one (.dc (.raw (.int k y))))=some (.one (.dc (.raw (.int k (Su k x y))))):=by simp[eC,kH,Su]
theorem aMO:eC .or (.one (.dc (.raw (.int k x)))) (.one (.dc (.raw (.int k y))))=some (.one (.dc (.raw (.int k (Sv k x y))))):=by simp[eC,kH,Sv]
theorem aH8{j:IntKind}(h:0<=y):eC .shl (.one (.dc (.raw (.int j x)))) (.one (.dc (.raw (.int k y))))=some (.one (.dc (.raw (.int j (j.wrap (x * 2 ^ (min y.toNat j.bits))))))):=by
 simp only[eC];rw[if_neg (by omega)]
theorem aH9{j:IntKind}(h:0<=y):eC .shr (.one (.dc (.raw (.int j x)))) (.one (.dc (.raw (.int k y))))=some (.one (.dc (.raw (.int j (x.fdiv (2 ^ (min y.toNat j.bits))))))):=by
 simp only[eC];rw[if_neg (by omega)]
theorem zZ{a b:ByteArray}(h:a.size+b.size<=9223372036854775807):eC .add (.one (.dc (.raw (.string a)))) (.one (.dc (.raw (.string b))))=some (.one (.dc (.raw (.string (a++b))))):=by
 simp only[eC,E0];rw[if_pos h];rfl
theorem aMP{x y:ByteArray}:(x.toList==y.toList)=decide (x=y):=by
 rw[aXu];simp[ByteArray.toList_eq,ByteArray.ext_iff,Array.ext_iff]
theorem aDa{x y:ByteArray}:eC .neq (.one (.dc (.raw (.string x)))) (.one (.dc (.raw (.string y))))=some (.one (.dc (.raw (.bool (decide (x≠y)))))):=by
 simp only[eC,E0,aWi,dD,aMP];congr 5;simp
end
section
variable {call:aO} {G:aF} {st s s':AS} {l:List aM}
variable {r:Nat} {prs:List (Nat × Nat)} {acc:List FP} {d:Option Nat} {ai:AI} {f:FP} {R:List Nat}
def fvK(call:aO)(G:aF)(prs:List (Nat × Nat))(acc:List FP)(r:Nat)(l:List aM):Option (AS × FP)->Option AS
 | some (s,f)=>Sj call G prs (acc++[f]) r l (some s)
 | none=>none
theorem Z3{ops:List aM}:EC call G (.drawnF prs ops) st=nrm (Sj call G prs [] st.hp.length ops (some ⟨st.sl,st.hp++zU (nAl ops)⟩)):=Eq.trans rfl rfl
theorem aIa:Sj call G prs acc r [] (some st)=bif Ib prs acc then some st else none:=Eq.trans rfl rfl
theorem aQW{g:Option (Nat × Bool)}{l:List aM}:Sj call G prs acc r (⟨d,ai,g⟩::l) (some st)=fvK call G prs acc (bif Zg ai then r+1 else r) l (fvO call G st d r ai g):=by rw[Sj];cases fvO call G st d r ai g<;>rfl
theorem aQX{l:List aM}:fvK call G prs acc r l (some (st,f))=Sj call G prs (acc++[f]) r l (some st):=Eq.trans rfl rfl
theorem aQY:fvO call G st d r ai none=Ia call G st d r ai:=Eq.trans rfl rfl
theorem Z4{z:List Value}:Ia call G st d r (.alloc z)=fvN d r z st st.hp[r]?:=Eq.trans rfl rfl
theorem aQZ{z:List Value}:fvN d r z st (some .dead)=some (⟨aP st.sl d (.one (.ptr r 0)),st.hp.set r (.box (z.map cZ))⟩,[r],[]):=Eq.trans rfl rfl
theorem Z5{n:Nat}{x v:aH}:Ia call G st d r (.store n x v)=fvS d n st (aJ G st.sl x) (cellsOf (aJ G st.sl v)):=Eq.trans rfl rfl
theorem aQ0{n id off:Nat}{vs:List aR}:fvS none n st (.one (.ptr id off)) (some vs)=fvT n id off vs st st.hp[id]?:=Eq.trans rfl rfl
theorem aKs{n id off:Nat}{vs cs:List aR}(h1:vs.length=n)(h2:off+n<=cs.length):fvT n id off vs st (some (.box cs))=some (⟨st.sl,st.hp.set id (.box (cO cs off vs))⟩,[id],[id]):=if_pos ⟨h1,h2⟩
theorem aDb{f:FuncId}{xs:List aH}:Ia call G st d r (.call f xs)=fvC call G st d f xs ((xs.map (aJ G st.sl)).flatMap iL):=Eq.trans rfl rfl
theorem aDc{x y:aH}:Ia call G st d r (.cpys x y)=fvY d st (aJ G st.sl x) (dA (aJ G st.sl y)):=Eq.trans rfl rfl
theorem aQ1{id lo n:Nat}{bs:ByteArray}:fvY d st (.one (.bls id lo n 1)) (some bs)=aGO d id lo n bs st st.hp[id]?:=by simp only[fvY,if_true]
theorem aMQ{id lo n:Nat}{bs:ByteArray}{cs:List aR}(h:lo+n<=cs.length):aGO d id lo n bs st (some (.box cs))=some (⟨aP st.sl d (dD (.int .i64 (min bs.size n:Nat))),st.hp.set id (.box (cO cs lo (dR (bs.data.toList.take n))))⟩,[id],[id]):=if_pos h
theorem aQ2{f:FuncId}{xs:List aH}:fvC call G st d f xs []=Rf [] (Bb call G st d (.call f xs)):=Eq.trans rfl rfl
theorem aQ3{f:FuncId}{xs:List aH}{id:Nat}:fvC call G st d f xs [id]=fvB call d f st (xs.map (aJ G st.sl)) id st.hp[id]?:=Eq.trans rfl rfl
theorem aQ4:Rf R (some s)=some (s,[],R):=Eq.trans rfl rfl
theorem aQ5{c:aR}:Ml (.one c)=fpC c:=Eq.trans rfl rfl
theorem aQ6{sl:List AV}:Zh G sl []=[]:=Eq.trans rfl rfl
theorem aQ7{sl:List AV}{x:aH}{xs:List aH}:Zh G sl (x::xs)=Ml (aJ G sl x)++Zh G sl xs:=Eq.trans rfl rfl
theorem aQ8:nAl []=0:=Eq.trans rfl rfl
theorem aQ9{g:Option (Nat × Bool)}{l:List aM}:nAl (⟨d,ai,g⟩::l)=bif Zg ai then nAl l+1 else nAl l:=Eq.trans rfl rfl
theorem aIb:zU 0=[]:=Eq.trans rfl rfl
theorem aIc:zU 3=[.dead,.dead,.dead]:=Eq.trans rfl rfl
theorem aMR{fs:List FP}:Ib [] fs=true:=Eq.trans rfl rfl
theorem aMS{p q:Nat}{fs:List FP}:Ib ((p,q)::prs) fs=(dsM (atF fs p) (atF fs q)&&Ib prs fs):=Eq.trans rfl rfl
theorem aRa{a b c e:List Nat}:dsM (a,b) (c,e)=(Do a e&&(Do a c&&Do c b)):=Eq.trans rfl rfl
theorem aMT{b:List Nat}:Do [] b=true:=Eq.trans rfl rfl
theorem aMU{x:Nat}{a b:List Nat}:Do (x::a) b=(!N4 b x&&Do a b):=Eq.trans rfl rfl
theorem aMV{x:Nat}:N4 [] x=false:=Eq.trans rfl rfl
theorem aMW{x y:Nat}{a:List Nat}:N4 (y::a) x=(nq x y||N4 a x):=Eq.trans rfl rfl
theorem aRb{fs:List FP}:atF (f::fs) 0=f:=Eq.trans rfl rfl
theorem aRc{fs:List FP}{n:Nat}:atF (f::fs) (n+1)=atF fs n:=Eq.trans rfl rfl
theorem aId{x:aH}:Ia call G st d r (.mov x)=Rf (Zh G st.sl [x]) (lF call G st [] d (.mov x)):=Eq.trans rfl rfl
theorem aDd{g:Bool}{n:Nat}{x:aH}:Ia call G st d r (.load g n x)=Rf (Zh G st.sl [x]) (lF call G st [] d (.load g n x)):=Eq.trans rfl rfl
theorem aIe{op:BinOp}{x y:aH}:Ia call G st d r (.bin op x y)=Rf (Zh G st.sl [x,y]) (lF call G st [] d (.bin op x y)):=Eq.trans rfl rfl
theorem aDe{o:Nat}{x:aH}:Ia call G st d r (.addo o x)=Rf (Zh G st.sl [x]) (lF call G st [] d (.addo o x)):=Eq.trans rfl rfl
theorem aIf{z:Nat}{x:aH}{lo hi:Option aH}:Ia call G st d r (.slL z x lo hi)=Rf (Zh G st.sl (x::(lo.toList++hi.toList))) (lF call G st [] d (.slL z x lo hi)):=Eq.trans rfl rfl
end
attribute [go_sem] Z3 aIa aQW aQX aQY Z4 aQZ Z5 aQ0 aKs aDc aQ1 aMQ aDb aQ2 aQ3 aQ4 aQ5 aQ6 aQ7 aQ8 aQ9 aIb aIc aMR aMS aRa aMT aMU aMV aMW aRb aRc fpC Zg aId aDd aIe aDe aIf
attribute [go_sem] aG9 aL2 aHa Zo aCD Sq aHc aCE aHd aP2 aCF aKr aP3 aP4 aP5 aP6 aHe aHf aL3 aL4 aL5 aP7 aP8 aP9 aQa aHh aQb aQe aQf aQg aQh aHl aHm aQi aQj aHn aHo aQk aQl aCI aMd
attribute [go_sem] aQQ aQR aQS N0 bvB bvC Nz bvV bvT bvS bvO bvH
attribute [go_sem] aQr aQs aQt aQu zR Y5 bxV bxT bxC bxD bxO Sc aGG Ve aPx aCe
attribute [go_sem] Zq aHi aL7 aL8 aL9 aHk gE
attribute [go_sem] aMc zT aHu aHJ aCK aCL Zb aMf aMg aMk aMh aCM Zc aMi aQn aHq aHb aCH aMa aQc aQd aMb jF Kx Nt Za aMj aHr mkZ aQm aMe aCJ Zr aHp aCN Zs aHs Zt aHt aCO aCP aCQ aHv aCR aHw aMl aCS aCT aCU aHx aHy aHB aHC aHD Zu aHE aCV aCW aHF aHG aCX
attribute [go_sem] aQo aQp aCY Zv aHH aCZ Zw Zx aHI aC0 aC1 aC2 aHK aC3 aMm aC4 aC5 aHL aHM aHN Zy aHO aC6 aC7 aUn aHP aC8 Zz aMn aHQ aHR Z0 Z1 aHS aHT aHU aHV aHW aHX aHY aHZ aH0 aH1 aMo aH2 aH3
attribute [go_sem] aUq and_false false_and or_false false_or or_true true_or aXj aW4 Bool.or_true Bool.or_false not_true_eq_false not_false_eq_true List.flatMap_cons List.flatMap_nil aUo aUp St fM kP aMp aMq aMr aUm aL6 Zp Ss jk aHg V5 aMt aMu aMv aQq aMw
attribute [go_sem] aQM aQN aH4 aHz aHA
attribute [go_sem] aLH Y8 aQz aMD aME aQA aMF aQB aMG aMH aMI aMJ aQC aQD aQE aQF aQG aQH qcF List.getD_cons_zero aQI aQJ aQK aQL aQO aQP aQT aQU aMK aML aMN aMM aQV aH5 aH6 aH7 aMO aH8 aH9 zZ aDa ghE klC Se klV klS klO klH Sf aCi qG Dl jX aLF aCg aCh kY jY cvZ isT aLI aKn aLJ aGM Fw bsO ctC Ic ctV ctO ctH ctS jL bR kV jT gQ iL aBV idsL aPp cU keepL Cz nD aR.keep bA cE qZ cI dB iV Fa renL dP cG uP qS aMx Z2 aMy aMz aMA qU fA
end
section
def iX(x:Nat):List Nat->Bool
 | []=>false
 | j::J=>nq x j||iX x J
theorem Ef(x:Nat):∀ J:List Nat,iX x J=J.contains x
 | []=>rfl
 | j::J=>by rw[iX,List.contains_cons,Ef x J,iA]
def rcB(hp:List aD)(n id:Nat)(todo J:List Nat):Bool->List Nat
 | true=>rP hp n todo J
 | false=>rP hp n (aGm (aI hp id)++todo) (J++[id])
theorem Z6{hp:List aD}{n:Nat}{J:List Nat}:rP hp n [] J=J:=by cases n<;>rfl
theorem aIg{hp:List aD}{n id:Nat}{todo J:List Nat}:rP hp (n+1) (id::todo) J=rcB hp n id todo J (iX id J):=by
 rw[rP,Ef];cases J.contains id<;>rfl
theorem aRd{hp:List aD}{n id:Nat}{todo J:List Nat}:rcB hp n id todo J false=rP hp n (aGm (aI hp id)++todo) (J++[id]):=Eq.trans rfl rfl
def Om:List Nat->Bool
 | []=>true
 | j::J=>!iX j J&&Om J
theorem V7:∀ J:List Nat,Om J=mH (fun i j=>i != j) J
 | []=>rfl
 | j::J=>by
  rw[Om,mH,V7 J,Ef];congr 1
  induction J with
  | nil=>rfl
  | cons i J ih=>simp only[List.contains_cons,List.all_cons,Bool.not_or,ih];rfl
def kpC(J:List Nat):aR->Bool
 | .ptr id _=>iX id J
 | .bld id _=>iX id J
 | .ept id _ _ _=>iX id J
 | .bls id _ _ _=>iX id J
 | .fn f caps=>(aR.fn f caps).keep (jU J)
 | .dc _=>true
 | .ref _=>true
 | .mpc _=>true
 | .junk=>true
def Aa(J:List Nat):List aR->Bool
 | []=>true
 | c::cs=>kpC J c&&Aa J cs
def kpV(J:List Nat):AV->Bool
 | .one c=>kpC J c
 | .agg cs=>Aa J cs
 | .tup l=>l.all (Cz (jU J))
 | .junk=>true
def K2(J:List Nat):List AV->Bool
 | []=>true
 | v::vs=>kpV J v&&K2 J vs
def kpO(J:List Nat):aD->Bool
 | .box cs=>Aa J cs
 | .arr _ _ _=>true
 | .dead=>true
def kpH(J:List Nat)(hp:List aD):List Nat->Bool
 | []=>true
 | j::l=>decide (j < hp.length)&&kpO J (aI hp j)&&kpH J hp l
theorem aDf(J:List Nat)(c:aR):kpC J c=c.keep (jU J):=by
 cases c<;>simp[kpC,aR.keep,jU,Ef]
theorem K3(J:List Nat):∀ cs,Aa J cs=keepL (jU J) cs
 | []=>rfl
 | c::cs=>by rw[Aa,keepL,aDf,K3 J cs]
theorem aMX(J:List Nat)(v:AV):kpV J v=cU (jU J) v:=by
 cases v<;>simp[kpV,cU,aDf,K3]
theorem K4(J:List Nat):∀ vs,K2 J vs=vs.all (cU (jU J))
 | []=>rfl
 | v::vs=>by rw[K2,List.all_cons,aMX,K4 J vs]
theorem aMY(J:List Nat)(o:aD):kpO J o=nD (jU J) o:=by
 cases o<;>simp[kpO,nD,K3]
theorem aDg(J:List Nat)(hp:List aD):∀ l,kpH J hp l=l.all fun j=>decide (j < hp.length)&&nD (jU J) (aI hp j)
 | []=>rfl
 | j::l=>by rw[kpH,List.all_cons,aMY,aDg J hp l]
def arB(j:Nat)(l:List Nat):aD->List Nat
 | .box _=>l
 | _=>j::l
def arJ(hp:List aD):List Nat->List Nat
 | []=>[]
 | j::J=>arB j (arJ hp J) (aI hp j)
def kaC(A:List Nat):aR->aR
 | .dc d=>.dc d
 | .ref cs=>.ref cs
 | .mpc es=>.mpc es
 | .junk=>.junk
 | .ptr j o=>bif iX j A then .junk else .ptr j o
 | .bld j n=>bif iX j A then .junk else .bld j n
 | .ept j i s o=>bif iX j A then .junk else .ept j i s o
 | .bls j i s o=>bif iX j A then .junk else .bls j i s o
 | .fn f caps=>cE (fun id=>iX id A) (.fn f caps)
def Z7(A:List Nat):List aR->List aR
 | []=>[]
 | c::cs=>kaC A c::Z7 A cs
def kaV(A:List Nat):AV->AV
 | .one c=>.one (kaC A c)
 | .agg cs=>.agg (Z7 A cs)
 | .tup l=>.tup (l.map (qZ fun id=>iX id A))
 | .junk=>.junk
def kaS(A:List Nat):List AV->List AV
 | []=>[]
 | v::vs=>kaV A v::kaS A vs
def kaO(A:List Nat):aD->aD
 | .box cs=>.box (Z7 A cs)
 | .arr c s es=>.arr c s es
 | .dead=>.dead
def kaH(A:List Nat):List aD->List aD
 | []=>[]
 | o::os=>kaO A o::kaH A os
theorem aDh(A:List Nat)(c:aR):kaC A c=cE (fun id=>iX id A) c:=by
 cases c<;>simp only[kaC,cE,aR.keep,if_true]
 case ptr j o=>
  by_cases h:iX j A=true
  ·simp[h]
  ·simp[h,(aXA.2 h:iX j A=false)]
 case bld j n=>
  by_cases h:iX j A=true
  ·simp[h]
  ·simp[h,(aXA.2 h:iX j A=false)]
 case ept j i s o=>
  by_cases h:iX j A=true
  ·simp[h]
  ·simp[h,(aXA.2 h:iX j A=false)]
 case bls j i s o=>
  by_cases h:iX j A=true
  ·simp[h]
  ·simp[h,(aXA.2 h:iX j A=false)]
theorem K5(A:List Nat):∀ cs,Z7 A cs=cs.map (cE fun id=>iX id A)
 | []=>rfl
 | c::cs=>by simp[Z7,aDh,K5 A cs]
theorem aM0(A:List Nat)(v:AV):kaV A v=bA (fun id=>iX id A) v:=by
 cases v<;>simp only[kaV,bA,aDh,K5]
theorem aDi(A:List Nat):∀ l,kaS A l=l.map (bA fun id=>iX id A)
 | []=>rfl
 | c::cs=>by simp[kaS,aM0,aDi A cs]
theorem aDj(A:List Nat):∀ l,kaH A l=l.map (cI fun id=>iX id A)
 | []=>rfl
 | o::os=>by cases o<;>simp[kaH,kaO,cI,K5,aDj A os]
theorem aDk(hp:List aD):∀ J:List Nat,(fun id=>iX id (arJ hp J))=fun id=>J.contains id&&!gQ (aI hp id)
 | []=>by funext id;rfl
 | j::J=>by
  funext id;have ih:iX id (arJ hp J)=(J.contains id&&!gQ (aI hp id)):=congrFun (aDk hp J) id;rw[List.contains_cons,arJ];by_cases h:id=j
  ·subst h;cases ho:aI hp id with
   | box cs=>rw[arB,ih,ho];simp[gQ]
   | _=>simp[arB,iX,iA,gQ]
  ·have hb:(id==j)=false:=by simpa using h
   cases ho:aI hp j with
   | box cs=>rw[arB,ih,hb,aW4]
   | _=>simp only[arB,iX,iA,hb,aW4];exact ih
def afB(J:List Nat)(st:AS)(d:Option Nat)(av:AV)(os:List aD):List Nat->AS
 | []=>⟨aP st.sl d (dB (cG J st.hp.length) av),jT J (os.map (dP (cG J st.hp.length))) st.hp++(os.drop J.length).map (dP (cG J st.hp.length))⟩
 | a::A=>⟨aP (kaS (a::A) st.sl) d (dB (cG J st.hp.length) av),jT J (os.map (dP (cG J st.hp.length))) (kaH (a::A) st.hp)++(os.drop J.length).map (dP (cG J st.hp.length))⟩
theorem aDl{J:List Nat}{st:AS}{d:Option Nat}{av:AV}{os:List aD}:gR J st d av os=afB J st d av os (arJ st.hp J):=by
 unfold gR;rw[<- aDk];cases h:arJ st.hp J with
 | nil=>
  have hn:∀ id,iX id []=false:=fun _=>rfl
  rw[pD hn,pE hn];rfl
 | cons a A=>rw[afB,aDi,aDj]
theorem aRh{J:List Nat}{st:AS}{d:Option Nat}{av:AV}{os:List aD}:afB J st d av os []=⟨aP st.sl d (dB (cG J st.hp.length) av),jT J (os.map (dP (cG J st.hp.length))) st.hp++(os.drop J.length).map (dP (cG J st.hp.length))⟩:=Eq.trans rfl rfl
def evJ(call:aO)(d:Option Nat)(f:FuncId)(avs:List AV)(st:AS)(J:List Nat):Option AS:=if okJ J st.hp avs then (call f (avs.map (dB (kV J))) (J.map fun j=>dP (kV J) (aI st.hp j))).map fun r=>gR J st d r.1 r.2 else none
def evK(d:Option Nat)(st:AS)(J:List Nat):Option (AV × List aD)->Option AS
 | some (av,os)=>some (gR J st d av os)
 | none=>none
def evB(call:aO)(d:Option Nat)(f:FuncId)(avs:List AV)(st:AS)(J:List Nat):Bool->Option AS
 | true=>evK d st J (call f (avs.map (dB (kV J))) (J.map fun j=>dP (kV J) (aI st.hp j)))
 | false=>none
theorem aDm{call:aO}{d:Option Nat}{f:FuncId}{avs:List AV}{st:AS}:jV call d f avs st=evJ call d f avs st (rP st.hp 2000 (avs.flatMap iL) []):=Eq.trans rfl rfl
theorem aDn{call:aO}{d:Option Nat}{f:FuncId}{avs:List AV}{st:AS}(J:List Nat):evJ call d f avs st J=evB call d f avs st J (Om J&&kpH J st.hp J&&K2 J avs):=by
 unfold evJ okJ;rw[V7,aDg,K4];cases (mH (fun i j=>i != j) J&&(J.all fun j=>decide (j < st.hp.length)&&nD (jU J) (aI st.hp j))&&avs.all (cU (jU J))) with
 | false=>rfl
 | true=>
  simp only[if_true,evB];cases call f (avs.map (dB (kV J))) (J.map fun j=>dP (kV J) (aI st.hp j))<;>rfl
theorem aRi{call:aO}{d:Option Nat}{f:FuncId}{avs:List AV}{st:AS}:evJ call d f avs st []=evB call d f avs st [] (Om []&&kpH [] st.hp []&&K2 [] avs):=aDn _
theorem aRj{call:aO}{d:Option Nat}{f:FuncId}{avs:List AV}{st:AS}{a:Nat}:evJ call d f avs st [a]=evB call d f avs st [a] (Om [a]&&kpH [a] st.hp [a]&&K2 [a] avs):=aDn _
theorem aRk{call:aO}{d:Option Nat}{f:FuncId}{avs:List AV}{st:AS}{a b:Nat}:evJ call d f avs st [a,b]=evB call d f avs st [a,b] (Om [a,b]&&kpH [a,b] st.hp [a,b]&&K2 [a,b] avs):=aDn _
theorem aRl{call:aO}{d:Option Nat}{f:FuncId}{avs:List AV}{st:AS}{J:List Nat}:evB call d f avs st J true=evK d st J (call f (avs.map (dB (kV J))) (J.map fun j=>dP (kV J) (aI st.hp j))):=Eq.trans rfl rfl
theorem aRm{d:Option Nat}{st:AS}{J:List Nat}{av:AV}{os:List aD}:evK d st J (some (av,os))=some (gR J st d av os):=Eq.trans rfl rfl
theorem Oq:∀ ds:List DC,idsL (lQ ds)=[]
 | []=>rfl
 | d::ds=>by
  have:=Oq ds;simp only[lQ,aWp,idsL,aBV,aWL] at this ⊢;exact this
theorem Ot(J:List Nat):∀ ds:List DC,Aa J (lQ ds)=true
 | []=>rfl
 | d::ds=>by
  have:=Ot J ds;simp only[lQ,aWp,Aa,kpC,aWN] at this ⊢;exact this
theorem aIh(ρ:Nat->Nat)(ds:List DC):(lQ ds).map (iV ρ)=lQ ds:=by
 simp only[lQ,aWE];exact aWC fun d _=>rfl
theorem Eg:∀ ds:List DC,dcs (lQ ds)=some ds
 | []=>rfl
 | d::ds=>by
  have:=Eg ds;simp only[lQ,aWp,dcs] at this ⊢;rw[this];rfl
theorem K6(a:Nat):nq a a=true:=by rw[iA];simp
attribute [go_sem] Oq Ot aIh Eg
attribute [go_sem] iX Z6 aIg aRd Om kpC Aa kpV K2 kpO kpH arB arJ kaC Z7 kaV kaS kaO kaH aDl aRh aDm aRi aRj aRk aRl aRm aGm Nat.reduceLT
section
variable {call:aO} {G:aF} {st:AS} {d:Option Nat}
def aRn(call:aO)(d:Option Nat)(f:FuncId)(st:AS)(avs:List AV)(id:Nat)(cs:List aR):Bool->Option (AS × FP)
 | true=>aCl d id st (jY call f (avs.map (dB (kV [id]))) [.box cs])
 | false=>none
theorem aRo{f:FuncId}{avs:List AV}{id:Nat}{cs:List aR}:fvB call d f st avs id (some (.box cs))=aRn call d f st avs id cs (keepL (fun _=>true) cs&&K2 [id] avs):=by
 rw[K4];simp only[fvB];cases (keepL (fun _=>true) cs&&avs.all (cU (jU [id])))<;>rfl
theorem aM1{f:FuncId}{avs:List AV}{id:Nat}{cs:List aR}:aRn call d f st avs id cs true=aCl d id st (jY call f (avs.map (dB (kV [id]))) [.box cs]):=Eq.trans rfl rfl
end
attribute [go_sem] aRo aM1
attribute [go_sem] Nat.reduceAdd Nat.reduceSub Nat.reduceMul Nat.reduceLeDiff Nat.reduceEqDiff
end
section
def aDo(size bytes:Nat)(z:List Value):HC:=
 (.seq (.region [Oo 2 (.mov (.k (.slice none 0 0)))])
 (.seq (.seq (.region [Oo 3 (.mov (.t 0)),Oo 4 (.isnil false false (.t 3))])
 (.cond (.t 4) (.seq (.region [Oo 2 (.mov (.k (.slice none 0 0)))])
 .ret)
 .skip))
 (.seq (.region [Oo 5 (.bslc size 0 z []),Oo 6 (.mov (.t 0)),Oo 7 (.app size bytes z (.t 5) (.t 6)),Oo 2 (.mov (.t 7))])
 .ret)))
section
variable {P:Program} {G:aF} {call:aO}
theorem Z8:cB P G (fun _ _ _=>none):=fun f args hp av o' h=>by cases h
theorem Sw{size bytes:Nat}{z:List Value}{es:List (List DC)}{v4:AV}(h4:v4=dD (.bool false))(hz:0 < z.length)(hl:fM size es=true)(hb:es.length * bytes<=140737488355328):
  EC call G (.seq (.region [Oo 5 (.bslc size 0 z []),Oo 6 (.mov (.t 0)),Oo 7 (.app size bytes z (.t 5) (.t 6)),Oo 2 (.mov (.t 7))]) .ret)
   ⟨[.one (.dc (.slc es)),.junk,dD (.slice none 0 0),.one (.dc (.slc es)),v4,.junk,.junk,.junk],[]⟩=
  some (.ret,⟨[.one (.dc (.slc es)),.junk,.one (.bld 0 es.length),.one (.dc (.slc es)),v4,.one .junk,.one (.dc (.slc es)),.one (.bld 0 es.length)],[.arr 0 size es]⟩):=by
 subst h4;simp[go_sem,hl,hb]
theorem aDp{f:FuncId}{fn:Func}{size bytes:Nat}{z:List Value}{es:List (List DC)}(hf:P.funcs[f]?=some fn)(hn:fn.ntmps=8)
  (hc:fn.body.bind (bQ P)=some (aDo size bytes z).er) (hr:fn.results.toList.mapM (iH P)=some [.tmp 2])
  (hz:0 < z.length) (hl:fM size es=true) (hb:es.length * bytes<=140737488355328):
  AC P G f [.one (.dc (.slc es))] [] fun a o=>a=.one (.bld 0 es.length)/\o.map aN=[.arr 0 size es]:=by
 have hA:AC P G f [.one (.dc (.slc es))] [] fun a o=>(a=.one (.bld 0 es.length)/\o.map aN=[.arr 0 size es])\/(es=[]/\a=dD (.slice none 0 0)/\o=[]):=by
  refine AC.of_codeJ hf hn hc hr ?_;have rest:∀ b:Bool,(b=true->es=[])->AW P G 0 (.cond (.t 4) (.seq (.region [Oo 2 (.mov (.k (.slice none 0 0)))]) .ret) .skip)
    (Fh P G 0 (.seq (.region [Oo 5 (.bslc size 0 z []),Oo 6 (.mov (.t 0)),Oo 7 (.app size bytes z (.t 5) (.t 6)),Oo 2 (.mov (.t 7))]) .ret) (Fin 0 [.tmp 2] fun a o=>(a=.one (.bld 0 es.length)/\o.map aN=[.arr 0 size es])\/(es=[]/\a=dD (.slice none 0 0)/\o=[])))
    ⟨[.one (.dc (.slc es)),.junk,dD (.slice none 0 0),.one (.dc (.slc es)),dD (.bool b),.junk,.junk,.junk],[]⟩:=by
   intro b hb0;refine AW.cond (b:=b) rfl (fun h=>?_) (fun h=>?_)
   ·refine AW.seq (AW.region (WR.exX trivial rfl rfl (WR.nil ?_)));exact AW.ret (Fh.r (by unfold Fin;exact⟨.inr rfl,aWA _,_,rfl,.inr ⟨hb0 h,rfl,rfl⟩⟩))
   ·subst h;refine AW.skip (Fh.n ?_);refine (aKp (Z8 (P:=P) (G:=G)) (.seq (.region [Oo 5 (.bslc size 0 z []),Oo 6 (.mov (.t 0)),Oo 7 (.app size bytes z (.t 5) (.t 6)),Oo 2 (.mov (.t 7))]) .ret) _ .ret _ (Sw rfl hz hl hb) 0).mono ?_;rintro e s ⟨rfl,hs⟩;unfold Fin;refine⟨.inr rfl,aWA _,.one (.bld 0 es.length), ?_,.inl ⟨rfl,congrArg AS.hp hs⟩⟩;rw[<- Bo,hs];rfl
  refine AW.seq (AW.region (WR.exX trivial rfl rfl (WR.nil ?_)));refine AW.seqv (AW.seq (AW.region (WR.exX trivial rfl rfl ?_)));cases es with
  | nil=>exact WR.isnil0 trivial rfl rfl (fun b=>WR.nil (rest b (fun _=>rfl)))
  | cons e es=>exact WR.exX trivial rfl rfl (WR.nil (rest false (fun h=>by cases h)))
 refine hA.gh (fun a o h hl0=>?_)
 rcases h with⟨rfl,h⟩ | ⟨rfl,rfl,rfl⟩
 ·exact⟨_,_,Gh.refl,hl0,rfl,h⟩
 ·exact⟨_,_,Gh.nil (d:=0) size rfl,aWA _,rfl,rfl⟩
def aDq(size bytes:Nat):List AV->List aD->Option (AV × List aD)
 | [.one (.dc (.slc es))],[]=>if fM size es=true/\es.length * bytes<=140737488355328 then some (.one (.bld 0 es.length),[.arr 0 size es]) else none
 | _,_=>none
def Gb:List (FuncId × Nat × Nat)->aO
 | [],_,_,_=>none
 | (g,size,bytes)::L,f,args,hp=>if f=g then aDq size bytes args hp else Gb L f args hp
theorem Bv:∀ (L:List (FuncId × Nat × Nat)),(∀ e∈L,Uv P e.1=true/\∃ fn z,P.funcs[e.1]?=some fn/\fn.ntmps=8/\fn.body.bind (bQ P)=some (aDo e.2.1 e.2.2 z).er/\fn.results.toList.mapM (iH P)=some [.tmp 2]/\0 < z.length)->cB P G (Gb L)
 | [],_=>fun f args hp av o' h=>by cases h
 | (g,size,bytes)::L,hL=>fun f args hp av o' h hp0 hh=>by
  unfold Gb at h;split at h
  ·rename_i hf;subst hf;obtain⟨h1,fn,z,h2,h3,h4,h5,h6⟩:=hL _ aWy;refine⟨h1, ?_⟩;unfold aDq at h;split at h
   ·rename_i es;split at h
    ·rename_i hc;simp only[Option.some.injEq,Prod.mk.injEq] at h;obtain⟨rfl,rfl⟩:=h;have:hp0=[]:=by simpa using hh
     subst this;exact aDp h2 h3 h4 h5 h6 hc.1 hc.2
    ·cases h
   ·cases h
  ·exact Bv L (fun e he=>hL e (aWG _ he)) f args hp av o' h hp0 hh
end
end
section
open Go.RowKit
theorem Ab(k:Int):∀ (l:List MapEntry) (i:Nat),(∀ x∈l,∃ n,x.key=.int .i64 n/\n≠k)->Instr.findNow (.int .i64) (.int .i64 k) l i=some none
 | [],i,h=>rfl
 | e::l,i,h=>by
  obtain⟨n,h1,h2⟩:=h e aWy;have hne:(k==n)=false:=by simp;exact fun e=>h2 e.symm
  simp[Instr.findNow,Instr.sameNow,h1,hne,Ab k l (i+1) (fun x hx=>h x (aWG _ hx))]
theorem Ac{P:Program}{t kt et:TypeId}(ht:P.underlying t=some (.map kt et))(hk:P.underlying kt=some (.int .i64))(w:World)(es:Array MapEntry)(clk:Nat)(n:Int)(v:Value)
  (hn:∀ x∈es.toList,∃ m,x.key=.int .i64 m/\m≠n):
  (Instr.mapUpdate t (.map (some w.heap.size)) (.int .i64 n) v).run P (w.alloc (.map es clk))=.ok () (w.alloc (.map (es.push { key:=.int .i64 n,val:=v,born:=clk }) (clk+1))):=by
 have hb:(w.alloc (.map es clk)).heap[w.heap.size]?=some (.map es clk):=by
  show (w.heap.push _)[w.heap.size]?=_;simp
 have hgo:(getObj w.heap.size).run P (w.alloc (.map es clk))=.ok (.map es clk) (w.alloc (.map es clk)):=by simp only[getObj,Sem.run,hb]
 have hck:(Instr.checkKey false (9999+1) kt (.int .i64 n)).run P (w.alloc (.map es clk))=.ok () (w.alloc (.map es clk)):=by
  unfold Instr.checkKey;simp[run_underlying hk]
 have hfk:(Instr.findKey kt (.int .i64 n) es.toList).run P (w.alloc (.map es clk))=.ok none (w.alloc (.map es clk)):=by
  simp[Instr.findKey,run_underlying hk,Ab n es.toList 0 hn]
 have hset:∀ o,(setObj w.heap.size o).run P (w.alloc (.map es clk))=.ok () (w.alloc o):=by
  intro o;rw[MapKept.run_setObj_map o hb];have:(w.heap.push (.map es clk)).setIfInBounds w.heap.size o=w.heap.push o:=by
   apply Array.ext';simp
  show Result.ok () ({ w.alloc (.map es clk) with heap:=(w.heap.push (.map es clk)).setIfInBounds w.heap.size o }:World)=_
  rw[this];rfl
 simp[Instr.mapUpdate,run_underlying ht,hgo,hck,hfk,hset]
def tyL:List (Int × Value):=[(16,.bool true),(32,.bool false),(48,.bool true),(64,.bool false),(96,.bool true),(112,.bool true),(128,.bool false),(144,.bool true),(160,.bool false),(176,.bool false),(192,.bool false)]
def tyE:Array MapEntry:=#[⟨.int .i64 16,.bool true,0⟩,⟨.int .i64 32,.bool false,1⟩,⟨.int .i64 48,.bool true,2⟩,⟨.int .i64 64,.bool false,3⟩,⟨.int .i64 96,.bool true,4⟩,⟨.int .i64 112,.bool true,5⟩,⟨.int .i64 128,.bool false,6⟩,⟨.int .i64 144,.bool true,7⟩,⟨.int .i64 160,.bool false,8⟩,⟨.int .i64 176,.bool false,9⟩,⟨.int .i64 192,.bool false,10⟩]
set_option maxRecDepth 100000 in
set_option maxHeartbeats 1000000 in
theorem aIi(w:World):Calls Tryz.prog 281 #[] w fun e w'=>e=.returned (.map (some w.heap.size))/\w'=w.alloc (.map tyE 11):=by
 have hmm:=fun w=>run_makeMap_plain (P:=Tryz.prog) (w:=w) 231
 go_enter Tryz.func281,Tryz.ntmps281
 go_wp2
 iterate 11
  rw[Ac Tryz.underlying231 Tryz.underlying3]
  rotate_left
  ·simp
  simp only[Result.andThen]
  go_wp2
 go_ret
 exact⟨rfl,rfl⟩
set_option maxRecDepth 100000 in
theorem aRp(s:ByteArray)(c:Int)(w:World):
  Calls Tryz.prog 312 #[.string s,.int .u8 c] w fun e w'=>e=.returned (.int .i64 (Lib.indexByte s.data.toList c.toNat.toUInt8))/\w'=w:=by
 go_enter Tryz.func312,Tryz.ntmps312
 go_wp2
 rw[run_callFunc_extern Tryz.func336 (by kernel_rfl) (by kernel_rfl) (by kernel_rfl) (e:=Extern.BytealgIndexByte.indexByte) (by kernel_rfl),Lib.run_indexByteString];simp only[Result.andThen];rw[Oper.upon_value]
 go_wp2
 go_ret
 exact⟨rfl,rfl⟩
theorem aDr{γ:List OI}{hp:List aD}{F:Fz}{w:World}(hi:dC F γ hp w)(h:hp=[]):γ=[]:=aXl (by rw[hi.len,h];rfl)
theorem aIj{G:aF}:QC Tryz.prog G 281 [] (.one (.mpc tyL)):=by
 intro F γ vs w hi hg hv;have hγ:=aDr hi rfl;subst hγ;have hvs:vs=#[]:=Array.eq_empty_of_size_eq_zero hv.1;subst hvs;have hlt:∀ b o,F b=some o->b < w.heap.size:=fun b o h=>by
  have:=hi.fz b o h;exact (Array.getElem?_eq_some_iff.1 this).1
 have hold:∀ b,b < w.heap.size->(w.heap.push (.map tyE 11))[b]?=w.heap[b]?:=fun b hb=>by rw[Array.getElem?_push_lt hb,aWJ hb]
 refine (aIi w).mono ?_;rintro e w' ⟨rfl,rfl⟩;refine⟨_,_,[],fun b=>if b=w.heap.size then some (.map tyE 11) else F b,[],rfl,⟨rfl,rfl⟩,aWj _,⟨?_,rfl,rfl,rfl, ?_, ?_, ?_, ?_, ?_⟩,⟨?_,rfl, ?_, ?_, ?_⟩,.one _ _ (.mpc tyL w.heap.size 11 tyE (by simp) (by rfl) (by decide))⟩
 ·intro b o h;have:=hlt b o h;show (if b=w.heap.size then _ else F b)=_
  rw[if_neg (by omega)];exact h
 ·show w.heap.size<=(w.heap.push _).size;simp
 ·intro b hb _;exact hold b hb
 ·intro b o h;by_cases hb:b=w.heap.size
  ·exact .inr (.inl (by omega))
  ·simp only[if_neg hb] at h;exact .inl h
 ·intro i b h;simp[bX] at h
 ·intro i hi;exact absurd hi (Nat.not_lt_zero _)
 ·intro b o h;by_cases hb:b=w.heap.size
  ·subst hb;simp only[if_true] at h;rw[<- h];show (w.heap.push _)[w.heap.size]?=_;simp
  ·simp only[if_neg hb] at h;exact (hold b (hlt b o h)).trans (hi.fz b o h)
 ·intro i j b h;simp[bX] at h
 ·intro i b h;simp[bX] at h
 ·intro i o x h;simp at h
theorem aRq{G:aF}(s:ByteArray)(c:Int):QC Tryz.prog G 312 [.one (.dc (.raw (.string s))),.one (.dc (.raw (.int .u8 c)))] (.one (.dc (.raw (.int .i64 (Lib.indexByte s.data.toList c.toNat.toUInt8))))):=by
 intro F γ vs w hi hg hv;obtain⟨hz,hv⟩:=hv;have hγ:=aDr hi rfl;subst hγ;obtain⟨x,y,rfl⟩:∃ x y,vs=#[x,y]:=by
  obtain⟨l⟩:=vs
  match l,hz with
  | [x,y],_=>exact⟨x,y,rfl⟩
 have h1:=cM (hv 0 _ _ rfl rfl);have h2:=cM (hv 1 _ _ rfl rfl);subst h1;subst h2;refine (aRp s c w).mono ?_;rintro e w' ⟨rfl,rfl⟩;exact⟨_,_,[],F,[],rfl,⟨rfl,rfl⟩,aWj _,gA.refl _ _ _ _,hi,.one _ _ (.dc _ _ (.raw _ rfl))⟩
def tyK:List AV->List aD->Option (AV × List aD)
 | [],[]=>some (.one (.mpc tyL),[])
 | _,_=>none
def ixK:List AV->List aD->Option (AV × List aD)
 | [.one (.dc (.raw (.string s))),.one (.dc (.raw (.int .u8 c)))],[]=>some (.one (.dc (.raw (.int .i64 (Lib.indexByte s.data.toList c.toNat.toUInt8)))),[])
 | _,_=>none
def awK:List AV->List aD->Option (AV × List aD)
 | [],[]=>some (.one (.dc (.raw (.bool true))),[])
 | _,_=>none
def bs(b:Bool):aO:=fun f args hp=>if f=281 then tyK args hp else if f=312 then ixK args hp else if f=11 then (if b=true then awK args hp else none) else Gb [(219,2,16)] f args hp
theorem aKu{G:aF}{b:Bool}(hA:b=true->QC Tryz.prog G 11 [] (.one (.dc (.raw (.bool true))))):cB Tryz.prog G (bs b):=by
 intro f args hp av o' h hp0 hh;unfold bs at h;split at h
 ·rename_i hf;subst hf;unfold tyK at h;split at h
  ·injection h with h;injection h with h1 h2;subst h1;subst h2
   have:hp0=[]:=by simpa using hh
   subst this;exact⟨by kernel_rfl,aIj.gh (fun a o ⟨h1,h2⟩ _=>⟨a,o,Gh.refl,aWA _,h1,by rw[h2];rfl⟩)⟩
  ·cases h
 ·split at h
  ·rename_i hf;subst hf;unfold ixK at h;split at h
   ·injection h with h;injection h with h1 h2;subst h1;subst h2
    have:hp0=[]:=by simpa using hh
    subst this;exact⟨by kernel_rfl,(aRq _ _).gh (fun a o ⟨h1,h2⟩ _=>⟨a,o,Gh.refl,aWA _,h1,by rw[h2];rfl⟩)⟩
   ·cases h
  ·split at h
   ·rename_i hf;subst hf;split at h
    ·rename_i hb;unfold awK at h;split at h
     ·injection h with h;injection h with h1 h2;subst h1;subst h2
      have:hp0=[]:=by simpa using hh
      subst this;exact⟨by kernel_rfl,(hA hb).gh (fun a o ⟨h1,h2⟩ _=>⟨a,o,Gh.refl,aWA _,h1,by rw[h2];rfl⟩)⟩
     ·cases h
    ·cases h
   ·exact Bv [(219,2,16)] (fun e he=>by
     simp only[List.mem_singleton] at he;subst he;exact⟨by kernel_rfl,_,[Zi 0,Zi 0],Tryz.func219,Tryz.ntmps219,h219_ok,aG7,by decide⟩) f args hp av o' h hp0 hh
end
end Go.Proofs.YthepfneloomngaaGreatDoor
