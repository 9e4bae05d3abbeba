/- Mathematics of records and their blocks. Conditions: as each theorem says. -/
import Derived.Test.YtcplecjhmnblpaaGreatDoorTx
import Derived.Test.YtcplecjhmnblpaaGreatDoorVq
import Derived.Test.YtcplecjhmnblpaaGreatDoorWb
namespace Go.Proofs.YtcplecjhmnblpaaGreatDoor
set_option linter.unusedSimpArgs false
set_option linter.unusedVariables false
set_option maxRecDepth 4000
section
variable {G:aH} {bb:Bool}
theorem wM{b s:List Int}{k:Nat}(h:k+s.length<=b.length)(j:Nat):(kH b k s).getD j 0=if k<=j/\j < k+s.length then s.getD (j - k) 0 else b.getD j 0:=by
 unfold kH;simp only[aQl];split
 ·rename_i hj;rw[aQs,aQA (by rw[aQj];omega),aQj,Nat.min_eq_left (by omega),aQu (by omega)]
 ·rename_i hj;by_cases h1:j < k
  ·rw[aQs,aQu (by rw[aQj];omega),aRI h1]
  ·rw[aQA (by rw[aQc,aQj];omega),aQJ,aQc,aQj,Nat.min_eq_left (by omega)];congr 2;omega
theorem uH{a b:List Int}(hl:a.length=b.length)(h:∀ j,j < a.length->a.getD j 0=b.getD j 0):a=b:=by
 refine List.ext_getElem hl (fun j p q=>?_)
 have:=h j p;simpa[aQl,p,q] using this
theorem gtc{s:List Int}{a b:Nat}(h:a=b):s.getD a 0=s.getD b 0:=by rw[h]
theorem uI(s:List Int)(a n j:Nat)(hj:j < n):((s.drop a).take n).getD j 0=s.getD (a+j) 0:=by
 simp only[aQl,aRI hj,aQJ]
theorem Rs(n j:Nat):(zl n).getD j 0=0:=by
 simp only[zl,aQl,aRc];split<;>rfl
theorem aFo(n:Int)(j:Nat)(h:j < 2):(bU n 2).getD j 0=if j=0 then n % 256 else n / 256 % 256:=by
 rcases j with _ | _ | j
 ·rfl
 ·rfl
 ·omega
theorem Hn{a b:List Int}(j:Nat):(a++b).getD j 0=if j < a.length then a.getD j 0 else b.getD (j - a.length) 0:=by
 simp only[aQl];split
 ·rw[aQu (by assumption)]
 ·rw[aQA (by omega)]
abbrev gC(s:List Int)(a:Nat):List Int:=(s.drop a).take 2
theorem jP{s:List Int}{a:Nat}(h:a+2<=s.length):(gC s a).length=2:=by rw[aQj,aQr];omega
def lR(s:List Int)(n:Int):Nat->List Int
 | 0=>kH s 40 (bU n 2)
 | i+1=>kH (kH (lR s n i) (42+2 * i) (gC (lR s n i) (64 * i+62))) (64 * i+62) (bU n 2)
def Wh(s:List Int)(n:Int)(i j:Nat):Int:=
 if j=40 then n % 256 else if j=41 then n / 256 % 256 else if 42<=j/\j < 42+2 * i then s.getD (64 * ((j - 42) / 2)+62+(j - 42) % 2) 0
 else if j % 64=62/\j / 64 < i then n % 256 else if j % 64=63/\j / 64 < i then n / 256 % 256 else s.getD j 0
theorem mN{s:List Int}{n:Int}(hs:s.length=512):∀ i,i<=8->(lR s n i).length=512
 | 0,_=>by rw[lR,fK (by rw[aA];omega),hs]
 | i+1,h=>by
  have:=mN (n:=n) hs i (by omega);have c:=jP (s:=lR s n i) (a:=64 * i+62) (by omega);have l1:(kH (lR s n i) (42+2 * i) (gC (lR s n i) (64 * i+62))).length=512:=by rw[fK (by omega),this]
  rw[lR,fK (by rw[aA];omega),l1]
theorem Fe{s:List Int}{n:Int}(hs:s.length=512):∀ i,i<=8->∀ j,(lR s n i).getD j 0=Wh s n i j
 | 0,_,j=>by
  rw[lR,wM (by rw[aA];omega),aA];unfold Wh;split
  ·rename_i h;rw[aFo _ _ (by omega)];by_cases h1:j=40
   ·rw[if_pos (by omega),if_pos h1]
   ·rw[if_neg (by omega),if_neg h1,if_pos (by omega)]
  ·rw[if_neg (by omega),if_neg (by omega),if_neg (by omega),if_neg (by omega),if_neg (by omega)]
 | i+1,h,j=>by
  have hl:=mN (n:=n) hs i (by omega);have ih:=Fe (n:=n) hs i (by omega);have c:=jP (s:=lR s n i) (a:=64 * i+62) (by omega);have l1:(kH (lR s n i) (42+2 * i) (gC (lR s n i) (64 * i+62))).length=512:=by rw[fK (by omega),hl]
  rw[lR,wM (by rw[aA];omega),aA];split
  ·rename_i h1;rw[aFo _ _ (by omega)];unfold Wh;by_cases h2:j=64 * i+62
   ·rw[if_pos (by omega),if_neg (by omega),if_neg (by omega),if_neg (by omega),if_pos (by omega)]
   ·rw[if_neg (by omega),if_neg (by omega),if_neg (by omega),if_neg (by omega),if_neg (by omega),if_pos (by omega)]
  ·rename_i h1;rw[wM (by omega),c];split
   ·rename_i h2;rw[uI _ _ _ _ (by omega),ih];unfold Wh;rw[if_neg (by omega),if_neg (by omega),if_neg (by omega),if_neg (by omega),if_neg (by omega),if_neg (by omega),if_neg (by omega),if_pos (by omega)];exact gtc (by omega)
   ·rename_i h2;rw[ih];unfold Wh
    repeat' split
    all_goals first | rfl | (exfalso;omega)
def uL(s:List Int)(n:Int):Nat->List Int × List Int
 | 0=>(bU n 2,s)
 | i+1=>((uL s n i).1++gC (uL s n i).2 (64 * i+62),kH (uL s n i).2 (64 * i+62) (bU n 2))
theorem Rt{s:List Int}{n:Int}(hs:s.length=512):∀ i,i<=8->(uL s n i).2.length=512/\(uL s n i).1.length=2+2 * i/\(∀ j,(uL s n i).2.getD j 0=if j % 64=62/\j / 64 < i then n % 256 else if j % 64=63/\j / 64 < i then n / 256 % 256 else s.getD j 0)/\
  ∀ j,j < 2+2 * i->(uL s n i).1.getD j 0=if j=0 then n % 256 else if j=1 then n / 256 % 256 else s.getD (64 * ((j - 2) / 2)+62+(j - 2) % 2) 0
 | 0,_=>⟨hs,aA n 2,fun j=>by rw[if_neg (by omega),if_neg (by omega)];rfl,fun j hj=>by
   show (bU n 2).getD j 0=_;rw[aFo _ _ (by omega)];by_cases h:j=0
   ·rw[if_pos h,if_pos h]
   ·rw[if_neg h,if_neg h,if_pos (by omega)]⟩
 | i+1,h=>by
  obtain⟨l1,l2,g1,g2⟩:=Rt (n:=n) hs i (by omega);have c:=jP (s:=(uL s n i).2) (a:=64 * i+62) (by omega);refine⟨?_, ?_,fun j=>?_,fun j hj=>?_⟩
  ·rw[uL];show (kH _ _ _).length=512;rw[fK (by rw[aA];omega),l1]
  ·show ((uL s n i).1++gC (uL s n i).2 (64 * i+62)).length=_;rw[aQc,c,l2];omega
  ·rw[uL];show (kH _ _ _).getD j 0=_;rw[wM (by rw[aA];omega),aA];split
   ·rw[aFo _ _ (by omega)];by_cases h2:j=64 * i+62
    ·rw[if_pos (by omega),if_pos (by omega)]
    ·rw[if_neg (by omega),if_neg (by omega),if_pos (by omega)]
   ·rw[g1]
    repeat' split
    all_goals first | rfl | (exfalso;omega)
  ·show ((uL s n i).1++gC (uL s n i).2 (64 * i+62)).getD j 0=_;rw[Hn,l2];split
   ·rw[g2 j (by omega)]
   ·rw[uI _ _ _ _ (by omega),g1,if_neg (by omega),if_neg (by omega),if_neg (by omega),if_neg (by omega)];exact gtc (by omega)
theorem aFp{s:List Int}{n:Int}(hs:s.length=512):kH (uL s n 8).2 40 (uL s n 8).1=lR s n 8:=by
 obtain⟨l1,l2,g1,g2⟩:=Rt (n:=n) hs 8 (by omega);refine uH (by rw[fK (by omega),l1,mN hs 8 (by omega)]) (fun j _=>?_)
 rw[wM (by omega),l2,Fe hs 8 (by omega)];unfold Wh;split
 ·rw[g2 _ (by omega)];by_cases h1:j=40
  ·rw[if_pos (by omega),if_pos h1]
  ·by_cases h2:j=41
   ·rw[if_neg (by omega),if_pos (by omega),if_neg h1,if_pos h2]
   ·rw[if_neg (by omega),if_neg (by omega),if_neg h1,if_neg h2,if_pos (by omega)];exact gtc (by omega)
 ·rw[g1]
  repeat' split
  all_goals first | rfl | (exfalso;omega)
def zF(s:List Int):Nat->List Int
 | 0=>s
 | i+1=>kH (zF s i) (64 * i+62) (gC (zF s i) (42+2 * i))
def Vp(s:List Int)(i j:Nat):Int:=if 62<=j % 64/\j / 64 < i then s.getD (42+2 * (j / 64)+(j % 64 - 62)) 0 else s.getD j 0
theorem Cz{s:List Int}(hs:s.length=512):∀ i,i<=8->(zF s i).length=512/\∀ j,(zF s i).getD j 0=Vp s i j
 | 0,_=>⟨hs,fun j=>by unfold Vp;rw[if_neg (by omega)];rfl⟩
 | i+1,h=>by
  obtain⟨l1,g1⟩:=Cz hs i (by omega);have c:=jP (s:=zF s i) (a:=42+2 * i) (by omega);refine⟨by rw[zF,fK (by omega),l1],fun j=>?_⟩
  rw[zF,wM (by omega),c];split
  ·rw[uI _ _ _ _ (by omega),g1];unfold Vp;rw[if_neg (by omega),if_pos (by omega)];exact gtc (by omega)
  ·rw[g1];unfold Vp
   repeat' split
   all_goals first | rfl | (exfalso;omega)
def dN(s:List Int):List Int:=kH (zF s 8) 40 (zl 18)
theorem nY{s:List Int}(hs:s.length=512):(dN s).length=512:=by
 rw[dN,fK (by rw[bD,(Cz hs 8 (by omega)).1];omega),(Cz hs 8 (by omega)).1]
theorem Lf{s:List Int}(hs:s.length=512)(j:Nat):(dN s).getD j 0=if 40<=j/\j < 58 then 0 else Vp s 8 j:=by
 rw[dN,wM (by rw[bD,(Cz hs 8 (by omega)).1];omega),bD,Rs,(Cz hs 8 (by omega)).2]
def Oh(s:List Int):Nat->List Int
 | 0=>kH s 40 (zl 18)
 | i+1=>kH (Oh s i) (64 * i+62) (gC s (42+2 * i))
theorem aBv{s:List Int}(hs:s.length=512):∀ i,i<=8->(Oh s i).length=512/\∀ j,(Oh s i).getD j 0=if 40<=j/\j < 58 then 0 else Vp s i j
 | 0,_=>⟨by rw[Oh,fK (by rw[bD];omega),hs],fun j=>by rw[Oh,wM (by rw[bD];omega),bD,Rs];unfold Vp;rw[if_neg (by omega:¬ (62<=j % 64/\j / 64 < 0))]⟩
 | i+1,h=>by
  obtain⟨l1,g1⟩:=aBv hs i (by omega);have c:=jP (s:=s) (a:=42+2 * i) (by omega);refine⟨by rw[Oh,fK (by omega),l1],fun j=>?_⟩
  rw[Oh,wM (by omega),c];split
  ·rw[uI _ _ _ _ (by omega)];unfold Vp;rw[if_neg (by omega),if_pos (by omega)];exact gtc (by omega)
  ·rw[g1];unfold Vp
   repeat' split
   all_goals first | rfl | (exfalso;omega)
theorem aFq{s:List Int}(hs:s.length=512):Oh s 8=dN s:=by
 obtain⟨l1,g1⟩:=aBv hs 8 (by omega);exact uH (by rw[l1,nY hs]) (fun j _=>by rw[g1,Lf hs])
def dU(s:List Int):Int:=gL s 40 2
def Lg(s:List Int)(i:Nat):Prop:=dU s=0\/gC s (64 * i+62)≠gC s 40
def eP(s:List Int):Prop:=dU s≠0/\∀ i,i < 8->gC s (64 * i+62)=gC s 40
theorem jS{s:List Int}{a:Nat}(h:a+2<=s.length):gC s a=[s.getD a 0,s.getD (a+1) 0]:=by
 refine uH (jP h) (fun j hj=>?_)
 rw[jP h] at hj;rw[uI _ _ _ _ hj];rcases j with _ | _ | j
 ·rfl
 ·rfl
 ·omega
theorem Oi{s:List Int}{a:Nat}(h:a+2<=s.length):gL s a 2=s.getD a 0+256 * s.getD (a+1) 0:=by
 unfold gL;rw[show (s.drop a).take 2=gC s a from rfl,jS h]
 simp[gv]
theorem nZ{s:List Int}(hB:aM s)(j:Nat):0<=s.getD j 0/\s.getD j 0<=255:=by
 simp only[aQl];by_cases h:j < s.length
 ·rw[aQi h];exact hB _ (aQm h)
 ·rw[aQ7 (by omega)];simp
theorem aBw{s:List Int}(hs:s.length=512)(hB:aM s)(hw:eP s):lR (dN s) (dU s) 8=s:=by
 have l1:=nY hs;refine uH (by rw[mN l1 8 (by omega),hs]) (fun j hj=>?_)
 rw[mN l1 8 (by omega)] at hj;rw[Fe l1 8 (by omega)];have hu:dU s=s.getD 40 0+256 * s.getD 41 0:=Oi (by omega);have b0:=nZ hB 40;have b1:=nZ hB 41;have m0:dU s % 256=s.getD 40 0:=by omega
 have m1:dU s / 256 % 256=s.getD 41 0:=by omega
 clear hu b0 b1;have ht:∀ i,i < 8->s.getD (64 * i+62) 0=s.getD 40 0/\s.getD (64 * i+63) 0=s.getD 41 0:=fun i hi=>by
  have:=hw.2 i hi;rw[jS (by omega),jS (by omega)] at this;simpa using this
 generalize dU s=u at *;clear hB hw;unfold Wh;split
 ·rename_i h;rw[m0,h]
 split
 ·rename_i h;rw[m1,h]
 split
 ·rename_i h h2 h3;rw[Lf hs,if_neg (by omega)];unfold Vp;rw[if_pos (by omega)];exact gtc (by omega)
 split
 ·rename_i h;rw[m0,<- (ht (j / 64) (by omega)).1];exact gtc (by omega)
 split
 ·rename_i h;rw[m1,<- (ht (j / 64) (by omega)).2];exact gtc (by omega)
 ·rw[Lf hs,if_neg (by omega)];unfold Vp;rw[if_neg (by omega)]
theorem C0{s:List Int}{n:Int}(hs:s.length=512)(hz:∀ j,40<=j->j < 58->s.getD j 0=0)(hn:1<=n/\n<=65535):dN (lR s n 8)=s/\eP (lR s n 8)/\dU (lR s n 8)=n:=by
 have l1:=mN (n:=n) hs 8 (by omega);have g:=Fe (n:=n) hs 8 (by omega);have e0:(lR s n 8).getD 40 0=n % 256:=by rw[g];rfl
 have e1:(lR s n 8).getD 41 0=n / 256 % 256:=by rw[g];rfl
 have hu:dU (lR s n 8)=n:=by
  unfold dU;rw[Oi (by omega),e0,e1];omega
 refine⟨uH (by rw[nY l1,hs]) (fun j hj=>?_),⟨by omega,fun i hi=>?_⟩,hu⟩
 ·rw[nY l1] at hj;clear e0 e1 hu hn;rw[Lf l1];split
  ·rename_i h;rw[hz j h.1 h.2]
  ·unfold Vp;split
   ·rw[g];unfold Wh;rw[if_neg (by omega),if_neg (by omega),if_pos (by omega)];exact gtc (by omega)
   ·rw[g];unfold Wh;rw[if_neg (by omega),if_neg (by omega),if_neg (by omega),if_neg (by omega),if_neg (by omega)]
 ·rw[jS (by omega),jS (by omega),e0,e1,g,g];clear e0 e1 g l1 hu hn hz;unfold Wh;rw[if_neg (by omega),if_neg (by omega),if_neg (by omega),if_pos (by omega),if_neg (by omega),if_neg (by omega),if_neg (by omega),if_neg (by omega),if_pos (by omega)]
end
section
variable {G:aH} {bb:Bool}
structure bZ where
 sq:Int
 li:Int
 fl:Int
 br:Int
 bq:Int
 nx:Int
 ls:Int
 ats:List aE
abbrev bZ.c(r:bZ):List aR:=[.dc (ci r.sq),.dc (ci r.li),.dc (ci r.fl),.dc (ci r.br),.dc (ci r.bq),.dc (ci r.nx),.dc (ci r.ls),.dc (.slc (r.ats.map aE.e))]
abbrev bZ.v(r:bZ):AV:=.agg r.c
abbrev bZ.t(r:bZ):TV:=.agg r.c
def bZ.nil:bZ:=⟨0,0,0,0,0,0,0,[]⟩
structure bZ.W (r:bZ):Prop where
 at':∀ a∈r.ats,a.W
 ln:r.ats.length<=900
theorem bZ.nil_W:bZ.nil.W:=⟨fun a h=>(by cases h),by decide⟩
abbrev rcv(p:bZ × Int):AV:=.tup [p.1.t,.one (.dc (ci p.2))]
def Vq(a b:Int):Int:=if (0<=a/\a<=95)/\(1<=b/\b<=65535) then 0 else 2
def sC(a b:Int):Int:=if a=0/\b=0 then 0 else Vq a b
def iC(f:Int):Bool:=decide (f % 2=1)
def dV(l:List aE):Int:=(l.map fun a=>((eQ a).length:Int)).sum
def pO(r:bZ):Bool:=decide (1<=r.sq/\r.sq<=65535)&&(decide (0<=r.li/\r.li<=65535)&&(decide (0<=r.fl/\r.fl<=3)&&(decide (0<=r.nx/\r.nx<=65535)&&decide (0<=r.ls/\r.ls<=2147483647))))
def C1(r:bZ):Bool:=decide (r.fl=0)&&(decide (r.ats=[])&&(decide (r.li=0)&&(decide (r.br=0/\r.bq=0)&&decide (r.nx=0))))
def Lh(r:bZ):Int:=aS [un (pO r) 2,sC r.br r.bq,un (iC r.fl||C1 r) 3]
noncomputable def Ho(r:bZ):Int:=Cd (fun a=>decide (r.nx<=a.id)) r.ats
noncomputable def qQ(r:bZ):Int × Int:=if Lh r≠0 then (0,Lh r) else if (kV r.ats).2≠0 then kV r.ats else if 0<=Ho r then (Ho r,9) else (0,un (decide (dV r.ats<=440)) 16)
noncomputable def dG(r:bZ):Int:=(qQ r).2
def dQ(a:aE)(i:Int):aE:=⟨a.ty,a.nm,i,a.fl,a.res,a.va,a.fi,a.rs,a.al,a.sz,a.vd⟩
def D1(r:bZ)(a:aE):Bool:=!decide (a.ty=48)&&r.ats.any fun b=>nL a b
noncomputable def Li(r:bZ):Int:=aS [dG r,un (iC r.fl) 20,un (decide (r.nx < 65535)) 16]
def Ru(r:bZ)(a:aE):Int:=aS [hZ (dQ a r.nx),un (!D1 r a) 5,un (decide (r.ats.length < 32)) 8]
def qR(r:bZ)(a:aE):bZ:=⟨r.sq,r.li,r.fl,r.br,r.bq,r.nx+1,r.ls,dL (r.ats++[dQ a r.nx])⟩
noncomputable def Oj(r:bZ)(a:aE):bZ × Int:=if Li r≠0 then (.nil,Li r) else if Ru r a≠0 then (.nil,Ru r a) else if dV (qR r a).ats<=440 then (qR r a,0) else (.nil,16)
def Ol(r:bZ)(l:List aE):bZ:=⟨r.sq,r.li,r.fl,r.br,r.bq,r.nx,r.ls,l⟩
def kW(n:Int):Int:=n % 65535+1
def aFr(r:bZ):bZ:=⟨kW r.sq,0,0,0,0,0,r.ls,[]⟩
noncomputable def aFs(r:bZ):bZ × Int:=if aS [dG r,un (iC r.fl) 20]≠0 then (.nil,aS [dG r,un (iC r.fl) 20]) else (aFr r,0)
def aFt(q f a b:Int):Int:=aS [un (decide (1<=q/\q<=65535)&&(decide (f=1)||decide (f=3))) 2,sC a b]
def aJp(q f a b:Int):bZ × Int:=if aFt q f a b≠0 then (.nil,aFt q f a b) else (⟨q,0,f,a,b,0,0,[]⟩,0)
def rhd(r:bZ)(u:Int):List Int:=[70,73,76,69]++(zl 4++(bU r.ls 4++(zl 4++(bU r.sq 2++(bU r.li 2++(bU 64 2++(bU r.fl 2++(bU u 4++(bU 512 4++(bU r.br 4++(bU r.bq 2++bU r.nx 2)))))))))))
def pP:List Int:=[255,255,255,255]
def gS(r:bZ)(u:Int)(at':List Int):List Int:=rhd r u++(zl 24++(at'++(pP++zl (444 - at'.length))))
def fF(r:bZ):List Int:=(r.ats.map eQ).flatten
noncomputable def Vr(r:bZ)(u:Int):Int:=aS [dG r,un (decide (1<=u/\u<=65535)) 2]
def iO(r:bZ)(u:Int):List Int:=lR (gS r (68+(fF r).length) (fF r)) u 8
noncomputable def C2(r:bZ)(u:Int):List Int × Int:=if Vr r u≠0 then ([],Vr r u) else (iO r u,0)
def nN(s:List Int):Nat:=(gL s 4 4).toNat
def xS(s:List Int):Prop:=nN s % 8≠0\/nN s < 24\/s.length < nN s+4
instance (s:List Int):Decidable (xS s):=by unfold xS;infer_instance
def pQ:Nat->List Int->Option (List (List Int))
 | 0,_=>none
 | k+1,s=>if s.take 4=pP then some [] else if s.length < 24 then none else if xS s then none else (pQ k (s.drop (nN s))).map (s.take (nN s)::·)
def sD(s:List Int):Option (List (List Int)):=pQ (s.length+1) s
def dA(o:List Int)(l:List aE):bZ:=⟨gL o 16 2,gL o 18 2,gL o 22 2,gL o 32 4,gL o 36 2,gL o 38 2,gL o 8 4,l⟩
noncomputable def gO:List (List Int)->List aE × Int
 | []=>([],0)
 | p::t=>if (bH p).2≠0 then ([],(bH p).2) else if (gO t).2≠0 then ([],(gO t).2) else ((bH p).1::(gO t).1,0)
noncomputable def Lj(s:List Int)(ps:List (List Int)):bZ × Int × Int:=if gS (dA (dN s) []) (68+ps.flatten.length) ps.flatten≠dN s then (.nil,0,3) else if (gO ps).2≠0 then (.nil,0,(gO ps).2) else
 if dG (dA (dN s) (gO ps).1)≠0 then (.nil,0,dG (dA (dN s) (gO ps).1)) else (dA (dN s) (gO ps).1,dU s,0)
open Classical in
noncomputable def fG(s:List Int):bZ × Int × Int:=if s.length≠512 then (.nil,0,10) else if ¬ eP s then (.nil,0,31) else match sD ((dN s).drop 64) with
 | none=>(.nil,0,3)
 | some ps=>Lj s ps
end
section
variable {G:aH} {bb:Bool}
theorem C3{l:List aE}(h:(kV l).2=0):l.length<=32/\∀ k,k < l.length->kA l k=0:=by
 unfold kV at h;split at h
 ·exact absurd h (by decide)
 ·rename_i c;refine⟨by omega, ?_⟩;obtain⟨hk,hp,hn⟩:=bW (fun k=>kA l k≠0) l.length
  generalize ix (fun k=>kA l k≠0) l.length=m at *
  split at h
  ·rename_i hm;rcases hp with hp | ⟨_,hp⟩
   ·omega
   ·exact absurd h hp
  ·rename_i hm;exact fun k hk'=>Classical.not_not.1 (hn k (by omega))
theorem Lk{l:List aE}(h:(kV l).2=0):∀ k,k < l.length->jO l k=0:=by
 intro k hk;have h1:=(C3 h).2 k hk;by_cases h0:k=0
 ·subst h0;unfold kA at h1;rwa[if_pos rfl] at h1
 ·exact (Ce h0 hk h1).1
structure bZ.Ok (r:bZ):Prop where
 nb:pO r=true
 be:sC r.br r.bq=0
 us:(iC r.fl||C1 r)=true
 od:(kV r.ats).2=0
 gt:Ho r < 0
 nd:dV r.ats<=440
theorem sX{a b c:Int}(h:aS [a,b,c]=0):a=0/\b=0/\c=0:=by
 by_cases h1:a=0
 ·subst h1;rw[aP] at h;by_cases h2:b=0
  ·subst h2;rw[aP] at h;by_cases h3:c=0
   ·exact⟨rfl,rfl,h3⟩
   ·rw[aQ _ _ h3] at h;exact absurd h h3
  ·rw[aQ _ _ h2] at h;exact absurd h h2
 ·rw[aQ _ _ h1] at h;exact absurd h h1
theorem Hp{a b:Int}(h:aS [a,b]=0):a=0/\b=0:=by
 by_cases h1:a=0
 ·subst h1;rw[aP] at h;by_cases h2:b=0
  ·exact⟨rfl,h2⟩
  ·rw[aQ _ _ h2] at h;exact absurd h h2
 ·rw[aQ _ _ h1] at h;exact absurd h h1
theorem Hq{b:Bool}{e:Int}(he:e≠0)(h:un b e=0):b=true:=by
 cases b with
 | true=>rfl
 | false=>exact absurd h he
theorem kX{r:bZ}(h:dG r=0):r.Ok:=by
 unfold dG qQ at h;split at h
 ·rename_i c;exact absurd h c
 ·rename_i c;obtain⟨h1,h2,h3⟩:=sX (Classical.not_not.1 c);split at h
  ·rename_i d;exact absurd h d
  ·rename_i d;split at h
   ·exact absurd h (show ¬ (9:Int)=0 by decide)
   ·rename_i g;exact⟨Hq (by decide) h1,h2,Hq (by decide) h3,Classical.not_not.1 d,by omega,of_decide_eq_true (Hq (by decide) h)⟩
theorem bZ.Ok.num{r:bZ}(h:r.Ok):(1<=r.sq/\r.sq<=65535)/\(0<=r.li/\r.li<=65535)/\(0<=r.fl/\r.fl<=3)/\(0<=r.nx/\r.nx<=65535)/\(0<=r.ls/\r.ls<=2147483647):=by
 have:=h.nb;simpa only[pO,aQp,decide_eq_true_eq] using this
theorem bZ.Ok.base{r:bZ}(h:r.Ok):(0<=r.br/\r.br<=95)/\(0<=r.bq/\r.bq<=65535):=by
 have:=h.be;unfold sC Vq at this;split at this
 ·omega
 ·split at this
  ·omega
  ·exact absurd this (by decide)
theorem bZ.Ok.errs{r:bZ}(h:r.Ok):(∀ a∈r.ats,hZ a=0)/\(r.ats.map aE.id).Nodup:=(sS r.ats).1 (Lk h.od)
theorem bZ.Ok.ln{r:bZ}(h:r.Ok):r.ats.length<=32:=(C3 h.od).1
theorem Hr{a:aE}(hW:a.W)(h:hZ a=0):aM (eQ a)/\(eQ a).length=dX a/\24<=dX a/\dX a<=440/\dX a % 8=0/\(eQ a).take 4=bU a.ty 4/\gL (eQ a) 4 4=dX a:=by
 obtain⟨e1,e2,e3,e4⟩:=wL hW h;have hd:=(nX hW h).dc;have h24:24<=dX a:=by
  have o:=yQ a;have:24<=qN a:=by unfold qN;split<;>omega
  omega
 have e5:∃ t,fW a=bU a.ty 4++(bU (dX a) 4++t):=by
  unfold fW;exact⟨_,aQs ..⟩
 obtain⟨t,e5⟩:=e5;refine⟨by rw[e1];exact wJ hd,by rw[e1,e2],h24,e3,e4, ?_, ?_⟩
 ·rw[e1,e5,aRo (aA _ _)]
 ·rw[e1,e5,gJ _ _ _ _ (by rw[aA];omega),aA,aQZ,Hi _ _ _ (aA _ _),Wf _ (by omega)]
theorem Ff(l:List aE):(((l.map eQ).flatten.length:Nat):Int)=dV l:=by
 induction l with
 | nil=>rfl
 | cons a l ih=>
  unfold dV at ih ⊢;simp only[aQo,aQ5,aQc,List.sum_cons];omega
theorem wN{r:bZ}(h:r.Ok):(fF r).length<=440:=by
 have h1:=Ff r.ats;have h2:=h.nd;unfold fF;omega
theorem Fg{l:List (List Int)}(h:∀ p∈l,aM p):aM l.flatten:=fun x hx=>by
 obtain⟨p,hp,hx⟩:=List.mem_flatten.1 hx;exact h p hp x hx
def pbl(r:bZ)(at':List Int):List Int:=kH (aT (aT (aT (aT (aT (aT (aT (aT (aT (aT (kH (zl 512) 0 [70,73,76,69]) 8 r.ls 4) 16 r.sq 2) 18 r.li 2) 20 64 2) 22 r.fl 2) 24 (68+(at'.length:Int)) 4) 28 512 4) 32 r.br 4) 36 r.bq 2) 38 r.nx 2) 64 (at'++pP)
set_option maxHeartbeats 1000000 in
theorem aJr(r:bZ)(at':List Int)(h:at'.length<=444):pbl r at'=gS r (68+(at'.length:Int)) at':=by
 have eN:512=4+(4+(4+(4+(2+(2+(2+(2+(4+(4+(4+(2+(2+(24+((at'.length+4)+(444 - at'.length))))))))))))))):=by omega
 have eZ:zl 512=zl 4++(zl 4++(zl 4++(zl 4++(zl 2++(zl 2++(zl 2++(zl 2++(zl 4++(zl 4++(zl 4++(zl 2++(zl 2++(zl 24++(zl (at'.length+4)++zl (444 - at'.length))))))))))))))):=by
  conv=>lhs;rw[eN]
  simp only[Oc]
 unfold pbl gS rhd;rw[eZ,Hg _ _ _ _ rfl (by rw[bD];rfl)];simp (disch:=first | omega | (simp only[bD,aA,aQd,aQe]<;>omega) | fail) only[sW,xR,bD,aA,Nat.reduceSub,aQZ,aQd,aQe,Nat.reduceAdd]
 simp (disch:=first | omega | (simp only[bD,aA,aQd,aQe,aQc,pP]<;>omega) | fail) only[Cu,Hg,bD,aA,Nat.reduceSub,aQZ,aQd,aQe,Nat.reduceAdd]
 simp only[aQs]
theorem Hs(r:bZ)(u:Int):(rhd r u).length=40:=by
 simp only[rhd,aQc,bD,aA,aQd,aQe,Nat.reduceAdd]
theorem qH(r:bZ)(u:Int)(at':List Int)(h:at'.length<=444):(gS r u at').length=512:=by
 simp only[gS,aQc,Hs,bD,pP,aQd,aQe];omega
theorem Rv(r:bZ)(u:Int)(at':List Int)(j:Nat)(h1:40<=j)(h2:j < 58):(gS r u at').getD j 0=0:=by
 unfold gS;rw[Hn,Hs,if_neg (by omega),Hn,bD,if_pos (by omega),Rs]
theorem aBx(r:bZ)(u:Int)(at':List Int):(gS r u at').drop 64=at'++(pP++zl (444 - at'.length)):=by
 unfold gS;rw[<- aQs,List.drop_left' (by rw[aQc,Hs,bD])]
theorem Aj(n:Nat):aM (zl n):=fun x hx=>by
 have:=List.eq_of_mem_replicate hx;omega
theorem kY(n:Int):∀ k,aM (bU n k)
 | 0=>fun x hx=>by cases hx
 | k+1=>by
  rw[bU];refine bK (kY n k) (fun x hx=>?_)
  have:=List.mem_singleton.1 hx;omega
theorem Ak:aM pP:=fun x hx=>by
 simp[pP] at hx;omega
theorem wO(r:bZ)(u:Int)(at':List Int)(h:aM at'):aM (gS r u at'):=by
 unfold gS rhd;refine bK ?_ (bK (Aj _) (bK h (bK Ak (Aj _))));refine bK (fun x hx=>?_) ?_
 ·simp at hx;omega
 ·exact bK (Aj _) (bK (kY _ _) (bK (Aj _) (bK (kY _ _) (bK (kY _ _) (bK (kY _ _) (bK (kY _ _) (bK (kY _ _) (bK (kY _ _) (bK (kY _ _) (bK (kY _ _) (kY _ _)))))))))))
set_option maxHeartbeats 1000000 in
theorem aBy(r:bZ)(u:Int)(at':List Int):gL (gS r u at') 8 4=gv (bU r.ls 4)/\gL (gS r u at') 16 2=gv (bU r.sq 2)/\gL (gS r u at') 18 2=gv (bU r.li 2)/\gL (gS r u at') 22 2=gv (bU r.fl 2)/\gL (gS r u at') 24 4=gv (bU u 4)/\
  gL (gS r u at') 32 4=gv (bU r.br 4)/\gL (gS r u at') 36 2=gv (bU r.bq 2)/\gL (gS r u at') 38 2=gv (bU r.nx 2):=by
 unfold gS rhd;simp only[aQs];refine⟨?_, ?_, ?_, ?_, ?_, ?_, ?_, ?_⟩
 all_goals simp (disch:=first | omega | (simp only[bD,aA,aQd,aQe]<;>omega) | fail) only[gJ,Hi,bD,aA,Nat.reduceSub,aQZ,aQd,aQe,Nat.reduceAdd]
theorem Ll{r:bZ}(h:r.Ok)(u:Int)(at':List Int)(l:List aE):dA (gS r u at') l=Ol r l:=by
 obtain⟨n1,n2,n3,n4,n5⟩:=h.num;obtain⟨n6,n7⟩:=h.base;obtain⟨b1,b2,b3,b4,b5,b6,b7,b8⟩:=aBy r u at';unfold dA Ol;rw[b1,b2,b3,b4,b6,b7,b8,Wf _ (by omega),gv2 _ (by omega),gv2 _ (by omega),gv2 _ (by omega),Wf _ (by omega),gv2 _ (by omega),gv2 _ (by omega)]
theorem Ht:∀ (k:Nat) (s:List Int) (ps:List (List Int)),pQ k s=some ps->ps.flatten.length+4<=s.length/\s.take ps.flatten.length=ps.flatten/\(s.drop ps.flatten.length).take 4=pP/\∀ p∈ps,24<=p.length/\p.length<=s.length
 | 0,s,ps,h=>by cases h
 | k+1,s,ps,h=>by
  unfold pQ at h;split at h
  ·rename_i c;injection h with h
   subst h;have hl:(s.take 4).length=4:=by rw[c];rfl
   rw[aQj] at hl;refine⟨by simp only[List.flatten_nil,aQe];omega,rfl,c,fun p hp=>by cases hp⟩
  ·split at h
   ·cases h
   ·split at h
    ·cases h
    ·rename_i c1 c2 c3;obtain⟨qs,hq,rfl⟩:=Option.map_eq_some_iff.1 h;obtain⟨g1,g2,g3,g4⟩:=Ht k _ qs hq;unfold xS at c3;have hl:(s.take (nN s)).length=nN s:=by rw[aQj];omega
     rw[aQr] at g1;rw[aQ5,aQc,hl];refine⟨by omega, ?_, ?_,fun p hp=>?_⟩
     ·rw[List.take_add,g2]
     ·rw[<- aRt,g3]
     ·rcases List.mem_cons.1 hp with rfl | hp
      ·rw[hl];omega
      ·have:=g4 p hp;rw[aQr] at this;omega
theorem Rw:∀ (k m:Nat) (s:List Int),s.length < k->k<=m->pQ m s=pQ k s
 | 0,m,s,h,_=>by omega
 | k+1,0,s,_,h=>by omega
 | k+1,m+1,s,h,hm=>by
  unfold pQ;split
  ·rfl
  ·split
   ·rfl
   ·split
    ·rfl
    ·rename_i c1 c2 c3;unfold xS at c3;rw[Rw k m _ (by rw[aQr];omega) (by omega)]
theorem Rz(s:List Int):sD s=if s.take 4=pP then some [] else if s.length < 24 then none else if xS s then none else (sD (s.drop (nN s))).map (s.take (nN s)::·):=by
 show pQ (s.length+1) s=_;rw[pQ];split
 ·rfl
 ·split
  ·rfl
  ·split
   ·rfl
   ·rename_i c1 c2 c3;unfold xS at c3;rw[sD,Rw ((s.drop (nN s)).length+1) s.length _ (by omega) (by rw[aQr];omega)]
theorem aJs{n:Int}(h:n∈H3):bU n 4≠pP:=by
 intro e;have h1:gv (bU n 4)=gv pP:=by rw[e]
 have h2:0<=n/\n<=192:=by
  simp only[H3,List.mem_cons,List.not_mem_nil,or_false] at h;omega
 rw[Wf _ (by omega)] at h1;simp only[gv,pP] at h1;omega
theorem Lm(z:List Int):∀ l:List aE,(∀ a∈l,a.W/\hZ a=0)->sD ((l.map eQ).flatten++(pP++z))=some (l.map eQ)
 | [],_=>by
  rw[Rz,if_pos (by rfl)];rfl
 | a::l,h=>by
  obtain⟨hW,he⟩:=h a aQt;obtain⟨e1,e2,e3,e4,e5,e6,e7⟩:=Hr hW he;have ih:=Lm z l (fun b hb=>h b (aQE _ hb))
  rw[aQo,aQ5,aQs];have ht:4<=((l.map eQ).flatten++(pP++z)).length:=by
   simp only[aQc,pP,aQd,aQe];omega
  generalize (l.map eQ).flatten++(pP++z)=t at *;have hty:=(nX hW he).ty;have n1:nN (eQ a++t)=dX a:=by
   have g:gL (eQ a++t) 4 4=gL (eQ a) 4 4:=by
    unfold gL;rw[List.drop_append_of_le_length (by omega),aRK (by rw[aQr];omega)]
   unfold nN;rw[g,e7];omega
  have hlen:(eQ a++t).length=dX a+t.length:=by rw[aQc,e2]
  rw[Rz,if_neg,if_neg,if_neg,n1,List.drop_left' e2,ih,aRo e2]
  ·rfl
  ·unfold xS;rw[n1];omega
  ·omega
  ·rw[aRK (by omega),e6];exact aJs hty
theorem Ln:∀ l:List aE,(∀ a∈l,a.W/\hZ a=0)->gO (l.map eQ)=(l,0)
 | [],_=>rfl
 | a::l,h=>by
  obtain⟨hW,he⟩:=h a aQt;have ih:=Ln l (fun b hb=>h b (aQE _ hb))
  have e:bH (eQ a)=(a,0):=by rw[(wL hW he).1,Vo hW he]
  rw[aQo,gO,e,ih];rfl
theorem R0:∀ ps:List (List Int),(∀ p∈ps,aM p/\p.length<=1000)->((gO ps).2=0->(gO ps).1.map eQ=ps/\∀ a∈(gO ps).1,hZ a=0)/\(∀ a∈(gO ps).1,a.W)/\(gO ps).1.length<=ps.length/\((gO ps).2≠0->(gO ps).1=[])
 | [],_=>⟨fun _=>⟨rfl,fun a h=>by cases h⟩,fun a h=>(by cases h),aQf _,fun _=>rfl⟩
 | p::t,h=>by
  obtain⟨hB,hl⟩:=h p aQt;obtain⟨i1,i2,i3,i4⟩:=R0 t (fun q hq=>h q (aQE _ hq))
  have d0:=aFm hB hl;have dW:=(aFl hB hl).1;rw[gO];split
  ·rename_i c;exact⟨fun e=>absurd e c,fun a h=>(by cases h),aQD _,fun _=>rfl⟩
  ·rename_i c;split
   ·rename_i c2;exact⟨fun e=>absurd e c2,fun a h=>(by cases h),aQD _,fun _=>rfl⟩
   ·rename_i c2;obtain⟨z1,z2⟩:=d0 (Classical.not_not.1 c);obtain⟨j1,j2⟩:=i1 (Classical.not_not.1 c2);refine⟨fun _=>⟨by rw[aQo,z2,j1],fun a ha=>?_⟩,fun a ha=>?_,by simpa using i3,fun e=>absurd rfl e⟩
    ·rcases List.mem_cons.1 ha with rfl | ha
     ·exact z1
     ·exact j2 a ha
    ·rcases List.mem_cons.1 ha with rfl | ha
     ·exact dW
     ·exact i2 a ha
theorem Om{s:List Int}(hs:s.length=512)(hB:aM s)(hw:eP s):1<=dU s/\dU s<=65535:=by
 have h1:=uE hB 40;have h2:=hw.1;unfold dU at h2 ⊢;omega
theorem C4{s:List Int}(hs:s.length=512)(hB:aM s):aM (dN s):=by
 intro x hx;obtain⟨j,hj,rfl⟩:=List.mem_iff_getElem.1 hx;have e:(dN s)[j]=(dN s).getD j 0:=by simp[aQl,hj]
 rw[e,Lf hs];split
 ·omega
 ·unfold Vp;split
  ·exact nZ hB _
  ·exact nZ hB _
theorem aBz{s:List Int}(hs:s.length=512)(hB:aM s)(hw:eP s)(b:List Int)(hb:b.length<=444):(gS (dA (dN s) []) (68+(b.length:Int)) b=dN s)↔(gL (dN s) 24 4=68+b.length/\lR (gS (dA (dN s) []) (gL (dN s) 24 4) b) (dU s) 8=s):=by
 constructor
 ·intro h;have g:=(aBy (dA (dN s) []) (68+(b.length:Int)) b).2.2.2.2.1;rw[h,Wf _ (by omega)] at g;refine⟨g, ?_⟩;rw[g,h,aBw hs hB hw]
 ·rintro⟨h1,h2⟩;rw[h1] at h2;have hl:=qH (dA (dN s) []) (68+(b.length:Int)) b hb;have q:=(C0 (n:=dU s) hl (fun j a c=>Rv _ _ _ j a c) (Om hs hB hw)).1
  rw[h2] at q;exact q.symm
end
end Go.Proofs.YtcplecjhmnblpaaGreatDoor
