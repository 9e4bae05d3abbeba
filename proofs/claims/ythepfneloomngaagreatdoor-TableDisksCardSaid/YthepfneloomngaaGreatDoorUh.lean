/- The bytes of an attribute, by the reference, and its error. Conditions: none. -/
import Derived.Test.YthepfneloomngaaGreatDoorUb
namespace Go.Proofs.YthepfneloomngaaGreatDoor
set_option linter.unusedSimpArgs false
set_option linter.unusedVariables false
set_option maxRecDepth 4000
section
variable {G:aF} {bb:Bool}
def yC(b:Int):aR:=cZ (.int .u8 b)
abbrev yb(l:List Int):aD:=.box (l.map yC)
theorem Lg(p:Nat->Bool)(l:List Int):(l.map yC).map (cE p)=l.map yC:=by rw[aWE];rfl
theorem jP(m:Nat)(l:List Int):Ic m (l.map yC)=l.map yC:=by rw[zX,Lg]
theorem nJ(m:Nat)(l:List Int):Se m (l.map yC)=l.map yC:=by rw[Ec,Lg]
theorem aNi(l:List Int):idsL (l.map yC)=[]:=by
 induction l with
 | nil=>rfl
 | cons b l ih=>rw[aWp,idsL,ih];rfl
theorem aRB(J:List Nat)(l:List Int):Aa J (l.map yC)=true:=by
 induction l with
 | nil=>rfl
 | cons b l ih=>rw[aWp,Aa,ih];rfl
theorem uK(ρ:Nat->Nat)(l:List Int):(l.map yC).map (iV ρ)=l.map yC:=by
 induction l with
 | nil=>rfl
 | cons b l ih=>rw[aWp,aWp,ih];rfl
theorem aIA(p:Nat->Bool)(l:List Int):keepL p (l.map yC)=true:=by
 induction l with
 | nil=>rfl
 | cons b l ih=>rw[aWp,keepL,ih];rfl
theorem aNj(id:Nat)(es:List (List DC))(l:List Int):(l.map yC).map (uO id es)=l.map yC:=by
 induction l with
 | nil=>rfl
 | cons b l ih=>rw[aWp,aWp,ih];rfl
theorem aDP(l:List Int)(k:Nat)(b:Int)(h:k < l.length):cO (l.map yC) k [.dc (.raw (.int .u8 b))]=(l.set k b).map yC:=by
 unfold cO;apply aXH;intro i;simp only[aWM];by_cases h1:i < k
 ·rw[aWv,aWx (by simp;omega),aXQ h1,aWz (by omega)]
 ·by_cases h2:i=k
  ·subst h2;rw[aWv,aWB (by simp;omega),aWI (by simpa using h)];simp[aXD (Nat.le_of_lt h)];rfl
  ·rw[aWB (by simp;omega),aWz (by omega),aWK];congr 1;simp;omega
attribute [go_sem] Lg jP nJ aNi aRB uK aIA aNj
theorem aNk{d:Option Nat}{st:AS}{id:Nat}{cs:List aR}:aCl d id st (some (.tup [],[.box cs]))=bif keepL (fun _=>true) cs then some (⟨aP st.sl d (.tup []),st.hp.set id (.box cs)⟩,[id],[id]) else none:=Eq.trans rfl rfl
attribute [go_sem] aNk
def aT(l:List Int)(a:Nat)(n:Int):Nat->List Int
 | 0=>l
 | k+1=>(aT l a n k).set (a+k) (H4 n k % 256)
theorem cV(l:List Int)(a:Nat)(n:Int)(k:Nat):(aT l a n k).length=l.length:=by
 induction k with
 | zero=>rfl
 | succ k ih=>simp[aT,ih]
theorem aRC(l:List Int)(a k:Nat)(n:Int)(h:a+k<=l.length)(hl:l.length<=1000000)(hn:-9223372036854775808<=n/\n<=9223372036854775807):
  EV G (Tb (bs bb)) 287 [.one (.bls 0 0 l.length 1),vi a,vi k,vi n] [yb l]=some (.tup [],[yb (aT l a n k)]):=by
 refine aA rfl ?_;simp (disch:=omega) only[go_sem,h287c];rw[aU (fun j=>⟨(.one (.bls 0 0 l.length 1)::vi a::jk 1 (vi (H4 n j)::jk 5 (vi k::vi j::jk 12 []))),[yb (aT l a n j)]⟩) k ?_ ?_]
 ·simp (disch:=omega) only[go_sem,h287l0]
 ·rfl
 ·intro j hj;have h1:=cV l a n j;have h2:=Sy n hn j;have h3:=aDP (aT l a n j) (a+j) (H4 n j % 256) (by omega);simp (disch:=omega) only[go_sem,h287l0,aWf,h1,wu8,Int.reduceToNat,Int.reducePow,Ek,H4,aT,h3]
theorem Wl(l:List Int)(a k:Nat)(n:Int)(N:Nat)(hN:l.length=N)(h:a+k<=N)(hl:N<=1000000)(hn:-9223372036854775808<=n/\n<=9223372036854775807):
  EV G (Tb (bs bb)) 287 [.one (.bls 0 0 N 1),vi a,vi k,vi n] [yb l]=some (.tup [],[yb (aT l a n k)]):=by
 subst hN;exact aRC l a k n h hl hn
theorem aKB(l:List Int)(n:Int)(N:Nat)(hN:l.length=N)(h:4<=N)(hl:N<=1000000)(hn:-9223372036854775808<=n/\n<=9223372036854775807):EV G (Tb (bs bb)) 287 [.one (.bls 0 0 N 1),vi 0,vi 4,vi n] [yb l]=some (.tup [],[yb (aT l 0 n 4)]):=Wl l 0 4 n N hN h hl hn
theorem aKC(l:List Int)(a:Int)(n:Int)(N:Nat)(hN:l.length=N)(ha:0<=a)(h:a+4<=N)(hl:N<=1000000)(hn:-9223372036854775808<=n/\n<=9223372036854775807):EV G (Tb (bs bb)) 287 [.one (.bls 0 0 N 1),vi a,vi 4,vi n] [yb l]=some (.tup [],[yb (aT l a.toNat n 4)]):=by
 have:=Wl (G:=G) (bb:=bb) l a.toNat 4 n N hN (by omega) hl hn;rwa[Int.toNat_of_nonneg ha] at this
theorem aKD(l:List Int)(a:Int)(n:Int)(N:Nat)(hN:l.length=N)(ha:0<=a)(h:a+2<=N)(hl:N<=1000000)(hn:-9223372036854775808<=n/\n<=9223372036854775807):EV G (Tb (bs bb)) 287 [.one (.bls 0 0 N 1),vi a,vi 2,vi n] [yb l]=some (.tup [],[yb (aT l a.toNat n 2)]):=by
 have:=Wl (G:=G) (bb:=bb) l a.toNat 2 n N hN (by omega) hl hn;rwa[Int.toNat_of_nonneg ha] at this
theorem aKE(l:List Int)(a:Int)(n:Int)(N:Nat)(hN:l.length=N)(ha:0<=a)(h:a+1<=N)(hl:N<=1000000)(hn:-9223372036854775808<=n/\n<=9223372036854775807):EV G (Tb (bs bb)) 287 [.one (.bls 0 0 N 1),vi a,vi 1,vi n] [yb l]=some (.tup [],[yb (aT l a.toNat n 1)]):=by
 have:=Wl (G:=G) (bb:=bb) l a.toNat 1 n N hN (by omega) hl hn;rwa[Int.toNat_of_nonneg ha] at this
def gT(b:List Int)(k:Nat)(s:List Int):List Int:=b.take k++s++b.drop (k+s.length)
theorem cN{b:List Int}{k:Nat}{s:List Int}(h:k+s.length<=b.length):(gT b k s).length=b.length:=by simp[gT];omega
theorem O8(s:List Int)(hB:aL s):dR (s.map u8)=s.map yC:=by
 unfold dR;rw[aWE];exact aWC (fun b hb=>by simp only[Function.comp_apply,yC,iD b (hB b hb)])
theorem nK(b s:List Int)(k n:Nat)(hB:aL s)(h:s.length<=n):cO (b.map yC) k (dR ((s.map u8).take n))=(gT b k s).map yC:=by
 rw[aWP (by simpa using h),O8 s hB];simp[cO,gT,aWW,aW2,aXt]
def zl(n:Nat):List Int:=List.replicate n 0
theorem bG(n:Nat):(zl n).length=n:=aWu
theorem Lh(n:Nat):List.replicate n (aR.dc (.raw (.int .u8 0)))=(zl n).map yC:=by rw[zl,List.map_replicate];rfl
theorem iZ(l:List Int):hP (l.map yC)=some (l.map u8):=by
 induction l with
 | nil=>rfl
 | cons b l ih=>simp only[aWp,yC,cZ,hP,u8] at ih ⊢;rw[ih];rfl
theorem Al(l:List Int)(n:Nat)(h:l.length<=n):(l.map yC).take n=l.map yC:=aWP (by simpa using h)
def Bc(a:aK):Nat:=if a.res=true then 24 else 40
def tR(a:aK):List Int:=if a.res=true then a.va else (Ak a.rs).1
def gY(a:aK):Nat:=(Bc a+a.nm.length+7) / 8 * 8
def iC(a:aK):Nat:=(gY a+(tR a).length+7) / 8 * 8
def O9(a:aK):List Int:=aT (aT (aT (aT (aT (aT (zl (iC a)) 0 a.ty 4) 4 (iC a) 4) 9 a.nm.length 1) 10 (Bc a) 2) 12 a.fl 2) 14 a.id 2
def Pa(a:aK):List Int:=if a.res=true then aT (aT (O9 a) 16 (tR a).length 4) 20 (gY a) 4
 else aT (aT (aT (aT (aT (aT (aT (O9 a) 8 1 1) 16 a.fi 4) 20 (a.fi+jO a.rs - 1) 4) 24 (gY a) 2) 28 a.al 4) 32 a.sz 4) 36 a.vd 4
def tU(a:aK):List Int:=gT (gT (Pa a) (Bc a) a.nm) (gY a) (tR a)
structure aK.Bd (a:aK):Prop where
 nm:aL a.nm
 va:aL a.va
 nl:a.nm.length<=1000
 vl:a.va.length<=1000
 rl:a.rs.length<=1000
 ty:-1000000000000<=a.ty/\a.ty<=1000000000000
 id:-1000000000000<=a.id/\a.id<=1000000000000
 fl:-1000000000000<=a.fl/\a.fl<=1000000000000
 fi:-1000000000000<=a.fi/\a.fi<=1000000000000
 al:-1000000000000<=a.al/\a.al<=1000000000000
 sz:-1000000000000<=a.sz/\a.sz<=1000000000000
 vd:-1000000000000<=a.vd/\a.vd<=1000000000000
 lw:-1000000000000<=jO a.rs/\jO a.rs<=1000000000000
theorem Jk(l:List bF):aL (Ak l).1/\(Ak l).1.length<=5 * 64+1:=by
 unfold Ak;by_cases c:Ae [l]=0
 ·have hc:(oQ l).2=0:=by rw[Oz] at c;exact c
  have hr:=Lf hc;have hlen:=oR hc;obtain⟨g1,g2,g3⟩:=El l (fun r hr'=>(hr r hr').1) l.length (aWj _)
  rw[Gp] at g1 g3;rw[if_neg (by simpa using c)];refine⟨fun b hb=>?_,by simp;omega⟩
  rcases aXy.1 hb with hb | hb
  ·exact g3 b hb
  ·have:=List.mem_singleton.1 hb;omega
 ·rw[if_pos c];exact⟨lS,by simp⟩
end
section
variable {G:aF} {bb:Bool}
theorem Pb(l:List Int)(n:Nat)(h:l.length<=n):hP ((l.map yC).take n)=some (l.map u8):=by rw[Al l n h,iZ]
theorem Gt(a:aK):(O9 a).length=iC a:=by simp only[O9,cV,bG]
set_option maxHeartbeats 4000000 in
theorem aAi(a:aK)(h:a.Bd)(hr:a.res=true):EV G (Tb (bs bb)) 238 [a.v] []=some (sv (tU a),[]):=by
 refine aA rfl ?_;obtain⟨hnm,hva,hnl,hvl,hrl,hty,hid,hfl,hfi,hal,hsz,hvd,hlw⟩:=h;have eh:Bc a=24:=by simp[Bc,hr]
 have eb:tR a=a.va:=by simp[tR,hr]
 have eA:Wi (24+(a.nm.length:Int))=((gY a:Nat):Int):=by simp only[Wi,gY,eh];omega
 have eN:Wi (((gY a:Nat):Int)+(a.va.length:Int))=((iC a:Nat):Int):=by simp only[Wi,iC,eb];omega
 have hA:24+a.nm.length<=gY a/\gY a<=2000:=by simp only[gY,eh];omega
 have hN:gY a+a.va.length<=iC a/\iC a<=4000:=by simp only[iC,eb];omega
 unfold tU Pa;rw[if_pos hr];have h6:=Gt a;unfold O9 at h6 ⊢;rw[eh,eb] at *;generalize gY a=A at *;generalize iC a=N at *;have hc1:=nK (aT (aT (aT (aT (aT (aT (aT (aT (zl N) 0 a.ty 4) 4 N 4) 9 a.nm.length 1) 10 24 2) 12 a.fl 2) 14 a.id 2) 16 a.va.length 4) 20 A 4) a.nm 24 (N - 24) hnm (by omega);have hc2:=nK (gT (aT (aT (aT (aT (aT (aT (aT (aT (zl N) 0 a.ty 4) 4 N 4) 9 a.nm.length 1) 10 24 2) 12 a.fl 2) 14 a.id 2) 16 a.va.length 4) 20 A 4) 24 a.nm) a.va A (N - A) hva (by omega);have hl1:(gT (aT (aT (aT (aT (aT (aT (aT (aT (zl N) 0 a.ty 4) 4 N 4) 9 a.nm.length 1) 10 24 2) 12 a.fl 2) 14 a.id 2) 16 a.va.length 4) 20 A 4) 24 a.nm).length=N:=by
  rw[cN (by simp only[cV,bG];omega)];simp only[cV,bG]
 have hl2:=cN (b:=gT (aT (aT (aT (aT (aT (aT (aT (aT (zl N) 0 a.ty 4) 4 N 4) 9 a.nm.length 1) 10 24 2) 12 a.fl 2) 14 a.id 2) 16 a.va.length 4) 20 A 4) 24 a.nm) (k:=A) (s:=a.va) (by omega);rw[hl1] at hl2;have e3:(A+(N - A)<=N)=True:=eq_true (by omega);simp (disch:=first | omega | (simp only[aWf,cV,bG]<;>omega)) only[go_sem,h238c,hr,uV,tA,eA,eN,Lh,aWf,aKB,aKE,aKD,aKC,Int.reduceToNat,aW6,cV,bG,hc1,hc2,hl1,e3,if_true,Pb,aW7,Option.toList_some,Option.toList_none,aWR,aWL]
set_option maxHeartbeats 4000000 in
theorem aAj(a:aK)(h:a.Bd)(hr:a.res=false):EV G (Tb (bs bb)) 238 [a.v] []=some (sv (tU a),[]):=by
 refine aA rfl ?_;obtain⟨hnm,hva,hnl,hvl,hrl,hty,hid,hfl,hfi,hal,hsz,hvd,hlw⟩:=h;have hr':¬ a.res=true:=by rw[hr];decide
 have eh:Bc a=40:=by simp[Bc,hr]
 have eb:tR a=(Ak a.rs).1:=by simp[tR,hr]
 obtain⟨hby,hbl⟩:=Jk a.rs;have q1:=aDJ (G:=G) (B:=bs bb) a.rs;have q2:=C4 (G:=G) (bb:=bb) a (by omega);simp only[aK.v,aK.c,hr] at q2;have eA:Wi (40+(a.nm.length:Int))=((gY a:Nat):Int):=by simp only[Wi,gY,eh];omega
 have eN:Wi (((gY a:Nat):Int)+((Ak a.rs).1.length:Int))=((iC a:Nat):Int):=by simp only[Wi,iC,eb];omega
 have hA:40+a.nm.length<=gY a/\gY a<=2000:=by simp only[gY,eh];omega
 have hN:gY a+(Ak a.rs).1.length<=iC a/\iC a<=4000:=by simp only[iC,eb];omega
 unfold tU Pa;rw[if_neg hr'];have h6:=Gt a;unfold O9 at h6 ⊢;rw[eh,eb] at *;generalize gY a=A at *;generalize iC a=N at *;generalize (Ak a.rs).1=C at *;have hc1:=nK (aT (aT (aT (aT (aT (aT (aT (aT (aT (aT (aT (aT (aT (zl N) 0 a.ty 4) 4 N 4) 9 a.nm.length 1) 10 40 2) 12 a.fl 2) 14 a.id 2) 8 1 1) 16 a.fi 4) 20 (a.fi+jO a.rs - 1) 4) 24 A 2) 28 a.al 4) 32 a.sz 4) 36 a.vd 4) a.nm 40 (N - 40) hnm (by omega);have hl1:(gT (aT (aT (aT (aT (aT (aT (aT (aT (aT (aT (aT (aT (aT (zl N) 0 a.ty 4) 4 N 4) 9 a.nm.length 1) 10 40 2) 12 a.fl 2) 14 a.id 2) 8 1 1) 16 a.fi 4) 20 (a.fi+jO a.rs - 1) 4) 24 A 2) 28 a.al 4) 32 a.sz 4) 36 a.vd 4) 40 a.nm).length=N:=by
  rw[cN (by simp only[cV,bG];omega)];simp only[cV,bG]
 have hc2:=nK (gT (aT (aT (aT (aT (aT (aT (aT (aT (aT (aT (aT (aT (aT (zl N) 0 a.ty 4) 4 N 4) 9 a.nm.length 1) 10 40 2) 12 a.fl 2) 14 a.id 2) 8 1 1) 16 a.fi 4) 20 (a.fi+jO a.rs - 1) 4) 24 A 2) 28 a.al 4) 32 a.sz 4) 36 a.vd 4) 40 a.nm) C A (N - A) hby (by omega);have hl2:=cN (b:=gT (aT (aT (aT (aT (aT (aT (aT (aT (aT (aT (aT (aT (aT (zl N) 0 a.ty 4) 4 N 4) 9 a.nm.length 1) 10 40 2) 12 a.fl 2) 14 a.id 2) 8 1 1) 16 a.fi 4) 20 (a.fi+jO a.rs - 1) 4) 24 A 2) 28 a.al 4) 32 a.sz 4) 36 a.vd 4) 40 a.nm) (k:=A) (s:=C) (by omega);rw[hl1] at hl2;have e3:(A+(N - A)<=N)=True:=eq_true (by omega);simp (disch:=first | omega | (simp only[aWf,cV,bG]<;>omega)) only[go_sem,h238c,hr,uV,tA,eA,eN,q1,q2,Lh,aWf,aKB,aKE,aKD,aKC,Int.reduceToNat,aW6,cV,bG,hc1,hc2,hl1,e3,if_true,Pb,aW7,Option.toList_some,Option.toList_none,aWR,aWL]
theorem B0(a:aK)(h:a.Bd):EV G (Tb (bs bb)) 238 [a.v] []=some (sv (tU a),[]):=by
 cases hr:a.res with
 | true=>exact aAi a h hr
 | false=>exact aAj a h hr
theorem lT(a:aK)(h:a.Bd):(tU a).length=iC a:=by
 have hbl:(tR a).length<=1000:=by
  unfold tR;split
  ·exact h.vl
  ·have:=(Jk a.rs).2;omega
 have h7:(Pa a).length=iC a:=by
  unfold Pa;split<;>simp only[cV,Gt]
 have hA:Bc a+a.nm.length<=gY a:=by unfold gY;omega
 have hN:gY a+(tR a).length<=iC a:=by unfold iC;omega
 have h8:(gT (Pa a) (Bc a) a.nm).length=iC a:=by rw[cN (by omega),h7]
 rw[tU,cN (by omega),h8]
end
section
variable {G:aF} {bb:Bool}
def S5(a:aK):Int:=if a.rs=[]/\a.fi=0/\a.al=0/\a.sz=0/\a.vd=0 then (if a.va.length > 400 then 8 else 0) else 3
def Pc(a:aK):Int:=
 if a.ty∈S1 then 20 else if a.va≠[] then 3 else if ¬(0<=a.fi/\a.fi<=4096) then 2 else if (oQ a.rs).2≠0 then (oQ a.rs).2
 else if a.fi > 0/\a.rs=[] then 17 else if a.fi+jO a.rs > 4096 then 8 else if a.fi > 0/\(a.al≠0\/a.sz≠0\/a.vd≠0) then 3
 else if ¬((0<=a.al/\a.al<=1048576)/\(0<=a.sz/\a.sz<=1048576)/\(0<=a.vd/\a.vd<=1048576)) then 2 else if a.vd > a.sz then 9 else 0
def Gu(a:aK):Int:=if a.res=true then S5 a else Pc a
def gU(a:aK):Int:=
 if a.ty∉S0 then 15 else if Wk a.nm=false then 4 else if ¬((0<=a.id/\a.id<=65535)/\(0<=a.fl/\a.fl<=7)) then 2
 else if Gu a≠0 then Gu a else if iC a > 440 then 16 else 0
structure aK.W (a:aK):Prop where
 nm:aL a.nm
 va:aL a.va
 nl:a.nm.length<=100000
 vl:a.va.length<=100000
 rl:a.rs.length<=100000
theorem rs0(l:List bF):((l.length:Int)=0)=(l=[]):=by
 apply propext;rw[<- List.length_eq_zero_iff];omega
theorem aDQ(a:aK):EV G (Tb (bs bb)) 236 [a.v] []=some (vi (S5 a),[]):=by
 refine aA rfl ?_;unfold S5;have e4:((a.va.length:Int)<=400)=(a.va.length<=400):=by apply propext;omega
 by_cases c1:a.rs=[]
 ·by_cases c2:a.fi=0
  ·by_cases c3:a.al=0
   ·by_cases c4:a.sz=0
    ·by_cases c5:a.vd=0
     ·rw[if_pos ⟨c1,c2,c3,c4,c5⟩];by_cases c6:a.va.length<=400
      ·rw[if_neg (by omega)];simp (disch:=omega) only[go_sem,h236c,aWf,rs0,eq_true c1,c2,c3,c4,c5,fQ,lR,eq_true c6];rfl
      ·rw[if_pos (by omega)];simp (disch:=omega) only[go_sem,h236c,aWf,rs0,eq_true c1,c2,c3,c4,c5,fQ,lR,e4,c6];rfl
     ·rw[if_neg (fun h=>c5 h.2.2.2.2)]
      simp (disch:=omega) only[go_sem,h236c,aWf,rs0,eq_true c1,c2,c3,c4,c5,fQ,lR];simp[aQ]
    ·rw[if_neg (fun h=>c4 h.2.2.2.1)]
     simp (disch:=omega) only[go_sem,h236c,aWf,rs0,eq_true c1,c2,c3,c4,fQ,lR];simp[aQ]
   ·rw[if_neg (fun h=>c3 h.2.2.1)]
    simp (disch:=omega) only[go_sem,h236c,aWf,rs0,eq_true c1,c2,c3,fQ,lR];simp[aQ]
  ·rw[if_neg (fun h=>c2 h.2.1)]
   simp (disch:=omega) only[go_sem,h236c,aWf,rs0,eq_true c1,c2,fQ,lR];simp[aQ]
 ·rw[if_neg (fun h=>c1 h.1)]
  simp (disch:=omega) only[go_sem,h236c,aWf,rs0,c1,fQ,lR];simp[aQ]
theorem aX(l:List Int):aQ (0::l)=aQ l:=rfl
theorem aZ(e:Int)(l:List Int)(h:e≠0):aQ (e::l)=e:=by rw[aQ,if_neg h]
theorem bI:aQ []=0:=rfl
def un(b:Bool)(e:Int):Int:=if b=true then 0 else e
theorem fY(e:Int):un true e=0:=rfl
theorem gH(e:Int):un false e=e:=rfl
theorem aV(b:Bool)(e:Int):EV G (Tb (bs bb)) 232 [vb b,vi e] []=some (vi (un b e),[]):=fQ b e
theorem mK(l:List bF):(0 < (l.length:Int))=(l≠[]):=by
 apply propext;have:=@List.length_eq_zero_iff _ l;constructor
 ·intro h e;rw[this.2 e] at h;omega
 ·intro h;have:l.length≠0:=fun e=>h (this.1 e);omega
def aIB(a:aK):Int:=aQ [un (!decide (a.fi > 0)||decide (a.rs≠[])) 17,un (decide (a.fi+jO a.rs<=4096)) 8,un (!decide (a.fi > 0)||!(decide (a.al≠0)||(decide (a.sz≠0)||decide (a.vd≠0)))) 3,
 un (decide (0<=a.al/\a.al<=1048576)&&(decide (0<=a.sz/\a.sz<=1048576)&&decide (0<=a.vd/\a.vd<=1048576))) 2,un (decide (a.vd<=a.sz)) 9]
theorem Gv{b:Bool}{p:Prop}[Decidable p]{e:Int}(h:p↔¬ b=true):un b e=if p then e else 0:=by
 unfold un;by_cases hb:b=true
 ·rw[if_pos hb,if_neg (fun hp=>h.1 hp hb)]
 ·rw[if_neg hb,if_pos (h.2 hb)]
theorem pM{p:Prop}[Decidable p]{e:Int}{l:List Int}(he:e≠0):aQ ((if p then e else 0)::l)=if p then e else aQ l:=by
 by_cases h:p
 ·rw[if_pos h,if_pos h,aZ e l he]
 ·rw[if_neg h,if_neg h,aX]
theorem aIC(a:aK):aIB a=if a.fi > 0/\a.rs=[] then 17 else if a.fi+jO a.rs > 4096 then 8 else if a.fi > 0/\(a.al≠0\/a.sz≠0\/a.vd≠0) then 3
 else if ¬((0<=a.al/\a.al<=1048576)/\(0<=a.sz/\a.sz<=1048576)/\(0<=a.vd/\a.vd<=1048576)) then 2 else if a.vd > a.sz then 9 else 0:=by
 unfold aIB;rw[Gv (p:=a.fi > 0/\a.rs=[]) (by simp),Gv (p:=a.fi+jO a.rs > 4096) (by simp),Gv (p:=a.fi > 0/\(a.al≠0\/a.sz≠0\/a.vd≠0)) (by simp only[Bool.or_eq_true,aXg,Bool.or_eq_false_iff,decide_eq_true_eq,decide_eq_false_iff_not];omega),
  Gv (p:=¬((0<=a.al/\a.al<=1048576)/\(0<=a.sz/\a.sz<=1048576)/\(0<=a.vd/\a.vd<=1048576))) (by simp only[aWs,decide_eq_true_eq]),Gv (p:=a.vd > a.sz) (by simp)]
 rw[pM (by decide),pM (by decide),pM (by decide),pM (by decide),pM (by decide),bI]
theorem aID(a:aK):Pc a=if a.ty∈S1 then 20 else if a.va≠[] then 3 else if ¬(0<=a.fi/\a.fi<=4096) then 2 else if (oQ a.rs).2≠0 then (oQ a.rs).2 else aIB a:=by
 rw[aIC];rfl
set_option maxHeartbeats 2000000 in
theorem aDR(a:aK)(hW:a.W)(ht:a.ty∈S0):EV G (Tb (bs bb)) 237 [a.v] []=some (vi (Pc a),[]):=by
 refine aA rfl ?_;rw[aID];have em:=O4 a.ty;rw[if_pos ht] at em;have ev:=gJ hW.va lS;have q1:=Lc (G:=G) (B:=bs bb) a.rs;have q2:=C4 (G:=G) (bb:=bb) a (by have:=hW.rl;omega);by_cases c1:a.ty∈S1
 ·rw[if_pos c1];rw[decide_eq_true c1] at em;simp (disch:=omega) only[go_sem,h237c,fE,em,bD,ev,aV,fY,gH,aX,aZ,bI,bU,bV]
 ·rw[if_neg c1];rw[decide_eq_false c1] at em;by_cases c2:a.va=[]
  ·rw[if_neg (by simpa using c2)];replace c2:=eq_true c2;by_cases c3:0<=a.fi/\a.fi<=4096
   ·rw[if_neg (fun h=>h c3)]
    have c3':=eq_true c3;by_cases c4:(oQ a.rs).2=0
    ·rw[if_neg (fun h=>h c4)]
     have hF:=Ah c4;have hl:=Eh a.rs (fun r hr=>(hF.el r hr).2.2) (by have:=hF.sum;omega)
     have hl2:=fW a.rs (fun r hr=>(hF.el r hr).2.2)
     have hl3:=hF.sum;rw[<- hl] at hl2 hl3;have fin:∀ L,L=[un (!decide (a.fi > 0)||decide (a.rs≠[])) 17,un (decide (a.fi+jO a.rs<=4096)) 8,un (!decide (a.fi > 0)||!(decide (a.al≠0)||(decide (a.sz≠0)||decide (a.vd≠0)))) 3,
       un (decide (0<=a.al/\a.al<=1048576)&&(decide (0<=a.sz/\a.sz<=1048576)&&decide (0<=a.vd/\a.vd<=1048576))) 2,un (decide (a.vd<=a.sz)) 9]->aQ L=aIB a:=fun L h=>by rw[h];rfl
     by_cases c5:a.fi > 0
     ·by_cases c6:a.al=0
      ·have c8:0<=a.al/\a.al<=1048576:=by omega
       by_cases c7:a.sz=0
       ·have c9:0<=a.sz/\a.sz<=1048576:=by omega
        simp (disch:=omega) only[go_sem,h237c,fE,em,bD,ev,aV,fY,gH,aX,aZ,bI,bU,bV,c2,c3',q1,c4,eq_true c5,eq_true c6,eq_true c8,eq_true c7,eq_true c9,aWf,mK];simp (disch:=omega) only[go_sem,q2,aV,iB,mK,fY,gH,eq_true c5,eq_true c6,eq_true c8,eq_true c7,eq_true c9];rw[fin _ (by simp[un,c5,c6,c8,c7,c9])]
       ·by_cases c9:0<=a.sz/\a.sz<=1048576
        ·simp (disch:=omega) only[go_sem,h237c,fE,em,bD,ev,aV,fY,gH,aX,aZ,bI,bU,bV,c2,c3',q1,c4,eq_true c5,eq_true c6,eq_true c8,c7,eq_true c9,aWf,mK];simp (disch:=omega) only[go_sem,q2,aV,iB,mK,fY,gH,eq_true c5,eq_true c6,eq_true c8,c7,eq_true c9];rw[fin _ (by simp[un,c5,c6,c8,c7,c9])]
        ·simp (disch:=omega) only[go_sem,h237c,fE,em,bD,ev,aV,fY,gH,aX,aZ,bI,bU,bV,c2,c3',q1,c4,eq_true c5,eq_true c6,eq_true c8,c7,c9,aWf,mK];simp (disch:=omega) only[go_sem,q2,aV,iB,mK,fY,gH,eq_true c5,eq_true c6,eq_true c8,c7,c9];rw[fin _ (by simp[un,c5,c6,c8,c7,c9])]
      ·by_cases c8:0<=a.al/\a.al<=1048576
       ·by_cases c9:0<=a.sz/\a.sz<=1048576
        ·simp (disch:=omega) only[go_sem,h237c,fE,em,bD,ev,aV,fY,gH,aX,aZ,bI,bU,bV,c2,c3',q1,c4,eq_true c5,c6,eq_true c8,eq_true c9,aWf,mK];simp (disch:=omega) only[go_sem,q2,aV,iB,mK,fY,gH,eq_true c5,c6,eq_true c8,eq_true c9];rw[fin _ (by simp[un,c5,c6,c8,c9])]
        ·simp (disch:=omega) only[go_sem,h237c,fE,em,bD,ev,aV,fY,gH,aX,aZ,bI,bU,bV,c2,c3',q1,c4,eq_true c5,c6,eq_true c8,c9,aWf,mK];simp (disch:=omega) only[go_sem,q2,aV,iB,mK,fY,gH,eq_true c5,c6,eq_true c8,c9];rw[fin _ (by simp[un,c5,c6,c8,c9])]
       ·simp (disch:=omega) only[go_sem,h237c,fE,em,bD,ev,aV,fY,gH,aX,aZ,bI,bU,bV,c2,c3',q1,c4,eq_true c5,c6,c8,aWf,mK];simp (disch:=omega) only[go_sem,q2,aV,iB,mK,fY,gH,eq_true c5,c6,c8];rw[fin _ (by simp[un,c5,c6,c8])]
     ·by_cases c6:a.al=0
      ·have c8:0<=a.al/\a.al<=1048576:=by omega
       by_cases c7:a.sz=0
       ·have c9:0<=a.sz/\a.sz<=1048576:=by omega
        simp (disch:=omega) only[go_sem,h237c,fE,em,bD,ev,aV,fY,gH,aX,aZ,bI,bU,bV,c2,c3',q1,c4,c5,eq_true c6,eq_true c8,eq_true c7,eq_true c9,aWf,mK];simp (disch:=omega) only[go_sem,q2,aV,iB,mK,fY,gH,c5,eq_true c6,eq_true c8,eq_true c7,eq_true c9];rw[fin _ (by simp[un,c5,c6,c8,c7,c9])]
       ·by_cases c9:0<=a.sz/\a.sz<=1048576
        ·simp (disch:=omega) only[go_sem,h237c,fE,em,bD,ev,aV,fY,gH,aX,aZ,bI,bU,bV,c2,c3',q1,c4,c5,eq_true c6,eq_true c8,c7,eq_true c9,aWf,mK];simp (disch:=omega) only[go_sem,q2,aV,iB,mK,fY,gH,c5,eq_true c6,eq_true c8,c7,eq_true c9];rw[fin _ (by simp[un,c5,c6,c8,c7,c9])]
        ·simp (disch:=omega) only[go_sem,h237c,fE,em,bD,ev,aV,fY,gH,aX,aZ,bI,bU,bV,c2,c3',q1,c4,c5,eq_true c6,eq_true c8,c7,c9,aWf,mK];simp (disch:=omega) only[go_sem,q2,aV,iB,mK,fY,gH,c5,eq_true c6,eq_true c8,c7,c9];rw[fin _ (by simp[un,c5,c6,c8,c7,c9])]
      ·by_cases c8:0<=a.al/\a.al<=1048576
       ·by_cases c9:0<=a.sz/\a.sz<=1048576
        ·simp (disch:=omega) only[go_sem,h237c,fE,em,bD,ev,aV,fY,gH,aX,aZ,bI,bU,bV,c2,c3',q1,c4,c5,c6,eq_true c8,eq_true c9,aWf,mK];simp (disch:=omega) only[go_sem,q2,aV,iB,mK,fY,gH,c5,c6,eq_true c8,eq_true c9];rw[fin _ (by simp[un,c5,c6,c8,c9])]
        ·simp (disch:=omega) only[go_sem,h237c,fE,em,bD,ev,aV,fY,gH,aX,aZ,bI,bU,bV,c2,c3',q1,c4,c5,c6,eq_true c8,c9,aWf,mK];simp (disch:=omega) only[go_sem,q2,aV,iB,mK,fY,gH,c5,c6,eq_true c8,c9];rw[fin _ (by simp[un,c5,c6,c8,c9])]
       ·simp (disch:=omega) only[go_sem,h237c,fE,em,bD,ev,aV,fY,gH,aX,aZ,bI,bU,bV,c2,c3',q1,c4,c5,c6,c8,aWf,mK];simp (disch:=omega) only[go_sem,q2,aV,iB,mK,fY,gH,c5,c6,c8];rw[fin _ (by simp[un,c5,c6,c8])]
    ·rw[if_pos c4];simp (disch:=omega) only[go_sem,h237c,fE,em,bD,ev,aV,fY,gH,aX,aZ,bI,bU,bV,c2,c3',q1,c4]
   ·rw[if_pos c3];simp (disch:=omega) only[go_sem,h237c,fE,em,bD,ev,aV,fY,gH,aX,aZ,bI,bU,bV,c2,c3]
  ·rw[if_pos c2];simp (disch:=omega) only[go_sem,h237c,fE,em,bD,ev,aV,fY,gH,aX,aZ,bI,bU,bV,c2]
end
section
variable {G:aF} {bb:Bool}
theorem aDS{n:Int}(h:n∈S0):0<=n/\n<=200:=by
 simp only[S0,aXn,aXF,or_false] at h;omega
theorem Wm{l:List Int}(h:Wk l=true):l.length<=32:=by
 unfold Wk at h;rcases of_decide_eq_true h with h | h
 ·subst h;simp
 ·exact h.2.1
theorem aDT{l:List bF}(h:(oQ l).2=0):l.length<=64/\0<=jO l/\jO l<=100000000:=by
 have hF:=Ah h;have hl:=Eh l (fun r hr=>(hF.el r hr).2.2) (by have:=hF.sum;omega)
 have hl2:=fW l (fun r hr=>(hF.el r hr).2.2)
 have hl3:=hF.sum;exact⟨oR h,by omega,by omega⟩
theorem Li{a:aK}(h:Pc a=0):a.ty∉S1/\a.va=[]/\(0<=a.fi/\a.fi<=4096)/\(oQ a.rs).2=0/\¬(a.fi > 0/\a.rs=[])/\a.fi+jO a.rs<=4096/\¬(a.fi > 0/\(a.al≠0\/a.sz≠0\/a.vd≠0))/\
  ((0<=a.al/\a.al<=1048576)/\(0<=a.sz/\a.sz<=1048576)/\(0<=a.vd/\a.vd<=1048576))/\a.vd<=a.sz:=by
 unfold Pc at h;split at h
 ·omega
 rename_i h1;split at h
 ·omega
 rename_i h2;split at h
 ·omega
 rename_i h3;split at h
 ·rename_i h4;exact absurd h h4
 rename_i h4;split at h
 ·omega
 rename_i h5;split at h
 ·omega
 rename_i h6;split at h
 ·omega
 rename_i h7;split at h
 ·omega
 rename_i h8;split at h
 ·omega
 rename_i h9;exact⟨h1,Classical.not_not.1 h2,Classical.not_not.1 h3,Classical.not_not.1 h4,h5,by omega,h7,Classical.not_not.1 h8,by omega⟩
theorem S6{a:aK}(h:S5 a=0):a.rs=[]/\a.fi=0/\a.al=0/\a.sz=0/\a.vd=0/\a.va.length<=400:=by
 unfold S5 at h;split at h
 ·rename_i h1;split at h
  ·omega
  ·obtain⟨h1,h2,h3,h4,h5⟩:=h1;exact⟨h1,h2,h3,h4,h5,by omega⟩
 ·omega
theorem aK.bd{a:aK}(hW:a.W)(h1:a.ty∈S0)(h2:Wk a.nm=true)(h3:(0<=a.id/\a.id<=65535)/\(0<=a.fl/\a.fl<=7))(h4:Gu a=0):a.Bd:=by
 have g1:=aDS h1;have g2:=Wm h2;unfold Gu at h4;split at h4
 ·obtain⟨q1,q2,q3,q4,q5,q6⟩:=S6 h4;have:jO a.rs=0:=by rw[q1];rfl
  exact⟨hW.nm,hW.va,by omega,by omega,by rw[q1];simp,by omega,by omega,by omega,by omega,by omega,by omega,by omega,by omega⟩
 ·obtain⟨q1,q2,q3,q4,q5,q6,q7,q8,q9⟩:=Li h4;obtain⟨c1,c2,c3⟩:=aDT q4;exact⟨hW.nm,hW.va,by omega,by rw[q2];simp,by omega,by omega,by omega,by omega,by omega,by omega,by omega,by omega,by omega⟩
theorem Am(a:aK)(hW:a.W):EV G (Tb (bs bb)) 188 [a.v] []=some (vi (gU a),[]):=by
 refine aA rfl ?_;have q1:=aDM (G:=G) (bb:=bb) a.ty;have q2:=aAh (G:=G) (bb:=bb) a.nm hW.nm (by have:=hW.nl;omega);unfold gU;by_cases c1:a.ty∈S0
 ·rw[if_neg (fun h=>h c1)]
  rw[decide_eq_true c1] at q1;cases c2:Wk a.nm with
  | false=>
   rw[c2] at q2;rw[if_pos rfl];by_cases d1:0<=a.id/\a.id<=65535
   ·simp (disch:=omega) only[go_sem,h188c,q1,q2,aV,fY,gH,aX,aZ,bI,bU,bV,eq_true d1]
   ·simp (disch:=omega) only[go_sem,h188c,q1,q2,aV,fY,gH,aX,aZ,bI,bU,bV,d1]
  | true=>
   rw[c2] at q2;rw[if_neg (by decide)];by_cases d1:0<=a.id/\a.id<=65535
   ·by_cases d2:0<=a.fl/\a.fl<=7
    ·rw[if_neg (fun h=>h ⟨d1,d2⟩)]
     have hbd:=fun h=>aK.bd hW c1 c2 ⟨d1,d2⟩ h
     have q5 (h):=B0 (G:=G) (bb:=bb) a (hbd h);have q6 (h):=lT a (hbd h);cases c3:a.res with
     | true=>
      have q4:=aDQ (G:=G) (bb:=bb) a;simp only[Gu,c3,if_true] at q5 q6 ⊢;simp only[aK.v,aK.c,c3] at q4 q5;by_cases c4:S5 a=0
      ·have e6:((iC a:Int)<=440)=(iC a<=440):=by apply propext;omega
       by_cases c5:iC a<=440
       ·rw[if_neg (fun h=>h c4),if_neg (by omega)]
        simp (disch:=omega) only[go_sem,h188c,q1,q2,aV,fY,gH,aX,aZ,bI,bU,bV,eq_true d1,eq_true d2,q4,c4,q5 c4,q6 c4,c3,eq_true c5,e6]
       ·rw[if_neg (fun h=>h c4),if_pos (by omega)]
        simp (disch:=omega) only[go_sem,h188c,q1,q2,aV,fY,gH,aX,aZ,bI,bU,bV,eq_true d1,eq_true d2,q4,c4,q5 c4,q6 c4,c3,c5,e6]
      ·rw[if_pos c4];simp (disch:=omega) only[go_sem,h188c,q1,q2,aV,fY,gH,aX,aZ,bI,bU,bV,eq_true d1,eq_true d2,q4,c4,c3]
     | false=>
      have q4:=aDR (G:=G) (bb:=bb) a hW c1;simp only[Gu,c3,if_false,aXx] at q5 q6 ⊢;simp only[aK.v,aK.c,c3] at q4 q5;by_cases c4:Pc a=0
      ·have e6:((iC a:Int)<=440)=(iC a<=440):=by apply propext;omega
       by_cases c5:iC a<=440
       ·rw[if_neg (fun h=>h c4),if_neg (by omega)]
        simp (disch:=omega) only[go_sem,h188c,q1,q2,aV,fY,gH,aX,aZ,bI,bU,bV,eq_true d1,eq_true d2,q4,c4,q5 c4,q6 c4,c3,eq_true c5,e6]
       ·rw[if_neg (fun h=>h c4),if_pos (by omega)]
        simp (disch:=omega) only[go_sem,h188c,q1,q2,aV,fY,gH,aX,aZ,bI,bU,bV,eq_true d1,eq_true d2,q4,c4,q5 c4,q6 c4,c3,c5,e6]
      ·rw[if_pos c4];simp (disch:=omega) only[go_sem,h188c,q1,q2,aV,fY,gH,aX,aZ,bI,bU,bV,eq_true d1,eq_true d2,q4,c4,c3]
    ·rw[if_pos (fun h=>d2 h.2)]
     simp (disch:=omega) only[go_sem,h188c,q1,q2,aV,fY,gH,aX,aZ,bI,bU,bV,eq_true d1,d2]
   ·rw[if_pos (fun h=>d1 h.1)]
    simp (disch:=omega) only[go_sem,h188c,q1,q2,aV,fY,gH,aX,aZ,bI,bU,bV,d1]
 ·rw[if_pos c1];rw[decide_eq_false c1] at q1;by_cases d1:0<=a.id/\a.id<=65535
  ·simp (disch:=omega) only[go_sem,h188c,q1,q2,aV,fY,gH,aX,aZ,bI,bU,bV,eq_true d1]
  ·simp (disch:=omega) only[go_sem,h188c,q1,q2,aV,fY,gH,aX,aZ,bI,bU,bV,d1]
end
section
variable {G:aF} {bb:Bool}
end
section
variable {G:aF} {bb:Bool}
def aAk(l:List Int):List Int:=l++List.replicate ((l.length+7) / 8 * 8 - l.length) 0
def rf1(a:aK):List Int:=cC (if a.res=true then 0 else 1) 1++cC a.nm.length 1++cC (Bc a) 2++cC a.fl 2++cC a.id 2
def rf2(a:aK):List Int:=if a.res=true then rf1 a++cC a.va.length 4++cC (gY a) 4
 else rf1 a++cC a.fi 4++cC ((a.fi+jO a.rs - 1) % 4294967296) 4++cC (gY a) 2++List.replicate 2 0++cC a.al 4++cC a.sz 4++cC a.vd 4
def rfb(a:aK):List Int:=if a.res=true then a.va else (nI a.rs).1++[0]
def rf3(a:aK):List Int:=aAk (rf2 a++a.nm++List.replicate (gY a - Bc a - a.nm.length) 0++rfb a)
def jA(a:aK):List Int:=cC a.ty 4++cC (iC a) 4++rf3 a
structure aK.Ok (a:aK):Prop where
 w:a.W
 ty:a.ty∈S0
 nm:Wk a.nm=true
 rg:(0<=a.id/\a.id<=65535)/\(0<=a.fl/\a.fl<=7)
 e:Gu a=0
theorem aDU{l:List bF}(h:(oQ l).2=0):(nI l).1.length<=320:=by
 obtain⟨g1,g2,g3⟩:=El l (fun r hr'=>(Lf h r hr').1) l.length (aWj _)
 rw[Gp] at g1;have:=oR h;omega
end
end Go.Proofs.YthepfneloomngaaGreatDoor
