/- Part. Conditions: none. -/
import Derived.Test.YtalhnjjchkmfeaaGreatDoorTu
import Derived.Test.YtalhnjjchkmfeaaGreatDoorUg
namespace Go.Proofs.YtalhnjjchkmfeaaGreatDoor
set_option maxHeartbeats 4000000
set_option linter.unusedSimpArgs false
set_option linter.unusedVariables false
set_option maxRecDepth 4000
section
variable {G:aF}{bb:Bool}
theorem rU{b s:L Int}{k:Nat}(h:k+s.length<=b.length)(j:Nat):(fE b k s).getD j 0=if k<=j/\j<k+s.length then s.getD (j-k) 0 else b.getD j 0:=by
 unfold fE;simp only[aZN];split;rename_i c;rw[aZP,aZ0 (by rw[aZD];omega),aZD,bAt (by omega),aZU (by omega)];rename_i c;by_cases a:j<k;rw[aZP,aZU (by rw[aZD];omega),bBh a];rw[aZ0 (by rw[aZA,aZD];omega),aZ9,aZA,aZD,bAt (by omega)];congr 2;omega
theorem Fq{a b:L Int}(c:a.length=b.length)(h:∀j,j<a.length->a.getD j 0=b.getD j 0):a=b:=by
 refine List.ext_getElem c (fun j p q=>?_)
 have:=h j p;simpa[aZN,p,q] using this
theorem gtc{s:L Int}{a b:Nat}(h:a=b):s.getD a 0=s.getD b 0:=by rw[h]
theorem Fr(s:L Int)(a n j:Nat)(b:j<n):((s.drop a).take n).getD j 0=s.getD (a+j) 0:=by
 simp only[aZN,bBh b,aZ9]
theorem aBb(n j:Nat):(zl n).getD j 0=0:=by
 simp only[zl,aZN,bAG];split<;>rfl
theorem aDw(n:Int)(j:Nat)(h:j<2):(bJ n 2).getD j 0=if j=0 then n % 256 else n / 256 % 256:=by
 rcases j with _|_|j;rfl;rfl;omega
theorem Yq{a b:L Int}(j:Nat):(a++b).getD j 0=if j<a.length then a.getD j 0 else b.getD (j-a.length) 0:=by
 simp only[aZN];split;rw[aZU (by assumption)];rw[aZ0 (by omega)]
abbrev gZ(s:L Int)(a:Nat):L Int:=(s.drop a).take 2
theorem kV{s:L Int}{a:Nat}(h:a+2<=s.length):(gZ s a).length=2:=by rw[aZD,aZK];omega
def nD(s:L Int)(n:Int):Nat->L Int
 |0=>fE s 40 (bJ n 2)
 |i+1=>fE (fE (nD s n i) (42+2*i) (gZ (nD s n i) (64*i+62))) (64*i+62) (bJ n 2)
def ptG(s:L Int)(n:Int)(i j:Nat):Int:=
 if j=40 then n % 256 else if j=41 then n / 256 % 256 else if 42<=j/\j<42+2*i then s.getD (64*((j-42) / 2)+62+(j-42) % 2) 0
 else if j % 64=62/\j / 64<i then n % 256 else if j % 64=63/\j / 64<i then n / 256 % 256 else s.getD j 0
theorem oP{s:L Int}{n:Int}(b:s.length=512):∀i,i<=8->(nD s n i).length=512
 |0,_=>by rw[nD,cJ (by rw[aA];omega),b]
 | i+1,h=>by
  have:=oP (n:=n) b i (by omega);have c:=kV (s:=nD s n i) (a:=64 * i+62) (by omega);have d:(fE (nD s n i) (42+2 * i) (gZ (nD s n i) (64 * i+62))).length=512:=by rw[cJ (by omega),this]
  rw[nD,cJ (by rw[aA];omega),d]
theorem N3{s:L Int}{n:Int}(e:s.length=512):∀i,i<=8->∀j,(nD s n i).getD j 0=ptG s n i j
 | 0,_,j=>by
  rw[nD,rU (by rw[aA];omega),aA];unfold ptG;split
  ·rename_i h;rw[aDw _ _ (by omega)];by_cases b:j=40
   ·rw[if_pos (by omega),if_pos b]
   ·rw[if_neg (by omega),if_neg b,if_pos (by omega)]
  ·rw[if_neg (by omega),if_neg (by omega),if_neg (by omega),if_neg (by omega),if_neg (by omega)]
 | i+1,h,j=>by
  have g:=oP (n:=n) e i (by omega);have f:=N3 (n:=n) e i (by omega);have c:=kV (s:=nD s n i) (a:=64 * i+62) (by omega);have k:(fE (nD s n i) (42+2 * i) (gZ (nD s n i) (64 * i+62))).length=512:=by rw[cJ (by omega),g]
  rw[nD,rU (by rw[aA];omega),aA];split
  ·rename_i b;rw[aDw _ _ (by omega)];unfold ptG;by_cases d:j=64 * i+62
   ·rw[if_pos (by omega),if_neg (by omega),if_neg (by omega),if_neg (by omega),if_pos (by omega)]
   ·rw[if_neg (by omega),if_neg (by omega),if_neg (by omega),if_neg (by omega),if_neg (by omega),if_pos (by omega)]
  ·rename_i b;rw[rU (by omega),c];split
   ·rename_i d;rw[Fr _ _ _ _ (by omega),f];unfold ptG;rw[if_neg (by omega),if_neg (by omega),if_neg (by omega),if_neg (by omega),if_neg (by omega),if_neg (by omega),if_neg (by omega),if_pos (by omega)];exact gtc (by omega)
   ·rename_i d;rw[f];unfold ptG
    repeat' split
    all_goals first | rfl | (exfalso;omega)
def Cu(s:L Int)(n:Int):Nat->L Int×L Int
 |0=>(bJ n 2,s)
 |i+1=>((Cu s n i).1++gZ (Cu s n i).2 (64*i+62),fE (Cu s n i).2 (64*i+62) (bJ n 2))
theorem aBc{s:L Int}{n:Int}(d:s.length=512):∀i,i<=8->(Cu s n i).2.length=512/\(Cu s n i).1.length=2+2*i/\(∀j,(Cu s n i).2.getD j 0=if j % 64=62/\j / 64<i then n % 256 else if j % 64=63/\j / 64<i then n / 256 % 256 else s.getD j 0)/\ ∀j,j<2+2*i->(Cu s n i).1.getD j 0=if j=0 then n % 256 else if j=1 then n / 256 % 256 else s.getD (64*((j-2) / 2)+62+(j-2) % 2) 0
 | 0,_=>⟨d,aA n 2,fun j=>by rw[if_neg (by omega),if_neg (by omega)];rfl,fun j g=>by
   show (bJ n 2).getD j 0=_;rw[aDw _ _ (by omega)];by_cases h:j=0
   ·rw[if_pos h,if_pos h]
   ·rw[if_neg h,if_neg h,if_pos (by omega)]⟩
 | i+1,h=>by
  obtain⟨k,e,b,f⟩:=aBc (n:=n) d i (by omega);have c:=kV (s:=(Cu s n i).2) (a:=64 * i+62) (by omega);refine⟨?_, ?_,fun j=>?_,fun j g=>?_⟩
  ·rw[Cu];show (fE _ _ _).length=512;rw[cJ (by rw[aA];omega),k]
  ·show ((Cu s n i).1++gZ (Cu s n i).2 (64 * i+62)).length=_;rw[aZA,c,e];omega
  ·rw[Cu];show (fE _ _ _).getD j 0=_;rw[rU (by rw[aA];omega),aA];split
   ·rw[aDw _ _ (by omega)];by_cases l:j=64 * i+62
    ·rw[if_pos (by omega),if_pos (by omega)]
    ·rw[if_neg (by omega),if_neg (by omega),if_pos (by omega)]
   ·rw[b]
    repeat' split
    all_goals first | rfl | (exfalso;omega)
  ·show ((Cu s n i).1++gZ (Cu s n i).2 (64 * i+62)).getD j 0=_;rw[Yq,e];split
   ·rw[f j (by omega)]
   ·rw[Fr _ _ _ _ (by omega),b,if_neg (by omega),if_neg (by omega),if_neg (by omega),if_neg (by omega)];exact gtc (by omega)
theorem aMk{s:L Int}{n:Int}(b:s.length=512):fE (Cu s n 8).2 40 (Cu s n 8).1=nD s n 8:=by
 obtain⟨f,g,d,e⟩:=aBc (n:=n) b 8 (by omega);refine Fq (by rw[cJ (by omega),f,oP b 8 (by omega)]) (fun j _=>?_)
 rw[rU (by omega),g,N3 b 8 (by omega)];unfold ptG;split;rw[e _ (by omega)];by_cases a:j=40;rw[if_pos (by omega),if_pos a];by_cases c:j=41;rw[if_neg (by omega),if_pos (by omega),if_neg a,if_pos c];rw[if_neg (by omega),if_neg (by omega),if_neg a,if_neg c,if_pos (by omega)];exact gtc (by omega)
 ·rw[d]
  repeat' split
  all_goals first|rfl|(exfalso;omega)
def Hg(s:L Int):Nat->L Int
 |0=>s
 |i+1=>fE (Hg s i) (64*i+62) (gZ (Hg s i) (42+2*i))
def opG(s:L Int)(i j:Nat):Int:=if 62<=j % 64/\j / 64<i then s.getD (42+2*(j / 64)+(j % 64-62)) 0 else s.getD j 0
theorem Kv{s:L Int}(d:s.length=512):∀i,i<=8->(Hg s i).length=512/\∀j,(Hg s i).getD j 0=opG s i j
 |0,_=>⟨d,fun j=>by unfold opG;rw[if_neg (by omega)];rfl⟩
 | i+1,h=>by
  obtain⟨e,b⟩:=Kv d i (by omega);have c:=kV (s:=Hg s i) (a:=42+2 * i) (by omega);refine⟨by rw[Hg,cJ (by omega),e],fun j=>?_⟩
  rw[Hg,rU (by omega),c];split
  ·rw[Fr _ _ _ _ (by omega),b];unfold opG;rw[if_neg (by omega),if_pos (by omega)];exact gtc (by omega)
  ·rw[b];unfold opG
   repeat' split
   all_goals first | rfl | (exfalso;omega)
def eQ(s:L Int):L Int:=fE (Hg s 8) 40 (zl 18)
theorem qK{s:L Int}(a:s.length=512):(eQ s).length=512:=by
 rw[eQ,cJ (by rw[aS,(Kv a 8 (by omega)).1];omega),(Kv a 8 (by omega)).1]
theorem Uv{s:L Int}(a:s.length=512)(j:Nat):(eQ s).getD j 0=if 40<=j/\j<58 then 0 else opG s 8 j:=by
 rw[eQ,rU (by rw[aS,(Kv a 8 (by omega)).1];omega),aS,aBb,(Kv a 8 (by omega)).2]
def Yr(s:L Int):Nat->L Int
 |0=>fE s 40 (zl 18)
 |i+1=>fE (Yr s i) (64*i+62) (gZ s (42+2*i))
theorem aHM{s:L Int}(b:s.length=512):∀i,i<=8->(Yr s i).length=512/\∀j,(Yr s i).getD j 0=if 40<=j/\j<58 then 0 else opG s i j
 |0,_=>⟨by rw[Yr,cJ (by rw[aS];omega),b],fun j=>by rw[Yr,rU (by rw[aS];omega),aS,aBb];unfold opG;rw[if_neg (by omega:¬ (62<=j % 64/\j / 64<0))]⟩
 | i+1,h=>by
  obtain⟨e,d⟩:=aHM b i (by omega);have c:=kV (s:=s) (a:=42+2 * i) (by omega);refine⟨by rw[Yr,cJ (by omega),e],fun j=>?_⟩
  rw[Yr,rU (by omega),c];split
  ·rw[Fr _ _ _ _ (by omega)];unfold opG;rw[if_neg (by omega),if_pos (by omega)];exact gtc (by omega)
  ·rw[d];unfold opG
   repeat' split
   all_goals first | rfl | (exfalso;omega)
theorem aMl{s:L Int}(a:s.length=512):Yr s 8=eQ s:=by
 obtain⟨c,b⟩:=aHM a 8 (by omega);exact Fq (by rw[c,qK a]) (fun j _=>by rw[b,Uv a])
def gR(s:L Int):Int:=gL s 40 2
def Uw(s:L Int)(i:Nat):Prop:=gR s=0\/gZ s (64*i+62)≠gZ s 40
def gU(s:L Int):Prop:=gR s≠0/\∀i,i<8->gZ s (64*i+62)=gZ s 40
theorem nE{s:L Int}{a:Nat}(h:a+2<=s.length):gZ s a=[s.getD a 0,s.getD (a+1) 0]:=by
 refine Fq (kV h) (fun j b=>?_)
 rw[kV h] at b;rw[Fr _ _ _ _ b];rcases j with _|_|j
 rfl;rfl;omega
theorem aHN{s:L Int}{a:Nat}(h:a+2<=s.length):gL s a 2=s.getD a 0+256*s.getD (a+1) 0:=by
 unfold gL;rw[show (s.drop a).take 2=gZ s a from rfl,nE h]
 simp[gv]
theorem qL{s:L Int}(a:aJ s)(j:Nat):0<=s.getD j 0/\s.getD j 0<=255:=by
 simp only[aZN];by_cases h:j<s.length;rw[aZJ h];exact a _ (aZG h);rw[bAK (by omega)];simp
theorem aHO{s:L Int}(a:s.length=512)(b:aJ s)(e:gU s):nD (eQ s) (gR s) 8=s:=by
 have c:=qK a;refine Fq (by rw[oP c 8 (by omega),a]) (fun j n=>?_)
 rw[oP c 8 (by omega)] at n;rw[N3 c 8 (by omega)];have o:gR s=s.getD 40 0+256*s.getD 41 0:=aHN (by omega);have k:=qL b 40;have l:=qL b 41;have f:gR s % 256=s.getD 40 0:=by omega
 have g:gR s / 256 % 256=s.getD 41 0:=by omega
 clear o k l;have d:∀ i,i < 8->s.getD (64 * i+62) 0=s.getD 40 0/\s.getD (64 * i+63) 0=s.getD 41 0:=fun i m=>by
  have:=e.2 i m;rw[nE (by omega),nE (by omega)] at this;simpa using this
 generalize gR s=u at *;clear b e;unfold ptG;split;rename_i h;rw[f,h];split;rename_i h;rw[g,h];split;rename_i h p h3;rw[Uv a,if_neg (by omega)];unfold opG;rw[if_pos (by omega)];exact gtc (by omega);split;rename_i h;rw[f,<- (d (j / 64) (by omega)).1];exact gtc (by omega);split;rename_i h;rw[g,<- (d (j / 64) (by omega)).2];exact gtc (by omega);rw[Uv a,if_neg (by omega)];unfold opG;rw[if_neg (by omega)]
theorem Ux{s:L Int}{n:Int}(d:s.length=512)(k:∀j,40<=j->j<58->s.getD j 0=0)(f:1<=n/\n<=65535):eQ (nD s n 8)=s/\gU (nD s n 8)/\gR (nD s n 8)=n:=by
 have c:=oP (n:=n) d 8 (by omega);have g:=N3 (n:=n) d 8 (by omega);have a:(nD s n 8).getD 40 0=n % 256:=by rw[g];rfl
 have b:(nD s n 8).getD 41 0=n / 256 % 256:=by rw[g];rfl
 have e:gR (nD s n 8)=n:=by
  unfold gR;rw[aHN (by omega),a,b];omega
 refine⟨Fq (by rw[qK c,d]) (fun j l=>?_),⟨by omega,fun i m=>?_⟩,e⟩
 rw[qK c] at l;clear a b e f;rw[Uv c];split;rename_i h;rw[k j h.1 h.2];unfold opG;split;rw[g];unfold ptG;rw[if_neg (by omega),if_neg (by omega),if_pos (by omega)];exact gtc (by omega);rw[g];unfold ptG;rw[if_neg (by omega),if_neg (by omega),if_neg (by omega),if_neg (by omega),if_neg (by omega)];rw[nE (by omega),nE (by omega),a,b,g,g];clear a b g c e f k;unfold ptG;rw[if_neg (by omega),if_neg (by omega),if_neg (by omega),if_pos (by omega),if_neg (by omega),if_neg (by omega),if_neg (by omega),if_neg (by omega),if_pos (by omega)]
end
section
variable {G:aF}{bb:Bool}
theorem aDy(n a b:Int):EV G (Tb (bs bb)) 207 [vi n,vi a,vi b] []=some (vb (decide (a<=n/\n<=b)),[]):=by
 refine aB rfl ?_;by_cases h:a<=n;all_goals simp (disch:=omega) only[go_sem,h207c]
 all_goals simp[h]
theorem N4(b:Bool)(e:Int):EV G (Tb (bs bb)) 100 [vb b,vi e] []=some (vi (un b e),[]):=by
 refine aB rfl ?_;cases b;all_goals simp (disch:=omega) only[go_sem,h100c]
 all_goals rfl
theorem aHP(l:L Int)(g:l.length<=1000):EV G (Tb (bs bb)) 99 [vl (el l)] []=some (vi (aU l),[]):=by
 refine aB rfl ?_;simp (disch:=omega) only[go_sem,h99c,aZz];have a:∀ k (b:k < l.length),¬ l.getD k 0≠0->Lt [5,0,0] 0 (EC (EV G (Tb (bs bb))) G h99l0 ⟨(jk 5 (vl (el l)::vi l.length::vi k::jk 7 [])),[]⟩)=some ⟨(jk 5 (vl (el l)::vi l.length::vi (k+1:Nat)::jk 7 [])),[]⟩:=fun k b f=>by
  rw[bU l k b] at f;simp (disch:=omega) only[go_sem,h99l0,aZz,uC]
 rcases Py (fun k=>l.getD k 0≠0) l.length with h|⟨j,e,c,d⟩
 rw[aT (fun k=>⟨(jk 5 (vl (el l)::vi l.length::vi k::jk 7 [])),[]⟩) l.length ?_ ?_]
 rw[iI l h];simp (disch:=omega) only[go_sem,h99l0];rfl;exact fun k b=>a k b (h k b)
 rw[aT (fun k=>⟨(jk 5 (vl (el l)::vi l.length::vi k::jk 7 [])),[]⟩) j ?_ ?_]
 rw[kH l j e d c];rw[bU l j e] at c;simp (disch:=omega) only[go_sem,h99l0,aZz,uC];rfl;exact fun k b=>a k (by omega) (d k b)
theorem aHQ(a b:Int):EV G (Tb (bs bb)) 99 [vl [[ci a],[ci b]]] []=some (vi (aU [a,b]),[]):=aHP [a,b] (by simp)
theorem Uy(l:L Int):EV G (Tb (bs bb)) 191 [sv l] []=some (vi (un (decide (l.length=512)) 10),[]):=by
 refine aB rfl ?_;have u:=N4 (G:=G) (bb:=bb);have e:((l.length:Int)=512)=(l.length=512):=by apply propext;omega
 simp (disch:=omega) only[go_sem,h191c,u,e]
theorem Ys(i:Nat)(h:i<=1000):EV G (Tb (bs bb)) 196 [vi i] []=some (vi ((64*i+62:Nat):Int),[]):=by
 refine aB rfl ?_;have e:((i:Int)+1)*64-2=((64*i+62:Nat):Int):=by omega
 simp (disch:=omega) only[go_sem,h196c,e]
theorem aDz(n:Int)(h:-9223372036854775808<=n/\n<=9223372036854775807):EV G (Tb (bs bb)) 208 [vi n] []=some (sv (bJ n 2),[]):=by
 refine aB rfl ?_;have e:bJ n 2=[n % 256,n / 256 % 256]:=rfl;rw[e];simp (disch:=omega) only[go_sem,h208c,wu8,Hy,Int.reduceToNat,Int.reducePow,A4,gF,u8,dI,aZL,aZM];rfl
theorem orC(n b:Int)(d:0<=n/\n<=255)(c:0<=b/\b<=255):Xu .i64 b (n*256)=b+256*n:=by
 have a:Xu .i64 b (n*256)=Xu .i64 (n*256) b:=by
  unfold Xu;rw[BitVec.or_comm]
 rw[a,orL n b (by omega) c];omega
theorem N5(x y:Int)(d:0<=x/\x<=255)(e:0<=y/\y<=255):EV G (Tb (bs bb)) 193 [sv [x,y]] []=some (vi (x+256*y),[]):=by
 refine aB rfl ?_;have c:aJ [x,y]:=fun b a=>by
  rcases bAQ.1 a with rfl | a
  ·exact d
  ·rw[List.mem_singleton.1 a];exact e
 have f:Gz (sv [x,y]) 0=some (vu x):=aGR [x,y] c 0 (by simp);have g:Gz (sv [x,y]) 1=some (vu y):=aGR [x,y] c 1 (by simp);have o:=orC y x e d;simp (disch:=omega) only[go_sem,h193c,f,g,o,Int.reduceToNat,Int.reducePow]
theorem aVD(b:L Int):(List.map A4 b).all (fun e=>decide (e.length=1))=true:=by
 rw[bA0];intro e a;obtain⟨x,_,rfl⟩:=List.mem_map.1 a;rfl
theorem aOd(b:L Int)(i:Nat)(h:i+2<=b.length)(d:b.length<=1000000):EV G (Tb (bs bb)) 194 [vl (bl b),vi i] []=some (sv (gZ b i),[]):=by
 refine aB rfl ?_;have e:((b.map A4).take (i+2)).drop i=(gZ b i).map A4:=by
  rw[bAo,bAV,List.take_drop,Nat.add_comm]
 have c:((i:Int)+2).toNat=i+2:=by omega
 have a:=aVD b;simp (disch:=omega) only[go_sem,h194c,aZz,c,e,a,aGS]
theorem byS(n:Int):∀k,aJ (bJ n k)
 |0=>fun b a=>by cases a
 | k+1=>fun b a=>by
  rw[bJ,bAY] at a;rcases a with a | a
  ·exact byS n k b a
  ·rw[List.mem_singleton.1 a];omega
theorem Cp:∀b:L Int,kY (List.map A4 b).flatten=b.map yC
 |[]=>rfl
 | x::b=>by
  have a:=Cp b;rw[aZL,bAx,aZL,<- a];rfl
theorem nQ(b:L Int)(h:aJ b):iA (dI b)=List.map A4 b:=by
 show List.map _ (b.map u8)=_;rw[aZ5];exact aZ1 fun x a=>by simp only[Function.comp_apply,A4,iB x (h x a)]
theorem aQX(b:L Int)(a n:Nat):dA (b.map yC) a (List.replicate n (cK (.int .u8 0)))=(fE b a (zl n)).map yC:=by
 have:List.replicate n (cK (.int .u8 0))=(zl n).map yC:=P5 n;rw[this];simp[dA,fE,bAg,bAo,bAV]
theorem N6{b:L Int}{n:Nat}(h:b.length=n)(a:0<n):(List.map A4 b).isEmpty=false:=by
 cases b with
 |nil=>simp at h;omega
 |cons _ _=>rfl
theorem aVF(l:L Int)(i j:Int)(h:0<=i/\i<=j/\j<=l.length):Lx (sv l) (some (vi i)) (some (vi j))=some (sv ((l.take j.toNat).drop i.toNat)):=by
 have a:0<=j:=by omega
 have h3:i<=(j.toNat:Int):=by omega
 simp only[Lx,dO,eI,bI,aZQ,h.1,h.2.1,h.2.2,a,h3,and_self,if_true,P2,aC,dX]
theorem aVG(l:L Int)(j:Int)(h:0<=j/\j<=l.length):Lx (sv l) none (some (vi j))=some (sv (l.take j.toNat)):=by
 simp[Lx,dO,eI,bI,h.1,h.2,P2,aC,dX]
theorem aHR(b:L Int)(i:Nat)(N:Nat)(c:b.length=N)(h:i+2<=N)(d:N<=1000000):EV G (Tb (bs bb)) 194 [.one (.bls 0 0 N 1),vi i] [yb b]=some (sv (gZ b i),[yb b]):=by
 refine aB rfl ?_;have a:((i:Int)+2).toNat=i+2:=by omega
 have e:jO (((b.map yC).drop i).take 2)=some ((gZ b i).map u8):=by rw[<- bAV,<- bAo,lL]
 simp (disch:=omega) only[go_sem,h194c,aZz,a,bA5,e,To]
theorem Qq(b t:L Int)(a:Int)(N:Nat)(d:b.length=N)(g:N<=1000000)(f:0<=a/\a+t.length<=N)(c:aJ t):EV G (Tb (bs bb)) 195 [.one (.bls 0 0 N 1),vi a,sv t] [yb b]=some (.tup [],[yb (fE b a.toNat t)]):=by
 refine aB rfl ?_;have e:=pK b t a.toNat (N-a.toNat) c (by omega);simp (disch:=omega) only[go_sem,h195c,aZz,e]
theorem aMm(n:Nat)(h:n<=1000):EV G (Tb (bs bb)) 140 [sv (zl n),vu 0] []=some (sv [],[]):=by
 refine aB rfl ?_;simp (disch:=omega) only[go_sem,h140c];rw[aT (fun k=>⟨(sv (zl (n-k))::vu 0::jk 21 []),[]⟩) n ?_ ?_]
 rw[bAr];simp (disch:=omega) only[go_sem,h140l0,aC,aS];rfl;rfl;intro k c;have a:(zl (n-k))[n-k-1]?=some 0:=by unfold zl;rw[bAG,if_pos (by omega)]
 have b:=aVG (zl (n-k)) ((n-k:Nat)-1:Int) (by rw[aS];omega);have h3:(zl (n-k)).take (n-k-1)=zl (n-(k+1)):=by
  unfold zl;rw[List.take_replicate];congr 1;omega
 have h5:(((n-k:Nat):Int)-1).toNat=n-k-1:=by omega
 rw[h5,h3] at b;have h4:(0:Int)<((n-k:Nat):Int):=by omega
 have h6:((u8 0).toNat:Int)=0:=rfl;simp (disch:=omega) only[go_sem,h140l0,aC,aS,a,h3,eq_true h4,h6]
theorem aMn:EV G (Tb (bs bb)) 139 [sv [],vu 0] []=some (sv [],[]):=by
 refine aB rfl ?_;simp (disch:=omega) only[go_sem,h139c];rw[aT (fun k=>⟨(sv []::vu 0::jk 15 []),[]⟩) 0 ?_ ?_]
 simp (disch:=omega) only[go_sem,h139l0,aC,aZC];rfl;intro k a;omega
theorem aQY:EV G (Tb (bs bb)) 102 [sv (zl 18),.one (.dc (.raw (.string ⟨#[0]⟩)))] []=some (sv [],[]):=by
 refine aB rfl ?_;have f:=aMm (G:=G) (bb:=bb) 18 (by decide);have g:=aMn (G:=G) (bb:=bb);have e:Gz (.one (.dc (.raw (.string ⟨#[0]⟩)))) 0=some (vu 0):=by rfl
 have a:¬ dI (zl 18)=⟨#[]⟩:=by decide
 have b:¬ (⟨#[0]⟩:ByteArray)=⟨#[]⟩:=by decide
 have d:((UInt8.toNat 0:Nat):Int)=0:=rfl;have c:(((#[0]:Array UInt8).size:Nat):Int)=1:=rfl;simp (disch:=omega) only[go_sem,h102c,f,g,e,a,b,c,d]
theorem byC{s:L Int}(h:aJ s)(a:Nat):aJ (gZ s a):=fun x b=>h x (bAa (aZZ b))
theorem aMo{b s:L Int}{k:Nat}(c:aJ b)(d:aJ s):aJ (fE b k s):=fun x a=>by
 unfold fE at a;rcases bAY.1 a with a|a
 rcases bAY.1 a with a|a;exact c x (aZZ a);exact d x a;exact c x (bAa a)
theorem Yt{b:L Int}{u:Int}(c:b.length=512)(a:aJ b):∀k,k<=8->aJ (nD b u k)
 |0,_=>aMo a (byS u 2)
 |k+1,h=>aMo (aMo (Yt c a k (by omega)) (byC (Yt c a k (by omega)) _)) (byS u 2)
theorem aDA(b:L Int)(u:Int)(d:b.length=512)(j:aJ b)(F:(b.drop 40).take 18=zl 18)(E:1<=u/\u<=65535):EV G (Tb (bs bb)) 157 [sv b,vi u] []=some (.tup [.one (.dc (.raw (.string (dI (nD b u 8))))),.one (.dc (ci 0))],[]):=by
 refine aB rfl ?_;have p:=Uy (G:=G) (bb:=bb) b;have w:=N4 (G:=G) (bb:=bb);have v:un (decide (b.length=512)) 10=0:=by rw[decide_eq_true d];rfl
 rw[v] at p;have I:=aQY (G:=G) (bb:=bb);have q:=aDy (G:=G) (bb:=bb) u 1 65535;rw[decide_eq_true E] at q;have J:=aHQ (G:=G) (bb:=bb);have r:=aDz (G:=G) (bb:=bb) u (by omega);have O:=aVF b 40 58 (by omega);have M:(b.take (58:Int).toNat).drop (40:Int).toNat=zl 18:=by
  rw[<- F,List.take_drop];rfl
 have A:dI []=⟨#[]⟩:=rfl;have K:=Qq (G:=G) (bb:=bb) b (bJ u 2) 40 512 d (by decide) (by rw[aA];decide) (byS u 2);have B:=nQ b j;have C:=N6 d (by decide);have D:=Cp b;simp (disch:=omega) only[go_sem,h157c,p,w,I,q,J,r,M,A,gE,aW,bO,aC,d,B,C,D,Px,aZz,K];rw[aT (fun k=>⟨(jk 1 (vi u::jk 6 (.one (.bls 0 0 512 1)::jk 25 (vi k::jk 20 [])))),[yb (nD b u k)]⟩) 8 ?_ ?_]
 have f:=oP (n:=u) d 8 (by decide);have e:jO (List.take 512 (List.map yC (nD b u 8)))=some ((nD b u 8).map u8):=by rw[D0 _ _ (by omega),lL]
 simp (disch:=omega) only[go_sem,h157l0,e,To];rfl;intro k N;have f:=oP (n:=u) d k (by omega);have t1:=Ys (G:=G) (bb:=bb) k (by omega);have t:=aHR (G:=G) (bb:=bb) (nD b u k) (64*k+62) 512 f (by omega) (by decide);have l:=kV (s:=nD b u k) (a:=64*k+62) (by omega);have g:aJ (nD b u k):=Yt d j k (by omega);have o:=Qq (G:=G) (bb:=bb) (nD b u k) (gZ (nD b u k) (64*k+62)) (42+2*(k:Int)) 512 f (by decide) (by rw[l];omega) (byC g _);have H:(42+2*(k:Int)).toNat=42+2*k:=by omega
 rw[H] at o;have h:(fE (nD b u k) (42+2*k) (gZ (nD b u k) (64*k+62))).length=512:=by rw[cJ (by rw[l];omega),f]
 have i:=Qq (G:=G) (bb:=bb) (fE (nD b u k) (42+2*k) (gZ (nD b u k) (64*k+62))) (bJ u 2) ((64*k+62:Nat):Int) 512 h (by decide) (by rw[aA];omega) (byS u 2);rw[bAc] at i;have e:fE (fE (nD b u k) (42+2*k) (gZ (nD b u k) (64*k+62))) (64*k+62) (bJ u 2)=nD b u (k+1):=rfl;rw[e] at i;generalize 64*k+62=m at *;generalize nD b u (k+1)=y at *;generalize fE (nD b u k) (42+2*k) (gZ (nD b u k) m)=x at *;generalize gZ (nD b u k) m=c at *;generalize nD b u k=z at *;simp (disch:=omega) only[go_sem,h157l0,t1,t,o,i,r]
end
section
variable {G:aF}{bb:Bool}
noncomputable def qX(s:L Int):Nat->L Int
 |0=>[]
 |k+1=>qX s k++(open Classical in if Uw s k then [(k:Int)] else [])
theorem Uz(s:L Int):∀k,qX s k=[]↔∀i,i<k->¬ Uw s i
 |0=>by simp[qX]
 | k+1=>by
  rw[qX,List.append_eq_nil_iff,Uz s k];constructor
  ·rintro⟨b,a⟩ i c;by_cases e:i=k
   ·subst e;intro h;rw[if_pos h] at a;cases a
   ·exact b i (by omega)
  ·intro h;exact⟨fun i c=>h i (by omega),by rw[if_neg (h k (by omega))]⟩
theorem Kw(s:L Int):∀k,(qX s k).length<=k
 |0=>aZE _
 | k+1=>by
  rw[qX,aZA];have:=Kw s k;split<;>simp<;>omega
theorem Yu(s:L Int):qX s 8=[]↔gU s:=by
 rw[Uz];unfold Uw gU;constructor;intro h;refine⟨fun c=>h 0 (by decide) (.inl c),fun i b=>?_⟩
 exact Classical.byContradiction fun a=>h i b (.inr a)
 rintro⟨a,d⟩ i b h;rcases h with h|h;exact a h;exact h (d i b)
theorem aBd{s:L Int}(a:s.length=512):gZ s 40=[s.getD 40 0,s.getD 41 0]/\gR s=s.getD 40 0+256*s.getD 41 0:=⟨nE (by omega),aHN (by omega)⟩
theorem aMp{a b:L Int}(c:aJ a)(d:aJ b):(dI a=dI b)=(a=b):=cR c d
theorem aQZ(s:List Int)(t:s.length=512)(b:aJ s):EV G (Tb (bs bb)) 192 [sv s] []=some (vl ((qX s 8).map fun n=>[ci n]),[]):=by
 refine aB rfl ?_;have p:=nQ s b;obtain⟨q,u⟩:=aBd t;have l:EV G (Tb (bs bb)) 194 [vl (bl s),vi 40] []=some (sv (gZ s 40),[]):=aOd (G:=G) (bb:=bb) s 40 (by omega) (by omega);have e:=N5 (G:=G) (bb:=bb) (s.getD 40 0) (s.getD 41 0) (qL b 40) (qL b 41);rw[<- q,<- u] at e;simp (disch:=omega) only[go_sem,h192c,p];rw[aT (fun k=>⟨(jk 3 (vl (bl s)::.one (.bld 0 (qX s k).length)::jk 3 (vi k::jk 21 []))),[.arr 0 1 ((qX s k).map fun n=>[ci n])]⟩) 8 ?_ ?_]
 have h8:((qX s 8).map fun n=>[ci n]).take (qX s 8).length=(qX s 8).map fun n=>[ci n]:=aZ6 (by rw[aZz];exact aZE _)
 simp (disch:=omega) only[go_sem,h192l0,aZz,h8,aZE];rfl;intro k v;have t1:=Ys (G:=G) (bb:=bb) k (by omega);have g:=aOd (G:=G) (bb:=bb) s (64*k+62) (by omega) (by omega);have d:(dI (gZ s (64*k+62))=dI (gZ s 40))=(gZ s (64*k+62)=gZ s 40):=aMp (byC b _) (byC b _);have a:gG 1 ((qX s k).map fun n=>[ci n])=true:=jH (f:=fun n=>[ci n]) (fun _=>rfl) _
 have r:=Kw s k;have j:((qX s k).map fun n=>[ci n]).take (qX s k).length=(qX s k).map fun n=>[ci n]:=aZ6 (by rw[aZz];exact aZE _)
 have o:qX s (k+1)=qX s k++(open Classical in if Uw s k then [(k:Int)] else []):=rfl
 unfold Uw at o;rw[o];generalize qX s k=L at *;generalize gR s=w at *;generalize 64*k+62=m at *;by_cases c:w=0;rw[if_pos (.inl c)];rw[bAg,aZA];simp (disch:=omega) only[go_sem,h192l0,aZz,l,e,t1,g,eq_true c,a,j,aZE,aZL,aZM,aZB,aZC];by_cases i:gZ s m=gZ s 40;rw[if_neg (by rintro (h|h)<;>contradiction),bAy]
 rw[eq_true i] at d;simp (disch:=omega) only[go_sem,h192l0,aZz,l,e,t1,g,c,d,a,j,aZE];rw[if_pos (.inr i)];rw[eq_false i] at d;rw[bAg,aZA];simp (disch:=omega) only[go_sem,h192l0,aZz,l,e,t1,g,c,d,a,j,aZE,aZL,aZM,aZB,aZC]
theorem Yv{s:L Int}(a:aJ s):∀k,aJ (Hg s k)
 |0=>a
 |k+1=>aMo (Yv a k) (byC (Yv a k) _)
abbrev aOe(s:L Int)(u e:Int):AV:=.tup [.one (.dc (.raw (.string (dI s)))),.one (.dc (ci u)),.one (.dc (ci e))]
open Classical in
theorem aQ0(s:List Int)(b:s.length=512)(d:aJ s):EV G (Tb (bs bb)) 131 [sv s] []=some (if gU s then aOe (eQ s) (gR s) 0 else aOe [] 0 31,[]):=by
 refine aB rfl ?_;have o:=Uy (G:=G) (bb:=bb) s;have v:un (decide (s.length=512)) 10=0:=by rw[decide_eq_true b];rfl
 rw[v] at o;have t:=aQZ (G:=G) (bb:=bb) s b d;have r:=Yu s;have E:=Kw s 8;have A:=nQ s d;have B:=N6 b (by decide);have C:=Cp s;have J:dI []=⟨#[]⟩:=rfl;generalize qX s 8=L at *;by_cases c:gU s;rw[if_pos c];have g:=r.2 c;subst g;obtain⟨D,F⟩:=aBd b;have I:EV G (Tb (bs bb)) 194 [.one (.bls 0 0 512 1),vi 40] [yb s]=some (sv (gZ s 40),[yb s]):=aHR (G:=G) (bb:=bb) s 40 512 b (by omega) (by decide);have u:=N5 (G:=G) (bb:=bb) (s.getD 40 0) (s.getD 41 0) (qL d 40) (qL d 41);rw[<- D,<- F] at u;generalize gR s=w at *;simp (disch:=omega) only[go_sem,h131c,o,t,aZM,aZC,aC,b,A,B,C,Px,aZz,I,u];rw[aT (fun k=>⟨(jk 6 (.one (.bls 0 0 512 1)::vi w::jk 15 (vi k::jk 17 []))),[yb (Hg s k)]⟩) 8 ?_ ?_]
 have f:=(Kv b 8 (by decide)).1;have j:=qK b;have l:(Hg s 8).length=512:=f;have q:dA (List.map yC (Hg s 8)) 40 (List.replicate 18 (aV.dc (DC.raw (Value.int .u8 0))))=List.map yC (fE (Hg s 8) 40 (zl 18)):=aQX (Hg s 8) 40 18;have x:fE (Hg s 8) 40 (zl 18)=eQ s:=rfl;rw[x] at q;have e:jO (List.take 512 (List.map yC (eQ s)))=some ((eQ s).map u8):=by rw[D0 _ _ (by omega),lL]
 simp (disch:=omega) only[go_sem,h131l0,aZz,l,j,Int.reduceToNat,q,e,To];rfl;intro k K;have f:=(Kv b k (by omega)).1;have t1:=Ys (G:=G) (bb:=bb) k (by omega);have p:=aHR (G:=G) (bb:=bb) (Hg s k) (42+2*k) 512 f (by omega) (by decide);have i:=kV (s:=Hg s k) (a:=42+2*k) (by omega);have n:=Qq (G:=G) (bb:=bb) (Hg s k) (gZ (Hg s k) (42+2*k)) ((64*k+62:Nat):Int) 512 f (by decide) (by rw[i];omega) (byC (Yv d k) _);rw[bAc] at n;have e:fE (Hg s k) (64*k+62) (gZ (Hg s k) (42+2*k))=Hg s (k+1):=rfl;rw[e] at n;have H:((42+2*k:Nat):Int)=42+2*(k:Int):=by omega
 rw[H] at p;generalize gZ (Hg s k) (42+2*k)=c at *;generalize 64*k+62=m at *;generalize Hg s (k+1)=y at *;generalize Hg s k=z at *;simp (disch:=omega) only[go_sem,h131l0,t1,p,n];rw[if_neg c];have g:0<(L.length:Int):=by
  have:L≠[]:=fun h=>c (r.1 h)
  have:=List.length_pos_iff.2 this;omega
 simp (disch:=omega) only[go_sem,h131c,o,t,aZz,eq_true g];rfl
