/- Part. Conditions: none. -/
import Derived.Test.YtgdjbbnicgfohabGreatDoorTu
import Derived.Test.YtgdjbbnicgfohabGreatDoorUg
namespace Go.Proofs.YtgdjbbnicgfohabGreatDoor
set_option maxHeartbeats 4000000
set_option linter.unusedSimpArgs false
set_option linter.unusedVariables false
set_option maxRecDepth 4000
section
variable {G:aF}{bb:Bool}
theorem Ea{b s:L Int}{k:Nat}(h:k+s.length<=b.length)(j:Nat):(iZ b k s).getD j 0=if k<=j/\j<k+s.length then s.getD (j-k) 0 else b.getD j 0:=by
 unfold iZ;simp only[aZO];split;rename_i c;rw[aZS,aZ1 (by rw[aZF];omega),aZF,Nat.min_eq_left (by omega),aZW (by omega)];rename_i c;by_cases a:j<k;rw[aZS,aZW (by rw[aZF];omega),List.getElem?_take_of_lt a];rw[aZ1 (by rw[aZB,aZF];omega),aZ9,aZB,aZF,Nat.min_eq_left (by omega)];congr 2;omega
theorem Fj{a b:L Int}(c:a.length=b.length)(h:∀j,j<a.length->a.getD j 0=b.getD j 0):a=b:=by
 refine List.ext_getElem c (fun j p q=>?_)
 have:=h j p;simpa[aZO,p,q] using this
theorem gtc{s:L Int}{a b:Nat}(h:a=b):s.getD a 0=s.getD b 0:=by rw[h]
theorem Fk(s:L Int)(a n j:Nat)(b:j<n):((s.drop a).take n).getD j 0=s.getD (a+j) 0:=by
 simp only[aZO,List.getElem?_take_of_lt b,aZ9]
theorem aBd(n j:Nat):(zl n).getD j 0=0:=by
 simp only[zl,aZO,bAG];split<;>rfl
theorem aMg(n:Int)(j:Nat)(h:j<2):(bI n 2).getD j 0=if j=0 then n % 256 else n / 256 % 256:=by
 rcases j with _|_|j;rfl;rfl;omega
theorem Yq{a b:L Int}(j:Nat):(a++b).getD j 0=if j<a.length then a.getD j 0 else b.getD (j-a.length) 0:=by
 simp only[aZO];split;rw[aZW (by assumption)];rw[aZ1 (by omega)]
abbrev gZ(s:L Int)(a:Nat):L Int:=(s.drop a).take 2
theorem kW{s:L Int}{a:Nat}(h:a+2<=s.length):(gZ s a).length=2:=by rw[aZF,aZL];omega
def nC(s:L Int)(n:Int):Nat->L Int
 |0=>iZ s 40 (bI n 2)
 |i+1=>iZ (iZ (nC s n i) (42+2*i) (gZ (nC s n i) (64*i+62))) (64*i+62) (bI n 2)
def ptG(s:L Int)(n:Int)(i j:Nat):Int:=
 if j=40 then n % 256 else if j=41 then n / 256 % 256 else if 42<=j/\j<42+2*i then s.getD (64*((j-42) / 2)+62+(j-42) % 2) 0
 else if j % 64=62/\j / 64<i then n % 256 else if j % 64=63/\j / 64<i then n / 256 % 256 else s.getD j 0
theorem oP{s:L Int}{n:Int}(b:s.length=512):∀i,i<=8->(nC s n i).length=512
 |0,_=>by rw[nC,cY (by rw[aA];omega),b]
 | i+1,h=>by
  have:=oP (n:=n) b i (by omega);have c:=kW (s:=nC s n i) (a:=64 * i+62) (by omega);have d:(iZ (nC s n i) (42+2 * i) (gZ (nC s n i) (64 * i+62))).length=512:=by rw[cY (by omega),this]
  rw[nC,cY (by rw[aA];omega),d]
theorem N0{s:L Int}{n:Int}(e:s.length=512):∀i,i<=8->∀j,(nC s n i).getD j 0=ptG s n i j
 | 0,_,j=>by
  rw[nC,Ea (by rw[aA];omega),aA];unfold ptG;split
  ·rename_i h;rw[aMg _ _ (by omega)];by_cases b:j=40
   ·rw[if_pos (by omega),if_pos b]
   ·rw[if_neg (by omega),if_neg b,if_pos (by omega)]
  ·rw[if_neg (by omega),if_neg (by omega),if_neg (by omega),if_neg (by omega),if_neg (by omega)]
 | i+1,h,j=>by
  have g:=oP (n:=n) e i (by omega);have f:=N0 (n:=n) e i (by omega);have c:=kW (s:=nC s n i) (a:=64 * i+62) (by omega);have k:(iZ (nC s n i) (42+2 * i) (gZ (nC s n i) (64 * i+62))).length=512:=by rw[cY (by omega),g]
  rw[nC,Ea (by rw[aA];omega),aA];split
  ·rename_i b;rw[aMg _ _ (by omega)];unfold ptG;by_cases d:j=64 * i+62
   ·rw[if_pos (by omega),if_neg (by omega),if_neg (by omega),if_neg (by omega),if_pos (by omega)]
   ·rw[if_neg (by omega),if_neg (by omega),if_neg (by omega),if_neg (by omega),if_neg (by omega),if_pos (by omega)]
  ·rename_i b;rw[Ea (by omega),c];split
   ·rename_i d;rw[Fk _ _ _ _ (by omega),f];unfold ptG;rw[if_neg (by omega),if_neg (by omega),if_neg (by omega),if_neg (by omega),if_neg (by omega),if_neg (by omega),if_neg (by omega),if_pos (by omega)];exact gtc (by omega)
   ·rename_i d;rw[f];unfold ptG
    repeat' split
    all_goals first | rfl | (exfalso;omega)
def Cr(s:L Int)(n:Int):Nat->L Int×L Int
 |0=>(bI n 2,s)
 |i+1=>((Cr s n i).1++gZ (Cr s n i).2 (64*i+62),iZ (Cr s n i).2 (64*i+62) (bI n 2))
theorem aBe{s:L Int}{n:Int}(d:s.length=512):∀i,i<=8->(Cr s n i).2.length=512/\(Cr s n i).1.length=2+2*i/\(∀j,(Cr s n i).2.getD j 0=if j % 64=62/\j / 64<i then n % 256 else if j % 64=63/\j / 64<i then n / 256 % 256 else s.getD j 0)/\ ∀j,j<2+2*i->(Cr s n i).1.getD j 0=if j=0 then n % 256 else if j=1 then n / 256 % 256 else s.getD (64*((j-2) / 2)+62+(j-2) % 2) 0
 | 0,_=>⟨d,aA n 2,fun j=>by rw[if_neg (by omega),if_neg (by omega)];rfl,fun j g=>by
   show (bI n 2).getD j 0=_;rw[aMg _ _ (by omega)];by_cases h:j=0
   ·rw[if_pos h,if_pos h]
   ·rw[if_neg h,if_neg h,if_pos (by omega)]⟩
 | i+1,h=>by
  obtain⟨k,e,b,f⟩:=aBe (n:=n) d i (by omega);have c:=kW (s:=(Cr s n i).2) (a:=64 * i+62) (by omega);refine⟨?_, ?_,fun j=>?_,fun j g=>?_⟩
  ·rw[Cr];show (iZ _ _ _).length=512;rw[cY (by rw[aA];omega),k]
  ·show ((Cr s n i).1++gZ (Cr s n i).2 (64 * i+62)).length=_;rw[aZB,c,e];omega
  ·rw[Cr];show (iZ _ _ _).getD j 0=_;rw[Ea (by rw[aA];omega),aA];split
   ·rw[aMg _ _ (by omega)];by_cases l:j=64 * i+62
    ·rw[if_pos (by omega),if_pos (by omega)]
    ·rw[if_neg (by omega),if_neg (by omega),if_pos (by omega)]
   ·rw[b]
    repeat' split
    all_goals first | rfl | (exfalso;omega)
  ·show ((Cr s n i).1++gZ (Cr s n i).2 (64 * i+62)).getD j 0=_;rw[Yq,e];split
   ·rw[f j (by omega)]
   ·rw[Fk _ _ _ _ (by omega),b,if_neg (by omega),if_neg (by omega),if_neg (by omega),if_neg (by omega)];exact gtc (by omega)
theorem aMh{s:L Int}{n:Int}(b:s.length=512):iZ (Cr s n 8).2 40 (Cr s n 8).1=nC s n 8:=by
 obtain⟨f,g,d,e⟩:=aBe (n:=n) b 8 (by omega);refine Fj (by rw[cY (by omega),f,oP b 8 (by omega)]) (fun j _=>?_)
 rw[Ea (by omega),g,N0 b 8 (by omega)];unfold ptG;split;rw[e _ (by omega)];by_cases a:j=40;rw[if_pos (by omega),if_pos a];by_cases c:j=41;rw[if_neg (by omega),if_pos (by omega),if_neg a,if_pos c];rw[if_neg (by omega),if_neg (by omega),if_neg a,if_neg c,if_pos (by omega)];exact gtc (by omega)
 ·rw[d]
  repeat' split
  all_goals first|rfl|(exfalso;omega)
def Hb(s:L Int):Nat->L Int
 |0=>s
 |i+1=>iZ (Hb s i) (64*i+62) (gZ (Hb s i) (42+2*i))
def opG(s:L Int)(i j:Nat):Int:=if 62<=j % 64/\j / 64<i then s.getD (42+2*(j / 64)+(j % 64-62)) 0 else s.getD j 0
theorem Kw{s:L Int}(d:s.length=512):∀i,i<=8->(Hb s i).length=512/\∀j,(Hb s i).getD j 0=opG s i j
 |0,_=>⟨d,fun j=>by unfold opG;rw[if_neg (by omega)];rfl⟩
 | i+1,h=>by
  obtain⟨e,b⟩:=Kw d i (by omega);have c:=kW (s:=Hb s i) (a:=42+2 * i) (by omega);refine⟨by rw[Hb,cY (by omega),e],fun j=>?_⟩
  rw[Hb,Ea (by omega),c];split
  ·rw[Fk _ _ _ _ (by omega),b];unfold opG;rw[if_neg (by omega),if_pos (by omega)];exact gtc (by omega)
  ·rw[b];unfold opG
   repeat' split
   all_goals first | rfl | (exfalso;omega)
def eU(s:L Int):L Int:=iZ (Hb s 8) 40 (zl 18)
theorem qK{s:L Int}(a:s.length=512):(eU s).length=512:=by
 rw[eU,cY (by rw[aS,(Kw a 8 (by omega)).1];omega),(Kw a 8 (by omega)).1]
theorem Ux{s:L Int}(a:s.length=512)(j:Nat):(eU s).getD j 0=if 40<=j/\j<58 then 0 else opG s 8 j:=by
 rw[eU,Ea (by rw[aS,(Kw a 8 (by omega)).1];omega),aS,aBd,(Kw a 8 (by omega)).2]
def Yr(s:L Int):Nat->L Int
 |0=>iZ s 40 (zl 18)
 |i+1=>iZ (Yr s i) (64*i+62) (gZ s (42+2*i))
theorem aHH{s:L Int}(b:s.length=512):∀i,i<=8->(Yr s i).length=512/\∀j,(Yr s i).getD j 0=if 40<=j/\j<58 then 0 else opG s i j
 |0,_=>⟨by rw[Yr,cY (by rw[aS];omega),b],fun j=>by rw[Yr,Ea (by rw[aS];omega),aS,aBd];unfold opG;rw[if_neg (by omega:¬ (62<=j % 64/\j / 64<0))]⟩
 | i+1,h=>by
  obtain⟨e,d⟩:=aHH b i (by omega);have c:=kW (s:=s) (a:=42+2 * i) (by omega);refine⟨by rw[Yr,cY (by omega),e],fun j=>?_⟩
  rw[Yr,Ea (by omega),c];split
  ·rw[Fk _ _ _ _ (by omega)];unfold opG;rw[if_neg (by omega),if_pos (by omega)];exact gtc (by omega)
  ·rw[d];unfold opG
   repeat' split
   all_goals first | rfl | (exfalso;omega)
theorem aMi{s:L Int}(a:s.length=512):Yr s 8=eU s:=by
 obtain⟨c,b⟩:=aHH a 8 (by omega);exact Fj (by rw[c,qK a]) (fun j _=>by rw[b,Ux a])
def gS(s:L Int):Int:=gL s 40 2
def Uy(s:L Int)(i:Nat):Prop:=gS s=0\/gZ s (64*i+62)≠gZ s 40
def jP(s:L Int):Prop:=gS s≠0/\∀i,i<8->gZ s (64*i+62)=gZ s 40
theorem qL{s:L Int}{a:Nat}(h:a+2<=s.length):gZ s a=[s.getD a 0,s.getD (a+1) 0]:=by
 refine Fj (kW h) (fun j b=>?_)
 rw[kW h] at b;rw[Fk _ _ _ _ b];rcases j with _|_|j
 rfl;rfl;omega
theorem aHI{s:L Int}{a:Nat}(h:a+2<=s.length):gL s a 2=s.getD a 0+256*s.getD (a+1) 0:=by
 unfold gL;rw[show (s.drop a).take 2=gZ s a from rfl,qL h]
 simp[gv]
theorem qM{s:L Int}(a:aI s)(j:Nat):0<=s.getD j 0/\s.getD j 0<=255:=by
 simp only[aZO];by_cases h:j<s.length;rw[aZJ h];exact a _ (aZK h);rw[bAI (by omega)];simp
theorem aHJ{s:L Int}(a:s.length=512)(b:aI s)(e:jP s):nC (eU s) (gS s) 8=s:=by
 have c:=qK a;refine Fj (by rw[oP c 8 (by omega),a]) (fun j n=>?_)
 rw[oP c 8 (by omega)] at n;rw[N0 c 8 (by omega)];have o:gS s=s.getD 40 0+256*s.getD 41 0:=aHI (by omega);have k:=qM b 40;have l:=qM b 41;have f:gS s % 256=s.getD 40 0:=by omega
 have g:gS s / 256 % 256=s.getD 41 0:=by omega
 clear o k l;have d:∀ i,i < 8->s.getD (64 * i+62) 0=s.getD 40 0/\s.getD (64 * i+63) 0=s.getD 41 0:=fun i m=>by
  have:=e.2 i m;rw[qL (by omega),qL (by omega)] at this;simpa using this
 generalize gS s=u at *;clear b e;unfold ptG;split;rename_i h;rw[f,h];split;rename_i h;rw[g,h];split;rename_i h p h3;rw[Ux a,if_neg (by omega)];unfold opG;rw[if_pos (by omega)];exact gtc (by omega);split;rename_i h;rw[f,<- (d (j / 64) (by omega)).1];exact gtc (by omega);split;rename_i h;rw[g,<- (d (j / 64) (by omega)).2];exact gtc (by omega);rw[Ux a,if_neg (by omega)];unfold opG;rw[if_neg (by omega)]
theorem Uz{s:L Int}{n:Int}(d:s.length=512)(k:∀j,40<=j->j<58->s.getD j 0=0)(f:1<=n/\n<=65535):eU (nC s n 8)=s/\jP (nC s n 8)/\gS (nC s n 8)=n:=by
 have c:=oP (n:=n) d 8 (by omega);have g:=N0 (n:=n) d 8 (by omega);have a:(nC s n 8).getD 40 0=n % 256:=by rw[g];rfl
 have b:(nC s n 8).getD 41 0=n / 256 % 256:=by rw[g];rfl
 have e:gS (nC s n 8)=n:=by
  unfold gS;rw[aHI (by omega),a,b];omega
 refine⟨Fj (by rw[qK c,d]) (fun j l=>?_),⟨by omega,fun i m=>?_⟩,e⟩
 rw[qK c] at l;clear a b e f;rw[Ux c];split;rename_i h;rw[k j h.1 h.2];unfold opG;split;rw[g];unfold ptG;rw[if_neg (by omega),if_neg (by omega),if_pos (by omega)];exact gtc (by omega);rw[g];unfold ptG;rw[if_neg (by omega),if_neg (by omega),if_neg (by omega),if_neg (by omega),if_neg (by omega)];rw[qL (by omega),qL (by omega),a,b,g,g];clear a b g c e f k;unfold ptG;rw[if_neg (by omega),if_neg (by omega),if_neg (by omega),if_pos (by omega),if_neg (by omega),if_neg (by omega),if_neg (by omega),if_neg (by omega),if_pos (by omega)]
end
section
variable {G:aF}{bb:Bool}
theorem aDx(n a b:Int):EV G (Tb (bs bb)) 200 [vi n,vi a,vi b] []=some (vb (decide (a<=n/\n<=b)),[]):=by
 refine aB rfl ?_;by_cases h:a<=n;all_goals simp (disch:=omega) only[go_sem,h200c]
 all_goals simp[h]
theorem N3(b:Bool)(e:Int):EV G (Tb (bs bb)) 198 [vb b,vi e] []=some (vi (un b e),[]):=by
 refine aB rfl ?_;cases b;all_goals simp (disch:=omega) only[go_sem,h198c]
 all_goals rfl
theorem aHK(l:L Int)(g:l.length<=1000):EV G (Tb (bs bb)) 197 [vl (el l)] []=some (vi (aT l),[]):=by
 refine aB rfl ?_;simp (disch:=omega) only[go_sem,h197c,aZA];have a:∀ k (b:k < l.length),¬ l.getD k 0≠0->Ls [5,0,0] 0 (EC (EV G (Tb (bs bb))) G h197l0 ⟨(jk 5 (vl (el l)::vi l.length::vi k::jk 7 [])),[]⟩)=some ⟨(jk 5 (vl (el l)::vi l.length::vi (k+1:Nat)::jk 7 [])),[]⟩:=fun k b f=>by
  rw[cE l k b] at f;simp (disch:=omega) only[go_sem,h197l0,aZA,tL]
 rcases Pv (fun k=>l.getD k 0≠0) l.length with h|⟨j,e,c,d⟩
 rw[aR (fun k=>⟨(jk 5 (vl (el l)::vi l.length::vi k::jk 7 [])),[]⟩) l.length ?_ ?_]
 rw[iH l h];simp (disch:=omega) only[go_sem,h197l0];rfl;exact fun k b=>a k b (h k b)
 rw[aR (fun k=>⟨(jk 5 (vl (el l)::vi l.length::vi k::jk 7 [])),[]⟩) j ?_ ?_]
 rw[kH l j e d c];rw[cE l j e] at c;simp (disch:=omega) only[go_sem,h197l0,aZA,tL];rfl;exact fun k b=>a k (by omega) (d k b)
theorem aHL(a b:Int):EV G (Tb (bs bb)) 197 [vl [[ci a],[ci b]]] []=some (vi (aT [a,b]),[]):=aHK [a,b] (by simp)
theorem U1(l:L Int):EV G (Tb (bs bb)) 167 [sv l] []=some (vi (un (decide (l.length=512)) 10),[]):=by
 refine aB rfl ?_;have u:=N3 (G:=G) (bb:=bb);have e:((l.length:Int)=512)=(l.length=512):=by apply propext;omega
 simp (disch:=omega) only[go_sem,h167c,u,e]
theorem Ys(i:Nat)(h:i<=1000):EV G (Tb (bs bb)) 172 [vi i] []=some (vi ((64*i+62:Nat):Int),[]):=by
 refine aB rfl ?_;have e:((i:Int)+1)*64-2=((64*i+62:Nat):Int):=by omega
 simp (disch:=omega) only[go_sem,h172c,e]
theorem aDy(n:Int)(h:-9223372036854775808<=n/\n<=9223372036854775807):EV G (Tb (bs bb)) 201 [vi n] []=some (sv (bI n 2),[]):=by
 refine aB rfl ?_;have e:bI n 2=[n % 256,n / 256 % 256]:=rfl;rw[e];simp (disch:=omega) only[go_sem,h201c,wu8,Hw,Int.reduceToNat,Int.reducePow,Aw,gF,u8,dO,aZM,aZN];rfl
theorem orC(n b:Int)(d:0<=n/\n<=255)(c:0<=b/\b<=255):Xv .i64 b (n*256)=b+256*n:=by
 have a:Xv .i64 b (n*256)=Xv .i64 (n*256) b:=by
  unfold Xv;rw[BitVec.or_comm]
 rw[a,orL n b (by omega) c];omega
theorem N4(x y:Int)(d:0<=x/\x<=255)(e:0<=y/\y<=255):EV G (Tb (bs bb)) 169 [sv [x,y]] []=some (vi (x+256*y),[]):=by
 refine aB rfl ?_;have c:aI [x,y]:=fun b a=>by
  rcases bAL.1 a with rfl | a
  ·exact d
  ·rw[List.mem_singleton.1 a];exact e
 have f:Ik (sv [x,y]) 0=some (vu x):=aN0 [x,y] c 0 (by simp);have g:Ik (sv [x,y]) 1=some (vu y):=aN0 [x,y] c 1 (by simp);have o:=orC y x e d;simp (disch:=omega) only[go_sem,h169c,f,g,o,Int.reduceToNat,Int.reducePow]
theorem aVH(b:L Int):(List.map Aw b).all (fun e=>decide (e.length=1))=true:=by
 rw[bAW];intro e a;obtain⟨x,_,rfl⟩:=List.mem_map.1 a;rfl
theorem aOa(b:L Int)(i:Nat)(h:i+2<=b.length)(d:b.length<=1000000):EV G (Tb (bs bb)) 170 [vl (bl b),vi i] []=some (sv (gZ b i),[]):=by
 refine aB rfl ?_;have e:((b.map Aw).take (i+2)).drop i=(gZ b i).map Aw:=by
  rw[bAp,bAR,List.take_drop,Nat.add_comm]
 have c:((i:Int)+2).toNat=i+2:=by omega
 have a:=aVH b;simp (disch:=omega) only[go_sem,h170c,aZA,c,e,a,aGN]
theorem byS(n:Int):∀k,aI (bI n k)
 |0=>fun b a=>by cases a
 | k+1=>fun b a=>by
  rw[bI,bAV] at a;rcases a with a | a
  ·exact byS n k b a
  ·rw[List.mem_singleton.1 a];omega
theorem Co:∀b:L Int,kP (List.map Aw b).flatten=b.map yC
 |[]=>rfl
 | x::b=>by
  have a:=Co b;rw[aZM,bAw,aZM,<- a];rfl
theorem nP(b:L Int)(h:aI b):hZ (dO b)=List.map Aw b:=by
 show List.map _ (b.map u8)=_;rw[aZ4];exact aZZ fun x a=>by simp only[Function.comp_apply,Aw,iA x (h x a)]
theorem aQY(b:L Int)(a n:Nat):cZ (b.map yC) a (List.replicate n (cI (.int .u8 0)))=(iZ b a (zl n)).map yC:=by
 have:List.replicate n (cI (.int .u8 0))=(zl n).map yC:=P2 n;rw[this];simp[cZ,iZ,bAh,bAp,bAR]
theorem N5{b:L Int}{n:Nat}(h:b.length=n)(a:0<n):(List.map Aw b).isEmpty=false:=by
 cases b with
 |nil=>simp at h;omega
 |cons _ _=>rfl
theorem aVJ(l:L Int)(i j:Int)(h:0<=i/\i<=j/\j<=l.length):Lw (sv l) (some (vi i)) (some (vi j))=some (sv ((l.take j.toNat).drop i.toNat)):=by
 have a:0<=j:=by omega
 have h3:i<=(j.toNat:Int):=by omega
 simp only[Lw,dN,eG,bH,aZR,h.1,h.2.1,h.2.2,a,h3,and_self,if_true,Pz,aC,dU]
theorem aVK(l:L Int)(j:Int)(h:0<=j/\j<=l.length):Lw (sv l) none (some (vi j))=some (sv (l.take j.toNat)):=by
 simp[Lw,dN,eG,bH,h.1,h.2,Pz,aC,dU]
theorem aHM(b:L Int)(i:Nat)(N:Nat)(c:b.length=N)(h:i+2<=N)(d:N<=1000000):EV G (Tb (bs bb)) 170 [.one (.bls 0 0 N 1),vi i] [yb b]=some (sv (gZ b i),[yb b]):=by
 refine aB rfl ?_;have a:((i:Int)+2).toNat=i+2:=by omega
 have e:jO (((b.map yC).drop i).take 2)=some ((gZ b i).map u8):=by rw[<- bAR,<- bAp,lM]
 simp (disch:=omega) only[go_sem,h170c,aZA,a,bA2,e,Tp]
theorem Qm(b t:L Int)(a:Int)(N:Nat)(d:b.length=N)(g:N<=1000000)(f:0<=a/\a+t.length<=N)(c:aI t):EV G (Tb (bs bb)) 171 [.one (.bls 0 0 N 1),vi a,sv t] [yb b]=some (.tup [],[yb (iZ b a.toNat t)]):=by
 refine aB rfl ?_;have e:=pL b t a.toNat (N-a.toNat) c (by omega);simp (disch:=omega) only[go_sem,h171c,aZA,e]
theorem aMj(n:Nat)(h:n<=1000):EV G (Tb (bs bb)) 234 [sv (zl n),vu 0] []=some (sv [],[]):=by
 refine aB rfl ?_;simp (disch:=omega) only[go_sem,h234c];rw[aR (fun k=>⟨(sv (zl (n-k))::vu 0::jk 21 []),[]⟩) n ?_ ?_]
 rw[bAs];simp (disch:=omega) only[go_sem,h234l0,aC,aS];rfl;rfl;intro k c;have a:(zl (n-k))[n-k-1]?=some 0:=by unfold zl;rw[bAG,if_pos (by omega)]
 have b:=aVK (zl (n-k)) ((n-k:Nat)-1:Int) (by rw[aS];omega);have h3:(zl (n-k)).take (n-k-1)=zl (n-(k+1)):=by
  unfold zl;rw[List.take_replicate];congr 1;omega
 have h5:(((n-k:Nat):Int)-1).toNat=n-k-1:=by omega
 rw[h5,h3] at b;have h4:(0:Int)<((n-k:Nat):Int):=by omega
 have h6:((u8 0).toNat:Int)=0:=rfl;simp (disch:=omega) only[go_sem,h234l0,aC,aS,a,h3,eq_true h4,h6]
theorem aMk:EV G (Tb (bs bb)) 233 [sv [],vu 0] []=some (sv [],[]):=by
 refine aB rfl ?_;simp (disch:=omega) only[go_sem,h233c];rw[aR (fun k=>⟨(sv []::vu 0::jk 15 []),[]⟩) 0 ?_ ?_]
 simp (disch:=omega) only[go_sem,h233l0,aC,aZD];rfl;intro k a;omega
theorem aQZ:EV G (Tb (bs bb)) 199 [sv (zl 18),.one (.dc (.raw (.string ⟨#[0]⟩)))] []=some (sv [],[]):=by
 refine aB rfl ?_;have f:=aMj (G:=G) (bb:=bb) 18 (by decide);have g:=aMk (G:=G) (bb:=bb);have e:Ik (.one (.dc (.raw (.string ⟨#[0]⟩)))) 0=some (vu 0):=by rfl
 have a:¬ dO (zl 18)=⟨#[]⟩:=by decide
 have b:¬ (⟨#[0]⟩:ByteArray)=⟨#[]⟩:=by decide
 have d:((UInt8.toNat 0:Nat):Int)=0:=rfl;have c:(((#[0]:Array UInt8).size:Nat):Int)=1:=rfl;simp (disch:=omega) only[go_sem,h199c,f,g,e,a,b,c,d]
theorem byC{s:L Int}(h:aI s)(a:Nat):aI (gZ s a):=fun x b=>h x (bAb (aZ0 b))
theorem aMl{b s:L Int}{k:Nat}(c:aI b)(d:aI s):aI (iZ b k s):=fun x a=>by
 unfold iZ at a;rcases bAV.1 a with a|a
 rcases bAV.1 a with a|a;exact c x (aZ0 a);exact d x a;exact c x (bAb a)
theorem Yt{b:L Int}{u:Int}(c:b.length=512)(a:aI b):∀k,k<=8->aI (nC b u k)
 |0,_=>aMl a (byS u 2)
 |k+1,h=>aMl (aMl (Yt c a k (by omega)) (byC (Yt c a k (by omega)) _)) (byS u 2)
theorem aDz(b:L Int)(u:Int)(d:b.length=512)(j:aI b)(F:(b.drop 40).take 18=zl 18)(E:1<=u/\u<=65535):EV G (Tb (bs bb)) 144 [sv b,vi u] []=some (.tup [.one (.dc (.raw (.string (dO (nC b u 8))))),.one (.dc (ci 0))],[]):=by
 refine aB rfl ?_;have p:=U1 (G:=G) (bb:=bb) b;have w:=N3 (G:=G) (bb:=bb);have v:un (decide (b.length=512)) 10=0:=by rw[decide_eq_true d];rfl
 rw[v] at p;have I:=aQZ (G:=G) (bb:=bb);have q:=aDx (G:=G) (bb:=bb) u 1 65535;rw[decide_eq_true E] at q;have J:=aHL (G:=G) (bb:=bb);have r:=aDy (G:=G) (bb:=bb) u (by omega);have O:=aVJ b 40 58 (by omega);have M:(b.take (58:Int).toNat).drop (40:Int).toNat=zl 18:=by
  rw[<- F,List.take_drop];rfl
 have A:dO []=⟨#[]⟩:=rfl;have K:=Qm (G:=G) (bb:=bb) b (bI u 2) 40 512 d (by decide) (by rw[aA];decide) (byS u 2);have B:=nP b j;have C:=N5 d (by decide);have D:=Co b;simp (disch:=omega) only[go_sem,h144c,p,w,I,q,J,r,M,A,gE,aV,bM,aC,d,B,C,D,Pu,aZA,K];rw[aR (fun k=>⟨(jk 1 (vi u::jk 6 (.one (.bls 0 0 512 1)::jk 25 (vi k::jk 20 [])))),[yb (nC b u k)]⟩) 8 ?_ ?_]
 have f:=oP (n:=u) d 8 (by decide);have e:jO (List.take 512 (List.map yC (nC b u 8)))=some ((nC b u 8).map u8):=by rw[Dw _ _ (by omega),lM]
 simp (disch:=omega) only[go_sem,h144l0,e,Tp];rfl;intro k N;have f:=oP (n:=u) d k (by omega);have t1:=Ys (G:=G) (bb:=bb) k (by omega);have t:=aHM (G:=G) (bb:=bb) (nC b u k) (64*k+62) 512 f (by omega) (by decide);have l:=kW (s:=nC b u k) (a:=64*k+62) (by omega);have g:aI (nC b u k):=Yt d j k (by omega);have o:=Qm (G:=G) (bb:=bb) (nC b u k) (gZ (nC b u k) (64*k+62)) (42+2*(k:Int)) 512 f (by decide) (by rw[l];omega) (byC g _);have H:(42+2*(k:Int)).toNat=42+2*k:=by omega
 rw[H] at o;have h:(iZ (nC b u k) (42+2*k) (gZ (nC b u k) (64*k+62))).length=512:=by rw[cY (by rw[l];omega),f]
 have i:=Qm (G:=G) (bb:=bb) (iZ (nC b u k) (42+2*k) (gZ (nC b u k) (64*k+62))) (bI u 2) ((64*k+62:Nat):Int) 512 h (by decide) (by rw[aA];omega) (byS u 2);rw[bAd] at i;have e:iZ (iZ (nC b u k) (42+2*k) (gZ (nC b u k) (64*k+62))) (64*k+62) (bI u 2)=nC b u (k+1):=rfl;rw[e] at i;generalize 64*k+62=m at *;generalize nC b u (k+1)=y at *;generalize iZ (nC b u k) (42+2*k) (gZ (nC b u k) m)=x at *;generalize gZ (nC b u k) m=c at *;generalize nC b u k=z at *;simp (disch:=omega) only[go_sem,h144l0,t1,t,o,i,r]
end
section
variable {G:aF}{bb:Bool}
noncomputable def qX(s:L Int):Nat->L Int
 |0=>[]
 |k+1=>qX s k++(open Classical in if Uy s k then [(k:Int)] else [])
theorem U2(s:L Int):∀k,qX s k=[]↔∀i,i<k->¬ Uy s i
 |0=>by simp[qX]
 | k+1=>by
  rw[qX,List.append_eq_nil_iff,U2 s k];constructor
  ·rintro⟨b,a⟩ i c;by_cases e:i=k
   ·subst e;intro h;rw[if_pos h] at a;cases a
   ·exact b i (by omega)
  ·intro h;exact⟨fun i c=>h i (by omega),by rw[if_neg (h k (by omega))]⟩
theorem Kx(s:L Int):∀k,(qX s k).length<=k
 |0=>aZE _
 | k+1=>by
  rw[qX,aZB];have:=Kx s k;split<;>simp<;>omega
theorem Yu(s:L Int):qX s 8=[]↔jP s:=by
 rw[U2];unfold Uy jP;constructor;intro h;refine⟨fun c=>h 0 (by decide) (.inl c),fun i b=>?_⟩
 exact Classical.byContradiction fun a=>h i b (.inr a)
 rintro⟨a,d⟩ i b h;rcases h with h|h;exact a h;exact h (d i b)
theorem aBf{s:L Int}(a:s.length=512):gZ s 40=[s.getD 40 0,s.getD 41 0]/\gS s=s.getD 40 0+256*s.getD 41 0:=⟨qL (by omega),aHI (by omega)⟩
theorem aMm{a b:L Int}(c:aI a)(d:aI b):(dO a=dO b)=(a=b):=cR c d
theorem aQ0(s:List Int)(t:s.length=512)(b:aI s):EV G (Tb (bs bb)) 168 [sv s] []=some (vl ((qX s 8).map fun n=>[ci n]),[]):=by
 refine aB rfl ?_;have p:=nP s b;obtain⟨q,u⟩:=aBf t;have l:EV G (Tb (bs bb)) 170 [vl (bl s),vi 40] []=some (sv (gZ s 40),[]):=aOa (G:=G) (bb:=bb) s 40 (by omega) (by omega);have e:=N4 (G:=G) (bb:=bb) (s.getD 40 0) (s.getD 41 0) (qM b 40) (qM b 41);rw[<- q,<- u] at e;simp (disch:=omega) only[go_sem,h168c,p];rw[aR (fun k=>⟨(jk 3 (vl (bl s)::.one (.bld 0 (qX s k).length)::jk 3 (vi k::jk 21 []))),[.arr 0 1 ((qX s k).map fun n=>[ci n])]⟩) 8 ?_ ?_]
 have h8:((qX s 8).map fun n=>[ci n]).take (qX s 8).length=(qX s 8).map fun n=>[ci n]:=bAc (by rw[aZA];exact aZE _)
 simp (disch:=omega) only[go_sem,h168l0,aZA,h8,aZE];rfl;intro k v;have t1:=Ys (G:=G) (bb:=bb) k (by omega);have g:=aOa (G:=G) (bb:=bb) s (64*k+62) (by omega) (by omega);have d:(dO (gZ s (64*k+62))=dO (gZ s 40))=(gZ s (64*k+62)=gZ s 40):=aMm (byC b _) (byC b _);have a:gG 1 ((qX s k).map fun n=>[ci n])=true:=jG (f:=fun n=>[ci n]) (fun _=>rfl) _
 have r:=Kx s k;have j:((qX s k).map fun n=>[ci n]).take (qX s k).length=(qX s k).map fun n=>[ci n]:=bAc (by rw[aZA];exact aZE _)
 have o:qX s (k+1)=qX s k++(open Classical in if Uy s k then [(k:Int)] else []):=rfl
 unfold Uy at o;rw[o];generalize qX s k=L at *;generalize gS s=w at *;generalize 64*k+62=m at *;by_cases c:w=0;rw[if_pos (.inl c)];rw[bAh,aZB];simp (disch:=omega) only[go_sem,h168l0,aZA,l,e,t1,g,eq_true c,a,j,aZE,aZM,aZN,aZC,aZD];by_cases i:gZ s m=gZ s 40;rw[if_neg (by rintro (h|h)<;>contradiction),bAx]
 rw[eq_true i] at d;simp (disch:=omega) only[go_sem,h168l0,aZA,l,e,t1,g,c,d,a,j,aZE];rw[if_pos (.inr i)];rw[eq_false i] at d;rw[bAh,aZB];simp (disch:=omega) only[go_sem,h168l0,aZA,l,e,t1,g,c,d,a,j,aZE,aZM,aZN,aZC,aZD]
theorem Yv{s:L Int}(a:aI s):∀k,aI (Hb s k)
 |0=>a
 |k+1=>aMl (Yv a k) (byC (Yv a k) _)
abbrev aOb(s:L Int)(u e:Int):AV:=.tup [.one (.dc (.raw (.string (dO s)))),.one (.dc (ci u)),.one (.dc (ci e))]
open Classical in
theorem aQ1(s:List Int)(b:s.length=512)(d:aI s):EV G (Tb (bs bb)) 115 [sv s] []=some (if jP s then aOb (eU s) (gS s) 0 else aOb [] 0 31,[]):=by
 refine aB rfl ?_;have o:=U1 (G:=G) (bb:=bb) s;have v:un (decide (s.length=512)) 10=0:=by rw[decide_eq_true b];rfl
 rw[v] at o;have t:=aQ0 (G:=G) (bb:=bb) s b d;have r:=Yu s;have E:=Kx s 8;have A:=nP s d;have B:=N5 b (by decide);have C:=Co s;have J:dO []=⟨#[]⟩:=rfl;generalize qX s 8=L at *;by_cases c:jP s;rw[if_pos c];have g:=r.2 c;subst g;obtain⟨D,F⟩:=aBf b;have I:EV G (Tb (bs bb)) 170 [.one (.bls 0 0 512 1),vi 40] [yb s]=some (sv (gZ s 40),[yb s]):=aHM (G:=G) (bb:=bb) s 40 512 b (by omega) (by decide);have u:=N4 (G:=G) (bb:=bb) (s.getD 40 0) (s.getD 41 0) (qM d 40) (qM d 41);rw[<- D,<- F] at u;generalize gS s=w at *;simp (disch:=omega) only[go_sem,h115c,o,t,aZN,aZD,aC,b,A,B,C,Pu,aZA,I,u];rw[aR (fun k=>⟨(jk 6 (.one (.bls 0 0 512 1)::vi w::jk 15 (vi k::jk 17 []))),[yb (Hb s k)]⟩) 8 ?_ ?_]
 have f:=(Kw b 8 (by decide)).1;have j:=qK b;have l:(Hb s 8).length=512:=f;have q:cZ (List.map yC (Hb s 8)) 40 (List.replicate 18 (aU.dc (DC.raw (Value.int .u8 0))))=List.map yC (iZ (Hb s 8) 40 (zl 18)):=aQY (Hb s 8) 40 18;have x:iZ (Hb s 8) 40 (zl 18)=eU s:=rfl;rw[x] at q;have e:jO (List.take 512 (List.map yC (eU s)))=some ((eU s).map u8):=by rw[Dw _ _ (by omega),lM]
 simp (disch:=omega) only[go_sem,h115l0,aZA,l,j,Int.reduceToNat,q,e,Tp];rfl;intro k K;have f:=(Kw b k (by omega)).1;have t1:=Ys (G:=G) (bb:=bb) k (by omega);have p:=aHM (G:=G) (bb:=bb) (Hb s k) (42+2*k) 512 f (by omega) (by decide);have i:=kW (s:=Hb s k) (a:=42+2*k) (by omega);have n:=Qm (G:=G) (bb:=bb) (Hb s k) (gZ (Hb s k) (42+2*k)) ((64*k+62:Nat):Int) 512 f (by decide) (by rw[i];omega) (byC (Yv d k) _);rw[bAd] at n;have e:iZ (Hb s k) (64*k+62) (gZ (Hb s k) (42+2*k))=Hb s (k+1):=rfl;rw[e] at n;have H:((42+2*k:Nat):Int)=42+2*(k:Int):=by omega
 rw[H] at p;generalize gZ (Hb s k) (42+2*k)=c at *;generalize 64*k+62=m at *;generalize Hb s (k+1)=y at *;generalize Hb s k=z at *;simp (disch:=omega) only[go_sem,h115l0,t1,p,n];rw[if_neg c];have g:0<(L.length:Int):=by
  have:L≠[]:=fun h=>c (r.1 h)
  have:=List.length_pos_iff.2 this;omega
 simp (disch:=omega) only[go_sem,h115c,o,t,aZA,eq_true g];rfl
