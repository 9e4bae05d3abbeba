/- Part. Conditions: none. -/
import Derived.Test.YtalhnjjchkmfeabGreatDoorTu
import Derived.Test.YtalhnjjchkmfeabGreatDoorUg
namespace Go.Proofs.YtalhnjjchkmfeabGreatDoor
set_option maxHeartbeats 4000000
set_option linter.unusedSimpArgs false
set_option linter.unusedVariables false
set_option maxRecDepth 4000
section
variable {G:aE}{bb:Bool}
theorem D6{b s:L Int}{k:Nat}(h:k+s.length<=b.length)(j:Nat):(gI b k s).getD j 0=if k<=j/\j<k+s.length then s.getD (j-k) 0 else b.getD j 0:=by
 unfold gI;simp only[aZo];split;rename_i c;rw[aZr,aZD (by rw[aZd];omega),aZd,bAA (by omega),aZv (by omega)];rename_i c;by_cases a:j<k;rw[aZr,aZv (by rw[aZd];omega),List.getElem?_take_of_lt a];rw[aZD (by rw[aZa,aZd];omega),aZK,aZa,aZd,bAA (by omega)];congr 2;omega
theorem Fd{a b:L Int}(c:a.length=b.length)(h:∀j,j<a.length->a.getD j 0=b.getD j 0):a=b:=by
 refine List.ext_getElem c (fun j p q=>?_)
 have:=h j p;simpa[aZo,p,q] using this
theorem gtc{s:L Int}{a b:Nat}(h:a=b):s.getD a 0=s.getD b 0:=by rw[h]
theorem Fe(s:L Int)(a n j:Nat)(b:j<n):((s.drop a).take n).getD j 0=s.getD (a+j) 0:=by
 simp only[aZo,List.getElem?_take_of_lt b,aZK]
theorem aAt(n j:Nat):(zl n).getD j 0=0:=by
 simp only[zl,aZo,bAf];split<;>rfl
theorem aLP(n:Int)(j:Nat)(h:j<2):(bJ n 2).getD j 0=if j=0 then n % 256 else n / 256 % 256:=by
 rcases j with _|_|j;rfl;rfl;omega
theorem Xh{a b:L Int}(j:Nat):(a++b).getD j 0=if j<a.length then a.getD j 0 else b.getD (j-a.length) 0:=by
 simp only[aZo];split;rw[aZv (by assumption)];rw[aZD (by omega)]
abbrev gY(s:L Int)(a:Nat):L Int:=(s.drop a).take 2
theorem lD{s:L Int}{a:Nat}(h:a+2<=s.length):(gY s a).length=2:=by rw[aZd,aZh];omega
def nI(s:L Int)(n:Int):Nat->L Int
 |0=>gI s 40 (bJ n 2)
 |i+1=>gI (gI (nI s n i) (42+2*i) (gY (nI s n i) (64*i+62))) (64*i+62) (bJ n 2)
def ptG(s:L Int)(n:Int)(i j:Nat):Int:=
 if j=40 then n % 256 else if j=41 then n / 256 % 256 else if 42<=j/\j<42+2*i then s.getD (64*((j-42) / 2)+62+(j-42) % 2) 0
 else if j % 64=62/\j / 64<i then n % 256 else if j % 64=63/\j / 64<i then n / 256 % 256 else s.getD j 0
theorem oY{s:L Int}{n:Int}(b:s.length=512):∀i,i<=8->(nI s n i).length=512
 |0,_=>by rw[nI,cR (by rw[aB];omega),b]
 | i+1,h=>by
  have:=oY (n:=n) b i (by omega);have c:=lD (s:=nI s n i) (a:=64 * i+62) (by omega);have d:(gI (nI s n i) (42+2 * i) (gY (nI s n i) (64 * i+62))).length=512:=by rw[cR (by omega),this]
  rw[nI,cR (by rw[aB];omega),d]
theorem M7{s:L Int}{n:Int}(e:s.length=512):∀i,i<=8->∀j,(nI s n i).getD j 0=ptG s n i j
 | 0,_,j=>by
  rw[nI,D6 (by rw[aB];omega),aB];unfold ptG;split
  ·rename_i h;rw[aLP _ _ (by omega)];by_cases b:j=40
   ·rw[if_pos (by omega),if_pos b]
   ·rw[if_neg (by omega),if_neg b,if_pos (by omega)]
  ·rw[if_neg (by omega),if_neg (by omega),if_neg (by omega),if_neg (by omega),if_neg (by omega)]
 | i+1,h,j=>by
  have g:=oY (n:=n) e i (by omega);have f:=M7 (n:=n) e i (by omega);have c:=lD (s:=nI s n i) (a:=64 * i+62) (by omega);have k:(gI (nI s n i) (42+2 * i) (gY (nI s n i) (64 * i+62))).length=512:=by rw[cR (by omega),g]
  rw[nI,D6 (by rw[aB];omega),aB];split
  ·rename_i b;rw[aLP _ _ (by omega)];unfold ptG;by_cases d:j=64 * i+62
   ·rw[if_pos (by omega),if_neg (by omega),if_neg (by omega),if_neg (by omega),if_pos (by omega)]
   ·rw[if_neg (by omega),if_neg (by omega),if_neg (by omega),if_neg (by omega),if_neg (by omega),if_pos (by omega)]
  ·rename_i b;rw[D6 (by omega),c];split
   ·rename_i d;rw[Fe _ _ _ _ (by omega),f];unfold ptG;rw[if_neg (by omega),if_neg (by omega),if_neg (by omega),if_neg (by omega),if_neg (by omega),if_neg (by omega),if_neg (by omega),if_pos (by omega)];exact gtc (by omega)
   ·rename_i d;rw[f];unfold ptG
    repeat' split
    all_goals first | rfl | (exfalso;omega)
def Co(s:L Int)(n:Int):Nat->L Int×L Int
 |0=>(bJ n 2,s)
 |i+1=>((Co s n i).1++gY (Co s n i).2 (64*i+62),gI (Co s n i).2 (64*i+62) (bJ n 2))
theorem aAu{s:L Int}{n:Int}(d:s.length=512):∀i,i<=8->(Co s n i).2.length=512/\(Co s n i).1.length=2+2*i/\(∀j,(Co s n i).2.getD j 0=if j % 64=62/\j / 64<i then n % 256 else if j % 64=63/\j / 64<i then n / 256 % 256 else s.getD j 0)/\ ∀j,j<2+2*i->(Co s n i).1.getD j 0=if j=0 then n % 256 else if j=1 then n / 256 % 256 else s.getD (64*((j-2) / 2)+62+(j-2) % 2) 0
 | 0,_=>⟨d,aB n 2,fun j=>by rw[if_neg (by omega),if_neg (by omega)];rfl,fun j g=>by
   show (bJ n 2).getD j 0=_;rw[aLP _ _ (by omega)];by_cases h:j=0
   ·rw[if_pos h,if_pos h]
   ·rw[if_neg h,if_neg h,if_pos (by omega)]⟩
 | i+1,h=>by
  obtain⟨k,e,b,f⟩:=aAu (n:=n) d i (by omega);have c:=lD (s:=(Co s n i).2) (a:=64 * i+62) (by omega);refine⟨?_, ?_,fun j=>?_,fun j g=>?_⟩
  ·rw[Co];show (gI _ _ _).length=512;rw[cR (by rw[aB];omega),k]
  ·show ((Co s n i).1++gY (Co s n i).2 (64 * i+62)).length=_;rw[aZa,c,e];omega
  ·rw[Co];show (gI _ _ _).getD j 0=_;rw[D6 (by rw[aB];omega),aB];split
   ·rw[aLP _ _ (by omega)];by_cases l:j=64 * i+62
    ·rw[if_pos (by omega),if_pos (by omega)]
    ·rw[if_neg (by omega),if_neg (by omega),if_pos (by omega)]
   ·rw[b]
    repeat' split
    all_goals first | rfl | (exfalso;omega)
  ·show ((Co s n i).1++gY (Co s n i).2 (64 * i+62)).getD j 0=_;rw[Xh,e];split
   ·rw[f j (by omega)]
   ·rw[Fe _ _ _ _ (by omega),b,if_neg (by omega),if_neg (by omega),if_neg (by omega),if_neg (by omega)];exact gtc (by omega)
theorem aLQ{s:L Int}{n:Int}(b:s.length=512):gI (Co s n 8).2 40 (Co s n 8).1=nI s n 8:=by
 obtain⟨f,g,d,e⟩:=aAu (n:=n) b 8 (by omega);refine Fd (by rw[cR (by omega),f,oY b 8 (by omega)]) (fun j _=>?_)
 rw[D6 (by omega),g,M7 b 8 (by omega)];unfold ptG;split;rw[e _ (by omega)];by_cases a:j=40;rw[if_pos (by omega),if_pos a];by_cases c:j=41;rw[if_neg (by omega),if_pos (by omega),if_neg a,if_pos c];rw[if_neg (by omega),if_neg (by omega),if_neg a,if_neg c,if_pos (by omega)];exact gtc (by omega)
 ·rw[d]
  repeat' split
  all_goals first|rfl|(exfalso;omega)
def Gw(s:L Int):Nat->L Int
 |0=>s
 |i+1=>gI (Gw s i) (64*i+62) (gY (Gw s i) (42+2*i))
def opG(s:L Int)(i j:Nat):Int:=if 62<=j % 64/\j / 64<i then s.getD (42+2*(j / 64)+(j % 64-62)) 0 else s.getD j 0
theorem J4{s:L Int}(d:s.length=512):∀i,i<=8->(Gw s i).length=512/\∀j,(Gw s i).getD j 0=opG s i j
 |0,_=>⟨d,fun j=>by unfold opG;rw[if_neg (by omega)];rfl⟩
 | i+1,h=>by
  obtain⟨e,b⟩:=J4 d i (by omega);have c:=lD (s:=Gw s i) (a:=42+2 * i) (by omega);refine⟨by rw[Gw,cR (by omega),e],fun j=>?_⟩
  rw[Gw,D6 (by omega),c];split
  ·rw[Fe _ _ _ _ (by omega),b];unfold opG;rw[if_neg (by omega),if_pos (by omega)];exact gtc (by omega)
  ·rw[b];unfold opG
   repeat' split
   all_goals first | rfl | (exfalso;omega)
def eU(s:L Int):L Int:=gI (Gw s 8) 40 (zl 18)
theorem qU{s:L Int}(a:s.length=512):(eU s).length=512:=by
 rw[eU,cR (by rw[aP,(J4 a 8 (by omega)).1];omega),(J4 a 8 (by omega)).1]
theorem T2{s:L Int}(a:s.length=512)(j:Nat):(eU s).getD j 0=if 40<=j/\j<58 then 0 else opG s 8 j:=by
 rw[eU,D6 (by rw[aP,(J4 a 8 (by omega)).1];omega),aP,aAt,(J4 a 8 (by omega)).2]
def Xi(s:L Int):Nat->L Int
 |0=>gI s 40 (zl 18)
 |i+1=>gI (Xi s i) (64*i+62) (gY s (42+2*i))
theorem aHe{s:L Int}(b:s.length=512):∀i,i<=8->(Xi s i).length=512/\∀j,(Xi s i).getD j 0=if 40<=j/\j<58 then 0 else opG s i j
 |0,_=>⟨by rw[Xi,cR (by rw[aP];omega),b],fun j=>by rw[Xi,D6 (by rw[aP];omega),aP,aAt];unfold opG;rw[if_neg (by omega:¬ (62<=j % 64/\j / 64<0))]⟩
 | i+1,h=>by
  obtain⟨e,d⟩:=aHe b i (by omega);have c:=lD (s:=s) (a:=42+2 * i) (by omega);refine⟨by rw[Xi,cR (by omega),e],fun j=>?_⟩
  rw[Xi,D6 (by omega),c];split
  ·rw[Fe _ _ _ _ (by omega)];unfold opG;rw[if_neg (by omega),if_pos (by omega)];exact gtc (by omega)
  ·rw[d];unfold opG
   repeat' split
   all_goals first | rfl | (exfalso;omega)
theorem aLR{s:L Int}(a:s.length=512):Xi s 8=eU s:=by
 obtain⟨c,b⟩:=aHe a 8 (by omega);exact Fd (by rw[c,qU a]) (fun j _=>by rw[b,T2 a])
def gS(s:L Int):Int:=gL s 40 2
def T4(s:L Int)(i:Nat):Prop:=gS s=0\/gY s (64*i+62)≠gY s 40
def jY(s:L Int):Prop:=gS s≠0/\∀i,i<8->gY s (64*i+62)=gY s 40
theorem qV{s:L Int}{a:Nat}(h:a+2<=s.length):gY s a=[s.getD a 0,s.getD (a+1) 0]:=by
 refine Fd (lD h) (fun j b=>?_)
 rw[lD h] at b;rw[Fe _ _ _ _ b];rcases j with _|_|j
 rfl;rfl;omega
theorem aHf{s:L Int}{a:Nat}(h:a+2<=s.length):gL s a 2=s.getD a 0+256*s.getD (a+1) 0:=by
 unfold gL;rw[show (s.drop a).take 2=gY s a from rfl,qV h]
 simp[gv]
theorem qW{s:L Int}(a:aH s)(j:Nat):0<=s.getD j 0/\s.getD j 0<=255:=by
 simp only[aZo];by_cases h:j<s.length;rw[aZi h];exact a _ (aZk h);rw[bAi (by omega)];simp
theorem aHg{s:L Int}(a:s.length=512)(b:aH s)(e:jY s):nI (eU s) (gS s) 8=s:=by
 have c:=qU a;refine Fd (by rw[oY c 8 (by omega),a]) (fun j n=>?_)
 rw[oY c 8 (by omega)] at n;rw[M7 c 8 (by omega)];have o:gS s=s.getD 40 0+256*s.getD 41 0:=aHf (by omega);have k:=qW b 40;have l:=qW b 41;have f:gS s % 256=s.getD 40 0:=by omega
 have g:gS s / 256 % 256=s.getD 41 0:=by omega
 clear o k l;have d:∀ i,i < 8->s.getD (64 * i+62) 0=s.getD 40 0/\s.getD (64 * i+63) 0=s.getD 41 0:=fun i m=>by
  have:=e.2 i m;rw[qV (by omega),qV (by omega)] at this;simpa using this
 generalize gS s=u at *;clear b e;unfold ptG;split;rename_i h;rw[f,h];split;rename_i h;rw[g,h];split;rename_i h p h3;rw[T2 a,if_neg (by omega)];unfold opG;rw[if_pos (by omega)];exact gtc (by omega);split;rename_i h;rw[f,<- (d (j / 64) (by omega)).1];exact gtc (by omega);split;rename_i h;rw[g,<- (d (j / 64) (by omega)).2];exact gtc (by omega);rw[T2 a,if_neg (by omega)];unfold opG;rw[if_neg (by omega)]
theorem T6{s:L Int}{n:Int}(d:s.length=512)(k:∀j,40<=j->j<58->s.getD j 0=0)(f:1<=n/\n<=65535):eU (nI s n 8)=s/\jY (nI s n 8)/\gS (nI s n 8)=n:=by
 have c:=oY (n:=n) d 8 (by omega);have g:=M7 (n:=n) d 8 (by omega);have a:(nI s n 8).getD 40 0=n % 256:=by rw[g];rfl
 have b:(nI s n 8).getD 41 0=n / 256 % 256:=by rw[g];rfl
 have e:gS (nI s n 8)=n:=by
  unfold gS;rw[aHf (by omega),a,b];omega
 refine⟨Fd (by rw[qU c,d]) (fun j l=>?_),⟨by omega,fun i m=>?_⟩,e⟩
 rw[qU c] at l;clear a b e f;rw[T2 c];split;rename_i h;rw[k j h.1 h.2];unfold opG;split;rw[g];unfold ptG;rw[if_neg (by omega),if_neg (by omega),if_pos (by omega)];exact gtc (by omega);rw[g];unfold ptG;rw[if_neg (by omega),if_neg (by omega),if_neg (by omega),if_neg (by omega),if_neg (by omega)];rw[qV (by omega),qV (by omega),a,b,g,g];clear a b g c e f k;unfold ptG;rw[if_neg (by omega),if_neg (by omega),if_neg (by omega),if_pos (by omega),if_neg (by omega),if_neg (by omega),if_neg (by omega),if_neg (by omega),if_pos (by omega)]
end
section
variable {G:aE}{bb:Bool}
theorem aCR(n a b:Int):EV G (Tb (bs bb)) 212 [vi n,vi a,vi b] []=some (vb (decide (a<=n/\n<=b)),[]):=by
 refine aA rfl ?_;by_cases h:a<=n;all_goals simp (disch:=omega) only[go_sem,h212c]
 all_goals simp[h]
theorem M8(b:Bool)(e:Int):EV G (Tb (bs bb)) 210 [vb b,vi e] []=some (vi (un b e),[]):=by
 refine aA rfl ?_;cases b;all_goals simp (disch:=omega) only[go_sem,h210c]
 all_goals rfl
theorem aHh(l:L Int)(g:l.length<=1000):EV G (Tb (bs bb)) 209 [vl (el l)] []=some (vi (aT l),[]):=by
 refine aA rfl ?_;simp (disch:=omega) only[go_sem,h209c,aY9];have a:∀ k (b:k < l.length),¬ l.getD k 0≠0->K7 [5,0,0] 0 (EC (EV G (Tb (bs bb))) G h209l0 ⟨(jk 5 (vl (el l)::vi l.length::vi k::jk 7 [])),[]⟩)=some ⟨(jk 5 (vl (el l)::vi l.length::vi (k+1:Nat)::jk 7 [])),[]⟩:=fun k b f=>by
  rw[bW l k b] at f;simp (disch:=omega) only[go_sem,h209l0,aY9,tX]
 rcases O3 (fun k=>l.getD k 0≠0) l.length with h|⟨j,e,c,d⟩
 rw[aQ (fun k=>⟨(jk 5 (vl (el l)::vi l.length::vi k::jk 7 [])),[]⟩) l.length ?_ ?_]
 rw[iK l h];simp (disch:=omega) only[go_sem,h209l0];rfl;exact fun k b=>a k b (h k b)
 rw[aQ (fun k=>⟨(jk 5 (vl (el l)::vi l.length::vi k::jk 7 [])),[]⟩) j ?_ ?_]
 rw[kM l j e d c];rw[bW l j e] at c;simp (disch:=omega) only[go_sem,h209l0,aY9,tX];rfl;exact fun k b=>a k (by omega) (d k b)
theorem aHi(a b:Int):EV G (Tb (bs bb)) 209 [vl [[ci a],[ci b]]] []=some (vi (aT [a,b]),[]):=aHh [a,b] (by simp)
theorem T7(l:L Int):EV G (Tb (bs bb)) 157 [sv l] []=some (vi (un (decide (l.length=512)) 10),[]):=by
 refine aA rfl ?_;have u:=M8 (G:=G) (bb:=bb);have e:((l.length:Int)=512)=(l.length=512):=by apply propext;omega
 simp (disch:=omega) only[go_sem,h157c,u,e]
theorem Xj(i:Nat)(h:i<=1000):EV G (Tb (bs bb)) 162 [vi i] []=some (vi ((64*i+62:Nat):Int),[]):=by
 refine aA rfl ?_;have e:((i:Int)+1)*64-2=((64*i+62:Nat):Int):=by omega
 simp (disch:=omega) only[go_sem,h162c,e]
theorem aCS(n:Int)(h:-9223372036854775808<=n/\n<=9223372036854775807):EV G (Tb (bs bb)) 213 [vi n] []=some (sv (bJ n 2),[]):=by
 refine aA rfl ?_;have e:bJ n 2=[n % 256,n / 256 % 256]:=rfl;rw[e];simp (disch:=omega) only[go_sem,h213c,wu8,Hc,Int.reduceToNat,Int.reducePow,Az,gF,u8,fF,aZl,aZm];rfl
theorem orC(n b:Int)(d:0<=n/\n<=255)(c:0<=b/\b<=255):Wr .i64 b (n*256)=b+256*n:=by
 have a:Wr .i64 b (n*256)=Wr .i64 (n*256) b:=by
  unfold Wr;rw[BitVec.or_comm]
 rw[a,orL n b (by omega) c];omega
theorem M9(x y:Int)(d:0<=x/\x<=255)(e:0<=y/\y<=255):EV G (Tb (bs bb)) 159 [sv [x,y]] []=some (vi (x+256*y),[]):=by
 refine aA rfl ?_;have c:aH [x,y]:=fun b a=>by
  rcases bAl.1 a with rfl | a
  ·exact d
  ·rw[List.mem_singleton.1 a];exact e
 have f:Hw (sv [x,y]) 0=some (vu x):=aNz [x,y] c 0 (by simp);have g:Hw (sv [x,y]) 1=some (vu y):=aNz [x,y] c 1 (by simp);have o:=orC y x e d;simp (disch:=omega) only[go_sem,h159c,f,g,o,Int.reduceToNat,Int.reducePow]
theorem aVb(b:L Int):(List.map Az b).all (fun e=>decide (e.length=1))=true:=by
 rw[bAr];intro e a;obtain⟨x,_,rfl⟩:=List.mem_map.1 a;rfl
theorem aNL(b:L Int)(i:Nat)(h:i+2<=b.length)(d:b.length<=1000000):EV G (Tb (bs bb)) 160 [vl (bl b),vi i] []=some (sv (gY b i),[]):=by
 refine aA rfl ?_;have e:((b.map Az).take (i+2)).drop i=(gY b i).map Az:=by
  rw[aZZ,bAu,List.take_drop,Nat.add_comm]
 have c:((i:Int)+2).toNat=i+2:=by omega
 have a:=aVb b;simp (disch:=omega) only[go_sem,h160c,aY9,c,e,a,aGe]
theorem byS(n:Int):∀k,aH (bJ n k)
 |0=>fun b a=>by cases a
 | k+1=>fun b a=>by
  rw[bJ,bAB] at a;rcases a with a | a
  ·exact byS n k b a
  ·rw[List.mem_singleton.1 a];omega
theorem Ci:∀b:L Int,oR (List.map Az b).flatten=b.map yC
 |[]=>rfl
 | x::b=>by
  have a:=Ci b;rw[aZl,aZ7,aZl,<- a];rfl
theorem nW(b:L Int)(h:aH b):iA (fF b)=List.map Az b:=by
 show List.map _ (b.map u8)=_;rw[aZG];exact aZC fun x a=>by simp only[Function.comp_apply,Az,iB x (h x a)]
theorem aQr(b:L Int)(a n:Nat):dB (b.map yC) a (List.replicate n (cN (.int .u8 0)))=(gI b a (zl n)).map yC:=by
 have:List.replicate n (cN (.int .u8 0))=(zl n).map yC:=Pb n;rw[this];simp[dB,gI,aZQ,aZZ,bAu]
theorem Na{b:L Int}{n:Nat}(h:b.length=n)(a:0<n):(List.map Az b).isEmpty=false:=by
 cases b with
 |nil=>simp at h;omega
 |cons _ _=>rfl
theorem aVd(l:L Int)(i j:Int)(h:0<=i/\i<=j/\j<=l.length):Lc (sv l) (some (vi i)) (some (vi j))=some (sv ((l.take j.toNat).drop i.toNat)):=by
 have a:0<=j:=by omega
 have h3:i<=(j.toNat:Int):=by omega
 simp only[Lc,dN,eI,bH,aZs,h.1,h.2.1,h.2.2,a,h3,and_self,if_true,O7,aC,dS]
theorem aVe(l:L Int)(j:Int)(h:0<=j/\j<=l.length):Lc (sv l) none (some (vi j))=some (sv (l.take j.toNat)):=by
 simp[Lc,dN,eI,bH,h.1,h.2,O7,aC,dS]
theorem aHj(b:L Int)(i:Nat)(N:Nat)(c:b.length=N)(h:i+2<=N)(d:N<=1000000):EV G (Tb (bs bb)) 160 [.one (.bls 0 0 N 1),vi i] [yb b]=some (sv (gY b i),[yb b]):=by
 refine aA rfl ?_;have a:((i:Int)+2).toNat=i+2:=by omega
 have e:jN (((b.map yC).drop i).take 2)=some ((gY b i).map u8):=by rw[<- bAu,<- aZZ,kN]
 simp (disch:=omega) only[go_sem,h160c,aY9,a,bAy,e,O8]
theorem Pz(b t:L Int)(a:Int)(N:Nat)(d:b.length=N)(g:N<=1000000)(f:0<=a/\a+t.length<=N)(c:aH t):EV G (Tb (bs bb)) 161 [.one (.bls 0 0 N 1),vi a,sv t] [yb b]=some (.tup [],[yb (gI b a.toNat t)]):=by
 refine aA rfl ?_;have e:=pW b t a.toNat (N-a.toNat) c (by omega);simp (disch:=omega) only[go_sem,h161c,aY9,e]
theorem aLS(n:Nat)(h:n<=1000):EV G (Tb (bs bb)) 242 [sv (zl n),vu 0] []=some (sv [],[]):=by
 refine aA rfl ?_;simp (disch:=omega) only[go_sem,h242c];rw[aQ (fun k=>⟨(sv (zl (n-k))::vu 0::jk 21 []),[]⟩) n ?_ ?_]
 rw[aZ1];simp (disch:=omega) only[go_sem,h242l0,aC,aP];rfl;rfl;intro k c;have a:(zl (n-k))[n-k-1]?=some 0:=by unfold zl;rw[bAf,if_pos (by omega)]
 have b:=aVe (zl (n-k)) ((n-k:Nat)-1:Int) (by rw[aP];omega);have h3:(zl (n-k)).take (n-k-1)=zl (n-(k+1)):=by
  unfold zl;rw[List.take_replicate];congr 1;omega
 have h5:(((n-k:Nat):Int)-1).toNat=n-k-1:=by omega
 rw[h5,h3] at b;have h4:(0:Int)<((n-k:Nat):Int):=by omega
 have h6:((u8 0).toNat:Int)=0:=rfl;simp (disch:=omega) only[go_sem,h242l0,aC,aP,a,h3,eq_true h4,h6]
theorem aLT:EV G (Tb (bs bb)) 241 [sv [],vu 0] []=some (sv [],[]):=by
 refine aA rfl ?_;simp (disch:=omega) only[go_sem,h241c];rw[aQ (fun k=>⟨(sv []::vu 0::jk 15 []),[]⟩) 0 ?_ ?_]
 simp (disch:=omega) only[go_sem,h241l0,aC,aZc];rfl;intro k a;omega
theorem aQs:EV G (Tb (bs bb)) 211 [sv (zl 18),.one (.dc (.raw (.string ⟨#[0]⟩)))] []=some (sv [],[]):=by
 refine aA rfl ?_;have f:=aLS (G:=G) (bb:=bb) 18 (by decide);have g:=aLT (G:=G) (bb:=bb);have e:Hw (.one (.dc (.raw (.string ⟨#[0]⟩)))) 0=some (vu 0):=by rfl
 have a:¬ fF (zl 18)=⟨#[]⟩:=by decide
 have b:¬ (⟨#[0]⟩:ByteArray)=⟨#[]⟩:=by decide
 have d:((UInt8.toNat 0:Nat):Int)=0:=rfl;have c:(((#[0]:Array UInt8).size:Nat):Int)=1:=rfl;simp (disch:=omega) only[go_sem,h211c,f,g,e,a,b,c,d]
theorem byC{s:L Int}(h:aH s)(a:Nat):aH (gY s a):=fun x b=>h x (aZM (aZA b))
theorem aLU{b s:L Int}{k:Nat}(c:aH b)(d:aH s):aH (gI b k s):=fun x a=>by
 unfold gI at a;rcases bAB.1 a with a|a
 rcases bAB.1 a with a|a;exact c x (aZA a);exact d x a;exact c x (aZM a)
theorem Xk{b:L Int}{u:Int}(c:b.length=512)(a:aH b):∀k,k<=8->aH (nI b u k)
 |0,_=>aLU a (byS u 2)
 |k+1,h=>aLU (aLU (Xk c a k (by omega)) (byC (Xk c a k (by omega)) _)) (byS u 2)
theorem aCT(b:L Int)(u:Int)(d:b.length=512)(j:aH b)(F:(b.drop 40).take 18=zl 18)(E:1<=u/\u<=65535):EV G (Tb (bs bb)) 156 [sv b,vi u] []=some (.tup [.one (.dc (.raw (.string (fF (nI b u 8))))),.one (.dc (ci 0))],[]):=by
 refine aA rfl ?_;have p:=T7 (G:=G) (bb:=bb) b;have w:=M8 (G:=G) (bb:=bb);have v:un (decide (b.length=512)) 10=0:=by rw[decide_eq_true d];rfl
 rw[v] at p;have H:=aQs (G:=G) (bb:=bb);have q:=aCR (G:=G) (bb:=bb) u 1 65535;rw[decide_eq_true E] at q;have I:=aHi (G:=G) (bb:=bb);have r:=aCS (G:=G) (bb:=bb) u (by omega);have N:=aVd b 40 58 (by omega);have K:(b.take (58:Int).toNat).drop (40:Int).toNat=zl 18:=by
  rw[<- F,List.take_drop];rfl
 have A:fF []=⟨#[]⟩:=rfl;have J:=Pz (G:=G) (bb:=bb) b (bJ u 2) 40 512 d (by decide) (by rw[aB];decide) (byS u 2);have B:=nW b j;have C:=Na d (by decide);have D:=Ci b;simp (disch:=omega) only[go_sem,h156c,p,w,H,q,I,r,K,A,gA,bD,bP,aC,d,B,C,D,O2,aY9,J];rw[aQ (fun k=>⟨(jk 1 (vi u::jk 6 (.one (.bls 0 0 512 1)::jk 25 (vi k::jk 20 [])))),[yb (nI b u k)]⟩) 8 ?_ ?_]
 have f:=oY (n:=u) d 8 (by decide);have e:jN (List.take 512 (List.map yC (nI b u 8)))=some ((nI b u 8).map u8):=by rw[Dt _ _ (by omega),kN]
 simp (disch:=omega) only[go_sem,h156l0,e,O8];rfl;intro k M;have f:=oY (n:=u) d k (by omega);have t1:=Xj (G:=G) (bb:=bb) k (by omega);have t:=aHj (G:=G) (bb:=bb) (nI b u k) (64*k+62) 512 f (by omega) (by decide);have l:=lD (s:=nI b u k) (a:=64*k+62) (by omega);have g:aH (nI b u k):=Xk d j k (by omega);have o:=Pz (G:=G) (bb:=bb) (nI b u k) (gY (nI b u k) (64*k+62)) (42+2*(k:Int)) 512 f (by decide) (by rw[l];omega) (byC g _);have n1:(42+2*(k:Int)).toNat=42+2*k:=by omega
 rw[n1] at o;have h:(gI (nI b u k) (42+2*k) (gY (nI b u k) (64*k+62))).length=512:=by rw[cR (by rw[l];omega),f]
 have i:=Pz (G:=G) (bb:=bb) (gI (nI b u k) (42+2*k) (gY (nI b u k) (64*k+62))) (bJ u 2) ((64*k+62:Nat):Int) 512 h (by decide) (by rw[aB];omega) (byS u 2);rw[aZy] at i;have e:gI (gI (nI b u k) (42+2*k) (gY (nI b u k) (64*k+62))) (64*k+62) (bJ u 2)=nI b u (k+1):=rfl;rw[e] at i;generalize 64*k+62=m at *;generalize nI b u (k+1)=y at *;generalize gI (nI b u k) (42+2*k) (gY (nI b u k) m)=x at *;generalize gY (nI b u k) m=c at *;generalize nI b u k=z at *;simp (disch:=omega) only[go_sem,h156l0,t1,t,o,i,r]
end
section
variable {G:aE}{bb:Bool}
noncomputable def rK(s:L Int):Nat->L Int
 |0=>[]
 |k+1=>rK s k++(open Classical in if T4 s k then [(k:Int)] else [])
theorem T8(s:L Int):∀k,rK s k=[]↔∀i,i<k->¬ T4 s i
 |0=>by simp[rK]
 | k+1=>by
  rw[rK,List.append_eq_nil_iff,T8 s k];constructor
  ·rintro⟨b,a⟩ i c;by_cases e:i=k
   ·subst e;intro h;rw[if_pos h] at a;cases a
   ·exact b i (by omega)
  ·intro h;exact⟨fun i c=>h i (by omega),by rw[if_neg (h k (by omega))]⟩
theorem J5(s:L Int):∀k,(rK s k).length<=k
 |0=>aZe _
 | k+1=>by
  rw[rK,aZa];have:=J5 s k;split<;>simp<;>omega
theorem Xl(s:L Int):rK s 8=[]↔jY s:=by
 rw[T8];unfold T4 jY;constructor;intro h;refine⟨fun c=>h 0 (by decide) (.inl c),fun i b=>?_⟩
 exact Classical.byContradiction fun a=>h i b (.inr a)
 rintro⟨a,d⟩ i b h;rcases h with h|h;exact a h;exact h (d i b)
theorem aAv{s:L Int}(a:s.length=512):gY s 40=[s.getD 40 0,s.getD 41 0]/\gS s=s.getD 40 0+256*s.getD 41 0:=⟨qV (by omega),aHf (by omega)⟩
theorem aLV{a b:L Int}(c:aH a)(d:aH b):(fF a=fF b)=(a=b):=dA c d
theorem aQt(s:List Int)(t:s.length=512)(b:aH s):EV G (Tb (bs bb)) 158 [sv s] []=some (vl ((rK s 8).map fun n=>[ci n]),[]):=by
 refine aA rfl ?_;have p:=nW s b;obtain⟨q,u⟩:=aAv t;have l:EV G (Tb (bs bb)) 160 [vl (bl s),vi 40] []=some (sv (gY s 40),[]):=aNL (G:=G) (bb:=bb) s 40 (by omega) (by omega);have e:=M9 (G:=G) (bb:=bb) (s.getD 40 0) (s.getD 41 0) (qW b 40) (qW b 41);rw[<- q,<- u] at e;simp (disch:=omega) only[go_sem,h158c,p];rw[aQ (fun k=>⟨(jk 3 (vl (bl s)::.one (.bld 0 (rK s k).length)::jk 3 (vi k::jk 21 []))),[.arr 0 1 ((rK s k).map fun n=>[ci n])]⟩) 8 ?_ ?_]
 have h8:((rK s 8).map fun n=>[ci n]).take (rK s 8).length=(rK s 8).map fun n=>[ci n]:=aZI (by rw[aY9];exact aZe _)
 simp (disch:=omega) only[go_sem,h158l0,aY9,h8,aZe];rfl;intro k v;have t1:=Xj (G:=G) (bb:=bb) k (by omega);have g:=aNL (G:=G) (bb:=bb) s (64*k+62) (by omega) (by omega);have d:(fF (gY s (64*k+62))=fF (gY s 40))=(gY s (64*k+62)=gY s 40):=aLV (byC b _) (byC b _);have a:gG 1 ((rK s k).map fun n=>[ci n])=true:=jP (f:=fun n=>[ci n]) (fun _=>rfl) _
 have r:=J5 s k;have j:((rK s k).map fun n=>[ci n]).take (rK s k).length=(rK s k).map fun n=>[ci n]:=aZI (by rw[aY9];exact aZe _)
 have o:rK s (k+1)=rK s k++(open Classical in if T4 s k then [(k:Int)] else []):=rfl
 unfold T4 at o;rw[o];generalize rK s k=L at *;generalize gS s=w at *;generalize 64*k+62=m at *;by_cases c:w=0;rw[if_pos (.inl c)];rw[aZQ,aZa];simp (disch:=omega) only[go_sem,h158l0,aY9,l,e,t1,g,eq_true c,a,j,aZe,aZl,aZm,aZb,aZc];by_cases i:gY s m=gY s 40;rw[if_neg (by rintro (h|h)<;>contradiction),aZ9]
 rw[eq_true i] at d;simp (disch:=omega) only[go_sem,h158l0,aY9,l,e,t1,g,c,d,a,j,aZe];rw[if_pos (.inr i)];rw[eq_false i] at d;rw[aZQ,aZa];simp (disch:=omega) only[go_sem,h158l0,aY9,l,e,t1,g,c,d,a,j,aZe,aZl,aZm,aZb,aZc]
theorem Xm{s:L Int}(a:aH s):∀k,aH (Gw s k)
 |0=>a
 |k+1=>aLU (Xm a k) (byC (Xm a k) _)
abbrev aNM(s:L Int)(u e:Int):AV:=.tup [.one (.dc (.raw (.string (fF s)))),.one (.dc (ci u)),.one (.dc (ci e))]
open Classical in
theorem aQu(s:List Int)(b:s.length=512)(d:aH s):EV G (Tb (bs bb)) 109 [sv s] []=some (if jY s then aNM (eU s) (gS s) 0 else aNM [] 0 31,[]):=by
 refine aA rfl ?_;have o:=T7 (G:=G) (bb:=bb) s;have v:un (decide (s.length=512)) 10=0:=by rw[decide_eq_true b];rfl
 rw[v] at o;have t:=aQt (G:=G) (bb:=bb) s b d;have r:=Xl s;have E:=J5 s 8;have A:=nW s d;have B:=Na b (by decide);have C:=Ci s;have I:fF []=⟨#[]⟩:=rfl;generalize rK s 8=L at *;by_cases c:jY s;rw[if_pos c];have g:=r.2 c;subst g;obtain⟨D,F⟩:=aAv b;have H:EV G (Tb (bs bb)) 160 [.one (.bls 0 0 512 1),vi 40] [yb s]=some (sv (gY s 40),[yb s]):=aHj (G:=G) (bb:=bb) s 40 512 b (by omega) (by decide);have u:=M9 (G:=G) (bb:=bb) (s.getD 40 0) (s.getD 41 0) (qW d 40) (qW d 41);rw[<- D,<- F] at u;generalize gS s=w at *;simp (disch:=omega) only[go_sem,h109c,o,t,aZm,aZc,aC,b,A,B,C,O2,aY9,H,u];rw[aQ (fun k=>⟨(jk 6 (.one (.bls 0 0 512 1)::vi w::jk 15 (vi k::jk 17 []))),[yb (Gw s k)]⟩) 8 ?_ ?_]
 have f:=(J4 b 8 (by decide)).1;have j:=qU b;have l:(Gw s 8).length=512:=f;have q:dB (List.map yC (Gw s 8)) 40 (List.replicate 18 (aU.dc (DC.raw (Value.int .u8 0))))=List.map yC (gI (Gw s 8) 40 (zl 18)):=aQr (Gw s 8) 40 18;have x:gI (Gw s 8) 40 (zl 18)=eU s:=rfl;rw[x] at q;have e:jN (List.take 512 (List.map yC (eU s)))=some ((eU s).map u8):=by rw[Dt _ _ (by omega),kN]
 simp (disch:=omega) only[go_sem,h109l0,aY9,l,j,Int.reduceToNat,q,e,O8];rfl;intro k J;have f:=(J4 b k (by omega)).1;have t1:=Xj (G:=G) (bb:=bb) k (by omega);have p:=aHj (G:=G) (bb:=bb) (Gw s k) (42+2*k) 512 f (by omega) (by decide);have i:=lD (s:=Gw s k) (a:=42+2*k) (by omega);have n:=Pz (G:=G) (bb:=bb) (Gw s k) (gY (Gw s k) (42+2*k)) ((64*k+62:Nat):Int) 512 f (by decide) (by rw[i];omega) (byC (Xm d k) _);rw[aZy] at n;have e:gI (Gw s k) (64*k+62) (gY (Gw s k) (42+2*k))=Gw s (k+1):=rfl;rw[e] at n;have n1:((42+2*k:Nat):Int)=42+2*(k:Int):=by omega
 rw[n1] at p;generalize gY (Gw s k) (42+2*k)=c at *;generalize 64*k+62=m at *;generalize Gw s (k+1)=y at *;generalize Gw s k=z at *;simp (disch:=omega) only[go_sem,h109l0,t1,p,n];rw[if_neg c];have g:0<(L.length:Int):=by
  have:L≠[]:=fun h=>c (r.1 h)
  have:=List.length_pos_iff.2 this;omega
 simp (disch:=omega) only[go_sem,h109c,o,t,aY9,eq_true g];rfl
