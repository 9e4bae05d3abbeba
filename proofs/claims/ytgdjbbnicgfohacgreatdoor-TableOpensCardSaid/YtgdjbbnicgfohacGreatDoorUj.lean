/- Part. Conditions: none. -/
import Derived.Test.YtgdjbbnicgfohacGreatDoorTu
import Derived.Test.YtgdjbbnicgfohacGreatDoorUg
import Derived.Test.YtgdjbbnicgfohacGreatDoorVq
namespace Go.Proofs.YtgdjbbnicgfohacGreatDoor
set_option maxHeartbeats 4000000
set_option linter.unusedSimpArgs false
set_option linter.unusedVariables false
set_option maxRecDepth 4000
section
variable {G:aF}{bb:Bool}
theorem Dy{b s:L Int}{k:Nat}(h:k+s.length<=b.length)(j:Nat):(iW b k s).getD j 0=if k<=j/\j<k+s.length then s.getD (j-k) 0 else b.getD j 0:=by
 unfold iW;simp only[aZo];split;rename_i c;rw[aZr,aZB (by rw[aZf];omega),aZf,Nat.min_eq_left (by omega),aZw (by omega)];rename_i c;by_cases a:j<k;rw[aZr,aZw (by rw[aZf];omega),List.getElem?_take_of_lt a];rw[aZB (by rw[aZb,aZf];omega),aZJ,aZb,aZf,Nat.min_eq_left (by omega)];congr 2;omega
theorem Fa{a b:L Int}(c:a.length=b.length)(h:∀j,j<a.length->a.getD j 0=b.getD j 0):a=b:=by
 refine List.ext_getElem c (fun j p q=>?_)
 have:=h j p;simpa[aZo,p,q] using this
theorem gtc{s:L Int}{a b:Nat}(h:a=b):s.getD a 0=s.getD b 0:=by rw[h]
theorem Fb(s:L Int)(a n j:Nat)(b:j<n):((s.drop a).take n).getD j 0=s.getD (a+j) 0:=by
 simp only[aZo,List.getElem?_take_of_lt b,aZJ]
theorem aAI(n j:Nat):(zl n).getD j 0=0:=by
 simp only[zl,aZo,bAg];split<;>rfl
theorem aLH(n:Int)(j:Nat)(h:j<2):(bI n 2).getD j 0=if j=0 then n % 256 else n / 256 % 256:=by
 rcases j with _|_|j;rfl;rfl;omega
theorem Xp{a b:L Int}(j:Nat):(a++b).getD j 0=if j<a.length then a.getD j 0 else b.getD (j-a.length) 0:=by
 simp only[aZo];split;rw[aZw (by assumption)];rw[aZB (by omega)]
abbrev gU(s:L Int)(a:Nat):L Int:=(s.drop a).take 2
theorem kQ{s:L Int}{a:Nat}(h:a+2<=s.length):(gU s a).length=2:=by rw[aZf,aZn];omega
def mY(s:L Int)(n:Int):Nat->L Int
 |0=>iW s 40 (bI n 2)
 |i+1=>iW (iW (mY s n i) (42+2*i) (gU (mY s n i) (64*i+62))) (64*i+62) (bI n 2)
def ptG(s:L Int)(n:Int)(i j:Nat):Int:=
 if j=40 then n % 256 else if j=41 then n / 256 % 256 else if 42<=j/\j<42+2*i then s.getD (64*((j-42) / 2)+62+(j-42) % 2) 0
 else if j % 64=62/\j / 64<i then n % 256 else if j % 64=63/\j / 64<i then n / 256 % 256 else s.getD j 0
theorem oF{s:L Int}{n:Int}(b:s.length=512):∀i,i<=8->(mY s n i).length=512
 |0,_=>by rw[mY,cX (by rw[aA];omega),b]
 | i+1,h=>by
  have:=oF (n:=n) b i (by omega);have c:=kQ (s:=mY s n i) (a:=64 * i+62) (by omega);have d:(iW (mY s n i) (42+2 * i) (gU (mY s n i) (64 * i+62))).length=512:=by rw[cX (by omega),this]
  rw[mY,cX (by rw[aA];omega),d]
theorem Nc{s:L Int}{n:Int}(e:s.length=512):∀i,i<=8->∀j,(mY s n i).getD j 0=ptG s n i j
 | 0,_,j=>by
  rw[mY,Dy (by rw[aA];omega),aA];unfold ptG;split
  ·rename_i h;rw[aLH _ _ (by omega)];by_cases b:j=40
   ·rw[if_pos (by omega),if_pos b]
   ·rw[if_neg (by omega),if_neg b,if_pos (by omega)]
  ·rw[if_neg (by omega),if_neg (by omega),if_neg (by omega),if_neg (by omega),if_neg (by omega)]
 | i+1,h,j=>by
  have g:=oF (n:=n) e i (by omega);have f:=Nc (n:=n) e i (by omega);have c:=kQ (s:=mY s n i) (a:=64 * i+62) (by omega);have k:(iW (mY s n i) (42+2 * i) (gU (mY s n i) (64 * i+62))).length=512:=by rw[cX (by omega),g]
  rw[mY,Dy (by rw[aA];omega),aA];split
  ·rename_i b;rw[aLH _ _ (by omega)];unfold ptG;by_cases d:j=64 * i+62
   ·rw[if_pos (by omega),if_neg (by omega),if_neg (by omega),if_neg (by omega),if_pos (by omega)]
   ·rw[if_neg (by omega),if_neg (by omega),if_neg (by omega),if_neg (by omega),if_neg (by omega),if_pos (by omega)]
  ·rename_i b;rw[Dy (by omega),c];split
   ·rename_i d;rw[Fb _ _ _ _ (by omega),f];unfold ptG;rw[if_neg (by omega),if_neg (by omega),if_neg (by omega),if_neg (by omega),if_neg (by omega),if_neg (by omega),if_neg (by omega),if_pos (by omega)];exact gtc (by omega)
   ·rename_i d;rw[f];unfold ptG
    repeat' split
    all_goals first | rfl | (exfalso;omega)
def Ck(s:L Int)(n:Int):Nat->L Int×L Int
 |0=>(bI n 2,s)
 |i+1=>((Ck s n i).1++gU (Ck s n i).2 (64*i+62),iW (Ck s n i).2 (64*i+62) (bI n 2))
theorem aAJ{s:L Int}{n:Int}(d:s.length=512):∀i,i<=8->(Ck s n i).2.length=512/\(Ck s n i).1.length=2+2*i/\(∀j,(Ck s n i).2.getD j 0=if j % 64=62/\j / 64<i then n % 256 else if j % 64=63/\j / 64<i then n / 256 % 256 else s.getD j 0)/\ ∀j,j<2+2*i->(Ck s n i).1.getD j 0=if j=0 then n % 256 else if j=1 then n / 256 % 256 else s.getD (64*((j-2) / 2)+62+(j-2) % 2) 0
 | 0,_=>⟨d,aA n 2,fun j=>by rw[if_neg (by omega),if_neg (by omega)];rfl,fun j g=>by
   show (bI n 2).getD j 0=_;rw[aLH _ _ (by omega)];by_cases h:j=0
   ·rw[if_pos h,if_pos h]
   ·rw[if_neg h,if_neg h,if_pos (by omega)]⟩
 | i+1,h=>by
  obtain⟨k,e,b,f⟩:=aAJ (n:=n) d i (by omega);have c:=kQ (s:=(Ck s n i).2) (a:=64 * i+62) (by omega);refine⟨?_, ?_,fun j=>?_,fun j g=>?_⟩
  ·rw[Ck];show (iW _ _ _).length=512;rw[cX (by rw[aA];omega),k]
  ·show ((Ck s n i).1++gU (Ck s n i).2 (64 * i+62)).length=_;rw[aZb,c,e];omega
  ·rw[Ck];show (iW _ _ _).getD j 0=_;rw[Dy (by rw[aA];omega),aA];split
   ·rw[aLH _ _ (by omega)];by_cases l:j=64 * i+62
    ·rw[if_pos (by omega),if_pos (by omega)]
    ·rw[if_neg (by omega),if_neg (by omega),if_pos (by omega)]
   ·rw[b]
    repeat' split
    all_goals first | rfl | (exfalso;omega)
  ·show ((Ck s n i).1++gU (Ck s n i).2 (64 * i+62)).getD j 0=_;rw[Xp,e];split
   ·rw[f j (by omega)]
   ·rw[Fb _ _ _ _ (by omega),b,if_neg (by omega),if_neg (by omega),if_neg (by omega),if_neg (by omega)];exact gtc (by omega)
theorem aLI{s:L Int}{n:Int}(b:s.length=512):iW (Ck s n 8).2 40 (Ck s n 8).1=mY s n 8:=by
 obtain⟨f,g,d,e⟩:=aAJ (n:=n) b 8 (by omega);refine Fa (by rw[cX (by omega),f,oF b 8 (by omega)]) (fun j _=>?_)
 rw[Dy (by omega),g,Nc b 8 (by omega)];unfold ptG;split;rw[e _ (by omega)];by_cases a:j=40;rw[if_pos (by omega),if_pos a];by_cases c:j=41;rw[if_neg (by omega),if_pos (by omega),if_neg a,if_pos c];rw[if_neg (by omega),if_neg (by omega),if_neg a,if_neg c,if_pos (by omega)];exact gtc (by omega)
 ·rw[d]
  repeat' split
  all_goals first|rfl|(exfalso;omega)
def G2(s:L Int):Nat->L Int
 |0=>s
 |i+1=>iW (G2 s i) (64*i+62) (gU (G2 s i) (42+2*i))
def opG(s:L Int)(i j:Nat):Int:=if 62<=j % 64/\j / 64<i then s.getD (42+2*(j / 64)+(j % 64-62)) 0 else s.getD j 0
theorem Ka{s:L Int}(d:s.length=512):∀i,i<=8->(G2 s i).length=512/\∀j,(G2 s i).getD j 0=opG s i j
 |0,_=>⟨d,fun j=>by unfold opG;rw[if_neg (by omega)];rfl⟩
 | i+1,h=>by
  obtain⟨e,b⟩:=Ka d i (by omega);have c:=kQ (s:=G2 s i) (a:=42+2 * i) (by omega);refine⟨by rw[G2,cX (by omega),e],fun j=>?_⟩
  rw[G2,Dy (by omega),c];split
  ·rw[Fb _ _ _ _ (by omega),b];unfold opG;rw[if_neg (by omega),if_pos (by omega)];exact gtc (by omega)
  ·rw[b];unfold opG
   repeat' split
   all_goals first | rfl | (exfalso;omega)
def eK(s:L Int):L Int:=iW (G2 s 8) 40 (zl 18)
theorem qF{s:L Int}(a:s.length=512):(eK s).length=512:=by
 rw[eK,cX (by rw[aS,(Ka a 8 (by omega)).1];omega),(Ka a 8 (by omega)).1]
theorem Tv{s:L Int}(a:s.length=512)(j:Nat):(eK s).getD j 0=if 40<=j/\j<58 then 0 else opG s 8 j:=by
 rw[eK,Dy (by rw[aS,(Ka a 8 (by omega)).1];omega),aS,aAI,(Ka a 8 (by omega)).2]
def Xq(s:L Int):Nat->L Int
 |0=>iW s 40 (zl 18)
 |i+1=>iW (Xq s i) (64*i+62) (gU s (42+2*i))
theorem aG1{s:L Int}(b:s.length=512):∀i,i<=8->(Xq s i).length=512/\∀j,(Xq s i).getD j 0=if 40<=j/\j<58 then 0 else opG s i j
 |0,_=>⟨by rw[Xq,cX (by rw[aS];omega),b],fun j=>by rw[Xq,Dy (by rw[aS];omega),aS,aAI];unfold opG;rw[if_neg (by omega:¬ (62<=j % 64/\j / 64<0))]⟩
 | i+1,h=>by
  obtain⟨e,d⟩:=aG1 b i (by omega);have c:=kQ (s:=s) (a:=42+2 * i) (by omega);refine⟨by rw[Xq,cX (by omega),e],fun j=>?_⟩
  rw[Xq,Dy (by omega),c];split
  ·rw[Fb _ _ _ _ (by omega)];unfold opG;rw[if_neg (by omega),if_pos (by omega)];exact gtc (by omega)
  ·rw[d];unfold opG
   repeat' split
   all_goals first | rfl | (exfalso;omega)
theorem aLJ{s:L Int}(a:s.length=512):Xq s 8=eK s:=by
 obtain⟨c,b⟩:=aG1 a 8 (by omega);exact Fa (by rw[c,qF a]) (fun j _=>by rw[b,Tv a])
def gO(s:L Int):Int:=gL s 40 2
def Tw(s:L Int)(i:Nat):Prop:=gO s=0\/gU s (64*i+62)≠gU s 40
def jN(s:L Int):Prop:=gO s≠0/\∀i,i<8->gU s (64*i+62)=gU s 40
theorem qG{s:L Int}{a:Nat}(h:a+2<=s.length):gU s a=[s.getD a 0,s.getD (a+1) 0]:=by
 refine Fa (kQ h) (fun j b=>?_)
 rw[kQ h] at b;rw[Fb _ _ _ _ b];rcases j with _|_|j
 rfl;rfl;omega
theorem aG2{s:L Int}{a:Nat}(h:a+2<=s.length):gL s a 2=s.getD a 0+256*s.getD (a+1) 0:=by
 unfold gL;rw[show (s.drop a).take 2=gU s a from rfl,qG h]
 simp[gv]
theorem qH{s:L Int}(a:aK s)(j:Nat):0<=s.getD j 0/\s.getD j 0<=255:=by
 simp only[aZo];by_cases h:j<s.length;rw[aZj h];exact a _ (aZk h);rw[bAi (by omega)];simp
theorem aG3{s:L Int}(a:s.length=512)(b:aK s)(e:jN s):mY (eK s) (gO s) 8=s:=by
 have c:=qF a;refine Fa (by rw[oF c 8 (by omega),a]) (fun j n=>?_)
 rw[oF c 8 (by omega)] at n;rw[Nc c 8 (by omega)];have o:gO s=s.getD 40 0+256*s.getD 41 0:=aG2 (by omega);have k:=qH b 40;have l:=qH b 41;have f:gO s % 256=s.getD 40 0:=by omega
 have g:gO s / 256 % 256=s.getD 41 0:=by omega
 clear o k l;have d:∀ i,i < 8->s.getD (64 * i+62) 0=s.getD 40 0/\s.getD (64 * i+63) 0=s.getD 41 0:=fun i m=>by
  have:=e.2 i m;rw[qG (by omega),qG (by omega)] at this;simpa using this
 generalize gO s=u at *;clear b e;unfold ptG;split;rename_i h;rw[f,h];split;rename_i h;rw[g,h];split;rename_i h p h3;rw[Tv a,if_neg (by omega)];unfold opG;rw[if_pos (by omega)];exact gtc (by omega);split;rename_i h;rw[f,<- (d (j / 64) (by omega)).1];exact gtc (by omega);split;rename_i h;rw[g,<- (d (j / 64) (by omega)).2];exact gtc (by omega);rw[Tv a,if_neg (by omega)];unfold opG;rw[if_neg (by omega)]
theorem Tx{s:L Int}{n:Int}(d:s.length=512)(k:∀j,40<=j->j<58->s.getD j 0=0)(f:1<=n/\n<=65535):eK (mY s n 8)=s/\jN (mY s n 8)/\gO (mY s n 8)=n:=by
 have c:=oF (n:=n) d 8 (by omega);have g:=Nc (n:=n) d 8 (by omega);have a:(mY s n 8).getD 40 0=n % 256:=by rw[g];rfl
 have b:(mY s n 8).getD 41 0=n / 256 % 256:=by rw[g];rfl
 have e:gO (mY s n 8)=n:=by
  unfold gO;rw[aG2 (by omega),a,b];omega
 refine⟨Fa (by rw[qF c,d]) (fun j l=>?_),⟨by omega,fun i m=>?_⟩,e⟩
 rw[qF c] at l;clear a b e f;rw[Tv c];split;rename_i h;rw[k j h.1 h.2];unfold opG;split;rw[g];unfold ptG;rw[if_neg (by omega),if_neg (by omega),if_pos (by omega)];exact gtc (by omega);rw[g];unfold ptG;rw[if_neg (by omega),if_neg (by omega),if_neg (by omega),if_neg (by omega),if_neg (by omega)];rw[qG (by omega),qG (by omega),a,b,g,g];clear a b g c e f k;unfold ptG;rw[if_neg (by omega),if_neg (by omega),if_neg (by omega),if_pos (by omega),if_neg (by omega),if_neg (by omega),if_neg (by omega),if_neg (by omega),if_pos (by omega)]
end
section
variable {G:aF}{bb:Bool}
theorem aC8(n a b:Int):EV G (Tb (bs bb)) 206 [vi n,vi a,vi b] []=some (vb (decide (a<=n/\n<=b)),[]):=by
 refine aB rfl ?_;by_cases h:a<=n;all_goals simp (disch:=omega) only[go_sem,h206c]
 all_goals simp[h]
theorem Nd(b:Bool)(e:Int):EV G (Tb (bs bb)) 181 [vb b,vi e] []=some (vi (un b e),[]):=by
 refine aB rfl ?_;cases b;all_goals simp (disch:=omega) only[go_sem,h181c]
 all_goals rfl
theorem aG4(l:L Int)(g:l.length<=1000):EV G (Tb (bs bb)) 180 [vl (el l)] []=some (vi (aT l),[]):=by
 refine aB rfl ?_;simp (disch:=omega) only[go_sem,h180c,aZa];have a:∀ k (b:k < l.length),¬ l.getD k 0≠0->Lf [5,0,0] 0 (EC (EV G (Tb (bs bb))) G h180l0 ⟨(jk 5 (vl (el l)::vi l.length::vi k::jk 7 [])),[]⟩)=some ⟨(jk 5 (vl (el l)::vi l.length::vi (k+1:Nat)::jk 7 [])),[]⟩:=fun k b f=>by
  rw[cD l k b] at f;simp (disch:=omega) only[go_sem,h180l0,aZa,tD]
 rcases Ph (fun k=>l.getD k 0≠0) l.length with h|⟨j,e,c,d⟩
 rw[aR (fun k=>⟨(jk 5 (vl (el l)::vi l.length::vi k::jk 7 [])),[]⟩) l.length ?_ ?_]
 rw[iD l h];simp (disch:=omega) only[go_sem,h180l0];rfl;exact fun k b=>a k b (h k b)
 rw[aR (fun k=>⟨(jk 5 (vl (el l)::vi l.length::vi k::jk 7 [])),[]⟩) j ?_ ?_]
 rw[kE l j e d c];rw[cD l j e] at c;simp (disch:=omega) only[go_sem,h180l0,aZa,tD];rfl;exact fun k b=>a k (by omega) (d k b)
theorem aG5(a b:Int):EV G (Tb (bs bb)) 180 [vl [[ci a],[ci b]]] []=some (vi (aT [a,b]),[]):=aG4 [a,b] (by simp)
theorem Tz(l:L Int):EV G (Tb (bs bb)) 184 [sv l] []=some (vi (un (decide (l.length=512)) 10),[]):=by
 refine aB rfl ?_;have u:=Nd (G:=G) (bb:=bb);have e:((l.length:Int)=512)=(l.length=512):=by apply propext;omega
 simp (disch:=omega) only[go_sem,h184c,u,e]
theorem Xr(i:Nat)(h:i<=1000):EV G (Tb (bs bb)) 189 [vi i] []=some (vi ((64*i+62:Nat):Int),[]):=by
 refine aB rfl ?_;have e:((i:Int)+1)*64-2=((64*i+62:Nat):Int):=by omega
 simp (disch:=omega) only[go_sem,h189c,e]
theorem aC9(n:Int)(h:-9223372036854775808<=n/\n<=9223372036854775807):EV G (Tb (bs bb)) 207 [vi n] []=some (sv (bI n 2),[]):=by
 refine aB rfl ?_;have e:bI n 2=[n % 256,n / 256 % 256]:=rfl;rw[e];simp (disch:=omega) only[go_sem,h207c,wu8,Hp,Int.reduceToNat,Int.reducePow,Av,gB,u8,dB,aZl,aZm];rfl
theorem orC(n b:Int)(d:0<=n/\n<=255)(c:0<=b/\b<=255):W9 .i64 b (n*256)=b+256*n:=by
 have a:W9 .i64 b (n*256)=W9 .i64 (n*256) b:=by
  unfold W9;rw[BitVec.or_comm]
 rw[a,orL n b (by omega) c];omega
theorem Nf(x y:Int)(d:0<=x/\x<=255)(e:0<=y/\y<=255):EV G (Tb (bs bb)) 186 [sv [x,y]] []=some (vi (x+256*y),[]):=by
 refine aB rfl ?_;have c:aK [x,y]:=fun b a=>by
  rcases bAl.1 a with rfl | a
  ·exact d
  ·rw[List.mem_singleton.1 a];exact e
 have f:Ia (sv [x,y]) 0=some (vu x):=aNA [x,y] c 0 (by simp);have g:Ia (sv [x,y]) 1=some (vu y):=aNA [x,y] c 1 (by simp);have o:=orC y x e d;simp (disch:=omega) only[go_sem,h186c,f,g,o,Int.reduceToNat,Int.reducePow]
theorem aU2(b:L Int):(List.map Av b).all (fun e=>decide (e.length=1))=true:=by
 rw[bAw];intro e a;obtain⟨x,_,rfl⟩:=List.mem_map.1 a;rfl
theorem aNI(b:L Int)(i:Nat)(h:i+2<=b.length)(d:b.length<=1000000):EV G (Tb (bs bb)) 187 [vl (bl b),vi i] []=some (sv (gU b i),[]):=by
 refine aB rfl ?_;have e:((b.map Av).take (i+2)).drop i=(gU b i).map Av:=by
  rw[aZZ,bAq,List.take_drop,Nat.add_comm]
 have c:((i:Int)+2).toNat=i+2:=by omega
 have a:=aU2 b;simp (disch:=omega) only[go_sem,h187c,aZa,c,e,a,aGz]
theorem byS(n:Int):∀k,aK (bI n k)
 |0=>fun b a=>by cases a
 | k+1=>fun b a=>by
  rw[bI,bAv] at a;rcases a with a | a
  ·exact byS n k b a
  ·rw[List.mem_singleton.1 a];omega
theorem Cf:∀b:L Int,kV (List.map Av b).flatten=b.map yC
 |[]=>rfl
 | x::b=>by
  have a:=Cf b;rw[aZl,aZ6,aZl,<- a];rfl
theorem nL(b:L Int)(h:aK b):gX (dB b)=List.map Av b:=by
 show List.map _ (b.map u8)=_;rw[aZE];exact aZz fun x a=>by simp only[Function.comp_apply,Av,gY x (h x a)]
theorem aQg(b:L Int)(a n:Nat):cY (b.map yC) a (List.replicate n (cI (.int .u8 0)))=(iW b a (zl n)).map yC:=by
 have:List.replicate n (cI (.int .u8 0))=(zl n).map yC:=Pp n;rw[this];simp[cY,iW,aZR,aZZ,bAq]
theorem Ng{b:L Int}{n:Nat}(h:b.length=n)(a:0<n):(List.map Av b).isEmpty=false:=by
 cases b with
 |nil=>simp at h;omega
 |cons _ _=>rfl
theorem aU4(l:L Int)(i j:Int)(h:0<=i/\i<=j/\j<=l.length):Li (sv l) (some (vi i)) (some (vi j))=some (sv ((l.take j.toNat).drop i.toNat)):=by
 have a:0<=j:=by omega
 have h3:i<=(j.toNat:Int):=by omega
 simp only[Li,dJ,eB,bH,aZq,h.1,h.2.1,h.2.2,a,h3,and_self,if_true,Pm,aC,dQ]
theorem aU5(l:L Int)(j:Int)(h:0<=j/\j<=l.length):Li (sv l) none (some (vi j))=some (sv (l.take j.toNat)):=by
 simp[Li,dJ,eB,bH,h.1,h.2,Pm,aC,dQ]
theorem aG6(b:L Int)(i:Nat)(N:Nat)(c:b.length=N)(h:i+2<=N)(d:N<=1000000):EV G (Tb (bs bb)) 187 [.one (.bls 0 0 N 1),vi i] [yb b]=some (sv (gU b i),[yb b]):=by
 refine aB rfl ?_;have a:((i:Int)+2).toNat=i+2:=by omega
 have e:jM (((b.map yC).drop i).take 2)=some ((gU b i).map u8):=by rw[<- bAq,<- aZZ,lI]
 simp (disch:=omega) only[go_sem,h187c,aZa,a,bAC,e,S7]
theorem P1(b t:L Int)(a:Int)(N:Nat)(d:b.length=N)(g:N<=1000000)(f:0<=a/\a+t.length<=N)(c:aK t):EV G (Tb (bs bb)) 188 [.one (.bls 0 0 N 1),vi a,sv t] [yb b]=some (.tup [],[yb (iW b a.toNat t)]):=by
 refine aB rfl ?_;have e:=pH b t a.toNat (N-a.toNat) c (by omega);simp (disch:=omega) only[go_sem,h188c,aZa,e]
theorem aLK(n:Nat)(h:n<=1000):EV G (Tb (bs bb)) 227 [sv (zl n),vu 0] []=some (sv [],[]):=by
 refine aB rfl ?_;simp (disch:=omega) only[go_sem,h227c];rw[aR (fun k=>⟨(sv (zl (n-k))::vu 0::jk 21 []),[]⟩) n ?_ ?_]
 rw[aZ2];simp (disch:=omega) only[go_sem,h227l0,aC,aS];rfl;rfl;intro k c;have a:(zl (n-k))[n-k-1]?=some 0:=by unfold zl;rw[bAg,if_pos (by omega)]
 have b:=aU5 (zl (n-k)) ((n-k:Nat)-1:Int) (by rw[aS];omega);have h3:(zl (n-k)).take (n-k-1)=zl (n-(k+1)):=by
  unfold zl;rw[List.take_replicate];congr 1;omega
 have h5:(((n-k:Nat):Int)-1).toNat=n-k-1:=by omega
 rw[h5,h3] at b;have h4:(0:Int)<((n-k:Nat):Int):=by omega
 have h6:((u8 0).toNat:Int)=0:=rfl;simp (disch:=omega) only[go_sem,h227l0,aC,aS,a,h3,eq_true h4,h6]
theorem aLL:EV G (Tb (bs bb)) 226 [sv [],vu 0] []=some (sv [],[]):=by
 refine aB rfl ?_;simp (disch:=omega) only[go_sem,h226c];rw[aR (fun k=>⟨(sv []::vu 0::jk 15 []),[]⟩) 0 ?_ ?_]
 simp (disch:=omega) only[go_sem,h226l0,aC,aZd];rfl;intro k a;omega
theorem aQh:EV G (Tb (bs bb)) 183 [sv (zl 18),.one (.dc (.raw (.string ⟨#[0]⟩)))] []=some (sv [],[]):=by
 refine aB rfl ?_;have f:=aLK (G:=G) (bb:=bb) 18 (by decide);have g:=aLL (G:=G) (bb:=bb);have e:Ia (.one (.dc (.raw (.string ⟨#[0]⟩)))) 0=some (vu 0):=by rfl
 have a:¬ dB (zl 18)=⟨#[]⟩:=by decide
 have b:¬ (⟨#[0]⟩:ByteArray)=⟨#[]⟩:=by decide
 have d:((UInt8.toNat 0:Nat):Int)=0:=rfl;have c:(((#[0]:Array UInt8).size:Nat):Int)=1:=rfl;simp (disch:=omega) only[go_sem,h183c,f,g,e,a,b,c,d]
theorem byC{s:L Int}(h:aK s)(a:Nat):aK (gU s a):=fun x b=>h x (aZL (aZA b))
theorem aLM{b s:L Int}{k:Nat}(c:aK b)(d:aK s):aK (iW b k s):=fun x a=>by
 unfold iW at a;rcases bAv.1 a with a|a
 rcases bAv.1 a with a|a;exact c x (aZA a);exact d x a;exact c x (aZL a)
theorem Xs{b:L Int}{u:Int}(c:b.length=512)(a:aK b):∀k,k<=8->aK (mY b u k)
 |0,_=>aLM a (byS u 2)
 |k+1,h=>aLM (aLM (Xs c a k (by omega)) (byC (Xs c a k (by omega)) _)) (byS u 2)
theorem aDa(b:L Int)(u:Int)(d:b.length=512)(j:aK b)(H:(b.drop 40).take 18=zl 18)(F:1<=u/\u<=65535):EV G (Tb (bs bb)) 160 [sv b,vi u] []=some (.tup [.one (.dc (.raw (.string (dB (mY b u 8))))),.one (.dc (ci 0))],[]):=by
 refine aB rfl ?_;have p:=Tz (G:=G) (bb:=bb) b;have w:=Nd (G:=G) (bb:=bb);have v:un (decide (b.length=512)) 10=0:=by rw[decide_eq_true d];rfl
 rw[v] at p;have J:=aQh (G:=G) (bb:=bb);have q:=aC8 (G:=G) (bb:=bb) u 1 65535;rw[decide_eq_true F] at q;have K:=aG5 (G:=G) (bb:=bb);have r:=aC9 (G:=G) (bb:=bb) u (by omega);have P:=aU4 b 40 58 (by omega);have N:(b.take (58:Int).toNat).drop (40:Int).toNat=zl 18:=by
  rw[<- H,List.take_drop];rfl
 have A:dB []=⟨#[]⟩:=rfl;have M:=P1 (G:=G) (bb:=bb) b (bI u 2) 40 512 d (by decide) (by rw[aA];decide) (byS u 2);have C:=nL b j;have D:=Ng d (by decide);have E:=Cf b;simp (disch:=omega) only[go_sem,h160c,p,w,J,q,K,r,N,A,gA,aX,bM,aC,d,C,D,E,Pg,aZa,M];rw[aR (fun k=>⟨(jk 1 (vi u::jk 6 (.one (.bls 0 0 512 1)::jk 25 (vi k::jk 20 [])))),[yb (mY b u k)]⟩) 8 ?_ ?_]
 have f:=oF (n:=u) d 8 (by decide);have e:jM (List.take 512 (List.map yC (mY b u 8)))=some ((mY b u 8).map u8):=by rw[Dr _ _ (by omega),lI]
 simp (disch:=omega) only[go_sem,h160l0,e,S7];rfl;intro k O;have f:=oF (n:=u) d k (by omega);have t1:=Xr (G:=G) (bb:=bb) k (by omega);have t:=aG6 (G:=G) (bb:=bb) (mY b u k) (64*k+62) 512 f (by omega) (by decide);have l:=kQ (s:=mY b u k) (a:=64*k+62) (by omega);have g:aK (mY b u k):=Xs d j k (by omega);have o:=P1 (G:=G) (bb:=bb) (mY b u k) (gU (mY b u k) (64*k+62)) (42+2*(k:Int)) 512 f (by decide) (by rw[l];omega) (byC g _);have I:(42+2*(k:Int)).toNat=42+2*k:=by omega
 rw[I] at o;have h:(iW (mY b u k) (42+2*k) (gU (mY b u k) (64*k+62))).length=512:=by rw[cX (by rw[l];omega),f]
 have i:=P1 (G:=G) (bb:=bb) (iW (mY b u k) (42+2*k) (gU (mY b u k) (64*k+62))) (bI u 2) ((64*k+62:Nat):Int) 512 h (by decide) (by rw[aA];omega) (byS u 2);rw[aZN] at i;have e:iW (iW (mY b u k) (42+2*k) (gU (mY b u k) (64*k+62))) (64*k+62) (bI u 2)=mY b u (k+1):=rfl;rw[e] at i;generalize 64*k+62=m at *;generalize mY b u (k+1)=y at *;generalize iW (mY b u k) (42+2*k) (gU (mY b u k) m)=x at *;generalize gU (mY b u k) m=c at *;generalize mY b u k=z at *;simp (disch:=omega) only[go_sem,h160l0,t1,t,o,i,r]
end
section
variable {G:aF}{bb:Bool}
noncomputable def qR(s:L Int):Nat->L Int
 |0=>[]
 |k+1=>qR s k++(open Classical in if Tw s k then [(k:Int)] else [])
theorem T0(s:L Int):∀k,qR s k=[]↔∀i,i<k->¬ Tw s i
 |0=>by simp[qR]
 | k+1=>by
  rw[qR,List.append_eq_nil_iff,T0 s k];constructor
  ·rintro⟨b,a⟩ i c;by_cases e:i=k
   ·subst e;intro h;rw[if_pos h] at a;cases a
   ·exact b i (by omega)
  ·intro h;exact⟨fun i c=>h i (by omega),by rw[if_neg (h k (by omega))]⟩
theorem Kb(s:L Int):∀k,(qR s k).length<=k
 |0=>aZe _
 | k+1=>by
  rw[qR,aZb];have:=Kb s k;split<;>simp<;>omega
theorem Xt(s:L Int):qR s 8=[]↔jN s:=by
 rw[T0];unfold Tw jN;constructor;intro h;refine⟨fun h0=>h 0 (by decide) (.inl h0),fun i b=>?_⟩
 exact Classical.byContradiction fun a=>h i b (.inr a)
 rintro⟨a,c⟩ i b h;rcases h with h|h;exact a h;exact h (c i b)
theorem aAK{s:L Int}(a:s.length=512):gU s 40=[s.getD 40 0,s.getD 41 0]/\gO s=s.getD 40 0+256*s.getD 41 0:=⟨qG (by omega),aG2 (by omega)⟩
theorem aLN{a b:L Int}(c:aK a)(d:aK b):(dB a=dB b)=(a=b):=cQ c d
theorem aQi(s:List Int)(t:s.length=512)(b:aK s):EV G (Tb (bs bb)) 185 [sv s] []=some (vl ((qR s 8).map fun n=>[ci n]),[]):=by
 refine aB rfl ?_;have p:=nL s b;obtain⟨q,u⟩:=aAK t;have l:EV G (Tb (bs bb)) 187 [vl (bl s),vi 40] []=some (sv (gU s 40),[]):=aNI (G:=G) (bb:=bb) s 40 (by omega) (by omega);have e:=Nf (G:=G) (bb:=bb) (s.getD 40 0) (s.getD 41 0) (qH b 40) (qH b 41);rw[<- q,<- u] at e;simp (disch:=omega) only[go_sem,h185c,p];rw[aR (fun k=>⟨(jk 3 (vl (bl s)::.one (.bld 0 (qR s k).length)::jk 3 (vi k::jk 21 []))),[.arr 0 1 ((qR s k).map fun n=>[ci n])]⟩) 8 ?_ ?_]
 have h8:((qR s 8).map fun n=>[ci n]).take (qR s 8).length=(qR s 8).map fun n=>[ci n]:=aZM (by rw[aZa];exact aZe _)
 simp (disch:=omega) only[go_sem,h185l0,aZa,h8,aZe];rfl;intro k v;have t1:=Xr (G:=G) (bb:=bb) k (by omega);have g:=aNI (G:=G) (bb:=bb) s (64*k+62) (by omega) (by omega);have d:(dB (gU s (64*k+62))=dB (gU s 40))=(gU s (64*k+62)=gU s 40):=aLN (byC b _) (byC b _);have a:gC 1 ((qR s k).map fun n=>[ci n])=true:=jD (f:=fun n=>[ci n]) (fun _=>rfl) _
 have r:=Kb s k;have j:((qR s k).map fun n=>[ci n]).take (qR s k).length=(qR s k).map fun n=>[ci n]:=aZM (by rw[aZa];exact aZe _)
 have o:qR s (k+1)=qR s k++(open Classical in if Tw s k then [(k:Int)] else []):=rfl
 unfold Tw at o;rw[o];generalize qR s k=L at *;generalize gO s=w at *;generalize 64*k+62=m at *;by_cases c:w=0;rw[if_pos (.inl c)];rw[aZR,aZb];simp (disch:=omega) only[go_sem,h185l0,aZa,l,e,t1,g,eq_true c,a,j,aZe,aZl,aZm,aZc,aZd];by_cases i:gU s m=gU s 40;rw[if_neg (by rintro (h|h)<;>contradiction),aZ7]
 rw[eq_true i] at d;simp (disch:=omega) only[go_sem,h185l0,aZa,l,e,t1,g,c,d,a,j,aZe];rw[if_pos (.inr i)];rw[eq_false i] at d;rw[aZR,aZb];simp (disch:=omega) only[go_sem,h185l0,aZa,l,e,t1,g,c,d,a,j,aZe,aZl,aZm,aZc,aZd]
theorem Xu{s:L Int}(a:aK s):∀k,aK (G2 s k)
 |0=>a
 |k+1=>aLM (Xu a k) (byC (Xu a k) _)
abbrev aNJ(s:L Int)(u e:Int):AV:=.tup [.one (.dc (.raw (.string (dB s)))),.one (.dc (ci u)),.one (.dc (ci e))]
open Classical in
theorem aQj(s:List Int)(b:s.length=512)(d:aK s):EV G (Tb (bs bb)) 125 [sv s] []=some (if jN s then aNJ (eK s) (gO s) 0 else aNJ [] 0 31,[]):=by
 refine aB rfl ?_;have o:=Tz (G:=G) (bb:=bb) s;have v:un (decide (s.length=512)) 10=0:=by rw[decide_eq_true b];rfl
 rw[v] at o;have t:=aQi (G:=G) (bb:=bb) s b d;have r:=Xt s;have F:=Kb s 8;have A:=nL s d;have C:=Ng b (by decide);have D:=Cf s;have K:dB []=⟨#[]⟩:=rfl;generalize qR s 8=L at *;by_cases c:jN s;rw[if_pos c];have g:=r.2 c;subst g;obtain⟨E,H⟩:=aAK b;have J:EV G (Tb (bs bb)) 187 [.one (.bls 0 0 512 1),vi 40] [yb s]=some (sv (gU s 40),[yb s]):=aG6 (G:=G) (bb:=bb) s 40 512 b (by omega) (by decide);have u:=Nf (G:=G) (bb:=bb) (s.getD 40 0) (s.getD 41 0) (qH d 40) (qH d 41);rw[<- E,<- H] at u;generalize gO s=w at *;simp (disch:=omega) only[go_sem,h125c,o,t,aZm,aZd,aC,b,A,C,D,Pg,aZa,J,u];rw[aR (fun k=>⟨(jk 6 (.one (.bls 0 0 512 1)::vi w::jk 15 (vi k::jk 17 []))),[yb (G2 s k)]⟩) 8 ?_ ?_]
 have f:=(Ka b 8 (by decide)).1;have j:=qF b;have l:(G2 s 8).length=512:=f;have q:cY (List.map yC (G2 s 8)) 40 (List.replicate 18 (aU.dc (DC.raw (Value.int .u8 0))))=List.map yC (iW (G2 s 8) 40 (zl 18)):=aQg (G2 s 8) 40 18;have x:iW (G2 s 8) 40 (zl 18)=eK s:=rfl;rw[x] at q;have e:jM (List.take 512 (List.map yC (eK s)))=some ((eK s).map u8):=by rw[Dr _ _ (by omega),lI]
 simp (disch:=omega) only[go_sem,h125l0,aZa,l,j,Int.reduceToNat,q,e,S7];rfl;intro k M;have f:=(Ka b k (by omega)).1;have t1:=Xr (G:=G) (bb:=bb) k (by omega);have p:=aG6 (G:=G) (bb:=bb) (G2 s k) (42+2*k) 512 f (by omega) (by decide);have i:=kQ (s:=G2 s k) (a:=42+2*k) (by omega);have n:=P1 (G:=G) (bb:=bb) (G2 s k) (gU (G2 s k) (42+2*k)) ((64*k+62:Nat):Int) 512 f (by decide) (by rw[i];omega) (byC (Xu d k) _);rw[aZN] at n;have e:iW (G2 s k) (64*k+62) (gU (G2 s k) (42+2*k))=G2 s (k+1):=rfl;rw[e] at n;have I:((42+2*k:Nat):Int)=42+2*(k:Int):=by omega
 rw[I] at p;generalize gU (G2 s k) (42+2*k)=c at *;generalize 64*k+62=m at *;generalize G2 s (k+1)=y at *;generalize G2 s k=z at *;simp (disch:=omega) only[go_sem,h125l0,t1,p,n];rw[if_neg c];have g:0<(L.length:Int):=by
  have:L≠[]:=fun h=>c (r.1 h)
  have:=List.length_pos_iff.2 this;omega
 simp (disch:=omega) only[go_sem,h125c,o,t,aZa,eq_true g];rfl
end
section
variable {G:aF}{bb:Bool}
section
variable {B:aO}
theorem T2(p:aV->Bool)(f:Nat)(hf:∀r:aV,EV G (Tb B) f [r.v] []=some (vb (p r),[]))(l:L aV)(h:l.length<=1000000):EV G (Tb B) 89 [cP l,.one (.fn f [])] []=some (vi (if ix (fun k=>p (l.getD k ⟨0,0⟩)=true) l.length=l.length then -1 else (ix (fun k=>p (l.getD k ⟨0,0⟩)=true) l.length:Nat)),[]):=by
 refine aB rfl ?_;simp (disch:=omega) only[go_sem,h89c,aZa];rw[dN (fun k=>⟨(cP l::.one (.fn f [])::jk 5 (vi l.length::vi k::jk 10 [])),[]⟩) (fun k=>p (l.getD k ⟨0,0⟩)=true) l.length ?_ ?_]
 rotate_left
 rfl;intro k d g;have c:=g k (aZe _);have a:=hf l[k];rw[jR l k d] at c;simp (disch:=omega) only[go_sem,h89l0,aZa,aV.e,a,c];obtain⟨d,hp,g⟩:=bE (fun k=>p (l.getD k ⟨0,0⟩)=true) l.length
 generalize ix (fun k=>p (l.getD k ⟨0,0⟩)=true) l.length=k at *
 rcases hp with rfl|⟨b,hp⟩;simp (disch:=omega) only[go_sem,h89l0,aZa];have a:=hf l[k];rw[jR l k b] at hp;rw[if_neg (by omega)];simp (disch:=omega) only[go_sem,h89l0,aZa,aV.e,a,hp]
end
theorem aAL(l:L aV)(a:l.length<=1000000):EV G (Tb (bs bb)) 174 [cP l] []=some (.one (.bld 0 l.length),[.arr 0 2 (l.map aV.e)]):=by
 refine jC rfl ?_;show (if gC 2 (l.map aV.e)=true/\(l.map aV.e).length*16<=140737488355328 then some (AV.one (.bld 0 (l.map aV.e).length),[aD.arr 0 2 (l.map aV.e)]) else none)=_
 rw[if_pos ⟨aAv l,by rw[aZa];omega⟩,aZa]
theorem aJ.nil_W:aJ.nil.W:=⟨jI,jI,aZv _,aZv _,aZv _⟩
end
section
variable {G:aF}{bb:Bool}
end
section
variable {G:aF}{bb:Bool}
abbrev rtv(p:aJ×Int):AV:=.tup [p.1.t,.one (.dc (ci p.2))]
