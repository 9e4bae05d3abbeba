/- An attribute that is split, by the program; its bytes. Conditions: none. -/
import Derived.Test.YthepfneloomngaaGreatDoorTu
import Derived.Test.YthepfneloomngaaGreatDoorUg
import Derived.Test.YthepfneloomngaaGreatDoorUa
namespace Go.Proofs.YthepfneloomngaaGreatDoor
set_option linter.unusedSimpArgs false
set_option linter.unusedVariables false
set_option maxRecDepth 4000
section
variable {G:aE}{bb:Bool}
theorem Io{b s:List Int}{k:Nat}(h:k+s.length<=b.length)(j:Nat):(fG b k s).getD j 0=if k<=j/\j<k+s.length then s.getD (j-k) 0 else b.getD j 0:=by
 unfold fG;simp only[aXN];split;rename_i hj;rw[aXR,aXY (by rw[aXK];omega),aXK,aY1 (by omega),aXU (by omega)];rename_i hj;by_cases h1:j<k;rw[aXR,aXU (by rw[aXK];omega),aZd h1];rw[aXY (by rw[aXD,aXK];omega),aX9,aXD,aXK,aY1 (by omega)];congr 2;omega
theorem Nr{a b:List Int}(hl:a.length=b.length)(h:∀j,j<a.length->a.getD j 0=b.getD j 0):a=b:=by
 refine List.ext_getElem hl (fun j p q=>?_)
 have:=h j p;simpa[aXN,p,q] using this
theorem gtc{s:List Int}{a b:Nat}(h:a=b):s.getD a 0=s.getD b 0:=by rw[h]
theorem Ip(s:List Int)(a n j:Nat)(hj:j<n):((s.drop a).take n).getD j 0=s.getD (a+j) 0:=by
 simp only[aXN,aZd hj,aX9]
theorem aFh(n j:Nat):(zl n).getD j 0=0:=by
 simp only[zl,aXN,aYH];split<;>rfl
theorem aJW(n:Int)(j:Nat)(h:j<2):(bK n 2).getD j 0=if j=0 then n % 256 else n / 256 % 256:=by
 rcases j with _|_|j;rfl;rfl;omega
theorem Uy{a b:List Int}(j:Nat):(a++b).getD j 0=if j<a.length then a.getD j 0 else b.getD (j-a.length) 0:=by
 simp only[aXN];split;rw[aXU (by assumption)];rw[aXY (by omega)]
abbrev iJ(s:List Int)(a:Nat):List Int:=(s.drop a).take 2
theorem mJ{s:List Int}{a:Nat}(h:a+2<=s.length):(iJ s a).length=2:=by rw[aXK,aXS];omega
def oP(s:List Int)(n:Int):Nat->List Int
 |0=>fG s 40 (bK n 2)
 |i+1=>fG (fG (oP s n i) (42+2*i) (iJ (oP s n i) (64*i+62))) (64*i+62) (bK n 2)
def ptG(s:List Int)(n:Int)(i j:Nat):Int:=
 if j=40 then n % 256 else if j=41 then n / 256 % 256 else if 42<=j/\j<42+2*i then s.getD (64*((j-42) / 2)+62+(j-42) % 2) 0
 else if j % 64=62/\j / 64<i then n % 256 else if j % 64=63/\j / 64<i then n / 256 % 256 else s.getD j 0
theorem rE{s:List Int}{n:Int}(hs:s.length=512):∀i,i<=8->(oP s n i).length=512
 |0,_=>by rw[oP,cP (by rw[aB];omega),hs]
 | i+1,h=>by
  have:=rE (n:=n) hs i (by omega);have c:=mJ (s:=oP s n i) (a:=64 * i+62) (by omega);have l1:(fG (oP s n i) (42+2 * i) (iJ (oP s n i) (64 * i+62))).length=512:=by rw[cP (by omega),this]
  rw[oP,cP (by rw[aB];omega),l1]
theorem Yf{s:List Int}{n:Int}(hs:s.length=512):∀i,i<=8->∀j,(oP s n i).getD j 0=ptG s n i j
 | 0,_,j=>by
  rw[oP,Io (by rw[aB];omega),aB];unfold ptG;split
  ·rename_i h;rw[aJW _ _ (by omega)];by_cases h1:j=40
   ·rw[if_pos (by omega),if_pos h1]
   ·rw[if_neg (by omega),if_neg h1,if_pos (by omega)]
  ·rw[if_neg (by omega),if_neg (by omega),if_neg (by omega),if_neg (by omega),if_neg (by omega)]
 | i+1,h,j=>by
  have hl:=rE (n:=n) hs i (by omega);have ih:=Yf (n:=n) hs i (by omega);have c:=mJ (s:=oP s n i) (a:=64 * i+62) (by omega);have l1:(fG (oP s n i) (42+2 * i) (iJ (oP s n i) (64 * i+62))).length=512:=by rw[cP (by omega),hl]
  rw[oP,Io (by rw[aB];omega),aB];split
  ·rename_i h1;rw[aJW _ _ (by omega)];unfold ptG;by_cases h2:j=64 * i+62
   ·rw[if_pos (by omega),if_neg (by omega),if_neg (by omega),if_neg (by omega),if_pos (by omega)]
   ·rw[if_neg (by omega),if_neg (by omega),if_neg (by omega),if_neg (by omega),if_neg (by omega),if_pos (by omega)]
  ·rename_i h1;rw[Io (by omega),c];split
   ·rename_i h2;rw[Ip _ _ _ _ (by omega),ih];unfold ptG;rw[if_neg (by omega),if_neg (by omega),if_neg (by omega),if_neg (by omega),if_neg (by omega),if_neg (by omega),if_neg (by omega),if_pos (by omega)];exact gtc (by omega)
   ·rename_i h2;rw[ih];unfold ptG
    repeat' split
    all_goals first | rfl | (exfalso;omega)
def Ar(s:List Int)(n:Int):Nat->List Int×List Int
 |0=>(bK n 2,s)
 |i+1=>((Ar s n i).1++iJ (Ar s n i).2 (64*i+62),fG (Ar s n i).2 (64*i+62) (bK n 2))
theorem Yg{s:List Int}{n:Int}(hs:s.length=512):∀i,i<=8->(Ar s n i).2.length=512/\(Ar s n i).1.length=2+2*i/\(∀j,(Ar s n i).2.getD j 0=if j % 64=62/\j / 64<i then n % 256 else if j % 64=63/\j / 64<i then n / 256 % 256 else s.getD j 0)/\
  ∀j,j<2+2*i->(Ar s n i).1.getD j 0=if j=0 then n % 256 else if j=1 then n / 256 % 256 else s.getD (64*((j-2) / 2)+62+(j-2) % 2) 0
 | 0,_=>⟨hs,aB n 2,fun j=>by rw[if_neg (by omega),if_neg (by omega)];rfl,fun j hj=>by
   show (bK n 2).getD j 0=_;rw[aJW _ _ (by omega)];by_cases h:j=0
   ·rw[if_pos h,if_pos h]
   ·rw[if_neg h,if_neg h,if_pos (by omega)]⟩
 | i+1,h=>by
  obtain⟨l1,l2,g1,g2⟩:=Yg (n:=n) hs i (by omega);have c:=mJ (s:=(Ar s n i).2) (a:=64 * i+62) (by omega);refine⟨?_, ?_,fun j=>?_,fun j hj=>?_⟩
  ·rw[Ar];show (fG _ _ _).length=512;rw[cP (by rw[aB];omega),l1]
  ·show ((Ar s n i).1++iJ (Ar s n i).2 (64 * i+62)).length=_;rw[aXD,c,l2];omega
  ·rw[Ar];show (fG _ _ _).getD j 0=_;rw[Io (by rw[aB];omega),aB];split
   ·rw[aJW _ _ (by omega)];by_cases h2:j=64 * i+62
    ·rw[if_pos (by omega),if_pos (by omega)]
    ·rw[if_neg (by omega),if_neg (by omega),if_pos (by omega)]
   ·rw[g1]
    repeat' split
    all_goals first | rfl | (exfalso;omega)
  ·show ((Ar s n i).1++iJ (Ar s n i).2 (64 * i+62)).getD j 0=_;rw[Uy,l2];split
   ·rw[g2 j (by omega)]
   ·rw[Ip _ _ _ _ (by omega),g1,if_neg (by omega),if_neg (by omega),if_neg (by omega),if_neg (by omega)];exact gtc (by omega)
theorem aJX{s:List Int}{n:Int}(hs:s.length=512):fG (Ar s n 8).2 40 (Ar s n 8).1=oP s n 8:=by
 obtain⟨l1,l2,g1,g2⟩:=Yg (n:=n) hs 8 (by omega);refine Nr (by rw[cP (by omega),l1,rE hs 8 (by omega)]) (fun j _=>?_)
 rw[Io (by omega),l2,Yf hs 8 (by omega)];unfold ptG;split;rw[g2 _ (by omega)];by_cases h1:j=40;rw[if_pos (by omega),if_pos h1];by_cases h2:j=41;rw[if_neg (by omega),if_pos (by omega),if_neg h1,if_pos h2];rw[if_neg (by omega),if_neg (by omega),if_neg h1,if_neg h2,if_pos (by omega)];exact gtc (by omega)
 ·rw[g1]
  repeat' split
  all_goals first|rfl|(exfalso;omega)
def Fb(s:List Int):Nat->List Int
 |0=>s
 |i+1=>fG (Fb s i) (64*i+62) (iJ (Fb s i) (42+2*i))
def opG(s:List Int)(i j:Nat):Int:=if 62<=j % 64/\j / 64<i then s.getD (42+2*(j / 64)+(j % 64-62)) 0 else s.getD j 0
theorem Iq{s:List Int}(hs:s.length=512):∀i,i<=8->(Fb s i).length=512/\∀j,(Fb s i).getD j 0=opG s i j
 |0,_=>⟨hs,fun j=>by unfold opG;rw[if_neg (by omega)];rfl⟩
 | i+1,h=>by
  obtain⟨l1,g1⟩:=Iq hs i (by omega);have c:=mJ (s:=Fb s i) (a:=42+2 * i) (by omega);refine⟨by rw[Fb,cP (by omega),l1],fun j=>?_⟩
  rw[Fb,Io (by omega),c];split
  ·rw[Ip _ _ _ _ (by omega),g1];unfold opG;rw[if_neg (by omega),if_pos (by omega)];exact gtc (by omega)
  ·rw[g1];unfold opG
   repeat' split
   all_goals first | rfl | (exfalso;omega)
def jJ(s:List Int):List Int:=fG (Fb s 8) 40 (zl 18)
theorem B8{s:List Int}(hs:s.length=512):(jJ s).length=512:=by
 rw[jJ,cP (by rw[bF,(Iq hs 8 (by omega)).1];omega),(Iq hs 8 (by omega)).1]
theorem aMa{s:List Int}(hs:s.length=512)(j:Nat):(jJ s).getD j 0=if 40<=j/\j<58 then 0 else opG s 8 j:=by
 rw[jJ,Io (by rw[bF,(Iq hs 8 (by omega)).1];omega),bF,aFh,(Iq hs 8 (by omega)).2]
def qG(s:List Int):Int:=gL s 40 2
def Rn(s:List Int)(i:Nat):Prop:=qG s=0\/iJ s (64*i+62)≠iJ s 40
def mR(s:List Int):Prop:=qG s≠0/\∀i,i<8->iJ s (64*i+62)=iJ s 40
theorem F5{s:List Int}{a:Nat}(h:a+2<=s.length):iJ s a=[s.getD a 0,s.getD (a+1) 0]:=by
 refine Nr (mJ h) (fun j hj=>?_)
 rw[mJ h] at hj;rw[Ip _ _ _ _ hj];rcases j with _|_|j
 rfl;rfl;omega
theorem aTt{s:List Int}{a:Nat}(h:a+2<=s.length):gL s a 2=s.getD a 0+256*s.getD (a+1) 0:=by
 unfold gL;rw[show (s.drop a).take 2=iJ s a from rfl,F5 h]
 simp[gv]
theorem Ir{s:List Int}(hB:aM s)(j:Nat):0<=s.getD j 0/\s.getD j 0<=255:=by
 simp only[aXN];by_cases h:j<s.length;rw[aXJ h];exact hB _ (aXM h);rw[aYz (by omega)];simp
theorem aFi{s:List Int}{n:Int}(hs:s.length=512)(hz:∀j,40<=j->j<58->s.getD j 0=0)(hn:1<=n/\n<=65535):jJ (oP s n 8)=s/\mR (oP s n 8)/\qG (oP s n 8)=n:=by
 have l1:=rE (n:=n) hs 8 (by omega);have g:=Yf (n:=n) hs 8 (by omega);have e0:(oP s n 8).getD 40 0=n % 256:=by rw[g];rfl
 have e1:(oP s n 8).getD 41 0=n / 256 % 256:=by rw[g];rfl
 have hu:qG (oP s n 8)=n:=by
  unfold qG;rw[aTt (by omega),e0,e1];omega
 refine⟨Nr (by rw[B8 l1,hs]) (fun j hj=>?_),⟨by omega,fun i hi=>?_⟩,hu⟩
 rw[B8 l1] at hj;clear e0 e1 hu hn;rw[aMa l1];split;rename_i h;rw[hz j h.1 h.2];unfold opG;split;rw[g];unfold ptG;rw[if_neg (by omega),if_neg (by omega),if_pos (by omega)];exact gtc (by omega);rw[g];unfold ptG;rw[if_neg (by omega),if_neg (by omega),if_neg (by omega),if_neg (by omega),if_neg (by omega)];rw[F5 (by omega),F5 (by omega),e0,e1,g,g];clear e0 e1 g l1 hu hn hz;unfold ptG;rw[if_neg (by omega),if_neg (by omega),if_neg (by omega),if_pos (by omega),if_neg (by omega),if_neg (by omega),if_neg (by omega),if_neg (by omega),if_pos (by omega)]
end
section
variable {G:aE}{bb:Bool}
theorem aBw(n lo hi:Int):EV G (Tb (bs bb)) 279 [vi n,vi lo,vi hi] []=some (vb (decide (lo<=n/\n<=hi)),[]):=by
 refine aA rfl ?_;by_cases h:lo<=n;all_goals simp (disch:=omega) only[go_sem,h279c]
 all_goals simp[h]
theorem Ld(b:Bool)(e:Int):EV G (Tb (bs bb)) 180 [vb b,vi e] []=some (vi (un b e),[]):=by
 refine aA rfl ?_;cases b;all_goals simp (disch:=omega) only[go_sem,h180c]
 all_goals rfl
theorem aFj(l:List Int)(hl:l.length<=1000):EV G (Tb (bs bb)) 179 [vl (el l)] []=some (vi (aS l),[]):=by
 refine aA rfl ?_;simp (disch:=omega) only[go_sem,h179c,aXC];have round:∀ k (hk:k < l.length),¬ l.getD k 0≠0->K6 [5,0,0] 0 (EC (EV G (Tb (bs bb))) G h179l0 ⟨(jk 5 (vl (el l)::vi l.length::vi k::jk 7 [])),[]⟩)=some ⟨(jk 5 (vl (el l)::vi l.length::vi (k+1:Nat)::jk 7 [])),[]⟩:=fun k hk hz=>by
  rw[cL l k hk] at hz;simp (disch:=omega) only[go_sem,h179l0,aXC,E4]
 rcases M8 (fun k=>l.getD k 0≠0) l.length with h|⟨j,hj,h1,h2⟩
 rw[aR (fun k=>⟨(jk 5 (vl (el l)::vi l.length::vi k::jk 7 [])),[]⟩) l.length ?_ ?_]
 rw[gR l h];simp (disch:=omega) only[go_sem,h179l0];rfl;exact fun k hk=>round k hk (h k hk)
 rw[aR (fun k=>⟨(jk 5 (vl (el l)::vi l.length::vi k::jk 7 [])),[]⟩) j ?_ ?_]
 rw[jQ l j hj h2 h1];rw[cL l j hj] at h1;simp (disch:=omega) only[go_sem,h179l0,aXC,E4];rfl;exact fun k hk=>round k (by omega) (h2 k hk)
theorem aFk(a b:Int):EV G (Tb (bs bb)) 179 [vl [[ci a],[ci b]]] []=some (vi (aS [a,b]),[]):=aFj [a,b] (by simp)
theorem Ro(l:List Int):EV G (Tb (bs bb)) 257 [sv l] []=some (vi (un (decide (l.length=512)) 10),[]):=by
 refine aA rfl ?_;have u:=Ld (G:=G) (bb:=bb);have e:((l.length:Int)=512)=(l.length=512):=by apply propext;omega
 simp (disch:=omega) only[go_sem,h257c,u,e]
theorem Uz(i:Nat)(h:i<=1000):EV G (Tb (bs bb)) 262 [vi i] []=some (vi ((64*i+62:Nat):Int),[]):=by
 refine aA rfl ?_;have e:((i:Int)+1)*64-2=((64*i+62:Nat):Int):=by omega
 simp (disch:=omega) only[go_sem,h262c,e]
theorem aBx(n:Int)(h:-9223372036854775808<=n/\n<=9223372036854775807):EV G (Tb (bs bb)) 280 [vi n] []=some (sv (bK n 2),[]):=by
 refine aA rfl ?_;have e:bK n 2=[n % 256,n / 256 % 256]:=rfl;rw[e];simp (disch:=omega) only[go_sem,h280c,wu8,Fx,Int.reduceToNat,Int.reducePow,uL,fH,u8,dL,aXL,aXT];rfl
theorem orC(n b:Int)(hn:0<=n/\n<=255)(hb:0<=b/\b<=255):Ui .i64 b (n*256)=b+256*n:=by
 have h1:Ui .i64 b (n*256)=Ui .i64 (n*256) b:=by
  unfold Ui;rw[BitVec.or_comm]
 rw[h1,orL n b (by omega) hb];omega
theorem Le(x y:Int)(hx:0<=x/\x<=255)(hy:0<=y/\y<=255):EV G (Tb (bs bb)) 259 [sv [x,y]] []=some (vi (x+256*y),[]):=by
 refine aA rfl ?_;have hB:aM [x,y]:=fun b hb=>by
  rcases aYR.1 hb with rfl | hb
  ·exact hx
  ·rw[List.mem_singleton.1 hb];exact hy
 have i0:Gm (sv [x,y]) 0=some (vu x):=aLY [x,y] hB 0 (by simp);have i1:Gm (sv [x,y]) 1=some (vu y):=aLY [x,y] hB 1 (by simp);have o:=orC y x hy hx;simp (disch:=omega) only[go_sem,h259c,i0,i1,o,Int.reduceToNat,Int.reducePow]
theorem aTu(b:List Int):(List.map uL b).all (fun e=>decide (e.length=1))=true:=by
 rw[aY2];intro e he;obtain⟨x,_,rfl⟩:=List.mem_map.1 he;rfl
theorem aMb(b:List Int)(i:Nat)(h:i+2<=b.length)(hl:b.length<=1000000):EV G (Tb (bs bb)) 260 [vl (bl b),vi i] []=some (sv (iJ b i),[]):=by
 refine aA rfl ?_;have e:((b.map uL).take (i+2)).drop i=(iJ b i).map uL:=by
  rw[aYr,aYS,List.take_drop,Nat.add_comm]
 have ht:((i:Int)+2).toNat=i+2:=by omega
 have ha:=aTu b;simp (disch:=omega) only[go_sem,h260c,aXC,ht,e,ha,aEP]
theorem byS(n:Int):∀k,aM (bK n k)
 |0=>fun b hb=>by cases hb
 | k+1=>fun b hb=>by
  rw[bK,aYV] at hb;rcases hb with hb | hb
  ·exact byS n k b hb
  ·rw[List.mem_singleton.1 hb];omega
theorem An:∀b:List Int,mD (List.map uL b).flatten=b.map yC
 |[]=>rfl
 | x::b=>by
  have ih:=An b;rw[aXL,aYA,aXL,<- ih];rfl
theorem mK(b:List Int)(h:aM b):gD (dL b)=List.map uL b:=by
 show List.map _ (b.map u8)=_;rw[aX1];exact aXZ fun x hx=>by simp only[Function.comp_apply,uL,iW x (h x hx)]
theorem aOW(b:List Int)(a n:Nat):cQ (b.map yC) a (List.replicate n (dA (.int .u8 0)))=(fG b a (zl n)).map yC:=by
 have:List.replicate n (dA (.int .u8 0))=(zl n).map yC:=Ng n;rw[this];simp[cQ,fG,aYg,aYr,aYS]
theorem Lf{b:List Int}{n:Nat}(h:b.length=n)(hn:0<n):(List.map uL b).isEmpty=false:=by
 cases b with
 |nil=>simp at h;omega
 |cons _ _=>rfl
theorem aTw(l:List Int)(i j:Int)(h:0<=i/\i<=j/\j<=l.length):Jt (sv l) (some (vi i)) (some (vi j))=some (sv ((l.take j.toNat).drop i.toNat)):=by
 have h2:0<=j:=by omega
 have h3:i<=(j.toNat:Int):=by omega
 simp only[Jt,dB,dO,bH,aXP,h.1,h.2.1,h.2.2,h2,h3,and_self,if_true,Nc,aF,dG]
theorem aTx(l:List Int)(j:Int)(h:0<=j/\j<=l.length):Jt (sv l) none (some (vi j))=some (sv (l.take j.toNat)):=by
 simp[Jt,dB,dO,bH,h.1,h.2,Nc,aF,dG]
theorem aFl(b:List Int)(i:Nat)(N:Nat)(hN:b.length=N)(h:i+2<=N)(hl:N<=1000000):EV G (Tb (bs bb)) 260 [.one (.bls 0 0 N 1),vi i] [yb b]=some (sv (iJ b i),[yb b]):=by
 refine aA rfl ?_;have ht:((i:Int)+2).toNat=i+2:=by omega
 have e:iV (((b.map yC).drop i).take 2)=some ((iJ b i).map u8):=by rw[<- aYS,<- aYr,kN]
 simp (disch:=omega) only[go_sem,h260c,aXC,ht,aY9,e,Q2]
theorem Ns(b t:List Int)(a:Int)(N:Nat)(hN:b.length=N)(hl:N<=1000000)(ha:0<=a/\a+t.length<=N)(hB:aM t):EV G (Tb (bs bb)) 261 [.one (.bls 0 0 N 1),vi a,sv t] [yb b]=some (.tup [],[yb (fG b a.toNat t)]):=by
 refine aA rfl ?_;have e:=oO b t a.toNat (N-a.toNat) hB (by omega);simp (disch:=omega) only[go_sem,h261c,aXC,e]
theorem aJY(n:Nat)(h:n<=1000):EV G (Tb (bs bb)) 130 [sv (zl n),vu 0] []=some (sv [],[]):=by
 refine aA rfl ?_;simp (disch:=omega) only[go_sem,h130c];rw[aR (fun k=>⟨(sv (zl (n-k))::vu 0::jk 21 []),[]⟩) n ?_ ?_]
 rw[aYs];simp (disch:=omega) only[go_sem,h130l0,aF,bF];rfl;rfl;intro k hk;have h1:(zl (n-k))[n-k-1]?=some 0:=by unfold zl;rw[aYH,if_pos (by omega)]
 have h2:=aTx (zl (n-k)) ((n-k:Nat)-1:Int) (by rw[bF];omega);have h3:(zl (n-k)).take (n-k-1)=zl (n-(k+1)):=by
  unfold zl;rw[List.take_replicate];congr 1;omega
 have h5:(((n-k:Nat):Int)-1).toNat=n-k-1:=by omega
 rw[h5,h3] at h2;have h4:(0:Int)<((n-k:Nat):Int):=by omega
 have h6:((u8 0).toNat:Int)=0:=rfl;simp (disch:=omega) only[go_sem,h130l0,aF,bF,h1,h3,eq_true h4,h6]
theorem aJZ:EV G (Tb (bs bb)) 129 [sv [],vu 0] []=some (sv [],[]):=by
 refine aA rfl ?_;simp (disch:=omega) only[go_sem,h129c];rw[aR (fun k=>⟨(sv []::vu 0::jk 15 []),[]⟩) 0 ?_ ?_]
 simp (disch:=omega) only[go_sem,h129l0,aF,aXH];rfl;intro k hk;omega
theorem aOX:EV G (Tb (bs bb)) 72 [sv (zl 18),.one (.dc (.raw (.string ⟨#[0]⟩)))] []=some (sv [],[]):=by
 refine aA rfl ?_;have q1:=aJY (G:=G) (bb:=bb) 18 (by decide);have q2:=aJZ (G:=G) (bb:=bb);have i0:Gm (.one (.dc (.raw (.string ⟨#[0]⟩)))) 0=some (vu 0):=by rfl
 have e0:¬ dL (zl 18)=⟨#[]⟩:=by decide
 have e1:¬ (⟨#[0]⟩:ByteArray)=⟨#[]⟩:=by decide
 have e5:((UInt8.toNat 0:Nat):Int)=0:=rfl;have e4:(((#[0]:Array UInt8).size:Nat):Int)=1:=rfl;simp (disch:=omega) only[go_sem,h72c,q1,q2,i0,e0,e1,e4,e5]
theorem byC{s:List Int}(h:aM s)(a:Nat):aM (iJ s a):=fun x hx=>h x (aYl (aX6 hx))
theorem aJ0{b s:List Int}{k:Nat}(hb:aM b)(hs:aM s):aM (fG b k s):=fun x hx=>by
 unfold fG at hx;rcases aYV.1 hx with hx|hx
 rcases aYV.1 hx with hx|hx;exact hb x (aX6 hx);exact hs x hx;exact hb x (aYl hx)
theorem U1{b:List Int}{u:Int}(hb:b.length=512)(hB:aM b):∀k,k<=8->aM (oP b u k)
 |0,_=>aJ0 hB (byS u 2)
 |k+1,h=>aJ0 (aJ0 (U1 hb hB k (by omega)) (byC (U1 hb hB k (by omega)) _)) (byS u 2)
set_option maxHeartbeats 4000000 in
theorem aBy(b:List Int)(u:Int)(hb:b.length=512)(hB:aM b)(hz:(b.drop 40).take 18=zl 18)(hu:1<=u/\u<=65535):EV G (Tb (bs bb)) 229 [sv b,vi u] []=some (.tup [.one (.dc (.raw (.string (dL (oP b u 8))))),.one (.dc (ci 0))],[]):=by
 refine aA rfl ?_;have q1:=Ro (G:=G) (bb:=bb) b;have w:=Ld (G:=G) (bb:=bb);have e1:un (decide (b.length=512)) 10=0:=by rw[decide_eq_true hb];rfl
 rw[e1] at q1;have q2:=aOX (G:=G) (bb:=bb);have q3:=aBw (G:=G) (bb:=bb) u 1 65535;rw[decide_eq_true hu] at q3;have q4:=aFk (G:=G) (bb:=bb);have q5:=aBx (G:=G) (bb:=bb) u (by omega);have s1:=aTw b 40 58 (by omega);have s2:(b.take (58:Int).toNat).drop (40:Int).toNat=zl 18:=by
  rw[<- hz,List.take_drop];rfl
 have e3:dL []=⟨#[]⟩:=rfl;have q6:=Ns (G:=G) (bb:=bb) b (bK u 2) 40 512 hb (by decide) (by rw[aB];decide) (byS u 2);have hD:=mK b hB;have hE:=Lf hb (by decide);have hF:=An b;simp (disch:=omega) only[go_sem,h229c,q1,w,q2,q3,q4,q5,s2,e3,fR,aV,bJ,aF,hb,hD,hE,hF,M6,aXC,q6];rw[aR (fun k=>⟨(jk 1 (vi u::jk 6 (.one (.bls 0 0 512 1)::jk 25 (vi k::jk 20 [])))),[yb (oP b u k)]⟩) 8 ?_ ?_]
 have hl:=rE (n:=u) hb 8 (by decide);have e:iV (List.take 512 (List.map yC (oP b u 8)))=some ((oP b u 8).map u8):=by rw[B3 _ _ (by omega),kN]
 simp (disch:=omega) only[go_sem,h229l0,e,Q2];rfl;intro k hk;have hl:=rE (n:=u) hb k (by omega);have t1:=Uz (G:=G) (bb:=bb) k (by omega);have a1:=aFl (G:=G) (bb:=bb) (oP b u k) (64*k+62) 512 hl (by omega) (by decide);have hc:=mJ (s:=oP b u k) (a:=64*k+62) (by omega);have hBk:aM (oP b u k):=U1 hb hB k (by omega);have p1:=Ns (G:=G) (bb:=bb) (oP b u k) (iJ (oP b u k) (64*k+62)) (42+2*(k:Int)) 512 hl (by decide) (by rw[hc];omega) (byC hBk _);have n1:(42+2*(k:Int)).toNat=42+2*k:=by omega
 rw[n1] at p1;have hl2:(fG (oP b u k) (42+2*k) (iJ (oP b u k) (64*k+62))).length=512:=by rw[cP (by rw[hc];omega),hl]
 have p2:=Ns (G:=G) (bb:=bb) (fG (oP b u k) (42+2*k) (iJ (oP b u k) (64*k+62))) (bK u 2) ((64*k+62:Nat):Int) 512 hl2 (by decide) (by rw[aB];omega) (byS u 2);rw[aYm] at p2;have e:fG (fG (oP b u k) (42+2*k) (iJ (oP b u k) (64*k+62))) (64*k+62) (bK u 2)=oP b u (k+1):=rfl;rw[e] at p2;generalize 64*k+62=m at *;generalize oP b u (k+1)=y at *;generalize fG (oP b u k) (42+2*k) (iJ (oP b u k) m)=x at *;generalize iJ (oP b u k) m=c at *;generalize oP b u k=z at *;simp (disch:=omega) only[go_sem,h229l0,t1,a1,p1,p2,q5]
end
section
variable {G:aE}{bb:Bool}
noncomputable def pO(s:List Int):Nat->List Int
 |0=>[]
 |k+1=>pO s k++(open Classical in if Rn s k then [(k:Int)] else [])
theorem Rp(s:List Int):∀k,pO s k=[]↔∀i,i<k->¬ Rn s i
 |0=>by simp[pO]
 | k+1=>by
  rw[pO,List.append_eq_nil_iff,Rp s k];constructor
  ·rintro⟨h1,h2⟩ i hi;by_cases e:i=k
   ·subst e;intro h;rw[if_pos h] at h2;cases h2
   ·exact h1 i (by omega)
  ·intro h;exact⟨fun i hi=>h i (by omega),by rw[if_neg (h k (by omega))]⟩
theorem Is(s:List Int):∀k,(pO s k).length<=k
 |0=>aXF _
 | k+1=>by
  rw[pO,aXD];have:=Is s k;split<;>simp<;>omega
theorem U2(s:List Int):pO s 8=[]↔mR s:=by
 rw[Rp];unfold Rn mR;constructor;intro h;refine⟨fun h0=>h 0 (by decide) (.inl h0),fun i hi=>?_⟩
 exact Classical.byContradiction fun h1=>h i hi (.inr h1)
 rintro⟨h1,h2⟩ i hi h;rcases h with h|h;exact h1 h;exact h (h2 i hi)
theorem Yh{s:List Int}(hs:s.length=512):iJ s 40=[s.getD 40 0,s.getD 41 0]/\qG s=s.getD 40 0+256*s.getD 41 0:=⟨F5 (by omega),aTt (by omega)⟩
theorem aJ1{a b:List Int}(ha:aM a)(hb:aM b):(dL a=dL b)=(a=b):=dR ha hb
set_option maxHeartbeats 4000000 in
theorem aOY(s:List Int)(hs:s.length=512)(hB:aM s):EV G (Tb (bs bb)) 258 [sv s] []=some (vl ((pO s 8).map fun n=>[ci n]),[]):=by
 refine aA rfl ?_;have hD:=mK s hB;obtain⟨hc,hu⟩:=Yh hs;have q1:EV G (Tb (bs bb)) 260 [vl (bl s),vi 40] []=some (sv (iJ s 40),[]):=aMb (G:=G) (bb:=bb) s 40 (by omega) (by omega);have q2:=Le (G:=G) (bb:=bb) (s.getD 40 0) (s.getD 41 0) (Ir hB 40) (Ir hB 41);rw[<- hc,<- hu] at q2;simp (disch:=omega) only[go_sem,h258c,hD];rw[aR (fun k=>⟨(jk 3 (vl (bl s)::.one (.bld 0 (pO s k).length)::jk 3 (vi k::jk 21 []))),[.arr 0 1 ((pO s k).map fun n=>[ci n])]⟩) 8 ?_ ?_]
 have h8:((pO s 8).map fun n=>[ci n]).take (pO s 8).length=(pO s 8).map fun n=>[ci n]:=aYe (by rw[aXC];exact aXF _)
 simp (disch:=omega) only[go_sem,h258l0,aXC,h8,aXF];rfl;intro k hk;have t1:=Uz (G:=G) (bb:=bb) k (by omega);have a1:=aMb (G:=G) (bb:=bb) s (64*k+62) (by omega) (by omega);have eT:(dL (iJ s (64*k+62))=dL (iJ s 40))=(iJ s (64*k+62)=iJ s 40):=aJ1 (byC hB _) (byC hB _);have hall:gE 1 ((pO s k).map fun n=>[ci n])=true:=kJ (f:=fun n=>[ci n]) (fun _=>rfl) _
 have hlk:=Is s k;have ht:((pO s k).map fun n=>[ci n]).take (pO s k).length=(pO s k).map fun n=>[ci n]:=aYe (by rw[aXC];exact aXF _)
 have hT:pO s (k+1)=pO s k++(open Classical in if Rn s k then [(k:Int)] else []):=rfl
 unfold Rn at hT;rw[hT];generalize pO s k=L at *;generalize qG s=w at *;generalize 64*k+62=m at *;by_cases c1:w=0;rw[if_pos (.inl c1)];rw[aYg,aXD];simp (disch:=omega) only[go_sem,h258l0,aXC,q1,q2,t1,a1,eq_true c1,hall,ht,aXF,aXL,aXT,aXE,aXH];by_cases c2:iJ s m=iJ s 40;rw[if_neg (by rintro (h|h)<;>contradiction),aYE]
 rw[eq_true c2] at eT;simp (disch:=omega) only[go_sem,h258l0,aXC,q1,q2,t1,a1,c1,eT,hall,ht,aXF];rw[if_pos (.inr c2)];rw[eq_false c2] at eT;rw[aYg,aXD];simp (disch:=omega) only[go_sem,h258l0,aXC,q1,q2,t1,a1,c1,eT,hall,ht,aXF,aXL,aXT,aXE,aXH]
theorem U3{s:List Int}(hB:aM s):∀k,aM (Fb s k)
 |0=>hB
 |k+1=>aJ0 (U3 hB k) (byC (U3 hB k) _)
abbrev aMc(s:List Int)(u e:Int):AV:=.tup [.one (.dc (.raw (.string (dL s)))),.one (.dc (ci u)),.one (.dc (ci e))]
set_option maxHeartbeats 4000000 in
open Classical in
theorem aOZ(s:List Int)(hs:s.length=512)(hB:aM s):EV G (Tb (bs bb)) 208 [sv s] []=some (if mR s then aMc (jJ s) (qG s) 0 else aMc [] 0 31,[]):=by
 refine aA rfl ?_;have q1:=Ro (G:=G) (bb:=bb) s;have e1:un (decide (s.length=512)) 10=0:=by rw[decide_eq_true hs];rfl
 rw[e1] at q1;have q2:=aOY (G:=G) (bb:=bb) s hs hB;have ht:=U2 s;have hlT:=Is s 8;have hD:=mK s hB;have hE:=Lf hs (by decide);have hF:=An s;have e3:dL []=⟨#[]⟩:=rfl;generalize pO s 8=L at *;by_cases c:mR s;rw[if_pos c];have hL:=ht.2 c;subst hL;obtain⟨hc,hu⟩:=Yh hs;have q3:EV G (Tb (bs bb)) 260 [.one (.bls 0 0 512 1),vi 40] [yb s]=some (sv (iJ s 40),[yb s]):=aFl (G:=G) (bb:=bb) s 40 512 hs (by omega) (by decide);have q4:=Le (G:=G) (bb:=bb) (s.getD 40 0) (s.getD 41 0) (Ir hB 40) (Ir hB 41);rw[<- hc,<- hu] at q4;generalize qG s=w at *;simp (disch:=omega) only[go_sem,h208c,q1,q2,aXT,aXH,aF,hs,hD,hE,hF,M6,aXC,q3,q4];rw[aR (fun k=>⟨(jk 6 (.one (.bls 0 0 512 1)::vi w::jk 15 (vi k::jk 17 []))),[yb (Fb s k)]⟩) 8 ?_ ?_]
 have hl:=(Iq hs 8 (by decide)).1;have hl2:=B8 hs;have hl3:(Fb s 8).length=512:=hl;have ec:cQ (List.map yC (Fb s 8)) 40 (List.replicate 18 (aT.dc (DC.raw (Value.int .u8 0))))=List.map yC (fG (Fb s 8) 40 (zl 18)):=aOW (Fb s 8) 40 18;have ed:fG (Fb s 8) 40 (zl 18)=jJ s:=rfl;rw[ed] at ec;have e:iV (List.take 512 (List.map yC (jJ s)))=some ((jJ s).map u8):=by rw[B3 _ _ (by omega),kN]
 simp (disch:=omega) only[go_sem,h208l0,aXC,hl3,hl2,Int.reduceToNat,ec,e,Q2];rfl;intro k hk;have hl:=(Iq hs k (by omega)).1;have t1:=Uz (G:=G) (bb:=bb) k (by omega);have a1:=aFl (G:=G) (bb:=bb) (Fb s k) (42+2*k) 512 hl (by omega) (by decide);have hc2:=mJ (s:=Fb s k) (a:=42+2*k) (by omega);have p1:=Ns (G:=G) (bb:=bb) (Fb s k) (iJ (Fb s k) (42+2*k)) ((64*k+62:Nat):Int) 512 hl (by decide) (by rw[hc2];omega) (byC (U3 hB k) _);rw[aYm] at p1;have e:fG (Fb s k) (64*k+62) (iJ (Fb s k) (42+2*k))=Fb s (k+1):=rfl;rw[e] at p1;have n1:((42+2*k:Nat):Int)=42+2*(k:Int):=by omega
 rw[n1] at a1;generalize iJ (Fb s k) (42+2*k)=c at *;generalize 64*k+62=m at *;generalize Fb s (k+1)=y at *;generalize Fb s k=z at *;simp (disch:=omega) only[go_sem,h208l0,t1,a1,p1];rw[if_neg c];have hL:0<(L.length:Int):=by
  have:L≠[]:=fun h=>c (ht.1 h)
  have:=List.length_pos_iff.2 this;omega
 simp (disch:=omega) only[go_sem,h208c,q1,q2,aXC,eq_true hL];rfl
end
section
variable {G:aE}{bb:Bool}
section
variable {B:aO}
theorem Rq(p:aY->Bool)(f:Nat)(hf:∀r:aY,EV G (Tb B) f [r.v] []=some (vb (p r),[]))(l:List aY)(hl:l.length<=1000000):
  EV G (Tb B) 163 [eB l,.one (.fn f [])] []=some (vi (if ix (fun k=>p (l.getD k ⟨0,0⟩)=true) l.length=l.length then -1 else (ix (fun k=>p (l.getD k ⟨0,0⟩)=true) l.length:Nat)),[]):=by
 refine aA rfl ?_;simp (disch:=omega) only[go_sem,h163c,aXC];rw[gF (fun k=>⟨(eB l::.one (.fn f [])::jk 5 (vi l.length::vi k::jk 10 [])),[]⟩) (fun k=>p (l.getD k ⟨0,0⟩)=true) l.length ?_ ?_]
 rotate_left
 rfl;intro k hk hn;have h1:=hn k (aXF _);have h2:=hf l[k];rw[pG l k hk] at h1;simp (disch:=omega) only[go_sem,h163l0,aXC,aY.e,h2,h1];obtain⟨hk,hp,hn⟩:=bT (fun k=>p (l.getD k ⟨0,0⟩)=true) l.length
 generalize ix (fun k=>p (l.getD k ⟨0,0⟩)=true) l.length=k at *
 rcases hp with rfl|⟨hk',hp⟩;simp (disch:=omega) only[go_sem,h163l0,aXC];have h2:=hf l[k];rw[pG l k hk'] at hp;rw[if_neg (by omega)];simp (disch:=omega) only[go_sem,h163l0,aXC,aY.e,h2,hp]
end
theorem Yi(l:List aY)(hl:l.length<=1000000):EV G (Tb (bs bb)) 219 [eB l] []=some (.one (.bld 0 l.length),[.arr 0 2 (l.map aY.e)]):=by
 refine gP rfl ?_;show (if gE 2 (l.map aY.e)=true/\(l.map aY.e).length*16<=140737488355328 then some (AV.one (.bld 0 (l.map aY.e).length),[aC.arr 0 2 (l.map aY.e)]) else none)=_
 rw[if_pos ⟨X5 l,by rw[aXC];omega⟩,aXC]
theorem Nt(a:aJ)(hl:a.rs.length<=1000000):EV G (Tb (bs bb)) 160 [a.v] []=some (a.v,[]):=by
 refine aA rfl ?_;have q:=Uq (G:=G) (B:=bs bb) a.rs hl;simp (disch:=omega) only[go_sem,h160c,q,kZ,aXC]
theorem aJ.nil_W:aJ.nil.W:=⟨jI,jI,aXX _,aXX _,aXX _⟩
end
section
variable {G:aE}{bb:Bool}
end
section
variable {G:aE}{bb:Bool}
abbrev rtv(p:aJ×Int):AV:=.tup [p.1.t,.one (.dc (ci p.2))]
end
section
variable {G:aE}{B:aO}
theorem aMd(c:List Int)(x:Int):c.map E4++[[.raw (.int .i64 x)]]=(c++[x]).map E4:=by simp[E4]
end
section
variable {G:aE}{B:aO}
end
section
variable {G:aE}{bb:Bool}
theorem lA{a:aJ}(hW:a.W)(h:fK a=0):a.Ok:=by
 unfold fK at h;split at h;exact absurd h (by decide);rename_i h1;split at h;exact absurd h (by decide);rename_i h2;split at h;exact absurd h (by decide);rename_i h3;split at h;rename_i h4;exact absurd h h4;rename_i h4;exact⟨hW,Classical.not_not.1 h1,by simpa using h2,Classical.not_not.1 h3,Classical.not_not.1 h4⟩
theorem aJ.Ok.bd{a:aJ}(h:a.Ok):a.Bd:=aJ.bd h.w h.ty h.nm h.rg h.e
def dX(a:aJ):List Int:=if fK a=0 then uZ a else []
theorem Lg(a:aJ)(hW:a.W):EV G (Tb (bs bb)) 228 [a.v] []=some (.tup [.one (.dc (.raw (.string (dL (dX a))))),.one (.dc (ci (fK a)))],[]):=by
 refine aA rfl ?_;have q:=B4 (G:=G) (bb:=bb) a hW;unfold dX;by_cases c:fK a=0;have q1:=Dg (G:=G) (bb:=bb) a (lA hW c).bd;rw[if_pos c];simp (disch:=omega) only[go_sem,h228c,q,c,q1];rw[if_neg c];simp (disch:=omega) only[go_sem,h228c,q,c,aL]
theorem qH{a:aJ}(hW:a.W):(dX a).length<=440:=by
 unfold dX;by_cases c:fK a=0;rw[if_pos c,mI a (lA hW c).bd];unfold fK at c;split at c;exact absurd c (by decide);split at c;exact absurd c (by decide);split at c;exact absurd c (by decide);split at c;rename_i h4;exact absurd c h4;split at c;exact absurd c (by decide);omega;rw[if_neg c];simp
theorem aBz(a:aJ)(hW:a.W):EV G (Tb (bs bb)) 246 [a.v] []=some (.tup [.one (.dc (ci (dX a).length)),.one (.dc (ci (fK a)))],[]):=by
 refine aA rfl ?_;have q:=Lg (G:=G) (bb:=bb) a hW;have:=qH hW;simp (disch:=omega) only[go_sem,h246c,q]
end
end Go.Proofs.YthepfneloomngaaGreatDoor
