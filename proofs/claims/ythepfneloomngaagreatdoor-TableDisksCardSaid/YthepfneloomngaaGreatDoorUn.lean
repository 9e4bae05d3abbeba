/- Keys of attributes. Conditions: none. -/
import Derived.Test.YthepfneloomngaaGreatDoorTu
import Derived.Test.YthepfneloomngaaGreatDoorUh
import Derived.Test.YthepfneloomngaaGreatDoorUb
import Derived.Test.YthepfneloomngaaGreatDoorMb
import Derived.KernelRfl
namespace Go.Proofs.YthepfneloomngaaGreatDoor
set_option linter.unusedSimpArgs false
set_option linter.unusedVariables false
set_option maxRecDepth 4000
section
variable {G:aF} {bb:Bool}
theorem Pj{b s:List Int}{k:Nat}(h:k+s.length<=b.length)(j:Nat):(gT b k s).getD j 0=if k<=j/\j < k+s.length then s.getD (j - k) 0 else b.getD j 0:=by
 unfold gT;simp only[aWn];split
 ·rename_i hj;rw[aWv,aWB (by rw[aWm];omega),aWm,aXD (by omega),aWx (by omega)]
 ·rename_i hj;by_cases h1:j < k
  ·rw[aWv,aWx (by rw[aWm];omega),aXQ h1]
  ·rw[aWB (by rw[aWg,aWm];omega),aWK,aWg,aWm,aXD (by omega)];congr 2;omega
theorem S9{a b:List Int}(hl:a.length=b.length)(h:∀ j,j < a.length->a.getD j 0=b.getD j 0):a=b:=by
 refine List.ext_getElem hl (fun j p q=>?_)
 have:=h j p;simpa[aWn,p,q] using this
theorem gtc{s:List Int}{a b:Nat}(h:a=b):s.getD a 0=s.getD b 0:=by rw[h]
theorem Lp(s:List Int)(a n j:Nat)(hj:j < n):((s.drop a).take n).getD j 0=s.getD (a+j) 0:=by
 simp only[aWn,aXQ hj,aWK]
theorem aD9(n j:Nat):(zl n).getD j 0=0:=by
 simp only[zl,aWn,aXh];split<;>rfl
theorem aRH(n:Int)(j:Nat)(h:j < 2):(cC n 2).getD j 0=if j=0 then n % 256 else n / 256 % 256:=by
 rcases j with _ | _ | j
 ·rfl
 ·rfl
 ·omega
theorem aEa{a b:List Int}(j:Nat):(a++b).getD j 0=if j < a.length then a.getD j 0 else b.getD (j - a.length) 0:=by
 simp only[aWn];split
 ·rw[aWx (by assumption)]
 ·rw[aWB (by omega)]
abbrev jB(s:List Int)(a:Nat):List Int:=(s.drop a).take 2
theorem nL{s:List Int}{a:Nat}(h:a+2<=s.length):(jB s a).length=2:=by rw[aWm,aWt];omega
def oT(s:List Int)(n:Int):Nat->List Int
 | 0=>gT s 40 (cC n 2)
 | i+1=>gT (gT (oT s n i) (42+2 * i) (jB (oT s n i) (64 * i+62))) (64 * i+62) (cC n 2)
def ptG(s:List Int)(n:Int)(i j:Nat):Int:=
 if j=40 then n % 256 else if j=41 then n / 256 % 256 else if 42<=j/\j < 42+2 * i then s.getD (64 * ((j - 42) / 2)+62+(j - 42) % 2) 0
 else if j % 64=62/\j / 64 < i then n % 256 else if j % 64=63/\j / 64 < i then n / 256 % 256 else s.getD j 0
theorem tD{s:List Int}{n:Int}(hs:s.length=512):∀ i,i<=8->(oT s n i).length=512
 | 0,_=>by rw[oT,cN (by rw[aB];omega),hs]
 | i+1,h=>by
  have:=tD (n:=n) hs i (by omega);have c:=nL (s:=oT s n i) (a:=64 * i+62) (by omega);have l1:(gT (oT s n i) (42+2 * i) (jB (oT s n i) (64 * i+62))).length=512:=by rw[cN (by omega),this]
  rw[oT,cN (by rw[aB];omega),l1]
theorem aEb{s:List Int}{n:Int}(hs:s.length=512):∀ i,i<=8->∀ j,(oT s n i).getD j 0=ptG s n i j
 | 0,_,j=>by
  rw[oT,Pj (by rw[aB];omega),aB];unfold ptG;split
  ·rename_i h;rw[aRH _ _ (by omega)];by_cases h1:j=40
   ·rw[if_pos (by omega),if_pos h1]
   ·rw[if_neg (by omega),if_neg h1,if_pos (by omega)]
  ·rw[if_neg (by omega),if_neg (by omega),if_neg (by omega),if_neg (by omega),if_neg (by omega)]
 | i+1,h,j=>by
  have hl:=tD (n:=n) hs i (by omega);have ih:=aEb (n:=n) hs i (by omega);have c:=nL (s:=oT s n i) (a:=64 * i+62) (by omega);have l1:(gT (oT s n i) (42+2 * i) (jB (oT s n i) (64 * i+62))).length=512:=by rw[cN (by omega),hl]
  rw[oT,Pj (by rw[aB];omega),aB];split
  ·rename_i h1;rw[aRH _ _ (by omega)];unfold ptG;by_cases h2:j=64 * i+62
   ·rw[if_pos (by omega),if_neg (by omega),if_neg (by omega),if_neg (by omega),if_pos (by omega)]
   ·rw[if_neg (by omega),if_neg (by omega),if_neg (by omega),if_neg (by omega),if_neg (by omega),if_pos (by omega)]
  ·rename_i h1;rw[Pj (by omega),c];split
   ·rename_i h2;rw[Lp _ _ _ _ (by omega),ih];unfold ptG;rw[if_neg (by omega),if_neg (by omega),if_neg (by omega),if_neg (by omega),if_neg (by omega),if_neg (by omega),if_neg (by omega),if_pos (by omega)];exact gtc (by omega)
   ·rename_i h2;rw[ih];unfold ptG
    repeat' split
    all_goals first | rfl | (exfalso;omega)
def Dt(s:List Int):Nat->List Int
 | 0=>s
 | i+1=>gT (Dt s i) (64 * i+62) (jB (Dt s i) (42+2 * i))
def opG(s:List Int)(i j:Nat):Int:=if 62<=j % 64/\j / 64 < i then s.getD (42+2 * (j / 64)+(j % 64 - 62)) 0 else s.getD j 0
theorem G0{s:List Int}(hs:s.length=512):∀ i,i<=8->(Dt s i).length=512/\∀ j,(Dt s i).getD j 0=opG s i j
 | 0,_=>⟨hs,fun j=>by unfold opG;rw[if_neg (by omega)];rfl⟩
 | i+1,h=>by
  obtain⟨l1,g1⟩:=G0 hs i (by omega);have c:=nL (s:=Dt s i) (a:=42+2 * i) (by omega);refine⟨by rw[Dt,cN (by omega),l1],fun j=>?_⟩
  rw[Dt,Pj (by omega),c];split
  ·rw[Lp _ _ _ _ (by omega),g1];unfold opG;rw[if_neg (by omega),if_pos (by omega)];exact gtc (by omega)
  ·rw[g1];unfold opG
   repeat' split
   all_goals first | rfl | (exfalso;omega)
def iO(s:List Int):List Int:=gT (Dt s 8) 40 (zl 18)
theorem Ap{s:List Int}(hs:s.length=512):(iO s).length=512:=by
 rw[iO,cN (by rw[bG,(G0 hs 8 (by omega)).1];omega),(G0 hs 8 (by omega)).1]
theorem aKK{s:List Int}(hs:s.length=512)(j:Nat):(iO s).getD j 0=if 40<=j/\j < 58 then 0 else opG s 8 j:=by
 rw[iO,Pj (by rw[bG,(G0 hs 8 (by omega)).1];omega),bG,aD9,(G0 hs 8 (by omega)).2]
def pP(s:List Int):Int:=gL s 40 2
def Pk(s:List Int)(i:Nat):Prop:=pP s=0\/jB s (64 * i+62)≠jB s 40
def lY(s:List Int):Prop:=pP s≠0/\∀ i,i < 8->jB s (64 * i+62)=jB s 40
theorem Em{s:List Int}{a:Nat}(h:a+2<=s.length):jB s a=[s.getD a 0,s.getD (a+1) 0]:=by
 refine S9 (nL h) (fun j hj=>?_)
 rw[nL h] at hj;rw[Lp _ _ _ _ hj];rcases j with _ | _ | j
 ·rfl
 ·rfl
 ·omega
theorem aRI{s:List Int}{a:Nat}(h:a+2<=s.length):gL s a 2=s.getD a 0+256 * s.getD (a+1) 0:=by
 unfold gL;rw[show (s.drop a).take 2=jB s a from rfl,Em h]
 simp[gv]
theorem G1{s:List Int}(hB:aL s)(j:Nat):0<=s.getD j 0/\s.getD j 0<=255:=by
 simp only[aWn];by_cases h:j < s.length
 ·rw[aWo h];exact hB _ (aWq h)
 ·rw[aXb (by omega)];simp
theorem aEc{s:List Int}{n:Int}(hs:s.length=512)(hz:∀ j,40<=j->j < 58->s.getD j 0=0)(hn:1<=n/\n<=65535):iO (oT s n 8)=s/\lY (oT s n 8)/\pP (oT s n 8)=n:=by
 have l1:=tD (n:=n) hs 8 (by omega);have g:=aEb (n:=n) hs 8 (by omega);have e0:(oT s n 8).getD 40 0=n % 256:=by rw[g];rfl
 have e1:(oT s n 8).getD 41 0=n / 256 % 256:=by rw[g];rfl
 have hu:pP (oT s n 8)=n:=by
  unfold pP;rw[aRI (by omega),e0,e1];omega
 refine⟨S9 (by rw[Ap l1,hs]) (fun j hj=>?_),⟨by omega,fun i hi=>?_⟩,hu⟩
 ·rw[Ap l1] at hj;clear e0 e1 hu hn;rw[aKK l1];split
  ·rename_i h;rw[hz j h.1 h.2]
  ·unfold opG;split
   ·rw[g];unfold ptG;rw[if_neg (by omega),if_neg (by omega),if_pos (by omega)];exact gtc (by omega)
   ·rw[g];unfold ptG;rw[if_neg (by omega),if_neg (by omega),if_neg (by omega),if_neg (by omega),if_neg (by omega)]
 ·rw[Em (by omega),Em (by omega),e0,e1,g,g];clear e0 e1 g l1 hu hn hz;unfold ptG;rw[if_neg (by omega),if_neg (by omega),if_neg (by omega),if_pos (by omega),if_neg (by omega),if_neg (by omega),if_neg (by omega),if_neg (by omega),if_pos (by omega)]
end
section
variable {G:aF} {bb:Bool}
theorem aAr(n lo hi:Int):EV G (Tb (bs bb)) 279 [vi n,vi lo,vi hi] []=some (vb (decide (lo<=n/\n<=hi)),[]):=by
 refine aA rfl ?_;by_cases h:lo<=n
 all_goals simp (disch:=omega) only[go_sem,h279c]
 all_goals simp[h]
theorem Jl(b:Bool)(e:Int):EV G (Tb (bs bb)) 180 [vb b,vi e] []=some (vi (un b e),[]):=by
 refine aA rfl ?_;cases b
 all_goals simp (disch:=omega) only[go_sem,h180c]
 all_goals rfl
theorem aEd(l:List Int)(hl:l.length<=1000):EV G (Tb (bs bb)) 179 [vl (el l)] []=some (vi (aQ l),[]):=by
 refine aA rfl ?_;simp (disch:=omega) only[go_sem,h179c,aWf];have round:∀ k (hk:k < l.length),¬ l.getD k 0≠0->K1 [5,0,0] 0 (EC (EV G (Tb (bs bb))) G h179l0 ⟨(jk 5 (vl (el l)::vi l.length::vi k::jk 7 [])),[]⟩)=some ⟨(jk 5 (vl (el l)::vi l.length::vi (k+1:Nat)::jk 7 [])),[]⟩:=fun k hk hz=>by
  rw[cY l k hk] at hz;simp (disch:=omega) only[go_sem,h179l0,aWf,Gc]
 rcases La (fun k=>l.getD k 0≠0) l.length with h | ⟨j,hj,h1,h2⟩
 ·rw[aU (fun k=>⟨(jk 5 (vl (el l)::vi l.length::vi k::jk 7 [])),[]⟩) l.length ?_ ?_]
  ·rw[fX l h];simp (disch:=omega) only[go_sem,h179l0]
  ·rfl
  ·exact fun k hk=>round k hk (h k hk)
 ·rw[aU (fun k=>⟨(jk 5 (vl (el l)::vi l.length::vi k::jk 7 [])),[]⟩) j ?_ ?_]
  ·rw[iY l j hj h2 h1];rw[cY l j hj] at h1;simp (disch:=omega) only[go_sem,h179l0,aWf,Gc]
  ·rfl
  ·exact fun k hk=>round k (by omega) (h2 k hk)
theorem aEe(a b:Int):EV G (Tb (bs bb)) 179 [vl [[ci a],[ci b]]] []=some (vi (aQ [a,b]),[]):=aEd [a,b] (by simp)
theorem Pl(l:List Int):EV G (Tb (bs bb)) 257 [sv l] []=some (vi (un (decide (l.length=512)) 10),[]):=by
 refine aA rfl ?_;have u:=Jl (G:=G) (bb:=bb);have e:((l.length:Int)=512)=(l.length=512):=by apply propext;omega
 simp (disch:=omega) only[go_sem,h257c,u,e]
theorem Ta(i:Nat)(h:i<=1000):EV G (Tb (bs bb)) 262 [vi i] []=some (vi ((64 * i+62:Nat):Int),[]):=by
 refine aA rfl ?_;have e:((i:Int)+1) * 64 - 2=((64 * i+62:Nat):Int):=by omega
 simp (disch:=omega) only[go_sem,h262c,e]
theorem aAs(n:Int)(h:-9223372036854775808<=n/\n<=9223372036854775807):EV G (Tb (bs bb)) 280 [vi n] []=some (sv (cC n 2),[]):=by
 refine aA rfl ?_;have e:cC n 2=[n % 256,n / 256 % 256]:=rfl;rw[e];simp (disch:=omega) only[go_sem,h280c,wu8,Ek,Int.reduceToNat,Int.reducePow,sZ,eU,u8,dO,aWp,aWw];rfl
theorem orC(n b:Int)(hn:0<=n/\n<=255)(hb:0<=b/\b<=255):Sv .i64 b (n * 256)=b+256 * n:=by
 have h1:Sv .i64 b (n * 256)=Sv .i64 (n * 256) b:=by
  unfold Sv;rw[BitVec.or_comm]
 rw[h1,orL n b (by omega) hb];omega
theorem Jm(x y:Int)(hx:0<=x/\x<=255)(hy:0<=y/\y<=255):EV G (Tb (bs bb)) 259 [sv [x,y]] []=some (vi (x+256 * y),[]):=by
 refine aA rfl ?_;have hB:aL [x,y]:=fun b hb=>by
  rcases aXn.1 hb with rfl | hb
  ·exact hx
  ·rw[List.mem_singleton.1 hb];exact hy
 have i0:E1 (sv [x,y]) 0=some (vu x):=aKx [x,y] hB 0 (by simp);have i1:E1 (sv [x,y]) 1=some (vu y):=aKx [x,y] hB 1 (by simp);have o:=orC y x hy hx;simp (disch:=omega) only[go_sem,h259c,i0,i1,o,Int.reduceToNat,Int.reducePow]
theorem aRJ(b:List Int):(List.map sZ b).all (fun e=>decide (e.length=1))=true:=by
 rw[List.all_eq_true];intro e he;obtain⟨x,_,rfl⟩:=List.mem_map.1 he;rfl
theorem aKL(b:List Int)(i:Nat)(h:i+2<=b.length)(hl:b.length<=1000000):EV G (Tb (bs bb)) 260 [vl (bl b),vi i] []=some (sv (jB b i),[]):=by
 refine aA rfl ?_;have e:((b.map sZ).take (i+2)).drop i=(jB b i).map sZ:=by
  rw[aW2,aXt,List.take_drop,Nat.add_comm]
 have ht:((i:Int)+2).toNat=i+2:=by omega
 have ha:=aRJ b;simp (disch:=omega) only[go_sem,h260c,aWf,ht,e,ha,aDF]
theorem byS(n:Int):∀ k,aL (cC n k)
 | 0=>fun b hb=>by cases hb
 | k+1=>fun b hb=>by
  rw[cC,aXy] at hb;rcases hb with hb | hb
  ·exact byS n k b hb
  ·rw[List.mem_singleton.1 hb];omega
theorem sC:∀ b:List Int,lQ (List.map sZ b).flatten=b.map yC
 | []=>rfl
 | x::b=>by
  have ih:=sC b;rw[aWp,aXc,aWp,<- ih];rfl
theorem kQ(b:List Int)(h:aL b):fK (dO b)=List.map sZ b:=by
 show List.map _ (b.map u8)=_;rw[aWE];exact aWC fun x hx=>by simp only[Function.comp_apply,sZ,iD x (h x hx)]
theorem aNp(b:List Int)(a n:Nat):cO (b.map yC) a (List.replicate n (cZ (.int .u8 0)))=(gT b a (zl n)).map yC:=by
 have:List.replicate n (cZ (.int .u8 0))=(zl n).map yC:=Lh n;rw[this];simp[cO,gT,aWW,aW2,aXt]
theorem G2{b:List Int}{n:Nat}(h:b.length=n)(hn:0 < n):(List.map sZ b).isEmpty=false:=by
 cases b with
 | nil=>simp at h;omega
 | cons _ _=>rfl
theorem aRL(l:List Int)(i j:Int)(h:0<=i/\i<=j/\j<=l.length):H6 (sv l) (some (vi i)) (some (vi j))=some (sv ((l.take j.toNat).drop i.toNat)):=by
 have h2:0<=j:=by omega
 have h3:i<=(j.toNat:Int):=by omega
 simp only[H6,dA,dI,bE,aWr,h.1,h.2.1,h.2.2,h2,h3,and_self,if_true,Ld,aC,dD]
theorem aRM(l:List Int)(j:Int)(h:0<=j/\j<=l.length):H6 (sv l) none (some (vi j))=some (sv (l.take j.toNat)):=by
 simp[H6,dA,dI,bE,h.1,h.2,Ld,aC,dD]
theorem aEf(b:List Int)(i:Nat)(N:Nat)(hN:b.length=N)(h:i+2<=N)(hl:N<=1000000):EV G (Tb (bs bb)) 260 [.one (.bls 0 0 N 1),vi i] [yb b]=some (sv (jB b i),[yb b]):=by
 refine aA rfl ?_;have ht:((i:Int)+2).toNat=i+2:=by omega
 have e:hP (((b.map yC).drop i).take 2)=some ((jB b i).map u8):=by rw[<- aXt,<- aW2,iZ]
 simp (disch:=omega) only[go_sem,h260c,aWf,ht,aXP,e,Le]
theorem Lq(b t:List Int)(a:Int)(N:Nat)(hN:b.length=N)(hl:N<=1000000)(ha:0<=a/\a+t.length<=N)(hB:aL t):EV G (Tb (bs bb)) 261 [.one (.bls 0 0 N 1),vi a,sv t] [yb b]=some (.tup [],[yb (gT b a.toNat t)]):=by
 refine aA rfl ?_;have e:=nK b t a.toNat (N - a.toNat) hB (by omega);simp (disch:=omega) only[go_sem,h261c,aWf,e]
theorem aIL(n:Nat)(h:n<=1000):EV G (Tb (bs bb)) 130 [sv (zl n),vu 0] []=some (sv [],[]):=by
 refine aA rfl ?_;simp (disch:=omega) only[go_sem,h130c];rw[aU (fun k=>⟨(sv (zl (n - k))::vu 0::jk 21 []),[]⟩) n ?_ ?_]
 ·rw[aW3];simp (disch:=omega) only[go_sem,h130l0,aC,bG];rfl
 ·rfl
 ·intro k hk;have h1:(zl (n - k))[n - k - 1]?=some 0:=by unfold zl;rw[aXh,if_pos (by omega)]
  have h2:=aRM (zl (n - k)) ((n - k:Nat) - 1:Int) (by rw[bG];omega);have h3:(zl (n - k)).take (n - k - 1)=zl (n - (k+1)):=by
   unfold zl;rw[List.take_replicate];congr 1;omega
  have h5:(((n - k:Nat):Int) - 1).toNat=n - k - 1:=by omega
  rw[h5,h3] at h2;have h4:(0:Int) < ((n - k:Nat):Int):=by omega
  have h6:((u8 0).toNat:Int)=0:=rfl;simp (disch:=omega) only[go_sem,h130l0,aC,bG,h1,h3,eq_true h4,h6]
theorem aIM:EV G (Tb (bs bb)) 129 [sv [],vu 0] []=some (sv [],[]):=by
 refine aA rfl ?_;simp (disch:=omega) only[go_sem,h129c];rw[aU (fun k=>⟨(sv []::vu 0::jk 15 []),[]⟩) 0 ?_ ?_]
 ·simp (disch:=omega) only[go_sem,h129l0,aC,aWk]
 ·rfl
 ·intro k hk;omega
theorem aNq:EV G (Tb (bs bb)) 72 [sv (zl 18),.one (.dc (.raw (.string ⟨#[0]⟩)))] []=some (sv [],[]):=by
 refine aA rfl ?_;have q1:=aIL (G:=G) (bb:=bb) 18 (by decide);have q2:=aIM (G:=G) (bb:=bb);have i0:E1 (.one (.dc (.raw (.string ⟨#[0]⟩)))) 0=some (vu 0):=by rfl
 have e0:¬ dO (zl 18)=⟨#[]⟩:=by decide
 have e1:¬ (⟨#[0]⟩:ByteArray)=⟨#[]⟩:=by decide
 have e5:((UInt8.toNat 0:Nat):Int)=0:=rfl;have e4:(((#[0]:Array UInt8).size:Nat):Int)=1:=rfl;simp (disch:=omega) only[go_sem,h72c,q1,q2,i0,e0,e1,e4,e5]
theorem byC{s:List Int}(h:aL s)(a:Nat):aL (jB s a):=fun x hx=>h x (aWT (aWF hx))
theorem aIN{b s:List Int}{k:Nat}(hb:aL b)(hs:aL s):aL (gT b k s):=fun x hx=>by
 unfold gT at hx;rcases aXy.1 hx with hx | hx
 ·rcases aXy.1 hx with hx | hx
  ·exact hb x (aWF hx)
  ·exact hs x hx
 ·exact hb x (aWT hx)
theorem Tc{b:List Int}{u:Int}(hb:b.length=512)(hB:aL b):∀ k,k<=8->aL (oT b u k)
 | 0,_=>aIN hB (byS u 2)
 | k+1,h=>aIN (aIN (Tc hb hB k (by omega)) (byC (Tc hb hB k (by omega)) _)) (byS u 2)
set_option maxHeartbeats 4000000 in
theorem aAt(b:List Int)(u:Int)(hb:b.length=512)(hB:aL b)(hz:(b.drop 40).take 18=zl 18)(hu:1<=u/\u<=65535):EV G (Tb (bs bb)) 229 [sv b,vi u] []=some (.tup [.one (.dc (.raw (.string (dO (oT b u 8))))),.one (.dc (ci 0))],[]):=by
 refine aA rfl ?_;have q1:=Pl (G:=G) (bb:=bb) b;have w:=Jl (G:=G) (bb:=bb);have e1:un (decide (b.length=512)) 10=0:=by rw[decide_eq_true hb];rfl
 rw[e1] at q1;have q2:=aNq (G:=G) (bb:=bb);have q3:=aAr (G:=G) (bb:=bb) u 1 65535;rw[decide_eq_true hu] at q3;have q4:=aEe (G:=G) (bb:=bb);have q5:=aAs (G:=G) (bb:=bb) u (by omega);have s1:=aRL b 40 58 (by omega);have s2:(b.take (58:Int).toNat).drop (40:Int).toNat=zl 18:=by
  rw[<- hz,List.take_drop];rfl
 have e3:dO []=⟨#[]⟩:=rfl;have q6:=Lq (G:=G) (bb:=bb) b (cC u 2) 40 512 hb (by decide) (by rw[aB];decide) (byS u 2);have hD:=kQ b hB;have hE:=G2 hb (by decide);have hF:=sC b;simp (disch:=omega) only[go_sem,h229c,q1,w,q2,q3,q4,q5,s2,e3,fY,aX,bI,aC,hb,hD,hE,hF,K6,aWf,q6];rw[aU (fun k=>⟨(jk 1 (vi u::jk 6 (.one (.bls 0 0 512 1)::jk 25 (vi k::jk 20 [])))),[yb (oT b u k)]⟩) 8 ?_ ?_]
 ·have hl:=tD (n:=u) hb 8 (by decide);have e:hP (List.take 512 (List.map yC (oT b u 8)))=some ((oT b u 8).map u8):=by rw[Al _ _ (by omega),iZ]
  simp (disch:=omega) only[go_sem,h229l0,e,Le]
 ·rfl
 ·intro k hk;have hl:=tD (n:=u) hb k (by omega);have t1:=Ta (G:=G) (bb:=bb) k (by omega);have a1:=aEf (G:=G) (bb:=bb) (oT b u k) (64 * k+62) 512 hl (by omega) (by decide);have hc:=nL (s:=oT b u k) (a:=64 * k+62) (by omega);have hBk:aL (oT b u k):=Tc hb hB k (by omega);have p1:=Lq (G:=G) (bb:=bb) (oT b u k) (jB (oT b u k) (64 * k+62)) (42+2 * (k:Int)) 512 hl (by decide) (by rw[hc];omega) (byC hBk _);have n1:(42+2 * (k:Int)).toNat=42+2 * k:=by omega
  rw[n1] at p1;have hl2:(gT (oT b u k) (42+2 * k) (jB (oT b u k) (64 * k+62))).length=512:=by rw[cN (by rw[hc];omega),hl]
  have p2:=Lq (G:=G) (bb:=bb) (gT (oT b u k) (42+2 * k) (jB (oT b u k) (64 * k+62))) (cC u 2) ((64 * k+62:Nat):Int) 512 hl2 (by decide) (by rw[aB];omega) (byS u 2);rw[aW6] at p2;have e:gT (gT (oT b u k) (42+2 * k) (jB (oT b u k) (64 * k+62))) (64 * k+62) (cC u 2)=oT b u (k+1):=rfl;rw[e] at p2;generalize 64 * k+62=m at *;generalize oT b u (k+1)=y at *;generalize gT (oT b u k) (42+2 * k) (jB (oT b u k) m)=x at *;generalize jB (oT b u k) m=c at *;generalize oT b u k=z at *;simp (disch:=omega) only[go_sem,h229l0,t1,a1,p1,p2,q5]
end
section
variable {G:aF} {bb:Bool}
noncomputable def oZ(s:List Int):Nat->List Int
 | 0=>[]
 | k+1=>oZ s k++(open Classical in if Pk s k then [(k:Int)] else [])
theorem Pm(s:List Int):∀ k,oZ s k=[]↔∀ i,i < k->¬ Pk s i
 | 0=>by simp[oZ]
 | k+1=>by
  rw[oZ,List.append_eq_nil_iff,Pm s k];constructor
  ·rintro⟨h1,h2⟩ i hi;by_cases e:i=k
   ·subst e;intro h;rw[if_pos h] at h2;cases h2
   ·exact h1 i (by omega)
  ·intro h;exact⟨fun i hi=>h i (by omega),by rw[if_neg (h k (by omega))]⟩
theorem G3(s:List Int):∀ k,(oZ s k).length<=k
 | 0=>aWj _
 | k+1=>by
  rw[oZ,aWg];have:=G3 s k;split<;>simp<;>omega
theorem Td(s:List Int):oZ s 8=[]↔lY s:=by
 rw[Pm];unfold Pk lY;constructor
 ·intro h;refine⟨fun h0=>h 0 (by decide) (.inl h0),fun i hi=>?_⟩
  exact Classical.byContradiction fun h1=>h i hi (.inr h1)
 ·rintro⟨h1,h2⟩ i hi h;rcases h with h | h
  ·exact h1 h
  ·exact h (h2 i hi)
theorem Wq{s:List Int}(hs:s.length=512):jB s 40=[s.getD 40 0,s.getD 41 0]/\pP s=s.getD 40 0+256 * s.getD 41 0:=⟨Em (by omega),aRI (by omega)⟩
theorem aIO{a b:List Int}(ha:aL a)(hb:aL b):(dO a=dO b)=(a=b):=gJ ha hb
set_option maxHeartbeats 4000000 in
theorem aNr(s:List Int)(hs:s.length=512)(hB:aL s):EV G (Tb (bs bb)) 258 [sv s] []=some (vl ((oZ s 8).map fun n=>[ci n]),[]):=by
 refine aA rfl ?_;have hD:=kQ s hB;obtain⟨hc,hu⟩:=Wq hs;have q1:EV G (Tb (bs bb)) 260 [vl (bl s),vi 40] []=some (sv (jB s 40),[]):=aKL (G:=G) (bb:=bb) s 40 (by omega) (by omega);have q2:=Jm (G:=G) (bb:=bb) (s.getD 40 0) (s.getD 41 0) (G1 hB 40) (G1 hB 41);rw[<- hc,<- hu] at q2;simp (disch:=omega) only[go_sem,h258c,hD];rw[aU (fun k=>⟨(jk 3 (vl (bl s)::.one (.bld 0 (oZ s k).length)::jk 3 (vi k::jk 21 []))),[.arr 0 1 ((oZ s k).map fun n=>[ci n])]⟩) 8 ?_ ?_]
 ·have h8:((oZ s 8).map fun n=>[ci n]).take (oZ s 8).length=(oZ s 8).map fun n=>[ci n]:=aWP (by rw[aWf];exact aWj _)
  simp (disch:=omega) only[go_sem,h258l0,aWf,h8,aWj]
 ·rfl
 ·intro k hk;have t1:=Ta (G:=G) (bb:=bb) k (by omega);have a1:=aKL (G:=G) (bb:=bb) s (64 * k+62) (by omega) (by omega);have eT:(dO (jB s (64 * k+62))=dO (jB s 40))=(jB s (64 * k+62)=jB s 40):=aIO (byC hB _) (byC hB _);have hall:fM 1 ((oZ s k).map fun n=>[ci n])=true:=jZ (f:=fun n=>[ci n]) (fun _=>rfl) _
  have hlk:=G3 s k;have ht:((oZ s k).map fun n=>[ci n]).take (oZ s k).length=(oZ s k).map fun n=>[ci n]:=aWP (by rw[aWf];exact aWj _)
  have hT:oZ s (k+1)=oZ s k++(open Classical in if Pk s k then [(k:Int)] else []):=rfl
  unfold Pk at hT;rw[hT];generalize oZ s k=L at *;generalize pP s=w at *;generalize 64 * k+62=m at *;by_cases c1:w=0
  ·rw[if_pos (.inl c1)];rw[aWW,aWg];simp (disch:=omega) only[go_sem,h258l0,aWf,q1,q2,t1,a1,eq_true c1,hall,ht,aWj,aWp,aWw,aWh,aWk]
  ·by_cases c2:jB s m=jB s 40
   ·rw[if_neg (by rintro (h | h)<;>contradiction),aXr]
    rw[eq_true c2] at eT;simp (disch:=omega) only[go_sem,h258l0,aWf,q1,q2,t1,a1,c1,eT,hall,ht,aWj]
   ·rw[if_pos (.inr c2)];rw[eq_false c2] at eT;rw[aWW,aWg];simp (disch:=omega) only[go_sem,h258l0,aWf,q1,q2,t1,a1,c1,eT,hall,ht,aWj,aWp,aWw,aWh,aWk]
theorem Te{s:List Int}(hB:aL s):∀ k,aL (Dt s k)
 | 0=>hB
 | k+1=>aIN (Te hB k) (byC (Te hB k) _)
abbrev aKM(s:List Int)(u e:Int):AV:=.tup [.one (.dc (.raw (.string (dO s)))),.one (.dc (ci u)),.one (.dc (ci e))]
set_option maxHeartbeats 4000000 in
open Classical in
theorem aNs(s:List Int)(hs:s.length=512)(hB:aL s):EV G (Tb (bs bb)) 208 [sv s] []=some (if lY s then aKM (iO s) (pP s) 0 else aKM [] 0 31,[]):=by
 refine aA rfl ?_;have q1:=Pl (G:=G) (bb:=bb) s;have e1:un (decide (s.length=512)) 10=0:=by rw[decide_eq_true hs];rfl
 rw[e1] at q1;have q2:=aNr (G:=G) (bb:=bb) s hs hB;have ht:=Td s;have hlT:=G3 s 8;have hD:=kQ s hB;have hE:=G2 hs (by decide);have hF:=sC s;have e3:dO []=⟨#[]⟩:=rfl;generalize oZ s 8=L at *;by_cases c:lY s
 ·rw[if_pos c];have hL:=ht.2 c;subst hL;obtain⟨hc,hu⟩:=Wq hs;have q3:EV G (Tb (bs bb)) 260 [.one (.bls 0 0 512 1),vi 40] [yb s]=some (sv (jB s 40),[yb s]):=aEf (G:=G) (bb:=bb) s 40 512 hs (by omega) (by decide);have q4:=Jm (G:=G) (bb:=bb) (s.getD 40 0) (s.getD 41 0) (G1 hB 40) (G1 hB 41);rw[<- hc,<- hu] at q4;generalize pP s=w at *;simp (disch:=omega) only[go_sem,h208c,q1,q2,aWw,aWk,aC,hs,hD,hE,hF,K6,aWf,q3,q4];rw[aU (fun k=>⟨(jk 6 (.one (.bls 0 0 512 1)::vi w::jk 15 (vi k::jk 17 []))),[yb (Dt s k)]⟩) 8 ?_ ?_]
  ·have hl:=(G0 hs 8 (by decide)).1;have hl2:=Ap hs;have hl3:(Dt s 8).length=512:=hl;have ec:cO (List.map yC (Dt s 8)) 40 (List.replicate 18 (aR.dc (DC.raw (Value.int .u8 0))))=List.map yC (gT (Dt s 8) 40 (zl 18)):=aNp (Dt s 8) 40 18;have ed:gT (Dt s 8) 40 (zl 18)=iO s:=rfl;rw[ed] at ec;have e:hP (List.take 512 (List.map yC (iO s)))=some ((iO s).map u8):=by rw[Al _ _ (by omega),iZ]
   simp (disch:=omega) only[go_sem,h208l0,aWf,hl3,hl2,Int.reduceToNat,ec,e,Le]
  ·rfl
  ·intro k hk;have hl:=(G0 hs k (by omega)).1;have t1:=Ta (G:=G) (bb:=bb) k (by omega);have a1:=aEf (G:=G) (bb:=bb) (Dt s k) (42+2 * k) 512 hl (by omega) (by decide);have hc2:=nL (s:=Dt s k) (a:=42+2 * k) (by omega);have p1:=Lq (G:=G) (bb:=bb) (Dt s k) (jB (Dt s k) (42+2 * k)) ((64 * k+62:Nat):Int) 512 hl (by decide) (by rw[hc2];omega) (byC (Te hB k) _);rw[aW6] at p1;have e:gT (Dt s k) (64 * k+62) (jB (Dt s k) (42+2 * k))=Dt s (k+1):=rfl;rw[e] at p1;have n1:((42+2 * k:Nat):Int)=42+2 * (k:Int):=by omega
   rw[n1] at a1;generalize jB (Dt s k) (42+2 * k)=c at *;generalize 64 * k+62=m at *;generalize Dt s (k+1)=y at *;generalize Dt s k=z at *;simp (disch:=omega) only[go_sem,h208l0,t1,a1,p1]
 ·rw[if_neg c];have hL:0 < (L.length:Int):=by
   have:L≠[]:=fun h=>c (ht.1 h)
   have:=List.length_pos_iff.2 this;omega
  simp (disch:=omega) only[go_sem,h208c,q1,q2,aWf,eq_true hL];rfl
end
section
variable {G:aF} {bb:Bool}
section
variable {B:aO}
theorem Pn(p:bF->Bool)(f:Nat)(hf:∀ r:bF,EV G (Tb B) f [r.v] []=some (vb (p r),[]))(l:List bF)(hl:l.length<=1000000):
  EV G (Tb B) 163 [gF l,.one (.fn f [])] []=some (vi (if ix (fun k=>p (l.getD k ⟨0,0⟩)=true) l.length=l.length then -1 else (ix (fun k=>p (l.getD k ⟨0,0⟩)=true) l.length:Nat)),[]):=by
 refine aA rfl ?_;simp (disch:=omega) only[go_sem,h163c,aWf];rw[jH (fun k=>⟨(gF l::.one (.fn f [])::jk 5 (vi l.length::vi k::jk 10 [])),[]⟩) (fun k=>p (l.getD k ⟨0,0⟩)=true) l.length ?_ ?_]
 rotate_left
 ·rfl
 ·intro k hk hn;have h1:=hn k (aWj _);have h2:=hf l[k];rw[C3 l k hk] at h1;simp (disch:=omega) only[go_sem,h163l0,aWf,bF.e,h2,h1]
 obtain⟨hk,hp,hn⟩:=bZ (fun k=>p (l.getD k ⟨0,0⟩)=true) l.length
 generalize ix (fun k=>p (l.getD k ⟨0,0⟩)=true) l.length=k at *
 rcases hp with rfl | ⟨hk',hp⟩
 ·simp (disch:=omega) only[go_sem,h163l0,aWf]
 ·have h2:=hf l[k];rw[C3 l k hk'] at hp;rw[if_neg (by omega)];simp (disch:=omega) only[go_sem,h163l0,aWf,bF.e,h2,hp]
end
theorem Wr(l:List bF)(hl:l.length<=1000000):EV G (Tb (bs bb)) 219 [gF l] []=some (.one (.bld 0 l.length),[.arr 0 2 (l.map bF.e)]):=by
 refine iI rfl ?_;show (if fM 2 (l.map bF.e)=true/\(l.map bF.e).length * 16<=140737488355328 then some (AV.one (.bld 0 (l.map bF.e).length),[aD.arr 0 2 (l.map bF.e)]) else none)=_
 rw[if_pos ⟨Wg l,by rw[aWf];omega⟩,aWf]
theorem aIP(a:aK)(hl:a.rs.length<=1000000):EV G (Tb (bs bb)) 160 [a.v] []=some (a.v,[]):=by
 refine aA rfl ?_;have q:=Sz (G:=G) (B:=bs bb) a.rs hl;simp (disch:=omega) only[go_sem,h160c,q,kP,aWf]
theorem aK.nil_W:aK.nil.W:=⟨lS,lS,aWA _,aWA _,aWA _⟩
end
section
variable {G:aF} {bb:Bool}
end
section
variable {G:aF} {bb:Bool}
abbrev rtv(p:aK × Int):AV:=.tup [p.1.t,.one (.dc (ci p.2))]
end
section
variable {G:aF} {B:aO}
theorem aRN(c:List Int)(x:Int):c.map Gc++[[.raw (.int .i64 x)]]=(c++[x]).map Gc:=by simp[Gc]
end
section
variable {G:aF} {B:aO}
end
section
variable {G:aF} {bb:Bool}
theorem mM{a:aK}(hW:a.W)(h:gU a=0):a.Ok:=by
 unfold gU at h;split at h
 ·exact absurd h (by decide)
 rename_i h1;split at h
 ·exact absurd h (by decide)
 rename_i h2;split at h
 ·exact absurd h (by decide)
 rename_i h3;split at h
 ·rename_i h4;exact absurd h h4
 rename_i h4;exact⟨hW,Classical.not_not.1 h1,by simpa using h2,Classical.not_not.1 h3,Classical.not_not.1 h4⟩
theorem aK.Ok.bd{a:aK}(h:a.Ok):a.Bd:=aK.bd h.w h.ty h.nm h.rg h.e
def fG(a:aK):List Int:=if gU a=0 then tU a else []
theorem Jn(a:aK)(hW:a.W):EV G (Tb (bs bb)) 228 [a.v] []=some (.tup [.one (.dc (.raw (.string (dO (fG a))))),.one (.dc (ci (gU a)))],[]):=by
 refine aA rfl ?_;have q:=Am (G:=G) (bb:=bb) a hW;unfold fG;by_cases c:gU a=0
 ·have q1:=B0 (G:=G) (bb:=bb) a (mM hW c).bd;rw[if_pos c];simp (disch:=omega) only[go_sem,h228c,q,c,q1]
 ·rw[if_neg c];simp (disch:=omega) only[go_sem,h228c,q,c,bD]
theorem sD{a:aK}(hW:a.W):(fG a).length<=440:=by
 unfold fG;by_cases c:gU a=0
 ·rw[if_pos c,lT a (mM hW c).bd];unfold gU at c;split at c
  ·exact absurd c (by decide)
  split at c
  ·exact absurd c (by decide)
  split at c
  ·exact absurd c (by decide)
  split at c
  ·rename_i h4;exact absurd c h4
  split at c
  ·exact absurd c (by decide)
  ·omega
 ·rw[if_neg c];simp
theorem aAu(a:aK)(hW:a.W):EV G (Tb (bs bb)) 246 [a.v] []=some (.tup [.one (.dc (ci (fG a).length)),.one (.dc (ci (gU a)))],[]):=by
 refine aA rfl ?_;have q:=Jn (G:=G) (bb:=bb) a hW;have:=sD hW;simp (disch:=omega) only[go_sem,h246c,q]
end
section
variable {G:aF} {bb:Bool}
theorem aKN(a:aK):EV G (Tb (bs bb)) 195 [a.v] []=some (.agg [.dc (ci a.ty),.dc (.raw (.string (dO a.nm))),.dc (ci a.fi)],[]):=by
 refine aA rfl ?_;simp (disch:=omega) only[go_sem,h195c,bD]
end
end Go.Proofs.YthepfneloomngaaGreatDoor
