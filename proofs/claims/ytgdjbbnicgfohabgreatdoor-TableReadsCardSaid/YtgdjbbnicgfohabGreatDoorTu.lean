/- Part. Conditions: none. -/
import Derived.Test.YtgdjbbnicgfohabGreatDoorVq
namespace Go.Proofs.YtgdjbbnicgfohabGreatDoor
set_option maxHeartbeats 2000000
set_option linter.unusedSimpArgs false
set_option linter.unusedVariables false
set_option maxRecDepth 4000
section
variable {G:aF}{B:aO}
theorem aHm:EV G (Tb B) 222 [vi 7] []=some (vi 128,[]):=by
 refine aB rfl ?_;simp (disch:=first|omega|(simp only[aZB,aZC,aZD,aZA,aA];omega)) only[go_sem,h222c,Int.reduceMul,Int.reduceToNat,Int.reducePow]
theorem aHn:EV G (Tb B) 222 [vi 8] []=some (vi 256,[]):=by
 refine aB rfl ?_;simp (disch:=first|omega|(simp only[aZB,aZC,aZD,aZA,aA];omega)) only[go_sem,h222c,Int.reduceMul,Int.reduceToNat,Int.reducePow]
theorem aA4:EV G (Tb B) 222 [vi 15] []=some (vi 32768,[]):=by
 refine aB rfl ?_;simp (disch:=first|omega|(simp only[aZB,aZC,aZD,aZA,aA];omega)) only[go_sem,h222c,Int.reduceMul,Int.reduceToNat,Int.reducePow]
theorem aA5:EV G (Tb B) 222 [vi 16] []=some (vi 65536,[]):=by
 refine aB rfl ?_;simp (disch:=first|omega|(simp only[aZB,aZC,aZD,aZA,aA];omega)) only[go_sem,h222c,Int.reduceMul,Int.reduceToNat,Int.reducePow]
theorem Uq(l:L Int)(c:aI l)(a:Nat)(d:a+1<=l.length)(f:l.length<=1000000):EV G (Tb B) 85 [sv l,vi a,vi 1] []=some (vi (l[a]'(by omega)),[]):=by
 refine aB rfl ?_;have g:=c _ (aZK (show a<l.length by omega));simp (disch:=first|omega|(simp only[aZB,aZC,aZD,aZA,aA];omega)) only[go_sem,h85c,Int.reduceSub]
 rw[aR (fun k=>⟨(sv l::vi a::jk 5 (vi (tb3 0 (l[a]'(by omega)) 0 k)::vi (tb3 0 (-1) (-1) k)::jk 16 [])),[]⟩) 1 ?_ ?_]
 simp (disch:=first|omega|(simp only[aZB,aZC,aZD,aZA,aA];omega)) only[go_sem,h85l0,Dz]
 rfl;intro k e;have b:k=0:=by omega
 subst b;simp (disch:=first|omega|(simp only[aZB,aZC,aZD,aZA,aA];omega)) only[go_sem,h85l0,aAU,Dz,Int.reduceMul,Int.reduceSub,aZU,Int.add_zero,bAg]
theorem Ur(l:L Int)(b:aI l)(a:Nat)(c:a+2<=l.length)(e:l.length<=1000000):EV G (Tb B) 85 [sv l,vi a,vi 2] []=some (vi ((l[a+1]'(by omega))*256+l[a]'(by omega)),[]):=by
 refine aB rfl ?_;have f:=b _ (aZK (show a<l.length by omega));have g:=b _ (aZK (show a+1<l.length by omega));simp (disch:=first|omega|(simp only[aZB,aZC,aZD,aZA,aA];omega)) only[go_sem,h85c,Int.reduceSub]
 rw[aR (fun k=>⟨(sv l::vi a::jk 5 (vi (tb3 0 (l[a+1]'(by omega)) ((l[a+1]'(by omega))*256+l[a]'(by omega)) k)::vi (tb3 1 0 (-1) k)::jk 16 [])),[]⟩) 2 ?_ ?_]
 simp (disch:=first|omega|(simp only[aZB,aZC,aZD,aZA,aA];omega)) only[go_sem,h85l0,T9]
 rfl;intro k d;rcases (show k=0\/k=1 by omega) with rfl|rfl
 simp (disch:=first|omega|(simp only[aZB,aZC,aZD,aZA,aA];omega)) only[go_sem,h85l0,aAU,Dz,Int.reduceMul,Int.reduceSub,aZU,Int.add_zero,bAg,Int.zero_mul]
 simp (disch:=first|omega|(simp only[aZB,aZC,aZD,aZA,aA];omega)) only[go_sem,h85l0,Dz,T9,Int.reduceMul,Int.reduceSub,aZU,Int.add_zero,bAg]
theorem sV(l:L Int)(f:aI l)(b a:Nat)(j:a=1\/a=2)(h:b+a<=l.length)(i:l.length<=1000000):EV G (Tb B) 179 [sv l,vi b,vi a] []=some (.tup [.one (.dc (ci (dG (l.drop b) a).1)),.one (bC (dG (l.drop b) a).2.1)],[]):=by
 refine aB rfl ?_;have k:=f _ (aZK (show b<l.length by omega));rcases j with rfl|rfl
 have e:=Uq (G:=G) (B:=B) l f b h i;rw[bAv (show b<l.length by omega)];generalize l[b]=x at *;have g:dG (x::List.drop (b+1) l) 1=(nS [x],decide (sz (nS [x])=1),List.drop (b+1) l):=by rw[dG,if_neg (by simp)];rfl
 rw[g];simp only[nS];by_cases c:128<=x;have d:=oZ (G:=G) (B:=B) (x-256) (by omega);have z:=tG (x-256);have q:(((sz (x-256)).toNat:Nat):Int)=sz (x-256):=by omega
 simp (disch:=first|omega|(simp only[aZB,aZC,aZD,aZA,aA];omega)) only[go_sem,h179c,e,d,c,aHm,aHn,Int.reduceMul,Int.reduceSub,Int.natCast_one,bC,aA,q]
 have d:=oZ (G:=G) (B:=B) x (by omega);have z:=tG x;have q:(((sz x).toNat:Nat):Int)=sz x:=by omega
 simp (disch:=first|omega|(simp only[aZB,aZC,aZD,aZA,aA];omega)) only[go_sem,h179c,e,d,c,aHm,aHn,Int.reduceMul,Int.reduceSub,Int.natCast_one,bC,aA,q]
 have e:=Ur (G:=G) (B:=B) l f b h i;have m:=f _ (aZK (show b+1<l.length by omega));rw[bAv (show b<l.length by omega),bAv (show b+1<l.length by omega)];generalize l[b]=x at *;generalize l[b+1]=y at *;have g:dG (x::y::List.drop (b+1+1) l) 2=(nS [x,y],decide (sz (nS [x,y])=2),List.drop (b+1+1) l):=by rw[dG,if_neg (by simp)];rfl
 rw[g];simp only[nS];rw[show ((2:Nat):Int)=2 from rfl]
 by_cases c:32768<=y*256+x;have d:=oZ (G:=G) (B:=B) (y*256+x-65536) (by omega);have z:=tG (y*256+x-65536);have q:(((sz (y*256+x-65536)).toNat:Nat):Int)=sz (y*256+x-65536):=by omega
 simp (disch:=first|omega|(simp only[aZB,aZC,aZD,aZA,aA];omega)) only[go_sem,h179c,e,d,c,aA4,aA5,Int.reduceMul,Int.reduceSub,bC,aA,q]
 have d:=oZ (G:=G) (B:=B) (y*256+x) (by omega);have z:=tG (y*256+x);have q:(((sz (y*256+x)).toNat:Nat):Int)=sz (y*256+x):=by omega
 simp (disch:=first|omega|(simp only[aZB,aZC,aZD,aZA,aA];omega)) only[go_sem,h179c,e,d,c,aA4,aA5,Int.reduceMul,Int.reduceSub,bC,aA,q]
theorem aDs(a h:Int)(t:L Int)(c:¬ ((1<=h % 16/\h % 16<=2)/\h / 16<=2)):(iR a h t).2.1=false:=by
 rw[iR,if_neg c]
theorem Kp{bs:L Int}{a:Nat}(h:bs.length<a):dG bs a=(0,false,bs):=if_pos h
theorem A0{bs:L Int}{a:Nat}(h:a<=bs.length):(dG bs a).2.2=bs.drop a:=by rw[dG,if_neg (by omega)]
theorem P9(a h:Int)(t:L Int)(c:(dG t (h % 16).toNat).2.1=false):(iR a h t).2.1=false:=by
 rw[iR];split;rw[if_pos (Or.inl c)];exact c;rfl
theorem Yj(a h:Int)(t:L Int)(c:(1<=h % 16/\h % 16<=2)/\(0<=h / 16/\h / 16<=2))(f:(t.length:Int)<h % 16+h / 16):(iR a h t).2.1=false:=by
 by_cases e:t.length<(h % 16).toNat;exact P9 _ _ _ (by rw[Kp e]);by_cases b:(dG t (h % 16).toNat).2.1=false;exact P9 _ _ _ b
 rw[iR,if_pos ⟨c.1,c.2.2⟩,if_neg (by
  rintro (d | d)
  ·exact b d
  ·omega)]
 rw[A0 (by omega),Kp (bs:=t.drop (h % 16).toNat) (by rw[aZL];omega)];rfl
theorem aA6(a h:Int)(t:L Int)(c:1<=h % 16/\h % 16<=2)(b:h / 16=0)(d:(h % 16).toNat<=t.length):iR a h t=(⟨-1,(dG t (h % 16).toNat).1⟩,(dG t (h % 16).toNat).2.1,t.drop (h % 16).toNat):=by
 rw[iR,if_pos ⟨c,by omega⟩,if_pos (Or.inr b),A0 d]
theorem aHo(a h:Int)(t:L Int)(c:(1<=h % 16/\h % 16<=2)/\(1<=h / 16/\h / 16<=2))(d:(h % 16).toNat+(h / 16).toNat<=t.length)(b:(dG t (h % 16).toNat).2.1=true):iR a h t=(⟨a+(dG (t.drop (h % 16).toNat) (h / 16).toNat).1,(dG t (h % 16).toNat).1⟩,(dG (t.drop (h % 16).toNat) (h / 16).toNat).2.1&&!decide (a+(dG (t.drop (h % 16).toNat) (h / 16).toNat).1=-1),t.drop ((h % 16).toNat+(h / 16).toNat)):=by
 rw[iR,if_pos ⟨c.1,c.2.2⟩,if_neg (by rw[b];simp;omega),A0 (by omega),A0 (bs:=t.drop (h % 16).toNat) (by rw[aZL];omega),bAE]
theorem Kq(bs:L Int)(a:Nat):(dG bs a).2.2 <:+ bs:=by
 unfold dG;split;exact List.suffix_refl _;exact List.drop_suffix _ _
theorem aHp(a h:Int)(t:L Int):(iR a h t).2.2 <:+ t:=by
 unfold iR;split;split;exact Kq _ _;exact (Kq _ _).trans (Kq _ _);exact List.suffix_refl _
theorem Yk(s:L Int):∀k,(dK s k).bs <:+ s
 |0=>List.suffix_refl _
 | k+1=>by
  have b:=Yk s k;simp only[dK];generalize dK s k=z at b ⊢;obtain⟨bs,a,c⟩:=z;cases bs with
  | nil=>simp[gO]
  | cons h t=>
   simp only[gO];split
   ·exact b
   ·split
    ·exact (aHp a h t).trans ((List.suffix_cons h t).trans b)
    ·exact b
theorem aMb{s bs:L Int}(h:bs <:+ s):s.drop (s.length-bs.length)=bs:=(List.suffix_iff_eq_drop.1 h).symm
theorem Us{s t:L Int}{h:Int}(b:(h::t) <:+ s):∃a,s.length=a+(t.length+1)/\s.length-(h::t).length=a/\s.drop (a+1)=t/\∃e:a<s.length,s[a]=h:=by
 have d:=b.length_le;simp only[aZC] at d;refine⟨s.length-(t.length+1),by omega,rfl,?_,by omega,?_⟩;all_goals
  have c:=aMb b;rw[aZC,bAv (by omega)] at c
 exact (List.cons.inj c).2;exact (List.cons.inj c).1
theorem L9(s:L Int)(o:aI s)(Q:¬ (s.length:Int) > 400)(k:Nat)(A:∀j,j<=k->¬ gO (dK s j)=none):Ls [0,3,0,0] 1 (EC (EV G (Tb B)) G h129l0 ⟨(sv s::jk 3 (.one (.bld 0 (dK s k).out.length)::vi ((s.length-(dK s k).bs.length:Nat))::vi (dK s k).last::jk 106 [])),[.arr 0 2 ((dK s k).out.map aW.e)]⟩)= some ⟨(sv s::jk 3 (.one (.bld 0 (dK s (k+1)).out.length)::vi ((s.length-(dK s (k+1)).bs.length:Nat))::vi (dK s (k+1)).last::jk 106 [])),[.arr 0 2 ((dK s (k+1)).out.map aW.e)]⟩:=by
 obtain⟨E,F,H,v⟩:=Uc s o k (fun j T=>A j (by omega))
 have d:=A k (aZE _);have i:=Yk s k;rw[show dK s (k+1)=(gO (dK s k)).getD (dK s k) from rfl]
 generalize dK s k=z at *;obtain⟨bs,b,P⟩:=z;simp only at d E F H v i ⊢;cases bs with
 |nil=>exact absurd rfl d
 |cons h t=>
  obtain⟨S,J⟩:=jN v;obtain⟨a,R,p,w,I,y⟩:=Us i;rw[p];by_cases c:h=0;simp[gO,c] at d;simp only[gO,if_neg c] at d ⊢;by_cases g:(1<=h % 16/\h % 16<=2)/\h / 16<=2;by_cases D:(t.length:Int)<h % 16+h / 16;rw[Yj b h t ⟨g.1,by omega⟩ D] at d;simp at d;have l:=sV (G:=G) (B:=B) s o (a+1) (h % 16).toNat (by omega) (by omega) (by omega);rw[w,show ((a+1:Nat):Int)=(a:Int)+1 by omega,show (((h % 16).toNat:Nat):Int)=h % 16 by omega] at l;cases f:(dG t (h % 16).toNat).2.1 with
  |false=>rw[P9 b h t f] at d;simp at d
  |true=>
   rw[f] at l;by_cases m:h / 16=0;rw[aA6 b h t g.1 m (by omega),f] at d ⊢;have q:(((s.length-(t.drop (h % 16).toNat).length:Nat)):Int)=(a:Int)+1+h % 16:=by rw[aZL];omega
   generalize (dG t (h % 16).toNat).1=N at *;simp only[if_true,bAm];rw[q];simp (disch:=first|omega|(simp only[aZB,aZC,aZD,aZA,aA];omega)) only[go_sem,h129l0,y,c,g,m,oO,mZ,bN,l,bC,aZU,Dt,aZB,Int.add_zero]
   have u:=sV (G:=G) (B:=B) s o (a+1+(h % 16).toNat) (h / 16).toNat (by omega) (by omega) (by omega);rw[<- bAE,w,show ((a+1+(h % 16).toNat:Nat):Int)=(a:Int)+1+h % 16 by omega,show (((h / 16).toNat:Nat):Int)=h / 16 by omega] at u;rw[aHo b h t ⟨g.1,by omega⟩ (by omega) f] at d ⊢;have q:(((s.length-(t.drop ((h % 16).toNat+(h / 16).toNat)).length:Nat)):Int)=(a:Int)+1+h % 16+h / 16:=by rw[aZL];omega
   have M:=D3 (D0 J (fun x K=>bAb K):aI (t.drop (h % 16).toNat)) (h / 16).toNat
   generalize (dG t (h % 16).toNat).1=N at *;generalize (dG (t.drop (h % 16).toNat) (h / 16).toNat)=C at *;obtain⟨O,r,U⟩:=C;simp only at d u M ⊢;cases r;simp at d;by_cases n:b+O=-1;simp[n] at d;simp only[n,decide_false,aZ6,Bool.and_self,if_true,if_false,bAm];rw[q];simp (disch:=first|omega|(simp only[aZB,aZC,aZD,aZA,aA];omega)) only[go_sem,h129l0,y,c,g,m,n,oO,mZ,bN,l,u,bC,aZU,Dt,aZB]
  rw[aDs b h t g] at d;simp at d
theorem Nu(s:L Int)(n:aI s):EV G (Tb B) 129 [sv s] []=some (.tup [.one (.dc (.slc ((nN s).1.map aW.e))),.one (.dc (ci (nN s).2))],[]):=by
 refine aB rfl ?_;unfold nN;by_cases q:(s.length:Int) > 400;rw[if_pos q];simp (disch:=first|omega|(simp only[aZB,aZC,aZD,aZA,aA];omega)) only[go_sem,h129c,aZN]
 rw[if_neg q];simp (disch:=first|omega|(simp only[aZB,aZC,aZD,aZA,aA];omega)) only[go_sem,h129c]
 rw[dE (fun k=>⟨(sv s::jk 3 (.one (.bld 0 (dK s k).out.length)::vi ((s.length-(dK s k).bs.length:Nat))::vi (dK s k).last::jk 106 [])),[.arr 0 2 ((dK s k).out.map aW.e)]⟩) (fun k=>gO (dK s k)=none) (s.length+1) ?_ ?_]
 obtain⟨S,g,E⟩:=Nk s n;obtain⟨F,H,I,w⟩:=Uc s n _ E;have o:=Yk s (Cj s);rw[show ix (fun k=>gO (dK s k)=none) (s.length+1)=Cj s from rfl]
 generalize dK s (Cj s)=z at *;obtain⟨bs,b,d⟩:=z;simp only at g F H I w o ⊢;cases bs with
 |nil=>
  rw[show qD ⟨[],b,d⟩=([],3) from rfl]
  simp only[aZD,Nat.sub_zero];simp (disch:=first|omega|(simp only[aZB,aZC,aZD,aZA,aA];omega)) only[go_sem,h129l0,aZN]
 |cons h t=>
  obtain⟨T,N⟩:=jN w;obtain⟨a,y,u,A,J,i⟩:=Us o;rw[u];by_cases c:h=0;subst c
  match t with
  |[]=>
   simp only[aZD] at y;by_cases f:(mT d).2=0;rw[show qD ⟨[0],b,d⟩=(d,0) by simp[qD,Bm,f]];simp (disch:=first|omega|(simp only[aZB,aZC,aZD,aZA,aA];omega)) only[go_sem,h129l0,i,aGM,f,kF,aZU]
   rw[show qD ⟨[0],b,d⟩=([],(mT d).2) by simp[qD,Bm,f]];simp (disch:=first|omega|(simp only[aZB,aZC,aZD,aZA,aA];omega)) only[go_sem,h129l0,i,aGM,f,kF,aZN,aZU]
  |x::t=>
   simp only[aZC] at y;rw[show qD ⟨0::x::t,b,d⟩=([],3) by simp[qD,Bm]];simp (disch:=first|omega|(simp only[aZB,aZC,aZD,aZA,aA];omega)) only[go_sem,h129l0,i,aZN,aZU]
  simp only[gO,if_neg c] at g;rw[show qD ⟨h::t,b,d⟩=([],3) by simp[qD,Bm,c]];have g:(iR b h t).2.1=false:=by
   cases M:(iR b h t).2.1 with
   |false=>rfl
   |true=>rw[M] at g;simp at g
  by_cases l:1<=h % 16/\h % 16<=2;by_cases f:h / 16<=2;by_cases R:(t.length:Int)<h % 16+h / 16;simp (disch:=first|omega|(simp only[aZB,aZC,aZD,aZA,aA];omega)) only[go_sem,h129l0,i,c,l,f,oO,mZ,bN,aZU,aZN]
  have m:=sV (G:=G) (B:=B) s n (a+1) (h % 16).toNat (by omega) (by omega) (by omega);rw[A,show ((a+1:Nat):Int)=(a:Int)+1 by omega,show (((h % 16).toNat:Nat):Int)=h % 16 by omega] at m;cases j:(dG t (h % 16).toNat).2.1 with
  |false=>
   rw[j] at m;simp (disch:=first|omega|(simp only[aZB,aZC,aZD,aZA,aA];omega)) only[go_sem,h129l0,i,c,l,f,oO,mZ,bN,m,bC,aZU,aZN]
  |true=>
   rw[j] at m;by_cases r:h / 16=0;rw[aA6 b h t l r (by omega),j] at g;cases g;have p:=sV (G:=G) (B:=B) s n (a+1+(h % 16).toNat) (h / 16).toNat (by omega) (by omega) (by omega);rw[<- bAE,A,show ((a+1+(h % 16).toNat:Nat):Int)=(a:Int)+1+h % 16 by omega,show (((h / 16).toNat:Nat):Int)=h / 16 by omega] at p;rw[aHo b h t ⟨l,by omega⟩ (by omega) j] at g;have P:=D3 (D0 N (fun x O=>bAb O):aI (t.drop (h % 16).toNat)) (h / 16).toNat
   generalize (dG t (h % 16).toNat).1=V at *;generalize (dG (t.drop (h % 16).toNat) (h / 16).toNat)=C at *;obtain⟨Q,v,W⟩:=C;simp only at g p P;cases v;simp (disch:=first|omega|(simp only[aZB,aZC,aZD,aZA,aA];omega)) only[go_sem,h129l0,i,c,l,f,r,oO,mZ,bN,m,p,bC,aZU,aZN]
   have D:b+Q=-1:=by simpa using g
   simp (disch:=first|omega|(simp only[aZB,aZC,aZD,aZA,aA];omega)) only[go_sem,h129l0,i,c,l,f,r,D,oO,mZ,bN,m,p,bC,aZU,aZN]
  simp (disch:=first|omega|(simp only[aZB,aZC,aZD,aZA,aA];omega)) only[go_sem,h129l0,i,c,l,f,oO,mZ,bN,aZU,aZN]
  simp (disch:=first|omega|(simp only[aZB,aZC,aZD,aZA,aA];omega)) only[go_sem,h129l0,i,c,l,oO,mZ,bN,aZU,aZN]
 rw[show s.length-(dK s 0).bs.length=0 from bAs _];rfl
 intro k U K;exact L9 s n q k K
end
section
variable {G:aF}{bb:Bool}
theorem aA7{p:Nat->Prop}{n m:Nat}(f:m<n)(c:p m)(d:∀j,j<m->¬ p j):ix p n=m:=by
 obtain⟨e,a,b⟩:=bD p n;rcases Nat.lt_trichotomy (ix p n) m with h|h|h;rcases a with a|⟨_,a⟩;omega;exact absurd a (d _ h);exact h;exact absurd c (b _ h)
theorem uY(n:Int):sz n=1\/sz n=2:=by unfold sz;split<;>simp
theorem aVz(n:Int)(h:-128<=n/\n<=127):nS (bI n 1)=n:=by
 show nS [n % 256]=n;simp only[nS];split<;>omega
theorem aVA(n:Int)(h:-32768<=n/\n<=32767):nS (bI n 2)=n:=by
 show nS [n % 256,n / 256 % 256]=n;simp only[nS];split<;>omega
theorem Qa(n:Int)(h:-32768<=n/\n<=32767)(a:L Int):dG (bI n (sz n).toNat++a) (sz n).toNat=(n,true,a):=by
 unfold dG;rw[if_neg (by rw[aZB,aA];omega),bAT (aA _ _),List.drop_left' (aA _ _)];have e:nS (bI n (sz n).toNat)=n:=by
  unfold sz;split;exact aVz n (by assumption);exact aVA n h
 rw[e];have:sz n=((sz n).toNat:Int):=by have:=uY n;omega
 rw[decide_eq_true this]
theorem Kr(t:L Int)(a:Nat)(h:t.length<a):(dG t a).2.1=false:=by
 unfold dG;rw[if_pos h]
def tR(a:Int)(r:aW):Int:=if r.s=-1 then sz r.n else 16*sz (r.s-a)+sz r.n
def D7(a:Int)(r:aW):L Int:=if r.s=-1 then bI r.n (sz r.n).toNat else bI r.n (sz r.n).toNat++bI (r.s-a) (sz (r.s-a)).toNat
theorem sW(a:Int)(r:aW):nH a r=tR a r::D7 a r:=by
 unfold nH tR D7;split<;>rfl
theorem Qb(a:Int)(r:aW):tR a r≠0:=by
 have b:=uY r.n;have c:=uY (r.s-a);unfold tR;split<;>omega
theorem Yl{r:aW}(h:bO r.s r.n=0):(1<=r.n/\r.n<=4096)/\(r.s=-1\/0<=r.s/\r.s<=511):=by
 rcases lL h with⟨a,b,h3⟩|⟨s,n,a,b,h3,h4⟩;exact⟨by omega,by omega⟩
 exact⟨by omega,by omega⟩
theorem aHq{a:Int}{r:aW}(g:bO r.s r.n=0)(k:0<=a/\a<=511)(b:L Int):iR a (tR a r) (D7 a r++b)=(r,true,b):=by
 obtain⟨⟨h,i⟩,j⟩:=Yl g;have l:=uY r.n;have m:=uY (r.s-a);have f:=Qa r.n (by omega);unfold tR D7;by_cases c:r.s=-1;rw[if_pos c,if_pos c];have d:sz r.n % 16=sz r.n:=by omega
 have e:sz r.n / 16=0:=by omega
 unfold iR;rw[d,e,if_pos (by omega),if_pos (.inr rfl),f b];simp only;cases r;simp only at c;rw[c];rw[if_neg c,if_neg c];have d:(16*sz (r.s-a)+sz r.n) % 16=sz r.n:=by omega
 have e:(16*sz (r.s-a)+sz r.n) / 16=sz (r.s-a):=by omega
 unfold iR;rw[d,e,if_pos (by omega),aZS,f,if_neg (by simp;omega)];simp only;rw[Qa (r.s-a) (by omega) b];simp only;rw[show a+(r.s-a)=r.s by omega,decide_eq_false c];cases r;rfl
theorem aHr{a:Int}{r:aW}(g:bO r.s r.n=0)(o:0<=a/\a<=511)(m:Nat)(b:m<(D7 a r).length):(iR a (tR a r) ((D7 a r).take m)).2.1=false:=by
 obtain⟨⟨j,k⟩,l⟩:=Yl g;have p:=uY r.n;have q:=uY (r.s-a);have i:=Qa r.n (by omega);unfold D7 at b ⊢;unfold tR;by_cases c:r.s=-1;rw[if_pos c] at b ⊢;rw[if_pos c];rw[aA] at b;have d:sz r.n % 16=sz r.n:=by omega
 have e:sz r.n / 16=0:=by omega
 unfold iR;rw[d,e,if_pos (by omega),if_pos (.inr rfl)];exact Kr _ _ (by rw[aZF,aA];omega);rw[if_neg c] at b ⊢;rw[if_neg c];rw[aZB,aA,aA] at b;have d:(16*sz (r.s-a)+sz r.n) % 16=sz r.n:=by omega
 have e:(16*sz (r.s-a)+sz r.n) / 16=sz (r.s-a):=by omega
 unfold iR;rw[d,e,if_pos (by omega)];by_cases h:m<(sz r.n).toNat;have f:=Kr ((bI r.n (sz r.n).toNat++bI (r.s-a) (sz (r.s-a)).toNat).take m) (sz r.n).toNat (by rw[aZF];omega);rw[if_pos (.inl f)];exact f;rw[List.take_append,aA,bAc (by rw[aA];omega),i,if_neg (by simp;omega)];simp only;rw[Kr _ _ (by rw[aZF,aA];omega)];rfl
def H4(a:Int)(r:aW):Int:=if r.s=-1 then a else r.s
theorem Nv{a:Int}{r:aW}(e:bO r.s r.n=0)(d:0<=a/\a<=511)(b:L Int)(c:L aW):gO ⟨nH a r++b,a,c⟩=some ⟨b,H4 a r,c++[r]⟩:=by
 rw[sW];unfold gO;simp only[aZT];rw[if_neg (Qb _ _),aHq e d];simp only[if_true];rfl
def dR(a:Int):L aW->L Int
 |[]=>[]
 |r::l=>nH a r++dR (H4 a r) l
theorem Fh(l:L aW):(jH l).1=dR 0 l:=by
 have b:∀(l:L aW)(p:L Int)(a:Int),(l.foldl est (p,a)).1=p++dR a l:=by
  intro l
  induction l with
  |nil=>intro p a;simp[dR]
  |cons r l c=>
   intro p a;have e:est (p,a) r=(p++nH a r,H4 a r):=rfl;rw[bAU,e,c];simp only[dR,aZS]
 have:=b l [] 0;simpa[jH] using this
def dM:Nat->DS->DS
 |0,z=>z
 |k+1,z=>(gO (dM k z)).getD (dM k z)
theorem Ym(s:L Int):∀k,dK s k=dM k ⟨s,0,[]⟩
 |0=>rfl
 |k+1=>by rw[dK,dM,Ym s k]
theorem A1{z a:DS}(h:gO z=some a):∀k,dM (k+1) z=dM k a
 |0=>by show (gO z).getD z=a;rw[h];rfl
 |k+1=>by rw[dM,A1 h k,dM]
theorem aHs{a:Int}{r:aW}(b:bO r.s r.n=0)(c:0<=a/\a<=511):0<=H4 a r/\H4 a r<=511:=by
 have:=(Yl b).2;unfold H4;split<;>omega
theorem aHt:∀(l:L aW)(a:Int)(c:L aW)(b:L Int),(∀r∈l,bO r.s r.n=0)->0<=a/\a<=511-> (∃x,dM l.length ⟨dR a l++b,a,c⟩=⟨b,x,c++l⟩)/\∀j,j<l.length->¬ gO (dM j ⟨dR a l++b,a,c⟩)=none
 |[],a,c,b,_,_=>⟨⟨a,by simp[dM,dR]⟩,fun j d=>by simp at d⟩
 | r::l,a,c,b,h,k=>by
  have m:=h r aZV;have f:=Nv m k (dR (H4 a r) l++b) c;obtain⟨⟨x,o⟩,p⟩:=aHt l (H4 a r) (c++[r]) b (fun q t=>h q (aZ2 _ t)) (aHs m k)
  have e:dR a (r::l)++b=nH a r++(dR (H4 a r) l++b):=by rw[dR,aZS]
  rw[e];refine⟨⟨x, ?_⟩,fun j d=>?_⟩
  ·show dM (l.length+1) _=_;rw[A1 f,o,aZS];rfl
  ·cases j with
   | zero=>
    intro g;have i:gO ⟨nH a r++(dR (H4 a r) l++b),a,c⟩=none:=g;rw[f] at i;cases i
   | succ j=>rw[A1 f];exact p j (by simpa using d)
theorem Ut{l:L aW}(h:(mT l).2=0):(dR 0 l).length<=320:=by
 rw[<- Fh];exact Kc h
theorem Qd{l:L aW}(h:(mT l).2=0):nN ((jH l).1++[0])=(l,0):=by
 have d:=Ut h;obtain⟨⟨x,c⟩,e⟩:=aHt l 0 [] [0] (Jw h) (by omega);have k:=oH h;have b:l.length<(dR 0 l++[0]).length+1:=by
  have:∀(l:L aW)(a:Int),l.length<=(dR a l).length:=by
   intro l
   induction l with
   |nil=>intro _;simp
   |cons r l i=>intro a;have:=i (H4 a r);simp only[dR,sW,aZB,aZC];omega
  have:=this l 0;simp only[aZB,aZC,aZD];omega
 rw[Fh];have f:Cj (dR 0 l++[0])=l.length:=by
  unfold Cj;refine aA7 b ?_ (fun j g=>?_)
  rw[Ym,c];rfl;rw[Ym];exact e j g
 unfold nN;rw[if_neg (by simp only[aZB,aZC,aZD];omega),f,Ym,c];unfold qD;rw[if_neg (by simp[Bm]),if_neg (by simp only[aZP];omega)];rfl
theorem Nw:∀(l:L aW)(a:Int)(b:L aW)(m:Nat),(∀r∈l,bO r.s r.n=0)->0<=a/\a<=511->m<(dR a l).length+1-> ∃k,k<=m/\gO (dM k ⟨(dR a l++[0]).take m,a,b⟩)=none/\(∀j,j<k->¬ gO (dM j ⟨(dR a l++[0]).take m,a,b⟩)=none)/\Bm (dM k ⟨(dR a l++[0]).take m,a,b⟩).bs≠0
 | [],a,b,m,_,_,p=>by
  have:m=0:=by simp[dR] at p;omega
  subst this;exact⟨0,aZE _,rfl,fun j i=>by omega,by simp[dM,Bm]⟩
 | r::l,a,b,m,h,o,p=>by
  have t:=h r aZV;have e:dR a (r::l)++[0]=nH a r++(dR (H4 a r) l++[0]):=by rw[dR,aZS]
  rw[e];rw[dR,aZB] at p;by_cases f:(nH a r).length<=m
  ·have v:0 < (nH a r).length:=by rw[sW];simp
   have d:(nH a r++(dR (H4 a r) l++[0])).take m=nH a r++(dR (H4 a r) l++[0]).take (m - (nH a r).length):=by
    rw[List.take_append,bAc f]
   rw[d];have c:=Nv t o ((dR (H4 a r) l++[0]).take (m - (nH a r).length)) b;obtain⟨k,k0,y,z,A⟩:=Nw l (H4 a r) (b++[r]) (m - (nH a r).length) (fun q x=>h q (aZ2 _ x)) (aHs t o) (by omega)
   refine⟨k+1,by omega,by rw[A1 c];exact y,fun j i=>?_,by rw[A1 c];exact A⟩
   cases j with
   | zero=>
    intro g;have u:gO ⟨nH a r++(dR (H4 a r) l++[0]).take (m - (nH a r).length),a,b⟩=none:=g;rw[c] at u;cases u
   | succ j=>rw[A1 c];exact z j (by omega)
  ·have d:(nH a r++(dR (H4 a r) l++[0])).take m=(nH a r).take m:=by
    rw[bAZ (by omega)]
   rw[d];cases m with
   | zero=>exact⟨0,aZE _,rfl,fun j i=>by omega,by simp[dM,Bm]⟩
   | succ m=>
    rw[sW] at f ⊢;rw[bA4];have hf:=aHr t o m (by simp only[aZC] at f;omega);refine⟨0,by omega, ?_,fun j i=>by omega, ?_⟩
    ·show (if tR a r=0 then none else if (iR a (tR a r) ((D7 a r).take m)).2.1=true then some _ else none)=none
     rw[if_neg (Qb _ _),hf,if_neg (by decide)]
    ·have w:Bm (tR a r::(D7 a r).take m)=3:=by
      unfold Bm;exact if_neg (fun g=>Qb _ _ g.1)
     show Bm (tR a r::(D7 a r).take m)≠0;rw[w]
     decide
theorem aQU{l:L aW}(h:(mT l).2=0)(m:Nat)(b:m<(jH l).1.length+1):(nN (((jH l).1++[0]).take m)).2≠0:=by
 have a:=Ut h;rw[Fh] at b ⊢;obtain⟨k,k0,e,f,g⟩:=Nw l 0 [] m (Jw h) (by omega) b;have c:Cj ((dR 0 l++[0]).take m)=k:=by
  unfold Cj;refine aA7 (by rw[aZF,aZB];simp only[aZC,aZD];omega) ?_ (fun j d=>?_)
  rw[Ym];exact e;rw[Ym];exact f j d
 unfold nN;rw[if_neg (by rw[aZF];simp only[aZB,aZC,aZD];omega),c,Ym];unfold qD;rw[if_pos g];decide
end
section
variable {G:aF}{bb:Bool}
theorem A2(p L:List Int)(n:Int)(a:Nat)(h:p.length<=a):∀k,aZ (p++L) a n k=p++aZ L (a-p.length) n k
 |0=>rfl
 | k+1=>by
  rw[aZ,A2 p L n a h k,aZ,List.set_append_right _ _ (by omega)];congr 2;omega
theorem Fi(z X:L Int)(n:Int):∀k,z.length=k->aZ (z++X) 0 n k=bI n k++X:=by
 have b:∀(k:Nat)(z X:L Int),z.length=k->aZ (z++X) 0 n k=bI n k++X:=by
  intro k
  induction k with
  |zero=>
   intro z X h;have:z=[]:=List.length_eq_zero_iff.1 h;subst this;rfl
  |succ k d=>
   intro z X h;obtain⟨a,x,rfl⟩:∃a x,z=a++[x]:=by
    rcases List.eq_nil_or_concat z with rfl|⟨a,x,e⟩;simp at h;exact⟨a,x,by rw[e,List.concat_eq_append]⟩
   have c:a.length=k:=by simpa using h
   rw[aZ,aZS,d a ([x]++X) c,bAn,List.set_append_right _ _ (by rw[aA];omega),aA,bAs,bI,aZS];rfl
 exact fun k h=>b k z X h
theorem Ks(p L s:List Int)(a:Nat)(h:p.length<=a):iZ (p++L) a s=p++iZ L (a-p.length) s:=by
 unfold iZ;rw[List.take_append,bAc h,List.drop_append,List.drop_of_length_le (by omega),aZP,aZS,aZS];rw[show a+s.length-p.length=a-p.length+s.length by omega,aZS]
theorem aHu(z X s:L Int)(h:z.length=s.length):iZ (z++X) 0 s=s++X:=by
 unfold iZ;rw[bAQ,aZP,bAn,List.drop_left' h]
theorem Qf(z X s:L Int)(a:Nat)(b:a=0)(h:z.length=s.length):iZ (z++X) a s=s++X:=by subst b;exact aHu z X s h
theorem Yn(a b:Nat):zl (a+b)=zl a++zl b:=by unfold zl;rw[List.replicate_append_replicate]
structure aJ.Dc (a:aJ):Prop where
 ty:0<=a.ty/\a.ty<4294967296
 nm:aI a.nm
 nl:a.nm.length<=255
 id:0<=a.id/\a.id<65536
 fl:0<=a.fl/\a.fl<65536
 va:aI a.va
 vl:a.va.length<=1000
 t:a.res=true->a.rs=[]/\a.fi=0/\a.al=0/\a.sz=0/\a.vd=0
 f:a.res=false->a.va=[]/\(mT a.rs).2=0/\(0<=a.fi/\a.fi<4294967296)/\(0<=a.al/\a.al<4294967296)/\(0<=a.sz/\a.sz<4294967296)/\(0<=a.vd/\a.vd<4294967296)
theorem aJ.Dc.bd{a:aJ}(h:a.Dc):a.Bd:=by
 have m:=h.ty;have n:=h.nl;have h3:=h.id;have h4:=h.fl;have h5:=h.vl;cases c:a.res with
 |true=>
  obtain⟨b,d,e,g,i⟩:=h.t c;have:gQ a.rs=0:=by rw[b];rfl
  exact⟨h.nm,h.va,by omega,by omega,by rw[b];simp,by omega,by omega,by omega,by omega,by omega,by omega,by omega,by omega⟩
 |false=>
  obtain⟨b,d,e,g,i,o⟩:=h.f c;obtain⟨j,k,l⟩:=Kb d;exact⟨h.nm,h.va,by omega,by omega,by omega,by omega,by omega,by omega,by omega,by omega,by omega,by omega,by omega⟩
theorem aJ.Ok.dc{a:aJ}(h:a.Ok):a.Dc:=by
 have l:=P3 h.ty;have m:=Hz h.nm;obtain⟨n,o⟩:=h.rg;have h4:=h.e;unfold tQ at h4;refine⟨by omega,h.w.nm,by omega,by omega,by omega,h.w.va,?_,fun b=>?_,fun b=>?_⟩
 split at h4;have:=P4 h4;omega;have:=(Fa h4).2.1;rw[this];simp;rw[if_pos b] at h4;obtain⟨c,d,f,g,i,_⟩:=P4 h4;exact⟨c,d,f,g,i⟩;rw[if_neg (by rw[b];decide)] at h4;obtain⟨p,j,q,k,r,s,t,u,r9⟩:=Fa h4;exact⟨j,k,by omega,by omega,by omega,by omega⟩
theorem uZ{a:aJ}(h:a.Dc):T6 a=qU a:=by
 unfold T6 qU;cases b:a.res with
 |true=>rfl
 |false=>
  rw[if_neg (by decide),if_neg (by decide)];obtain⟨_,c,_⟩:=h.f b;unfold Ch;rw[if_neg (by rw[Nd];simpa using c)]
theorem aA8(x:Int):bI (x % 4294967296) 4=bI x 4:=by
 simp only[bI,Gg,aZP,aZT];congr 1;omega;congr 1;omega;congr 1;omega;congr 1;omega
theorem Gk(a:aJ):cX a % 8=0/\sS a+a.nm.length<=cX a/\cX a+(qU a).length<=fA a/\fA a % 8=0/\fA a<=cX a+(qU a).length+7:=by
 unfold fA cX;omega
theorem aHv(X N u:Nat)(h:N=X+8+u)(a:N % 8=0)(b:u<=7):(X+7) / 8*8-X=u:=by omega
theorem aVB{a:aJ}(h:a.Dc)(c:a.res=true):tP a=gR a:=by
 obtain⟨r,l,m,s,n⟩:=Gk a;have k:=uZ h;have d:sS a=24:=by simp[sS,c]
 have b:qU a=a.va:=by simp[qU,c]
 rw[d] at l;rw[b] at m n;obtain⟨g,p⟩:∃g,cX a=24+(a.nm.length+g):=⟨cX a-24-a.nm.length,by omega⟩;obtain⟨u,q⟩:∃u,fA a=cX a+(a.va.length+u):=⟨fA a-cX a-a.va.length,by omega⟩;have i:fA a=4+(4+(1+(1+(2+(2+(2+(4+(4+(a.nm.length+(g+(a.va.length+u))))))))))):=by omega
 have j:zl (fA a)=zl 4++(zl 4++(zl 1++(zl 1++(zl 2++(zl 2++(zl 2++(zl 4++(zl 4++(zl a.nm.length++(zl g++(zl a.va.length++zl u))))))))))):=by
  conv=>lhs;rw[i]
  simp only[Yn]
 unfold tP T0 Tz;rw[if_pos c,j,d,b];simp (disch:=first|omega|(simp only[aS,aA]<;>omega)|fail) only[A2,Fi,aS,aA,Nat.reduceSub,bAs]
 simp (disch:=first|omega|(simp only[aS,aA]<;>omega)|fail) only[Ks,Qf,aS,aA,Nat.reduceSub,bAs]
 unfold gR uV L5 Bl uU;rw[if_pos c,if_pos c,d,k,b];simp only[aZS];simp only[aZB,aA,aZI];have o:zl 1=bI 0 1:=rfl;have e:cX a-24-a.nm.length=g:=by omega
 rw[e];have f:(1+(1+(2+(2+(2+(4+(4+(a.nm.length+(g+a.va.length))))))))+7) / 8*8-(1+(1+(2+(2+(2+(4+(4+(a.nm.length+(g+a.va.length)))))))))=u:=by omega
 rw[f];rfl
theorem aVC{a:aJ}(h:a.Dc)(i:a.res=false):tP a=gR a:=by
 obtain⟨q,l,r,m,s⟩:=Gk a;have b:¬ a.res=true:=by rw[i];decide
 have k:=uZ h;have f:sS a=40:=by simp[sS,i]
 rw[f] at l;obtain⟨g,o⟩:∃g,cX a=40+(a.nm.length+g):=⟨cX a-40-a.nm.length,by omega⟩;obtain⟨u,p⟩:∃u,fA a=cX a+((qU a).length+u):=⟨fA a-cX a-(qU a).length,by omega⟩;have d:fA a=4+(4+(1+(1+(2+(2+(2+(4+(4+(2+(2+(4+(4+(4+(a.nm.length+(g+((qU a).length+u)))))))))))))))):=by omega
 have e:zl (fA a)=zl 4++(zl 4++(zl 1++(zl 1++(zl 2++(zl 2++(zl 2++(zl 4++(zl 4++(zl 2++(zl 2++(zl 4++(zl 4++(zl 4++(zl a.nm.length++(zl g++(zl (qU a).length++zl u)))))))))))))))):=by
  conv=>lhs;rw[d]
  simp only[Yn]
 unfold tP T0 Tz;rw[if_neg b,e,f];simp (disch:=first|omega|(simp only[aS,aA]<;>omega)|fail) only[A2,Fi,aS,aA,Nat.reduceSub,bAs]
 simp (disch:=first|omega|(simp only[aS,aA]<;>omega)|fail) only[Ks,Qf,aS,aA,Nat.reduceSub,bAs]
 unfold gR uV L5 Bl uU;rw[if_neg b,if_neg b,f,k,aA8];simp only[aZS];simp only[aZB,aA,aZI];have n:zl 1=bI 0 1:=rfl;have c:cX a-40-a.nm.length=g:=by omega
 rw[c];have j:(1+(1+(2+(2+(2+(4+(4+(2+(2+(4+(4+(4+(a.nm.length+(g+(qU a).length)))))))))))))+7) / 8*8-(1+(1+(2+(2+(2+(4+(4+(2+(2+(4+(4+(4+(a.nm.length+(g+(qU a).length))))))))))))))=u:=aHv _ (fA a) u (by clear e d c;omega) m (by clear e d c;omega);rw[j];rfl
theorem Aa{a:aJ}(h:a.Dc):tP a=gR a:=by
 cases b:a.res with
 |true=>exact aVB h b
 |false=>exact aVC h b
end
section
variable {G:aF}{bb:Bool}
def gv:L Int->Int
 |[]=>0
 |b::t=>b+256*gv t
def gL(l:L Int)(a k:Nat):Int:=gv ((l.drop a).take k)
theorem aHw(l:L Int)(a k:Nat)(h:a<l.length):gL l a (k+1)=l[a]+256*gL l (a+1) k:=by
 unfold gL;rw[bAv h,bA4,gv]
theorem aA9:∀(l:L Int)(m:Nat),aI l->l.length<=m->0<=gv l/\gv l<256 ^ m
 | [],m,_,_=>by
  have:(0:Int) < 256 ^ m:=Int.pow_pos (by decide);simp only[gv];omega
 |b::t,0,_,h=>by simp at h
 | b::t,m+1,a,h=>by
  obtain⟨d,c⟩:=jN a;have e:=aA9 t m c (by simpa using h);rw[gv,Int.pow_succ];omega
theorem Ab{l:L Int}(h:aI l)(a k:Nat):aI ((l.drop a).take k):=fun b c=>h b (bAb (aZ0 c))
theorem kV{l:L Int}(h:aI l)(a k:Nat)(c:k<=4):0<=gL l a k/\gL l a k<4294967296:=by
 have b:=aA9 ((l.drop a).take k) k (Ab h a k) (by rw[aZF];omega);unfold gL;rcases (show k=0\/k=1\/k=2\/k=3\/k=4 by omega) with rfl|rfl|rfl|rfl|rfl<;>simp only[Int.reducePow] at b<;>omega
theorem Ck{l:L Int}(h:aI l)(a:Nat):0<=gL l a 2/\gL l a 2<65536:=by
 have b:=aA9 ((l.drop a).take 2) 2 (Ab h a 2) (by rw[aZF];omega);unfold gL;simp only[Int.reducePow] at b;omega
theorem Qg{l:L Int}(h:aI l)(a:Nat):0<=gL l a 1/\gL l a 1<256:=by
 have b:=aA9 ((l.drop a).take 1) 1 (Ab h a 1) (by rw[aZF];omega);unfold gL;simp only[Int.reducePow] at b;omega
theorem orL(n b:Int)(e:0<=n/\n<=4294967296)(d:0<=b/\b<=255):Xv .i64 (n*256) b=n*256+b:=by
 obtain⟨n,rfl⟩:=bAH e.1;obtain⟨b,rfl⟩:=bAH d.1;have a:((n:Int)*256)=((n*256:Nat):Int):=by simp
 have c:n*256 ||| b=n*256+b:=by
  have:=Nat.shiftLeft_add_eq_or_of_lt (show b<2 ^ 8 by omega) n;rw[Nat.shiftLeft_eq] at this;exact this.symm
 rw[Xv,a,J2,BitVec.ofInt_natCast,BitVec.ofInt_natCast,BitVec.toNat_or,BitVec.toNat_ofNat,BitVec.toNat_ofNat,bAy (by omega),bAy (by omega),c,Bv (by omega)];simp
theorem cW(l:L Int)(c:aI l)(a k:Nat)(m:a+k<=l.length)(o:k<=4)(p:l.length<=1000000):EV G (Tb (bs bb)) 85 [sv l,vi a,vi k] []=some (vi (gL l a k),[]):=by
 refine aB rfl ?_;simp (disch:=first|omega|(simp only[aZB,aZC,aZD,aZA,aA];omega)) only[go_sem,h85c]
 rw[aR (fun j=>⟨(sv l::vi a::jk 5 (vi (gL l (a+k-j) j)::vi ((k:Int)-1-j)::jk 16 [])),[]⟩) k ?_ ?_]
 have e:a+k-k=a:=by omega
 have b:¬ 0<=(k:Int)-1-(k:Int):=by omega
 simp (disch:=first|omega|(simp only[aZB,aZC,aZD,aZA,aA];omega)) only[go_sem,h85l0,e,b]
 simp[gL,gv,jk];intro j n;have i:=c _ (aZK (show a+k-1-j<l.length by omega));have g:=kV c (a+k-j) j (by omega);have d:gL l (a+k-(j+1)) (j+1)=gL l (a+k-j) j*256+l[a+k-1-j]'(by omega):=by
  have:a+k-(j+1)<l.length:=by omega
  rw[aHw l _ j this,show a+k-(j+1)+1=a+k-j by omega,Int.mul_comm];rw[Int.add_comm];congr 1;congr 1;omega
 have b:0<=(k:Int)-1-(j:Int):=by omega
 rw[d];generalize gL l (a+k-j) j=z at g ⊢;have f:((a:Int)+((k:Int)-1-(j:Int))).toNat=a+k-1-j:=by omega
 have h:=iA _ i;simp (disch:=first|omega|(simp only[aZB,aZC,aZD,aZA,aA];omega)) only[go_sem,h85l0,eq_true b,aZU,f,h]
 rw[show (k:Int)-1-(j:Int)-1=(k:Int)-1-((j:Int)+1) by omega]
theorem Gl(l:L Int)(c:aI l)(a k:Nat)(m:a+k<=l.length)(p:k<=4)(q:l.length<=1000000):EV G (Tb (bs bb)) 219 [sv l,vi a,vi k] []=some (vi (gL l a k),[]):=by
 refine aB rfl ?_;simp (disch:=first|omega|(simp only[aZB,aZC,aZD,aZA,aA];omega)) only[go_sem,h219c]
 rw[aR (fun j=>⟨(sv l::vi a::jk 5 (vi (gL l (a+k-j) j)::vi ((k:Int)-1-j)::jk 16 [])),[]⟩) k ?_ ?_]
 have e:a+k-k=a:=by omega
 have b:¬ 0<=(k:Int)-1-(k:Int):=by omega
 simp (disch:=first|omega|(simp only[aZB,aZC,aZD,aZA,aA];omega)) only[go_sem,h219l0,e,b]
 simp[gL,gv,jk];intro j n;have d:=c _ (aZK (show a+k-1-j<l.length by omega));have h:=kV c (a+k-j) j (by omega);have f:gL l (a+k-(j+1)) (j+1)=gL l (a+k-j) j*256+l[a+k-1-j]'(by omega):=by
  have:a+k-(j+1)<l.length:=by omega
  rw[aHw l _ j this,show a+k-(j+1)+1=a+k-j by omega,Int.mul_comm];rw[Int.add_comm];congr 1;congr 1;omega
 have b:0<=(k:Int)-1-(j:Int):=by omega
 rw[f];generalize gL l (a+k-j) j=z at h ⊢;have g:((a:Int)+((k:Int)-1-(j:Int))).toNat=a+k-1-j:=by omega
 have i:=iA _ d;have o:=orL z _ (by omega) d;simp (disch:=first|omega|(simp only[aZB,aZC,aZD,aZA,aA];omega)) only[go_sem,h219l0,eq_true b,aZU,g,i,Int.reduceToNat,Int.reducePow,o]
 rw[show (k:Int)-1-(j:Int)-1=(k:Int)-1-((j:Int)+1) by omega]
theorem gv1(n:Int)(h:0<=n/\n<256):gv (bI n 1)=n:=by
 show n % 256+256*0=n;omega
theorem gv2(n:Int)(h:0<=n/\n<65536):gv (bI n 2)=n:=by
 show n % 256+256*(n / 256 % 256+256*0)=n;omega
theorem gv4(n:Int)(h:0<=n/\n<4294967296):gv (bI n 4)=n:=by
 show n % 256+256*(n / 256 % 256+256*(n / 256 / 256 % 256+256*(n / 256 / 256 / 256 % 256+256*0)))=n;omega
theorem iI(p L:List Int)(a k:Nat)(h:p.length<=a):gL (p++L) a k=gL L (a-p.length) k:=by
 unfold gL;rw[List.drop_append,List.drop_of_length_le (by omega),aZP]
theorem Qh(z L:List Int)(k:Nat)(h:z.length=k):gL (z++L) 0 k=gv z:=by
 unfold gL;rw[bAr,bAT h]
