/- Part. Conditions: none. -/
import Derived.Test.YtalhnjjchkmfeaaGreatDoorVq
namespace Go.Proofs.YtalhnjjchkmfeaaGreatDoor
set_option maxHeartbeats 2000000
set_option linter.unusedSimpArgs false
set_option linter.unusedVariables false
set_option maxRecDepth 4000
section
variable {G:aF}{B:aO}
theorem aHs:EV G (Tb B) 225 [vi 7] []=some (vi 128,[]):=by
 refine aB rfl ?_;simp (disch:=first|omega|(simp only[aZA,aZB,aZC,aZz,aA];omega)) only[go_sem,h225c,Int.reduceMul,Int.reduceToNat,Int.reducePow]
theorem aHt:EV G (Tb B) 225 [vi 8] []=some (vi 256,[]):=by
 refine aB rfl ?_;simp (disch:=first|omega|(simp only[aZA,aZB,aZC,aZz,aA];omega)) only[go_sem,h225c,Int.reduceMul,Int.reduceToNat,Int.reducePow]
theorem aA2:EV G (Tb B) 225 [vi 15] []=some (vi 32768,[]):=by
 refine aB rfl ?_;simp (disch:=first|omega|(simp only[aZA,aZB,aZC,aZz,aA];omega)) only[go_sem,h225c,Int.reduceMul,Int.reduceToNat,Int.reducePow]
theorem aA3:EV G (Tb B) 225 [vi 16] []=some (vi 65536,[]):=by
 refine aB rfl ?_;simp (disch:=first|omega|(simp only[aZA,aZB,aZC,aZz,aA];omega)) only[go_sem,h225c,Int.reduceMul,Int.reduceToNat,Int.reducePow]
theorem Un(l:L Int)(c:aJ l)(a:Nat)(d:a+1<=l.length)(f:l.length<=1000000):EV G (Tb B) 15 [sv l,vi a,vi 1] []=some (vi (l[a]'(by omega)),[]):=by
 refine aB rfl ?_;have g:=c _ (aZG (show a<l.length by omega));simp (disch:=first|omega|(simp only[aZA,aZB,aZC,aZz,aA];omega)) only[go_sem,h15c,Int.reduceSub]
 rw[aT (fun k=>⟨(sv l::vi a::jk 5 (vi (tb3 0 (l[a]'(by omega)) 0 k)::vi (tb3 0 (-1) (-1) k)::jk 16 [])),[]⟩) 1 ?_ ?_]
 simp (disch:=first|omega|(simp only[aZA,aZB,aZC,aZz,aA];omega)) only[go_sem,h15l0,D5]
 rfl;intro k e;have b:k=0:=by omega
 subst b;simp (disch:=first|omega|(simp only[aZA,aZB,aZC,aZz,aA];omega)) only[go_sem,h15l0,aAT,D5,Int.reduceMul,Int.reduceSub,aZS,Int.add_zero,bAf]
theorem Uo(l:L Int)(b:aJ l)(a:Nat)(c:a+2<=l.length)(e:l.length<=1000000):EV G (Tb B) 15 [sv l,vi a,vi 2] []=some (vi ((l[a+1]'(by omega))*256+l[a]'(by omega)),[]):=by
 refine aB rfl ?_;have f:=b _ (aZG (show a<l.length by omega));have g:=b _ (aZG (show a+1<l.length by omega));simp (disch:=first|omega|(simp only[aZA,aZB,aZC,aZz,aA];omega)) only[go_sem,h15c,Int.reduceSub]
 rw[aT (fun k=>⟨(sv l::vi a::jk 5 (vi (tb3 0 (l[a+1]'(by omega)) ((l[a+1]'(by omega))*256+l[a]'(by omega)) k)::vi (tb3 1 0 (-1) k)::jk 16 [])),[]⟩) 2 ?_ ?_]
 simp (disch:=first|omega|(simp only[aZA,aZB,aZC,aZz,aA];omega)) only[go_sem,h15l0,T7]
 rfl;intro k d;rcases (show k=0\/k=1 by omega) with rfl|rfl
 simp (disch:=first|omega|(simp only[aZA,aZB,aZC,aZz,aA];omega)) only[go_sem,h15l0,aAT,D5,Int.reduceMul,Int.reduceSub,aZS,Int.add_zero,bAf,Int.zero_mul]
 simp (disch:=first|omega|(simp only[aZA,aZB,aZC,aZz,aA];omega)) only[go_sem,h15l0,D5,T7,Int.reduceMul,Int.reduceSub,aZS,Int.add_zero,bAf]
theorem sW(l:L Int)(f:aJ l)(b a:Nat)(j:a=1\/a=2)(h:b+a<=l.length)(i:l.length<=1000000):EV G (Tb B) 178 [sv l,vi b,vi a] []=some (.tup [.one (.dc (ci (dE (l.drop b) a).1)),.one (bC (dE (l.drop b) a).2.1)],[]):=by
 refine aB rfl ?_;have k:=f _ (aZG (show b<l.length by omega));rcases j with rfl|rfl
 have e:=Un (G:=G) (B:=B) l f b h i;rw[bAv (show b<l.length by omega)];generalize l[b]=x at *;have g:dE (x::List.drop (b+1) l) 1=(nU [x],decide (sz (nU [x])=1),List.drop (b+1) l):=by rw[dE,if_neg (by simp)];rfl
 rw[g];simp only[nU];by_cases c:128<=x;have d:=oY (G:=G) (B:=B) (x-256) (by omega);have z:=tL (x-256);have q:(((sz (x-256)).toNat:Nat):Int)=sz (x-256):=by omega
 simp (disch:=first|omega|(simp only[aZA,aZB,aZC,aZz,aA];omega)) only[go_sem,h178c,e,d,c,aHs,aHt,Int.reduceMul,Int.reduceSub,Int.natCast_one,bC,aA,q]
 have d:=oY (G:=G) (B:=B) x (by omega);have z:=tL x;have q:(((sz x).toNat:Nat):Int)=sz x:=by omega
 simp (disch:=first|omega|(simp only[aZA,aZB,aZC,aZz,aA];omega)) only[go_sem,h178c,e,d,c,aHs,aHt,Int.reduceMul,Int.reduceSub,Int.natCast_one,bC,aA,q]
 have e:=Uo (G:=G) (B:=B) l f b h i;have m:=f _ (aZG (show b+1<l.length by omega));rw[bAv (show b<l.length by omega),bAv (show b+1<l.length by omega)];generalize l[b]=x at *;generalize l[b+1]=y at *;have g:dE (x::y::List.drop (b+1+1) l) 2=(nU [x,y],decide (sz (nU [x,y])=2),List.drop (b+1+1) l):=by rw[dE,if_neg (by simp)];rfl
 rw[g];simp only[nU];rw[show ((2:Nat):Int)=2 from rfl]
 by_cases c:32768<=y*256+x;have d:=oY (G:=G) (B:=B) (y*256+x-65536) (by omega);have z:=tL (y*256+x-65536);have q:(((sz (y*256+x-65536)).toNat:Nat):Int)=sz (y*256+x-65536):=by omega
 simp (disch:=first|omega|(simp only[aZA,aZB,aZC,aZz,aA];omega)) only[go_sem,h178c,e,d,c,aA2,aA3,Int.reduceMul,Int.reduceSub,bC,aA,q]
 have d:=oY (G:=G) (B:=B) (y*256+x) (by omega);have z:=tL (y*256+x);have q:(((sz (y*256+x)).toNat:Nat):Int)=sz (y*256+x):=by omega
 simp (disch:=first|omega|(simp only[aZA,aZB,aZC,aZz,aA];omega)) only[go_sem,h178c,e,d,c,aA2,aA3,Int.reduceMul,Int.reduceSub,bC,aA,q]
theorem aDs(a h:Int)(t:L Int)(c:¬ ((1<=h % 16/\h % 16<=2)/\h / 16<=2)):(iT a h t).2.1=false:=by
 rw[iT,if_neg c]
theorem Ko{bs:L Int}{a:Nat}(h:bs.length<a):dE bs a=(0,false,bs):=if_pos h
theorem A8{bs:L Int}{a:Nat}(h:a<=bs.length):(dE bs a).2.2=bs.drop a:=by rw[dE,if_neg (by omega)]
theorem Qd(a h:Int)(t:L Int)(c:(dE t (h % 16).toNat).2.1=false):(iT a h t).2.1=false:=by
 rw[iT];split;rw[if_pos (Or.inl c)];exact c;rfl
theorem Yi(a h:Int)(t:L Int)(c:(1<=h % 16/\h % 16<=2)/\(0<=h / 16/\h / 16<=2))(f:(t.length:Int)<h % 16+h / 16):(iT a h t).2.1=false:=by
 by_cases e:t.length<(h % 16).toNat;exact Qd _ _ _ (by rw[Ko e]);by_cases b:(dE t (h % 16).toNat).2.1=false;exact Qd _ _ _ b
 rw[iT,if_pos ⟨c.1,c.2.2⟩,if_neg (by
  rintro (d | d)
  ·exact b d
  ·omega)]
 rw[A8 (by omega),Ko (bs:=t.drop (h % 16).toNat) (by rw[aZK];omega)];rfl
theorem aA4(a h:Int)(t:L Int)(c:1<=h % 16/\h % 16<=2)(b:h / 16=0)(d:(h % 16).toNat<=t.length):iT a h t=(⟨-1,(dE t (h % 16).toNat).1⟩,(dE t (h % 16).toNat).2.1,t.drop (h % 16).toNat):=by
 rw[iT,if_pos ⟨c,by omega⟩,if_pos (Or.inr b),A8 d]
theorem aHu(a h:Int)(t:L Int)(c:(1<=h % 16/\h % 16<=2)/\(1<=h / 16/\h / 16<=2))(d:(h % 16).toNat+(h / 16).toNat<=t.length)(b:(dE t (h % 16).toNat).2.1=true):iT a h t=(⟨a+(dE (t.drop (h % 16).toNat) (h / 16).toNat).1,(dE t (h % 16).toNat).1⟩,(dE (t.drop (h % 16).toNat) (h / 16).toNat).2.1&&!decide (a+(dE (t.drop (h % 16).toNat) (h / 16).toNat).1=-1),t.drop ((h % 16).toNat+(h / 16).toNat)):=by
 rw[iT,if_pos ⟨c.1,c.2.2⟩,if_neg (by rw[b];simp;omega),A8 (by omega),A8 (bs:=t.drop (h % 16).toNat) (by rw[aZK];omega),bAw]
theorem Kp(bs:L Int)(a:Nat):(dE bs a).2.2 <:+ bs:=by
 unfold dE;split;exact List.suffix_refl _;exact List.drop_suffix _ _
theorem aHv(a h:Int)(t:L Int):(iT a h t).2.2 <:+ t:=by
 unfold iT;split;split;exact Kp _ _;exact (Kp _ _).trans (Kp _ _);exact List.suffix_refl _
theorem Yj(s:L Int):∀k,(dK s k).bs <:+ s
 |0=>List.suffix_refl _
 | k+1=>by
  have b:=Yj s k;simp only[dK];generalize dK s k=z at b ⊢;obtain⟨bs,a,c⟩:=z;cases bs with
  | nil=>simp[gJ]
  | cons h t=>
   simp only[gJ];split
   ·exact b
   ·split
    ·exact (aHv a h t).trans ((List.suffix_cons h t).trans b)
    ·exact b
theorem aMf{s bs:L Int}(h:bs <:+ s):s.drop (s.length-bs.length)=bs:=(List.suffix_iff_eq_drop.1 h).symm
theorem Uq{s t:L Int}{h:Int}(b:(h::t) <:+ s):∃a,s.length=a+(t.length+1)/\s.length-(h::t).length=a/\s.drop (a+1)=t/\∃e:a<s.length,s[a]=h:=by
 have d:=b.length_le;simp only[aZB] at d;refine⟨s.length-(t.length+1),by omega,rfl,?_,by omega,?_⟩;all_goals
  have c:=aMf b;rw[aZB,bAv (by omega)] at c
 exact (List.cons.inj c).2;exact (List.cons.inj c).1
theorem Ma(s:L Int)(o:aJ s)(Q:¬ (s.length:Int) > 400)(k:Nat)(A:∀j,j<=k->¬ gJ (dK s j)=none):Lt [0,3,0,0] 1 (EC (EV G (Tb B)) G h125l0 ⟨(sv s::jk 3 (.one (.bld 0 (dK s k).out.length)::vi ((s.length-(dK s k).bs.length:Nat))::vi (dK s k).last::jk 106 [])),[.arr 0 2 ((dK s k).out.map aX.e)]⟩)= some ⟨(sv s::jk 3 (.one (.bld 0 (dK s (k+1)).out.length)::vi ((s.length-(dK s (k+1)).bs.length:Nat))::vi (dK s (k+1)).last::jk 106 [])),[.arr 0 2 ((dK s (k+1)).out.map aX.e)]⟩:=by
 obtain⟨E,F,H,v⟩:=T9 s o k (fun j T=>A j (by omega))
 have d:=A k (aZE _);have i:=Yj s k;rw[show dK s (k+1)=(gJ (dK s k)).getD (dK s k) from rfl]
 generalize dK s k=z at *;obtain⟨bs,b,P⟩:=z;simp only at d E F H v i ⊢;cases bs with
 |nil=>exact absurd rfl d
 |cons h t=>
  obtain⟨S,J⟩:=jN v;obtain⟨a,R,p,w,I,y⟩:=Uq i;rw[p];by_cases c:h=0;simp[gJ,c] at d;simp only[gJ,if_neg c] at d ⊢;by_cases g:(1<=h % 16/\h % 16<=2)/\h / 16<=2;by_cases D:(t.length:Int)<h % 16+h / 16;rw[Yi b h t ⟨g.1,by omega⟩ D] at d;simp at d;have l:=sW (G:=G) (B:=B) s o (a+1) (h % 16).toNat (by omega) (by omega) (by omega);rw[w,show ((a+1:Nat):Int)=(a:Int)+1 by omega,show (((h % 16).toNat:Nat):Int)=h % 16 by omega] at l;cases f:(dE t (h % 16).toNat).2.1 with
  |false=>rw[Qd b h t f] at d;simp at d
  |true=>
   rw[f] at l;by_cases m:h / 16=0;rw[aA4 b h t g.1 m (by omega),f] at d ⊢;have q:(((s.length-(t.drop (h % 16).toNat).length:Nat)):Int)=(a:Int)+1+h % 16:=by rw[aZK];omega
   generalize (dE t (h % 16).toNat).1=N at *;simp only[if_true,bAl];rw[q];simp (disch:=first|omega|(simp only[aZA,aZB,aZC,aZz,aA];omega)) only[go_sem,h125l0,y,c,g,m,oO,nA,bM,l,bC,aZS,Dx,aZA,Int.add_zero]
   have u:=sW (G:=G) (B:=B) s o (a+1+(h % 16).toNat) (h / 16).toNat (by omega) (by omega) (by omega);rw[<- bAw,w,show ((a+1+(h % 16).toNat:Nat):Int)=(a:Int)+1+h % 16 by omega,show (((h / 16).toNat:Nat):Int)=h / 16 by omega] at u;rw[aHu b h t ⟨g.1,by omega⟩ (by omega) f] at d ⊢;have q:(((s.length-(t.drop ((h % 16).toNat+(h / 16).toNat)).length:Nat)):Int)=(a:Int)+1+h % 16+h / 16:=by rw[aZK];omega
   have M:=D7 (D6 J (fun x K=>bAa K):aJ (t.drop (h % 16).toNat)) (h / 16).toNat
   generalize (dE t (h % 16).toNat).1=N at *;generalize (dE (t.drop (h % 16).toNat) (h / 16).toNat)=C at *;obtain⟨O,r,U⟩:=C;simp only at d u M ⊢;cases r;simp at d;by_cases n:b+O=-1;simp[n] at d;simp only[n,decide_false,aZ2,Bool.and_self,if_true,if_false,bAl];rw[q];simp (disch:=first|omega|(simp only[aZA,aZB,aZC,aZz,aA];omega)) only[go_sem,h125l0,y,c,g,m,n,oO,nA,bM,l,u,bC,aZS,Dx,aZA]
  rw[aDs b h t g] at d;simp at d
theorem Nv(s:L Int)(n:aJ s):EV G (Tb B) 125 [sv s] []=some (.tup [.one (.dc (.slc ((nO s).1.map aX.e))),.one (.dc (ci (nO s).2))],[]):=by
 refine aB rfl ?_;unfold nO;by_cases q:(s.length:Int) > 400;rw[if_pos q];simp (disch:=first|omega|(simp only[aZA,aZB,aZC,aZz,aA];omega)) only[go_sem,h125c,aZM]
 rw[if_neg q];simp (disch:=first|omega|(simp only[aZA,aZB,aZC,aZz,aA];omega)) only[go_sem,h125c]
 rw[dQ (fun k=>⟨(sv s::jk 3 (.one (.bld 0 (dK s k).out.length)::vi ((s.length-(dK s k).bs.length:Nat))::vi (dK s k).last::jk 106 [])),[.arr 0 2 ((dK s k).out.map aX.e)]⟩) (fun k=>gJ (dK s k)=none) (s.length+1) ?_ ?_]
 obtain⟨S,g,E⟩:=Nl s n;obtain⟨F,H,I,w⟩:=T9 s n _ E;have o:=Yj s (Cl s);rw[show ix (fun k=>gJ (dK s k)=none) (s.length+1)=Cl s from rfl]
 generalize dK s (Cl s)=z at *;obtain⟨bs,b,d⟩:=z;simp only at g F H I w o ⊢;cases bs with
 |nil=>
  rw[show qD ⟨[],b,d⟩=([],3) from rfl]
  simp only[aZC,Nat.sub_zero];simp (disch:=first|omega|(simp only[aZA,aZB,aZC,aZz,aA];omega)) only[go_sem,h125l0,aZM]
 |cons h t=>
  obtain⟨T,N⟩:=jN w;obtain⟨a,y,u,A,J,i⟩:=Uq o;rw[u];by_cases c:h=0;subst c
  match t with
  |[]=>
   simp only[aZC] at y;by_cases f:(mU d).2=0;rw[show qD ⟨[0],b,d⟩=(d,0) by simp[qD,Bp,f]];simp (disch:=first|omega|(simp only[aZA,aZB,aZC,aZz,aA];omega)) only[go_sem,h125l0,i,aGQ,f,kF,aZS]
   rw[show qD ⟨[0],b,d⟩=([],(mU d).2) by simp[qD,Bp,f]];simp (disch:=first|omega|(simp only[aZA,aZB,aZC,aZz,aA];omega)) only[go_sem,h125l0,i,aGQ,f,kF,aZM,aZS]
  |x::t=>
   simp only[aZB] at y;rw[show qD ⟨0::x::t,b,d⟩=([],3) by simp[qD,Bp]];simp (disch:=first|omega|(simp only[aZA,aZB,aZC,aZz,aA];omega)) only[go_sem,h125l0,i,aZM,aZS]
  simp only[gJ,if_neg c] at g;rw[show qD ⟨h::t,b,d⟩=([],3) by simp[qD,Bp,c]];have g:(iT b h t).2.1=false:=by
   cases M:(iT b h t).2.1 with
   |false=>rfl
   |true=>rw[M] at g;simp at g
  by_cases l:1<=h % 16/\h % 16<=2;by_cases f:h / 16<=2;by_cases R:(t.length:Int)<h % 16+h / 16;simp (disch:=first|omega|(simp only[aZA,aZB,aZC,aZz,aA];omega)) only[go_sem,h125l0,i,c,l,f,oO,nA,bM,aZS,aZM]
  have m:=sW (G:=G) (B:=B) s n (a+1) (h % 16).toNat (by omega) (by omega) (by omega);rw[A,show ((a+1:Nat):Int)=(a:Int)+1 by omega,show (((h % 16).toNat:Nat):Int)=h % 16 by omega] at m;cases j:(dE t (h % 16).toNat).2.1 with
  |false=>
   rw[j] at m;simp (disch:=first|omega|(simp only[aZA,aZB,aZC,aZz,aA];omega)) only[go_sem,h125l0,i,c,l,f,oO,nA,bM,m,bC,aZS,aZM]
  |true=>
   rw[j] at m;by_cases r:h / 16=0;rw[aA4 b h t l r (by omega),j] at g;cases g;have p:=sW (G:=G) (B:=B) s n (a+1+(h % 16).toNat) (h / 16).toNat (by omega) (by omega) (by omega);rw[<- bAw,A,show ((a+1+(h % 16).toNat:Nat):Int)=(a:Int)+1+h % 16 by omega,show (((h / 16).toNat:Nat):Int)=h / 16 by omega] at p;rw[aHu b h t ⟨l,by omega⟩ (by omega) j] at g;have P:=D7 (D6 N (fun x O=>bAa O):aJ (t.drop (h % 16).toNat)) (h / 16).toNat
   generalize (dE t (h % 16).toNat).1=V at *;generalize (dE (t.drop (h % 16).toNat) (h / 16).toNat)=C at *;obtain⟨Q,v,W⟩:=C;simp only at g p P;cases v;simp (disch:=first|omega|(simp only[aZA,aZB,aZC,aZz,aA];omega)) only[go_sem,h125l0,i,c,l,f,r,oO,nA,bM,m,p,bC,aZS,aZM]
   have D:b+Q=-1:=by simpa using g
   simp (disch:=first|omega|(simp only[aZA,aZB,aZC,aZz,aA];omega)) only[go_sem,h125l0,i,c,l,f,r,D,oO,nA,bM,m,p,bC,aZS,aZM]
  simp (disch:=first|omega|(simp only[aZA,aZB,aZC,aZz,aA];omega)) only[go_sem,h125l0,i,c,l,f,oO,nA,bM,aZS,aZM]
  simp (disch:=first|omega|(simp only[aZA,aZB,aZC,aZz,aA];omega)) only[go_sem,h125l0,i,c,l,oO,nA,bM,aZS,aZM]
 rw[show s.length-(dK s 0).bs.length=0 from bAr _];rfl
 intro k U K;exact Ma s n q k K
end
section
variable {G:aF}{bb:Bool}
theorem aA5{p:Nat->Prop}{n m:Nat}(f:m<n)(c:p m)(d:∀j,j<m->¬ p j):ix p n=m:=by
 obtain⟨e,a,b⟩:=bF p n;rcases Nat.lt_trichotomy (ix p n) m with h|h|h;rcases a with a|⟨_,a⟩;omega;exact absurd a (d _ h);exact h;exact absurd c (b _ h)
theorem Ae(n:Int):sz n=1\/sz n=2:=by unfold sz;split<;>simp
theorem aVv(n:Int)(h:-128<=n/\n<=127):nU (bJ n 1)=n:=by
 show nU [n % 256]=n;simp only[nU];split<;>omega
theorem aVw(n:Int)(h:-32768<=n/\n<=32767):nU (bJ n 2)=n:=by
 show nU [n % 256,n / 256 % 256]=n;simp only[nU];split<;>omega
theorem Qf(n:Int)(h:-32768<=n/\n<=32767)(a:L Int):dE (bJ n (sz n).toNat++a) (sz n).toNat=(n,true,a):=by
 unfold dE;rw[if_neg (by rw[aZA,aA];omega),bAW (aA _ _),List.drop_left' (aA _ _)];have e:nU (bJ n (sz n).toNat)=n:=by
  unfold sz;split;exact aVv n (by assumption);exact aVw n h
 rw[e];have:sz n=((sz n).toNat:Int):=by have:=Ae n;omega
 rw[decide_eq_true this]
theorem Kq(t:L Int)(a:Nat)(h:t.length<a):(dE t a).2.1=false:=by
 unfold dE;rw[if_pos h]
def tX(a:Int)(r:aX):Int:=if r.s=-1 then sz r.n else 16*sz (r.s-a)+sz r.n
def Eb(a:Int)(r:aX):L Int:=if r.s=-1 then bJ r.n (sz r.n).toNat else bJ r.n (sz r.n).toNat++bJ (r.s-a) (sz (r.s-a)).toNat
theorem sX(a:Int)(r:aX):nJ a r=tX a r::Eb a r:=by
 unfold nJ tX Eb;split<;>rfl
theorem Qg(a:Int)(r:aX):tX a r≠0:=by
 have b:=Ae r.n;have c:=Ae (r.s-a);unfold tX;split<;>omega
theorem Yk{r:aX}(h:bP r.s r.n=0):(1<=r.n/\r.n<=4096)/\(r.s=-1\/0<=r.s/\r.s<=511):=by
 rcases lK h with⟨a,b,h3⟩|⟨s,n,a,b,h3,h4⟩;exact⟨by omega,by omega⟩
 exact⟨by omega,by omega⟩
theorem aHw{a:Int}{r:aX}(g:bP r.s r.n=0)(k:0<=a/\a<=511)(b:L Int):iT a (tX a r) (Eb a r++b)=(r,true,b):=by
 obtain⟨⟨h,i⟩,j⟩:=Yk g;have l:=Ae r.n;have m:=Ae (r.s-a);have f:=Qf r.n (by omega);unfold tX Eb;by_cases c:r.s=-1;rw[if_pos c,if_pos c];have d:sz r.n % 16=sz r.n:=by omega
 have e:sz r.n / 16=0:=by omega
 unfold iT;rw[d,e,if_pos (by omega),if_pos (.inr rfl),f b];simp only;cases r;simp only at c;rw[c];rw[if_neg c,if_neg c];have d:(16*sz (r.s-a)+sz r.n) % 16=sz r.n:=by omega
 have e:(16*sz (r.s-a)+sz r.n) / 16=sz (r.s-a):=by omega
 unfold iT;rw[d,e,if_pos (by omega),aZP,f,if_neg (by simp;omega)];simp only;rw[Qf (r.s-a) (by omega) b];simp only;rw[show a+(r.s-a)=r.s by omega,decide_eq_false c];cases r;rfl
theorem aHx{a:Int}{r:aX}(g:bP r.s r.n=0)(o:0<=a/\a<=511)(m:Nat)(b:m<(Eb a r).length):(iT a (tX a r) ((Eb a r).take m)).2.1=false:=by
 obtain⟨⟨j,k⟩,l⟩:=Yk g;have p:=Ae r.n;have q:=Ae (r.s-a);have i:=Qf r.n (by omega);unfold Eb at b ⊢;unfold tX;by_cases c:r.s=-1;rw[if_pos c] at b ⊢;rw[if_pos c];rw[aA] at b;have d:sz r.n % 16=sz r.n:=by omega
 have e:sz r.n / 16=0:=by omega
 unfold iT;rw[d,e,if_pos (by omega),if_pos (.inr rfl)];exact Kq _ _ (by rw[aZD,aA];omega);rw[if_neg c] at b ⊢;rw[if_neg c];rw[aZA,aA,aA] at b;have d:(16*sz (r.s-a)+sz r.n) % 16=sz r.n:=by omega
 have e:(16*sz (r.s-a)+sz r.n) / 16=sz (r.s-a):=by omega
 unfold iT;rw[d,e,if_pos (by omega)];by_cases h:m<(sz r.n).toNat;have f:=Kq ((bJ r.n (sz r.n).toNat++bJ (r.s-a) (sz (r.s-a)).toNat).take m) (sz r.n).toNat (by rw[aZD];omega);rw[if_pos (.inl f)];exact f;rw[List.take_append,aA,aZ6 (by rw[aA];omega),i,if_neg (by simp;omega)];simp only;rw[Kq _ _ (by rw[aZD,aA];omega)];rfl
def H6(a:Int)(r:aX):Int:=if r.s=-1 then a else r.s
theorem Nw{a:Int}{r:aX}(e:bP r.s r.n=0)(d:0<=a/\a<=511)(b:L Int)(c:L aX):gJ ⟨nJ a r++b,a,c⟩=some ⟨b,H6 a r,c++[r]⟩:=by
 rw[sX];unfold gJ;simp only[aZW];rw[if_neg (Qg _ _),aHw e d];simp only[if_true];rfl
def dS(a:Int):L aX->L Int
 |[]=>[]
 |r::l=>nJ a r++dS (H6 a r) l
theorem Fo(l:L aX):(jI l).1=dS 0 l:=by
 have b:∀(l:L aX)(p:L Int)(a:Int),(l.foldl est (p,a)).1=p++dS a l:=by
  intro l
  induction l with
  |nil=>intro p a;simp[dS]
  |cons r l c=>
   intro p a;have e:est (p,a) r=(p++nJ a r,H6 a r):=rfl;rw[bAN,e,c];simp only[dS,aZP]
 have:=b l [] 0;simpa[jI] using this
def dM:Nat->DS->DS
 |0,z=>z
 |k+1,z=>(gJ (dM k z)).getD (dM k z)
theorem Yl(s:L Int):∀k,dK s k=dM k ⟨s,0,[]⟩
 |0=>rfl
 |k+1=>by rw[dK,dM,Yl s k]
theorem A9{z a:DS}(h:gJ z=some a):∀k,dM (k+1) z=dM k a
 |0=>by show (gJ z).getD z=a;rw[h];rfl
 |k+1=>by rw[dM,A9 h k,dM]
theorem aHy{a:Int}{r:aX}(b:bP r.s r.n=0)(c:0<=a/\a<=511):0<=H6 a r/\H6 a r<=511:=by
 have:=(Yk b).2;unfold H6;split<;>omega
theorem aHz:∀(l:L aX)(a:Int)(c:L aX)(b:L Int),(∀r∈l,bP r.s r.n=0)->0<=a/\a<=511-> (∃x,dM l.length ⟨dS a l++b,a,c⟩=⟨b,x,c++l⟩)/\∀j,j<l.length->¬ gJ (dM j ⟨dS a l++b,a,c⟩)=none
 |[],a,c,b,_,_=>⟨⟨a,by simp[dM,dS]⟩,fun j d=>by simp at d⟩
 | r::l,a,c,b,h,k=>by
  have m:=h r aZT;have f:=Nw m k (dS (H6 a r) l++b) c;obtain⟨⟨x,o⟩,p⟩:=aHz l (H6 a r) (c++[r]) b (fun q t=>h q (aZ3 _ t)) (aHy m k)
  have e:dS a (r::l)++b=nJ a r++(dS (H6 a r) l++b):=by rw[dS,aZP]
  rw[e];refine⟨⟨x, ?_⟩,fun j d=>?_⟩
  ·show dM (l.length+1) _=_;rw[A9 f,o,aZP];rfl
  ·cases j with
   | zero=>
    intro g;have i:gJ ⟨nJ a r++(dS (H6 a r) l++b),a,c⟩=none:=g;rw[f] at i;cases i
   | succ j=>rw[A9 f];exact p j (by simpa using d)
theorem Ur{l:L aX}(h:(mU l).2=0):(dS 0 l).length<=320:=by
 rw[<- Fo];exact Kb h
theorem Qh{l:L aX}(h:(mU l).2=0):nO ((jI l).1++[0])=(l,0):=by
 have d:=Ur h;obtain⟨⟨x,c⟩,e⟩:=aHz l 0 [] [0] (Jv h) (by omega);have k:=oH h;have b:l.length<(dS 0 l++[0]).length+1:=by
  have:∀(l:L aX)(a:Int),l.length<=(dS a l).length:=by
   intro l
   induction l with
   |nil=>intro _;simp
   |cons r l i=>intro a;have:=i (H6 a r);simp only[dS,sX,aZA,aZB];omega
  have:=this l 0;simp only[aZA,aZB,aZC];omega
 rw[Fo];have f:Cl (dS 0 l++[0])=l.length:=by
  unfold Cl;refine aA5 b ?_ (fun j g=>?_)
  rw[Yl,c];rfl;rw[Yl];exact e j g
 unfold nO;rw[if_neg (by simp only[aZA,aZB,aZC];omega),f,Yl,c];unfold qD;rw[if_neg (by simp[Bp]),if_neg (by simp only[aZR];omega)];rfl
theorem Nx:∀(l:L aX)(a:Int)(b:L aX)(m:Nat),(∀r∈l,bP r.s r.n=0)->0<=a/\a<=511->m<(dS a l).length+1-> ∃k,k<=m/\gJ (dM k ⟨(dS a l++[0]).take m,a,b⟩)=none/\(∀j,j<k->¬ gJ (dM j ⟨(dS a l++[0]).take m,a,b⟩)=none)/\Bp (dM k ⟨(dS a l++[0]).take m,a,b⟩).bs≠0
 | [],a,b,m,_,_,p=>by
  have:m=0:=by simp[dS] at p;omega
  subst this;exact⟨0,aZE _,rfl,fun j i=>by omega,by simp[dM,Bp]⟩
 | r::l,a,b,m,h,o,p=>by
  have t:=h r aZT;have e:dS a (r::l)++[0]=nJ a r++(dS (H6 a r) l++[0]):=by rw[dS,aZP]
  rw[e];rw[dS,aZA] at p;by_cases f:(nJ a r).length<=m
  ·have v:0 < (nJ a r).length:=by rw[sX];simp
   have d:(nJ a r++(dS (H6 a r) l++[0])).take m=nJ a r++(dS (H6 a r) l++[0]).take (m - (nJ a r).length):=by
    rw[List.take_append,aZ6 f]
   rw[d];have c:=Nw t o ((dS (H6 a r) l++[0]).take (m - (nJ a r).length)) b;obtain⟨k,k0,y,z,A⟩:=Nx l (H6 a r) (b++[r]) (m - (nJ a r).length) (fun q x=>h q (aZ3 _ x)) (aHy t o) (by omega)
   refine⟨k+1,by omega,by rw[A9 c];exact y,fun j i=>?_,by rw[A9 c];exact A⟩
   cases j with
   | zero=>
    intro g;have u:gJ ⟨nJ a r++(dS (H6 a r) l++[0]).take (m - (nJ a r).length),a,b⟩=none:=g;rw[c] at u;cases u
   | succ j=>rw[A9 c];exact z j (by omega)
  ·have d:(nJ a r++(dS (H6 a r) l++[0])).take m=(nJ a r).take m:=by
    rw[bAS (by omega)]
   rw[d];cases m with
   | zero=>exact⟨0,aZE _,rfl,fun j i=>by omega,by simp[dM,Bp]⟩
   | succ m=>
    rw[sX] at f ⊢;rw[bAP];have hf:=aHx t o m (by simp only[aZB] at f;omega);refine⟨0,by omega, ?_,fun j i=>by omega, ?_⟩
    ·show (if tX a r=0 then none else if (iT a (tX a r) ((Eb a r).take m)).2.1=true then some _ else none)=none
     rw[if_neg (Qg _ _),hf,if_neg (by decide)]
    ·have w:Bp (tX a r::(Eb a r).take m)=3:=by
      unfold Bp;exact if_neg (fun g=>Qg _ _ g.1)
     show Bp (tX a r::(Eb a r).take m)≠0;rw[w]
     decide
theorem aQT{l:L aX}(h:(mU l).2=0)(m:Nat)(b:m<(jI l).1.length+1):(nO (((jI l).1++[0]).take m)).2≠0:=by
 have a:=Ur h;rw[Fo] at b ⊢;obtain⟨k,k0,e,f,g⟩:=Nx l 0 [] m (Jv h) (by omega) b;have c:Cl ((dS 0 l++[0]).take m)=k:=by
  unfold Cl;refine aA5 (by rw[aZD,aZA];simp only[aZB,aZC];omega) ?_ (fun j d=>?_)
  rw[Yl];exact e;rw[Yl];exact f j d
 unfold nO;rw[if_neg (by rw[aZD];simp only[aZA,aZB,aZC];omega),c,Yl];unfold qD;rw[if_pos g];decide
end
section
variable {G:aF}{bb:Bool}
theorem Ba(p L:List Int)(n:Int)(a:Nat)(h:p.length<=a):∀k,bB (p++L) a n k=p++bB L (a-p.length) n k
 |0=>rfl
 | k+1=>by
  rw[bB,Ba p L n a h k,bB,List.set_append_right _ _ (by omega)];congr 2;omega
theorem Fp(z X:L Int)(n:Int):∀k,z.length=k->bB (z++X) 0 n k=bJ n k++X:=by
 have b:∀(k:Nat)(z X:L Int),z.length=k->bB (z++X) 0 n k=bJ n k++X:=by
  intro k
  induction k with
  |zero=>
   intro z X h;have:z=[]:=List.length_eq_zero_iff.1 h;subst this;rfl
  |succ k d=>
   intro z X h;obtain⟨a,x,rfl⟩:∃a x,z=a++[x]:=by
    rcases List.eq_nil_or_concat z with rfl|⟨a,x,e⟩;simp at h;exact⟨a,x,by rw[e,List.concat_eq_append]⟩
   have c:a.length=k:=by simpa using h
   rw[bB,aZP,d a ([x]++X) c,bAm,List.set_append_right _ _ (by rw[aA];omega),aA,bAr,bJ,aZP];rfl
 exact fun k h=>b k z X h
theorem Kr(p L s:List Int)(a:Nat)(h:p.length<=a):fE (p++L) a s=p++fE L (a-p.length) s:=by
 unfold fE;rw[List.take_append,aZ6 h,bA9,bBd (by omega),aZR,aZP,aZP];rw[show a+s.length-p.length=a-p.length+s.length by omega,aZP]
theorem aHA(z X s:L Int)(h:z.length=s.length):fE (z++X) 0 s=s++X:=by
 unfold fE;rw[bAO,aZR,bAm,List.drop_left' h]
theorem Qi(z X s:L Int)(a:Nat)(b:a=0)(h:z.length=s.length):fE (z++X) a s=s++X:=by subst b;exact aHA z X s h
theorem Ym(a b:Nat):zl (a+b)=zl a++zl b:=by unfold zl;rw[List.replicate_append_replicate]
structure aI.Dc (a:aI):Prop where
 ty:0<=a.ty/\a.ty<4294967296
 nm:aJ a.nm
 nl:a.nm.length<=255
 id:0<=a.id/\a.id<65536
 fl:0<=a.fl/\a.fl<65536
 va:aJ a.va
 vl:a.va.length<=1000
 t:a.res=true->a.rs=[]/\a.fi=0/\a.al=0/\a.sz=0/\a.vd=0
 f:a.res=false->a.va=[]/\(mU a.rs).2=0/\(0<=a.fi/\a.fi<4294967296)/\(0<=a.al/\a.al<4294967296)/\(0<=a.sz/\a.sz<4294967296)/\(0<=a.vd/\a.vd<4294967296)
theorem aI.Dc.bd{a:aI}(h:a.Dc):a.Bd:=by
 have m:=h.ty;have n:=h.nl;have h3:=h.id;have h4:=h.fl;have h5:=h.vl;cases c:a.res with
 |true=>
  obtain⟨b,d,e,g,i⟩:=h.t c;have:gP a.rs=0:=by rw[b];rfl
  exact⟨h.nm,h.va,by omega,by omega,by rw[b];simp,by omega,by omega,by omega,by omega,by omega,by omega,by omega,by omega⟩
 |false=>
  obtain⟨b,d,e,g,i,o⟩:=h.f c;obtain⟨j,k,l⟩:=Ka d;exact⟨h.nm,h.va,by omega,by omega,by omega,by omega,by omega,by omega,by omega,by omega,by omega,by omega,by omega⟩
theorem aI.Ok.dc{a:aI}(h:a.Ok):a.Dc:=by
 have l:=P6 h.ty;have m:=H3 h.nm;obtain⟨n,o⟩:=h.rg;have h4:=h.e;unfold tW at h4;refine⟨by omega,h.w.nm,by omega,by omega,by omega,h.w.va,?_,fun b=>?_,fun b=>?_⟩
 split at h4;have:=P7 h4;omega;have:=(Fh h4).2.1;rw[this];simp;rw[if_pos b] at h4;obtain⟨c,d,f,g,i,_⟩:=P7 h4;exact⟨c,d,f,g,i⟩;rw[if_neg (by rw[b];decide)] at h4;obtain⟨p,j,q,k,r,s,t,u,r9⟩:=Fh h4;exact⟨j,k,by omega,by omega,by omega,by omega⟩
theorem Af{a:aI}(h:a.Dc):T2 a=qU a:=by
 unfold T2 qU;cases b:a.res with
 |true=>rfl
 |false=>
  rw[if_neg (by decide),if_neg (by decide)];obtain⟨_,c,_⟩:=h.f b;unfold Cj;rw[if_neg (by rw[Ng];simpa using c)]
theorem aA6(x:Int):bJ (x % 4294967296) 4=bJ x 4:=by
 simp only[bJ,Fe,aZR,aZW];congr 1;omega;congr 1;omega;congr 1;omega;congr 1;omega
theorem Gq(a:aI):cZ a % 8=0/\sU a+a.nm.length<=cZ a/\cZ a+(qU a).length<=eY a/\eY a % 8=0/\eY a<=cZ a+(qU a).length+7:=by
 unfold eY cZ;omega
theorem aHB(X N u:Nat)(h:N=X+8+u)(a:N % 8=0)(b:u<=7):(X+7) / 8*8-X=u:=by omega
theorem aVx{a:aI}(h:a.Dc)(c:a.res=true):tV a=gQ a:=by
 obtain⟨r,l,m,s,n⟩:=Gq a;have k:=Af h;have d:sU a=24:=by simp[sU,c]
 have b:qU a=a.va:=by simp[qU,c]
 rw[d] at l;rw[b] at m n;obtain⟨g,p⟩:∃g,cZ a=24+(a.nm.length+g):=⟨cZ a-24-a.nm.length,by omega⟩;obtain⟨u,q⟩:∃u,eY a=cZ a+(a.va.length+u):=⟨eY a-cZ a-a.va.length,by omega⟩;have i:eY a=4+(4+(1+(1+(2+(2+(2+(4+(4+(a.nm.length+(g+(a.va.length+u))))))))))):=by omega
 have j:zl (eY a)=zl 4++(zl 4++(zl 1++(zl 1++(zl 2++(zl 2++(zl 2++(zl 4++(zl 4++(zl a.nm.length++(zl g++(zl a.va.length++zl u))))))))))):=by
  conv=>lhs;rw[i]
  simp only[Ym]
 unfold tV Tx Tw;rw[if_pos c,j,d,b];simp (disch:=first|omega|(simp only[aS,aA]<;>omega)|fail) only[Ba,Fp,aS,aA,Nat.reduceSub,bAr]
 simp (disch:=first|omega|(simp only[aS,aA]<;>omega)|fail) only[Kr,Qi,aS,aA,Nat.reduceSub,bAr]
 unfold gQ Ab L6 Bo Aa;rw[if_pos c,if_pos c,d,k,b];simp only[aZP];simp only[aZA,aA,aZH];have o:zl 1=bJ 0 1:=rfl;have e:cZ a-24-a.nm.length=g:=by omega
 rw[e];have f:(1+(1+(2+(2+(2+(4+(4+(a.nm.length+(g+a.va.length))))))))+7) / 8*8-(1+(1+(2+(2+(2+(4+(4+(a.nm.length+(g+a.va.length)))))))))=u:=by omega
 rw[f];rfl
theorem aVy{a:aI}(h:a.Dc)(i:a.res=false):tV a=gQ a:=by
 obtain⟨q,l,r,m,s⟩:=Gq a;have b:¬ a.res=true:=by rw[i];decide
 have k:=Af h;have f:sU a=40:=by simp[sU,i]
 rw[f] at l;obtain⟨g,o⟩:∃g,cZ a=40+(a.nm.length+g):=⟨cZ a-40-a.nm.length,by omega⟩;obtain⟨u,p⟩:∃u,eY a=cZ a+((qU a).length+u):=⟨eY a-cZ a-(qU a).length,by omega⟩;have d:eY a=4+(4+(1+(1+(2+(2+(2+(4+(4+(2+(2+(4+(4+(4+(a.nm.length+(g+((qU a).length+u)))))))))))))))):=by omega
 have e:zl (eY a)=zl 4++(zl 4++(zl 1++(zl 1++(zl 2++(zl 2++(zl 2++(zl 4++(zl 4++(zl 2++(zl 2++(zl 4++(zl 4++(zl 4++(zl a.nm.length++(zl g++(zl (qU a).length++zl u)))))))))))))))):=by
  conv=>lhs;rw[d]
  simp only[Ym]
 unfold tV Tx Tw;rw[if_neg b,e,f];simp (disch:=first|omega|(simp only[aS,aA]<;>omega)|fail) only[Ba,Fp,aS,aA,Nat.reduceSub,bAr]
 simp (disch:=first|omega|(simp only[aS,aA]<;>omega)|fail) only[Kr,Qi,aS,aA,Nat.reduceSub,bAr]
 unfold gQ Ab L6 Bo Aa;rw[if_neg b,if_neg b,f,k,aA6];simp only[aZP];simp only[aZA,aA,aZH];have n:zl 1=bJ 0 1:=rfl;have c:cZ a-40-a.nm.length=g:=by omega
 rw[c];have j:(1+(1+(2+(2+(2+(4+(4+(2+(2+(4+(4+(4+(a.nm.length+(g+(qU a).length)))))))))))))+7) / 8*8-(1+(1+(2+(2+(2+(4+(4+(2+(2+(4+(4+(4+(a.nm.length+(g+(qU a).length))))))))))))))=u:=aHB _ (eY a) u (by clear e d c;omega) m (by clear e d c;omega);rw[j];rfl
theorem Ag{a:aI}(h:a.Dc):tV a=gQ a:=by
 cases b:a.res with
 |true=>exact aVx h b
 |false=>exact aVy h b
end
section
variable {G:aF}{bb:Bool}
def gv:L Int->Int
 |[]=>0
 |b::t=>b+256*gv t
def gL(l:L Int)(a k:Nat):Int:=gv ((l.drop a).take k)
theorem Yn(l:L Int)(a k:Nat)(h:a<l.length):gL l a (k+1)=l[a]+256*gL l (a+1) k:=by
 unfold gL;rw[bAv h,bAP,gv]
theorem aA7:∀(l:L Int)(m:Nat),aJ l->l.length<=m->0<=gv l/\gv l<256 ^ m
 | [],m,_,_=>by
  have:(0:Int) < 256 ^ m:=Int.pow_pos (by decide);simp only[gv];omega
 |b::t,0,_,h=>by simp at h
 | b::t,m+1,a,h=>by
  obtain⟨d,c⟩:=jN a;have e:=aA7 t m c (by simpa using h);rw[gv,Int.pow_succ];omega
theorem Ah{l:L Int}(h:aJ l)(a k:Nat):aJ ((l.drop a).take k):=fun b c=>h b (bAa (aZZ c))
theorem kU{l:L Int}(h:aJ l)(a k:Nat)(c:k<=4):0<=gL l a k/\gL l a k<4294967296:=by
 have b:=aA7 ((l.drop a).take k) k (Ah h a k) (by rw[aZD];omega);unfold gL;rcases (show k=0\/k=1\/k=2\/k=3\/k=4 by omega) with rfl|rfl|rfl|rfl|rfl<;>simp only[Int.reducePow] at b<;>omega
theorem Ai{l:L Int}(h:aJ l)(a:Nat):0<=gL l a 2/\gL l a 2<65536:=by
 have b:=aA7 ((l.drop a).take 2) 2 (Ah h a 2) (by rw[aZD];omega);unfold gL;simp only[Int.reducePow] at b;omega
theorem Qj{l:L Int}(h:aJ l)(a:Nat):0<=gL l a 1/\gL l a 1<256:=by
 have b:=aA7 ((l.drop a).take 1) 1 (Ah h a 1) (by rw[aZD];omega);unfold gL;simp only[Int.reducePow] at b;omega
theorem orL(n b:Int)(e:0<=n/\n<=4294967296)(d:0<=b/\b<=255):Xu .i64 (n*256) b=n*256+b:=by
 obtain⟨n,rfl⟩:=bAI e.1;obtain⟨b,rfl⟩:=bAI d.1;have a:((n:Int)*256)=((n*256:Nat):Int):=by simp
 have c:n*256 ||| b=n*256+b:=by
  have:=Nat.shiftLeft_add_eq_or_of_lt (show b<2 ^ 8 by omega) n;rw[Nat.shiftLeft_eq] at this;exact this.symm
 rw[Xu,a,J1,BitVec.ofInt_natCast,BitVec.ofInt_natCast,BitVec.toNat_or,BitVec.toNat_ofNat,BitVec.toNat_ofNat,bAz (by omega),bAz (by omega),c,Bz (by omega)];simp
theorem cY(l:L Int)(c:aJ l)(a k:Nat)(m:a+k<=l.length)(o:k<=4)(p:l.length<=1000000):EV G (Tb (bs bb)) 15 [sv l,vi a,vi k] []=some (vi (gL l a k),[]):=by
 refine aB rfl ?_;simp (disch:=first|omega|(simp only[aZA,aZB,aZC,aZz,aA];omega)) only[go_sem,h15c]
 rw[aT (fun j=>⟨(sv l::vi a::jk 5 (vi (gL l (a+k-j) j)::vi ((k:Int)-1-j)::jk 16 [])),[]⟩) k ?_ ?_]
 have e:a+k-k=a:=by omega
 have b:¬ 0<=(k:Int)-1-(k:Int):=by omega
 simp (disch:=first|omega|(simp only[aZA,aZB,aZC,aZz,aA];omega)) only[go_sem,h15l0,e,b]
 simp[gL,gv,jk];intro j n;have i:=c _ (aZG (show a+k-1-j<l.length by omega));have g:=kU c (a+k-j) j (by omega);have d:gL l (a+k-(j+1)) (j+1)=gL l (a+k-j) j*256+l[a+k-1-j]'(by omega):=by
  have:a+k-(j+1)<l.length:=by omega
  rw[Yn l _ j this,show a+k-(j+1)+1=a+k-j by omega,Int.mul_comm];rw[Int.add_comm];congr 1;congr 1;omega
 have b:0<=(k:Int)-1-(j:Int):=by omega
 rw[d];generalize gL l (a+k-j) j=z at g ⊢;have f:((a:Int)+((k:Int)-1-(j:Int))).toNat=a+k-1-j:=by omega
 have h:=iB _ i;simp (disch:=first|omega|(simp only[aZA,aZB,aZC,aZz,aA];omega)) only[go_sem,h15l0,eq_true b,aZS,f,h]
 rw[show (k:Int)-1-(j:Int)-1=(k:Int)-1-((j:Int)+1) by omega]
theorem Gr(l:L Int)(c:aJ l)(a k:Nat)(m:a+k<=l.length)(p:k<=4)(q:l.length<=1000000):EV G (Tb (bs bb)) 234 [sv l,vi a,vi k] []=some (vi (gL l a k),[]):=by
 refine aB rfl ?_;simp (disch:=first|omega|(simp only[aZA,aZB,aZC,aZz,aA];omega)) only[go_sem,h234c]
 rw[aT (fun j=>⟨(sv l::vi a::jk 5 (vi (gL l (a+k-j) j)::vi ((k:Int)-1-j)::jk 16 [])),[]⟩) k ?_ ?_]
 have e:a+k-k=a:=by omega
 have b:¬ 0<=(k:Int)-1-(k:Int):=by omega
 simp (disch:=first|omega|(simp only[aZA,aZB,aZC,aZz,aA];omega)) only[go_sem,h234l0,e,b]
 simp[gL,gv,jk];intro j n;have d:=c _ (aZG (show a+k-1-j<l.length by omega));have h:=kU c (a+k-j) j (by omega);have f:gL l (a+k-(j+1)) (j+1)=gL l (a+k-j) j*256+l[a+k-1-j]'(by omega):=by
  have:a+k-(j+1)<l.length:=by omega
  rw[Yn l _ j this,show a+k-(j+1)+1=a+k-j by omega,Int.mul_comm];rw[Int.add_comm];congr 1;congr 1;omega
 have b:0<=(k:Int)-1-(j:Int):=by omega
 rw[f];generalize gL l (a+k-j) j=z at h ⊢;have g:((a:Int)+((k:Int)-1-(j:Int))).toNat=a+k-1-j:=by omega
 have i:=iB _ d;have o:=orL z _ (by omega) d;simp (disch:=first|omega|(simp only[aZA,aZB,aZC,aZz,aA];omega)) only[go_sem,h234l0,eq_true b,aZS,g,i,Int.reduceToNat,Int.reducePow,o]
 rw[show (k:Int)-1-(j:Int)-1=(k:Int)-1-((j:Int)+1) by omega]
theorem gv1(n:Int)(h:0<=n/\n<256):gv (bJ n 1)=n:=by
 show n % 256+256*0=n;omega
theorem gv2(n:Int)(h:0<=n/\n<65536):gv (bJ n 2)=n:=by
 show n % 256+256*(n / 256 % 256+256*0)=n;omega
theorem gv4(n:Int)(h:0<=n/\n<4294967296):gv (bJ n 4)=n:=by
 show n % 256+256*(n / 256 % 256+256*(n / 256 / 256 % 256+256*(n / 256 / 256 / 256 % 256+256*0)))=n;omega
theorem iJ(p L:List Int)(a k:Nat)(h:p.length<=a):gL (p++L) a k=gL L (a-p.length) k:=by
 unfold gL;rw[bA9,bBd (by omega),aZR]
theorem Qk(z L:List Int)(k:Nat)(h:z.length=k):gL (z++L) 0 k=gv z:=by
 unfold gL;rw[bAq,bAW h]
