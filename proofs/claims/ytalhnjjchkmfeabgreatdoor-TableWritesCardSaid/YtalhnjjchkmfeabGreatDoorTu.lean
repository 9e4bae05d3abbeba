/- Part. Conditions: none. -/
import Derived.Test.YtalhnjjchkmfeabGreatDoorVq
namespace Go.Proofs.YtalhnjjchkmfeabGreatDoor
set_option maxHeartbeats 2000000
set_option linter.unusedSimpArgs false
set_option linter.unusedVariables false
set_option maxRecDepth 4000
section
variable {G:aE}{B:aN}
theorem aGU:EV G (Tb B) 227 [vi 7] []=some (vi 128,[]):=by
 refine aA rfl ?_;simp (disch:=first|omega|(simp only[aZa,aZb,aZc,aY9,aB];omega)) only[go_sem,h227c,Int.reduceMul,Int.reduceToNat,Int.reducePow]
theorem aGV:EV G (Tb B) 227 [vi 8] []=some (vi 256,[]):=by
 refine aA rfl ?_;simp (disch:=first|omega|(simp only[aZa,aZb,aZc,aY9,aB];omega)) only[go_sem,h227c,Int.reduceMul,Int.reduceToNat,Int.reducePow]
theorem aAk:EV G (Tb B) 227 [vi 15] []=some (vi 32768,[]):=by
 refine aA rfl ?_;simp (disch:=first|omega|(simp only[aZa,aZb,aZc,aY9,aB];omega)) only[go_sem,h227c,Int.reduceMul,Int.reduceToNat,Int.reducePow]
theorem aAl:EV G (Tb B) 227 [vi 16] []=some (vi 65536,[]):=by
 refine aA rfl ?_;simp (disch:=first|omega|(simp only[aZa,aZb,aZc,aY9,aB];omega)) only[go_sem,h227c,Int.reduceMul,Int.reduceToNat,Int.reducePow]
theorem Tt(l:L Int)(c:aH l)(a:Nat)(d:a+1<=l.length)(f:l.length<=1000000):EV G (Tb B) 67 [sv l,vi a,vi 1] []=some (vi (l[a]'(by omega)),[]):=by
 refine aA rfl ?_;have g:=c _ (aZk (show a<l.length by omega));simp (disch:=first|omega|(simp only[aZa,aZb,aZc,aY9,aB];omega)) only[go_sem,h67c,Int.reduceSub]
 rw[aQ (fun k=>⟨(sv l::vi a::jk 5 (vi (tb3 0 (l[a]'(by omega)) 0 k)::vi (tb3 0 (-1) (-1) k)::jk 16 [])),[]⟩) 1 ?_ ?_]
 simp (disch:=first|omega|(simp only[aZa,aZb,aZc,aY9,aB];omega)) only[go_sem,h67l0,Dw]
 rfl;intro k e;have b:k=0:=by omega
 subst b;simp (disch:=first|omega|(simp only[aZa,aZb,aZc,aY9,aB];omega)) only[go_sem,h67l0,aAf,Dw,Int.reduceMul,Int.reduceSub,aZu,Int.add_zero,aZP]
theorem Tu(l:L Int)(b:aH l)(a:Nat)(c:a+2<=l.length)(e:l.length<=1000000):EV G (Tb B) 67 [sv l,vi a,vi 2] []=some (vi ((l[a+1]'(by omega))*256+l[a]'(by omega)),[]):=by
 refine aA rfl ?_;have f:=b _ (aZk (show a<l.length by omega));have g:=b _ (aZk (show a+1<l.length by omega));simp (disch:=first|omega|(simp only[aZa,aZb,aZc,aY9,aB];omega)) only[go_sem,h67c,Int.reduceSub]
 rw[aQ (fun k=>⟨(sv l::vi a::jk 5 (vi (tb3 0 (l[a+1]'(by omega)) ((l[a+1]'(by omega))*256+l[a]'(by omega)) k)::vi (tb3 1 0 (-1) k)::jk 16 [])),[]⟩) 2 ?_ ?_]
 simp (disch:=first|omega|(simp only[aZa,aZb,aZc,aY9,aB];omega)) only[go_sem,h67l0,Tk]
 rfl;intro k d;rcases (show k=0\/k=1 by omega) with rfl|rfl
 simp (disch:=first|omega|(simp only[aZa,aZb,aZc,aY9,aB];omega)) only[go_sem,h67l0,aAf,Dw,Int.reduceMul,Int.reduceSub,aZu,Int.add_zero,aZP,Int.zero_mul]
 simp (disch:=first|omega|(simp only[aZa,aZb,aZc,aY9,aB];omega)) only[go_sem,h67l0,Dw,Tk,Int.reduceMul,Int.reduceSub,aZu,Int.add_zero,aZP]
theorem tK(l:L Int)(f:aH l)(b a:Nat)(j:a=1\/a=2)(h:b+a<=l.length)(i:l.length<=1000000):EV G (Tb B) 175 [sv l,vi b,vi a] []=some (.tup [.one (.dc (ci (dG (l.drop b) a).1)),.one (bC (dG (l.drop b) a).2.1)],[]):=by
 refine aA rfl ?_;have k:=f _ (aZk (show b<l.length by omega));rcases j with rfl|rfl
 have e:=Tt (G:=G) (B:=B) l f b h i;rw[aZ4 (show b<l.length by omega)];generalize l[b]=x at *;have g:dG (x::List.drop (b+1) l) 1=(nZ [x],decide (sz (nZ [x])=1),List.drop (b+1) l):=by rw[dG,if_neg (by simp)];rfl
 rw[g];simp only[nZ];by_cases c:128<=x;have d:=pG (G:=G) (B:=B) (x-256) (by omega);have z:=tY (x-256);have q:(((sz (x-256)).toNat:Nat):Int)=sz (x-256):=by omega
 simp (disch:=first|omega|(simp only[aZa,aZb,aZc,aY9,aB];omega)) only[go_sem,h175c,e,d,c,aGU,aGV,Int.reduceMul,Int.reduceSub,Int.natCast_one,bC,aB,q]
 have d:=pG (G:=G) (B:=B) x (by omega);have z:=tY x;have q:(((sz x).toNat:Nat):Int)=sz x:=by omega
 simp (disch:=first|omega|(simp only[aZa,aZb,aZc,aY9,aB];omega)) only[go_sem,h175c,e,d,c,aGU,aGV,Int.reduceMul,Int.reduceSub,Int.natCast_one,bC,aB,q]
 have e:=Tu (G:=G) (B:=B) l f b h i;have m:=f _ (aZk (show b+1<l.length by omega));rw[aZ4 (show b<l.length by omega),aZ4 (show b+1<l.length by omega)];generalize l[b]=x at *;generalize l[b+1]=y at *;have g:dG (x::y::List.drop (b+1+1) l) 2=(nZ [x,y],decide (sz (nZ [x,y])=2),List.drop (b+1+1) l):=by rw[dG,if_neg (by simp)];rfl
 rw[g];simp only[nZ];rw[show ((2:Nat):Int)=2 from rfl]
 by_cases c:32768<=y*256+x;have d:=pG (G:=G) (B:=B) (y*256+x-65536) (by omega);have z:=tY (y*256+x-65536);have q:(((sz (y*256+x-65536)).toNat:Nat):Int)=sz (y*256+x-65536):=by omega
 simp (disch:=first|omega|(simp only[aZa,aZb,aZc,aY9,aB];omega)) only[go_sem,h175c,e,d,c,aAk,aAl,Int.reduceMul,Int.reduceSub,bC,aB,q]
 have d:=pG (G:=G) (B:=B) (y*256+x) (by omega);have z:=tY (y*256+x);have q:(((sz (y*256+x)).toNat:Nat):Int)=sz (y*256+x):=by omega
 simp (disch:=first|omega|(simp only[aZa,aZb,aZc,aY9,aB];omega)) only[go_sem,h175c,e,d,c,aAk,aAl,Int.reduceMul,Int.reduceSub,bC,aB,q]
theorem aCM(a h:Int)(t:L Int)(c:¬ ((1<=h % 16/\h % 16<=2)/\h / 16<=2)):(iY a h t).2.1=false:=by
 rw[iY,if_neg c]
theorem Jx{bs:L Int}{a:Nat}(h:bs.length<a):dG bs a=(0,false,bs):=if_pos h
theorem A2{bs:L Int}{a:Nat}(h:a<=bs.length):(dG bs a).2.2=bs.drop a:=by rw[dG,if_neg (by omega)]
theorem Pn(a h:Int)(t:L Int)(c:(dG t (h % 16).toNat).2.1=false):(iY a h t).2.1=false:=by
 rw[iY];split;rw[if_pos (Or.inl c)];exact c;rfl
theorem Xa(a h:Int)(t:L Int)(c:(1<=h % 16/\h % 16<=2)/\(0<=h / 16/\h / 16<=2))(f:(t.length:Int)<h % 16+h / 16):(iY a h t).2.1=false:=by
 by_cases e:t.length<(h % 16).toNat;exact Pn _ _ _ (by rw[Jx e]);by_cases b:(dG t (h % 16).toNat).2.1=false;exact Pn _ _ _ b
 rw[iY,if_pos ⟨c.1,c.2.2⟩,if_neg (by
  rintro (d | d)
  ·exact b d
  ·omega)]
 rw[A2 (by omega),Jx (bs:=t.drop (h % 16).toNat) (by rw[aZh];omega)];rfl
theorem aAm(a h:Int)(t:L Int)(c:1<=h % 16/\h % 16<=2)(b:h / 16=0)(d:(h % 16).toNat<=t.length):iY a h t=(⟨-1,(dG t (h % 16).toNat).1⟩,(dG t (h % 16).toNat).2.1,t.drop (h % 16).toNat):=by
 rw[iY,if_pos ⟨c,by omega⟩,if_pos (Or.inr b),A2 d]
theorem aGW(a h:Int)(t:L Int)(c:(1<=h % 16/\h % 16<=2)/\(1<=h / 16/\h / 16<=2))(d:(h % 16).toNat+(h / 16).toNat<=t.length)(b:(dG t (h % 16).toNat).2.1=true):iY a h t=(⟨a+(dG (t.drop (h % 16).toNat) (h / 16).toNat).1,(dG t (h % 16).toNat).1⟩,(dG (t.drop (h % 16).toNat) (h / 16).toNat).2.1&&!decide (a+(dG (t.drop (h % 16).toNat) (h / 16).toNat).1=-1),t.drop ((h % 16).toNat+(h / 16).toNat)):=by
 rw[iY,if_pos ⟨c.1,c.2.2⟩,if_neg (by rw[b];simp;omega),A2 (by omega),A2 (bs:=t.drop (h % 16).toNat) (by rw[aZh];omega),aZ6]
theorem Jy(bs:L Int)(a:Nat):(dG bs a).2.2 <:+ bs:=by
 unfold dG;split;exact List.suffix_refl _;exact List.drop_suffix _ _
theorem aGX(a h:Int)(t:L Int):(iY a h t).2.2 <:+ t:=by
 unfold iY;split;split;exact Jy _ _;exact (Jy _ _).trans (Jy _ _);exact List.suffix_refl _
theorem Xb(s:L Int):∀k,(dK s k).bs <:+ s
 |0=>List.suffix_refl _
 | k+1=>by
  have b:=Xb s k;simp only[dK];generalize dK s k=z at b ⊢;obtain⟨bs,a,c⟩:=z;cases bs with
  | nil=>simp[gJ]
  | cons h t=>
   simp only[gJ];split
   ·exact b
   ·split
    ·exact (aGX a h t).trans ((List.suffix_cons h t).trans b)
    ·exact b
theorem aLK{s bs:L Int}(h:bs <:+ s):s.drop (s.length-bs.length)=bs:=(List.suffix_iff_eq_drop.1 h).symm
theorem Tv{s t:L Int}{h:Int}(b:(h::t) <:+ s):∃a,s.length=a+(t.length+1)/\s.length-(h::t).length=a/\s.drop (a+1)=t/\∃e:a<s.length,s[a]=h:=by
 have d:=b.length_le;simp only[aZb] at d;refine⟨s.length-(t.length+1),by omega,rfl,?_,by omega,?_⟩;all_goals
  have c:=aLK b;rw[aZb,aZ4 (by omega)] at c
 exact (List.cons.inj c).2;exact (List.cons.inj c).1
theorem Lm(s:L Int)(o:aH s)(P:¬ (s.length:Int) > 400)(k:Nat)(A:∀j,j<=k->¬ gJ (dK s j)=none):K7 [0,3,0,0] 1 (EC (EV G (Tb B)) G h123l0 ⟨(sv s::jk 3 (.one (.bld 0 (dK s k).out.length)::vi ((s.length-(dK s k).bs.length:Nat))::vi (dK s k).last::jk 106 [])),[.arr 0 2 ((dK s k).out.map aV.e)]⟩)= some ⟨(sv s::jk 3 (.one (.bld 0 (dK s (k+1)).out.length)::vi ((s.length-(dK s (k+1)).bs.length:Nat))::vi (dK s (k+1)).last::jk 106 [])),[.arr 0 2 ((dK s (k+1)).out.map aV.e)]⟩:=by
 obtain⟨E,F,H,v⟩:=Tm s o k (fun j S=>A j (by omega))
 have d:=A k (aZe _);have i:=Xb s k;rw[show dK s (k+1)=(gJ (dK s k)).getD (dK s k) from rfl]
 generalize dK s k=z at *;obtain⟨bs,b,O⟩:=z;simp only at d E F H v i ⊢;cases bs with
 |nil=>exact absurd rfl d
 |cons h t=>
  obtain⟨R,J⟩:=jX v;obtain⟨a,Q,p,w,I,y⟩:=Tv i;rw[p];by_cases c:h=0;simp[gJ,c] at d;simp only[gJ,if_neg c] at d ⊢;by_cases g:(1<=h % 16/\h % 16<=2)/\h / 16<=2;by_cases D:(t.length:Int)<h % 16+h / 16;rw[Xa b h t ⟨g.1,by omega⟩ D] at d;simp at d;have l:=tK (G:=G) (B:=B) s o (a+1) (h % 16).toNat (by omega) (by omega) (by omega);rw[w,show ((a+1:Nat):Int)=(a:Int)+1 by omega,show (((h % 16).toNat:Nat):Int)=h % 16 by omega] at l;cases f:(dG t (h % 16).toNat).2.1 with
  |false=>rw[Pn b h t f] at d;simp at d
  |true=>
   rw[f] at l;by_cases m:h / 16=0;rw[aAm b h t g.1 m (by omega),f] at d ⊢;have q:(((s.length-(t.drop (h % 16).toNat).length:Nat)):Int)=(a:Int)+1+h % 16:=by rw[aZh];omega
   generalize (dG t (h % 16).toNat).1=n1 at *;simp only[if_true,aZU];rw[q];simp (disch:=first|omega|(simp only[aZa,aZb,aZc,aY9,aB];omega)) only[go_sem,h123l0,y,c,g,m,oX,nH,bQ,l,bC,aZu,Dq,aZa,Int.add_zero]
   have u:=tK (G:=G) (B:=B) s o (a+1+(h % 16).toNat) (h / 16).toNat (by omega) (by omega) (by omega);rw[<- aZ6,w,show ((a+1+(h % 16).toNat:Nat):Int)=(a:Int)+1+h % 16 by omega,show (((h / 16).toNat:Nat):Int)=h / 16 by omega] at u;rw[aGW b h t ⟨g.1,by omega⟩ (by omega) f] at d ⊢;have q:(((s.length-(t.drop ((h % 16).toNat+(h / 16).toNat)).length:Nat)):Int)=(a:Int)+1+h % 16+h / 16:=by rw[aZh];omega
   have M:=Dy (Dx J (fun x K=>aZM K):aH (t.drop (h % 16).toNat)) (h / 16).toNat
   generalize (dG t (h % 16).toNat).1=n1 at *;generalize (dG (t.drop (h % 16).toNat) (h / 16).toNat)=C at *;obtain⟨N,r,T⟩:=C;simp only at d u M ⊢;cases r;simp at d;by_cases n:b+N=-1;simp[n] at d;simp only[n,decide_false,aZF,Bool.and_self,if_true,if_false,aZU];rw[q];simp (disch:=first|omega|(simp only[aZa,aZb,aZc,aY9,aB];omega)) only[go_sem,h123l0,y,c,g,m,n,oX,nH,bQ,l,u,bC,aZu,Dq,aZa]
  rw[aCM b h t g] at d;simp at d
theorem My(s:L Int)(n:aH s):EV G (Tb B) 123 [sv s] []=some (.tup [.one (.dc (.slc ((nV s).1.map aV.e))),.one (.dc (ci (nV s).2))],[]):=by
 refine aA rfl ?_;unfold nV;by_cases q:(s.length:Int) > 400;rw[if_pos q];simp (disch:=first|omega|(simp only[aZa,aZb,aZc,aY9,aB];omega)) only[go_sem,h123c,aZm]
 rw[if_neg q];simp (disch:=first|omega|(simp only[aZa,aZb,aZc,aY9,aB];omega)) only[go_sem,h123c]
 rw[dP (fun k=>⟨(sv s::jk 3 (.one (.bld 0 (dK s k).out.length)::vi ((s.length-(dK s k).bs.length:Nat))::vi (dK s k).last::jk 106 [])),[.arr 0 2 ((dK s k).out.map aV.e)]⟩) (fun k=>gJ (dK s k)=none) (s.length+1) ?_ ?_]
 obtain⟨S,g,E⟩:=Mt s n;obtain⟨F,H,I,w⟩:=Tm s n _ E;have o:=Xb s (Cc s);rw[show ix (fun k=>gJ (dK s k)=none) (s.length+1)=Cc s from rfl]
 generalize dK s (Cc s)=z at *;obtain⟨bs,b,d⟩:=z;simp only at g F H I w o ⊢;cases bs with
 |nil=>
  rw[show qM ⟨[],b,d⟩=([],3) from rfl]
  simp only[aZc,Nat.sub_zero];simp (disch:=first|omega|(simp only[aZa,aZb,aZc,aY9,aB];omega)) only[go_sem,h123l0,aZm]
 |cons h t=>
  obtain⟨T,N⟩:=jX w;obtain⟨a,y,u,A,J,i⟩:=Tv o;rw[u];by_cases c:h=0;subst c
  match t with
  |[]=>
   simp only[aZc] at y;by_cases f:(nC d).2=0;rw[show qM ⟨[0],b,d⟩=(d,0) by simp[qM,Bi,f]];simp (disch:=first|omega|(simp only[aZa,aZb,aZc,aY9,aB];omega)) only[go_sem,h123l0,i,aGd,f,jQ,aZu]
   rw[show qM ⟨[0],b,d⟩=([],(nC d).2) by simp[qM,Bi,f]];simp (disch:=first|omega|(simp only[aZa,aZb,aZc,aY9,aB];omega)) only[go_sem,h123l0,i,aGd,f,jQ,aZm,aZu]
  |x::t=>
   simp only[aZb] at y;rw[show qM ⟨0::x::t,b,d⟩=([],3) by simp[qM,Bi]];simp (disch:=first|omega|(simp only[aZa,aZb,aZc,aY9,aB];omega)) only[go_sem,h123l0,i,aZm,aZu]
  simp only[gJ,if_neg c] at g;rw[show qM ⟨h::t,b,d⟩=([],3) by simp[qM,Bi,c]];have g:(iY b h t).2.1=false:=by
   cases M:(iY b h t).2.1 with
   |false=>rfl
   |true=>rw[M] at g;simp at g
  by_cases l:1<=h % 16/\h % 16<=2;by_cases f:h / 16<=2;by_cases R:(t.length:Int)<h % 16+h / 16;simp (disch:=first|omega|(simp only[aZa,aZb,aZc,aY9,aB];omega)) only[go_sem,h123l0,i,c,l,f,oX,nH,bQ,aZu,aZm]
  have m:=tK (G:=G) (B:=B) s n (a+1) (h % 16).toNat (by omega) (by omega) (by omega);rw[A,show ((a+1:Nat):Int)=(a:Int)+1 by omega,show (((h % 16).toNat:Nat):Int)=h % 16 by omega] at m;cases j:(dG t (h % 16).toNat).2.1 with
  |false=>
   rw[j] at m;simp (disch:=first|omega|(simp only[aZa,aZb,aZc,aY9,aB];omega)) only[go_sem,h123l0,i,c,l,f,oX,nH,bQ,m,bC,aZu,aZm]
  |true=>
   rw[j] at m;by_cases r:h / 16=0;rw[aAm b h t l r (by omega),j] at g;cases g;have p:=tK (G:=G) (B:=B) s n (a+1+(h % 16).toNat) (h / 16).toNat (by omega) (by omega) (by omega);rw[<- aZ6,A,show ((a+1+(h % 16).toNat:Nat):Int)=(a:Int)+1+h % 16 by omega,show (((h / 16).toNat:Nat):Int)=h / 16 by omega] at p;rw[aGW b h t ⟨l,by omega⟩ (by omega) j] at g;have P:=Dy (Dx N (fun x O=>aZM O):aH (t.drop (h % 16).toNat)) (h / 16).toNat
   generalize (dG t (h % 16).toNat).1=n1 at *;generalize (dG (t.drop (h % 16).toNat) (h / 16).toNat)=C at *;obtain⟨Q,v,V⟩:=C;simp only at g p P;cases v;simp (disch:=first|omega|(simp only[aZa,aZb,aZc,aY9,aB];omega)) only[go_sem,h123l0,i,c,l,f,r,oX,nH,bQ,m,p,bC,aZu,aZm]
   have D:b+Q=-1:=by simpa using g
   simp (disch:=first|omega|(simp only[aZa,aZb,aZc,aY9,aB];omega)) only[go_sem,h123l0,i,c,l,f,r,D,oX,nH,bQ,m,p,bC,aZu,aZm]
  simp (disch:=first|omega|(simp only[aZa,aZb,aZc,aY9,aB];omega)) only[go_sem,h123l0,i,c,l,f,oX,nH,bQ,aZu,aZm]
  simp (disch:=first|omega|(simp only[aZa,aZb,aZc,aY9,aB];omega)) only[go_sem,h123l0,i,c,l,oX,nH,bQ,aZu,aZm]
 rw[show s.length-(dK s 0).bs.length=0 from aZ1 _];rfl
 intro k U K;exact Lm s n q k K
end
section
variable {G:aE}{bb:Bool}
theorem aAn{p:Nat->Prop}{n m:Nat}(f:m<n)(c:p m)(d:∀j,j<m->¬ p j):ix p n=m:=by
 obtain⟨e,a,b⟩:=bI p n;rcases Nat.lt_trichotomy (ix p n) m with h|h|h;rcases a with a|⟨_,a⟩;omega;exact absurd a (d _ h);exact h;exact absurd c (b _ h)
theorem Ac(n:Int):sz n=1\/sz n=2:=by unfold sz;split<;>simp
theorem aU3(n:Int)(h:-128<=n/\n<=127):nZ (bJ n 1)=n:=by
 show nZ [n % 256]=n;simp only[nZ];split<;>omega
theorem aU4(n:Int)(h:-32768<=n/\n<=32767):nZ (bJ n 2)=n:=by
 show nZ [n % 256,n / 256 % 256]=n;simp only[nZ];split<;>omega
theorem Po(n:Int)(h:-32768<=n/\n<=32767)(a:L Int):dG (bJ n (sz n).toNat++a) (sz n).toNat=(n,true,a):=by
 unfold dG;rw[if_neg (by rw[aZa,aB];omega),bAo (aB _ _),List.drop_left' (aB _ _)];have e:nZ (bJ n (sz n).toNat)=n:=by
  unfold sz;split;exact aU3 n (by assumption);exact aU4 n h
 rw[e];have:sz n=((sz n).toNat:Int):=by have:=Ac n;omega
 rw[decide_eq_true this]
theorem Jz(t:L Int)(a:Nat)(h:t.length<a):(dG t a).2.1=false:=by
 unfold dG;rw[if_pos h]
def uG(a:Int)(r:aV):Int:=if r.s=-1 then sz r.n else 16*sz (r.s-a)+sz r.n
def D3(a:Int)(r:aV):L Int:=if r.s=-1 then bJ r.n (sz r.n).toNat else bJ r.n (sz r.n).toNat++bJ (r.s-a) (sz (r.s-a)).toNat
theorem tL(a:Int)(r:aV):nP a r=uG a r::D3 a r:=by
 unfold nP uG D3;split<;>rfl
theorem Pp(a:Int)(r:aV):uG a r≠0:=by
 have b:=Ac r.n;have c:=Ac (r.s-a);unfold uG;split<;>omega
theorem Xc{r:aV}(h:bR r.s r.n=0):(1<=r.n/\r.n<=4096)/\(r.s=-1\/0<=r.s/\r.s<=511):=by
 rcases lS h with⟨a,b,h3⟩|⟨s,n,a,b,h3,h4⟩;exact⟨by omega,by omega⟩
 exact⟨by omega,by omega⟩
theorem aGY{a:Int}{r:aV}(f:bR r.s r.n=0)(j:0<=a/\a<=511)(b:L Int):iY a (uG a r) (D3 a r++b)=(r,true,b):=by
 obtain⟨⟨g,h⟩,i⟩:=Xc f;have k:=Ac r.n;have l:=Ac (r.s-a);have n1:=Po r.n (by omega);unfold uG D3;by_cases c:r.s=-1;rw[if_pos c,if_pos c];have d:sz r.n % 16=sz r.n:=by omega
 have e:sz r.n / 16=0:=by omega
 unfold iY;rw[d,e,if_pos (by omega),if_pos (.inr rfl),n1 b];simp only;cases r;simp only at c;rw[c];rw[if_neg c,if_neg c];have d:(16*sz (r.s-a)+sz r.n) % 16=sz r.n:=by omega
 have e:(16*sz (r.s-a)+sz r.n) / 16=sz (r.s-a):=by omega
 unfold iY;rw[d,e,if_pos (by omega),aZr,n1,if_neg (by simp;omega)];simp only;rw[Po (r.s-a) (by omega) b];simp only;rw[show a+(r.s-a)=r.s by omega,decide_eq_false c];cases r;rfl
theorem aGZ{a:Int}{r:aV}(g:bR r.s r.n=0)(l:0<=a/\a<=511)(m:Nat)(b:m<(D3 a r).length):(iY a (uG a r) ((D3 a r).take m)).2.1=false:=by
 obtain⟨⟨i,j⟩,k⟩:=Xc g;have o:=Ac r.n;have p:=Ac (r.s-a);have n1:=Po r.n (by omega);unfold D3 at b ⊢;unfold uG;by_cases c:r.s=-1;rw[if_pos c] at b ⊢;rw[if_pos c];rw[aB] at b;have d:sz r.n % 16=sz r.n:=by omega
 have e:sz r.n / 16=0:=by omega
 unfold iY;rw[d,e,if_pos (by omega),if_pos (.inr rfl)];exact Jz _ _ (by rw[aZd,aB];omega);rw[if_neg c] at b ⊢;rw[if_neg c];rw[aZa,aB,aB] at b;have d:(16*sz (r.s-a)+sz r.n) % 16=sz r.n:=by omega
 have e:(16*sz (r.s-a)+sz r.n) / 16=sz (r.s-a):=by omega
 unfold iY;rw[d,e,if_pos (by omega)];by_cases h:m<(sz r.n).toNat;have f:=Jz ((bJ r.n (sz r.n).toNat++bJ (r.s-a) (sz (r.s-a)).toNat).take m) (sz r.n).toNat (by rw[aZd];omega);rw[if_pos (.inl f)];exact f;rw[List.take_append,aB,aZI (by rw[aB];omega),n1,if_neg (by simp;omega)];simp only;rw[Jz _ _ (by rw[aZd,aB];omega)];rfl
def Hi(a:Int)(r:aV):Int:=if r.s=-1 then a else r.s
theorem Mz{a:Int}{r:aV}(e:bR r.s r.n=0)(d:0<=a/\a<=511)(b:L Int)(c:L aV):gJ ⟨nP a r++b,a,c⟩=some ⟨b,Hi a r,c++[r]⟩:=by
 rw[tL];unfold gJ;simp only[aZp];rw[if_neg (Pp _ _),aGY e d];simp only[if_true];rfl
def dQ(a:Int):L aV->L Int
 |[]=>[]
 |r::l=>nP a r++dQ (Hi a r) l
theorem Fb(l:L aV):(jR l).1=dQ 0 l:=by
 have b:∀(l:L aV)(p:L Int)(a:Int),(l.foldl est (p,a)).1=p++dQ a l:=by
  intro l
  induction l with
  |nil=>intro p a;simp[dQ]
  |cons r l c=>
   intro p a;have e:est (p,a) r=(p++nP a r,Hi a r):=rfl;rw[List.foldl_cons,e,c];simp only[dQ,aZr]
 have:=b l [] 0;simpa[jR] using this
def dM:Nat->DS->DS
 |0,z=>z
 |k+1,z=>(gJ (dM k z)).getD (dM k z)
theorem Xd(s:L Int):∀k,dK s k=dM k ⟨s,0,[]⟩
 |0=>rfl
 |k+1=>by rw[dK,dM,Xd s k]
theorem A3{z a:DS}(h:gJ z=some a):∀k,dM (k+1) z=dM k a
 |0=>by show (gJ z).getD z=a;rw[h];rfl
 |k+1=>by rw[dM,A3 h k,dM]
theorem aG0{a:Int}{r:aV}(b:bR r.s r.n=0)(c:0<=a/\a<=511):0<=Hi a r/\Hi a r<=511:=by
 have:=(Xc b).2;unfold Hi;split<;>omega
theorem aG1:∀(l:L aV)(a:Int)(c:L aV)(b:L Int),(∀r∈l,bR r.s r.n=0)->0<=a/\a<=511-> (∃x,dM l.length ⟨dQ a l++b,a,c⟩=⟨b,x,c++l⟩)/\∀j,j<l.length->¬ gJ (dM j ⟨dQ a l++b,a,c⟩)=none
 |[],a,c,b,_,_=>⟨⟨a,by simp[dM,dQ]⟩,fun j d=>by simp at d⟩
 | r::l,a,c,b,h,k=>by
  have m:=h r aZt;have f:=Mz m k (dQ (Hi a r) l++b) c;obtain⟨⟨x,o⟩,p⟩:=aG1 l (Hi a r) (c++[r]) b (fun q t=>h q (aZB _ t)) (aG0 m k)
  have e:dQ a (r::l)++b=nP a r++(dQ (Hi a r) l++b):=by rw[dQ,aZr]
  rw[e];refine⟨⟨x, ?_⟩,fun j d=>?_⟩
  ·show dM (l.length+1) _=_;rw[A3 f,o,aZr];rfl
  ·cases j with
   | zero=>
    intro g;have i:gJ ⟨nP a r++(dQ (Hi a r) l++b),a,c⟩=none:=g;rw[f] at i;cases i
   | succ j=>rw[A3 f];exact p j (by simpa using d)
theorem Tw{l:L aV}(h:(nC l).2=0):(dQ 0 l).length<=320:=by
 rw[<- Fb];exact Js h
theorem Pq{l:L aV}(h:(nC l).2=0):nV ((jR l).1++[0])=(l,0):=by
 have d:=Tw h;obtain⟨⟨x,c⟩,e⟩:=aG1 l 0 [] [0] (Jc h) (by omega);have k:=oW h;have b:l.length<(dQ 0 l++[0]).length+1:=by
  have:∀(l:L aV)(a:Int),l.length<=(dQ a l).length:=by
   intro l
   induction l with
   |nil=>intro _;simp
   |cons r l i=>intro a;have:=i (Hi a r);simp only[dQ,tL,aZa,aZb];omega
  have:=this l 0;simp only[aZa,aZb,aZc];omega
 rw[Fb];have f:Cc (dQ 0 l++[0])=l.length:=by
  unfold Cc;refine aAn b ?_ (fun j g=>?_)
  rw[Xd,c];rfl;rw[Xd];exact e j g
 unfold nV;rw[if_neg (by simp only[aZa,aZb,aZc];omega),f,Xd,c];unfold qM;rw[if_neg (by simp[Bi]),if_neg (by simp only[aZn];omega)];rfl
theorem M0:∀(l:L aV)(a:Int)(b:L aV)(m:Nat),(∀r∈l,bR r.s r.n=0)->0<=a/\a<=511->m<(dQ a l).length+1-> ∃k,k<=m/\gJ (dM k ⟨(dQ a l++[0]).take m,a,b⟩)=none/\(∀j,j<k->¬ gJ (dM j ⟨(dQ a l++[0]).take m,a,b⟩)=none)/\Bi (dM k ⟨(dQ a l++[0]).take m,a,b⟩).bs≠0
 | [],a,b,m,_,_,p=>by
  have:m=0:=by simp[dQ] at p;omega
  subst this;exact⟨0,aZe _,rfl,fun j i=>by omega,by simp[dM,Bi]⟩
 | r::l,a,b,m,h,o,p=>by
  have t:=h r aZt;have e:dQ a (r::l)++[0]=nP a r++(dQ (Hi a r) l++[0]):=by rw[dQ,aZr]
  rw[e];rw[dQ,aZa] at p;by_cases f:(nP a r).length<=m
  ·have v:0 < (nP a r).length:=by rw[tL];simp
   have d:(nP a r++(dQ (Hi a r) l++[0])).take m=nP a r++(dQ (Hi a r) l++[0]).take (m - (nP a r).length):=by
    rw[List.take_append,aZI f]
   rw[d];have c:=Mz t o ((dQ (Hi a r) l++[0]).take (m - (nP a r).length)) b;obtain⟨k,k0,y,z,A⟩:=M0 l (Hi a r) (b++[r]) (m - (nP a r).length) (fun q x=>h q (aZB _ x)) (aG0 t o) (by omega)
   refine⟨k+1,by omega,by rw[A3 c];exact y,fun j i=>?_,by rw[A3 c];exact A⟩
   cases j with
   | zero=>
    intro g;have u:gJ ⟨nP a r++(dQ (Hi a r) l++[0]).take (m - (nP a r).length),a,b⟩=none:=g;rw[c] at u;cases u
   | succ j=>rw[A3 c];exact z j (by omega)
  ·have d:(nP a r++(dQ (Hi a r) l++[0])).take m=(nP a r).take m:=by
    rw[bAs (by omega)]
   rw[d];cases m with
   | zero=>exact⟨0,aZe _,rfl,fun j i=>by omega,by simp[dM,Bi]⟩
   | succ m=>
    rw[tL] at f ⊢;rw[bAt];have hf:=aGZ t o m (by simp only[aZb] at f;omega);refine⟨0,by omega, ?_,fun j i=>by omega, ?_⟩
    ·show (if uG a r=0 then none else if (iY a (uG a r) ((D3 a r).take m)).2.1=true then some _ else none)=none
     rw[if_neg (Pp _ _),hf,if_neg (by decide)]
    ·have w:Bi (uG a r::(D3 a r).take m)=3:=by
      unfold Bi;exact if_neg (fun g=>Pp _ _ g.1)
     show Bi (uG a r::(D3 a r).take m)≠0;rw[w]
     decide
theorem aQn{l:L aV}(h:(nC l).2=0)(m:Nat)(b:m<(jR l).1.length+1):(nV (((jR l).1++[0]).take m)).2≠0:=by
 have a:=Tw h;rw[Fb] at b ⊢;obtain⟨k,k0,e,f,g⟩:=M0 l 0 [] m (Jc h) (by omega) b;have c:Cc ((dQ 0 l++[0]).take m)=k:=by
  unfold Cc;refine aAn (by rw[aZd,aZa];simp only[aZb,aZc];omega) ?_ (fun j d=>?_)
  rw[Xd];exact e;rw[Xd];exact f j d
 unfold nV;rw[if_neg (by rw[aZd];simp only[aZa,aZb,aZc];omega),c,Xd];unfold qM;rw[if_pos g];decide
end
section
variable {G:aE}{bb:Bool}
theorem A4(p L:List Int)(n:Int)(a:Nat)(h:p.length<=a):∀k,aY (p++L) a n k=p++aY L (a-p.length) n k
 |0=>rfl
 | k+1=>by
  rw[aY,A4 p L n a h k,aY,List.set_append_right _ _ (by omega)];congr 2;omega
theorem Fc(z X:L Int)(n:Int):∀k,z.length=k->aY (z++X) 0 n k=bJ n k++X:=by
 have b:∀(k:Nat)(z X:L Int),z.length=k->aY (z++X) 0 n k=bJ n k++X:=by
  intro k
  induction k with
  |zero=>
   intro z X h;have:z=[]:=List.length_eq_zero_iff.1 h;subst this;rfl
  |succ k d=>
   intro z X h;obtain⟨a,x,rfl⟩:∃a x,z=a++[x]:=by
    rcases List.eq_nil_or_concat z with rfl|⟨a,x,e⟩;simp at h;exact⟨a,x,by rw[e,List.concat_eq_append]⟩
   have c:a.length=k:=by simpa using h
   rw[aY,aZr,d a ([x]++X) c,aZ0,List.set_append_right _ _ (by rw[aB];omega),aB,aZ1,bJ,aZr];rfl
 exact fun k h=>b k z X h
theorem J0(p L s:List Int)(a:Nat)(h:p.length<=a):gI (p++L) a s=p++gI L (a-p.length) s:=by
 unfold gI;rw[List.take_append,aZI h,List.drop_append,List.drop_of_length_le (by omega),aZn,aZr,aZr];rw[show a+s.length-p.length=a-p.length+s.length by omega,aZr]
theorem aG2(z X s:L Int)(h:z.length=s.length):gI (z++X) 0 s=s++X:=by
 unfold gI;rw[bAg,aZn,aZ0,List.drop_left' h]
theorem Ps(z X s:L Int)(a:Nat)(b:a=0)(h:z.length=s.length):gI (z++X) a s=s++X:=by subst b;exact aG2 z X s h
theorem Xe(a b:Nat):zl (a+b)=zl a++zl b:=by unfold zl;rw[List.replicate_append_replicate]
structure aK.Dc (a:aK):Prop where
 ty:0<=a.ty/\a.ty<4294967296
 nm:aH a.nm
 nl:a.nm.length<=255
 id:0<=a.id/\a.id<65536
 fl:0<=a.fl/\a.fl<65536
 va:aH a.va
 vl:a.va.length<=1000
 t:a.res=true->a.rs=[]/\a.fi=0/\a.al=0/\a.sz=0/\a.vd=0
 f:a.res=false->a.va=[]/\(nC a.rs).2=0/\(0<=a.fi/\a.fi<4294967296)/\(0<=a.al/\a.al<4294967296)/\(0<=a.sz/\a.sz<4294967296)/\(0<=a.vd/\a.vd<4294967296)
theorem aK.Dc.bd{a:aK}(h:a.Dc):a.Bd:=by
 have m:=h.ty;have n:=h.nl;have h3:=h.id;have h4:=h.fl;have h5:=h.vl;cases c:a.res with
 |true=>
  obtain⟨b,d,e,g,i⟩:=h.t c;have:gP a.rs=0:=by rw[b];rfl
  exact⟨h.nm,h.va,by omega,by omega,by rw[b];simp,by omega,by omega,by omega,by omega,by omega,by omega,by omega,by omega⟩
 |false=>
  obtain⟨b,d,e,g,i,o⟩:=h.f c;obtain⟨j,k,l⟩:=Jr d;exact⟨h.nm,h.va,by omega,by omega,by omega,by omega,by omega,by omega,by omega,by omega,by omega,by omega,by omega⟩
theorem aK.Ok.dc{a:aK}(h:a.Ok):a.Dc:=by
 have l:=Pc h.ty;have m:=Hf h.nm;obtain⟨n,o⟩:=h.rg;have h4:=h.e;unfold uF at h4;refine⟨by omega,h.w.nm,by omega,by omega,by omega,h.w.va,?_,fun b=>?_,fun b=>?_⟩
 split at h4;have:=Pd h4;omega;have:=(E7 h4).2.1;rw[this];simp;rw[if_pos b] at h4;obtain⟨c,d,f,g,i,_⟩:=Pd h4;exact⟨c,d,f,g,i⟩;rw[if_neg (by rw[b];decide)] at h4;obtain⟨p,j,q,k,r,s,t,u,r9⟩:=E7 h4;exact⟨j,k,by omega,by omega,by omega,by omega⟩
theorem Ad{a:aK}(h:a.Dc):Ti a=rG a:=by
 unfold Ti rG;cases b:a.res with
 |true=>rfl
 |false=>
  rw[if_neg (by decide),if_neg (by decide)];obtain⟨_,c,_⟩:=h.f b;unfold Ca;rw[if_neg (by rw[Mn];simpa using c)]
theorem aAo(x:Int):bJ (x % 4294967296) 4=bJ x 4:=by
 simp only[bJ,F8,aZn,aZp];congr 1;omega;congr 1;omega;congr 1;omega;congr 1;omega
theorem Ga(a:aK):cZ a % 8=0/\tH a+a.nm.length<=cZ a/\cZ a+(rG a).length<=fA a/\fA a % 8=0/\fA a<=cZ a+(rG a).length+7:=by
 unfold fA cZ;omega
theorem aG3(X N u:Nat)(h:N=X+8+u)(a:N % 8=0)(b:u<=7):(X+7) / 8*8-X=u:=by omega
theorem aU5{a:aK}(h:a.Dc)(c:a.res=true):uE a=gR a:=by
 obtain⟨r,l,m,s,n⟩:=Ga a;have k:=Ad h;have d:tH a=24:=by simp[tH,c]
 have b:rG a=a.va:=by simp[rG,c]
 rw[d] at l;rw[b] at m n;obtain⟨g,p⟩:∃g,cZ a=24+(a.nm.length+g):=⟨cZ a-24-a.nm.length,by omega⟩;obtain⟨u,q⟩:∃u,fA a=cZ a+(a.va.length+u):=⟨fA a-cZ a-a.va.length,by omega⟩;have i:fA a=4+(4+(1+(1+(2+(2+(2+(4+(4+(a.nm.length+(g+(a.va.length+u))))))))))):=by omega
 have j:zl (fA a)=zl 4++(zl 4++(zl 1++(zl 1++(zl 2++(zl 2++(zl 2++(zl 4++(zl 4++(zl a.nm.length++(zl g++(zl a.va.length++zl u))))))))))):=by
  conv=>lhs;rw[i]
  simp only[Xe]
 unfold uE Tf Te;rw[if_pos c,j,d,b];simp (disch:=first|omega|(simp only[aP,aB]<;>omega)|fail) only[A4,Fc,aP,aB,Nat.reduceSub,aZ1]
 simp (disch:=first|omega|(simp only[aP,aB]<;>omega)|fail) only[J0,Ps,aP,aB,Nat.reduceSub,aZ1]
 unfold gR Ab Lj Bh Aa;rw[if_pos c,if_pos c,d,k,b];simp only[aZr];simp only[aZa,aB,aZg];have o:zl 1=bJ 0 1:=rfl;have e:cZ a-24-a.nm.length=g:=by omega
 rw[e];have f:(1+(1+(2+(2+(2+(4+(4+(a.nm.length+(g+a.va.length))))))))+7) / 8*8-(1+(1+(2+(2+(2+(4+(4+(a.nm.length+(g+a.va.length)))))))))=u:=by omega
 rw[f];rfl
theorem aU6{a:aK}(h:a.Dc)(i:a.res=false):uE a=gR a:=by
 obtain⟨q,l,r,m,s⟩:=Ga a;have b:¬ a.res=true:=by rw[i];decide
 have k:=Ad h;have f:tH a=40:=by simp[tH,i]
 rw[f] at l;obtain⟨g,o⟩:∃g,cZ a=40+(a.nm.length+g):=⟨cZ a-40-a.nm.length,by omega⟩;obtain⟨u,p⟩:∃u,fA a=cZ a+((rG a).length+u):=⟨fA a-cZ a-(rG a).length,by omega⟩;have d:fA a=4+(4+(1+(1+(2+(2+(2+(4+(4+(2+(2+(4+(4+(4+(a.nm.length+(g+((rG a).length+u)))))))))))))))):=by omega
 have e:zl (fA a)=zl 4++(zl 4++(zl 1++(zl 1++(zl 2++(zl 2++(zl 2++(zl 4++(zl 4++(zl 2++(zl 2++(zl 4++(zl 4++(zl 4++(zl a.nm.length++(zl g++(zl (rG a).length++zl u)))))))))))))))):=by
  conv=>lhs;rw[d]
  simp only[Xe]
 unfold uE Tf Te;rw[if_neg b,e,f];simp (disch:=first|omega|(simp only[aP,aB]<;>omega)|fail) only[A4,Fc,aP,aB,Nat.reduceSub,aZ1]
 simp (disch:=first|omega|(simp only[aP,aB]<;>omega)|fail) only[J0,Ps,aP,aB,Nat.reduceSub,aZ1]
 unfold gR Ab Lj Bh Aa;rw[if_neg b,if_neg b,f,k,aAo];simp only[aZr];simp only[aZa,aB,aZg];have n:zl 1=bJ 0 1:=rfl;have c:cZ a-40-a.nm.length=g:=by omega
 rw[c];have j:(1+(1+(2+(2+(2+(4+(4+(2+(2+(4+(4+(4+(a.nm.length+(g+(rG a).length)))))))))))))+7) / 8*8-(1+(1+(2+(2+(2+(4+(4+(2+(2+(4+(4+(4+(a.nm.length+(g+(rG a).length))))))))))))))=u:=aG3 _ (fA a) u (by clear e d c;omega) m (by clear e d c;omega);rw[j];rfl
theorem Ae{a:aK}(h:a.Dc):uE a=gR a:=by
 cases b:a.res with
 |true=>exact aU5 h b
 |false=>exact aU6 h b
end
section
variable {G:aE}{bb:Bool}
def gv:L Int->Int
 |[]=>0
 |b::t=>b+256*gv t
def gL(l:L Int)(a k:Nat):Int:=gv ((l.drop a).take k)
theorem aG4(l:L Int)(a k:Nat)(h:a<l.length):gL l a (k+1)=l[a]+256*gL l (a+1) k:=by
 unfold gL;rw[aZ4 h,bAt,gv]
theorem aAp:∀(l:L Int)(m:Nat),aH l->l.length<=m->0<=gv l/\gv l<256 ^ m
 | [],m,_,_=>by
  have:(0:Int) < 256 ^ m:=Int.pow_pos (by decide);simp only[gv];omega
 |b::t,0,_,h=>by simp at h
 | b::t,m+1,a,h=>by
  obtain⟨d,c⟩:=jX a;have e:=aAp t m c (by simpa using h);rw[gv,Int.pow_succ];omega
theorem Af{l:L Int}(h:aH l)(a k:Nat):aH ((l.drop a).take k):=fun b c=>h b (aZM (aZA c))
theorem lC{l:L Int}(h:aH l)(a k:Nat)(c:k<=4):0<=gL l a k/\gL l a k<4294967296:=by
 have b:=aAp ((l.drop a).take k) k (Af h a k) (by rw[aZd];omega);unfold gL;rcases (show k=0\/k=1\/k=2\/k=3\/k=4 by omega) with rfl|rfl|rfl|rfl|rfl<;>simp only[Int.reducePow] at b<;>omega
theorem Cf{l:L Int}(h:aH l)(a:Nat):0<=gL l a 2/\gL l a 2<65536:=by
 have b:=aAp ((l.drop a).take 2) 2 (Af h a 2) (by rw[aZd];omega);unfold gL;simp only[Int.reducePow] at b;omega
theorem Pt{l:L Int}(h:aH l)(a:Nat):0<=gL l a 1/\gL l a 1<256:=by
 have b:=aAp ((l.drop a).take 1) 1 (Af h a 1) (by rw[aZd];omega);unfold gL;simp only[Int.reducePow] at b;omega
theorem orL(n b:Int)(e:0<=n/\n<=4294967296)(d:0<=b/\b<=255):Wr .i64 (n*256) b=n*256+b:=by
 obtain⟨n,rfl⟩:=bAh e.1;obtain⟨b,rfl⟩:=bAh d.1;have a:((n:Int)*256)=((n*256:Nat):Int):=by simp
 have c:n*256 ||| b=n*256+b:=by
  have:=Nat.shiftLeft_add_eq_or_of_lt (show b<2 ^ 8 by omega) n;rw[Nat.shiftLeft_eq] at this;exact this.symm
 rw[Wr,a,Ji,BitVec.ofInt_natCast,BitVec.ofInt_natCast,BitVec.toNat_or,BitVec.toNat_ofNat,BitVec.toNat_ofNat,bAa (by omega),bAa (by omega),c,Bp (by omega)];simp
theorem cY(l:L Int)(c:aH l)(a k:Nat)(m:a+k<=l.length)(o:k<=4)(p:l.length<=1000000):EV G (Tb (bs bb)) 67 [sv l,vi a,vi k] []=some (vi (gL l a k),[]):=by
 refine aA rfl ?_;simp (disch:=first|omega|(simp only[aZa,aZb,aZc,aY9,aB];omega)) only[go_sem,h67c]
 rw[aQ (fun j=>⟨(sv l::vi a::jk 5 (vi (gL l (a+k-j) j)::vi ((k:Int)-1-j)::jk 16 [])),[]⟩) k ?_ ?_]
 have e:a+k-k=a:=by omega
 have b:¬ 0<=(k:Int)-1-(k:Int):=by omega
 simp (disch:=first|omega|(simp only[aZa,aZb,aZc,aY9,aB];omega)) only[go_sem,h67l0,e,b]
 simp[gL,gv,jk];intro j n;have i:=c _ (aZk (show a+k-1-j<l.length by omega));have g:=lC c (a+k-j) j (by omega);have d:gL l (a+k-(j+1)) (j+1)=gL l (a+k-j) j*256+l[a+k-1-j]'(by omega):=by
  have:a+k-(j+1)<l.length:=by omega
  rw[aG4 l _ j this,show a+k-(j+1)+1=a+k-j by omega,Int.mul_comm];rw[Int.add_comm];congr 1;congr 1;omega
 have b:0<=(k:Int)-1-(j:Int):=by omega
 rw[d];generalize gL l (a+k-j) j=z at g ⊢;have f:((a:Int)+((k:Int)-1-(j:Int))).toNat=a+k-1-j:=by omega
 have h:=iB _ i;simp (disch:=first|omega|(simp only[aZa,aZb,aZc,aY9,aB];omega)) only[go_sem,h67l0,eq_true b,aZu,f,h]
 rw[show (k:Int)-1-(j:Int)-1=(k:Int)-1-((j:Int)+1) by omega]
theorem Gb(l:L Int)(c:aH l)(a k:Nat)(m:a+k<=l.length)(p:k<=4)(q:l.length<=1000000):EV G (Tb (bs bb)) 217 [sv l,vi a,vi k] []=some (vi (gL l a k),[]):=by
 refine aA rfl ?_;simp (disch:=first|omega|(simp only[aZa,aZb,aZc,aY9,aB];omega)) only[go_sem,h217c]
 rw[aQ (fun j=>⟨(sv l::vi a::jk 5 (vi (gL l (a+k-j) j)::vi ((k:Int)-1-j)::jk 16 [])),[]⟩) k ?_ ?_]
 have e:a+k-k=a:=by omega
 have b:¬ 0<=(k:Int)-1-(k:Int):=by omega
 simp (disch:=first|omega|(simp only[aZa,aZb,aZc,aY9,aB];omega)) only[go_sem,h217l0,e,b]
 simp[gL,gv,jk];intro j n;have d:=c _ (aZk (show a+k-1-j<l.length by omega));have h:=lC c (a+k-j) j (by omega);have f:gL l (a+k-(j+1)) (j+1)=gL l (a+k-j) j*256+l[a+k-1-j]'(by omega):=by
  have:a+k-(j+1)<l.length:=by omega
  rw[aG4 l _ j this,show a+k-(j+1)+1=a+k-j by omega,Int.mul_comm];rw[Int.add_comm];congr 1;congr 1;omega
 have b:0<=(k:Int)-1-(j:Int):=by omega
 rw[f];generalize gL l (a+k-j) j=z at h ⊢;have g:((a:Int)+((k:Int)-1-(j:Int))).toNat=a+k-1-j:=by omega
 have i:=iB _ d;have o:=orL z _ (by omega) d;simp (disch:=first|omega|(simp only[aZa,aZb,aZc,aY9,aB];omega)) only[go_sem,h217l0,eq_true b,aZu,g,i,Int.reduceToNat,Int.reducePow,o]
 rw[show (k:Int)-1-(j:Int)-1=(k:Int)-1-((j:Int)+1) by omega]
theorem gv1(n:Int)(h:0<=n/\n<256):gv (bJ n 1)=n:=by
 show n % 256+256*0=n;omega
theorem gv2(n:Int)(h:0<=n/\n<65536):gv (bJ n 2)=n:=by
 show n % 256+256*(n / 256 % 256+256*0)=n;omega
theorem gv4(n:Int)(h:0<=n/\n<4294967296):gv (bJ n 4)=n:=by
 show n % 256+256*(n / 256 % 256+256*(n / 256 / 256 % 256+256*(n / 256 / 256 / 256 % 256+256*0)))=n;omega
theorem iM(p L:List Int)(a k:Nat)(h:p.length<=a):gL (p++L) a k=gL L (a-p.length) k:=by
 unfold gL;rw[List.drop_append,List.drop_of_length_le (by omega),aZn]
theorem Pu(z L:List Int)(k:Nat)(h:z.length=k):gL (z++L) 0 k=gv z:=by
 unfold gL;rw[aZW,bAo h]
