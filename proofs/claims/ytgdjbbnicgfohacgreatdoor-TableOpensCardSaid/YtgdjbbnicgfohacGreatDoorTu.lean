/- Part. Conditions: none. -/
import Derived.Test.YtgdjbbnicgfohacGreatDoorVq
namespace Go.Proofs.YtgdjbbnicgfohacGreatDoor
set_option maxHeartbeats 2000000
set_option linter.unusedSimpArgs false
set_option linter.unusedVariables false
set_option maxRecDepth 4000
section
variable {G:aF}{B:aO}
theorem aGQ:EV G (Tb B) 192 [vi 7] []=some (vi 128,[]):=by
 refine aB rfl ?_;simp (disch:=first|omega|(simp only[aZb,aZc,aZd,aZa,aA];omega)) only[go_sem,h192c,Int.reduceMul,Int.reduceToNat,Int.reducePow]
theorem aGR:EV G (Tb B) 192 [vi 8] []=some (vi 256,[]):=by
 refine aB rfl ?_;simp (disch:=first|omega|(simp only[aZb,aZc,aZd,aZa,aA];omega)) only[go_sem,h192c,Int.reduceMul,Int.reduceToNat,Int.reducePow]
theorem aAC:EV G (Tb B) 192 [vi 15] []=some (vi 32768,[]):=by
 refine aB rfl ?_;simp (disch:=first|omega|(simp only[aZb,aZc,aZd,aZa,aA];omega)) only[go_sem,h192c,Int.reduceMul,Int.reduceToNat,Int.reducePow]
theorem aAD:EV G (Tb B) 192 [vi 16] []=some (vi 65536,[]):=by
 refine aB rfl ?_;simp (disch:=first|omega|(simp only[aZb,aZc,aZd,aZa,aA];omega)) only[go_sem,h192c,Int.reduceMul,Int.reduceToNat,Int.reducePow]
theorem Tr(l:L Int)(c:aK l)(a:Nat)(d:a+1<=l.length)(f:l.length<=1000000):EV G (Tb B) 68 [sv l,vi a,vi 1] []=some (vi (l[a]'(by omega)),[]):=by
 refine aB rfl ?_;have g:=c _ (aZk (show a<l.length by omega));simp (disch:=first|omega|(simp only[aZb,aZc,aZd,aZa,aA];omega)) only[go_sem,h68c,Int.reduceSub]
 rw[aR (fun k=>⟨(sv l::vi a::jk 5 (vi (tb3 0 (l[a]'(by omega)) 0 k)::vi (tb3 0 (-1) (-1) k)::jk 16 [])),[]⟩) 1 ?_ ?_]
 simp (disch:=first|omega|(simp only[aZb,aZc,aZd,aZa,aA];omega)) only[go_sem,h68l0,Du]
 rfl;intro k e;have b:k=0:=by omega
 subst b;simp (disch:=first|omega|(simp only[aZb,aZc,aZd,aZa,aA];omega)) only[go_sem,h68l0,aAB,Du,Int.reduceMul,Int.reduceSub,aZt,Int.add_zero,aZQ]
theorem Ts(l:L Int)(b:aK l)(a:Nat)(c:a+2<=l.length)(e:l.length<=1000000):EV G (Tb B) 68 [sv l,vi a,vi 2] []=some (vi ((l[a+1]'(by omega))*256+l[a]'(by omega)),[]):=by
 refine aB rfl ?_;have f:=b _ (aZk (show a<l.length by omega));have g:=b _ (aZk (show a+1<l.length by omega));simp (disch:=first|omega|(simp only[aZb,aZc,aZd,aZa,aA];omega)) only[go_sem,h68c,Int.reduceSub]
 rw[aR (fun k=>⟨(sv l::vi a::jk 5 (vi (tb3 0 (l[a+1]'(by omega)) ((l[a+1]'(by omega))*256+l[a]'(by omega)) k)::vi (tb3 1 0 (-1) k)::jk 16 [])),[]⟩) 2 ?_ ?_]
 simp (disch:=first|omega|(simp only[aZb,aZc,aZd,aZa,aA];omega)) only[go_sem,h68l0,Tn]
 rfl;intro k d;rcases (show k=0\/k=1 by omega) with rfl|rfl
 simp (disch:=first|omega|(simp only[aZb,aZc,aZd,aZa,aA];omega)) only[go_sem,h68l0,aAB,Du,Int.reduceMul,Int.reduceSub,aZt,Int.add_zero,aZQ,Int.zero_mul]
 simp (disch:=first|omega|(simp only[aZb,aZc,aZd,aZa,aA];omega)) only[go_sem,h68l0,Du,Tn,Int.reduceMul,Int.reduceSub,aZt,Int.add_zero,aZQ]
theorem sP(l:L Int)(f:aK l)(b a:Nat)(j:a=1\/a=2)(h:b+a<=l.length)(i:l.length<=1000000):EV G (Tb B) 135 [sv l,vi b,vi a] []=some (.tup [.one (.dc (ci (dD (l.drop b) a).1)),.one (bC (dD (l.drop b) a).2.1)],[]):=by
 refine aB rfl ?_;have k:=f _ (aZk (show b<l.length by omega));rcases j with rfl|rfl
 have e:=Tr (G:=G) (B:=B) l f b h i;rw[aZ5 (show b<l.length by omega)];generalize l[b]=x at *;have g:dD (x::List.drop (b+1) l) 1=(nQ [x],decide (sz (nQ [x])=1),List.drop (b+1) l):=by rw[dD,if_neg (by simp)];rfl
 rw[g];simp only[nQ];by_cases c:128<=x;have d:=oV (G:=G) (B:=B) (x-256) (by omega);have z:=tF (x-256);have q:(((sz (x-256)).toNat:Nat):Int)=sz (x-256):=by omega
 simp (disch:=first|omega|(simp only[aZb,aZc,aZd,aZa,aA];omega)) only[go_sem,h135c,e,d,c,aGQ,aGR,Int.reduceMul,Int.reduceSub,Int.natCast_one,bC,aA,q]
 have d:=oV (G:=G) (B:=B) x (by omega);have z:=tF x;have q:(((sz x).toNat:Nat):Int)=sz x:=by omega
 simp (disch:=first|omega|(simp only[aZb,aZc,aZd,aZa,aA];omega)) only[go_sem,h135c,e,d,c,aGQ,aGR,Int.reduceMul,Int.reduceSub,Int.natCast_one,bC,aA,q]
 have e:=Ts (G:=G) (B:=B) l f b h i;have m:=f _ (aZk (show b+1<l.length by omega));rw[aZ5 (show b<l.length by omega),aZ5 (show b+1<l.length by omega)];generalize l[b]=x at *;generalize l[b+1]=y at *;have g:dD (x::y::List.drop (b+1+1) l) 2=(nQ [x,y],decide (sz (nQ [x,y])=2),List.drop (b+1+1) l):=by rw[dD,if_neg (by simp)];rfl
 rw[g];simp only[nQ];rw[show ((2:Nat):Int)=2 from rfl]
 by_cases c:32768<=y*256+x;have d:=oV (G:=G) (B:=B) (y*256+x-65536) (by omega);have z:=tF (y*256+x-65536);have q:(((sz (y*256+x-65536)).toNat:Nat):Int)=sz (y*256+x-65536):=by omega
 simp (disch:=first|omega|(simp only[aZb,aZc,aZd,aZa,aA];omega)) only[go_sem,h135c,e,d,c,aAC,aAD,Int.reduceMul,Int.reduceSub,bC,aA,q]
 have d:=oV (G:=G) (B:=B) (y*256+x) (by omega);have z:=tF (y*256+x);have q:(((sz (y*256+x)).toNat:Nat):Int)=sz (y*256+x):=by omega
 simp (disch:=first|omega|(simp only[aZb,aZc,aZd,aZa,aA];omega)) only[go_sem,h135c,e,d,c,aAC,aAD,Int.reduceMul,Int.reduceSub,bC,aA,q]
theorem aC6(a h:Int)(t:L Int)(c:¬ ((1<=h % 16/\h % 16<=2)/\h / 16<=2)):(iN a h t).2.1=false:=by
 rw[iN,if_neg c]
theorem J6{bs:L Int}{a:Nat}(h:bs.length<a):dD bs a=(0,false,bs):=if_pos h
theorem Ay{bs:L Int}{a:Nat}(h:a<=bs.length):(dD bs a).2.2=bs.drop a:=by rw[dD,if_neg (by omega)]
theorem Pu(a h:Int)(t:L Int)(c:(dD t (h % 16).toNat).2.1=false):(iN a h t).2.1=false:=by
 rw[iN];split;rw[if_pos (Or.inl c)];exact c;rfl
theorem Xk(a h:Int)(t:L Int)(c:(1<=h % 16/\h % 16<=2)/\(0<=h / 16/\h / 16<=2))(f:(t.length:Int)<h % 16+h / 16):(iN a h t).2.1=false:=by
 by_cases e:t.length<(h % 16).toNat;exact Pu _ _ _ (by rw[J6 e]);by_cases b:(dD t (h % 16).toNat).2.1=false;exact Pu _ _ _ b
 rw[iN,if_pos ⟨c.1,c.2.2⟩,if_neg (by
  rintro (d | d)
  ·exact b d
  ·omega)]
 rw[Ay (by omega),J6 (bs:=t.drop (h % 16).toNat) (by rw[aZn];omega)];rfl
theorem aAE(a h:Int)(t:L Int)(c:1<=h % 16/\h % 16<=2)(b:h / 16=0)(d:(h % 16).toNat<=t.length):iN a h t=(⟨-1,(dD t (h % 16).toNat).1⟩,(dD t (h % 16).toNat).2.1,t.drop (h % 16).toNat):=by
 rw[iN,if_pos ⟨c,by omega⟩,if_pos (Or.inr b),Ay d]
theorem aGS(a h:Int)(t:L Int)(c:(1<=h % 16/\h % 16<=2)/\(1<=h / 16/\h / 16<=2))(d:(h % 16).toNat+(h / 16).toNat<=t.length)(b:(dD t (h % 16).toNat).2.1=true):iN a h t=(⟨a+(dD (t.drop (h % 16).toNat) (h / 16).toNat).1,(dD t (h % 16).toNat).1⟩,(dD (t.drop (h % 16).toNat) (h / 16).toNat).2.1&&!decide (a+(dD (t.drop (h % 16).toNat) (h / 16).toNat).1=-1),t.drop ((h % 16).toNat+(h / 16).toNat)):=by
 rw[iN,if_pos ⟨c.1,c.2.2⟩,if_neg (by rw[b];simp;omega),Ay (by omega),Ay (bs:=t.drop (h % 16).toNat) (by rw[aZn];omega),bAe]
theorem J7(bs:L Int)(a:Nat):(dD bs a).2.2 <:+ bs:=by
 unfold dD;split;exact List.suffix_refl _;exact List.drop_suffix _ _
theorem aGT(a h:Int)(t:L Int):(iN a h t).2.2 <:+ t:=by
 unfold iN;split;split;exact J7 _ _;exact (J7 _ _).trans (J7 _ _);exact List.suffix_refl _
theorem Xl(s:L Int):∀k,(dK s k).bs <:+ s
 |0=>List.suffix_refl _
 | k+1=>by
  have b:=Xl s k;simp only[dK];generalize dK s k=z at b ⊢;obtain⟨bs,a,c⟩:=z;cases bs with
  | nil=>simp[gG]
  | cons h t=>
   simp only[gG];split
   ·exact b
   ·split
    ·exact (aGT a h t).trans ((List.suffix_cons h t).trans b)
    ·exact b
theorem aLE{s bs:L Int}(h:bs <:+ s):s.drop (s.length-bs.length)=bs:=(List.suffix_iff_eq_drop.1 h).symm
theorem Tt{s t:L Int}{h:Int}(b:(h::t) <:+ s):∃a,s.length=a+(t.length+1)/\s.length-(h::t).length=a/\s.drop (a+1)=t/\∃e:a<s.length,s[a]=h:=by
 have d:=b.length_le;simp only[aZc] at d;refine⟨s.length-(t.length+1),by omega,rfl,?_,by omega,?_⟩;all_goals
  have c:=aLE b;rw[aZc,aZ5 (by omega)] at c
 exact (List.cons.inj c).2;exact (List.cons.inj c).1
theorem Ls(s:L Int)(o:aK s)(Q:¬ (s.length:Int) > 400)(k:Nat)(A:∀j,j<=k->¬ gG (dK s j)=none):Lf [0,3,0,0] 1 (EC (EV G (Tb B)) G h99l0 ⟨(sv s::jk 3 (.one (.bld 0 (dK s k).out.length)::vi ((s.length-(dK s k).bs.length:Nat))::vi (dK s k).last::jk 106 [])),[.arr 0 2 ((dK s k).out.map aV.e)]⟩)= some ⟨(sv s::jk 3 (.one (.bld 0 (dK s (k+1)).out.length)::vi ((s.length-(dK s (k+1)).bs.length:Nat))::vi (dK s (k+1)).last::jk 106 [])),[.arr 0 2 ((dK s (k+1)).out.map aV.e)]⟩:=by
 obtain⟨E,F,H,v⟩:=Tp s o k (fun j T=>A j (by omega))
 have d:=A k (aZe _);have i:=Xl s k;rw[show dK s (k+1)=(gG (dK s k)).getD (dK s k) from rfl]
 generalize dK s k=z at *;obtain⟨bs,b,P⟩:=z;simp only at d E F H v i ⊢;cases bs with
 |nil=>exact absurd rfl d
 |cons h t=>
  obtain⟨S,J⟩:=jL v;obtain⟨a,R,p,w,I,y⟩:=Tt i;rw[p];by_cases c:h=0;simp[gG,c] at d;simp only[gG,if_neg c] at d ⊢;by_cases g:(1<=h % 16/\h % 16<=2)/\h / 16<=2;by_cases D:(t.length:Int)<h % 16+h / 16;rw[Xk b h t ⟨g.1,by omega⟩ D] at d;simp at d;have l:=sP (G:=G) (B:=B) s o (a+1) (h % 16).toNat (by omega) (by omega) (by omega);rw[w,show ((a+1:Nat):Int)=(a:Int)+1 by omega,show (((h % 16).toNat:Nat):Int)=h % 16 by omega] at l;cases f:(dD t (h % 16).toNat).2.1 with
  |false=>rw[Pu b h t f] at d;simp at d
  |true=>
   rw[f] at l;by_cases m:h / 16=0;rw[aAE b h t g.1 m (by omega),f] at d ⊢;have q:(((s.length-(t.drop (h % 16).toNat).length:Nat)):Int)=(a:Int)+1+h % 16:=by rw[aZn];omega
   generalize (dD t (h % 16).toNat).1=N at *;simp only[if_true,aZW];rw[q];simp (disch:=first|omega|(simp only[aZb,aZc,aZd,aZa,aA];omega)) only[go_sem,h99l0,y,c,g,m,oD,mX,bN,l,bC,aZt,Do,aZb,Int.add_zero]
   have u:=sP (G:=G) (B:=B) s o (a+1+(h % 16).toNat) (h / 16).toNat (by omega) (by omega) (by omega);rw[<- bAe,w,show ((a+1+(h % 16).toNat:Nat):Int)=(a:Int)+1+h % 16 by omega,show (((h / 16).toNat:Nat):Int)=h / 16 by omega] at u;rw[aGS b h t ⟨g.1,by omega⟩ (by omega) f] at d ⊢;have q:(((s.length-(t.drop ((h % 16).toNat+(h / 16).toNat)).length:Nat)):Int)=(a:Int)+1+h % 16+h / 16:=by rw[aZn];omega
   have M:=Dw (Dv J (fun x K=>aZL K):aK (t.drop (h % 16).toNat)) (h / 16).toNat
   generalize (dD t (h % 16).toNat).1=N at *;generalize (dD (t.drop (h % 16).toNat) (h / 16).toNat)=C at *;obtain⟨O,r,U⟩:=C;simp only at d u M ⊢;cases r;simp at d;by_cases n:b+O=-1;simp[n] at d;simp only[n,decide_false,aZG,Bool.and_self,if_true,if_false,aZW];rw[q];simp (disch:=first|omega|(simp only[aZb,aZc,aZd,aZa,aA];omega)) only[go_sem,h99l0,y,c,g,m,n,oD,mX,bN,l,u,bC,aZt,Do,aZb]
  rw[aC6 b h t g] at d;simp at d
theorem M9(s:L Int)(n:aK s):EV G (Tb B) 99 [sv s] []=some (.tup [.one (.dc (.slc ((nK s).1.map aV.e))),.one (.dc (ci (nK s).2))],[]):=by
 refine aB rfl ?_;unfold nK;by_cases q:(s.length:Int) > 400;rw[if_pos q];simp (disch:=first|omega|(simp only[aZb,aZc,aZd,aZa,aA];omega)) only[go_sem,h99c,aZm]
 rw[if_neg q];simp (disch:=first|omega|(simp only[aZb,aZc,aZd,aZa,aA];omega)) only[go_sem,h99c]
 rw[dN (fun k=>⟨(sv s::jk 3 (.one (.bld 0 (dK s k).out.length)::vi ((s.length-(dK s k).bs.length:Nat))::vi (dK s k).last::jk 106 [])),[.arr 0 2 ((dK s k).out.map aV.e)]⟩) (fun k=>gG (dK s k)=none) (s.length+1) ?_ ?_]
 obtain⟨S,g,E⟩:=M8 s n;obtain⟨F,H,I,w⟩:=Tp s n _ E;have o:=Xl s (Cd s);rw[show ix (fun k=>gG (dK s k)=none) (s.length+1)=Cd s from rfl]
 generalize dK s (Cd s)=z at *;obtain⟨bs,b,d⟩:=z;simp only at g F H I w o ⊢;cases bs with
 |nil=>
  rw[show pY ⟨[],b,d⟩=([],3) from rfl]
  simp only[aZd,Nat.sub_zero];simp (disch:=first|omega|(simp only[aZb,aZc,aZd,aZa,aA];omega)) only[go_sem,h99l0,aZm]
 |cons h t=>
  obtain⟨T,N⟩:=jL w;obtain⟨a,y,u,A,J,i⟩:=Tt o;rw[u];by_cases c:h=0;subst c
  match t with
  |[]=>
   simp only[aZd] at y;by_cases f:(mS d).2=0;rw[show pY ⟨[0],b,d⟩=(d,0) by simp[pY,Bh,f]];simp (disch:=first|omega|(simp only[aZb,aZc,aZd,aZa,aA];omega)) only[go_sem,h99l0,i,aGy,f,kC,aZt]
   rw[show pY ⟨[0],b,d⟩=([],(mS d).2) by simp[pY,Bh,f]];simp (disch:=first|omega|(simp only[aZb,aZc,aZd,aZa,aA];omega)) only[go_sem,h99l0,i,aGy,f,kC,aZm,aZt]
  |x::t=>
   simp only[aZc] at y;rw[show pY ⟨0::x::t,b,d⟩=([],3) by simp[pY,Bh]];simp (disch:=first|omega|(simp only[aZb,aZc,aZd,aZa,aA];omega)) only[go_sem,h99l0,i,aZm,aZt]
  simp only[gG,if_neg c] at g;rw[show pY ⟨h::t,b,d⟩=([],3) by simp[pY,Bh,c]];have g:(iN b h t).2.1=false:=by
   cases M:(iN b h t).2.1 with
   |false=>rfl
   |true=>rw[M] at g;simp at g
  by_cases l:1<=h % 16/\h % 16<=2;by_cases f:h / 16<=2;by_cases R:(t.length:Int)<h % 16+h / 16;simp (disch:=first|omega|(simp only[aZb,aZc,aZd,aZa,aA];omega)) only[go_sem,h99l0,i,c,l,f,oD,mX,bN,aZt,aZm]
  have m:=sP (G:=G) (B:=B) s n (a+1) (h % 16).toNat (by omega) (by omega) (by omega);rw[A,show ((a+1:Nat):Int)=(a:Int)+1 by omega,show (((h % 16).toNat:Nat):Int)=h % 16 by omega] at m;cases j:(dD t (h % 16).toNat).2.1 with
  |false=>
   rw[j] at m;simp (disch:=first|omega|(simp only[aZb,aZc,aZd,aZa,aA];omega)) only[go_sem,h99l0,i,c,l,f,oD,mX,bN,m,bC,aZt,aZm]
  |true=>
   rw[j] at m;by_cases r:h / 16=0;rw[aAE b h t l r (by omega),j] at g;cases g;have p:=sP (G:=G) (B:=B) s n (a+1+(h % 16).toNat) (h / 16).toNat (by omega) (by omega) (by omega);rw[<- bAe,A,show ((a+1+(h % 16).toNat:Nat):Int)=(a:Int)+1+h % 16 by omega,show (((h / 16).toNat:Nat):Int)=h / 16 by omega] at p;rw[aGS b h t ⟨l,by omega⟩ (by omega) j] at g;have P:=Dw (Dv N (fun x O=>aZL O):aK (t.drop (h % 16).toNat)) (h / 16).toNat
   generalize (dD t (h % 16).toNat).1=V at *;generalize (dD (t.drop (h % 16).toNat) (h / 16).toNat)=C at *;obtain⟨Q,v,W⟩:=C;simp only at g p P;cases v;simp (disch:=first|omega|(simp only[aZb,aZc,aZd,aZa,aA];omega)) only[go_sem,h99l0,i,c,l,f,r,oD,mX,bN,m,p,bC,aZt,aZm]
   have D:b+Q=-1:=by simpa using g
   simp (disch:=first|omega|(simp only[aZb,aZc,aZd,aZa,aA];omega)) only[go_sem,h99l0,i,c,l,f,r,D,oD,mX,bN,m,p,bC,aZt,aZm]
  simp (disch:=first|omega|(simp only[aZb,aZc,aZd,aZa,aA];omega)) only[go_sem,h99l0,i,c,l,f,oD,mX,bN,aZt,aZm]
  simp (disch:=first|omega|(simp only[aZb,aZc,aZd,aZa,aA];omega)) only[go_sem,h99l0,i,c,l,oD,mX,bN,aZt,aZm]
 rw[show s.length-(dK s 0).bs.length=0 from aZ2 _];rfl
 intro k U K;exact Ls s n q k K
end
section
variable {G:aF}{bb:Bool}
theorem aAF{p:Nat->Prop}{n m:Nat}(f:m<n)(c:p m)(d:∀j,j<m->¬ p j):ix p n=m:=by
 obtain⟨e,a,b⟩:=bE p n;rcases Nat.lt_trichotomy (ix p n) m with h|h|h;rcases a with a|⟨_,a⟩;omega;exact absurd a (d _ h);exact h;exact absurd c (b _ h)
theorem uU(n:Int):sz n=1\/sz n=2:=by unfold sz;split<;>simp
theorem aUY(n:Int)(h:-128<=n/\n<=127):nQ (bI n 1)=n:=by
 show nQ [n % 256]=n;simp only[nQ];split<;>omega
theorem aUZ(n:Int)(h:-32768<=n/\n<=32767):nQ (bI n 2)=n:=by
 show nQ [n % 256,n / 256 % 256]=n;simp only[nQ];split<;>omega
theorem Pv(n:Int)(h:-32768<=n/\n<=32767)(a:L Int):dD (bI n (sz n).toNat++a) (sz n).toNat=(n,true,a):=by
 unfold dD;rw[if_neg (by rw[aZb,aA];omega),bAs (aA _ _),List.drop_left' (aA _ _)];have e:nQ (bI n (sz n).toNat)=n:=by
  unfold sz;split;exact aUY n (by assumption);exact aUZ n h
 rw[e];have:sz n=((sz n).toNat:Int):=by have:=uU n;omega
 rw[decide_eq_true this]
theorem J8(t:L Int)(a:Nat)(h:t.length<a):(dD t a).2.1=false:=by
 unfold dD;rw[if_pos h]
def tO(a:Int)(r:aV):Int:=if r.s=-1 then sz r.n else 16*sz (r.s-a)+sz r.n
def Dx(a:Int)(r:aV):L Int:=if r.s=-1 then bI r.n (sz r.n).toNat else bI r.n (sz r.n).toNat++bI (r.s-a) (sz (r.s-a)).toNat
theorem sS(a:Int)(r:aV):nF a r=tO a r::Dx a r:=by
 unfold nF tO Dx;split<;>rfl
theorem Pw(a:Int)(r:aV):tO a r≠0:=by
 have b:=uU r.n;have c:=uU (r.s-a);unfold tO;split<;>omega
theorem Xm{r:aV}(h:bO r.s r.n=0):(1<=r.n/\r.n<=4096)/\(r.s=-1\/0<=r.s/\r.s<=511):=by
 rcases lG h with⟨a,b,h3⟩|⟨s,n,a,b,h3,h4⟩;exact⟨by omega,by omega⟩
 exact⟨by omega,by omega⟩
theorem aGU{a:Int}{r:aV}(g:bO r.s r.n=0)(k:0<=a/\a<=511)(b:L Int):iN a (tO a r) (Dx a r++b)=(r,true,b):=by
 obtain⟨⟨h,i⟩,j⟩:=Xm g;have l:=uU r.n;have m:=uU (r.s-a);have f:=Pv r.n (by omega);unfold tO Dx;by_cases c:r.s=-1;rw[if_pos c,if_pos c];have d:sz r.n % 16=sz r.n:=by omega
 have e:sz r.n / 16=0:=by omega
 unfold iN;rw[d,e,if_pos (by omega),if_pos (.inr rfl),f b];simp only;cases r;simp only at c;rw[c];rw[if_neg c,if_neg c];have d:(16*sz (r.s-a)+sz r.n) % 16=sz r.n:=by omega
 have e:(16*sz (r.s-a)+sz r.n) / 16=sz (r.s-a):=by omega
 unfold iN;rw[d,e,if_pos (by omega),aZr,f,if_neg (by simp;omega)];simp only;rw[Pv (r.s-a) (by omega) b];simp only;rw[show a+(r.s-a)=r.s by omega,decide_eq_false c];cases r;rfl
theorem aGV{a:Int}{r:aV}(g:bO r.s r.n=0)(o:0<=a/\a<=511)(m:Nat)(b:m<(Dx a r).length):(iN a (tO a r) ((Dx a r).take m)).2.1=false:=by
 obtain⟨⟨j,k⟩,l⟩:=Xm g;have p:=uU r.n;have q:=uU (r.s-a);have i:=Pv r.n (by omega);unfold Dx at b ⊢;unfold tO;by_cases c:r.s=-1;rw[if_pos c] at b ⊢;rw[if_pos c];rw[aA] at b;have d:sz r.n % 16=sz r.n:=by omega
 have e:sz r.n / 16=0:=by omega
 unfold iN;rw[d,e,if_pos (by omega),if_pos (.inr rfl)];exact J8 _ _ (by rw[aZf,aA];omega);rw[if_neg c] at b ⊢;rw[if_neg c];rw[aZb,aA,aA] at b;have d:(16*sz (r.s-a)+sz r.n) % 16=sz r.n:=by omega
 have e:(16*sz (r.s-a)+sz r.n) / 16=sz (r.s-a):=by omega
 unfold iN;rw[d,e,if_pos (by omega)];by_cases h:m<(sz r.n).toNat;have f:=J8 ((bI r.n (sz r.n).toNat++bI (r.s-a) (sz (r.s-a)).toNat).take m) (sz r.n).toNat (by rw[aZf];omega);rw[if_pos (.inl f)];exact f;rw[List.take_append,aA,aZM (by rw[aA];omega),i,if_neg (by simp;omega)];simp only;rw[J8 _ _ (by rw[aZf,aA];omega)];rfl
def Hu(a:Int)(r:aV):Int:=if r.s=-1 then a else r.s
theorem Na{a:Int}{r:aV}(e:bO r.s r.n=0)(d:0<=a/\a<=511)(b:L Int)(c:L aV):gG ⟨nF a r++b,a,c⟩=some ⟨b,Hu a r,c++[r]⟩:=by
 rw[sS];unfold gG;simp only[aZx];rw[if_neg (Pw _ _),aGU e d];simp only[if_true];rfl
def dO(a:Int):L aV->L Int
 |[]=>[]
 |r::l=>nF a r++dO (Hu a r) l
theorem E8(l:L aV):(jE l).1=dO 0 l:=by
 have b:∀(l:L aV)(p:L Int)(a:Int),(l.foldl est (p,a)).1=p++dO a l:=by
  intro l
  induction l with
  |nil=>intro p a;simp[dO]
  |cons r l c=>
   intro p a;have e:est (p,a) r=(p++nF a r,Hu a r):=rfl;rw[bAu,e,c];simp only[dO,aZr]
 have:=b l [] 0;simpa[jE] using this
def dM:Nat->DS->DS
 |0,z=>z
 |k+1,z=>(gG (dM k z)).getD (dM k z)
theorem Xn(s:L Int):∀k,dK s k=dM k ⟨s,0,[]⟩
 |0=>rfl
 |k+1=>by rw[dK,dM,Xn s k]
theorem Az{z a:DS}(h:gG z=some a):∀k,dM (k+1) z=dM k a
 |0=>by show (gG z).getD z=a;rw[h];rfl
 |k+1=>by rw[dM,Az h k,dM]
theorem aGW{a:Int}{r:aV}(b:bO r.s r.n=0)(c:0<=a/\a<=511):0<=Hu a r/\Hu a r<=511:=by
 have:=(Xm b).2;unfold Hu;split<;>omega
theorem aGX:∀(l:L aV)(a:Int)(c:L aV)(b:L Int),(∀r∈l,bO r.s r.n=0)->0<=a/\a<=511->(∃x,dM l.length ⟨dO a l++b,a,c⟩=⟨b,x,c++l⟩)/\∀j,j<l.length->¬ gG (dM j ⟨dO a l++b,a,c⟩)=none
 |[],a,c,b,_,_=>⟨⟨a,by simp[dM,dO]⟩,fun j d=>by simp at d⟩
 | r::l,a,c,b,h,k=>by
  have m:=h r aZu;have f:=Na m k (dO (Hu a r) l++b) c;obtain⟨⟨x,o⟩,p⟩:=aGX l (Hu a r) (c++[r]) b (fun q t=>h q (aZC _ t)) (aGW m k)
  have e:dO a (r::l)++b=nF a r++(dO (Hu a r) l++b):=by rw[dO,aZr]
  rw[e];refine⟨⟨x, ?_⟩,fun j d=>?_⟩
  ·show dM (l.length+1) _=_;rw[Az f,o,aZr];rfl
  ·cases j with
   | zero=>
    intro g;have i:gG ⟨nF a r++(dO (Hu a r) l++b),a,c⟩=none:=g;rw[f] at i;cases i
   | succ j=>rw[Az f];exact p j (by simpa using d)
theorem Tu{l:L aV}(h:(mS l).2=0):(dO 0 l).length<=320:=by
 rw[<- E8];exact J4 h
theorem Px{l:L aV}(h:(mS l).2=0):nK ((jE l).1++[0])=(l,0):=by
 have d:=Tu h;obtain⟨⟨x,c⟩,e⟩:=aGX l 0 [] [0] (Jo h) (by omega);have k:=nZ h;have b:l.length<(dO 0 l++[0]).length+1:=by
  have:∀(l:L aV)(a:Int),l.length<=(dO a l).length:=by
   intro l
   induction l with
   |nil=>intro _;simp
   |cons r l i=>intro a;have:=i (Hu a r);simp only[dO,sS,aZb,aZc];omega
  have:=this l 0;simp only[aZb,aZc,aZd];omega
 rw[E8];have f:Cd (dO 0 l++[0])=l.length:=by
  unfold Cd;refine aAF b ?_ (fun j g=>?_)
  rw[Xn,c];rfl;rw[Xn];exact e j g
 unfold nK;rw[if_neg (by simp only[aZb,aZc,aZd];omega),f,Xn,c];unfold pY;rw[if_neg (by simp[Bh]),if_neg (by simp only[aZs];omega)];rfl
theorem Nb:∀(l:L aV)(a:Int)(b:L aV)(m:Nat),(∀r∈l,bO r.s r.n=0)->0<=a/\a<=511->m<(dO a l).length+1-> ∃k,k<=m/\gG (dM k ⟨(dO a l++[0]).take m,a,b⟩)=none/\(∀j,j<k->¬ gG (dM j ⟨(dO a l++[0]).take m,a,b⟩)=none)/\Bh (dM k ⟨(dO a l++[0]).take m,a,b⟩).bs≠0
 | [],a,b,m,_,_,p=>by
  have:m=0:=by simp[dO] at p;omega
  subst this;exact⟨0,aZe _,rfl,fun j i=>by omega,by simp[dM,Bh]⟩
 | r::l,a,b,m,h,o,p=>by
  have t:=h r aZu;have e:dO a (r::l)++[0]=nF a r++(dO (Hu a r) l++[0]):=by rw[dO,aZr]
  rw[e];rw[dO,aZb] at p;by_cases f:(nF a r).length<=m
  ·have v:0 < (nF a r).length:=by rw[sS];simp
   have d:(nF a r++(dO (Hu a r) l++[0])).take m=nF a r++(dO (Hu a r) l++[0]).take (m - (nF a r).length):=by
    rw[List.take_append,aZM f]
   rw[d];have c:=Na t o ((dO (Hu a r) l++[0]).take (m - (nF a r).length)) b;obtain⟨k,k0,y,z,A⟩:=Nb l (Hu a r) (b++[r]) (m - (nF a r).length) (fun q x=>h q (aZC _ x)) (aGW t o) (by omega)
   refine⟨k+1,by omega,by rw[Az c];exact y,fun j i=>?_,by rw[Az c];exact A⟩
   cases j with
   | zero=>
    intro g;have u:gG ⟨nF a r++(dO (Hu a r) l++[0]).take (m - (nF a r).length),a,b⟩=none:=g;rw[c] at u;cases u
   | succ j=>rw[Az c];exact z j (by omega)
  ·have d:(nF a r++(dO (Hu a r) l++[0])).take m=(nF a r).take m:=by
    rw[bAz (by omega)]
   rw[d];cases m with
   | zero=>exact⟨0,aZe _,rfl,fun j i=>by omega,by simp[dM,Bh]⟩
   | succ m=>
    rw[sS] at f ⊢;rw[bAE];have hf:=aGV t o m (by simp only[aZc] at f;omega);refine⟨0,by omega, ?_,fun j i=>by omega, ?_⟩
    ·show (if tO a r=0 then none else if (iN a (tO a r) ((Dx a r).take m)).2.1=true then some _ else none)=none
     rw[if_neg (Pw _ _),hf,if_neg (by decide)]
    ·have w:Bh (tO a r::(Dx a r).take m)=3:=by
      unfold Bh;exact if_neg (fun g=>Pw _ _ g.1)
     show Bh (tO a r::(Dx a r).take m)≠0;rw[w]
     decide
theorem aQf{l:L aV}(h:(mS l).2=0)(m:Nat)(b:m<(jE l).1.length+1):(nK (((jE l).1++[0]).take m)).2≠0:=by
 have a:=Tu h;rw[E8] at b ⊢;obtain⟨k,k0,e,f,g⟩:=Nb l 0 [] m (Jo h) (by omega) b;have c:Cd ((dO 0 l++[0]).take m)=k:=by
  unfold Cd;refine aAF (by rw[aZf,aZb];simp only[aZc,aZd];omega) ?_ (fun j d=>?_)
  rw[Xn];exact e;rw[Xn];exact f j d
 unfold nK;rw[if_neg (by rw[aZf];simp only[aZb,aZc,aZd];omega),c,Xn];unfold pY;rw[if_pos g];decide
end
section
variable {G:aF}{bb:Bool}
theorem A0(p L:List Int)(n:Int)(a:Nat)(h:p.length<=a):∀k,bA (p++L) a n k=p++bA L (a-p.length) n k
 |0=>rfl
 | k+1=>by
  rw[bA,A0 p L n a h k,bA,List.set_append_right _ _ (by omega)];congr 2;omega
theorem E9(z X:L Int)(n:Int):∀k,z.length=k->bA (z++X) 0 n k=bI n k++X:=by
 have b:∀(k:Nat)(z X:L Int),z.length=k->bA (z++X) 0 n k=bI n k++X:=by
  intro k
  induction k with
  |zero=>
   intro z X h;have:z=[]:=List.length_eq_zero_iff.1 h;subst this;rfl
  |succ k d=>
   intro z X h;obtain⟨a,x,rfl⟩:∃a x,z=a++[x]:=by
    rcases List.eq_nil_or_concat z with rfl|⟨a,x,e⟩;simp at h;exact⟨a,x,by rw[e,List.concat_eq_append]⟩
   have c:a.length=k:=by simpa using h
   rw[bA,aZr,d a ([x]++X) c,aZX,List.set_append_right _ _ (by rw[aA];omega),aA,aZ2,bI,aZr];rfl
 exact fun k h=>b k z X h
theorem J9(p L s:List Int)(a:Nat)(h:p.length<=a):iW (p++L) a s=p++iW L (a-p.length) s:=by
 unfold iW;rw[List.take_append,aZM h,List.drop_append,List.drop_of_length_le (by omega),aZs,aZr,aZr];rw[show a+s.length-p.length=a-p.length+s.length by omega,aZr]
theorem aGY(z X s:L Int)(h:z.length=s.length):iW (z++X) 0 s=s++X:=by
 unfold iW;rw[bAp,aZs,aZX,List.drop_left' h]
theorem Py(z X s:L Int)(a:Nat)(b:a=0)(h:z.length=s.length):iW (z++X) a s=s++X:=by subst b;exact aGY z X s h
theorem Xo(a b:Nat):zl (a+b)=zl a++zl b:=by unfold zl;rw[List.replicate_append_replicate]
structure aJ.Dc (a:aJ):Prop where
 ty:0<=a.ty/\a.ty<4294967296
 nm:aK a.nm
 nl:a.nm.length<=255
 id:0<=a.id/\a.id<65536
 fl:0<=a.fl/\a.fl<65536
 va:aK a.va
 vl:a.va.length<=1000
 t:a.res=true->a.rs=[]/\a.fi=0/\a.al=0/\a.sz=0/\a.vd=0
 f:a.res=false->a.va=[]/\(mS a.rs).2=0/\(0<=a.fi/\a.fi<4294967296)/\(0<=a.al/\a.al<4294967296)/\(0<=a.sz/\a.sz<4294967296)/\(0<=a.vd/\a.vd<4294967296)
theorem aJ.Dc.bd{a:aJ}(h:a.Dc):a.Bd:=by
 have m:=h.ty;have n:=h.nl;have h3:=h.id;have h4:=h.fl;have h5:=h.vl;cases c:a.res with
 |true=>
  obtain⟨b,d,e,g,i⟩:=h.t c;have:gI a.rs=0:=by rw[b];rfl
  exact⟨h.nm,h.va,by omega,by omega,by rw[b];simp,by omega,by omega,by omega,by omega,by omega,by omega,by omega,by omega⟩
 |false=>
  obtain⟨b,d,e,g,i,o⟩:=h.f c;obtain⟨j,k,l⟩:=J3 d;exact⟨h.nm,h.va,by omega,by omega,by omega,by omega,by omega,by omega,by omega,by omega,by omega,by omega,by omega⟩
theorem aJ.Ok.dc{a:aJ}(h:a.Ok):a.Dc:=by
 have l:=Pq h.ty;have m:=Hs h.nm;obtain⟨n,o⟩:=h.rg;have h4:=h.e;unfold tN at h4;refine⟨by omega,h.w.nm,by omega,by omega,by omega,h.w.va,?_,fun b=>?_,fun b=>?_⟩
 split at h4;have:=Ps h4;omega;have:=(E6 h4).2.1;rw[this];simp;rw[if_pos b] at h4;obtain⟨c,d,f,g,i,_⟩:=Ps h4;exact⟨c,d,f,g,i⟩;rw[if_neg (by rw[b];decide)] at h4;obtain⟨p,j,q,k,r,s,t,u,r9⟩:=E6 h4;exact⟨j,k,by omega,by omega,by omega,by omega⟩
theorem uV{a:aJ}(h:a.Dc):Tk a=qQ a:=by
 unfold Tk qQ;cases b:a.res with
 |true=>rfl
 |false=>
  rw[if_neg (by decide),if_neg (by decide)];obtain⟨_,c,_⟩:=h.f b;unfold Cb;rw[if_neg (by rw[Mz];simpa using c)]
theorem aAG(x:Int):bI (x % 4294967296) 4=bI x 4:=by
 simp only[bI,F9,aZs,aZx];congr 1;omega;congr 1;omega;congr 1;omega;congr 1;omega
theorem Gb(a:aJ):cW a % 8=0/\sN a+a.nm.length<=cW a/\cW a+(qQ a).length<=eO a/\eO a % 8=0/\eO a<=cW a+(qQ a).length+7:=by
 unfold eO cW;omega
theorem aGZ(X N u:Nat)(h:N=X+8+u)(a:N % 8=0)(b:u<=7):(X+7) / 8*8-X=u:=by omega
theorem aU0{a:aJ}(h:a.Dc)(c:a.res=true):tL a=gJ a:=by
 obtain⟨r,l,m,s,n⟩:=Gb a;have k:=uV h;have d:sN a=24:=by simp[sN,c]
 have b:qQ a=a.va:=by simp[qQ,c]
 rw[d] at l;rw[b] at m n;obtain⟨g,p⟩:∃g,cW a=24+(a.nm.length+g):=⟨cW a-24-a.nm.length,by omega⟩;obtain⟨u,q⟩:∃u,eO a=cW a+(a.va.length+u):=⟨eO a-cW a-a.va.length,by omega⟩;have i:eO a=4+(4+(1+(1+(2+(2+(2+(4+(4+(a.nm.length+(g+(a.va.length+u))))))))))):=by omega
 have j:zl (eO a)=zl 4++(zl 4++(zl 1++(zl 1++(zl 2++(zl 2++(zl 2++(zl 4++(zl 4++(zl a.nm.length++(zl g++(zl a.va.length++zl u))))))))))):=by
  conv=>lhs;rw[i]
  simp only[Xo]
 unfold tL Th Tg;rw[if_pos c,j,d,b];simp (disch:=first|omega|(simp only[aS,aA]<;>omega)|fail) only[A0,E9,aS,aA,Nat.reduceSub,aZ2]
 simp (disch:=first|omega|(simp only[aS,aA]<;>omega)|fail) only[J9,Py,aS,aA,Nat.reduceSub,aZ2]
 unfold gJ uT Lr Bg uS;rw[if_pos c,if_pos c,d,k,b];simp only[aZr];simp only[aZb,aA,aZh];have o:zl 1=bI 0 1:=rfl;have e:cW a-24-a.nm.length=g:=by omega
 rw[e];have f:(1+(1+(2+(2+(2+(4+(4+(a.nm.length+(g+a.va.length))))))))+7) / 8*8-(1+(1+(2+(2+(2+(4+(4+(a.nm.length+(g+a.va.length)))))))))=u:=by omega
 rw[f];rfl
theorem aU1{a:aJ}(h:a.Dc)(i:a.res=false):tL a=gJ a:=by
 obtain⟨q,l,r,m,s⟩:=Gb a;have b:¬ a.res=true:=by rw[i];decide
 have k:=uV h;have f:sN a=40:=by simp[sN,i]
 rw[f] at l;obtain⟨g,o⟩:∃g,cW a=40+(a.nm.length+g):=⟨cW a-40-a.nm.length,by omega⟩;obtain⟨u,p⟩:∃u,eO a=cW a+((qQ a).length+u):=⟨eO a-cW a-(qQ a).length,by omega⟩;have d:eO a=4+(4+(1+(1+(2+(2+(2+(4+(4+(2+(2+(4+(4+(4+(a.nm.length+(g+((qQ a).length+u)))))))))))))))):=by omega
 have e:zl (eO a)=zl 4++(zl 4++(zl 1++(zl 1++(zl 2++(zl 2++(zl 2++(zl 4++(zl 4++(zl 2++(zl 2++(zl 4++(zl 4++(zl 4++(zl a.nm.length++(zl g++(zl (qQ a).length++zl u)))))))))))))))):=by
  conv=>lhs;rw[d]
  simp only[Xo]
 unfold tL Th Tg;rw[if_neg b,e,f];simp (disch:=first|omega|(simp only[aS,aA]<;>omega)|fail) only[A0,E9,aS,aA,Nat.reduceSub,aZ2]
 simp (disch:=first|omega|(simp only[aS,aA]<;>omega)|fail) only[J9,Py,aS,aA,Nat.reduceSub,aZ2]
 unfold gJ uT Lr Bg uS;rw[if_neg b,if_neg b,f,k,aAG];simp only[aZr];simp only[aZb,aA,aZh];have n:zl 1=bI 0 1:=rfl;have c:cW a-40-a.nm.length=g:=by omega
 rw[c];have j:(1+(1+(2+(2+(2+(4+(4+(2+(2+(4+(4+(4+(a.nm.length+(g+(qQ a).length)))))))))))))+7) / 8*8-(1+(1+(2+(2+(2+(4+(4+(2+(2+(4+(4+(4+(a.nm.length+(g+(qQ a).length))))))))))))))=u:=aGZ _ (eO a) u (by clear e d c;omega) m (by clear e d c;omega);rw[j];rfl
theorem uW{a:aJ}(h:a.Dc):tL a=gJ a:=by
 cases b:a.res with
 |true=>exact aU0 h b
 |false=>exact aU1 h b
end
section
variable {G:aF}{bb:Bool}
def gv:L Int->Int
 |[]=>0
 |b::t=>b+256*gv t
def gL(l:L Int)(a k:Nat):Int:=gv ((l.drop a).take k)
theorem aG0(l:L Int)(a k:Nat)(h:a<l.length):gL l a (k+1)=l[a]+256*gL l (a+1) k:=by
 unfold gL;rw[aZ5 h,bAE,gv]
theorem aAH:∀(l:L Int)(m:Nat),aK l->l.length<=m->0<=gv l/\gv l<256 ^ m
 | [],m,_,_=>by
  have:(0:Int) < 256 ^ m:=Int.pow_pos (by decide);simp only[gv];omega
 |b::t,0,_,h=>by simp at h
 | b::t,m+1,a,h=>by
  obtain⟨d,c⟩:=jL a;have e:=aAH t m c (by simpa using h);rw[gv,Int.pow_succ];omega
theorem uX{l:L Int}(h:aK l)(a k:Nat):aK ((l.drop a).take k):=fun b c=>h b (aZL (aZA c))
theorem kP{l:L Int}(h:aK l)(a k:Nat)(c:k<=4):0<=gL l a k/\gL l a k<4294967296:=by
 have b:=aAH ((l.drop a).take k) k (uX h a k) (by rw[aZf];omega);unfold gL;rcases (show k=0\/k=1\/k=2\/k=3\/k=4 by omega) with rfl|rfl|rfl|rfl|rfl<;>simp only[Int.reducePow] at b<;>omega
theorem Ce{l:L Int}(h:aK l)(a:Nat):0<=gL l a 2/\gL l a 2<65536:=by
 have b:=aAH ((l.drop a).take 2) 2 (uX h a 2) (by rw[aZf];omega);unfold gL;simp only[Int.reducePow] at b;omega
theorem Pz{l:L Int}(h:aK l)(a:Nat):0<=gL l a 1/\gL l a 1<256:=by
 have b:=aAH ((l.drop a).take 1) 1 (uX h a 1) (by rw[aZf];omega);unfold gL;simp only[Int.reducePow] at b;omega
theorem orL(n b:Int)(e:0<=n/\n<=4294967296)(d:0<=b/\b<=255):W9 .i64 (n*256) b=n*256+b:=by
 obtain⟨n,rfl⟩:=bAh e.1;obtain⟨b,rfl⟩:=bAh d.1;have a:((n:Int)*256)=((n*256:Nat):Int):=by simp
 have c:n*256 ||| b=n*256+b:=by
  have:=Nat.shiftLeft_add_eq_or_of_lt (show b<2 ^ 8 by omega) n;rw[Nat.shiftLeft_eq] at this;exact this.symm
 rw[W9,a,Ju,BitVec.ofInt_natCast,BitVec.ofInt_natCast,BitVec.toNat_or,BitVec.toNat_ofNat,BitVec.toNat_ofNat,aZ8 (by omega),aZ8 (by omega),c,Bq (by omega)];simp
theorem cV(l:L Int)(c:aK l)(a k:Nat)(m:a+k<=l.length)(o:k<=4)(p:l.length<=1000000):EV G (Tb (bs bb)) 68 [sv l,vi a,vi k] []=some (vi (gL l a k),[]):=by
 refine aB rfl ?_;simp (disch:=first|omega|(simp only[aZb,aZc,aZd,aZa,aA];omega)) only[go_sem,h68c]
 rw[aR (fun j=>⟨(sv l::vi a::jk 5 (vi (gL l (a+k-j) j)::vi ((k:Int)-1-j)::jk 16 [])),[]⟩) k ?_ ?_]
 have e:a+k-k=a:=by omega
 have b:¬ 0<=(k:Int)-1-(k:Int):=by omega
 simp (disch:=first|omega|(simp only[aZb,aZc,aZd,aZa,aA];omega)) only[go_sem,h68l0,e,b]
 simp[gL,gv,jk];intro j n;have i:=c _ (aZk (show a+k-1-j<l.length by omega));have g:=kP c (a+k-j) j (by omega);have d:gL l (a+k-(j+1)) (j+1)=gL l (a+k-j) j*256+l[a+k-1-j]'(by omega):=by
  have:a+k-(j+1)<l.length:=by omega
  rw[aG0 l _ j this,show a+k-(j+1)+1=a+k-j by omega,Int.mul_comm];rw[Int.add_comm];congr 1;congr 1;omega
 have b:0<=(k:Int)-1-(j:Int):=by omega
 rw[d];generalize gL l (a+k-j) j=z at g ⊢;have f:((a:Int)+((k:Int)-1-(j:Int))).toNat=a+k-1-j:=by omega
 have h:=gY _ i;simp (disch:=first|omega|(simp only[aZb,aZc,aZd,aZa,aA];omega)) only[go_sem,h68l0,eq_true b,aZt,f,h]
 rw[show (k:Int)-1-(j:Int)-1=(k:Int)-1-((j:Int)+1) by omega]
theorem Gc(l:L Int)(c:aK l)(a k:Nat)(m:a+k<=l.length)(p:k<=4)(q:l.length<=1000000):EV G (Tb (bs bb)) 233 [sv l,vi a,vi k] []=some (vi (gL l a k),[]):=by
 refine aB rfl ?_;simp (disch:=first|omega|(simp only[aZb,aZc,aZd,aZa,aA];omega)) only[go_sem,h233c]
 rw[aR (fun j=>⟨(sv l::vi a::jk 5 (vi (gL l (a+k-j) j)::vi ((k:Int)-1-j)::jk 16 [])),[]⟩) k ?_ ?_]
 have e:a+k-k=a:=by omega
 have b:¬ 0<=(k:Int)-1-(k:Int):=by omega
 simp (disch:=first|omega|(simp only[aZb,aZc,aZd,aZa,aA];omega)) only[go_sem,h233l0,e,b]
 simp[gL,gv,jk];intro j n;have d:=c _ (aZk (show a+k-1-j<l.length by omega));have h:=kP c (a+k-j) j (by omega);have f:gL l (a+k-(j+1)) (j+1)=gL l (a+k-j) j*256+l[a+k-1-j]'(by omega):=by
  have:a+k-(j+1)<l.length:=by omega
  rw[aG0 l _ j this,show a+k-(j+1)+1=a+k-j by omega,Int.mul_comm];rw[Int.add_comm];congr 1;congr 1;omega
 have b:0<=(k:Int)-1-(j:Int):=by omega
 rw[f];generalize gL l (a+k-j) j=z at h ⊢;have g:((a:Int)+((k:Int)-1-(j:Int))).toNat=a+k-1-j:=by omega
 have i:=gY _ d;have o:=orL z _ (by omega) d;simp (disch:=first|omega|(simp only[aZb,aZc,aZd,aZa,aA];omega)) only[go_sem,h233l0,eq_true b,aZt,g,i,Int.reduceToNat,Int.reducePow,o]
 rw[show (k:Int)-1-(j:Int)-1=(k:Int)-1-((j:Int)+1) by omega]
theorem gv1(n:Int)(h:0<=n/\n<256):gv (bI n 1)=n:=by
 show n % 256+256*0=n;omega
theorem gv2(n:Int)(h:0<=n/\n<65536):gv (bI n 2)=n:=by
 show n % 256+256*(n / 256 % 256+256*0)=n;omega
theorem gv4(n:Int)(h:0<=n/\n<4294967296):gv (bI n 4)=n:=by
 show n % 256+256*(n / 256 % 256+256*(n / 256 / 256 % 256+256*(n / 256 / 256 / 256 % 256+256*0)))=n;omega
theorem iF(p L:List Int)(a k:Nat)(h:p.length<=a):gL (p++L) a k=gL L (a-p.length) k:=by
 unfold gL;rw[List.drop_append,List.drop_of_length_le (by omega),aZs]
theorem P0(z L:List Int)(k:Nat)(h:z.length=k):gL (z++L) 0 k=gv z:=by
 unfold gL;rw[aZ1,bAs h]
