/- Part. Conditions: none. -/
import Derived.Test.YtalhnjjchkmfeabGreatDoorSu
import Derived.Test.YtalhnjjchkmfeabGreatDoorVo
namespace Go.Proofs.YtalhnjjchkmfeabGreatDoor
set_option maxHeartbeats 4000000
set_option linter.unusedSimpArgs false
set_option linter.unusedVariables false
set_option maxRecDepth 4000
section
variable {G:aE}{bb:Bool}
theorem aNO{s:L Int}(h:(cE s).2.2=0):s.length=512/\jY s/\∃a,Ah ((eU s).drop 64)=some a/\iT (dV (eU s) []) (68+a.flatten.length) a.flatten=eU s/\(iN a).2=0/\dR (dV (eU s) (iN a).1)=0/\cE s=(dV (eU s) (iN a).1,gS s,0):=by
 unfold cE at h ⊢;by_cases c:s.length≠512;rw[if_pos c] at h;exact absurd h (by decide);rw[if_neg c] at h;by_cases d:¬ jY s;rw[if_pos d] at h;exact absurd h (by decide);rw[if_neg d] at h;refine⟨Classical.not_not.1 c,Classical.not_not.1 d,?_⟩;cases i:Ah ((eU s).drop 64) with
 |none=>rw[i] at h;exact absurd h (show ¬ (3:Int)=0 by decide)
 |some a=>
  rw[i] at h;refine⟨a,rfl,?_⟩;simp only at h;rw[if_neg c,if_neg d];unfold Ua at h ⊢;by_cases f:iT (dV (eU s) []) (68+a.flatten.length) a.flatten≠eU s;rw[if_pos f] at h;exact absurd h (by decide);rw[if_neg f] at h;by_cases b:(iN a).2≠0;rw[if_pos b] at h;exact absurd h b;rw[if_neg b] at h;by_cases g:dR (dV (eU s) (iN a).1)≠0;rw[if_pos g] at h;dsimp only at h;exact absurd h g;refine⟨Classical.byContradiction fun e=>f e,Classical.byContradiction fun e=>b e,Classical.byContradiction fun e=>g e,?_⟩
  exact (if_neg f).trans ((if_neg b).trans (if_neg g))
theorem P4{s:L Int}(h:(cE s).2.2≠0):(cE s).1=.nil/\(cE s).2.1=0:=by
 unfold cE at h ⊢;by_cases b:s.length≠512;rw[if_pos b];exact⟨rfl,rfl⟩;rw[if_neg b] at h ⊢;by_cases c:¬ jY s;rw[if_pos c];exact⟨rfl,rfl⟩;rw[if_neg c] at h ⊢;cases g:Ah ((eU s).drop 64) with
 |none=>exact⟨rfl,rfl⟩
 |some a=>
  rw[g] at h;simp only at h ⊢;unfold Ua at h ⊢;by_cases d:iT (dV (eU s) []) (68+a.flatten.length) a.flatten≠eU s;rw[if_pos d];exact⟨rfl,rfl⟩;rw[if_neg d] at h ⊢;by_cases e:(iN a).2≠0;rw[if_pos e];exact⟨rfl,rfl⟩;rw[if_neg e] at h ⊢;by_cases f:dR (dV (eU s) (iN a).1)≠0;rw[if_pos f];exact⟨rfl,rfl⟩;rw[if_neg f] at h;exact absurd rfl h
theorem Xq{s:L Int}(f:s.length=512)(i:aH s){a:L (L Int)}(h:Ah ((eU s).drop 64)=some a):(∀p∈a,aH p/\p.length<=1000/\24<=p.length)/\a.flatten.length<=444/\a.length<=18/\aH a.flatten:=by
 obtain⟨m,g,n,e⟩:=P3 _ _ a h;have t:((eU s).drop 64).length=448:=by rw[aZh,qU f]
 have j:aH ((eU s).drop 64):=fun x d=>J8 f i x (aZM d)
 have hf:aH a.flatten:=by
  rw[<- g];exact fun x d=>j x (aZA d)
 have c:∀b:L (L Int),(∀p∈b,24<=p.length)->24*b.length<=b.flatten.length:=by
  intro b
  induction b with
  |nil=>intro _;exact aZe _
  |cons p b l=>
   intro h;have o:=h p aZt;have r:=l (fun q k=>h q (aZB _ k))
   rw[aZ7,aZa,aZb];omega
 have h24:=c a (fun p hp=>(e p hp).1)
 refine⟨fun p hp=>⟨fun x d=>hf x (List.mem_flatten.2 ⟨p,hp,d⟩),?_,(e p hp).1⟩,by omega,by omega,hf⟩
 have:=(e p hp).2;omega
theorem aQA{s:L Int}(e:s.length=512)(d:aH s){a:L (L Int)}(h:Ah ((eU s).drop 64)=some a):(dV (eU s) (iN a).1).W:=by
 obtain⟨b,j,h3,h4⟩:=Xq e d h;obtain⟨f,c,g,i⟩:=aAz a (fun p hp=>⟨(b p hp).1,(b p hp).2.1⟩)
 exact⟨c,by show (iN a).1.length<=900;omega⟩
theorem aVg{s:L Int}(c:aH s):(cE s).1.W:=by
 by_cases h:(cE s).2.2=0;obtain⟨d,i,j,a,e,f,g,b⟩:=aNO h;rw[b];exact aQA d c a;rw[(P4 h).1];exact cI.nil_W
theorem Xr{s:L Int}(c:aH s):(cE s).2.2≠0/\(cE s).2.1=0/\(cE s).1=.nil\/(cE s).2.2=0/\dR (cE s).1=0/\1<=(cE s).2.1/\(cE s).2.1<=65535:=by
 by_cases h:(cE s).2.2=0;obtain⟨d,e,j,f,g,i,a,b⟩:=aNO h;refine .inr ⟨h,?_⟩;rw[b];exact⟨a,Xp d c e⟩;exact .inl ⟨h,(P4 h).2,(P4 h).1⟩
theorem lE{r:cI}(t:r.W)(h:dR r=0){u:Int}(y:1<=u/\u<=65535):cE (kW r u)=(r,u,0)/\(kW r u).length=512/\aH (kW r u):=by
 have d:=oZ h;have w:=J7 d;have g:∀a∈r.ats,a.W/\iL a=0:=fun a b=>⟨t.at' a b,d.errs.1 a b⟩
 have i:aH (gV r):=Nd (fun p hp=>by
  obtain⟨a,b,rfl⟩:=List.mem_map.1 hp;exact (P1 (g a b).1 (g a b).2).1)
 have k:=A5 r (68+(gV r).length) (gV r) (by omega);obtain⟨A,B,C⟩:=T6 (n:=u) k (fun j a c=>aHm _ _ _ j a c) y
 have m:(kW r u).length=512:=oY k 8 (by omega);have s:aH (kW r u):=by
  intro x z;obtain⟨j,v,rfl⟩:=List.mem_iff_getElem.1 z;have e:(kW r u)[j]=(kW r u).getD j 0:=by simp[aZo,v]
  have f:=D8 r (68+(gV r).length) (gV r) i;rw[e];unfold kW;rw[M7 k 8 (by omega)];unfold ptG
  repeat' split
  all_goals first|omega|exact qW f _
 refine⟨?_,m,s⟩;have f:gV r=(r.ats.map fJ).flatten:=rfl;unfold cE;have l:eU (kW r u)=iT r (68+(gV r).length) (gV r):=A;have q:gS (kW r u)=u:=C;have o:jY (kW r u):=B;rw[if_neg (not_not_intro m),if_neg (not_not_intro o),l,aHn,f,Ue _ _ g];simp only;unfold Ua;rw[l,q,Ud d,Ud d,Uf _ g,<- f];rw[if_neg (not_not_intro (by rfl))];simp only;have e:Xn r r.ats=r:=rfl;rw[e,h];rw[if_neg (fun c=>c rfl),if_neg (fun c=>c rfl)]
theorem J9{p:aK->Bool}{l:L aK}:jG p l<0↔∀a∈l,p a=false:=by
 unfold jG;obtain⟨g,hp,f⟩:=bI (fun k=>p (l.getD k aK.nil)=true) l.length
 generalize ix (fun k=>p (l.getD k aK.nil)=true) l.length=m at *
 constructor;intro h a c;split at h;rename_i e;obtain⟨j,d,rfl⟩:=List.mem_iff_getElem.1 c;have:=f j (by omega);rw[gB _ _ d] at this;simpa using this;omega;intro h;rcases hp with e|⟨b,hp⟩
 rw[if_pos e];decide;rw[gB _ _ b] at hp;rw[h _ (aZk b)] at hp;cases hp
end
section
variable {G:aE}{bb:Bool}
theorem Cm.le{α:Type}{P:α->Prop}{c:α->α->Int}(h:Cm P c){a b d:α}(e:P a)(f:P b)(g:P d)(x:c a b<=0)(y:c b d<=0):c a d<=0:=by
 by_cases i:c a b=0;rw[h.eq a b d e f g i];exact y;by_cases j:c b d=0;have:=(h.eq' f g e j).1.1 (by omega);omega;have:=h.tr a b d e f g (by omega) (by omega);omega
theorem aCX(l:L aK)(a:aK):dE (l++[a])=dE l+(fJ a).length:=by
 unfold dE;simp[aZQ,List.sum_append]
end
section
variable {G:aE}{bb:Bool}
theorem pI(n a b:Int):EV G (Tb (kS bb)) 98 [vi n,vi a,vi b] []=some (vb (decide (a<=n/\n<=b)),[]):=by
 refine aA rfl ?_;by_cases h:a<=n;all_goals simp (disch:=omega) only[go_sem,h98c]
 all_goals simp[h]
theorem sN(n a b:Int):EV G (Tb (kS bb)) 63 [vi n,vi a,vi b] []=some (vb (decide (a<=n/\n<=b)),[]):=by
 refine aA rfl ?_;by_cases h:a<=n;all_goals simp (disch:=omega) only[go_sem,h63c]
 all_goals simp[h]
theorem pJ(b:Bool)(e:Int):EV G (Tb (kS bb)) 100 [vb b,vi e] []=some (vi (un b e),[]):=by
 refine aA rfl ?_;cases b;all_goals simp (disch:=omega) only[go_sem,h100c]
 all_goals rfl
theorem Ug(l:L Int)(g:l.length<=1000):EV G (Tb (kS bb)) 99 [vl (el l)] []=some (vi (aT l),[]):=by
 refine aA rfl ?_;simp (disch:=omega) only[go_sem,h99c,aY9];have a:∀ k (b:k < l.length),¬ l.getD k 0≠0->K7 [5,0,0] 0 (EC (EV G (Tb (kS bb))) G h99l0 ⟨(jk 5 (vl (el l)::vi l.length::vi k::jk 7 [])),[]⟩)=some ⟨(jk 5 (vl (el l)::vi l.length::vi (k+1:Nat)::jk 7 [])),[]⟩:=fun k b f=>by
  rw[bW l k b] at f;simp (disch:=omega) only[go_sem,h99l0,aY9,tX]
 rcases O3 (fun k=>l.getD k 0≠0) l.length with h|⟨j,e,c,d⟩
 rw[aQ (fun k=>⟨(jk 5 (vl (el l)::vi l.length::vi k::jk 7 [])),[]⟩) l.length ?_ ?_]
 rw[iK l h];simp (disch:=omega) only[go_sem,h99l0];rfl;exact fun k b=>a k b (h k b)
 rw[aQ (fun k=>⟨(jk 5 (vl (el l)::vi l.length::vi k::jk 7 [])),[]⟩) j ?_ ?_]
 rw[kM l j e d c];rw[bW l j e] at c;simp (disch:=omega) only[go_sem,h99l0,aY9,tX];rfl;exact fun k b=>a k (by omega) (d k b)
theorem Ka(a b:Int):EV G (Tb (kS bb)) 99 [vl [[ci a],[ci b]]] []=some (vi (aT [a,b]),[]):=Ug [a,b] (by simp)
theorem Kb(a b c:Int):EV G (Tb (kS bb)) 99 [vl [[ci a],[ci b],[ci c]]] []=some (vi (aT [a,b,c]),[]):=Ug [a,b,c] (by simp)
abbrev rfv(a b:Int):AV:=.agg [.dc (ci a),.dc (ci b)]
theorem aL1(x:Int):Wq .i64 x 1=x % 2:=by
 have h:(BitVec.ofInt 64 x &&& BitVec.ofInt 64 1).toNat=(x % 2).toNat:=by
  rw[BitVec.toNat_and,show (BitVec.ofInt 64 1).toNat=1 from rfl,Nat.and_one_is_mod,BitVec.toNat_ofInt]
  omega
 show IntKind.i64.wrap (((BitVec.ofInt 64 x &&& BitVec.ofInt 64 1).toNat:Nat):Int)=_;rw[h,Bp (by omega)];omega
theorem aHq(a b:Int):EV G (Tb (kS bb)) 148 [rfv a b] []=some (vi (aCV a b),[]):=by
 refine aA rfl ?_;have d:=pI (G:=G) (bb:=bb) a 0 95;have g:=pI (G:=G) (bb:=bb) b 1 65535;have u:=fun c=>pJ (G:=G) (bb:=bb) c 2
 unfold aCV;by_cases e:0<=a/\a<=95;rw[decide_eq_true e] at d;by_cases f:1<=b/\b<=65535;rw[decide_eq_true f] at g;rw[if_pos ⟨e,f⟩];simp (disch:=omega) only[go_sem,h148c,d,g,u,gA];rw[decide_eq_false f] at g;rw[if_neg (fun h=>f h.2)]
 simp (disch:=omega) only[go_sem,h148c,d,g,u,gQ];rw[decide_eq_false e] at d;rw[if_neg (fun h=>e h.1)]
 simp (disch:=omega) only[go_sem,h148c,d,u,gQ]
theorem Nf(a b:Int):EV G (Tb (kS bb)) 101 [rfv a b] []=some (vi (Bj a b),[]):=by
 refine aA rfl ?_;have q:=aHq (G:=G) (bb:=bb) a b;unfold Bj;by_cases c:a=0;by_cases d:b=0;rw[if_pos ⟨c,d⟩];simp (disch:=omega) only[go_sem,h101c,q,eq_true c,eq_true d];rw[if_neg (fun h=>d h.2)]
 simp (disch:=omega) only[go_sem,h101c,q,eq_true c,d];rw[if_neg (fun h=>c h.1)]
 simp (disch:=omega) only[go_sem,h101c,q,c]
theorem aCY(a b:Int):EV G (Tb (kS bb)) 170 [rfv a b] []=some (vi (aCV a b),[]):=by
 refine aA rfl ?_;have c:=sN (G:=G) (bb:=bb) a 0 95;have f:=sN (G:=G) (bb:=bb) b 1 65535;unfold aCV;by_cases d:0<=a/\a<=95;rw[decide_eq_true d] at c;by_cases e:1<=b/\b<=65535;rw[decide_eq_true e] at f;rw[if_pos ⟨d,e⟩];simp (disch:=omega) only[go_sem,h170c,c,f];rw[decide_eq_false e] at f;rw[if_neg (fun h=>e h.2)]
 simp (disch:=omega) only[go_sem,h170c,c,f];rw[decide_eq_false d] at c;rw[if_neg (fun h=>d h.1)]
 simp (disch:=omega) only[go_sem,h170c,c]
theorem Kc(a b:Int):EV G (Tb (kS bb)) 115 [rfv a b] []=some (vi (Bj a b),[]):=by
 refine aA rfl ?_;have q:=aCY (G:=G) (bb:=bb) a b;unfold Bj;by_cases c:a=0;by_cases d:b=0;rw[if_pos ⟨c,d⟩];simp (disch:=omega) only[go_sem,h115c,q,eq_true c,eq_true d];rw[if_neg (fun h=>d h.2)]
 simp (disch:=omega) only[go_sem,h115c,q,eq_true c,d];rw[if_neg (fun h=>c h.1)]
 simp (disch:=omega) only[go_sem,h115c,q,c]
theorem Uh(r:cI):EV G (Tb (kS bb)) 102 [r.v] []=some (vb (hZ r.fl),[]):=by
 refine aA rfl ?_;unfold hZ;by_cases c:r.fl % 2=1;have d:¬ r.fl % 2=0:=by omega
 simp (disch:=omega) only[go_sem,h102c,aL1,d,decide_eq_true c];have d:r.fl % 2=0:=by omega
 simp (disch:=omega) only[go_sem,h102c,aL1,eq_true d,decide_eq_false c]
theorem aAB(r:cI)(h:0<=r.fl/\r.fl<=1000):EV G (Tb (kS bb)) 116 [r.v] []=some (vb (hZ r.fl),[]):=by
 refine aA rfl ?_;unfold hZ;have e:r.fl.tmod 2=r.fl % 2:=by rw[bAE h.1]
 simp (disch:=omega) only[go_sem,h116c,e]
theorem Kd(l:L aK)(k:Nat)(a:k<l.length):dE (l.take (k+1))=dE (l.take k)+(fJ l[k]).length:=by
 rw[aZ5 a,aCX]
theorem Ke(l:L aK)(c:∀a∈l,a.W):0<=dE l/\dE l<=440*l.length:=by
 induction l with
 |nil=>exact⟨Int.le_refl _,Int.le_refl _⟩
 |cons a l f=>
  have d:=f (fun b e=>c b (aZB _ e))
  have g:=sJ (c a aZt);unfold dE at d ⊢;simp only[aZl,List.sum_cons,aZb];omega
theorem aHr{l:L aK}(b:∀a∈l,a.W)(k:Nat):∀a∈l.take k,a.W:=fun a c=>b a (aZA c)
theorem Ui(l:L aK)(b:∀a∈l,a.W)(f:l.length<=1000):EV G (Tb (kS bb)) 105 [vl (l.map aK.e)] []=some (vi (dE l),[]):=by
 refine aA rfl ?_;simp (disch:=omega) only[go_sem,h105c,aY9];rw[aQ (fun k=>⟨(jk 3 (vi (dE (l.take k))::jk 4 (vl (l.map aK.e)::vi l.length::vi k::jk 13 []))),[]⟩) l.length ?_ ?_]
 simp (disch:=omega) only[go_sem,h105l0,aZO];rfl;intro k c;have q:=up (aCL (G:=G) (bb:=bb) l[k] (b _ (aZk c)));have d:=sJ (b _ (aZk c));have h3:=Ke (l.take k) (aHr b k);rw[aZd] at h3;have h4:dE (l.take k)<=440000:=by omega
 have h5:=h3.1;clear h3;rw[Kd l k c];generalize dE (l.take k)=z at *;simp (disch:=omega) only[go_sem,h105l0,aY9,ixA,aK.e,q]
theorem aL2(l:L aK)(f:∀a∈l,a.W)(g:∀a∈l,iL a=0)(i:l.length<=1000):EV G (Tb (kS bb)) 118 [vl (l.map aK.e)] []=some (vi (dE l),[]):=by
 refine aA rfl ?_;simp (disch:=omega) only[go_sem,h118c,aY9];rw[aQ (fun k=>⟨(vl (l.map aK.e)::jk 2 (vi (dE (l.take k))::vi k::jk 15 [])),[]⟩) l.length ?_ ?_]
 simp (disch:=omega) only[go_sem,h118l0,aY9,aZO];rfl;intro k d;have b:=f _ (aZk d);have c:=g _ (aZk d);have q:=up (Jt (G:=G) (bb:=bb) l[k] (mJ b c));rw[<- (D7 b c).1] at q;have h:=sJ b;have h3:=Ke (l.take k) (aHr f k);rw[aZd] at h3;have h4:dE (l.take k)<=440000:=by omega
 have h5:=h3.1;clear h3;rw[Kd l k d];generalize dE (l.take k)=z at *;simp (disch:=omega) only[go_sem,h118l0,aY9,ixA,aK.e,q]
attribute [go_sem] aNA aZf
end
section
variable {G:aE}{bb:Bool}
theorem qA(J:L Nat):∀a:L DC,Gr J (a.map aU.dc)=true
 |[]=>rfl
 |d::a=>by rw[aZl,Gr,qA J a];rfl
theorem qB:∀a:L DC,idsL (a.map aU.dc)=[]
 |[]=>rfl
 |d::a=>by rw[aZl,idsL,qB a];rfl
theorem qC(f:Nat->Nat):∀a:L DC,List.map (kT f) (a.map aU.dc)=a.map aU.dc
 |[]=>rfl
 |d::a=>by rw[aZl,aZl,qC f a];rfl
theorem qD(m:Nat):∀a:L DC,Gq m (a.map aU.dc)=a.map aU.dc
 |[]=>rfl
 |d::a=>by rw[aZl,Gq,qD m a];rfl
theorem mL(f:Nat->Bool):∀a:L DC,List.map (cO f) (a.map aU.dc)=a.map aU.dc
 |[]=>rfl
 |d::a=>by rw[aZl,aZl,mL f a];rfl
theorem aHs(d:Nat)(b:L DC)(p:aK->Bool)(l:L aK)(i:l.length<=1000000)(h:∀a∈l,EV G (Tb (kS bb)) d [a.v,.one (.ptr 0 0)] [.box (b.map aU.dc)]=some (vb (p a),[.box (b.map aU.dc)])):EV G (Tb (kS bb)) 92 [vl (l.map aK.e),.one (.fn d [.ptr 0 0])] [.box (b.map aU.dc)]=some (vi (jG p l),[.box (b.map aU.dc)]):=by
 refine aA rfl ?_;simp (disch:=omega) only[go_sem,h92c,aY9,qA,qB,qC,qD,mL];unfold jG;rw[dP (fun k=>⟨(vl (l.map aK.e)::.one (.fn d [.ptr 0 0])::jk 5 (vi l.length::vi k::jk 10 [])),[.box (b.map aU.dc)]⟩) (fun k=>p (l.getD k aK.nil)=true) l.length ?_ ?_]
 rotate_left
 rfl;intro k f g;have h3:=g k (aZe _);rw[gB l k f] at h3;have h4:p l[k]=false:=by simpa using h3
 have q:=h l[k] (aZk f);rw[h4] at q;simp (disch:=omega) only[go_sem,h92l0,aY9,ixA,aK.e,q,qA,qB,qC,qD,mL];obtain⟨f,hp,g⟩:=bI (fun k=>p (l.getD k aK.nil)=true) l.length
 generalize ix (fun k=>p (l.getD k aK.nil)=true) l.length=k at *
 rcases hp with rfl|⟨c,hp⟩;rw[if_pos rfl];simp (disch:=omega) only[go_sem,h92l0,aY9,qA,qB,qC,qD,mL];rw[if_neg (by omega)];rw[gB l k c] at hp;have q:=h l[k] (aZk c);rw[hp] at q;simp (disch:=omega) only[go_sem,h92l0,aY9,ixA,aK.e,q,qA,qB,qC,qD,mL]
theorem aQB(c:Nat)(b:L DC)(p:aK->Bool)(l:L aK)(d:l.length<=1000000)(f:∀a∈l,EV G (Tb (kS bb)) c [a.v,.one (.ptr 0 0)] [.box (b.map aU.dc)]=some (vb (p a),[.box (b.map aU.dc)])):EV G (Tb (kS bb)) 196 [vl (l.map aK.e),.one (.fn c [.ptr 0 0])] [.box (b.map aU.dc)]=some (vb (l.any p),[.box (b.map aU.dc)]):=by
 refine aA rfl ?_;have q:=aHs (G:=G) (bb:=bb) c b p l d f;rw[<- Tp];simp (disch:=omega) only[go_sem,h196c,q,qA,qB,qC,qD,mL]
abbrev cI.d(r:cI):L DC:=[ci r.sq,ci r.li,ci r.fl,ci r.br,ci r.bq,ci r.nx,ci r.ls,.slc (r.ats.map aK.e)]
theorem aVh(r:cI)(a:aK):EV G (Tb (kS bb)) 104 [a.v,.one (.ptr 0 0)] [.box r.c]=some (vb (decide (r.nx<=a.id)),[.box r.c]):=by
 refine aA rfl ?_;simp (disch:=omega) only[go_sem,h104c]
theorem aVi(r:cI)(b:r.ats.length<=1000000):EV G (Tb (kS bb)) 92 [vl (r.ats.map aK.e),.one (.fn 104 [.ptr 0 0])] [.box r.c]=some (vi (Nb r),[.box r.c]):=
 aHs 104 r.d (fun a=>decide (r.nx<=a.id)) r.ats b (fun a _=>aVh r a)
def sA:HC->HC
 |.seq a _=>a
 |c=>c
def sB:HC->HC
 |.seq _ b=>b
 |c=>c
theorem Aj{a b:HC}:sA (.seq a b)=a:=rfl
theorem Bk{a b:HC}:sB (.seq a b)=b:=rfl
def sT:HC->HC
 |.trm _ a=>a
 |c=>c
theorem Lp{L:List Nat}{a:HC}:sT (.trm L a)=a:=rfl
def aL3(L:List Nat):Option (Exit×AS)->Option AS
 |some (.normal,s)=>some (lA L s.hp.length s)
 |_=>none
theorem qE{L:List Nat}{s:AS}:aL3 L (some (.normal,s))=some (lA L s.hp.length s):=rfl
theorem aQC{call:aN}{st st':AS}{c:HC}(a:c=.seq (sA c) (sB c))(h:EC call G (sA c) st=some (.normal,st')):EC call G c st=EC call G (sB c) st':=by
 rw[a,Wo];simp only[Aj,Bk];rw[h];rfl
theorem aAC{call:aN}{st st':AS}{c:HC}{L:List Nat}(d:c=.seq (sA c) (.trm L (sT (sB c))))(h:aL3 L (EC call G (sA c) st)=some st'):EC call G c st=EC call G (sT (sB c)) st':=by
 generalize sA c=a at d h;generalize sT (sB c)=b at d;subst d;rw[Wo];cases e:EC call G a st with
 |none=>rw[e] at h;cases h
 |some q=>
  obtain⟨x,s⟩:=q;cases x with
  |normal=>
   rw[e] at h;injection h with h
   rw[aNt,aFd,h]
  |_=>rw[e] at h;cases h
theorem aXH(l:L aK):((l.length:Int)=0)=(l=[]):=by
 apply propext;rw[<- List.length_eq_zero_iff];omega
theorem aQD(r:cI):aL3 [1,2] (EC (EV G (Tb (kS bb))) G (sA (sB h56c)) ⟨(r.v::.one (.ptr 0 0)::vi 0::vi 0::jk 92 []),[.box r.c]⟩)=some ⟨(jk 1 (.one (.ptr 0 0)::jk 2 (vb (tN r)::jk 91 []))),[.box r.c]⟩:=by
 have w:=pI (G:=G) (bb:=bb);unfold tN;by_cases a:1<=r.sq/\r.sq<=65535;rw[decide_eq_true a];by_cases b:0<=r.li/\r.li<=65535;rw[decide_eq_true b];by_cases d:0<=r.fl/\r.fl<=3;rw[decide_eq_true d];by_cases e:0<=r.nx/\r.nx<=65535;rw[decide_eq_true e];simp (disch:=omega) only[go_sem,h56c,Aj,Bk,qE,w,aZJ];rw[decide_eq_false e];simp (disch:=omega) only[go_sem,h56c,Aj,Bk,qE,w,aZJ,aZS];rw[decide_eq_false d];simp (disch:=omega) only[go_sem,h56c,Aj,Bk,qE,w,aZJ,aZS];rw[decide_eq_false b];simp (disch:=omega) only[go_sem,h56c,Aj,Bk,qE,w,aZJ,aZS];rw[decide_eq_false a];simp (disch:=omega) only[go_sem,h56c,Aj,Bk,qE,w,aZJ,aZS]
theorem aQE(r:cI)(b:Bool):aL3 [1,2,0] (EC (EV G (Tb (kS bb))) G (sA (sT (sB (sB h56c)))) ⟨(jk 1 (.one (.ptr 0 0)::jk 2 (vb b::jk 91 []))),[.box r.c]⟩)=some ⟨(jk 1 (.one (.ptr 0 0)::jk 2 (vb b::vb (J6 r)::jk 90 []))),[.box r.c]⟩:=by
 unfold J6;have j:=aXH r.ats;by_cases a:r.fl=0;rw[decide_eq_true a];by_cases g:r.ats=[];have e:(r.ats.length:Int)=0:=j.symm ▸ g;rw[decide_eq_true g];by_cases d:r.li=0;rw[decide_eq_true d];by_cases f:r.br=0/\r.bq=0;rw[decide_eq_true f];simp (disch:=omega) only[go_sem,h56c,Aj,Bk,Lp,qE,aY9,eq_true e,eq_true a,eq_true d,eq_true f.1,eq_true f.2,aZJ];rw[decide_eq_false f];by_cases i:r.br=0;have k:¬ r.bq=0:=fun h=>f ⟨i,h⟩
 simp (disch:=omega) only[go_sem,h56c,Aj,Bk,Lp,qE,aY9,eq_true e,eq_true a,eq_true d,eq_true i,k,aZJ,aZS];simp (disch:=omega) only[go_sem,h56c,Aj,Bk,Lp,qE,aY9,eq_true e,eq_true a,eq_true d,i,aZJ,aZS];rw[decide_eq_false d];simp (disch:=omega) only[go_sem,h56c,Aj,Bk,Lp,qE,aY9,eq_true e,eq_true a,d,aZJ,aZS];have e:¬ (r.ats.length:Int)=0:=fun h=>g (j ▸ h)
 rw[decide_eq_false g];simp (disch:=omega) only[go_sem,h56c,Aj,Bk,Lp,qE,aY9,e,eq_true a,aZJ,aZS];rw[decide_eq_false a];simp (disch:=omega) only[go_sem,h56c,Aj,Bk,Lp,qE,a,aZJ,aZS]
theorem Uj(r:cI)(k:r.W):EV G (Tb (kS bb)) 56 [r.v] []=some (iiv (qN r),[]):=by
 refine aA rfl ?_;have w:=k.ln;have q:EC (EV G (Tb (kS bb))) G h56c ⟨(r.v::jk 95 []),[]⟩=EC (EV G (Tb (kS bb))) G (sB h56c) ⟨(r.v::.one (.ptr 0 0)::vi 0::vi 0::jk 92 []),[.box r.c]⟩:=aQC rfl (by simp (disch:=omega) only[go_sem,h56c,Aj]);have s:=aAC (c:=sB h56c) (L:=[1,2]) rfl (aQD (G:=G) (bb:=bb) r);have t:=aAC (c:=sT (sB (sB h56c))) (L:=[1,2,0]) rfl (aQE (G:=G) (bb:=bb) r (tN r));refine (congrArg (qL _ _ _) (q.trans (s.trans t))).trans ?_;have u:=pJ (G:=G) (bb:=bb);have h:=Nf (G:=G) (bb:=bb) r.br r.bq;have b:=Uh (G:=G) (bb:=bb) r;have i:=Kb (G:=G) (bb:=bb);have j:=up (aLF (G:=G) (bb:=bb) r.ats k.at' (by omega));have l:=aVi (G:=G) (bb:=bb) r (by omega);have n:=Ui (G:=G) (bb:=bb) r.ats k.at' (by omega);unfold qN;have a:T9 r=aT [un (tN r) 2,Bj r.br r.bq,un (hZ r.fl||J6 r) 3]:=rfl
 generalize tN r=y at *;generalize J6 r=A at *;generalize Bj r.br r.bq=z at *;generalize Nb r=g at *;generalize dE r.ats=m at *;generalize oD r.ats=o at *;obtain⟨C,x⟩:=o;dsimp only at j ⊢;by_cases f:T9 r=0;rw[if_neg (not_not_intro f)];rw[f] at a;by_cases e:x=0;rw[if_neg (not_not_intro e)];by_cases p:0<=g
 ·rw[if_pos p];cases d:hZ r.fl;all_goals rw[d] at a b
  all_goals simp only[bAd,aZX] at a
  all_goals simp (disch:=omega) only[go_sem,h56c,Aj,Bk,Lp,u,h,b,i,j,l,n,<- a,eq_true e,bAd,aZX]
 ·rw[if_neg p];by_cases B:m<=440;all_goals cases d:hZ r.fl
  all_goals rw[d] at a b
  all_goals simp only[bAd,aZX] at a
  all_goals simp (disch:=omega) only[go_sem,h56c,Aj,Bk,Lp,u,h,b,i,j,l,n,<- a,eq_true e,bAd,aZX]
 ·rw[if_pos e];cases d:hZ r.fl;all_goals rw[d] at a b
  all_goals simp only[bAd,aZX] at a
  all_goals simp (disch:=omega) only[go_sem,h56c,Aj,Bk,Lp,u,h,b,i,j,l,n,<- a,e,bAd,aZX]
 ·rw[if_pos f];cases d:hZ r.fl;all_goals rw[d] at a b
  all_goals simp only[bAd,aZX] at a
  all_goals simp (disch:=omega) only[go_sem,h56c,Aj,Bk,Lp,u,h,b,i,<- a,f,bAd,aZX]
