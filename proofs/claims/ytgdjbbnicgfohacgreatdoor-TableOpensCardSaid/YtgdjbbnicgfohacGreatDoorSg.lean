/- Part. Conditions: none. -/
import Derived.Test.YtgdjbbnicgfohacGreatDoorSu
import Derived.Test.YtgdjbbnicgfohacGreatDoorUw
namespace Go.Proofs.YtgdjbbnicgfohacGreatDoor
set_option maxHeartbeats 4000000
set_option linter.unusedSimpArgs false
set_option linter.unusedVariables false
set_option maxRecDepth 4000
section
variable {G:aF}{bb:Bool}
theorem aNM{s:L Int}(h:(fZ s).2.2=0):s.length=512/\jN s/\∃a,Ab ((eK s).drop 64)=some a/\iK (dS (eK s) []) (68+a.flatten.length) a.flatten=eK s/\(iG a).2=0/\gW (dS (eK s) (iG a).1)=0/\fZ s=(dS (eK s) (iG a).1,gO s,0):=by
 unfold fZ at h ⊢;by_cases c:s.length≠512;rw[if_pos c] at h;exact absurd h (by decide);rw[if_neg c] at h;by_cases d:¬ jN s;rw[if_pos d] at h;exact absurd h (by decide);rw[if_neg d] at h;refine⟨Classical.not_not.1 c,Classical.not_not.1 d,?_⟩;cases i:Ab ((eK s).drop 64) with
 |none=>rw[i] at h;exact absurd h (show ¬ (3:Int)=0 by decide)
 |some a=>
  rw[i] at h;refine⟨a,rfl,?_⟩;simp only at h;rw[if_neg c,if_neg d];unfold Ul at h ⊢;by_cases f:iK (dS (eK s) []) (68+a.flatten.length) a.flatten≠eK s;rw[if_pos f] at h;exact absurd h (by decide);rw[if_neg f] at h;by_cases b:(iG a).2≠0;rw[if_pos b] at h;exact absurd h b;rw[if_neg b] at h;by_cases g:gW (dS (eK s) (iG a).1)≠0;rw[if_pos g] at h;dsimp only at h;exact absurd h g;refine⟨Classical.byContradiction fun e=>f e,Classical.byContradiction fun e=>b e,Classical.byContradiction fun e=>g e,?_⟩
  exact (if_neg f).trans ((if_neg b).trans (if_neg g))
theorem Qd{s:L Int}(h:(fZ s).2.2≠0):(fZ s).1=.nil/\(fZ s).2.1=0:=by
 unfold fZ at h ⊢;by_cases b:s.length≠512;rw[if_pos b];exact⟨rfl,rfl⟩;rw[if_neg b] at h ⊢;by_cases c:¬ jN s;rw[if_pos c];exact⟨rfl,rfl⟩;rw[if_neg c] at h ⊢;cases g:Ab ((eK s).drop 64) with
 |none=>exact⟨rfl,rfl⟩
 |some a=>
  rw[g] at h;simp only at h ⊢;unfold Ul at h ⊢;by_cases d:iK (dS (eK s) []) (68+a.flatten.length) a.flatten≠eK s;rw[if_pos d];exact⟨rfl,rfl⟩;rw[if_neg d] at h ⊢;by_cases e:(iG a).2≠0;rw[if_pos e];exact⟨rfl,rfl⟩;rw[if_neg e] at h ⊢;by_cases f:gW (dS (eK s) (iG a).1)≠0;rw[if_pos f];exact⟨rfl,rfl⟩;rw[if_neg f] at h;exact absurd rfl h
theorem Yd{s:L Int}(f:s.length=512)(i:aK s){a:L (L Int)}(h:Ab ((eK s).drop 64)=some a):(∀p∈a,aK p/\p.length<=1000/\24<=p.length)/\a.flatten.length<=444/\a.length<=18/\aK a.flatten:=by
 obtain⟨m,g,n,e⟩:=Qb _ _ a h;have t:((eK s).drop 64).length=448:=by rw[aZn,qF f]
 have j:aK ((eK s).drop 64):=fun x d=>Kq f i x (aZL d)
 have hf:aK a.flatten:=by
  rw[<- g];exact fun x d=>j x (aZA d)
 have c:∀b:L (L Int),(∀p∈b,24<=p.length)->24*b.length<=b.flatten.length:=by
  intro b
  induction b with
  |nil=>intro _;exact aZe _
  |cons p b l=>
   intro h;have o:=h p aZu;have r:=l (fun q k=>h q (aZC _ k))
   rw[aZ6,aZb,aZc];omega
 have h24:=c a (fun p hp=>(e p hp).1)
 refine⟨fun p hp=>⟨fun x d=>hf x (List.mem_flatten.2 ⟨p,hp,d⟩),?_,(e p hp).1⟩,by omega,by omega,hf⟩
 have:=(e p hp).2;omega
theorem aQE{s:L Int}(e:s.length=512)(d:aK s){a:L (L Int)}(h:Ab ((eK s).drop 64)=some a):(dS (eK s) (iG a).1).W:=by
 obtain⟨b,j,h3,h4⟩:=Yd e d h;obtain⟨f,c,g,i⟩:=aAZ a (fun p hp=>⟨(b p hp).1,(b p hp).2.1⟩)
 exact⟨c,by show (iG a).1.length<=900;omega⟩
theorem aVo{s:L Int}(c:aK s):(fZ s).1.W:=by
 by_cases h:(fZ s).2.2=0;obtain⟨d,i,j,a,e,f,g,b⟩:=aNM h;rw[b];exact aQE d c a;rw[(Qd h).1];exact cL.nil_W
theorem aQF{s:L Int}(c:aK s):(fZ s).2.2≠0/\(fZ s).2.1=0/\(fZ s).1=.nil\/(fZ s).2.2=0/\gW (fZ s).1=0/\1<=(fZ s).2.1/\(fZ s).2.1<=65535:=by
 by_cases h:(fZ s).2.2=0;obtain⟨d,e,j,f,g,i,a,b⟩:=aNM h;refine .inr ⟨h,?_⟩;rw[b];exact⟨a,Yc d c e⟩;exact .inl ⟨h,(Qd h).2,(Qd h).1⟩
theorem D8{r:cL}(t:r.W)(h:gW r=0){u:Int}(y:1<=u/\u<=65535):fZ (oH r u)=(r,u,0)/\(oH r u).length=512/\aK (oH r u):=by
 have d:=D6 h;have w:=Un d;have g:∀a∈r.ats,a.W/\gE a=0:=fun a b=>⟨t.at' a b,d.errs.1 a b⟩
 have i:aK (jY r):=Nu (fun p hp=>by
  obtain⟨a,b,rfl⟩:=List.mem_map.1 hp;exact (P9 (g a b).1 (g a b).2).1)
 have k:=A3 r (68+(jY r).length) (jY r) (by omega);obtain⟨A,B,C⟩:=Tx (n:=u) k (fun j a c=>aHz _ _ _ j a c) y
 have m:(oH r u).length=512:=oF k 8 (by omega);have s:aK (oH r u):=by
  intro x z;obtain⟨j,v,rfl⟩:=List.mem_iff_getElem.1 z;have e:(oH r u)[j]=(oH r u).getD j 0:=by simp[aZo,v]
  have f:=D7 r (68+(jY r).length) (jY r) i;rw[e];unfold oH;rw[Nc k 8 (by omega)];unfold ptG
  repeat' split
  all_goals first|omega|exact qH f _
 refine⟨?_,m,s⟩;have f:jY r=(r.ats.map gV).flatten:=rfl;unfold fZ;have l:eK (oH r u)=iK r (68+(jY r).length) (jY r):=A;have q:gO (oH r u)=u:=C;have o:jN (oH r u):=B;rw[if_neg (not_not_intro m),if_neg (not_not_intro o),l,aHA,f,Uq _ _ g];simp only;unfold Ul;rw[l,q,Uo d,Uo d,Ur _ g,<- f];rw[if_neg (not_not_intro (by rfl))];simp only;have e:Yb r r.ats=r:=rfl;rw[e,h];rw[if_neg (fun c=>c rfl),if_neg (fun c=>c rfl)]
theorem Ad{p:aJ->Bool}{l:L aJ}:iX p l<0↔∀a∈l,p a=false:=by
 unfold iX;obtain⟨g,hp,f⟩:=bE (fun k=>p (l.getD k aJ.nil)=true) l.length
 generalize ix (fun k=>p (l.getD k aJ.nil)=true) l.length=m at *
 constructor;intro h a c;split at h;rename_i e;obtain⟨j,d,rfl⟩:=List.mem_iff_getElem.1 c;have:=f j (by omega);rw[eY _ _ d] at this;simpa using this;omega;intro h;rcases hp with e|⟨b,hp⟩
 rw[if_pos e];decide;rw[eY _ _ b] at hp;rw[h _ (aZk b)] at hp;cases hp
theorem aA1{r:cL}{a:aJ}(d:r.Ok)(e:gE (bT a r.nx)=0)(j:r.ats.length<32):Ua (r.ats++[bT a r.nx])=0:=by
 have f:=Ad.1 d.gt;refine aLT (by rw[aZb,bAL];omega) ((A1 _).2 ⟨fun b c=>?_,?_⟩)
 rcases bAv.1 c with c|c;exact d.errs.1 b c;rw[List.mem_singleton.1 c];exact e;rw[aZR,List.nodup_append];refine⟨d.errs.2,by simp,fun x g y h=>?_⟩
 obtain⟨b,c,rfl⟩:=List.mem_map.1 g;have i:y=r.nx:=by simpa[bT] using h
 have:=f b c;simp only[decide_eq_false_iff_not] at this;omega
end
section
variable {G:aF}{bb:Bool}
theorem Cm.le{α:Type}{P:α->Prop}{c:α->α->Int}(h:Cm P c){a b d:α}(e:P a)(f:P b)(g:P d)(x:c a b<=0)(y:c b d<=0):c a d<=0:=by
 by_cases i:c a b=0;rw[h.eq a b d e f g i];exact y;by_cases j:c b d=0;have:=(h.eq' f g e j).1.1 (by omega);omega;have:=h.tr a b d e f g (by omega) (by omega);omega
theorem aQG{α:Type}{P:α->Prop}{c:α->α->Int}(h:Cm P c){l:L α}(e:∀a∈l,P a)(f:∀k (r:k+1<l.length),c l[k] l[k+1]<=0):l.Pairwise fun a b=>c a b<=0:=by
 rw[bAO];intro i j q o n;obtain⟨d,rfl⟩:∃d,j=i+1+d:=⟨j-i-1,by omega⟩
 induction d with
 |zero=>exact f i o
 |succ d p=>
  have g:=p (by omega) (by omega);have m:=f (i+1+d) (by omega);exact h.le (e _ (aZk _)) (e _ (aZk _)) (e _ (aZk _)) g m
def G4(a b:aJ):Int:=aT [kF a.ty b.ty,Bi a.nm b.nm,kF a.fi b.fi]
def aL4(a b:aJ):Int:=Lt (fun a b:aJ=>Fe a.ty b.ty) (Lt (fun a b:aJ=>Hv (dB a.nm).toList (dB b.nm).toList) (fun a b:aJ=>Fe a.fi b.fi)) a b
theorem aL5:Cm (fun _=>True) aL4:=
 (Ff.map (fun a:aJ=>a.ty) (fun _ _=>trivial)).lex ((X3.map (fun a:aJ=>(dB a.nm).toList) (fun _ _=>trivial)).lex (Ff.map (fun a:aJ=>a.fi) (fun _ _=>trivial)))
theorem Us(a b:Int):kF a b=Fe a b:=rfl
theorem aL6(a b:aJ):aL4 a b=G4 a b:=by
 unfold aL4 G4 Lt;rw[Us,Us,D3];simp only;by_cases c:Fe a.ty b.ty=0;rw[if_pos c,c,aX];by_cases d:Hv (dB a.nm).toList (dB b.nm).toList=0;rw[if_pos d,d,aX];by_cases h3:Fe a.fi b.fi=0;rw[h3,aX];rfl;rw[aZ _ _ h3];rw[if_neg d,aZ _ _ d];rw[if_neg c,aZ _ _ c]
theorem aA2:Cm (fun _=>True) G4:=by
 have e:G4=aL4:=by funext a b;exact (aL6 a b).symm
 rw[e];exact aL5
theorem aHD{a b:aJ}(h:pZ a b<=0):G4 a b<=0:=by
 unfold pZ at h;unfold G4;by_cases c:kF a.ty b.ty=0;rw[c,aX] at h ⊢;by_cases d:Bi a.nm b.nm=0;rw[d,aX] at h ⊢;by_cases h3:kF a.fi b.fi=0;rw[h3,aX];exact Int.le_refl _;rw[aZ _ _ h3] at h ⊢;exact h;rw[aZ _ _ d] at h ⊢;exact h;rw[aZ _ _ c] at h ⊢;exact h
theorem aNN{a b:Int}(h:Fe a b=0):a=b:=by
 unfold Fe at h;split at h;omega;split at h<;>omega
theorem aVp{a b:L Int}(f:aK a)(g:aK b)(h:Bi a b=0):a=b:=by
 rw[D3] at h;have c:=aVc h;have d:dB a=dB b:=by
  apply ByteArray.ext;apply Array.ext';have e:∀l:L Int,(dB l).toList=(dB l).data.toList:=fun l=>ByteArray.toList_eq (dB l)
  rw[<- e,<- e,c]
 rwa[cQ f g] at d
theorem aHE{a b:aJ}(f:aK a.nm)(g:aK b.nm):G4 a b=0↔nR a b=true:=by
 rw[Fd];unfold G4;constructor;intro h;obtain⟨c,d,h3⟩:=A2 h;exact⟨aNN c,aVp f g d,aNN h3⟩;rintro⟨c,d,h3⟩;have e:∀x:Int,kF x x=0:=fun x=>Ff.self trivial
 have i:Bi b.nm b.nm=0:=by rw[D3];exact X3.self trivial
 rw[c,d,h3,e,e,i];rfl
theorem Ut{a b:aJ}(h:nR a b=true):nR b a=true:=by
 rw[Fd] at h ⊢;exact⟨h.1.symm,h.2.1.symm,h.2.2.symm⟩
theorem aQH{l:L aJ}(h:(nN l).2=0):l.Pairwise fun a b=>pZ a b<=0:=
 aQG aAS (fun _ _=>trivial) (fun k c=>(Kd (k:=k+1) (by omega) c ((Kp h).2 _ c)).2.1)
theorem Uu{l:L aJ}(g:∀a∈l,a.W)(h:(nN l).2=0){i j:Nat}(m:i<j)(b:j<l.length)(c:nR (l[i]'(by omega)) l[j]=true):l[j].ty=48:=by
 have d:∀k (c:k<l.length),aK (l[k]).nm:=fun k c=>(g _ (aZk c)).nm
 have hp:=bAO.1 (aQH h);by_cases e:i=j-1;subst e;exact (Kd (k:=j) (by omega) b ((Kp h).2 _ b)).2.2 c;have n:=aHD (hp i (j-1) (by omega) (by omega) (by omega));have o:=aHD (hp (j-1) j (by omega) b (by omega));have h3:=(aHE (d i (by omega)) (d j b)).2 c;have h4:G4 (l[j-1]'(by omega)) l[j]=0:=by
  refine Classical.byContradiction fun q=>?_
  have h5:G4 (l[j-1]'(by omega)) l[j]<0:=by omega
  have h6:G4 (l[i]'(by omega)) l[j]<0:=by
   by_cases f:G4 (l[i]'(by omega)) (l[j-1]'(by omega))=0;rw[aA2.eq _ _ l[j] trivial trivial trivial f];exact h5;exact aA2.tr _ _ _ trivial trivial trivial (by omega) h5
  omega
 exact (Kd (k:=j) (by omega) b ((Kp h).2 _ b)).2.2 ((aHE (d _ _) (d _ _)).1 h4)
theorem Ye{l m:L aJ}(h:l.Perm m):dC l=dC m:=by
 unfold dC
 induction h with
 |nil=>rfl
 |cons x _ c=>simp only[aZl,List.sum_cons,c]
 |swap x y l=>simp only[aZl,List.sum_cons];omega
 |trans _ _ a b=>exact a.trans b
theorem Nv(l:L aJ)(a:aJ):dC (l++[a])=dC l+(gV a).length:=by
 unfold dC;simp[aZR,List.sum_append]
structure Put (r:cL) (a:aJ):Prop where
 ok:r.Ok
 us:fJ r.fl=true
 nx:r.nx<65535
 ea:gE (bT a r.nx)=0
 hs:Fh r a=false
 ln:r.ats.length<32
 nd:dC (pJ r a).ats<=440
theorem D9{r:cL}{a b:aJ}:b∈(pJ r a).ats↔b∈r.ats\/b=bT a r.nx:=by
 show b∈fA (r.ats++[bT a r.nx])↔_;rw[Kj,bAv,List.mem_singleton]
theorem aL7{r:cL}{a:aJ}(h:Put r a):(r.ats++[bT a r.nx]).length<=32/\∀k,k<(r.ats++[bT a r.nx]).length->kR (r.ats++[bT a r.nx]) k=0:=aQt (aA1 h.ok h.ea h.ln)
theorem aL8{r:cL}{a:aJ}(x:r.W)(D:aK a.nm)(h:Put r a):(nN (pJ r a).ats).2=0:=by
 obtain⟨I,B⟩:=aL7 h;have p:((pJ r a).ats.map aJ.id).Nodup:=((rQ _).map aJ.id).nodup_iff.2 ((A1 _).1 B).2;show (nN (fA (r.ats++[bT a r.nx]))).2=0;rw[aHk I B,if_neg];intro M;obtain⟨K,t,L⟩:=bE (fun k=>Lv (fA (r.ats++[bT a r.nx])) (k+1)) ((fA (r.ats++[bT a r.nx])).length-1)
 generalize ix (fun k=>Lv (fA (r.ats++[bT a r.nx])) (k+1)) ((fA (r.ats++[bT a r.nx])).length-1)=k at *
 rcases t with t|⟨_,t⟩;omega;obtain⟨_,g,o⟩:=t;have A:∀b,b∈fA (r.ats++[bT a r.nx])↔b∈r.ats\/b=bT a r.nx:=fun b=>D9
 have n:((fA (r.ats++[bT a r.nx])).map aJ.id).Nodup:=p;generalize fA (r.ats++[bT a r.nx])=m at *;rw[show k+1 - 1=k by omega,eY _ k (by omega),eY _ (k+1) (by omega)] at g;rw[eY _ (k+1) (by omega)] at o;have f:m[k].id≠m[k+1].id:=fun e=>by
  have:=bAO.1 n k (k+1) (by rw[aZa];omega) (by rw[aZa];omega) (by omega);rw[aZt,aZt] at this;exact this e
 have l:=(A m[k]).1 (aZk _);have c:=(A m[k+1]).1 (aZk _);have s:∀ b∈r.ats,nR (bT a r.nx) b=true->b.ty≠48->False:=fun b E q J=>by
  have u:=h.hs;unfold Fh at u;have C:(r.ats.any fun b=>nR a b)=true:=List.any_eq_true.2 ⟨b,E,q⟩
  have h3:a.ty=b.ty:=(Fd.1 q).1;rw[C,decide_eq_false (by omega)] at u;cases u
 have w:∀y z:aJ,nR y z=true->z.ty≠48->y.id≠z.id->(y∈r.ats\/y=bT a r.nx)->(z∈r.ats\/z=bT a r.nx)->False:=by
  intro y z g o f l c;have v:y.ty=z.ty:=(Fd.1 g).1;rcases l with l|l
  rcases c with c|c;obtain⟨i,F,rfl⟩:=List.mem_iff_getElem.1 l;obtain⟨j,H,rfl⟩:=List.mem_iff_getElem.1 c;rcases Nat.lt_trichotomy i j with d|d|d;exact o (Uu x.at' h.ok.od d H g);subst d;exact f rfl;exact o (v.symm.trans (Uu x.at' h.ok.od d F (Ut g)));subst c;exact s y l (Ut g) (by omega)
  subst l;rcases c with c|c
  exact s z c g o;subst c;exact f rfl
 exact w _ _ g o f l c
theorem aA3{r:cL}{a:aJ}(j:r.W)(d:aK a.nm)(h:Put r a):gW (pJ r a)=0:=by
 obtain⟨l,m,n,t,o⟩:=h.ok.num;have s:=h.nx;have k:=Ad.1 h.ok.gt;have i:Vx (pJ r a)=0:=by
  unfold Vx;have e:tP (pJ r a)=true:=by
   show (decide (1<=r.sq/\r.sq<=65535)&&(decide (0<=r.li/\r.li<=65535)&&(decide (0<=r.fl/\r.fl<=3)&&(decide (0<=r.nx+1/\r.nx+1<=65535)&&decide (0<=r.ls/\r.ls<=2147483647)))))=true;rw[decide_eq_true l,decide_eq_true m,decide_eq_true n,decide_eq_true (p:=0<=r.nx+1/\r.nx+1<=65535) ⟨by omega,by omega⟩,decide_eq_true o];rfl
  have f:Bj (pJ r a).br (pJ r a).bq=0:=h.ok.be;have g:fJ (pJ r a).fl=true:=h.us;rw[e,f,g];rfl
 have q:Vy (pJ r a)<0:=by
  refine Ad.2 fun b c=>?_
  show decide (r.nx+1<=b.id)=false;rw[decide_eq_false_iff_not];rcases D9.1 c with c|c
  have:=k b c;rw[decide_eq_false_iff_not] at this;omega;subst c;show ¬ r.nx+1<=r.nx;omega
 unfold gW Aa;rw[if_neg (by rw[i];decide),if_neg (by rw[aL8 j d h];decide),if_neg (by omega),decide_eq_true h.nd];rfl
theorem Uv{r:cL}{a:aJ}:dC (pJ r a).ats=dC r.ats+(gV (bT a r.nx)).length:=by
 rw[<- Nv];exact Ye (rQ _)
end
section
variable {G:aF}{bb:Bool}
theorem rT(n a b:Int):EV G (Tb (lJ bb)) 113 [vi n,vi a,vi b] []=some (vb (decide (a<=n/\n<=b)),[]):=by
 refine aB rfl ?_;by_cases h:a<=n;all_goals simp (disch:=omega) only[go_sem,h113c]
 all_goals simp[h]
theorem A5(n a b:Int):EV G (Tb (lJ bb)) 35 [vi n,vi a,vi b] []=some (vb (decide (a<=n/\n<=b)),[]):=by
 refine aB rfl ?_;by_cases h:a<=n;all_goals simp (disch:=omega) only[go_sem,h35c]
 all_goals simp[h]
theorem rU(b:Bool)(e:Int):EV G (Tb (lJ bb)) 112 [vb b,vi e] []=some (vi (un b e),[]):=by
 refine aB rfl ?_;cases b;all_goals simp (disch:=omega) only[go_sem,h112c]
 all_goals rfl
theorem Uw(l:L Int)(g:l.length<=1000):EV G (Tb (lJ bb)) 111 [vl (el l)] []=some (vi (aT l),[]):=by
 refine aB rfl ?_;simp (disch:=omega) only[go_sem,h111c,aZa];have a:∀ k (b:k < l.length),¬ l.getD k 0≠0->Lf [5,0,0] 0 (EC (EV G (Tb (lJ bb))) G h111l0 ⟨(jk 5 (vl (el l)::vi l.length::vi k::jk 7 [])),[]⟩)=some ⟨(jk 5 (vl (el l)::vi l.length::vi (k+1:Nat)::jk 7 [])),[]⟩:=fun k b f=>by
  rw[cD l k b] at f;simp (disch:=omega) only[go_sem,h111l0,aZa,tD]
 rcases Ph (fun k=>l.getD k 0≠0) l.length with h|⟨j,e,c,d⟩
 rw[aR (fun k=>⟨(jk 5 (vl (el l)::vi l.length::vi k::jk 7 [])),[]⟩) l.length ?_ ?_]
 rw[iD l h];simp (disch:=omega) only[go_sem,h111l0];rfl;exact fun k b=>a k b (h k b)
 rw[aR (fun k=>⟨(jk 5 (vl (el l)::vi l.length::vi k::jk 7 [])),[]⟩) j ?_ ?_]
 rw[kE l j e d c];rw[cD l j e] at c;simp (disch:=omega) only[go_sem,h111l0,aZa,tD];rfl;exact fun k b=>a k (by omega) (d k b)
theorem Ux(a b:Int):EV G (Tb (lJ bb)) 111 [vl [[ci a],[ci b]]] []=some (vi (aT [a,b]),[]):=Uw [a,b] (by simp)
theorem Uy(a b c:Int):EV G (Tb (lJ bb)) 111 [vl [[ci a],[ci b],[ci c]]] []=some (vi (aT [a,b,c]),[]):=Uw [a,b,c] (by simp)
abbrev rfv(a b:Int):AV:=.agg [.dc (ci a),.dc (ci b)]
theorem aMa(x:Int):W8 .i64 x 1=x % 2:=by
 have h:(BitVec.ofInt 64 x &&& BitVec.ofInt 64 1).toNat=(x % 2).toNat:=by
  rw[BitVec.toNat_and,show (BitVec.ofInt 64 1).toNat=1 from rfl,Nat.and_one_is_mod,BitVec.toNat_ofInt]
  omega
 show IntKind.i64.wrap (((BitVec.ofInt 64 x &&& BitVec.ofInt 64 1).toNat:Nat):Int)=_;rw[h,Bq (by omega)];omega
theorem aHF(a b:Int):EV G (Tb (lJ bb)) 161 [rfv a b] []=some (vi (aDk a b),[]):=by
 refine aB rfl ?_;have d:=rT (G:=G) (bb:=bb) a 0 95;have g:=rT (G:=G) (bb:=bb) b 1 65535;have u:=fun c=>rU (G:=G) (bb:=bb) c 2
 unfold aDk;by_cases e:0<=a/\a<=95;rw[decide_eq_true e] at d;by_cases f:1<=b/\b<=65535;rw[decide_eq_true f] at g;rw[if_pos ⟨e,f⟩];simp (disch:=omega) only[go_sem,h161c,d,g,u,gA];rw[decide_eq_false f] at g;rw[if_neg (fun h=>f h.2)]
 simp (disch:=omega) only[go_sem,h161c,d,g,u,gT];rw[decide_eq_false e] at d;rw[if_neg (fun h=>e h.1)]
 simp (disch:=omega) only[go_sem,h161c,d,u,gT]
theorem Nw(a b:Int):EV G (Tb (lJ bb)) 114 [rfv a b] []=some (vi (Bj a b),[]):=by
 refine aB rfl ?_;have q:=aHF (G:=G) (bb:=bb) a b;unfold Bj;by_cases c:a=0;by_cases d:b=0;rw[if_pos ⟨c,d⟩];simp (disch:=omega) only[go_sem,h114c,q,eq_true c,eq_true d];rw[if_neg (fun h=>d h.2)]
 simp (disch:=omega) only[go_sem,h114c,q,eq_true c,d];rw[if_neg (fun h=>c h.1)]
 simp (disch:=omega) only[go_sem,h114c,q,c]
theorem aDl(a b:Int):EV G (Tb (lJ bb)) 197 [rfv a b] []=some (vi (aDk a b),[]):=by
 refine aB rfl ?_;have c:=A5 (G:=G) (bb:=bb) a 0 95;have f:=A5 (G:=G) (bb:=bb) b 1 65535;unfold aDk;by_cases d:0<=a/\a<=95;rw[decide_eq_true d] at c;by_cases e:1<=b/\b<=65535;rw[decide_eq_true e] at f;rw[if_pos ⟨d,e⟩];simp (disch:=omega) only[go_sem,h197c,c,f];rw[decide_eq_false e] at f;rw[if_neg (fun h=>e h.2)]
 simp (disch:=omega) only[go_sem,h197c,c,f];rw[decide_eq_false d] at c;rw[if_neg (fun h=>d h.1)]
 simp (disch:=omega) only[go_sem,h197c,c]
theorem Kr(a b:Int):EV G (Tb (lJ bb)) 145 [rfv a b] []=some (vi (Bj a b),[]):=by
 refine aB rfl ?_;have q:=aDl (G:=G) (bb:=bb) a b;unfold Bj;by_cases c:a=0;by_cases d:b=0;rw[if_pos ⟨c,d⟩];simp (disch:=omega) only[go_sem,h145c,q,eq_true c,eq_true d];rw[if_neg (fun h=>d h.2)]
 simp (disch:=omega) only[go_sem,h145c,q,eq_true c,d];rw[if_neg (fun h=>c h.1)]
 simp (disch:=omega) only[go_sem,h145c,q,c]
theorem Uz(r:cL):EV G (Tb (lJ bb)) 116 [r.v] []=some (vb (fJ r.fl),[]):=by
 refine aB rfl ?_;unfold fJ;by_cases c:r.fl % 2=1;have d:¬ r.fl % 2=0:=by omega
 simp (disch:=omega) only[go_sem,h116c,aMa,d,decide_eq_true c];have d:r.fl % 2=0:=by omega
 simp (disch:=omega) only[go_sem,h116c,aMa,eq_true d,decide_eq_false c]
theorem aA4(r:cL)(h:0<=r.fl/\r.fl<=1000):EV G (Tb (lJ bb)) 146 [r.v] []=some (vb (fJ r.fl),[]):=by
 refine aB rfl ?_;unfold fJ;have e:r.fl.tmod 2=r.fl % 2:=by rw[bAN h.1]
 simp (disch:=omega) only[go_sem,h146c,e]
theorem Ks(l:L aJ)(k:Nat)(a:k<l.length):dC (l.take (k+1))=dC (l.take k)+(gV l[k]).length:=by
 rw[bAa a,Nv]
theorem Kt(l:L aJ)(c:∀a∈l,a.W):0<=dC l/\dC l<=440*l.length:=by
 induction l with
 |nil=>exact⟨Int.le_refl _,Int.le_refl _⟩
 |cons a l f=>
  have d:=f (fun b e=>c b (aZC _ e))
  have g:=rO (c a aZu);unfold dC at d ⊢;simp only[aZl,List.sum_cons,aZc];omega
theorem aHG{l:L aJ}(b:∀a∈l,a.W)(k:Nat):∀a∈l.take k,a.W:=fun a c=>b a (aZA c)
theorem U1(l:L aJ)(b:∀a∈l,a.W)(f:l.length<=1000):EV G (Tb (lJ bb)) 121 [vl (l.map aJ.e)] []=some (vi (dC l),[]):=by
 refine aB rfl ?_;simp (disch:=omega) only[go_sem,h121c,aZa];rw[aR (fun k=>⟨(jk 3 (vi (dC (l.take k))::jk 4 (vl (l.map aJ.e)::vi l.length::vi k::jk 13 []))),[]⟩) l.length ?_ ?_]
 simp (disch:=omega) only[go_sem,h121l0,aZT];rfl;intro k c;have q:=up (aDc (G:=G) (bb:=bb) l[k] (b _ (aZk c)));have d:=rO (b _ (aZk c));have h3:=Kt (l.take k) (aHG b k);rw[aZf] at h3;have h4:dC (l.take k)<=440000:=by omega
 have h5:=h3.1;clear h3;rw[Ks l k c];generalize dC (l.take k)=z at *;simp (disch:=omega) only[go_sem,h121l0,aZa,ixA,aJ.e,q]
theorem aMb(l:L aJ)(f:∀a∈l,a.W)(g:∀a∈l,gE a=0)(i:l.length<=1000):EV G (Tb (lJ bb)) 148 [vl (l.map aJ.e)] []=some (vi (dC l),[]):=by
 refine aB rfl ?_;simp (disch:=omega) only[go_sem,h148c,aZa];rw[aR (fun k=>⟨(vl (l.map aJ.e)::jk 2 (vi (dC (l.take k))::vi k::jk 15 [])),[]⟩) l.length ?_ ?_]
 simp (disch:=omega) only[go_sem,h148l0,aZa,aZT];rfl;intro k d;have b:=f _ (aZk d);have c:=g _ (aZk d);have q:=up (Tm (G:=G) (bb:=bb) l[k] (mZ b c));rw[<- (Hx b c).1] at q;have h:=rO b;have h3:=Kt (l.take k) (aHG f k);rw[aZf] at h3;have h4:dC (l.take k)<=440000:=by omega
 have h5:=h3.1;clear h3;rw[Ks l k d];generalize dC (l.take k)=z at *;simp (disch:=omega) only[go_sem,h148l0,aZa,ixA,aJ.e,q]
attribute [go_sem] aNB aZg
end
section
variable {G:aF}{bb:Bool}
theorem pL(J:L Nat):∀a:L DC,Df J (a.map aU.dc)=true
 |[]=>rfl
 |d::a=>by rw[aZl,Df,pL J a];rfl
theorem pM:∀a:L DC,idsL (a.map aU.dc)=[]
 |[]=>rfl
 |d::a=>by rw[aZl,idsL,pM a];rfl
theorem pN(f:Nat->Nat):∀a:L DC,List.map (kA f) (a.map aU.dc)=a.map aU.dc
 |[]=>rfl
 |d::a=>by rw[aZl,aZl,pN f a];rfl
theorem pO(m:Nat):∀a:L DC,Gx m (a.map aU.dc)=a.map aU.dc
 |[]=>rfl
 |d::a=>by rw[aZl,Gx,pO m a];rfl
theorem mD(f:Nat->Bool):∀a:L DC,List.map (cJ f) (a.map aU.dc)=a.map aU.dc
 |[]=>rfl
 |d::a=>by rw[aZl,aZl,mD f a];rfl
theorem aHH(d:Nat)(b:L DC)(p:aJ->Bool)(l:L aJ)(i:l.length<=1000000)(h:∀a∈l,EV G (Tb (lJ bb)) d [a.v,.one (.ptr 0 0)] [.box (b.map aU.dc)]=some (vb (p a),[.box (b.map aU.dc)])):EV G (Tb (lJ bb)) 57 [vl (l.map aJ.e),.one (.fn d [.ptr 0 0])] [.box (b.map aU.dc)]=some (vi (iX p l),[.box (b.map aU.dc)]):=by
 refine aB rfl ?_;simp (disch:=omega) only[go_sem,h57c,aZa,pL,pM,pN,pO,mD];unfold iX;rw[dN (fun k=>⟨(vl (l.map aJ.e)::.one (.fn d [.ptr 0 0])::jk 5 (vi l.length::vi k::jk 10 [])),[.box (b.map aU.dc)]⟩) (fun k=>p (l.getD k aJ.nil)=true) l.length ?_ ?_]
 rotate_left
 rfl;intro k f g;have h3:=g k (aZe _);rw[eY l k f] at h3;have h4:p l[k]=false:=by simpa using h3
 have q:=h l[k] (aZk f);rw[h4] at q;simp (disch:=omega) only[go_sem,h57l0,aZa,ixA,aJ.e,q,pL,pM,pN,pO,mD];obtain⟨f,hp,g⟩:=bE (fun k=>p (l.getD k aJ.nil)=true) l.length
 generalize ix (fun k=>p (l.getD k aJ.nil)=true) l.length=k at *
 rcases hp with rfl|⟨c,hp⟩;rw[if_pos rfl];simp (disch:=omega) only[go_sem,h57l0,aZa,pL,pM,pN,pO,mD];rw[if_neg (by omega)];rw[eY l k c] at hp;have q:=h l[k] (aZk c);rw[hp] at q;simp (disch:=omega) only[go_sem,h57l0,aZa,ixA,aJ.e,q,pL,pM,pN,pO,mD]
theorem aQI(c:Nat)(b:L DC)(p:aJ->Bool)(l:L aJ)(d:l.length<=1000000)(f:∀a∈l,EV G (Tb (lJ bb)) c [a.v,.one (.ptr 0 0)] [.box (b.map aU.dc)]=some (vb (p a),[.box (b.map aU.dc)])):EV G (Tb (lJ bb)) 171 [vl (l.map aJ.e),.one (.fn c [.ptr 0 0])] [.box (b.map aU.dc)]=some (vb (l.any p),[.box (b.map aU.dc)]):=by
 refine aB rfl ?_;have q:=aHH (G:=G) (bb:=bb) c b p l d f;rw[<- T4];simp (disch:=omega) only[go_sem,h171c,q,pL,pM,pN,pO,mD]
abbrev cL.d(r:cL):L DC:=[ci r.sq,ci r.li,ci r.fl,ci r.br,ci r.bq,ci r.nx,ci r.ls,.slc (r.ats.map aJ.e)]
theorem aVq(r:cL)(a:aJ):EV G (Tb (lJ bb)) 209 [a.v,.one (.ptr 0 0)] [.box r.c]=some (vb (decide (r.nx<=a.id)),[.box r.c]):=by
 refine aB rfl ?_;simp (disch:=omega) only[go_sem,h209c]
theorem aVr(r:cL)(b:r.ats.length<=1000000):EV G (Tb (lJ bb)) 57 [vl (r.ats.map aJ.e),.one (.fn 209 [.ptr 0 0])] [.box r.c]=some (vi (Vy r),[.box r.c]):=
 aHH 209 r.d (fun a=>decide (r.nx<=a.id)) r.ats b (fun a _=>aVq r a)
def sA:HC->HC
 |.seq a _=>a
 |c=>c
def sB:HC->HC
 |.seq _ b=>b
 |c=>c
theorem Ae{a b:HC}:sA (.seq a b)=a:=rfl
theorem Bk{a b:HC}:sB (.seq a b)=b:=rfl
def sT:HC->HC
 |.trm _ a=>a
 |c=>c
theorem Ly{L:List Nat}{a:HC}:sT (.trm L a)=a:=rfl
def aMc(L:List Nat):Option (Exit×AS)->Option AS
 |some (.normal,s)=>some (kN L s.hp.length s)
 |_=>none
theorem pP{L:List Nat}{s:AS}:aMc L (some (.normal,s))=some (kN L s.hp.length s):=rfl
theorem aQJ{call:aO}{st st':AS}{c:HC}(a:c=.seq (sA c) (sB c))(h:EC call G (sA c) st=some (.normal,st')):EC call G c st=EC call G (sB c) st':=by
 rw[a,W6];simp only[Ae,Bk];rw[h];rfl
theorem aA5{call:aO}{st st':AS}{c:HC}{L:List Nat}(d:c=.seq (sA c) (.trm L (sT (sB c))))(h:aMc L (EC call G (sA c) st)=some st'):EC call G c st=EC call G (sT (sB c)) st':=by
 generalize sA c=a at d h;generalize sT (sB c)=b at d;subst d;rw[W6];cases e:EC call G a st with
 |none=>rw[e] at h;cases h
 |some q=>
  obtain⟨x,s⟩:=q;cases x with
  |normal=>
   rw[e] at h;injection h with h
   rw[aNv,aFy,h]
  |_=>rw[e] at h;cases h
theorem aXJ(l:L aJ):((l.length:Int)=0)=(l=[]):=by
 apply propext;rw[<- List.length_eq_zero_iff];omega
theorem aQK(r:cL):aMc [1,2] (EC (EV G (Tb (lJ bb))) G (sA (sB h162c)) ⟨(r.v::.one (.ptr 0 0)::vi 0::vi 0::jk 92 []),[.box r.c]⟩)=some ⟨(jk 1 (.one (.ptr 0 0)::jk 2 (vb (tP r)::jk 91 []))),[.box r.c]⟩:=by
 have w:=rT (G:=G) (bb:=bb);unfold tP;by_cases a:1<=r.sq/\r.sq<=65535;rw[decide_eq_true a];by_cases b:0<=r.li/\r.li<=65535;rw[decide_eq_true b];by_cases d:0<=r.fl/\r.fl<=3;rw[decide_eq_true d];by_cases e:0<=r.nx/\r.nx<=65535;rw[decide_eq_true e];simp (disch:=omega) only[go_sem,h162c,Ae,Bk,pP,w,aZI];rw[decide_eq_false e];simp (disch:=omega) only[go_sem,h162c,Ae,Bk,pP,w,aZI,aZS];rw[decide_eq_false d];simp (disch:=omega) only[go_sem,h162c,Ae,Bk,pP,w,aZI,aZS];rw[decide_eq_false b];simp (disch:=omega) only[go_sem,h162c,Ae,Bk,pP,w,aZI,aZS];rw[decide_eq_false a];simp (disch:=omega) only[go_sem,h162c,Ae,Bk,pP,w,aZI,aZS]
theorem aQL(r:cL)(b:Bool):aMc [1,2,0] (EC (EV G (Tb (lJ bb))) G (sA (sT (sB (sB h162c)))) ⟨(jk 1 (.one (.ptr 0 0)::jk 2 (vb b::jk 91 []))),[.box r.c]⟩)=some ⟨(jk 1 (.one (.ptr 0 0)::jk 2 (vb b::vb (Lw r)::jk 90 []))),[.box r.c]⟩:=by
 unfold Lw;have j:=aXJ r.ats;by_cases a:r.fl=0;rw[decide_eq_true a];by_cases g:r.ats=[];have e:(r.ats.length:Int)=0:=j.symm ▸ g;rw[decide_eq_true g];by_cases d:r.li=0;rw[decide_eq_true d];by_cases f:r.br=0/\r.bq=0;rw[decide_eq_true f];simp (disch:=omega) only[go_sem,h162c,Ae,Bk,Ly,pP,aZa,eq_true e,eq_true a,eq_true d,eq_true f.1,eq_true f.2,aZI];rw[decide_eq_false f];by_cases i:r.br=0;have k:¬ r.bq=0:=fun h=>f ⟨i,h⟩
 simp (disch:=omega) only[go_sem,h162c,Ae,Bk,Ly,pP,aZa,eq_true e,eq_true a,eq_true d,eq_true i,k,aZI,aZS];simp (disch:=omega) only[go_sem,h162c,Ae,Bk,Ly,pP,aZa,eq_true e,eq_true a,eq_true d,i,aZI,aZS];rw[decide_eq_false d];simp (disch:=omega) only[go_sem,h162c,Ae,Bk,Ly,pP,aZa,eq_true e,eq_true a,d,aZI,aZS];have e:¬ (r.ats.length:Int)=0:=fun h=>g (j ▸ h)
 rw[decide_eq_false g];simp (disch:=omega) only[go_sem,h162c,Ae,Bk,Ly,pP,aZa,e,eq_true a,aZI,aZS];rw[decide_eq_false a];simp (disch:=omega) only[go_sem,h162c,Ae,Bk,Ly,pP,a,aZI,aZS]
theorem aHI(r:cL)(j:r.W):EV G (Tb (lJ bb)) 162 [r.v] []=some (iiv (Aa r),[]):=by
 refine aB rfl ?_;have t:=j.ln;have p:EC (EV G (Tb (lJ bb))) G h162c ⟨(r.v::jk 95 []),[]⟩=EC (EV G (Tb (lJ bb))) G (sB h162c) ⟨(r.v::.one (.ptr 0 0)::vi 0::vi 0::jk 92 []),[.box r.c]⟩:=aQJ rfl (by simp (disch:=omega) only[go_sem,h162c,Ae]);have q:=aA5 (c:=sB h162c) (L:=[1,2]) rfl (aQK (G:=G) (bb:=bb) r);have s:=aA5 (c:=sT (sB (sB h162c))) (L:=[1,2,0]) rfl (aQL (G:=G) (bb:=bb) r (tP r));refine (congrArg (pX _ _ _) (p.trans (q.trans s))).trans ?_;have u:=rU (G:=G) (bb:=bb);have f:=Nw (G:=G) (bb:=bb) r.br r.bq;have a:=Uz (G:=G) (bb:=bb) r;have h:=Uy (G:=G) (bb:=bb);have i:=up (aLP (G:=G) (bb:=bb) r.ats j.at' (by omega));have k:=aVr (G:=G) (bb:=bb) r (by omega);have l:=U1 (G:=G) (bb:=bb) r.ats j.at' (by omega);unfold Aa;have h0:Vx r=aT [un (tP r) 2,Bj r.br r.bq,un (fJ r.fl||Lw r) 3]:=rfl
 generalize tP r=x at *;generalize Lw r=y at *;generalize Bj r.br r.bq=z at *;generalize Vy r=g at *;generalize dC r.ats=m at *;generalize nN r.ats=o at *;obtain⟨B,w⟩:=o;dsimp only at i ⊢;by_cases e:Vx r=0;rw[if_neg (not_not_intro e)];rw[e] at h0;by_cases d:w=0;rw[if_neg (not_not_intro d)];by_cases n:0<=g
 ·rw[if_pos n];cases b:fJ r.fl;all_goals rw[b] at h0 a
  all_goals simp only[bAd,aZ0] at h0
  all_goals simp (disch:=omega) only[go_sem,h162c,Ae,Bk,Ly,u,f,a,h,i,k,l,<- h0,eq_true d,bAd,aZ0]
 ·rw[if_neg n];by_cases A:m<=440;all_goals cases b:fJ r.fl
  all_goals rw[b] at h0 a
  all_goals simp only[bAd,aZ0] at h0
  all_goals simp (disch:=omega) only[go_sem,h162c,Ae,Bk,Ly,u,f,a,h,i,k,l,<- h0,eq_true d,bAd,aZ0]
 ·rw[if_pos d];cases b:fJ r.fl;all_goals rw[b] at h0 a
  all_goals simp only[bAd,aZ0] at h0
  all_goals simp (disch:=omega) only[go_sem,h162c,Ae,Bk,Ly,u,f,a,h,i,k,l,<- h0,d,bAd,aZ0]
 ·rw[if_pos e];cases b:fJ r.fl;all_goals rw[b] at h0 a
  all_goals simp only[bAd,aZ0] at h0
  all_goals simp (disch:=omega) only[go_sem,h162c,Ae,Bk,Ly,u,f,a,h,<- h0,e,bAd,aZ0]
