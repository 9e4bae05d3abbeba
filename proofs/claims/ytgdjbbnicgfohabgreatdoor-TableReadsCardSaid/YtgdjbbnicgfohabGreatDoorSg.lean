/- Part. Conditions: none. -/
import Derived.Test.YtgdjbbnicgfohabGreatDoorSu
import Derived.Test.YtgdjbbnicgfohabGreatDoorVo
namespace Go.Proofs.YtgdjbbnicgfohabGreatDoor
set_option maxHeartbeats 4000000
set_option linter.unusedSimpArgs false
set_option linter.unusedVariables false
set_option maxRecDepth 4000
section
variable {G:aF}{bb:Bool}
theorem aOc{s:L Int}(h:(dQ s).2.2=0):s.length=512/\jP s/\∃a,Ad ((eU s).drop 64)=some a/\iN (dX (eU s) []) (68+a.flatten.length) a.flatten=eU s/\(iJ a).2=0/\gJ (dX (eU s) (iJ a).1)=0/\dQ s=(dX (eU s) (iJ a).1,gS s,0):=by
 unfold dQ at h ⊢;by_cases c:s.length≠512;rw[if_pos c] at h;exact absurd h (by decide);rw[if_neg c] at h;by_cases d:¬ jP s;rw[if_pos d] at h;exact absurd h (by decide);rw[if_neg d] at h;refine⟨Classical.not_not.1 c,Classical.not_not.1 d,?_⟩;cases i:Ad ((eU s).drop 64) with
 |none=>rw[i] at h;exact absurd h (show ¬ (3:Int)=0 by decide)
 |some a=>
  rw[i] at h;refine⟨a,rfl,?_⟩;simp only at h;rw[if_neg c,if_neg d];unfold U5 at h ⊢;by_cases f:iN (dX (eU s) []) (68+a.flatten.length) a.flatten≠eU s;rw[if_pos f] at h;exact absurd h (by decide);rw[if_neg f] at h;by_cases b:(iJ a).2≠0;rw[if_pos b] at h;exact absurd h b;rw[if_neg b] at h;by_cases g:gJ (dX (eU s) (iJ a).1)≠0;rw[if_pos g] at h;dsimp only at h;exact absurd h g;refine⟨Classical.byContradiction fun e=>f e,Classical.byContradiction fun e=>b e,Classical.byContradiction fun e=>g e,?_⟩
  exact (if_neg f).trans ((if_neg b).trans (if_neg g))
theorem Qr{s:L Int}(h:(dQ s).2.2≠0):(dQ s).1=.nil/\(dQ s).2.1=0:=by
 unfold dQ at h ⊢;by_cases b:s.length≠512;rw[if_pos b];exact⟨rfl,rfl⟩;rw[if_neg b] at h ⊢;by_cases c:¬ jP s;rw[if_pos c];exact⟨rfl,rfl⟩;rw[if_neg c] at h ⊢;cases g:Ad ((eU s).drop 64) with
 |none=>exact⟨rfl,rfl⟩
 |some a=>
  rw[g] at h;simp only at h ⊢;unfold U5 at h ⊢;by_cases d:iN (dX (eU s) []) (68+a.flatten.length) a.flatten≠eU s;rw[if_pos d];exact⟨rfl,rfl⟩;rw[if_neg d] at h ⊢;by_cases e:(iJ a).2≠0;rw[if_pos e];exact⟨rfl,rfl⟩;rw[if_neg e] at h ⊢;by_cases f:gJ (dX (eU s) (iJ a).1)≠0;rw[if_pos f];exact⟨rfl,rfl⟩;rw[if_neg f] at h;exact absurd rfl h
theorem Yz{s:L Int}(f:s.length=512)(i:aI s){a:L (L Int)}(h:Ad ((eU s).drop 64)=some a):(∀p∈a,aI p/\p.length<=1000/\24<=p.length)/\a.flatten.length<=444/\a.length<=18/\aI a.flatten:=by
 obtain⟨m,g,n,e⟩:=Qq _ _ a h;have t:((eU s).drop 64).length=448:=by rw[aZL,qK f]
 have j:aI ((eU s).drop 64):=fun x d=>Kz f i x (bAb d)
 have hf:aI a.flatten:=by
  rw[<- g];exact fun x d=>j x (aZ0 d)
 have c:∀b:L (L Int),(∀p∈b,24<=p.length)->24*b.length<=b.flatten.length:=by
  intro b
  induction b with
  |nil=>intro _;exact aZE _
  |cons p b l=>
   intro h;have o:=h p aZV;have r:=l (fun q k=>h q (aZ2 _ k))
   rw[bAw,aZB,aZC];omega
 have h24:=c a (fun p hp=>(e p hp).1)
 refine⟨fun p hp=>⟨fun x d=>hf x (List.mem_flatten.2 ⟨p,hp,d⟩),?_,(e p hp).1⟩,by omega,by omega,hf⟩
 have:=(e p hp).2;omega
theorem aQ7{s:L Int}(e:s.length=512)(d:aI s){a:L (L Int)}(h:Ad ((eU s).drop 64)=some a):(dX (eU s) (iJ a).1).W:=by
 obtain⟨b,j,h3,h4⟩:=Yz e d h;obtain⟨f,c,g,i⟩:=aBi a (fun p hp=>⟨(b p hp).1,(b p hp).2.1⟩)
 exact⟨c,by show (iJ a).1.length<=900;omega⟩
theorem aVM{s:L Int}(c:aI s):(dQ s).1.W:=by
 by_cases h:(dQ s).2.2=0;obtain⟨d,i,j,a,e,f,g,b⟩:=aOc h;rw[b];exact aQ7 d c a;rw[(Qr h).1];exact cK.nil_W
theorem aQ8{s:L Int}(c:aI s):(dQ s).2.2≠0/\(dQ s).2.1=0/\(dQ s).1=.nil\/(dQ s).2.2=0/\gJ (dQ s).1=0/\1<=(dQ s).2.1/\(dQ s).2.1<=65535:=by
 by_cases h:(dQ s).2.2=0;obtain⟨d,e,j,f,g,i,a,b⟩:=aOc h;refine .inr ⟨h,?_⟩;rw[b];exact⟨a,Yy d c e⟩;exact .inl ⟨h,(Qr h).2,(Qr h).1⟩
theorem Ec{r:cK}(t:r.W)(h:gJ r=0){u:Int}(y:1<=u/\u<=65535):dQ (oQ r u)=(r,u,0)/\(oQ r u).length=512/\aI (oQ r u):=by
 have d:=A4 h;have w:=U7 d;have g:∀a∈r.ats,a.W/\gI a=0:=fun a b=>⟨t.at' a b,d.errs.1 a b⟩
 have i:aI (kC r):=N7 (fun p hp=>by
  obtain⟨a,b,rfl⟩:=List.mem_map.1 hp;exact (Qn (g a b).1 (g a b).2).1)
 have k:=A5 r (68+(kC r).length) (kC r) (by omega);obtain⟨A,B,C⟩:=Uz (n:=u) k (fun j a c=>aHO _ _ _ j a c) y
 have m:(oQ r u).length=512:=oP k 8 (by omega);have s:aI (oQ r u):=by
  intro x z;obtain⟨j,v,rfl⟩:=List.mem_iff_getElem.1 z;have e:(oQ r u)[j]=(oQ r u).getD j 0:=by simp[aZO,v]
  have f:=Eb r (68+(kC r).length) (kC r) i;rw[e];unfold oQ;rw[N0 k 8 (by omega)];unfold ptG
  repeat' split
  all_goals first|omega|exact qM f _
 refine⟨?_,m,s⟩;have f:kC r=(r.ats.map gY).flatten:=rfl;unfold dQ;have l:eU (oQ r u)=iN r (68+(kC r).length) (kC r):=A;have q:gS (oQ r u)=u:=C;have o:jP (oQ r u):=B;rw[if_neg (not_not_intro m),if_neg (not_not_intro o),l,aHP,f,U9 _ _ g];simp only;unfold U5;rw[l,q,U8 d,U8 d,Va _ g,<- f];rw[if_neg (not_not_intro (by rfl))];simp only;have e:Yx r r.ats=r:=rfl;rw[e,h];rw[if_neg (fun c=>c rfl),if_neg (fun c=>c rfl)]
theorem Af{p:aJ->Bool}{l:L aJ}:jA p l<0↔∀a∈l,p a=false:=by
 unfold jA;obtain⟨g,hp,f⟩:=bD (fun k=>p (l.getD k aJ.nil)=true) l.length
 generalize ix (fun k=>p (l.getD k aJ.nil)=true) l.length=m at *
 constructor;intro h a c;split at h;rename_i e;obtain⟨j,d,rfl⟩:=List.mem_iff_getElem.1 c;have:=f j (by omega);rw[fJ _ _ d] at this;simpa using this;omega;intro h;rcases hp with e|⟨b,hp⟩
 rw[if_pos e];decide;rw[fJ _ _ b] at hp;rw[h _ (aZK b)] at hp;cases hp
theorem aBk{r:cK}{a:aJ}(d:r.Ok)(e:gI (bT a r.nx)=0)(j:r.ats.length<32):Ul (r.ats++[bT a r.nx])=0:=by
 have f:=Af.1 d.gt;refine aL7 (by rw[aZB,bBb];omega) ((Az _).2 ⟨fun b c=>?_,?_⟩)
 rcases bAV.1 c with c|c;exact d.errs.1 b c;rw[List.mem_singleton.1 c];exact e;rw[bAh,List.nodup_append];refine⟨d.errs.2,by simp,fun x g y h=>?_⟩
 obtain⟨b,c,rfl⟩:=List.mem_map.1 g;have i:y=r.nx:=by simpa[bT] using h
 have:=f b c;simp only[decide_eq_false_iff_not] at this;omega
end
section
variable {G:aF}{bb:Bool}
theorem Cm.le{α:Type}{P:α->Prop}{c:α->α->Int}(h:Cm P c){a b d:α}(e:P a)(f:P b)(g:P d)(x:c a b<=0)(y:c b d<=0):c a d<=0:=by
 by_cases i:c a b=0;rw[h.eq a b d e f g i];exact y;by_cases j:c b d=0;have:=(h.eq' f g e j).1.1 (by omega);omega;have:=h.tr a b d e f g (by omega) (by omega);omega
theorem aQ9{α:Type}{P:α->Prop}{c:α->α->Int}(h:Cm P c){l:L α}(e:∀a∈l,P a)(f:∀k (r:k+1<l.length),c l[k] l[k+1]<=0):l.Pairwise fun a b=>c a b<=0:=by
 rw[bBe];intro i j q o n;obtain⟨d,rfl⟩:∃d,j=i+1+d:=⟨j-i-1,by omega⟩
 induction d with
 |zero=>exact f i o
 |succ d p=>
  have g:=p (by omega) (by omega);have m:=f (i+1+d) (by omega);exact h.le (e _ (aZK _)) (e _ (aZK _)) (e _ (aZK _)) g m
def Hc(a b:aJ):Int:=aT [kI a.ty b.ty,Bn a.nm b.nm,kI a.fi b.fi]
def aMs(a b:aJ):Int:=L6 (fun a b:aJ=>Fe a.ty b.ty) (L6 (fun a b:aJ=>H3 (dO a.nm).toList (dO b.nm).toList) (fun a b:aJ=>Fe a.fi b.fi)) a b
theorem aMt:Cm (fun _=>True) aMs:=
 (Ff.map (fun a:aJ=>a.ty) (fun _ _=>trivial)).lex ((Ye.map (fun a:aJ=>(dO a.nm).toList) (fun _ _=>trivial)).lex (Ff.map (fun a:aJ=>a.fi) (fun _ _=>trivial)))
theorem Vb(a b:Int):kI a b=Fe a b:=rfl
theorem aMu(a b:aJ):aMs a b=Hc a b:=by
 unfold aMs Hc L6;rw[Vb,Vb,D6];simp only;by_cases c:Fe a.ty b.ty=0;rw[if_pos c,c,aV];by_cases d:H3 (dO a.nm).toList (dO b.nm).toList=0;rw[if_pos d,d,aV];by_cases h3:Fe a.fi b.fi=0;rw[h3,aV];rfl;rw[aY _ _ h3];rw[if_neg d,aY _ _ d];rw[if_neg c,aY _ _ c]
theorem aBl:Cm (fun _=>True) Hc:=by
 have e:Hc=aMs:=by funext a b;exact (aMu a b).symm
 rw[e];exact aMt
theorem aHS{a b:aJ}(h:qE a b<=0):Hc a b<=0:=by
 unfold qE at h;unfold Hc;by_cases c:kI a.ty b.ty=0;rw[c,aV] at h ⊢;by_cases d:Bn a.nm b.nm=0;rw[d,aV] at h ⊢;by_cases h3:kI a.fi b.fi=0;rw[h3,aV];exact Int.le_refl _;rw[aY _ _ h3] at h ⊢;exact h;rw[aY _ _ d] at h ⊢;exact h;rw[aY _ _ c] at h ⊢;exact h
theorem aOd{a b:Int}(h:Fe a b=0):a=b:=by
 unfold Fe at h;split at h;omega;split at h<;>omega
theorem aVN{a b:L Int}(f:aI a)(g:aI b)(h:Bn a b=0):a=b:=by
 rw[D6] at h;have c:=aVt h;have d:dO a=dO b:=by
  apply ByteArray.ext;apply Array.ext';have e:∀l:L Int,(dO l).toList=(dO l).data.toList:=fun l=>ByteArray.toList_eq (dO l)
  rw[<- e,<- e,c]
 rwa[cR f g] at d
theorem aHT{a b:aJ}(f:aI a.nm)(g:aI b.nm):Hc a b=0↔nU a b=true:=by
 rw[Fd];unfold Hc;constructor;intro h;obtain⟨c,d,h3⟩:=A3 h;exact⟨aOd c,aVN f g d,aOd h3⟩;rintro⟨c,d,h3⟩;have e:∀x:Int,kI x x=0:=fun x=>Ff.self trivial
 have i:Bn b.nm b.nm=0:=by rw[D6];exact Ye.self trivial
 rw[c,d,h3,e,e,i];rfl
theorem Vc{a b:aJ}(h:nU a b=true):nU b a=true:=by
 rw[Fd] at h ⊢;exact⟨h.1.symm,h.2.1.symm,h.2.2.symm⟩
theorem aRa{l:L aJ}(h:(nO l).2=0):l.Pairwise fun a b=>qE a b<=0:=
 aQ9 aA2 (fun _ _=>trivial) (fun k c=>(Kg (k:=k+1) (by omega) c ((Ky h).2 _ c)).2.1)
theorem Vd{l:L aJ}(g:∀a∈l,a.W)(h:(nO l).2=0){i j:Nat}(m:i<j)(b:j<l.length)(c:nU (l[i]'(by omega)) l[j]=true):l[j].ty=48:=by
 have d:∀k (c:k<l.length),aI (l[k]).nm:=fun k c=>(g _ (aZK c)).nm
 have hp:=bBe.1 (aRa h);by_cases e:i=j-1;subst e;exact (Kg (k:=j) (by omega) b ((Ky h).2 _ b)).2.2 c;have n:=aHS (hp i (j-1) (by omega) (by omega) (by omega));have o:=aHS (hp (j-1) j (by omega) b (by omega));have h3:=(aHT (d i (by omega)) (d j b)).2 c;have h4:Hc (l[j-1]'(by omega)) l[j]=0:=by
  refine Classical.byContradiction fun q=>?_
  have h5:Hc (l[j-1]'(by omega)) l[j]<0:=by omega
  have h6:Hc (l[i]'(by omega)) l[j]<0:=by
   by_cases f:Hc (l[i]'(by omega)) (l[j-1]'(by omega))=0;rw[aBl.eq _ _ l[j] trivial trivial trivial f];exact h5;exact aBl.tr _ _ _ trivial trivial trivial (by omega) h5
  omega
 exact (Kg (k:=j) (by omega) b ((Ky h).2 _ b)).2.2 ((aHT (d _ _) (d _ _)).1 h4)
theorem Y0{l m:L aJ}(h:l.Perm m):dC l=dC m:=by
 unfold dC
 induction h with
 |nil=>rfl
 |cons x _ c=>simp only[aZM,List.sum_cons,c]
 |swap x y l=>simp only[aZM,List.sum_cons];omega
 |trans _ _ a b=>exact a.trans b
theorem N8(l:L aJ)(a:aJ):dC (l++[a])=dC l+(gY a).length:=by
 unfold dC;simp[bAh,List.sum_append]
structure Put (r:cK) (a:aJ):Prop where
 ok:r.Ok
 us:fE r.fl=true
 nx:r.nx<65535
 ea:gI (bT a r.nx)=0
 hs:Fl r a=false
 ln:r.ats.length<32
 nd:dC (pO r a).ats<=440
theorem Ed{r:cK}{a b:aJ}:b∈(pO r a).ats↔b∈r.ats\/b=bT a r.nx:=by
 show b∈fK (r.ats++[bT a r.nx])↔_;rw[Km,bAV,List.mem_singleton]
theorem aMv{r:cK}{a:aJ}(h:Put r a):(r.ats++[bT a r.nx]).length<=32/\∀k,k<(r.ats++[bT a r.nx]).length->kU (r.ats++[bT a r.nx]) k=0:=aQR (aBk h.ok h.ea h.ln)
theorem aMw{r:cK}{a:aJ}(x:r.W)(D:aI a.nm)(h:Put r a):(nO (pO r a).ats).2=0:=by
 obtain⟨I,B⟩:=aMv h;have p:((pO r a).ats.map aJ.id).Nodup:=((rT _).map aJ.id).nodup_iff.2 ((Az _).1 B).2;show (nO (fK (r.ats++[bT a r.nx]))).2=0;rw[aHh I B,if_neg];intro M;obtain⟨K,t,L⟩:=bD (fun k=>L8 (fK (r.ats++[bT a r.nx])) (k+1)) ((fK (r.ats++[bT a r.nx])).length-1)
 generalize ix (fun k=>L8 (fK (r.ats++[bT a r.nx])) (k+1)) ((fK (r.ats++[bT a r.nx])).length-1)=k at *
 rcases t with t|⟨_,t⟩;omega;obtain⟨_,g,o⟩:=t;have A:∀b,b∈fK (r.ats++[bT a r.nx])↔b∈r.ats\/b=bT a r.nx:=fun b=>Ed
 have n:((fK (r.ats++[bT a r.nx])).map aJ.id).Nodup:=p;generalize fK (r.ats++[bT a r.nx])=m at *;rw[show k+1 - 1=k by omega,fJ _ k (by omega),fJ _ (k+1) (by omega)] at g;rw[fJ _ (k+1) (by omega)] at o;have f:m[k].id≠m[k+1].id:=fun e=>by
  have:=bBe.1 n k (k+1) (by rw[aZA];omega) (by rw[aZA];omega) (by omega);rw[aZU,aZU] at this;exact this e
 have l:=(A m[k]).1 (aZK _);have c:=(A m[k+1]).1 (aZK _);have s:∀ b∈r.ats,nU (bT a r.nx) b=true->b.ty≠48->False:=fun b E q J=>by
  have u:=h.hs;unfold Fl at u;have C:(r.ats.any fun b=>nU a b)=true:=List.any_eq_true.2 ⟨b,E,q⟩
  have h3:a.ty=b.ty:=(Fd.1 q).1;rw[C,decide_eq_false (by omega)] at u;cases u
 have w:∀y z:aJ,nU y z=true->z.ty≠48->y.id≠z.id->(y∈r.ats\/y=bT a r.nx)->(z∈r.ats\/z=bT a r.nx)->False:=by
  intro y z g o f l c;have v:y.ty=z.ty:=(Fd.1 g).1;rcases l with l|l
  rcases c with c|c;obtain⟨i,F,rfl⟩:=List.mem_iff_getElem.1 l;obtain⟨j,H,rfl⟩:=List.mem_iff_getElem.1 c;rcases Nat.lt_trichotomy i j with d|d|d;exact o (Vd x.at' h.ok.od d H g);subst d;exact f rfl;exact o (v.symm.trans (Vd x.at' h.ok.od d F (Vc g)));subst c;exact s y l (Vc g) (by omega)
  subst l;rcases c with c|c
  exact s z c g o;subst c;exact f rfl
 exact w _ _ g o f l c
theorem aBm{r:cK}{a:aJ}(j:r.W)(d:aI a.nm)(h:Put r a):gJ (pO r a)=0:=by
 obtain⟨l,m,n,t,o⟩:=h.ok.num;have s:=h.nx;have k:=Af.1 h.ok.gt;have i:Wi (pO r a)=0:=by
  unfold Wi;have e:tU (pO r a)=true:=by
   show (decide (1<=r.sq/\r.sq<=65535)&&(decide (0<=r.li/\r.li<=65535)&&(decide (0<=r.fl/\r.fl<=3)&&(decide (0<=r.nx+1/\r.nx+1<=65535)&&decide (0<=r.ls/\r.ls<=2147483647)))))=true;rw[decide_eq_true l,decide_eq_true m,decide_eq_true n,decide_eq_true (p:=0<=r.nx+1/\r.nx+1<=65535) ⟨by omega,by omega⟩,decide_eq_true o];rfl
  have f:Bo (pO r a).br (pO r a).bq=0:=h.ok.be;have g:fE (pO r a).fl=true:=h.us;rw[e,f,g];rfl
 have q:Wj (pO r a)<0:=by
  refine Af.2 fun b c=>?_
  show decide (r.nx+1<=b.id)=false;rw[decide_eq_false_iff_not];rcases Ed.1 c with c|c
  have:=k b c;rw[decide_eq_false_iff_not] at this;omega;subst c;show ¬ r.nx+1<=r.nx;omega
 unfold gJ Ac;rw[if_neg (by rw[i];decide),if_neg (by rw[aMw j d h];decide),if_neg (by omega),decide_eq_true h.nd];rfl
theorem Ve{r:cK}{a:aJ}:dC (pO r a).ats=dC r.ats+(gY (bT a r.nx)).length:=by
 rw[<- N8];exact Y0 (rT _)
end
section
variable {G:aF}{bb:Bool}
theorem rW(n a b:Int):EV G (Tb (lA bb)) 102 [vi n,vi a,vi b] []=some (vb (decide (a<=n/\n<=b)),[]):=by
 refine aB rfl ?_;by_cases h:a<=n;all_goals simp (disch:=omega) only[go_sem,h102c]
 all_goals simp[h]
theorem A7(n a b:Int):EV G (Tb (lA bb)) 49 [vi n,vi a,vi b] []=some (vb (decide (a<=n/\n<=b)),[]):=by
 refine aB rfl ?_;by_cases h:a<=n;all_goals simp (disch:=omega) only[go_sem,h49c]
 all_goals simp[h]
theorem rY(b:Bool)(e:Int):EV G (Tb (lA bb)) 101 [vb b,vi e] []=some (vi (un b e),[]):=by
 refine aB rfl ?_;cases b;all_goals simp (disch:=omega) only[go_sem,h101c]
 all_goals rfl
theorem Vf(l:L Int)(g:l.length<=1000):EV G (Tb (lA bb)) 100 [vl (el l)] []=some (vi (aT l),[]):=by
 refine aB rfl ?_;simp (disch:=omega) only[go_sem,h100c,aZA];have a:∀ k (b:k < l.length),¬ l.getD k 0≠0->Ls [5,0,0] 0 (EC (EV G (Tb (lA bb))) G h100l0 ⟨(jk 5 (vl (el l)::vi l.length::vi k::jk 7 [])),[]⟩)=some ⟨(jk 5 (vl (el l)::vi l.length::vi (k+1:Nat)::jk 7 [])),[]⟩:=fun k b f=>by
  rw[cE l k b] at f;simp (disch:=omega) only[go_sem,h100l0,aZA,tL]
 rcases Pv (fun k=>l.getD k 0≠0) l.length with h|⟨j,e,c,d⟩
 rw[aR (fun k=>⟨(jk 5 (vl (el l)::vi l.length::vi k::jk 7 [])),[]⟩) l.length ?_ ?_]
 rw[iH l h];simp (disch:=omega) only[go_sem,h100l0];rfl;exact fun k b=>a k b (h k b)
 rw[aR (fun k=>⟨(jk 5 (vl (el l)::vi l.length::vi k::jk 7 [])),[]⟩) j ?_ ?_]
 rw[kH l j e d c];rw[cE l j e] at c;simp (disch:=omega) only[go_sem,h100l0,aZA,tL];rfl;exact fun k b=>a k (by omega) (d k b)
theorem Vg(a b:Int):EV G (Tb (lA bb)) 100 [vl [[ci a],[ci b]]] []=some (vi (aT [a,b]),[]):=Vf [a,b] (by simp)
theorem Vh(a b c:Int):EV G (Tb (lA bb)) 100 [vl [[ci a],[ci b],[ci c]]] []=some (vi (aT [a,b,c]),[]):=Vf [a,b,c] (by simp)
abbrev rfv(a b:Int):AV:=.agg [.dc (ci a),.dc (ci b)]
theorem aMx(x:Int):Xu .i64 x 1=x % 2:=by
 have h:(BitVec.ofInt 64 x &&& BitVec.ofInt 64 1).toNat=(x % 2).toNat:=by
  rw[BitVec.toNat_and,show (BitVec.ofInt 64 1).toNat=1 from rfl,Nat.and_one_is_mod,BitVec.toNat_ofInt]
  omega
 show IntKind.i64.wrap (((BitVec.ofInt 64 x &&& BitVec.ofInt 64 1).toNat:Nat):Int)=_;rw[h,Bv (by omega)];omega
theorem aHU(a b:Int):EV G (Tb (lA bb)) 145 [rfv a b] []=some (vi (aDB a b),[]):=by
 refine aB rfl ?_;have d:=rW (G:=G) (bb:=bb) a 0 95;have g:=rW (G:=G) (bb:=bb) b 1 65535;have u:=fun c=>rY (G:=G) (bb:=bb) c 2
 unfold aDB;by_cases e:0<=a/\a<=95;rw[decide_eq_true e] at d;by_cases f:1<=b/\b<=65535;rw[decide_eq_true f] at g;rw[if_pos ⟨e,f⟩];simp (disch:=omega) only[go_sem,h145c,d,g,u,gE];rw[decide_eq_false f] at g;rw[if_neg (fun h=>f h.2)]
 simp (disch:=omega) only[go_sem,h145c,d,g,u,gX];rw[decide_eq_false e] at d;rw[if_neg (fun h=>e h.1)]
 simp (disch:=omega) only[go_sem,h145c,d,u,gX]
theorem N9(a b:Int):EV G (Tb (lA bb)) 103 [rfv a b] []=some (vi (Bo a b),[]):=by
 refine aB rfl ?_;have q:=aHU (G:=G) (bb:=bb) a b;unfold Bo;by_cases c:a=0;by_cases d:b=0;rw[if_pos ⟨c,d⟩];simp (disch:=omega) only[go_sem,h103c,q,eq_true c,eq_true d];rw[if_neg (fun h=>d h.2)]
 simp (disch:=omega) only[go_sem,h103c,q,eq_true c,d];rw[if_neg (fun h=>c h.1)]
 simp (disch:=omega) only[go_sem,h103c,q,c]
theorem aDC(a b:Int):EV G (Tb (lA bb)) 227 [rfv a b] []=some (vi (aDB a b),[]):=by
 refine aB rfl ?_;have c:=A7 (G:=G) (bb:=bb) a 0 95;have f:=A7 (G:=G) (bb:=bb) b 1 65535;unfold aDB;by_cases d:0<=a/\a<=95;rw[decide_eq_true d] at c;by_cases e:1<=b/\b<=65535;rw[decide_eq_true e] at f;rw[if_pos ⟨d,e⟩];simp (disch:=omega) only[go_sem,h227c,c,f];rw[decide_eq_false e] at f;rw[if_neg (fun h=>e h.2)]
 simp (disch:=omega) only[go_sem,h227c,c,f];rw[decide_eq_false d] at c;rw[if_neg (fun h=>d h.1)]
 simp (disch:=omega) only[go_sem,h227c,c]
theorem K0(a b:Int):EV G (Tb (lA bb)) 189 [rfv a b] []=some (vi (Bo a b),[]):=by
 refine aB rfl ?_;have q:=aDC (G:=G) (bb:=bb) a b;unfold Bo;by_cases c:a=0;by_cases d:b=0;rw[if_pos ⟨c,d⟩];simp (disch:=omega) only[go_sem,h189c,q,eq_true c,eq_true d];rw[if_neg (fun h=>d h.2)]
 simp (disch:=omega) only[go_sem,h189c,q,eq_true c,d];rw[if_neg (fun h=>c h.1)]
 simp (disch:=omega) only[go_sem,h189c,q,c]
theorem Vi(r:cK):EV G (Tb (lA bb)) 105 [r.v] []=some (vb (fE r.fl),[]):=by
 refine aB rfl ?_;unfold fE;by_cases c:r.fl % 2=1;have d:¬ r.fl % 2=0:=by omega
 simp (disch:=omega) only[go_sem,h105c,aMx,d,decide_eq_true c];have d:r.fl % 2=0:=by omega
 simp (disch:=omega) only[go_sem,h105c,aMx,eq_true d,decide_eq_false c]
theorem Qs(r:cK)(h:0<=r.fl/\r.fl<=1000):EV G (Tb (lA bb)) 31 [r.v] []=some (vb (fE r.fl),[]):=by
 refine aB rfl ?_;unfold fE;have e:r.fl.tmod 2=r.fl % 2:=by rw[bBd h.1]
 simp (disch:=omega) only[go_sem,h31c,e]
theorem K1(l:L aJ)(k:Nat)(a:k<l.length):dC (l.take (k+1))=dC (l.take k)+(gY l[k]).length:=by
 rw[bAA a,N8]
theorem K2(l:L aJ)(c:∀a∈l,a.W):0<=dC l/\dC l<=440*l.length:=by
 induction l with
 |nil=>exact⟨Int.le_refl _,Int.le_refl _⟩
 |cons a l f=>
  have d:=f (fun b e=>c b (aZ2 _ e))
  have g:=rR (c a aZV);unfold dC at d ⊢;simp only[aZM,List.sum_cons,aZC];omega
theorem aHV{l:L aJ}(b:∀a∈l,a.W)(k:Nat):∀a∈l.take k,a.W:=fun a c=>b a (aZ0 c)
theorem Vj(l:L aJ)(b:∀a∈l,a.W)(f:l.length<=1000):EV G (Tb (lA bb)) 110 [vl (l.map aJ.e)] []=some (vi (dC l),[]):=by
 refine aB rfl ?_;simp (disch:=omega) only[go_sem,h110c,aZA];rw[aR (fun k=>⟨(jk 3 (vi (dC (l.take k))::jk 4 (vl (l.map aJ.e)::vi l.length::vi k::jk 13 []))),[]⟩) l.length ?_ ?_]
 simp (disch:=omega) only[go_sem,h110l0,bAj];rfl;intro k c;have q:=up (aDo (G:=G) (bb:=bb) l[k] (b _ (aZK c)));have d:=rR (b _ (aZK c));have h3:=K2 (l.take k) (aHV b k);rw[aZF] at h3;have h4:dC (l.take k)<=440000:=by omega
 have h5:=h3.1;clear h3;rw[K1 l k c];generalize dC (l.take k)=z at *;simp (disch:=omega) only[go_sem,h110l0,aZA,ixA,aJ.e,q]
theorem aMy(l:L aJ)(f:∀a∈l,a.W)(g:∀a∈l,gI a=0)(i:l.length<=1000):EV G (Tb (lA bb)) 191 [vl (l.map aJ.e)] []=some (vi (dC l),[]):=by
 refine aB rfl ?_;simp (disch:=omega) only[go_sem,h191c,aZA];rw[aR (fun k=>⟨(vl (l.map aJ.e)::jk 2 (vi (dC (l.take k))::vi k::jk 15 [])),[]⟩) l.length ?_ ?_]
 simp (disch:=omega) only[go_sem,h191l0,aZA,bAj];rfl;intro k d;have b:=f _ (aZK d);have c:=g _ (aZK d);have q:=up (T8 (G:=G) (bb:=bb) l[k] (nA b c));rw[<- (H6 b c).1] at q;have h:=rR b;have h3:=K2 (l.take k) (aHV f k);rw[aZF] at h3;have h4:dC (l.take k)<=440000:=by omega
 have h5:=h3.1;clear h3;rw[K1 l k d];generalize dC (l.take k)=z at *;simp (disch:=omega) only[go_sem,h191l0,aZA,ixA,aJ.e,q]
attribute [go_sem] aN1 aZG
end
section
variable {G:aF}{bb:Bool}
theorem pQ(J:L Nat):∀a:L DC,Dk J (a.map aU.dc)=true
 |[]=>rfl
 |d::a=>by rw[aZM,Dk,pQ J a];rfl
theorem pR:∀a:L DC,idsL (a.map aU.dc)=[]
 |[]=>rfl
 |d::a=>by rw[aZM,idsL,pR a];rfl
theorem pS(f:Nat->Nat):∀a:L DC,List.map (jV f) (a.map aU.dc)=a.map aU.dc
 |[]=>rfl
 |d::a=>by rw[aZM,aZM,pS f a];rfl
theorem pT(m:Nat):∀a:L DC,G4 m (a.map aU.dc)=a.map aU.dc
 |[]=>rfl
 |d::a=>by rw[aZM,G4,pT m a];rfl
theorem mF(f:Nat->Bool):∀a:L DC,List.map (cL f) (a.map aU.dc)=a.map aU.dc
 |[]=>rfl
 |d::a=>by rw[aZM,aZM,mF f a];rfl
theorem aHW(d:Nat)(b:L DC)(p:aJ->Bool)(l:L aJ)(i:l.length<=1000000)(h:∀a∈l,EV G (Tb (lA bb)) d [a.v,.one (.ptr 0 0)] [.box (b.map aU.dc)]=some (vb (p a),[.box (b.map aU.dc)])):EV G (Tb (lA bb)) 73 [vl (l.map aJ.e),.one (.fn d [.ptr 0 0])] [.box (b.map aU.dc)]=some (vi (jA p l),[.box (b.map aU.dc)]):=by
 refine aB rfl ?_;simp (disch:=omega) only[go_sem,h73c,aZA,pQ,pR,pS,pT,mF];unfold jA;rw[dE (fun k=>⟨(vl (l.map aJ.e)::.one (.fn d [.ptr 0 0])::jk 5 (vi l.length::vi k::jk 10 [])),[.box (b.map aU.dc)]⟩) (fun k=>p (l.getD k aJ.nil)=true) l.length ?_ ?_]
 rotate_left
 rfl;intro k f g;have h3:=g k (aZE _);rw[fJ l k f] at h3;have h4:p l[k]=false:=by simpa using h3
 have q:=h l[k] (aZK f);rw[h4] at q;simp (disch:=omega) only[go_sem,h73l0,aZA,ixA,aJ.e,q,pQ,pR,pS,pT,mF];obtain⟨f,hp,g⟩:=bD (fun k=>p (l.getD k aJ.nil)=true) l.length
 generalize ix (fun k=>p (l.getD k aJ.nil)=true) l.length=k at *
 rcases hp with rfl|⟨c,hp⟩;rw[if_pos rfl];simp (disch:=omega) only[go_sem,h73l0,aZA,pQ,pR,pS,pT,mF];rw[if_neg (by omega)];rw[fJ l k c] at hp;have q:=h l[k] (aZK c);rw[hp] at q;simp (disch:=omega) only[go_sem,h73l0,aZA,ixA,aJ.e,q,pQ,pR,pS,pT,mF]
theorem aRb(c:Nat)(b:L DC)(p:aJ->Bool)(l:L aJ)(d:l.length<=1000000)(f:∀a∈l,EV G (Tb (lA bb)) c [a.v,.one (.ptr 0 0)] [.box (b.map aU.dc)]=some (vb (p a),[.box (b.map aU.dc)])):EV G (Tb (lA bb)) 155 [vl (l.map aJ.e),.one (.fn c [.ptr 0 0])] [.box (b.map aU.dc)]=some (vb (l.any p),[.box (b.map aU.dc)]):=by
 refine aB rfl ?_;have q:=aHW (G:=G) (bb:=bb) c b p l d f;rw[<- Uf];simp (disch:=omega) only[go_sem,h155c,q,pQ,pR,pS,pT,mF]
abbrev cK.d(r:cK):L DC:=[ci r.sq,ci r.li,ci r.fl,ci r.br,ci r.bq,ci r.nx,ci r.ls,.slc (r.ats.map aJ.e)]
theorem aVO(r:cK)(a:aJ):EV G (Tb (lA bb)) 203 [a.v,.one (.ptr 0 0)] [.box r.c]=some (vb (decide (r.nx<=a.id)),[.box r.c]):=by
 refine aB rfl ?_;simp (disch:=omega) only[go_sem,h203c]
theorem aVP(r:cK)(b:r.ats.length<=1000000):EV G (Tb (lA bb)) 73 [vl (r.ats.map aJ.e),.one (.fn 203 [.ptr 0 0])] [.box r.c]=some (vi (Wj r),[.box r.c]):=
 aHW 203 r.d (fun a=>decide (r.nx<=a.id)) r.ats b (fun a _=>aVO r a)
def sA:HC->HC
 |.seq a _=>a
 |c=>c
def sB:HC->HC
 |.seq _ b=>b
 |c=>c
theorem Ag{a b:HC}:sA (.seq a b)=a:=rfl
theorem Bp{a b:HC}:sB (.seq a b)=b:=rfl
def sT:HC->HC
 |.trm _ a=>a
 |c=>c
theorem Mc{L:List Nat}{a:HC}:sT (.trm L a)=a:=rfl
def aMz(L:List Nat):Option (Exit×AS)->Option AS
 |some (.normal,s)=>some (kR L s.hp.length s)
 |_=>none
theorem pU{L:List Nat}{s:AS}:aMz L (some (.normal,s))=some (kR L s.hp.length s):=rfl
theorem aRc{call:aO}{st st':AS}{c:HC}(a:c=.seq (sA c) (sB c))(h:EC call G (sA c) st=some (.normal,st')):EC call G c st=EC call G (sB c) st':=by
 rw[a,Xs];simp only[Ag,Bp];rw[h];rfl
theorem aBn{call:aO}{st st':AS}{c:HC}{L:List Nat}(d:c=.seq (sA c) (.trm L (sT (sB c))))(h:aMz L (EC call G (sA c) st)=some st'):EC call G c st=EC call G (sT (sB c)) st':=by
 generalize sA c=a at d h;generalize sT (sB c)=b at d;subst d;rw[Xs];cases e:EC call G a st with
 |none=>rw[e] at h;cases h
 |some q=>
  obtain⟨x,s⟩:=q;cases x with
  |normal=>
   rw[e] at h;injection h with h
   rw[aNV,aFM,h]
  |_=>rw[e] at h;cases h
theorem aX8(l:L aJ):((l.length:Int)=0)=(l=[]):=by
 apply propext;rw[<- List.length_eq_zero_iff];omega
theorem aRd(r:cK):aMz [1,2] (EC (EV G (Tb (lA bb))) G (sA (sB h146c)) ⟨(r.v::.one (.ptr 0 0)::vi 0::vi 0::jk 92 []),[.box r.c]⟩)=some ⟨(jk 1 (.one (.ptr 0 0)::jk 2 (vb (tU r)::jk 91 []))),[.box r.c]⟩:=by
 have w:=rW (G:=G) (bb:=bb);unfold tU;by_cases a:1<=r.sq/\r.sq<=65535;rw[decide_eq_true a];by_cases b:0<=r.li/\r.li<=65535;rw[decide_eq_true b];by_cases d:0<=r.fl/\r.fl<=3;rw[decide_eq_true d];by_cases e:0<=r.nx/\r.nx<=65535;rw[decide_eq_true e];simp (disch:=omega) only[go_sem,h146c,Ag,Bp,pU,w,aZ8];rw[decide_eq_false e];simp (disch:=omega) only[go_sem,h146c,Ag,Bp,pU,w,aZ8,bAi];rw[decide_eq_false d];simp (disch:=omega) only[go_sem,h146c,Ag,Bp,pU,w,aZ8,bAi];rw[decide_eq_false b];simp (disch:=omega) only[go_sem,h146c,Ag,Bp,pU,w,aZ8,bAi];rw[decide_eq_false a];simp (disch:=omega) only[go_sem,h146c,Ag,Bp,pU,w,aZ8,bAi]
theorem aRe(r:cK)(b:Bool):aMz [1,2,0] (EC (EV G (Tb (lA bb))) G (sA (sT (sB (sB h146c)))) ⟨(jk 1 (.one (.ptr 0 0)::jk 2 (vb b::jk 91 []))),[.box r.c]⟩)=some ⟨(jk 1 (.one (.ptr 0 0)::jk 2 (vb b::vb (Ma r)::jk 90 []))),[.box r.c]⟩:=by
 unfold Ma;have j:=aX8 r.ats;by_cases a:r.fl=0;rw[decide_eq_true a];by_cases g:r.ats=[];have e:(r.ats.length:Int)=0:=j.symm ▸ g;rw[decide_eq_true g];by_cases d:r.li=0;rw[decide_eq_true d];by_cases f:r.br=0/\r.bq=0;rw[decide_eq_true f];simp (disch:=omega) only[go_sem,h146c,Ag,Bp,Mc,pU,aZA,eq_true e,eq_true a,eq_true d,eq_true f.1,eq_true f.2,aZ8];rw[decide_eq_false f];by_cases i:r.br=0;have k:¬ r.bq=0:=fun h=>f ⟨i,h⟩
 simp (disch:=omega) only[go_sem,h146c,Ag,Bp,Mc,pU,aZA,eq_true e,eq_true a,eq_true d,eq_true i,k,aZ8,bAi];simp (disch:=omega) only[go_sem,h146c,Ag,Bp,Mc,pU,aZA,eq_true e,eq_true a,eq_true d,i,aZ8,bAi];rw[decide_eq_false d];simp (disch:=omega) only[go_sem,h146c,Ag,Bp,Mc,pU,aZA,eq_true e,eq_true a,d,aZ8,bAi];have e:¬ (r.ats.length:Int)=0:=fun h=>g (j ▸ h)
 rw[decide_eq_false g];simp (disch:=omega) only[go_sem,h146c,Ag,Bp,Mc,pU,aZA,e,eq_true a,aZ8,bAi];rw[decide_eq_false a];simp (disch:=omega) only[go_sem,h146c,Ag,Bp,Mc,pU,a,aZ8,bAi]
theorem aHX(r:cK)(k:r.W):EV G (Tb (lA bb)) 146 [r.v] []=some (iiv (Ac r),[]):=by
 refine aB rfl ?_;have w:=k.ln;have q:EC (EV G (Tb (lA bb))) G h146c ⟨(r.v::jk 95 []),[]⟩=EC (EV G (Tb (lA bb))) G (sB h146c) ⟨(r.v::.one (.ptr 0 0)::vi 0::vi 0::jk 92 []),[.box r.c]⟩:=aRc rfl (by simp (disch:=omega) only[go_sem,h146c,Ag]);have s:=aBn (c:=sB h146c) (L:=[1,2]) rfl (aRd (G:=G) (bb:=bb) r);have t:=aBn (c:=sT (sB (sB h146c))) (L:=[1,2,0]) rfl (aRe (G:=G) (bb:=bb) r (tU r));refine (congrArg (qC _ _ _) (q.trans (s.trans t))).trans ?_;have u:=rY (G:=G) (bb:=bb);have h:=N9 (G:=G) (bb:=bb) r.br r.bq;have b:=Vi (G:=G) (bb:=bb) r;have i:=Vh (G:=G) (bb:=bb);have j:=up (aL3 (G:=G) (bb:=bb) r.ats k.at' (by omega));have l:=aVP (G:=G) (bb:=bb) r (by omega);have n:=Vj (G:=G) (bb:=bb) r.ats k.at' (by omega);unfold Ac;have a:Wi r=aT [un (tU r) 2,Bo r.br r.bq,un (fE r.fl||Ma r) 3]:=rfl
 generalize tU r=y at *;generalize Ma r=A at *;generalize Bo r.br r.bq=z at *;generalize Wj r=g at *;generalize dC r.ats=m at *;generalize nO r.ats=o at *;obtain⟨C,x⟩:=o;dsimp only at j ⊢;by_cases f:Wi r=0;rw[if_neg (not_not_intro f)];rw[f] at a;by_cases e:x=0;rw[if_neg (not_not_intro e)];by_cases p:0<=g
 ·rw[if_pos p];cases d:fE r.fl;all_goals rw[d] at a b
  all_goals simp only[bAD,bAq] at a
  all_goals simp (disch:=omega) only[go_sem,h146c,Ag,Bp,Mc,u,h,b,i,j,l,n,<- a,eq_true e,bAD,bAq]
 ·rw[if_neg p];by_cases B:m<=440;all_goals cases d:fE r.fl
  all_goals rw[d] at a b
  all_goals simp only[bAD,bAq] at a
  all_goals simp (disch:=omega) only[go_sem,h146c,Ag,Bp,Mc,u,h,b,i,j,l,n,<- a,eq_true e,bAD,bAq]
 ·rw[if_pos e];cases d:fE r.fl;all_goals rw[d] at a b
  all_goals simp only[bAD,bAq] at a
  all_goals simp (disch:=omega) only[go_sem,h146c,Ag,Bp,Mc,u,h,b,i,j,l,n,<- a,e,bAD,bAq]
 ·rw[if_pos f];cases d:fE r.fl;all_goals rw[d] at a b
  all_goals simp only[bAD,bAq] at a
  all_goals simp (disch:=omega) only[go_sem,h146c,Ag,Bp,Mc,u,h,b,i,<- a,f,bAD,bAq]
