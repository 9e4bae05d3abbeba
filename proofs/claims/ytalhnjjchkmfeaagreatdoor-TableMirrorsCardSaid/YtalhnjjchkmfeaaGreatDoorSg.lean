/- Part. Conditions: none. -/
import Derived.Test.YtalhnjjchkmfeaaGreatDoorSu
import Derived.Test.YtalhnjjchkmfeaaGreatDoorVo
namespace Go.Proofs.YtalhnjjchkmfeaaGreatDoor
set_option maxHeartbeats 4000000
set_option linter.unusedSimpArgs false
set_option linter.unusedVariables false
set_option maxRecDepth 4000
section
variable {G:aF}{bb:Bool}
theorem aOf{s:L Int}(h:(dG s).2.2=0):s.length=512/\gU s/\∃a,Ak ((eQ s).drop 64)=some a/\iO (dZ (eQ s) []) (68+a.flatten.length) a.flatten=eQ s/\(iK a).2=0/\hZ (dZ (eQ s) (iK a).1)=0/\dG s=(dZ (eQ s) (iK a).1,gR s,0):=by
 unfold dG at h ⊢;by_cases c:s.length≠512;rw[if_pos c] at h;exact absurd h (by decide);rw[if_neg c] at h;by_cases d:¬ gU s;rw[if_pos d] at h;exact absurd h (by decide);rw[if_neg d] at h;refine⟨Classical.not_not.1 c,Classical.not_not.1 d,?_⟩;cases i:Ak ((eQ s).drop 64) with
 |none=>rw[i] at h;exact absurd h (show ¬ (3:Int)=0 by decide)
 |some a=>
  rw[i] at h;refine⟨a,rfl,?_⟩;simp only at h;rw[if_neg c,if_neg d];unfold U3 at h ⊢;by_cases f:iO (dZ (eQ s) []) (68+a.flatten.length) a.flatten≠eQ s;rw[if_pos f] at h;exact absurd h (by decide);rw[if_neg f] at h;by_cases b:(iK a).2≠0;rw[if_pos b] at h;exact absurd h b;rw[if_neg b] at h;by_cases g:hZ (dZ (eQ s) (iK a).1)≠0;rw[if_pos g] at h;dsimp only at h;exact absurd h g;refine⟨Classical.byContradiction fun e=>f e,Classical.byContradiction fun e=>b e,Classical.byContradiction fun e=>g e,?_⟩
  exact (if_neg f).trans ((if_neg b).trans (if_neg g))
theorem Qu{s:L Int}(h:(dG s).2.2≠0):(dG s).1=.nil/\(dG s).2.1=0:=by
 unfold dG at h ⊢;by_cases b:s.length≠512;rw[if_pos b];exact⟨rfl,rfl⟩;rw[if_neg b] at h ⊢;by_cases c:¬ gU s;rw[if_pos c];exact⟨rfl,rfl⟩;rw[if_neg c] at h ⊢;cases g:Ak ((eQ s).drop 64) with
 |none=>exact⟨rfl,rfl⟩
 |some a=>
  rw[g] at h;simp only at h ⊢;unfold U3 at h ⊢;by_cases d:iO (dZ (eQ s) []) (68+a.flatten.length) a.flatten≠eQ s;rw[if_pos d];exact⟨rfl,rfl⟩;rw[if_neg d] at h ⊢;by_cases e:(iK a).2≠0;rw[if_pos e];exact⟨rfl,rfl⟩;rw[if_neg e] at h ⊢;by_cases f:hZ (dZ (eQ s) (iK a).1)≠0;rw[if_pos f];exact⟨rfl,rfl⟩;rw[if_neg f] at h;exact absurd rfl h
theorem Yz{s:L Int}(f:s.length=512)(i:aJ s){a:L (L Int)}(h:Ak ((eQ s).drop 64)=some a):(∀p∈a,aJ p/\p.length<=1000/\24<=p.length)/\a.flatten.length<=444/\a.length<=18/\aJ a.flatten:=by
 obtain⟨m,g,n,e⟩:=Qt _ _ a h;have t:((eQ s).drop 64).length=448:=by rw[aZK,qK f]
 have j:aJ ((eQ s).drop 64):=fun x d=>Ky f i x (bAa d)
 have hf:aJ a.flatten:=by
  rw[<- g];exact fun x d=>j x (aZZ d)
 have c:∀b:L (L Int),(∀p∈b,24<=p.length)->24*b.length<=b.flatten.length:=by
  intro b
  induction b with
  |nil=>intro _;exact aZE _
  |cons p b l=>
   intro h;have o:=h p aZT;have r:=l (fun q k=>h q (aZ3 _ k))
   rw[bAx,aZA,aZB];omega
 have h24:=c a (fun p hp=>(e p hp).1)
 refine⟨fun p hp=>⟨fun x d=>hf x (List.mem_flatten.2 ⟨p,hp,d⟩),?_,(e p hp).1⟩,by omega,by omega,hf⟩
 have:=(e p hp).2;omega
theorem aQ6{s:L Int}(e:s.length=512)(d:aJ s){a:L (L Int)}(h:Ak ((eQ s).drop 64)=some a):(dZ (eQ s) (iK a).1).W:=by
 obtain⟨b,j,h3,h4⟩:=Yz e d h;obtain⟨f,c,g,i⟩:=aBg a (fun p hp=>⟨(b p hp).1,(b p hp).2.1⟩)
 exact⟨c,by show (iK a).1.length<=900;omega⟩
theorem aVJ{s:L Int}(c:aJ s):(dG s).1.W:=by
 by_cases h:(dG s).2.2=0;obtain⟨d,i,j,a,e,f,g,b⟩:=aOf h;rw[b];exact aQ6 d c a;rw[(Qu h).1];exact cL.nil_W
theorem aQ7{s:L Int}(c:aJ s):(dG s).2.2≠0/\(dG s).2.1=0/\(dG s).1=.nil\/(dG s).2.2=0/\hZ (dG s).1=0/\1<=(dG s).2.1/\(dG s).2.1<=65535:=by
 by_cases h:(dG s).2.2=0;obtain⟨d,e,j,f,g,i,a,b⟩:=aOf h;refine .inr ⟨h,?_⟩;rw[b];exact⟨a,Yy d c e⟩;exact .inl ⟨h,(Qu h).2,(Qu h).1⟩
theorem Eg{r:cL}(t:r.W)(h:hZ r=0){u:Int}(y:1<=u/\u<=65535):dG (oQ r u)=(r,u,0)/\(oQ r u).length=512/\aJ (oQ r u):=by
 have d:=Ee h;have w:=U5 d;have g:∀a∈r.ats,a.W/\gI a=0:=fun a b=>⟨t.at' a b,d.errs.1 a b⟩
 have i:aJ (jZ r):=N8 (fun p hp=>by
  obtain⟨a,b,rfl⟩:=List.mem_map.1 hp;exact (Qr (g a b).1 (g a b).2).1)
 have k:=Bc r (68+(jZ r).length) (jZ r) (by omega);obtain⟨A,B,C⟩:=Ux (n:=u) k (fun j a c=>aHT _ _ _ j a c) y
 have m:(oQ r u).length=512:=oP k 8 (by omega);have s:aJ (oQ r u):=by
  intro x z;obtain⟨j,v,rfl⟩:=List.mem_iff_getElem.1 z;have e:(oQ r u)[j]=(oQ r u).getD j 0:=by simp[aZN,v]
  have f:=Ef r (68+(jZ r).length) (jZ r) i;rw[e];unfold oQ;rw[N3 k 8 (by omega)];unfold ptG
  repeat' split
  all_goals first|omega|exact qL f _
 refine⟨?_,m,s⟩;have f:jZ r=(r.ats.map gY).flatten:=rfl;unfold dG;have l:eQ (oQ r u)=iO r (68+(jZ r).length) (jZ r):=A;have q:gR (oQ r u)=u:=C;have o:gU (oQ r u):=B;rw[if_neg (not_not_intro m),if_neg (not_not_intro o),l,aHU,f,U7 _ _ g];simp only;unfold U3;rw[l,q,U6 d,U6 d,U8 _ g,<- f];rw[if_neg (not_not_intro (by rfl))];simp only;have e:Yx r r.ats=r:=rfl;rw[e,h];rw[if_neg (fun c=>c rfl),if_neg (fun c=>c rfl)]
theorem Am{p:aI->Bool}{l:L aI}:jA p l<0↔∀a∈l,p a=false:=by
 unfold jA;obtain⟨g,hp,f⟩:=bF (fun k=>p (l.getD k aI.nil)=true) l.length
 generalize ix (fun k=>p (l.getD k aI.nil)=true) l.length=m at *
 constructor;intro h a c;split at h;rename_i e;obtain⟨j,d,rfl⟩:=List.mem_iff_getElem.1 c;have:=f j (by omega);rw[fH _ _ d] at this;simpa using this;omega;intro h;rcases hp with e|⟨b,hp⟩
 rw[if_pos e];decide;rw[fH _ _ b] at hp;rw[h _ (aZG b)] at hp;cases hp
theorem aBi{r:cL}{a:aI}(d:r.Ok)(e:gI (bV a r.nx)=0)(j:r.ats.length<32):Ui (r.ats++[bV a r.nx])=0:=by
 have f:=Am.1 d.gt;refine aMb (by rw[aZA,bBe];omega) ((A7 _).2 ⟨fun b c=>?_,?_⟩)
 rcases bAY.1 c with c|c;exact d.errs.1 b c;rw[List.mem_singleton.1 c];exact e;rw[bAg,List.nodup_append];refine⟨d.errs.2,by simp,fun x g y h=>?_⟩
 obtain⟨b,c,rfl⟩:=List.mem_map.1 g;have i:y=r.nx:=by simpa[bV] using h
 have:=f b c;simp only[decide_eq_false_iff_not] at this;omega
end
section
variable {G:aF}{bb:Bool}
theorem Cm.le{α:Type}{P:α->Prop}{c:α->α->Int}(h:Cm P c){a b d:α}(e:P a)(f:P b)(g:P d)(x:c a b<=0)(y:c b d<=0):c a d<=0:=by
 by_cases i:c a b=0;rw[h.eq a b d e f g i];exact y;by_cases j:c b d=0;have:=(h.eq' f g e j).1.1 (by omega);omega;have:=h.tr a b d e f g (by omega) (by omega);omega
theorem aQ8{α:Type}{P:α->Prop}{c:α->α->Int}(h:Cm P c){l:L α}(e:∀a∈l,P a)(f:∀k (r:k+1<l.length),c l[k] l[k+1]<=0):l.Pairwise fun a b=>c a b<=0:=by
 rw[bBj];intro i j q o n;obtain⟨d,rfl⟩:∃d,j=i+1+d:=⟨j-i-1,by omega⟩
 induction d with
 |zero=>exact f i o
 |succ d p=>
  have g:=p (by omega) (by omega);have m:=f (i+1+d) (by omega);exact h.le (e _ (aZG _)) (e _ (aZG _)) (e _ (aZG _)) g m
def Hh(a b:aI):Int:=aU [kI a.ty b.ty,Bq a.nm b.nm,kI a.fi b.fi]
def aMv(a b:aI):Int:=L7 (fun a b:aI=>Fl a.ty b.ty) (L7 (fun a b:aI=>H5 (dI a.nm).toList (dI b.nm).toList) (fun a b:aI=>Fl a.fi b.fi)) a b
theorem aMw:Cm (fun _=>True) aMv:=
 (Fm.map (fun a:aI=>a.ty) (fun _ _=>trivial)).lex ((Yd.map (fun a:aI=>(dI a.nm).toList) (fun _ _=>trivial)).lex (Fm.map (fun a:aI=>a.fi) (fun _ _=>trivial)))
theorem U9(a b:Int):kI a b=Fl a b:=rfl
theorem aMx(a b:aI):aMv a b=Hh a b:=by
 unfold aMv Hh L7;rw[U9,U9,Ea];simp only;by_cases c:Fl a.ty b.ty=0;rw[if_pos c,c,aW];by_cases d:H5 (dI a.nm).toList (dI b.nm).toList=0;rw[if_pos d,d,aW];by_cases h3:Fl a.fi b.fi=0;rw[h3,aW];rfl;rw[aZ _ _ h3];rw[if_neg d,aZ _ _ d];rw[if_neg c,aZ _ _ c]
theorem aBj:Cm (fun _=>True) Hh:=by
 have e:Hh=aMv:=by funext a b;exact (aMx a b).symm
 rw[e];exact aMw
theorem aHX{a b:aI}(h:qE a b<=0):Hh a b<=0:=by
 unfold qE at h;unfold Hh;by_cases c:kI a.ty b.ty=0;rw[c,aW] at h ⊢;by_cases d:Bq a.nm b.nm=0;rw[d,aW] at h ⊢;by_cases h3:kI a.fi b.fi=0;rw[h3,aW];exact Int.le_refl _;rw[aZ _ _ h3] at h ⊢;exact h;rw[aZ _ _ d] at h ⊢;exact h;rw[aZ _ _ c] at h ⊢;exact h
theorem aOg{a b:Int}(h:Fl a b=0):a=b:=by
 unfold Fl at h;split at h;omega;split at h<;>omega
theorem aVK{a b:L Int}(f:aJ a)(g:aJ b)(h:Bq a b=0):a=b:=by
 rw[Ea] at h;have c:=aVp h;have d:dI a=dI b:=by
  apply ByteArray.ext;apply Array.ext';have e:∀l:L Int,(dI l).toList=(dI l).data.toList:=fun l=>ByteArray.toList_eq (dI l)
  rw[<- e,<- e,c]
 rwa[cR f g] at d
theorem aHY{a b:aI}(f:aJ a.nm)(g:aJ b.nm):Hh a b=0↔nV a b=true:=by
 rw[Fk];unfold Hh;constructor;intro h;obtain⟨c,d,h3⟩:=Bb h;exact⟨aOg c,aVK f g d,aOg h3⟩;rintro⟨c,d,h3⟩;have e:∀x:Int,kI x x=0:=fun x=>Fm.self trivial
 have i:Bq b.nm b.nm=0:=by rw[Ea];exact Yd.self trivial
 rw[c,d,h3,e,e,i];rfl
theorem Va{a b:aI}(h:nV a b=true):nV b a=true:=by
 rw[Fk] at h ⊢;exact⟨h.1.symm,h.2.1.symm,h.2.2.symm⟩
theorem aQ9{l:L aI}(h:(nP l).2=0):l.Pairwise fun a b=>qE a b<=0:=
 aQ8 aA0 (fun _ _=>trivial) (fun k c=>(Kf (k:=k+1) (by omega) c ((Kx h).2 _ c)).2.1)
theorem Vb{l:L aI}(g:∀a∈l,a.W)(h:(nP l).2=0){i j:Nat}(m:i<j)(b:j<l.length)(c:nV (l[i]'(by omega)) l[j]=true):l[j].ty=48:=by
 have d:∀k (c:k<l.length),aJ (l[k]).nm:=fun k c=>(g _ (aZG c)).nm
 have hp:=bBj.1 (aQ9 h);by_cases e:i=j-1;subst e;exact (Kf (k:=j) (by omega) b ((Kx h).2 _ b)).2.2 c;have n:=aHX (hp i (j-1) (by omega) (by omega) (by omega));have o:=aHX (hp (j-1) j (by omega) b (by omega));have h3:=(aHY (d i (by omega)) (d j b)).2 c;have h4:Hh (l[j-1]'(by omega)) l[j]=0:=by
  refine Classical.byContradiction fun q=>?_
  have h5:Hh (l[j-1]'(by omega)) l[j]<0:=by omega
  have h6:Hh (l[i]'(by omega)) l[j]<0:=by
   by_cases f:Hh (l[i]'(by omega)) (l[j-1]'(by omega))=0;rw[aBj.eq _ _ l[j] trivial trivial trivial f];exact h5;exact aBj.tr _ _ _ trivial trivial trivial (by omega) h5
  omega
 exact (Kf (k:=j) (by omega) b ((Kx h).2 _ b)).2.2 ((aHY (d _ _) (d _ _)).1 h4)
theorem Y0{l m:L aI}(h:l.Perm m):dD l=dD m:=by
 unfold dD
 induction h with
 |nil=>rfl
 |cons x _ c=>simp only[aZL,List.sum_cons,c]
 |swap x y l=>simp only[aZL,List.sum_cons];omega
 |trans _ _ a b=>exact a.trans b
theorem N9(l:L aI)(a:aI):dD (l++[a])=dD l+(gY a).length:=by
 unfold dD;simp[bAg,List.sum_append]
structure Put (r:cL) (a:aI):Prop where
 ok:r.Ok
 us:fU r.fl=true
 nx:r.nx<65535
 ea:gI (bV a r.nx)=0
 hs:Fs r a=false
 ln:r.ats.length<32
 nd:dD (pN r a).ats<=440
theorem Eh{r:cL}{a b:aI}:b∈(pN r a).ats↔b∈r.ats\/b=bV a r.nx:=by
 show b∈fJ (r.ats++[bV a r.nx])↔_;rw[Kl,bAY,List.mem_singleton]
theorem aMy{r:cL}{a:aI}(h:Put r a):(r.ats++[bV a r.nx]).length<=32/\∀k,k<(r.ats++[bV a r.nx]).length->kT (r.ats++[bV a r.nx]) k=0:=aQQ (aBi h.ok h.ea h.ln)
theorem aMz{r:cL}{a:aI}(x:r.W)(D:aJ a.nm)(h:Put r a):(nP (pN r a).ats).2=0:=by
 obtain⟨I,B⟩:=aMy h;have p:((pN r a).ats.map aI.id).Nodup:=((rT _).map aI.id).nodup_iff.2 ((A7 _).1 B).2;show (nP (fJ (r.ats++[bV a r.nx]))).2=0;rw[aHn I B,if_neg];intro M;obtain⟨K,t,L⟩:=bF (fun k=>L9 (fJ (r.ats++[bV a r.nx])) (k+1)) ((fJ (r.ats++[bV a r.nx])).length-1)
 generalize ix (fun k=>L9 (fJ (r.ats++[bV a r.nx])) (k+1)) ((fJ (r.ats++[bV a r.nx])).length-1)=k at *
 rcases t with t|⟨_,t⟩;omega;obtain⟨_,g,o⟩:=t;have A:∀b,b∈fJ (r.ats++[bV a r.nx])↔b∈r.ats\/b=bV a r.nx:=fun b=>Eh
 have n:((fJ (r.ats++[bV a r.nx])).map aI.id).Nodup:=p;generalize fJ (r.ats++[bV a r.nx])=m at *;rw[show k+1 - 1=k by omega,fH _ k (by omega),fH _ (k+1) (by omega)] at g;rw[fH _ (k+1) (by omega)] at o;have f:m[k].id≠m[k+1].id:=fun e=>by
  have:=bBj.1 n k (k+1) (by rw[aZz];omega) (by rw[aZz];omega) (by omega);rw[aZS,aZS] at this;exact this e
 have l:=(A m[k]).1 (aZG _);have c:=(A m[k+1]).1 (aZG _);have s:∀ b∈r.ats,nV (bV a r.nx) b=true->b.ty≠48->False:=fun b E q J=>by
  have u:=h.hs;unfold Fs at u;have C:(r.ats.any fun b=>nV a b)=true:=List.any_eq_true.2 ⟨b,E,q⟩
  have h3:a.ty=b.ty:=(Fk.1 q).1;rw[C,decide_eq_false (by omega)] at u;cases u
 have w:∀y z:aI,nV y z=true->z.ty≠48->y.id≠z.id->(y∈r.ats\/y=bV a r.nx)->(z∈r.ats\/z=bV a r.nx)->False:=by
  intro y z g o f l c;have v:y.ty=z.ty:=(Fk.1 g).1;rcases l with l|l
  rcases c with c|c;obtain⟨i,F,rfl⟩:=List.mem_iff_getElem.1 l;obtain⟨j,H,rfl⟩:=List.mem_iff_getElem.1 c;rcases Nat.lt_trichotomy i j with d|d|d;exact o (Vb x.at' h.ok.od d H g);subst d;exact f rfl;exact o (v.symm.trans (Vb x.at' h.ok.od d F (Va g)));subst c;exact s y l (Va g) (by omega)
  subst l;rcases c with c|c
  exact s z c g o;subst c;exact f rfl
 exact w _ _ g o f l c
theorem aBk{r:cL}{a:aI}(j:r.W)(d:aJ a.nm)(h:Put r a):hZ (pN r a)=0:=by
 obtain⟨l,m,n,t,o⟩:=h.ok.num;have s:=h.nx;have k:=Am.1 h.ok.gt;have i:Wh (pN r a)=0:=by
  unfold Wh;have e:tY (pN r a)=true:=by
   show (decide (1<=r.sq/\r.sq<=65535)&&(decide (0<=r.li/\r.li<=65535)&&(decide (0<=r.fl/\r.fl<=3)&&(decide (0<=r.nx+1/\r.nx+1<=65535)&&decide (0<=r.ls/\r.ls<=2147483647)))))=true;rw[decide_eq_true l,decide_eq_true m,decide_eq_true n,decide_eq_true (p:=0<=r.nx+1/\r.nx+1<=65535) ⟨by omega,by omega⟩,decide_eq_true o];rfl
  have f:Br (pN r a).br (pN r a).bq=0:=h.ok.be;have g:fU (pN r a).fl=true:=h.us;rw[e,f,g];rfl
 have q:Wi (pN r a)<0:=by
  refine Am.2 fun b c=>?_
  show decide (r.nx+1<=b.id)=false;rw[decide_eq_false_iff_not];rcases Eh.1 c with c|c
  have:=k b c;rw[decide_eq_false_iff_not] at this;omega;subst c;show ¬ r.nx+1<=r.nx;omega
 unfold hZ Aj;rw[if_neg (by rw[i];decide),if_neg (by rw[aMz j d h];decide),if_neg (by omega),decide_eq_true h.nd];rfl
theorem Vc{r:cL}{a:aI}:dD (pN r a).ats=dD r.ats+(gY (bV a r.nx)).length:=by
 rw[<- N9];exact Y0 (rT _)
end
section
variable {G:aF}{bb:Bool}
theorem rY(n a b:Int):EV G (Tb (lA bb)) 114 [vi n,vi a,vi b] []=some (vb (decide (a<=n/\n<=b)),[]):=by
 refine aB rfl ?_;by_cases h:a<=n;all_goals simp (disch:=omega) only[go_sem,h114c]
 all_goals simp[h]
theorem Bf(n a b:Int):EV G (Tb (lA bb)) 6 [vi n,vi a,vi b] []=some (vb (decide (a<=n/\n<=b)),[]):=by
 refine aB rfl ?_;by_cases h:a<=n;all_goals simp (disch:=omega) only[go_sem,h6c]
 all_goals simp[h]
theorem rZ(b:Bool)(e:Int):EV G (Tb (lA bb)) 113 [vb b,vi e] []=some (vi (un b e),[]):=by
 refine aB rfl ?_;cases b;all_goals simp (disch:=omega) only[go_sem,h113c]
 all_goals rfl
theorem Vd(l:L Int)(g:l.length<=1000):EV G (Tb (lA bb)) 112 [vl (el l)] []=some (vi (aU l),[]):=by
 refine aB rfl ?_;simp (disch:=omega) only[go_sem,h112c,aZz];have a:∀ k (b:k < l.length),¬ l.getD k 0≠0->Lt [5,0,0] 0 (EC (EV G (Tb (lA bb))) G h112l0 ⟨(jk 5 (vl (el l)::vi l.length::vi k::jk 7 [])),[]⟩)=some ⟨(jk 5 (vl (el l)::vi l.length::vi (k+1:Nat)::jk 7 [])),[]⟩:=fun k b f=>by
  rw[bU l k b] at f;simp (disch:=omega) only[go_sem,h112l0,aZz,uC]
 rcases Py (fun k=>l.getD k 0≠0) l.length with h|⟨j,e,c,d⟩
 rw[aT (fun k=>⟨(jk 5 (vl (el l)::vi l.length::vi k::jk 7 [])),[]⟩) l.length ?_ ?_]
 rw[iI l h];simp (disch:=omega) only[go_sem,h112l0];rfl;exact fun k b=>a k b (h k b)
 rw[aT (fun k=>⟨(jk 5 (vl (el l)::vi l.length::vi k::jk 7 [])),[]⟩) j ?_ ?_]
 rw[kH l j e d c];rw[bU l j e] at c;simp (disch:=omega) only[go_sem,h112l0,aZz,uC];rfl;exact fun k b=>a k (by omega) (d k b)
theorem Ve(a b:Int):EV G (Tb (lA bb)) 112 [vl [[ci a],[ci b]]] []=some (vi (aU [a,b]),[]):=Vd [a,b] (by simp)
theorem Vf(a b c:Int):EV G (Tb (lA bb)) 112 [vl [[ci a],[ci b],[ci c]]] []=some (vi (aU [a,b,c]),[]):=Vd [a,b,c] (by simp)
abbrev rfv(a b:Int):AV:=.agg [.dc (ci a),.dc (ci b)]
theorem aMB(x:Int):Xt .i64 x 1=x % 2:=by
 have h:(BitVec.ofInt 64 x &&& BitVec.ofInt 64 1).toNat=(x % 2).toNat:=by
  rw[BitVec.toNat_and,show (BitVec.ofInt 64 1).toNat=1 from rfl,Nat.and_one_is_mod,BitVec.toNat_ofInt]
  omega
 show IntKind.i64.wrap (((BitVec.ofInt 64 x &&& BitVec.ofInt 64 1).toNat:Nat):Int)=_;rw[h,Bz (by omega)];omega
theorem aHZ(a b:Int):EV G (Tb (lA bb)) 158 [rfv a b] []=some (vi (aDC a b),[]):=by
 refine aB rfl ?_;have d:=rY (G:=G) (bb:=bb) a 0 95;have g:=rY (G:=G) (bb:=bb) b 1 65535;have u:=fun c=>rZ (G:=G) (bb:=bb) c 2
 unfold aDC;by_cases e:0<=a/\a<=95;rw[decide_eq_true e] at d;by_cases f:1<=b/\b<=65535;rw[decide_eq_true f] at g;rw[if_pos ⟨e,f⟩];simp (disch:=omega) only[go_sem,h158c,d,g,u,gE];rw[decide_eq_false f] at g;rw[if_neg (fun h=>f h.2)]
 simp (disch:=omega) only[go_sem,h158c,d,g,u,gX];rw[decide_eq_false e] at d;rw[if_neg (fun h=>e h.1)]
 simp (disch:=omega) only[go_sem,h158c,d,u,gX]
theorem Oa(a b:Int):EV G (Tb (lA bb)) 115 [rfv a b] []=some (vi (Br a b),[]):=by
 refine aB rfl ?_;have q:=aHZ (G:=G) (bb:=bb) a b;unfold Br;by_cases c:a=0;by_cases d:b=0;rw[if_pos ⟨c,d⟩];simp (disch:=omega) only[go_sem,h115c,q,eq_true c,eq_true d];rw[if_neg (fun h=>d h.2)]
 simp (disch:=omega) only[go_sem,h115c,q,eq_true c,d];rw[if_neg (fun h=>c h.1)]
 simp (disch:=omega) only[go_sem,h115c,q,c]
theorem aDD(a b:Int):EV G (Tb (lA bb)) 230 [rfv a b] []=some (vi (aDC a b),[]):=by
 refine aB rfl ?_;have c:=Bf (G:=G) (bb:=bb) a 0 95;have f:=Bf (G:=G) (bb:=bb) b 1 65535;unfold aDC;by_cases d:0<=a/\a<=95;rw[decide_eq_true d] at c;by_cases e:1<=b/\b<=65535;rw[decide_eq_true e] at f;rw[if_pos ⟨d,e⟩];simp (disch:=omega) only[go_sem,h230c,c,f];rw[decide_eq_false e] at f;rw[if_neg (fun h=>e h.2)]
 simp (disch:=omega) only[go_sem,h230c,c,f];rw[decide_eq_false d] at c;rw[if_neg (fun h=>d h.1)]
 simp (disch:=omega) only[go_sem,h230c,c]
theorem Kz(a b:Int):EV G (Tb (lA bb)) 187 [rfv a b] []=some (vi (Br a b),[]):=by
 refine aB rfl ?_;have q:=aDD (G:=G) (bb:=bb) a b;unfold Br;by_cases c:a=0;by_cases d:b=0;rw[if_pos ⟨c,d⟩];simp (disch:=omega) only[go_sem,h187c,q,eq_true c,eq_true d];rw[if_neg (fun h=>d h.2)]
 simp (disch:=omega) only[go_sem,h187c,q,eq_true c,d];rw[if_neg (fun h=>c h.1)]
 simp (disch:=omega) only[go_sem,h187c,q,c]
theorem Vg(r:cL):EV G (Tb (lA bb)) 117 [r.v] []=some (vb (fU r.fl),[]):=by
 refine aB rfl ?_;unfold fU;by_cases c:r.fl % 2=1;have d:¬ r.fl % 2=0:=by omega
 simp (disch:=omega) only[go_sem,h117c,aMB,d,decide_eq_true c];have d:r.fl % 2=0:=by omega
 simp (disch:=omega) only[go_sem,h117c,aMB,eq_true d,decide_eq_false c]
theorem aBl(r:cL)(h:0<=r.fl/\r.fl<=1000):EV G (Tb (lA bb)) 188 [r.v] []=some (vb (fU r.fl),[]):=by
 refine aB rfl ?_;unfold fU;have e:r.fl.tmod 2=r.fl % 2:=by rw[bBg h.1]
 simp (disch:=omega) only[go_sem,h188c,e]
theorem K0(l:L aI)(k:Nat)(a:k<l.length):dD (l.take (k+1))=dD (l.take k)+(gY l[k]).length:=by
 rw[bAB a,N9]
theorem K1(l:L aI)(c:∀a∈l,a.W):0<=dD l/\dD l<=440*l.length:=by
 induction l with
 |nil=>exact⟨Int.le_refl _,Int.le_refl _⟩
 |cons a l f=>
  have d:=f (fun b e=>c b (aZ3 _ e))
  have g:=rR (c a aZT);unfold dD at d ⊢;simp only[aZL,List.sum_cons,aZB];omega
theorem aH0{l:L aI}(b:∀a∈l,a.W)(k:Nat):∀a∈l.take k,a.W:=fun a c=>b a (aZZ c)
theorem Vh(l:L aI)(b:∀a∈l,a.W)(f:l.length<=1000):EV G (Tb (lA bb)) 122 [vl (l.map aI.e)] []=some (vi (dD l),[]):=by
 refine aB rfl ?_;simp (disch:=omega) only[go_sem,h122c,aZz];rw[aT (fun k=>⟨(jk 3 (vi (dD (l.take k))::jk 4 (vl (l.map aI.e)::vi l.length::vi k::jk 13 []))),[]⟩) l.length ?_ ?_]
 simp (disch:=omega) only[go_sem,h122l0,bAi];rfl;intro k c;have q:=up (aDo (G:=G) (bb:=bb) l[k] (b _ (aZG c)));have d:=rR (b _ (aZG c));have h3:=K1 (l.take k) (aH0 b k);rw[aZD] at h3;have h4:dD (l.take k)<=440000:=by omega
 have h5:=h3.1;clear h3;rw[K0 l k c];generalize dD (l.take k)=z at *;simp (disch:=omega) only[go_sem,h122l0,aZz,ixA,aI.e,q]
theorem aMC(l:L aI)(f:∀a∈l,a.W)(g:∀a∈l,gI a=0)(i:l.length<=1000):EV G (Tb (lA bb)) 190 [vl (l.map aI.e)] []=some (vi (dD l),[]):=by
 refine aB rfl ?_;simp (disch:=omega) only[go_sem,h190c,aZz];rw[aT (fun k=>⟨(vl (l.map aI.e)::jk 2 (vi (dD (l.take k))::vi k::jk 15 [])),[]⟩) l.length ?_ ?_]
 simp (disch:=omega) only[go_sem,h190l0,aZz,bAi];rfl;intro k d;have b:=f _ (aZG d);have c:=g _ (aZG d);have q:=up (T6 (G:=G) (bb:=bb) l[k] (nC b c));rw[<- (H8 b c).1] at q;have h:=rR b;have h3:=K1 (l.take k) (aH0 f k);rw[aZD] at h3;have h4:dD (l.take k)<=440000:=by omega
 have h5:=h3.1;clear h3;rw[K0 l k d];generalize dD (l.take k)=z at *;simp (disch:=omega) only[go_sem,h190l0,aZz,ixA,aI.e,q]
attribute [go_sem] aN4 aZF
end
section
variable {G:aF}{bb:Bool}
theorem pP(J:L Nat):∀a:L DC,Do J (a.map aV.dc)=true
 |[]=>rfl
 |d::a=>by rw[aZL,Do,pP J a];rfl
theorem pQ:∀a:L DC,idsL (a.map aV.dc)=[]
 |[]=>rfl
 |d::a=>by rw[aZL,idsL,pQ a];rfl
theorem pR(f:Nat->Nat):∀a:L DC,List.map (kD f) (a.map aV.dc)=a.map aV.dc
 |[]=>rfl
 |d::a=>by rw[aZL,aZL,pR f a];rfl
theorem pS(m:Nat):∀a:L DC,Ha m (a.map aV.dc)=a.map aV.dc
 |[]=>rfl
 |d::a=>by rw[aZL,Ha,pS m a];rfl
theorem mF(f:Nat->Bool):∀a:L DC,List.map (cN f) (a.map aV.dc)=a.map aV.dc
 |[]=>rfl
 |d::a=>by rw[aZL,aZL,mF f a];rfl
theorem aH1(d:Nat)(b:L DC)(p:aI->Bool)(l:L aI)(i:l.length<=1000000)(h:∀a∈l,EV G (Tb (lA bb)) d [a.v,.one (.ptr 0 0)] [.box (b.map aV.dc)]=some (vb (p a),[.box (b.map aV.dc)])):EV G (Tb (lA bb)) 90 [vl (l.map aI.e),.one (.fn d [.ptr 0 0])] [.box (b.map aV.dc)]=some (vi (jA p l),[.box (b.map aV.dc)]):=by
 refine aB rfl ?_;simp (disch:=omega) only[go_sem,h90c,aZz,pP,pQ,pR,pS,mF];unfold jA;rw[dQ (fun k=>⟨(vl (l.map aI.e)::.one (.fn d [.ptr 0 0])::jk 5 (vi l.length::vi k::jk 10 [])),[.box (b.map aV.dc)]⟩) (fun k=>p (l.getD k aI.nil)=true) l.length ?_ ?_]
 rotate_left
 rfl;intro k f g;have h3:=g k (aZE _);rw[fH l k f] at h3;have h4:p l[k]=false:=by simpa using h3
 have q:=h l[k] (aZG f);rw[h4] at q;simp (disch:=omega) only[go_sem,h90l0,aZz,ixA,aI.e,q,pP,pQ,pR,pS,mF];obtain⟨f,hp,g⟩:=bF (fun k=>p (l.getD k aI.nil)=true) l.length
 generalize ix (fun k=>p (l.getD k aI.nil)=true) l.length=k at *
 rcases hp with rfl|⟨c,hp⟩;rw[if_pos rfl];simp (disch:=omega) only[go_sem,h90l0,aZz,pP,pQ,pR,pS,mF];rw[if_neg (by omega)];rw[fH l k c] at hp;have q:=h l[k] (aZG c);rw[hp] at q;simp (disch:=omega) only[go_sem,h90l0,aZz,ixA,aI.e,q,pP,pQ,pR,pS,mF]
theorem aRa(c:Nat)(b:L DC)(p:aI->Bool)(l:L aI)(d:l.length<=1000000)(f:∀a∈l,EV G (Tb (lA bb)) c [a.v,.one (.ptr 0 0)] [.box (b.map aV.dc)]=some (vb (p a),[.box (b.map aV.dc)])):EV G (Tb (lA bb)) 168 [vl (l.map aI.e),.one (.fn c [.ptr 0 0])] [.box (b.map aV.dc)]=some (vb (l.any p),[.box (b.map aV.dc)]):=by
 refine aB rfl ?_;have q:=aH1 (G:=G) (bb:=bb) c b p l d f;rw[<- Ud];simp (disch:=omega) only[go_sem,h168c,q,pP,pQ,pR,pS,mF]
abbrev cL.d(r:cL):L DC:=[ci r.sq,ci r.li,ci r.fl,ci r.br,ci r.bq,ci r.nx,ci r.ls,.slc (r.ats.map aI.e)]
theorem aVL(r:cL)(a:aI):EV G (Tb (lA bb)) 210 [a.v,.one (.ptr 0 0)] [.box r.c]=some (vb (decide (r.nx<=a.id)),[.box r.c]):=by
 refine aB rfl ?_;simp (disch:=omega) only[go_sem,h210c]
theorem aVM(r:cL)(b:r.ats.length<=1000000):EV G (Tb (lA bb)) 90 [vl (r.ats.map aI.e),.one (.fn 210 [.ptr 0 0])] [.box r.c]=some (vi (Wi r),[.box r.c]):=
 aH1 210 r.d (fun a=>decide (r.nx<=a.id)) r.ats b (fun a _=>aVL r a)
def sA:HC->HC
 |.seq a _=>a
 |c=>c
def sB:HC->HC
 |.seq _ b=>b
 |c=>c
theorem An{a b:HC}:sA (.seq a b)=a:=rfl
theorem Bs{a b:HC}:sB (.seq a b)=b:=rfl
def sT:HC->HC
 |.trm _ a=>a
 |c=>c
theorem Md{L:List Nat}{a:HC}:sT (.trm L a)=a:=rfl
def aMD(L:List Nat):Option (Exit×AS)->Option AS
 |some (.normal,s)=>some (kO L s.hp.length s)
 |_=>none
theorem pT{L:List Nat}{s:AS}:aMD L (some (.normal,s))=some (kO L s.hp.length s):=rfl
theorem aRb{call:aO}{st st':AS}{c:HC}(a:c=.seq (sA c) (sB c))(h:EC call G (sA c) st=some (.normal,st')):EC call G c st=EC call G (sB c) st':=by
 rw[a,Xr];simp only[An,Bs];rw[h];rfl
theorem aBm{call:aO}{st st':AS}{c:HC}{L:List Nat}(d:c=.seq (sA c) (.trm L (sT (sB c))))(h:aMD L (EC call G (sA c) st)=some st'):EC call G c st=EC call G (sT (sB c)) st':=by
 generalize sA c=a at d h;generalize sT (sB c)=b at d;subst d;rw[Xr];cases e:EC call G a st with
 |none=>rw[e] at h;cases h
 |some q=>
  obtain⟨x,s⟩:=q;cases x with
  |normal=>
   rw[e] at h;injection h with h
   rw[aNZ,aFQ,h]
  |_=>rw[e] at h;cases h
theorem aX8(l:L aI):((l.length:Int)=0)=(l=[]):=by
 apply propext;rw[<- List.length_eq_zero_iff];omega
theorem aRc(r:cL):aMD [1,2] (EC (EV G (Tb (lA bb))) G (sA (sB h159c)) ⟨(r.v::.one (.ptr 0 0)::vi 0::vi 0::jk 92 []),[.box r.c]⟩)=some ⟨(jk 1 (.one (.ptr 0 0)::jk 2 (vb (tY r)::jk 91 []))),[.box r.c]⟩:=by
 have w:=rY (G:=G) (bb:=bb);unfold tY;by_cases a:1<=r.sq/\r.sq<=65535;rw[decide_eq_true a];by_cases b:0<=r.li/\r.li<=65535;rw[decide_eq_true b];by_cases d:0<=r.fl/\r.fl<=3;rw[decide_eq_true d];by_cases e:0<=r.nx/\r.nx<=65535;rw[decide_eq_true e];simp (disch:=omega) only[go_sem,h159c,An,Bs,pT,w,aZ8];rw[decide_eq_false e];simp (disch:=omega) only[go_sem,h159c,An,Bs,pT,w,aZ8,bAh];rw[decide_eq_false d];simp (disch:=omega) only[go_sem,h159c,An,Bs,pT,w,aZ8,bAh];rw[decide_eq_false b];simp (disch:=omega) only[go_sem,h159c,An,Bs,pT,w,aZ8,bAh];rw[decide_eq_false a];simp (disch:=omega) only[go_sem,h159c,An,Bs,pT,w,aZ8,bAh]
theorem aRd(r:cL)(b:Bool):aMD [1,2,0] (EC (EV G (Tb (lA bb))) G (sA (sT (sB (sB h159c)))) ⟨(jk 1 (.one (.ptr 0 0)::jk 2 (vb b::jk 91 []))),[.box r.c]⟩)=some ⟨(jk 1 (.one (.ptr 0 0)::jk 2 (vb b::vb (Mb r)::jk 90 []))),[.box r.c]⟩:=by
 unfold Mb;have j:=aX8 r.ats;by_cases a:r.fl=0;rw[decide_eq_true a];by_cases g:r.ats=[];have e:(r.ats.length:Int)=0:=j.symm ▸ g;rw[decide_eq_true g];by_cases d:r.li=0;rw[decide_eq_true d];by_cases f:r.br=0/\r.bq=0;rw[decide_eq_true f];simp (disch:=omega) only[go_sem,h159c,An,Bs,Md,pT,aZz,eq_true e,eq_true a,eq_true d,eq_true f.1,eq_true f.2,aZ8];rw[decide_eq_false f];by_cases i:r.br=0;have k:¬ r.bq=0:=fun h=>f ⟨i,h⟩
 simp (disch:=omega) only[go_sem,h159c,An,Bs,Md,pT,aZz,eq_true e,eq_true a,eq_true d,eq_true i,k,aZ8,bAh];simp (disch:=omega) only[go_sem,h159c,An,Bs,Md,pT,aZz,eq_true e,eq_true a,eq_true d,i,aZ8,bAh];rw[decide_eq_false d];simp (disch:=omega) only[go_sem,h159c,An,Bs,Md,pT,aZz,eq_true e,eq_true a,d,aZ8,bAh];have e:¬ (r.ats.length:Int)=0:=fun h=>g (j ▸ h)
 rw[decide_eq_false g];simp (disch:=omega) only[go_sem,h159c,An,Bs,Md,pT,aZz,e,eq_true a,aZ8,bAh];rw[decide_eq_false a];simp (disch:=omega) only[go_sem,h159c,An,Bs,Md,pT,a,aZ8,bAh]
theorem aH2(r:cL)(k:r.W):EV G (Tb (lA bb)) 159 [r.v] []=some (iiv (Aj r),[]):=by
 refine aB rfl ?_;have w:=k.ln;have q:EC (EV G (Tb (lA bb))) G h159c ⟨(r.v::jk 95 []),[]⟩=EC (EV G (Tb (lA bb))) G (sB h159c) ⟨(r.v::.one (.ptr 0 0)::vi 0::vi 0::jk 92 []),[.box r.c]⟩:=aRb rfl (by simp (disch:=omega) only[go_sem,h159c,An]);have s:=aBm (c:=sB h159c) (L:=[1,2]) rfl (aRc (G:=G) (bb:=bb) r);have t:=aBm (c:=sT (sB (sB h159c))) (L:=[1,2,0]) rfl (aRd (G:=G) (bb:=bb) r (tY r));refine (congrArg (qC _ _ _) (q.trans (s.trans t))).trans ?_;have u:=rZ (G:=G) (bb:=bb);have h:=Oa (G:=G) (bb:=bb) r.br r.bq;have b:=Vg (G:=G) (bb:=bb) r;have i:=Vf (G:=G) (bb:=bb);have j:=up (aL7 (G:=G) (bb:=bb) r.ats k.at' (by omega));have l:=aVM (G:=G) (bb:=bb) r (by omega);have n:=Vh (G:=G) (bb:=bb) r.ats k.at' (by omega);unfold Aj;have a:Wh r=aU [un (tY r) 2,Br r.br r.bq,un (fU r.fl||Mb r) 3]:=rfl
 generalize tY r=y at *;generalize Mb r=A at *;generalize Br r.br r.bq=z at *;generalize Wi r=g at *;generalize dD r.ats=m at *;generalize nP r.ats=o at *;obtain⟨C,x⟩:=o;dsimp only at j ⊢;by_cases f:Wh r=0;rw[if_neg (not_not_intro f)];rw[f] at a;by_cases e:x=0;rw[if_neg (not_not_intro e)];by_cases p:0<=g
 ·rw[if_pos p];cases d:fU r.fl;all_goals rw[d] at a b
  all_goals simp only[bAE,bAp] at a
  all_goals simp (disch:=omega) only[go_sem,h159c,An,Bs,Md,u,h,b,i,j,l,n,<- a,eq_true e,bAE,bAp]
 ·rw[if_neg p];by_cases B:m<=440;all_goals cases d:fU r.fl
  all_goals rw[d] at a b
  all_goals simp only[bAE,bAp] at a
  all_goals simp (disch:=omega) only[go_sem,h159c,An,Bs,Md,u,h,b,i,j,l,n,<- a,eq_true e,bAE,bAp]
 ·rw[if_pos e];cases d:fU r.fl;all_goals rw[d] at a b
  all_goals simp only[bAE,bAp] at a
  all_goals simp (disch:=omega) only[go_sem,h159c,An,Bs,Md,u,h,b,i,j,l,n,<- a,e,bAE,bAp]
 ·rw[if_pos f];cases d:fU r.fl;all_goals rw[d] at a b
  all_goals simp only[bAE,bAp] at a
  all_goals simp (disch:=omega) only[go_sem,h159c,An,Bs,Md,u,h,b,i,<- a,f,bAE,bAp]
