/- Which records are valid, by the program and by the reference. Conditions: as each theorem says. -/
import Derived.Test.YthepfneloomngaaGreatDoorSu
import Derived.Test.YthepfneloomngaaGreatDoorUw
namespace Go.Proofs.YthepfneloomngaaGreatDoor
set_option linter.unusedSimpArgs false
set_option linter.unusedVariables false
set_option maxRecDepth 4000
section
variable {G:aE}{bb:Bool}
theorem aMk{s:List Int}(h:(kA s).2.2=0):s.length=512/\mR s/\∃ps,Cf ((jJ s).drop 64)=some ps/\iR (jL (jJ s) []) (68+ps.flatten.length) ps.flatten=jJ s/\(iX ps).2=0/\gG (jL (jJ s) (iX ps).1)=0/\kA s=(jL (jJ s) (iX ps).1,qG s,0):=by
 unfold kA at h ⊢;by_cases c1:s.length≠512;rw[if_pos c1] at h;exact absurd h (by decide);rw[if_neg c1] at h;by_cases c2:¬ mR s;rw[if_pos c2] at h;exact absurd h (by decide);rw[if_neg c2] at h;refine⟨Classical.not_not.1 c1,Classical.not_not.1 c2,?_⟩;cases hq:Cf ((jJ s).drop 64) with
 |none=>rw[hq] at h;exact absurd h (show ¬ (3:Int)=0 by decide)
 |some ps=>
  rw[hq] at h;refine⟨ps,rfl,?_⟩;simp only at h;rw[if_neg c1,if_neg c2];unfold aFP at h ⊢;by_cases d1:iR (jL (jJ s) []) (68+ps.flatten.length) ps.flatten≠jJ s;rw[if_pos d1] at h;exact absurd h (by decide);rw[if_neg d1] at h;by_cases d2:(iX ps).2≠0;rw[if_pos d2] at h;exact absurd h d2;rw[if_neg d2] at h;by_cases d3:gG (jL (jJ s) (iX ps).1)≠0;rw[if_pos d3] at h;dsimp only at h;exact absurd h d3;refine⟨Classical.byContradiction fun e=>d1 e,Classical.byContradiction fun e=>d2 e,Classical.byContradiction fun e=>d3 e,?_⟩
  exact (if_neg d1).trans ((if_neg d2).trans (if_neg d3))
theorem N6{s:List Int}(h:(kA s).2.2≠0):(kA s).1=.nil/\(kA s).2.1=0:=by
 unfold kA at h ⊢;by_cases c1:s.length≠512;rw[if_pos c1];exact⟨rfl,rfl⟩;rw[if_neg c1] at h ⊢;by_cases c2:¬ mR s;rw[if_pos c2];exact⟨rfl,rfl⟩;rw[if_neg c2] at h ⊢;cases hq:Cf ((jJ s).drop 64) with
 |none=>exact⟨rfl,rfl⟩
 |some ps=>
  rw[hq] at h;simp only at h ⊢;unfold aFP at h ⊢;by_cases d1:iR (jL (jJ s) []) (68+ps.flatten.length) ps.flatten≠jJ s;rw[if_pos d1];exact⟨rfl,rfl⟩;rw[if_neg d1] at h ⊢;by_cases d2:(iX ps).2≠0;rw[if_pos d2];exact⟨rfl,rfl⟩;rw[if_neg d2] at h ⊢;by_cases d3:gG (jL (jJ s) (iX ps).1)≠0;rw[if_pos d3];exact⟨rfl,rfl⟩;rw[if_neg d3] at h;exact absurd rfl h
theorem aFT{s:List Int}(hs:s.length=512)(hB:aM s){ps:List (List Int)}(h:Cf ((jJ s).drop 64)=some ps):(∀p∈ps,aM p/\p.length<=1000/\24<=p.length)/\ps.flatten.length<=444/\ps.length<=18/\aM ps.flatten:=by
 obtain⟨g1,g2,g3,g4⟩:=Ys _ _ ps h;have hl:((jJ s).drop 64).length=448:=by rw[aXS,B8 hs]
 have hb:aM ((jJ s).drop 64):=fun x hx=>Sa hs hB x (aYl hx)
 have hf:aM ps.flatten:=by
  rw[<- g2];exact fun x hx=>hb x (aX6 hx)
 have hlen:∀qs:List (List Int),(∀p∈qs,24<=p.length)->24*qs.length<=qs.flatten.length:=by
  intro qs
  induction qs with
  |nil=>intro _;exact aXF _
  |cons p qs ih=>
   intro h;have h1:=h p aXV;have h2:=ih (fun q hq=>h q (aX3 _ hq))
   rw[aYA,aXD,aXE];omega
 have h24:=hlen ps (fun p hp=>(g4 p hp).1)
 refine⟨fun p hp=>⟨fun x hx=>hf x (List.mem_flatten.2 ⟨p,hp,hx⟩),?_,(g4 p hp).1⟩,by omega,by omega,hf⟩
 have:=(g4 p hp).2;omega
theorem aTL{s:List Int}(hs:s.length=512)(hB:aM s){ps:List (List Int)}(h:Cf ((jJ s).drop 64)=some ps):(jL (jJ s) (iX ps).1).W:=by
 obtain⟨h1,h2,h3,h4⟩:=aFT hs hB h;obtain⟨d1,d2,d3,d4⟩:=Yv ps (fun p hp=>⟨(h1 p hp).1,(h1 p hp).2.1⟩)
 exact⟨d2,by show (iX ps).1.length<=900;omega⟩
theorem aTM{s:List Int}(hB:aM s):(kA s).1.W:=by
 by_cases h:(kA s).2.2=0;obtain⟨hs,hw,ps,e1,e2,e3,e4,e5⟩:=aMk h;rw[e5];exact aTL hs hB e1;rw[(N6 h).1];exact cI.nil_W
theorem aPi{s:List Int}(hB:aM s):(kA s).2.2≠0/\(kA s).2.1=0/\(kA s).1=.nil\/(kA s).2.2=0/\gG (kA s).1=0/\1<=(kA s).2.1/\(kA s).2.1<=65535:=by
 by_cases h:(kA s).2.2=0;obtain⟨hs,hw,ps,e1,e2,e3,e4,e5⟩:=aMk h;refine .inr ⟨h,?_⟩;rw[e5];exact⟨e4,aPf hs hB hw⟩;exact .inl ⟨h,(N6 h).2,(N6 h).1⟩
theorem Cg{r:cI}(hW:r.W)(h:gG r=0){u:Int}(hu:1<=u/\u<=65535):kA (cN r u)=(r,u,0)/\(cN r u).length=512/\aM (cN r u):=by
 have hO:=rH h;have hla:=I9 hO;have hv:∀a∈r.ats,a.W/\fK a=0:=fun a ha=>⟨hW.at' a ha,hO.errs.1 a ha⟩
 have hba:aM (fY r):=Lq (fun p hp=>by
  obtain⟨a,ha,rfl⟩:=List.mem_map.1 hp;exact (N3 (hv a ha).1 (hv a ha).2).1)
 have hl:=Ga r (68+(fY r).length) (fY r) (by omega);obtain⟨q1,q2,q3⟩:=aFi (n:=u) hl (fun j a c=>aMj _ _ _ j a c) hu
 have q4:(cN r u).length=512:=rE hl 8 (by omega);have hB:aM (cN r u):=by
  intro x hx;obtain⟨j,hj,rfl⟩:=List.mem_iff_getElem.1 hx;have e:(cN r u)[j]=(cN r u).getD j 0:=by simp[aXN,hj]
  have hb:=Ja r (68+(fY r).length) (fY r) hba;rw[e];unfold cN;rw[Yf hl 8 (by omega)];unfold ptG
  repeat' split
  all_goals first|omega|exact Ir hb _
 refine⟨?_,q4,hB⟩;have hb:fY r=(r.ats.map dX).flatten:=rfl;unfold kA;have g1:jJ (cN r u)=iR r (68+(fY r).length) (fY r):=q1;have g3:qG (cN r u)=u:=q3;have g2:mR (cN r u):=q2;rw[if_neg (not_not_intro q4),if_neg (not_not_intro g2),g1,aFS,hb,R8 _ _ hv];simp only;unfold aFP;rw[g1,g3,R7 hO,R7 hO,R9 _ hv,<- hb];rw[if_neg (not_not_intro (by rfl))];simp only;have e:Vg r r.ats=r:=rfl;rw[e,h];rw[if_neg (fun c=>c rfl),if_neg (fun c=>c rfl)]
theorem qL{p:aJ->Bool}{l:List aJ}:iH p l<0↔∀a∈l,p a=false:=by
 unfold iH;obtain⟨hk,hp,hn⟩:=bT (fun k=>p (l.getD k aJ.nil)=true) l.length
 generalize ix (fun k=>p (l.getD k aJ.nil)=true) l.length=m at *
 constructor;intro h a ha;split at h;rename_i e;obtain⟨j,hj,rfl⟩:=List.mem_iff_getElem.1 ha;have:=hn j (by omega);rw[gT _ _ hj] at this;simpa using this;omega;intro h;rcases hp with e|⟨hm,hp⟩
 rw[if_pos e];decide;rw[gT _ _ hm] at hp;rw[h _ (aXM hm)] at hp;cases hp
theorem aKp{p:aJ->Bool}{l:List aJ}(h:0<=iH p l):(iH p l).toNat<l.length/\p (l.getD (iH p l).toNat aJ.nil)=true:=by
 unfold iH at h ⊢;obtain⟨hk,hp,hn⟩:=bT (fun k=>p (l.getD k aJ.nil)=true) l.length
 generalize ix (fun k=>p (l.getD k aJ.nil)=true) l.length=m at *
 rcases hp with e|⟨hm,hp⟩;rw[if_pos e] at h;omega;rw[if_neg (by omega)];exact⟨by simpa using hm,by simpa using hp⟩
theorem Yx{r:cI}{a:aJ}(hO:r.Ok)(ha:fK (bG a r.nx)=0)(hl:r.ats.length<32):Rz (r.ats++[bG a r.nx])=0:=by
 have hg:=qL.1 hO.gt;refine aJ8 (by rw[aXD,List.length_singleton];omega) ((Cc _).2 ⟨fun b hb=>?_,?_⟩)
 rcases aYV.1 hb with hb|hb;exact hO.errs.1 b hb;rw[List.mem_singleton.1 hb];exact ha;rw[aYg,List.nodup_append];refine⟨hO.errs.2,by simp,fun x hx y hy=>?_⟩
 obtain⟨b,hb,rfl⟩:=List.mem_map.1 hx;have hy':y=r.nx:=by simpa[bG] using hy
 have:=hg b hb;simp only[decide_eq_false_iff_not] at this;omega
end
section
variable {G:aE}{bb:Bool}
theorem Cm.le{α:Type}{P:α->Prop}{c:α->α->Int}(h:Cm P c){a b d:α}(ha:P a)(hb:P b)(hd:P d)(x:c a b<=0)(y:c b d<=0):c a d<=0:=by
 by_cases e1:c a b=0;rw[h.eq a b d ha hb hd e1];exact y;by_cases e2:c b d=0;have:=(h.eq' hb hd ha e2).1.1 (by omega);omega;have:=h.tr a b d ha hb hd (by omega) (by omega);omega
theorem aPj{α:Type}{P:α->Prop}{c:α->α->Int}(h:Cm P c){l:List α}(hl:∀a∈l,P a)(ha:∀k (hk:k+1<l.length),c l[k] l[k+1]<=0):l.Pairwise fun a b=>c a b<=0:=by
 rw[aZe];intro i j hi hj hij;obtain⟨d,rfl⟩:∃d,j=i+1+d:=⟨j-i-1,by omega⟩
 induction d with
 |zero=>exact ha i hj
 |succ d ih=>
  have h1:=ih (by omega) (by omega);have h2:=ha (i+1+d) (by omega);exact h.le (hl _ (aXM _)) (hl _ (aXM _)) (hl _ (aXM _)) h1 h2
def Fc(a b:aJ):Int:=aS [jR a.ty b.ty,zI a.nm b.nm,jR a.fi b.fi]
def aKq(a b:aJ):Int:=J5 (fun a b:aJ=>Do a.ty b.ty) (J5 (fun a b:aJ=>F7 (dL a.nm).toList (dL b.nm).toList) (fun a b:aJ=>Do a.fi b.fi)) a b
theorem aKr:Cm (fun _=>True) aKq:=
 (Dp.map (fun a:aJ=>a.ty) (fun _ _=>trivial)).lex ((U8.map (fun a:aJ=>(dL a.nm).toList) (fun _ _=>trivial)).lex (Dp.map (fun a:aJ=>a.fi) (fun _ _=>trivial)))
theorem Sb(a b:Int):jR a b=Do a b:=rfl
theorem aKs(a b:aJ):aKq a b=Fc a b:=by
 unfold aKq Fc J5;rw[Sb,Sb,Cb];simp only;by_cases h1:Do a.ty b.ty=0;rw[if_pos h1,h1,aV];by_cases h2:F7 (dL a.nm).toList (dL b.nm).toList=0;rw[if_pos h2,h2,aV];by_cases h3:Do a.fi b.fi=0;rw[h3,aV];rfl;rw[aX _ _ h3];rw[if_neg h2,aX _ _ h2];rw[if_neg h1,aX _ _ h1]
theorem Yy:Cm (fun _=>True) Fc:=by
 have e:Fc=aKq:=by funext a b;exact (aKs a b).symm
 rw[e];exact aKr
theorem aFU{a b:aJ}(h:jK a b<=0):Fc a b<=0:=by
 unfold jK at h;unfold Fc;by_cases h1:jR a.ty b.ty=0;rw[h1,aV] at h ⊢;by_cases h2:zI a.nm b.nm=0;rw[h2,aV] at h ⊢;by_cases h3:jR a.fi b.fi=0;rw[h3,aV];exact Int.le_refl _;rw[aX _ _ h3] at h ⊢;exact h;rw[aX _ _ h2] at h ⊢;exact h;rw[aX _ _ h1] at h ⊢;exact h
theorem aMl{a b:Int}(h:Do a b=0):a=b:=by
 unfold Do at h;split at h;omega;split at h<;>omega
theorem aTN{a b:List Int}(ha:aM a)(hb:aM b)(h:zI a b=0):a=b:=by
 rw[Cb] at h;have h1:=aTB h;have h2:dL a=dL b:=by
  apply ByteArray.ext;apply Array.ext';have e:∀l:List Int,(dL l).toList=(dL l).data.toList:=fun l=>ByteArray.toList_eq (dL l)
  rw[<- e,<- e,h1]
 rwa[dR ha hb] at h2
theorem aFV{a b:aJ}(ha:aM a.nm)(hb:aM b.nm):Fc a b=0↔nF a b=true:=by
 rw[Dn];unfold Fc;constructor;intro h;obtain⟨h1,h2,h3⟩:=uR h;exact⟨aMl h1,aTN ha hb h2,aMl h3⟩;rintro⟨h1,h2,h3⟩;have s1:∀x:Int,jR x x=0:=fun x=>Dp.self trivial
 have s2:zI b.nm b.nm=0:=by rw[Cb];exact U8.self trivial
 rw[h1,h2,h3,s1,s1,s2];rfl
theorem Sc{a b:aJ}(h:nF a b=true):nF b a=true:=by
 rw[Dn] at h ⊢;exact⟨h.1.symm,h.2.1.symm,h.2.2.symm⟩
theorem aPk{l:List aJ}(h:(tN l).2=0):l.Pairwise fun a b=>jK a b<=0:=
 aPj Ym (fun _ _=>trivial) (fun k hk=>(Nu (k:=k+1) (by omega) hk ((I8 h).2 _ hk)).2.1)
theorem Sd{l:List aJ}(hW:∀a∈l,a.W)(h:(tN l).2=0){i j:Nat}(hij:i<j)(hj:j<l.length)(hk:nF (l[i]'(by omega)) l[j]=true):l[j].ty=48:=by
 have hB:∀k (hk:k<l.length),aM (l[k]).nm:=fun k hk=>(hW _ (aXM hk)).nm
 have hp:=aZe.1 (aPk h);by_cases e:i=j-1;subst e;exact (Nu (k:=j) (by omega) hj ((I8 h).2 _ hj)).2.2 hk;have h1:=aFU (hp i (j-1) (by omega) (by omega) (by omega));have h2:=aFU (hp (j-1) j (by omega) hj (by omega));have h3:=(aFV (hB i (by omega)) (hB j hj)).2 hk;have h4:Fc (l[j-1]'(by omega)) l[j]=0:=by
  refine Classical.byContradiction fun q=>?_
  have h5:Fc (l[j-1]'(by omega)) l[j]<0:=by omega
  have h6:Fc (l[i]'(by omega)) l[j]<0:=by
   by_cases e1:Fc (l[i]'(by omega)) (l[j-1]'(by omega))=0;rw[Yy.eq _ _ l[j] trivial trivial trivial e1];exact h5;exact Yy.tr _ _ _ trivial trivial trivial (by omega) h5
  omega
 exact (Nu (k:=j) (by omega) hj ((I8 h).2 _ hj)).2.2 ((aFV (hB _ _) (hB _ _)).1 h4)
theorem Vh{l m:List aJ}(h:l.Perm m):dS l=dS m:=by
 unfold dS
 induction h with
 |nil=>rfl
 |cons x _ ih=>simp only[aXL,List.sum_cons,ih]
 |swap x y l=>simp only[aXL,List.sum_cons];omega
 |trans _ _ h1 h2=>exact h1.trans h2
theorem Lr(l:List aJ)(a:aJ):dS (l++[a])=dS l+(dX a).length:=by
 unfold dS;simp[aYg,List.sum_append]
structure Put (r:cI) (a:aJ):Prop where
 ok:r.Ok
 us:dU r.fl=true
 nx:r.nx<65535
 ea:fK (bG a r.nx)=0
 hs:rG r a=false
 ln:r.ats.length<32
 nd:dS (nH r a).ats<=440
theorem Ch{r:cI}{a b:aJ}:b∈(nH r a).ats↔b∈r.ats\/b=bG a r.nx:=by
 show b∈dD (r.ats++[bG a r.nx])↔_;rw[tO,aYV,List.mem_singleton]
theorem aKt{r:cI}{a:aJ}(h:Put r a):(r.ats++[bG a r.nx]).length<=32/\∀k,k<(r.ats++[bG a r.nx]).length->mL (r.ats++[bG a r.nx]) k=0:=aO8 (Yx h.ok h.ea h.ln)
theorem aKu{r:cI}{a:aJ}(hW:r.W)(haW:aM a.nm)(h:Put r a):(tN (nH r a).ats).2=0:=by
 obtain⟨hl,hs⟩:=aKt h;have hids:((nH r a).ats.map aJ.id).Nodup:=((qK _).map aJ.id).nodup_iff.2 ((Cc _).1 hs).2;show (tN (dD (r.ats++[bG a r.nx]))).2=0;rw[aFy hl hs,if_neg];intro hq;obtain⟨b1,b2,b3⟩:=bT (fun k=>J7 (dD (r.ats++[bG a r.nx])) (k+1)) ((dD (r.ats++[bG a r.nx])).length-1)
 generalize ix (fun k=>J7 (dD (r.ats++[bG a r.nx])) (k+1)) ((dD (r.ats++[bG a r.nx])).length-1)=k at *
 rcases b2 with b2|⟨_,b2⟩;omega;obtain⟨_,hk,ht⟩:=b2;have hm:∀b,b∈dD (r.ats++[bG a r.nx])↔b∈r.ats\/b=bG a r.nx:=fun b=>Ch
 have hids':((dD (r.ats++[bG a r.nx])).map aJ.id).Nodup:=hids;generalize dD (r.ats++[bG a r.nx])=m at *;rw[show k+1 - 1=k by omega,gT _ k (by omega),gT _ (k+1) (by omega)] at hk;rw[gT _ (k+1) (by omega)] at ht;have hne:m[k].id≠m[k+1].id:=fun e=>by
  have:=aZe.1 hids' k (k+1) (by rw[aXC];omega) (by rw[aXC];omega) (by omega);rw[aYo,aYo] at this;exact this e
 have m1:=(hm m[k]).1 (aXM _);have m2:=(hm m[k+1]).1 (aXM _);have hno:∀ b∈r.ats,nF (bG a r.nx) b=true->b.ty≠48->False:=fun b hb hkb htb=>by
  have h1:=h.hs;unfold rG at h1;have h2:(r.ats.any fun b=>nF a b)=true:=List.any_eq_true.2 ⟨b,hb,hkb⟩
  have h3:a.ty=b.ty:=(Dn.1 hkb).1;rw[h2,decide_eq_false (by omega)] at h1;cases h1
 have key:∀y z:aJ,nF y z=true->z.ty≠48->y.id≠z.id->(y∈r.ats\/y=bG a r.nx)->(z∈r.ats\/z=bG a r.nx)->False:=by
  intro y z hk ht hne m1 m2;have hty:y.ty=z.ty:=(Dn.1 hk).1;rcases m1 with m1|m1
  rcases m2 with m2|m2;obtain⟨i,hi,rfl⟩:=List.mem_iff_getElem.1 m1;obtain⟨j,hj,rfl⟩:=List.mem_iff_getElem.1 m2;rcases Nat.lt_trichotomy i j with hij|hij|hij;exact ht (Sd hW.at' h.ok.od hij hj hk);subst hij;exact hne rfl;exact ht (hty.symm.trans (Sd hW.at' h.ok.od hij hi (Sc hk)));subst m2;exact hno y m1 (Sc hk) (by omega)
  subst m1;rcases m2 with m2|m2
  exact hno z m2 hk ht;subst m2;exact hne rfl
 exact key _ _ hk ht hne m1 m2
theorem Yz{r:cI}{a:aJ}(hW:r.W)(haW:aM a.nm)(h:Put r a):gG (nH r a)=0:=by
 obtain⟨n1,n2,n3,n4,n5⟩:=h.ok.num;have hx:=h.nx;have hg:=qL.1 h.ok.gt;have h1:hdE (nH r a)=0:=by
  unfold hdE;have e1:N0 (nH r a)=true:=by
   show (decide (1<=r.sq/\r.sq<=65535)&&(decide (0<=r.li/\r.li<=65535)&&(decide (0<=r.fl/\r.fl<=3)&&(decide (0<=r.nx+1/\r.nx+1<=65535)&&decide (0<=r.ls/\r.ls<=2147483647)))))=true;rw[decide_eq_true n1,decide_eq_true n2,decide_eq_true n3,decide_eq_true (p:=0<=r.nx+1/\r.nx+1<=65535) ⟨by omega,by omega⟩,decide_eq_true n5];rfl
  have e2:I4 (nH r a).br (nH r a).bq=0:=h.ok.be;have e3:dU (nH r a).fl=true:=h.us;rw[e1,e2,e3];rfl
 have h2:gtI (nH r a)<0:=by
  refine qL.2 fun b hb=>?_
  show decide (r.nx+1<=b.id)=false;rw[decide_eq_false_iff_not];rcases Ch.1 hb with hb|hb
  have:=hg b hb;rw[decide_eq_false_iff_not] at this;omega;subst hb;show ¬ r.nx+1<=r.nx;omega
 unfold gG Vf;rw[if_neg (by rw[h1];decide),if_neg (by rw[aKu hW haW h];decide),if_neg (by omega),decide_eq_true h.nd];rfl
theorem Se{r:cI}{a:aJ}:dS (nH r a).ats=dS r.ats+(dX (bG a r.nx)).length:=by
 rw[<- Lr];exact Vh (qK _)
end
section
variable {G:aE}{bb:Bool}
theorem qM(n lo hi:Int):EV G (Tb (kD bb)) 184 [vi n,vi lo,vi hi] []=some (vb (decide (lo<=n/\n<=hi)),[]):=by
 refine aA rfl ?_;by_cases h:lo<=n;all_goals simp (disch:=omega) only[go_sem,h184c]
 all_goals simp[h]
theorem qN(b:Bool)(e:Int):EV G (Tb (kD bb)) 183 [vb b,vi e] []=some (vi (un b e),[]):=by
 refine aA rfl ?_;cases b;all_goals simp (disch:=omega) only[go_sem,h183c]
 all_goals rfl
theorem Sf(l:List Int)(hl:l.length<=1000):EV G (Tb (kD bb)) 182 [vl (el l)] []=some (vi (aS l),[]):=by
 refine aA rfl ?_;simp (disch:=omega) only[go_sem,h182c,aXC];have round:∀ k (hk:k < l.length),¬ l.getD k 0≠0->K6 [5,0,0] 0 (EC (EV G (Tb (kD bb))) G h182l0 ⟨(jk 5 (vl (el l)::vi l.length::vi k::jk 7 [])),[]⟩)=some ⟨(jk 5 (vl (el l)::vi l.length::vi (k+1:Nat)::jk 7 [])),[]⟩:=fun k hk hz=>by
  rw[cL l k hk] at hz;simp (disch:=omega) only[go_sem,h182l0,aXC,E4]
 rcases M8 (fun k=>l.getD k 0≠0) l.length with h|⟨j,hj,h1,h2⟩
 rw[aR (fun k=>⟨(jk 5 (vl (el l)::vi l.length::vi k::jk 7 [])),[]⟩) l.length ?_ ?_]
 rw[gR l h];simp (disch:=omega) only[go_sem,h182l0];rfl;exact fun k hk=>round k hk (h k hk)
 rw[aR (fun k=>⟨(jk 5 (vl (el l)::vi l.length::vi k::jk 7 [])),[]⟩) j ?_ ?_]
 rw[jQ l j hj h2 h1];rw[cL l j hj] at h1;simp (disch:=omega) only[go_sem,h182l0,aXC,E4];rfl;exact fun k hk=>round k (by omega) (h2 k hk)
theorem Sg(a b:Int):EV G (Tb (kD bb)) 182 [vl [[ci a],[ci b]]] []=some (vi (aS [a,b]),[]):=Sf [a,b] (by simp)
theorem Sh(a b c:Int):EV G (Tb (kD bb)) 182 [vl [[ci a],[ci b],[ci c]]] []=some (vi (aS [a,b,c]),[]):=Sf [a,b,c] (by simp)
abbrev rfv(a b:Int):AV:=.agg [.dc (ci a),.dc (ci b)]
theorem aKv(x:Int):Uh .i64 x 1=x % 2:=by
 have h:(BitVec.ofInt 64 x &&& BitVec.ofInt 64 1).toNat=(x % 2).toNat:=by
  rw[BitVec.toNat_and,show (BitVec.ofInt 64 1).toNat=1 from rfl,Nat.and_one_is_mod,BitVec.toNat_ofInt]
  omega
 show IntKind.i64.wrap (((BitVec.ofInt 64 x &&& BitVec.ofInt 64 1).toNat:Nat):Int)=_;rw[h,zP (by omega)];omega
theorem aFW(a b:Int):EV G (Tb (kD bb)) 230 [rfv a b] []=some (vi (aKl a b),[]):=by
 refine aA rfl ?_;have q1:=qM (G:=G) (bb:=bb) a 0 95;have q2:=qM (G:=G) (bb:=bb) b 1 65535;have u:=fun c=>qN (G:=G) (bb:=bb) c 2
 unfold aKl;by_cases c1:0<=a/\a<=95;rw[decide_eq_true c1] at q1;by_cases c2:1<=b/\b<=65535;rw[decide_eq_true c2] at q2;rw[if_pos ⟨c1,c2⟩];simp (disch:=omega) only[go_sem,h230c,q1,q2,u,fR];rw[decide_eq_false c2] at q2;rw[if_neg (fun h=>c2 h.2)]
 simp (disch:=omega) only[go_sem,h230c,q1,q2,u,gC];rw[decide_eq_false c1] at q1;rw[if_neg (fun h=>c1 h.1)]
 simp (disch:=omega) only[go_sem,h230c,q1,u,gC]
theorem Ls(a b:Int):EV G (Tb (kD bb)) 185 [rfv a b] []=some (vi (I4 a b),[]):=by
 refine aA rfl ?_;have q:=aFW (G:=G) (bb:=bb) a b;unfold I4;by_cases c1:a=0;by_cases c2:b=0;rw[if_pos ⟨c1,c2⟩];simp (disch:=omega) only[go_sem,h185c,q,eq_true c1,eq_true c2];rw[if_neg (fun h=>c2 h.2)]
 simp (disch:=omega) only[go_sem,h185c,q,eq_true c1,c2];rw[if_neg (fun h=>c1 h.1)]
 simp (disch:=omega) only[go_sem,h185c,q,c1]
theorem Si(r:cI):EV G (Tb (kD bb)) 187 [r.v] []=some (vb (dU r.fl),[]):=by
 refine aA rfl ?_;unfold dU;by_cases c:r.fl % 2=1;have d:¬ r.fl % 2=0:=by omega
 simp (disch:=omega) only[go_sem,h187c,aKv,d,decide_eq_true c];have d:r.fl % 2=0:=by omega
 simp (disch:=omega) only[go_sem,h187c,aKv,eq_true d,decide_eq_false c]
theorem aKw(r:cI)(h:0<=r.fl/\r.fl<=1000):EV G (Tb (kD bb)) 57 [r.v] []=some (vb (dU r.fl),[]):=by
 refine aA rfl ?_;unfold dU;have e:r.fl.tmod 2=r.fl % 2:=by rw[Int.tmod_eq_emod_of_nonneg h.1]
 simp (disch:=omega) only[go_sem,h57c,e]
theorem Jb(l:List aJ)(k:Nat)(hk:k<l.length):dS (l.take (k+1))=dS (l.take k)+(dX l[k]).length:=by
 rw[aYx hk,Lr]
theorem Jc(l:List aJ)(hW:∀a∈l,a.W):0<=dS l/\dS l<=440*l.length:=by
 induction l with
 |nil=>exact⟨Int.le_refl _,Int.le_refl _⟩
 |cons a l ih=>
  have h1:=ih (fun b hb=>hW b (aX3 _ hb))
  have h2:=qH (hW a aXV);unfold dS at h1 ⊢;simp only[aXL,List.sum_cons,aXE];omega
theorem aFX{l:List aJ}(hW:∀a∈l,a.W)(k:Nat):∀a∈l.take k,a.W:=fun a ha=>hW a (aX6 ha)
theorem Sj(l:List aJ)(hW:∀a∈l,a.W)(hl:l.length<=1000):EV G (Tb (kD bb)) 192 [vl (l.map aJ.e)] []=some (vi (dS l),[]):=by
 refine aA rfl ?_;simp (disch:=omega) only[go_sem,h192c,aXC];rw[aR (fun k=>⟨(jk 3 (vi (dS (l.take k))::jk 4 (vl (l.map aJ.e)::vi l.length::vi k::jk 13 []))),[]⟩) l.length ?_ ?_]
 simp (disch:=omega) only[go_sem,h192l0,aYh];rfl;intro k hk;have q:=up (aBz (G:=G) (bb:=bb) l[k] (hW _ (aXM hk)));have h2:=qH (hW _ (aXM hk));have h3:=Jc (l.take k) (aFX hW k);rw[aXK] at h3;have h4:dS (l.take k)<=440000:=by omega
 have h5:=h3.1;clear h3;rw[Jb l k hk];generalize dS (l.take k)=z at *;simp (disch:=omega) only[go_sem,h192l0,aXC,ixA,aJ.e,q]
theorem aKx(l:List aJ)(hW:∀a∈l,a.W)(he:∀a∈l,fK a=0)(hl:l.length<=1000):EV G (Tb (kD bb)) 197 [vl (l.map aJ.e)] []=some (vi (dS l),[]):=by
 refine aA rfl ?_;simp (disch:=omega) only[go_sem,h197c,aXC];rw[aR (fun k=>⟨(vl (l.map aJ.e)::jk 2 (vi (dS (l.take k))::vi k::jk 15 [])),[]⟩) l.length ?_ ?_]
 simp (disch:=omega) only[go_sem,h197l0,aXC,aYh];rfl;intro k hk;have hWk:=hW _ (aXM hk);have hek:=he _ (aXM hk);have q:=up (Ii (G:=G) (bb:=bb) l[k] (lA hWk hek));rw[<- (Ce hWk hek).1] at q;have h2:=qH hWk;have h3:=Jc (l.take k) (aFX hW k);rw[aXK] at h3;have h4:dS (l.take k)<=440000:=by omega
 have h5:=h3.1;clear h3;rw[Jb l k hk];generalize dS (l.take k)=z at *;simp (disch:=omega) only[go_sem,h197l0,aXC,ixA,aJ.e,q]
attribute [go_sem] aL0 aXG
end
section
variable {G:aE}{bb:Bool}
theorem oU(J:List Nat):∀ds:List DC,Bm J (ds.map aT.dc)=true
 |[]=>rfl
 |d::ds=>by rw[aXL,Bm,oU J ds];rfl
theorem oV:∀ds:List DC,idsL (ds.map aT.dc)=[]
 |[]=>rfl
 |d::ds=>by rw[aXL,idsL,oV ds];rfl
theorem oW(f:Nat->Nat):∀ds:List DC,List.map (jN f) (ds.map aT.dc)=ds.map aT.dc
 |[]=>rfl
 |d::ds=>by rw[aXL,aXL,oW f ds];rfl
theorem oX(m:Nat):∀ds:List DC,Jz m (ds.map aT.dc)=ds.map aT.dc
 |[]=>rfl
 |d::ds=>by rw[aXL,Jz,oX m ds];rfl
theorem lC(f:Nat->Bool):∀ds:List DC,List.map (cG f) (ds.map aT.dc)=ds.map aT.dc
 |[]=>rfl
 |d::ds=>by rw[aXL,aXL,lC f ds];rfl
theorem aFY(fn:Nat)(ds:List DC)(p:aJ->Bool)(l:List aJ)(hl:l.length<=1000000)(hq:∀a∈l,EV G (Tb (kD bb)) fn [a.v,.one (.ptr 0 0)] [.box (ds.map aT.dc)]=some (vb (p a),[.box (ds.map aT.dc)])):
  EV G (Tb (kD bb)) 150 [vl (l.map aJ.e),.one (.fn fn [.ptr 0 0])] [.box (ds.map aT.dc)]=some (vi (iH p l),[.box (ds.map aT.dc)]):=by
 refine aA rfl ?_;simp (disch:=omega) only[go_sem,h150c,aXC,oU,oV,oW,oX,lC];unfold iH;rw[gF (fun k=>⟨(vl (l.map aJ.e)::.one (.fn fn [.ptr 0 0])::jk 5 (vi l.length::vi k::jk 10 [])),[.box (ds.map aT.dc)]⟩) (fun k=>p (l.getD k aJ.nil)=true) l.length ?_ ?_]
 rotate_left
 rfl;intro k hk hn;have h3:=hn k (aXF _);rw[gT l k hk] at h3;have h4:p l[k]=false:=by simpa using h3
 have q:=hq l[k] (aXM hk);rw[h4] at q;simp (disch:=omega) only[go_sem,h150l0,aXC,ixA,aJ.e,q,oU,oV,oW,oX,lC];obtain⟨hk,hp,hn⟩:=bT (fun k=>p (l.getD k aJ.nil)=true) l.length
 generalize ix (fun k=>p (l.getD k aJ.nil)=true) l.length=k at *
 rcases hp with rfl|⟨hk',hp⟩;rw[if_pos rfl];simp (disch:=omega) only[go_sem,h150l0,aXC,oU,oV,oW,oX,lC];rw[if_neg (by omega)];rw[gT l k hk'] at hp;have q:=hq l[k] (aXM hk');rw[hp] at q;simp (disch:=omega) only[go_sem,h150l0,aXC,ixA,aJ.e,q,oU,oV,oW,oX,lC]
theorem aPm(fn:Nat)(ds:List DC)(p:aJ->Bool)(l:List aJ)(hl:l.length<=1000000)(hq:∀a∈l,EV G (Tb (kD bb)) fn [a.v,.one (.ptr 0 0)] [.box (ds.map aT.dc)]=some (vb (p a),[.box (ds.map aT.dc)])):
  EV G (Tb (kD bb)) 239 [vl (l.map aJ.e),.one (.fn fn [.ptr 0 0])] [.box (ds.map aT.dc)]=some (vb (l.any p),[.box (ds.map aT.dc)]):=by
 refine aA rfl ?_;have q:=aFY (G:=G) (bb:=bb) fn ds p l hl hq;rw[<- Rs];simp (disch:=omega) only[go_sem,h239c,q,oU,oV,oW,oX,lC]
abbrev cI.d(r:cI):List DC:=[ci r.sq,ci r.li,ci r.fl,ci r.br,ci r.bq,ci r.nx,ci r.ls,.slc (r.ats.map aJ.e)]
theorem aTO(r:cI)(a:aJ):EV G (Tb (kD bb)) 206 [a.v,.one (.ptr 0 0)] [.box r.c]=some (vb (decide (r.nx<=a.id)),[.box r.c]):=by
 refine aA rfl ?_;simp (disch:=omega) only[go_sem,h206c]
theorem aTP(r:cI)(hl:r.ats.length<=1000000):EV G (Tb (kD bb)) 150 [vl (r.ats.map aJ.e),.one (.fn 206 [.ptr 0 0])] [.box r.c]=some (vi (gtI r),[.box r.c]):=
 aFY 206 r.d (fun a=>decide (r.nx<=a.id)) r.ats hl (fun a _=>aTO r a)
def sA:HC->HC
 |.seq a _=>a
 |c=>c
def sB:HC->HC
 |.seq _ b=>b
 |c=>c
theorem tR{a b:HC}:sA (.seq a b)=a:=rfl
theorem zL{a b:HC}:sB (.seq a b)=b:=rfl
def sT:HC->HC
 |.trm _ a=>a
 |c=>c
theorem Ka{L:List Nat}{a:HC}:sT (.trm L a)=a:=rfl
def aKy(L:List Nat):Option (Exit×AS)->Option AS
 |some (.normal,s)=>some (jY L s.hp.length s)
 |_=>none
theorem oY{L:List Nat}{s:AS}:aKy L (some (.normal,s))=some (jY L s.hp.length s):=rfl
theorem aPn{call:aO}{st st':AS}{c:HC}(hs:c=.seq (sA c) (sB c))(h:EC call G (sA c) st=some (.normal,st')):EC call G c st=EC call G (sB c) st':=by
 rw[hs,Ue];simp only[tR,zL];rw[h];rfl
theorem Y0{call:aO}{st st':AS}{c:HC}{L:List Nat}(hs:c=.seq (sA c) (.trm L (sT (sB c))))(h:aKy L (EC call G (sA c) st)=some st'):EC call G c st=EC call G (sT (sB c)) st':=by
 generalize sA c=a at hs h;generalize sT (sB c)=b at hs;subst hs;rw[Ue];cases e:EC call G a st with
 |none=>rw[e] at h;cases h
 |some q=>
  obtain⟨x,s⟩:=q;cases x with
  |normal=>
   rw[e] at h;injection h with h
   rw[aLS,aDO,h]
  |_=>rw[e] at h;cases h
theorem aV7(l:List aJ):((l.length:Int)=0)=(l=[]):=by
 apply propext;rw[<- List.length_eq_zero_iff];omega
theorem aPo(r:cI):aKy [1,2] (EC (EV G (Tb (kD bb))) G (sA (sB h157c)) ⟨(r.v::.one (.ptr 0 0)::vi 0::vi 0::jk 92 []),[.box r.c]⟩)=some ⟨(jk 1 (.one (.ptr 0 0)::jk 2 (vb (N0 r)::jk 91 []))),[.box r.c]⟩:=by
 have w:=qM (G:=G) (bb:=bb);unfold N0;by_cases c1:1<=r.sq/\r.sq<=65535;rw[decide_eq_true c1];by_cases c2:0<=r.li/\r.li<=65535;rw[decide_eq_true c2];by_cases c3:0<=r.fl/\r.fl<=3;rw[decide_eq_true c3];by_cases c4:0<=r.nx/\r.nx<=65535;rw[decide_eq_true c4];simp (disch:=omega) only[go_sem,h157c,tR,zL,oY,w,aYb];rw[decide_eq_false c4];simp (disch:=omega) only[go_sem,h157c,tR,zL,oY,w,aYb,aYj];rw[decide_eq_false c3];simp (disch:=omega) only[go_sem,h157c,tR,zL,oY,w,aYb,aYj];rw[decide_eq_false c2];simp (disch:=omega) only[go_sem,h157c,tR,zL,oY,w,aYb,aYj];rw[decide_eq_false c1];simp (disch:=omega) only[go_sem,h157c,tR,zL,oY,w,aYb,aYj]
theorem aPp(r:cI)(b:Bool):aKy [1,2,0] (EC (EV G (Tb (kD bb))) G (sA (sT (sB (sB h157c)))) ⟨(jk 1 (.one (.ptr 0 0)::jk 2 (vb b::jk 91 []))),[.box r.c]⟩)=some ⟨(jk 1 (.one (.ptr 0 0)::jk 2 (vb b::vb (aBI r)::jk 90 []))),[.box r.c]⟩:=by
 unfold aBI;have hl:=aV7 r.ats;by_cases c1:r.fl=0;rw[decide_eq_true c1];by_cases c2:r.ats=[];have d2:(r.ats.length:Int)=0:=hl.symm ▸ c2;rw[decide_eq_true c2];by_cases c3:r.li=0;rw[decide_eq_true c3];by_cases c4:r.br=0/\r.bq=0;rw[decide_eq_true c4];simp (disch:=omega) only[go_sem,h157c,tR,zL,Ka,oY,aXC,eq_true d2,eq_true c1,eq_true c3,eq_true c4.1,eq_true c4.2,aYb];rw[decide_eq_false c4];by_cases c5:r.br=0;have c6:¬ r.bq=0:=fun h=>c4 ⟨c5,h⟩
 simp (disch:=omega) only[go_sem,h157c,tR,zL,Ka,oY,aXC,eq_true d2,eq_true c1,eq_true c3,eq_true c5,c6,aYb,aYj];simp (disch:=omega) only[go_sem,h157c,tR,zL,Ka,oY,aXC,eq_true d2,eq_true c1,eq_true c3,c5,aYb,aYj];rw[decide_eq_false c3];simp (disch:=omega) only[go_sem,h157c,tR,zL,Ka,oY,aXC,eq_true d2,eq_true c1,c3,aYb,aYj];have d2:¬ (r.ats.length:Int)=0:=fun h=>c2 (hl ▸ h)
 rw[decide_eq_false c2];simp (disch:=omega) only[go_sem,h157c,tR,zL,Ka,oY,aXC,d2,eq_true c1,aYb,aYj];rw[decide_eq_false c1];simp (disch:=omega) only[go_sem,h157c,tR,zL,Ka,oY,c1,aYb,aYj]
set_option maxHeartbeats 4000000 in
theorem aFZ(r:cI)(hW:r.W):EV G (Tb (kD bb)) 157 [r.v] []=some (iiv (Vf r),[]):=by
 refine aA rfl ?_;have hln:=hW.ln;have e0:EC (EV G (Tb (kD bb))) G h157c ⟨(r.v::jk 95 []),[]⟩=EC (EV G (Tb (kD bb))) G (sB h157c) ⟨(r.v::.one (.ptr 0 0)::vi 0::vi 0::jk 92 []),[.box r.c]⟩:=aPn rfl (by simp (disch:=omega) only[go_sem,h157c,tR]);have e1:=Y0 (c:=sB h157c) (L:=[1,2]) rfl (aPo (G:=G) (bb:=bb) r);have e2:=Y0 (c:=sT (sB (sB h157c))) (L:=[1,2,0]) rfl (aPp (G:=G) (bb:=bb) r (N0 r));refine (congrArg (C8 _ _ _) (e0.trans (e1.trans e2))).trans ?_;have u:=qN (G:=G) (bb:=bb);have q1:=Ls (G:=G) (bb:=bb) r.br r.bq;have q2:=Si (G:=G) (bb:=bb) r;have q3:=Sh (G:=G) (bb:=bb);have q4:=up (aJ4 (G:=G) (bb:=bb) r.ats hW.at' (by omega));have q5:=aTP (G:=G) (bb:=bb) r (by omega);have q6:=Sj (G:=G) (bb:=bb) r.ats hW.at' (by omega);unfold Vf;have h0:hdE r=aS [un (N0 r) 2,I4 r.br r.bq,un (dU r.fl||aBI r) 3]:=rfl
 generalize N0 r=b1 at *;generalize aBI r=b2 at *;generalize I4 r.br r.bq=z at *;generalize gtI r=g at *;generalize dS r.ats=m at *;generalize tN r.ats=o at *;obtain⟨o1,o2⟩:=o;dsimp only at q4 ⊢;by_cases c1:hdE r=0;rw[if_neg (not_not_intro c1)];rw[c1] at h0;by_cases c2:o2=0;rw[if_neg (not_not_intro c2)];by_cases c3:0<=g
 ·rw[if_pos c3];cases hu:dU r.fl;all_goals rw[hu] at h0 q2
  all_goals simp only[aYK,aYt] at h0
  all_goals simp (disch:=omega) only[go_sem,h157c,tR,zL,Ka,u,q1,q2,q3,q4,q5,q6,<- h0,eq_true c2,aYK,aYt]
 ·rw[if_neg c3];by_cases c4:m<=440;all_goals cases hu:dU r.fl
  all_goals rw[hu] at h0 q2
  all_goals simp only[aYK,aYt] at h0
  all_goals simp (disch:=omega) only[go_sem,h157c,tR,zL,Ka,u,q1,q2,q3,q4,q5,q6,<- h0,eq_true c2,aYK,aYt]
 ·rw[if_pos c2];cases hu:dU r.fl;all_goals rw[hu] at h0 q2
  all_goals simp only[aYK,aYt] at h0
  all_goals simp (disch:=omega) only[go_sem,h157c,tR,zL,Ka,u,q1,q2,q3,q4,q5,q6,<- h0,c2,aYK,aYt]
 ·rw[if_pos c1];cases hu:dU r.fl;all_goals rw[hu] at h0 q2
  all_goals simp only[aYK,aYt] at h0
  all_goals simp (disch:=omega) only[go_sem,h157c,tR,zL,Ka,u,q1,q2,q3,<- h0,c1,aYK,aYt]
end
end Go.Proofs.YthepfneloomngaaGreatDoor
