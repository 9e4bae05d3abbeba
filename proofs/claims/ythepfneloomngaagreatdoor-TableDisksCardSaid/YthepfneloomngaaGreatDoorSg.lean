/- Which records are valid, by the program and by the reference. Conditions: as each theorem says. -/
import Derived.Test.YthepfneloomngaaGreatDoorSz
import Derived.Test.YthepfneloomngaaGreatDoorUn
namespace Go.Proofs.YthepfneloomngaaGreatDoor
set_option linter.unusedSimpArgs false
set_option linter.unusedVariables false
set_option maxRecDepth 4000
section
variable {G:aF} {bb:Bool}
theorem aKU{s:List Int}(h:(jQ s).2.2=0):s.length=512/\lY s/\∃ ps,Av ((iO s).drop 64)=some ps/\jI (iT (iO s) []) (68+ps.flatten.length) ps.flatten=iO s/\(iF ps).2=0/\gW (iT (iO s) (iF ps).1)=0/\jQ s=(iT (iO s) (iF ps).1,pP s,0):=by
 unfold jQ at h ⊢;by_cases c1:s.length≠512
 ·rw[if_pos c1] at h;exact absurd h (by decide)
 rw[if_neg c1] at h;by_cases c2:¬ lY s
 ·rw[if_pos c2] at h;exact absurd h (by decide)
 rw[if_neg c2] at h;refine⟨Classical.not_not.1 c1,Classical.not_not.1 c2, ?_⟩;cases hq:Av ((iO s).drop 64) with
 | none=>rw[hq] at h;exact absurd h (show ¬ (3:Int)=0 by decide)
 | some ps=>
  rw[hq] at h;refine⟨ps,rfl, ?_⟩;simp only at h;rw[if_neg c1,if_neg c2];unfold aEJ at h ⊢;by_cases d1:jI (iT (iO s) []) (68+ps.flatten.length) ps.flatten≠iO s
  ·rw[if_pos d1] at h;exact absurd h (by decide)
  rw[if_neg d1] at h;by_cases d2:(iF ps).2≠0
  ·rw[if_pos d2] at h;exact absurd h d2
  rw[if_neg d2] at h;by_cases d3:gW (iT (iO s) (iF ps).1)≠0
  ·rw[if_pos d3] at h;dsimp only at h;exact absurd h d3
  refine⟨Classical.byContradiction fun e=>d1 e,Classical.byContradiction fun e=>d2 e,Classical.byContradiction fun e=>d3 e, ?_⟩
  exact (if_neg d1).trans ((if_neg d2).trans (if_neg d3))
theorem L5{s:List Int}(h:(jQ s).2.2≠0):(jQ s).1=.nil/\(jQ s).2.1=0:=by
 unfold jQ at h ⊢;by_cases c1:s.length≠512
 ·rw[if_pos c1];exact⟨rfl,rfl⟩
 rw[if_neg c1] at h ⊢;by_cases c2:¬ lY s
 ·rw[if_pos c2];exact⟨rfl,rfl⟩
 rw[if_neg c2] at h ⊢;cases hq:Av ((iO s).drop 64) with
 | none=>exact⟨rfl,rfl⟩
 | some ps=>
  rw[hq] at h;simp only at h ⊢;unfold aEJ at h ⊢;by_cases d1:jI (iT (iO s) []) (68+ps.flatten.length) ps.flatten≠iO s
  ·rw[if_pos d1];exact⟨rfl,rfl⟩
  rw[if_neg d1] at h ⊢;by_cases d2:(iF ps).2≠0
  ·rw[if_pos d2];exact⟨rfl,rfl⟩
  rw[if_neg d2] at h ⊢;by_cases d3:gW (iT (iO s) (iF ps).1)≠0
  ·rw[if_pos d3];exact⟨rfl,rfl⟩
  rw[if_neg d3] at h;exact absurd rfl h
theorem aEN{s:List Int}(hs:s.length=512)(hB:aL s){ps:List (List Int)}(h:Av ((iO s).drop 64)=some ps):(∀ p∈ps,aL p/\p.length<=1000/\24<=p.length)/\ps.flatten.length<=444/\ps.length<=18/\aL ps.flatten:=by
 obtain⟨g1,g2,g3,g4⟩:=W4 _ _ ps h;have hl:((iO s).drop 64).length=448:=by rw[aWt,Ap hs]
 have hb:aL ((iO s).drop 64):=fun x hx=>P6 hs hB x (aWT hx)
 have hf:aL ps.flatten:=by
  rw[<- g2];exact fun x hx=>hb x (aWF hx)
 have hlen:∀ qs:List (List Int),(∀ p∈qs,24<=p.length)->24 * qs.length<=qs.flatten.length:=by
  intro qs
  induction qs with
  | nil=>intro _;exact aWj _
  | cons p qs ih=>
   intro h;have h1:=h p aWy;have h2:=ih (fun q hq=>h q (aWG _ hq))
   rw[aXc,aWg,aWh];omega
 have h24:=hlen ps (fun p hp=>(g4 p hp).1)
 refine⟨fun p hp=>⟨fun x hx=>hf x (List.mem_flatten.2 ⟨p,hp,hx⟩), ?_,(g4 p hp).1⟩,by omega,by omega,hf⟩
 have:=(g4 p hp).2;omega
theorem aR3{s:List Int}(hs:s.length=512)(hB:aL s){ps:List (List Int)}(h:Av ((iO s).drop 64)=some ps):(iT (iO s) (iF ps).1).W:=by
 obtain⟨h1,h2,h3,h4⟩:=aEN hs hB h;obtain⟨d1,d2,d3,d4⟩:=W7 ps (fun p hp=>⟨(h1 p hp).1,(h1 p hp).2.1⟩)
 exact⟨d2,by show (iF ps).1.length<=900;omega⟩
theorem aR4{s:List Int}(hB:aL s):(jQ s).1.W:=by
 by_cases h:(jQ s).2.2=0
 ·obtain⟨hs,hw,ps,e1,e2,e3,e4,e5⟩:=aKU h;rw[e5];exact aR3 hs hB e1
 ·rw[(L5 h).1];exact cR.nil_W
theorem aNN{s:List Int}(hB:aL s):(jQ s).2.2≠0/\(jQ s).2.1=0/\(jQ s).1=.nil\/(jQ s).2.2=0/\gW (jQ s).1=0/\1<=(jQ s).2.1/\(jQ s).2.1<=65535:=by
 by_cases h:(jQ s).2.2=0
 ·obtain⟨hs,hw,ps,e1,e2,e3,e4,e5⟩:=aKU h;refine .inr ⟨h, ?_⟩;rw[e5];exact⟨e4,aNI hs hB hw⟩
 ·exact .inl ⟨h,(L5 h).2,(L5 h).1⟩
theorem Ay{r:cR}(hW:r.W)(h:gW r=0){u:Int}(hu:1<=u/\u<=65535):jQ (mP r u)=(r,u,0)/\(mP r u).length=512/\aL (mP r u):=by
 have hO:=Aw h;have hla:=P2 hO;have hv:∀ a∈r.ats,a.W/\gU a=0:=fun a ha=>⟨hW.at' a ha,hO.errs.1 a ha⟩
 have hba:aL (iR r):=Jv (fun p hp=>by
  obtain⟨a,ha,rfl⟩:=List.mem_map.1 hp;exact (L2 (hv a ha).1 (hv a ha).2).1)
 have hl:=W0 r (68+(iR r).length) (iR r) (by omega);obtain⟨q1,q2,q3⟩:=aEc (n:=u) hl (fun j a c=>aKT _ _ _ j a c) hu
 have q4:(mP r u).length=512:=tD hl 8 (by omega);have hB:aL (mP r u):=by
  intro x hx;obtain⟨j,hj,rfl⟩:=List.mem_iff_getElem.1 hx;have e:(mP r u)[j]=(mP r u).getD j 0:=by simp[aWn,hj]
  have hb:=Hk r (68+(iR r).length) (iR r) hba;rw[e];unfold mP;rw[aEb hl 8 (by omega)];unfold ptG
  repeat' split
  all_goals first | omega | exact G1 hb _
 refine⟨?_,q4,hB⟩;have hb:iR r=(r.ats.map fG).flatten:=rfl;unfold jQ;have g1:iO (mP r u)=jI r (68+(iR r).length) (iR r):=q1;have g3:pP (mP r u)=u:=q3;have g2:lY (mP r u):=q2;rw[if_neg (not_not_intro q4),if_neg (not_not_intro g2),g1,aEM,hb,P4 _ _ hv];simp only;unfold aEJ;rw[g1,g3,P3 hO,P3 hO,P5 _ hv,<- hb];rw[if_neg (not_not_intro (by rfl))];simp only;have e:Tr r r.ats=r:=rfl;rw[e,h];rw[if_neg (fun c=>c rfl),if_neg (fun c=>c rfl)]
theorem sI{p:aK->Bool}{l:List aK}:lI p l < 0↔∀ a∈l,p a=false:=by
 unfold lI;obtain⟨hk,hp,hn⟩:=bZ (fun k=>p (l.getD k aK.nil)=true) l.length
 generalize ix (fun k=>p (l.getD k aK.nil)=true) l.length=m at *
 constructor
 ·intro h a ha;split at h
  ·rename_i e;obtain⟨j,hj,rfl⟩:=List.mem_iff_getElem.1 ha;have:=hn j (by omega);rw[gZ _ _ hj] at this;simpa using this
  ·omega
 ·intro h;rcases hp with e | ⟨hm,hp⟩
  ·rw[if_pos e];decide
  ·rw[gZ _ _ hm] at hp;rw[h _ (aWq hm)] at hp;cases hp
theorem W9{r:cR}{a:aK}(hO:r.Ok)(ha:gU (bP a r.nx)=0)(hl:r.ats.length < 32):Pu (r.ats++[bP a r.nx])=0:=by
 have hg:=sI.1 hO.gt;refine aIV (by rw[aWg,List.length_singleton];omega) ((At _).2 ⟨fun b hb=>?_, ?_⟩)
 ·rcases aXy.1 hb with hb | hb
  ·exact hO.errs.1 b hb
  ·rw[List.mem_singleton.1 hb];exact ha
 ·rw[aWW,List.nodup_append];refine⟨hO.errs.2,by simp,fun x hx y hy=>?_⟩
  obtain⟨b,hb,rfl⟩:=List.mem_map.1 hx;have hy':y=r.nx:=by simpa[bP] using hy
  have:=hg b hb;simp only[decide_eq_false_iff_not] at this;omega
end
section
variable {G:aF} {bb:Bool}
theorem Cm.le{α:Type}{P:α->Prop}{c:α->α->Int}(h:Cm P c){a b d:α}(ha:P a)(hb:P b)(hd:P d)(x:c a b<=0)(y:c b d<=0):c a d<=0:=by
 by_cases e1:c a b=0
 ·rw[h.eq a b d ha hb hd e1];exact y
 ·by_cases e2:c b d=0
  ·have:=(h.eq' hb hd ha e2).1.1 (by omega);omega
  ·have:=h.tr a b d ha hb hd (by omega) (by omega);omega
theorem aNO{α:Type}{P:α->Prop}{c:α->α->Int}(h:Cm P c){l:List α}(hl:∀ a∈l,P a)(ha:∀ k (hk:k+1 < l.length),c l[k] l[k+1]<=0):l.Pairwise fun a b=>c a b<=0:=by
 rw[aXR];intro i j hi hj hij;obtain⟨d,rfl⟩:∃ d,j=i+1+d:=⟨j - i - 1,by omega⟩
 induction d with
 | zero=>exact ha i hj
 | succ d ih=>
  have h1:=ih (by omega) (by omega);have h2:=ha (i+1+d) (by omega);exact h.le (hl _ (aWq _)) (hl _ (aWq _)) (hl _ (aWq _)) h1 h2
def Du(a b:aK):Int:=aQ [jC a.ty b.ty,tV a.nm b.nm,jC a.fi b.fi]
def aJb(a b:aK):Int:=Ih (fun a b:aK=>B7 a.ty b.ty) (Ih (fun a b:aK=>En (dO a.nm).toList (dO b.nm).toList) (fun a b:aK=>B7 a.fi b.fi)) a b
theorem aJc:Cm (fun _=>True) aJb:=
 (B8.map (fun a:aK=>a.ty) (fun _ _=>trivial)).lex ((Tj.map (fun a:aK=>(dO a.nm).toList) (fun _ _=>trivial)).lex (B8.map (fun a:aK=>a.fi) (fun _ _=>trivial)))
theorem P8(a b:Int):jC a b=B7 a b:=rfl
theorem aJd(a b:aK):aJb a b=Du a b:=by
 unfold aJb Du Ih;rw[P8,P8,As];simp only;by_cases h1:B7 a.ty b.ty=0
 ·rw[if_pos h1,h1,aX];by_cases h2:En (dO a.nm).toList (dO b.nm).toList=0
  ·rw[if_pos h2,h2,aX];by_cases h3:B7 a.fi b.fi=0
   ·rw[h3,aX];rfl
   ·rw[aZ _ _ h3]
  ·rw[if_neg h2,aZ _ _ h2]
 ·rw[if_neg h1,aZ _ _ h1]
theorem Xa:Cm (fun _=>True) Du:=by
 have e:Du=aJb:=by funext a b;exact (aJd a b).symm
 rw[e];exact aJc
theorem aEO{a b:aK}(h:iQ a b<=0):Du a b<=0:=by
 unfold iQ at h;unfold Du;by_cases h1:jC a.ty b.ty=0
 ·rw[h1,aX] at h ⊢;by_cases h2:tV a.nm b.nm=0
  ·rw[h2,aX] at h ⊢;by_cases h3:jC a.fi b.fi=0
   ·rw[h3,aX];exact Int.le_refl _
   ·rw[aZ _ _ h3] at h ⊢;exact h
  ·rw[aZ _ _ h2] at h ⊢;exact h
 ·rw[aZ _ _ h1] at h ⊢;exact h
theorem aKV{a b:Int}(h:B7 a b=0):a=b:=by
 unfold B7 at h;split at h
 ·omega
 ·split at h<;>omega
theorem aR5{a b:List Int}(ha:aL a)(hb:aL b)(h:tV a b=0):a=b:=by
 rw[As] at h;have h1:=aRS h;have h2:dO a=dO b:=by
  apply ByteArray.ext;apply Array.ext';have e:∀ l:List Int,(dO l).toList=(dO l).data.toList:=fun l=>ByteArray.toList_eq (dO l)
  rw[<- e,<- e,h1]
 rwa[gJ ha hb] at h2
theorem aEP{a b:aK}(ha:aL a.nm)(hb:aL b.nm):Du a b=0↔mN a b=true:=by
 rw[Lt];unfold Du;constructor
 ·intro h;obtain⟨h1,h2,h3⟩:=tF h;exact⟨aKV h1,aR5 ha hb h2,aKV h3⟩
 ·rintro⟨h1,h2,h3⟩;have s1:∀ x:Int,jC x x=0:=fun x=>B8.self trivial
  have s2:tV b.nm b.nm=0:=by rw[As];exact Tj.self trivial
  rw[h1,h2,h3,s1,s1,s2];rfl
theorem P9{a b:aK}(h:mN a b=true):mN b a=true:=by
 rw[Lt] at h ⊢;exact⟨h.1.symm,h.2.1.symm,h.2.2.symm⟩
theorem aNP{l:List aK}(h:(sF l).2=0):l.Pairwise fun a b=>iQ a b<=0:=
 aNO Wv (fun _ _=>trivial) (fun k hk=>(Ls (k:=k+1) (by omega) hk ((Hj h).2 _ hk)).2.1)
theorem Qa{l:List aK}(hW:∀ a∈l,a.W)(h:(sF l).2=0){i j:Nat}(hij:i < j)(hj:j < l.length)(hk:mN (l[i]'(by omega)) l[j]=true):l[j].ty=48:=by
 have hB:∀ k (hk:k < l.length),aL (l[k]).nm:=fun k hk=>(hW _ (aWq hk)).nm
 have hp:=aXR.1 (aNP h);by_cases e:i=j - 1
 ·subst e;exact (Ls (k:=j) (by omega) hj ((Hj h).2 _ hj)).2.2 hk
 ·have h1:=aEO (hp i (j - 1) (by omega) (by omega) (by omega));have h2:=aEO (hp (j - 1) j (by omega) hj (by omega));have h3:=(aEP (hB i (by omega)) (hB j hj)).2 hk;have h4:Du (l[j - 1]'(by omega)) l[j]=0:=by
   refine Classical.byContradiction fun q=>?_
   have h5:Du (l[j - 1]'(by omega)) l[j] < 0:=by omega
   have h6:Du (l[i]'(by omega)) l[j] < 0:=by
    by_cases e1:Du (l[i]'(by omega)) (l[j - 1]'(by omega))=0
    ·rw[Xa.eq _ _ l[j] trivial trivial trivial e1];exact h5
    ·exact Xa.tr _ _ _ trivial trivial trivial (by omega) h5
   omega
  exact (Ls (k:=j) (by omega) hj ((Hj h).2 _ hj)).2.2 ((aEP (hB _ _) (hB _ _)).1 h4)
theorem Tt{l m:List aK}(h:l.Perm m):eP l=eP m:=by
 unfold eP
 induction h with
 | nil=>rfl
 | cons x _ ih=>simp only[aWp,List.sum_cons,ih]
 | swap x y l=>simp only[aWp,List.sum_cons];omega
 | trans _ _ h1 h2=>exact h1.trans h2
theorem Jw(l:List aK)(a:aK):eP (l++[a])=eP l+(fG a).length:=by
 unfold eP;simp[aWW,List.sum_append]
structure Put (r:cR) (a:aK):Prop where
 ok:r.Ok
 us:fJ r.fl=true
 nx:r.nx < 65535
 ea:gU (bP a r.nx)=0
 hs:Ca r a=false
 ln:r.ats.length < 32
 nd:eP (nO r a).ats<=440
theorem Az{r:cR}{a b:aK}:b∈(nO r a).ats↔b∈r.ats\/b=bP a r.nx:=by
 show b∈dL (r.ats++[bP a r.nx])↔_;rw[Ha,aXy,List.mem_singleton]
theorem aJe{r:cR}{a:aK}(h:Put r a):(r.ats++[bP a r.nx]).length<=32/\∀ k,k < (r.ats++[bP a r.nx]).length->lU (r.ats++[bP a r.nx]) k=0:=aNB (W9 h.ok h.ea h.ln)
theorem aJf{r:cR}{a:aK}(hW:r.W)(haW:aL a.nm)(h:Put r a):(sF (nO r a).ats).2=0:=by
 obtain⟨hl,hs⟩:=aJe h;have hids:((nO r a).ats.map aK.id).Nodup:=((pS _).map aK.id).nodup_iff.2 ((At _).1 hs).2;show (sF (dL (r.ats++[bP a r.nx]))).2=0;rw[aEs hl hs,if_neg];intro hq;obtain⟨b1,b2,b3⟩:=bZ (fun k=>Ij (dL (r.ats++[bP a r.nx])) (k+1)) ((dL (r.ats++[bP a r.nx])).length - 1)
 generalize ix (fun k=>Ij (dL (r.ats++[bP a r.nx])) (k+1)) ((dL (r.ats++[bP a r.nx])).length - 1)=k at *
 rcases b2 with b2 | ⟨_,b2⟩
 ·omega
 ·obtain⟨_,hk,ht⟩:=b2;have hm:∀ b,b∈dL (r.ats++[bP a r.nx])↔b∈r.ats\/b=bP a r.nx:=fun b=>Az
  have hids':((dL (r.ats++[bP a r.nx])).map aK.id).Nodup:=hids;generalize dL (r.ats++[bP a r.nx])=m at *;rw[show k+1 - 1=k by omega,gZ _ k (by omega),gZ _ (k+1) (by omega)] at hk;rw[gZ _ (k+1) (by omega)] at ht;have hne:m[k].id≠m[k+1].id:=fun e=>by
   have:=aXR.1 hids' k (k+1) (by rw[aWf];omega) (by rw[aWf];omega) (by omega);rw[aW0,aW0] at this;exact this e
  have m1:=(hm m[k]).1 (aWq _);have m2:=(hm m[k+1]).1 (aWq _);have hno:∀ b∈r.ats,mN (bP a r.nx) b=true->b.ty≠48->False:=fun b hb hkb htb=>by
   have h1:=h.hs;unfold Ca at h1;have h2:(r.ats.any fun b=>mN a b)=true:=List.any_eq_true.2 ⟨b,hb,hkb⟩
   have h3:a.ty=b.ty:=(Lt.1 hkb).1;rw[h2,decide_eq_false (by omega)] at h1;cases h1
  have key:∀ y z:aK,mN y z=true->z.ty≠48->y.id≠z.id->(y∈r.ats\/y=bP a r.nx)->(z∈r.ats\/z=bP a r.nx)->False:=by
   intro y z hk ht hne m1 m2;have hty:y.ty=z.ty:=(Lt.1 hk).1;rcases m1 with m1 | m1
   ·rcases m2 with m2 | m2
    ·obtain⟨i,hi,rfl⟩:=List.mem_iff_getElem.1 m1;obtain⟨j,hj,rfl⟩:=List.mem_iff_getElem.1 m2;rcases Nat.lt_trichotomy i j with hij | hij | hij
     ·exact ht (Qa hW.at' h.ok.od hij hj hk)
     ·subst hij;exact hne rfl
     ·exact ht (hty.symm.trans (Qa hW.at' h.ok.od hij hi (P9 hk)))
    ·subst m2;exact hno y m1 (P9 hk) (by omega)
   ·subst m1;rcases m2 with m2 | m2
    ·exact hno z m2 hk ht
    ·subst m2;exact hne rfl
  exact key _ _ hk ht hne m1 m2
theorem Xb{r:cR}{a:aK}(hW:r.W)(haW:aL a.nm)(h:Put r a):gW (nO r a)=0:=by
 obtain⟨n1,n2,n3,n4,n5⟩:=h.ok.num;have hx:=h.nx;have hg:=sI.1 h.ok.gt;have h1:hdE (nO r a)=0:=by
  unfold hdE;have e1:L1 (nO r a)=true:=by
   show (decide (1<=r.sq/\r.sq<=65535)&&(decide (0<=r.li/\r.li<=65535)&&(decide (0<=r.fl/\r.fl<=3)&&(decide (0<=r.nx+1/\r.nx+1<=65535)&&decide (0<=r.ls/\r.ls<=2147483647)))))=true;rw[decide_eq_true n1,decide_eq_true n2,decide_eq_true n3,decide_eq_true (p:=0<=r.nx+1/\r.nx+1<=65535) ⟨by omega,by omega⟩,decide_eq_true n5];rfl
  have e2:Hh (nO r a).br (nO r a).bq=0:=h.ok.be;have e3:fJ (nO r a).fl=true:=h.us;rw[e1,e2,e3];rfl
 have h2:gtI (nO r a) < 0:=by
  refine sI.2 fun b hb=>?_
  show decide (r.nx+1<=b.id)=false;rw[decide_eq_false_iff_not];rcases Az.1 hb with hb | hb
  ·have:=hg b hb;rw[decide_eq_false_iff_not] at this;omega
  ·subst hb;show ¬ r.nx+1<=r.nx;omega
 unfold gW Tp;rw[if_neg (by rw[h1];decide),if_neg (by rw[aJf hW haW h];decide),if_neg (by omega),decide_eq_true h.nd];rfl
theorem Qb{r:cR}{a:aK}:eP (nO r a).ats=eP r.ats+(fG (bP a r.nx)).length:=by
 rw[<- Jw];exact Tt (pS _)
end
section
variable {G:aF} {bb:Bool}
theorem pU(n lo hi:Int):EV G (Tb (mE bb)) 184 [vi n,vi lo,vi hi] []=some (vb (decide (lo<=n/\n<=hi)),[]):=by
 refine aA rfl ?_;by_cases h:lo<=n
 all_goals simp (disch:=omega) only[go_sem,h184c]
 all_goals simp[h]
theorem pV(b:Bool)(e:Int):EV G (Tb (mE bb)) 183 [vb b,vi e] []=some (vi (un b e),[]):=by
 refine aA rfl ?_;cases b
 all_goals simp (disch:=omega) only[go_sem,h183c]
 all_goals rfl
theorem Qd(l:List Int)(hl:l.length<=1000):EV G (Tb (mE bb)) 182 [vl (el l)] []=some (vi (aQ l),[]):=by
 refine aA rfl ?_;simp (disch:=omega) only[go_sem,h182c,aWf];have round:∀ k (hk:k < l.length),¬ l.getD k 0≠0->K1 [5,0,0] 0 (EC (EV G (Tb (mE bb))) G h182l0 ⟨(jk 5 (vl (el l)::vi l.length::vi k::jk 7 [])),[]⟩)=some ⟨(jk 5 (vl (el l)::vi l.length::vi (k+1:Nat)::jk 7 [])),[]⟩:=fun k hk hz=>by
  rw[cY l k hk] at hz;simp (disch:=omega) only[go_sem,h182l0,aWf,Gc]
 rcases La (fun k=>l.getD k 0≠0) l.length with h | ⟨j,hj,h1,h2⟩
 ·rw[aU (fun k=>⟨(jk 5 (vl (el l)::vi l.length::vi k::jk 7 [])),[]⟩) l.length ?_ ?_]
  ·rw[fX l h];simp (disch:=omega) only[go_sem,h182l0]
  ·rfl
  ·exact fun k hk=>round k hk (h k hk)
 ·rw[aU (fun k=>⟨(jk 5 (vl (el l)::vi l.length::vi k::jk 7 [])),[]⟩) j ?_ ?_]
  ·rw[iY l j hj h2 h1];rw[cY l j hj] at h1;simp (disch:=omega) only[go_sem,h182l0,aWf,Gc]
  ·rfl
  ·exact fun k hk=>round k (by omega) (h2 k hk)
theorem Qf(a b:Int):EV G (Tb (mE bb)) 182 [vl [[ci a],[ci b]]] []=some (vi (aQ [a,b]),[]):=Qd [a,b] (by simp)
theorem Qg(a b c:Int):EV G (Tb (mE bb)) 182 [vl [[ci a],[ci b],[ci c]]] []=some (vi (aQ [a,b,c]),[]):=Qd [a,b,c] (by simp)
abbrev rfv(a b:Int):AV:=.agg [.dc (ci a),.dc (ci b)]
theorem aJg(x:Int):Su .i64 x 1=x % 2:=by
 have h:(BitVec.ofInt 64 x &&& BitVec.ofInt 64 1).toNat=(x % 2).toNat:=by
  rw[BitVec.toNat_and,show (BitVec.ofInt 64 1).toNat=1 from rfl,Nat.and_one_is_mod,BitVec.toNat_ofInt]
  omega
 show IntKind.i64.wrap (((BitVec.ofInt 64 x &&& BitVec.ofInt 64 1).toNat:Nat):Int)=_;rw[h,uE (by omega)];omega
theorem aEQ(a b:Int):EV G (Tb (mE bb)) 230 [rfv a b] []=some (vi (aI7 a b),[]):=by
 refine aA rfl ?_;have q1:=pU (G:=G) (bb:=bb) a 0 95;have q2:=pU (G:=G) (bb:=bb) b 1 65535;have u:=fun c=>pV (G:=G) (bb:=bb) c 2
 unfold aI7;by_cases c1:0<=a/\a<=95
 ·rw[decide_eq_true c1] at q1;by_cases c2:1<=b/\b<=65535
  ·rw[decide_eq_true c2] at q2;rw[if_pos ⟨c1,c2⟩];simp (disch:=omega) only[go_sem,h230c,q1,q2,u,fY]
  ·rw[decide_eq_false c2] at q2;rw[if_neg (fun h=>c2 h.2)]
   simp (disch:=omega) only[go_sem,h230c,q1,q2,u,gH]
 ·rw[decide_eq_false c1] at q1;rw[if_neg (fun h=>c1 h.1)]
  simp (disch:=omega) only[go_sem,h230c,q1,u,gH]
theorem Jx(a b:Int):EV G (Tb (mE bb)) 185 [rfv a b] []=some (vi (Hh a b),[]):=by
 refine aA rfl ?_;have q:=aEQ (G:=G) (bb:=bb) a b;unfold Hh;by_cases c1:a=0
 ·by_cases c2:b=0
  ·rw[if_pos ⟨c1,c2⟩];simp (disch:=omega) only[go_sem,h185c,q,eq_true c1,eq_true c2]
  ·rw[if_neg (fun h=>c2 h.2)]
   simp (disch:=omega) only[go_sem,h185c,q,eq_true c1,c2]
 ·rw[if_neg (fun h=>c1 h.1)]
  simp (disch:=omega) only[go_sem,h185c,q,c1]
theorem Qh(r:cR):EV G (Tb (mE bb)) 187 [r.v] []=some (vb (fJ r.fl),[]):=by
 refine aA rfl ?_;unfold fJ;by_cases c:r.fl % 2=1
 ·have d:¬ r.fl % 2=0:=by omega
  simp (disch:=omega) only[go_sem,h187c,aJg,d,decide_eq_true c]
 ·have d:r.fl % 2=0:=by omega
  simp (disch:=omega) only[go_sem,h187c,aJg,eq_true d,decide_eq_false c]
theorem Tu(l:List aK)(k:Nat)(hk:k < l.length):eP (l.take (k+1))=eP (l.take k)+(fG l[k]).length:=by
 rw[aXe hk,Jw]
theorem Qi(l:List aK)(hW:∀ a∈l,a.W):0<=eP l/\eP l<=440 * l.length:=by
 induction l with
 | nil=>exact⟨Int.le_refl _,Int.le_refl _⟩
 | cons a l ih=>
  have h1:=ih (fun b hb=>hW b (aWG _ hb))
  have h2:=sD (hW a aWy);unfold eP at h1 ⊢;simp only[aWp,List.sum_cons,aWh];omega
theorem aKW{l:List aK}(hW:∀ a∈l,a.W)(k:Nat):∀ a∈l.take k,a.W:=fun a ha=>hW a (aWF ha)
theorem Qj(l:List aK)(hW:∀ a∈l,a.W)(hl:l.length<=1000):EV G (Tb (mE bb)) 192 [vl (l.map aK.e)] []=some (vi (eP l),[]):=by
 refine aA rfl ?_;simp (disch:=omega) only[go_sem,h192c,aWf];rw[aU (fun k=>⟨(jk 3 (vi (eP (l.take k))::jk 4 (vl (l.map aK.e)::vi l.length::vi k::jk 13 []))),[]⟩) l.length ?_ ?_]
 ·simp (disch:=omega) only[go_sem,h192l0,aWY]
 ·rfl
 ·intro k hk;have q:=up (aAu (G:=G) (bb:=bb) l[k] (hW _ (aWq hk)));have h2:=sD (hW _ (aWq hk));have h3:=Qi (l.take k) (aKW hW k);rw[aWm] at h3;have h4:eP (l.take k)<=440000:=by omega
  have h5:=h3.1;clear h3;rw[Tu l k hk];generalize eP (l.take k)=z at *;simp (disch:=omega) only[go_sem,h192l0,aWf,ixA,aK.e,q]
attribute [go_sem] aKA aWi
end
section
variable {G:aF} {bb:Bool}
theorem nP(J:List Nat):∀ ds:List DC,Aa J (ds.map aR.dc)=true
 | []=>rfl
 | d::ds=>by rw[aWp,Aa,nP J ds];rfl
theorem nQ:∀ ds:List DC,idsL (ds.map aR.dc)=[]
 | []=>rfl
 | d::ds=>by rw[aWp,idsL,nQ ds];rfl
theorem nR(f:Nat->Nat):∀ ds:List DC,List.map (iV f) (ds.map aR.dc)=ds.map aR.dc
 | []=>rfl
 | d::ds=>by rw[aWp,aWp,nR f ds];rfl
theorem nS(m:Nat):∀ ds:List DC,Ic m (ds.map aR.dc)=ds.map aR.dc
 | []=>rfl
 | d::ds=>by rw[aWp,Ic,nS m ds];rfl
theorem kS(f:Nat->Bool):∀ ds:List DC,List.map (cE f) (ds.map aR.dc)=ds.map aR.dc
 | []=>rfl
 | d::ds=>by rw[aWp,aWp,kS f ds];rfl
theorem aER(fn:Nat)(ds:List DC)(p:aK->Bool)(l:List aK)(hl:l.length<=1000000)(hq:∀ a∈l,EV G (Tb (mE bb)) fn [a.v,.one (.ptr 0 0)] [.box (ds.map aR.dc)]=some (vb (p a),[.box (ds.map aR.dc)])):
  EV G (Tb (mE bb)) 150 [vl (l.map aK.e),.one (.fn fn [.ptr 0 0])] [.box (ds.map aR.dc)]=some (vi (lI p l),[.box (ds.map aR.dc)]):=by
 refine aA rfl ?_;simp (disch:=omega) only[go_sem,h150c,aWf,nP,nQ,nR,nS,kS];unfold lI;rw[jH (fun k=>⟨(vl (l.map aK.e)::.one (.fn fn [.ptr 0 0])::jk 5 (vi l.length::vi k::jk 10 [])),[.box (ds.map aR.dc)]⟩) (fun k=>p (l.getD k aK.nil)=true) l.length ?_ ?_]
 rotate_left
 ·rfl
 ·intro k hk hn;have h3:=hn k (aWj _);rw[gZ l k hk] at h3;have h4:p l[k]=false:=by simpa using h3
  have q:=hq l[k] (aWq hk);rw[h4] at q;simp (disch:=omega) only[go_sem,h150l0,aWf,ixA,aK.e,q,nP,nQ,nR,nS,kS]
 obtain⟨hk,hp,hn⟩:=bZ (fun k=>p (l.getD k aK.nil)=true) l.length
 generalize ix (fun k=>p (l.getD k aK.nil)=true) l.length=k at *
 rcases hp with rfl | ⟨hk',hp⟩
 ·rw[if_pos rfl];simp (disch:=omega) only[go_sem,h150l0,aWf,nP,nQ,nR,nS,kS]
 ·rw[if_neg (by omega)];rw[gZ l k hk'] at hp;have q:=hq l[k] (aWq hk');rw[hp] at q;simp (disch:=omega) only[go_sem,h150l0,aWf,ixA,aK.e,q,nP,nQ,nR,nS,kS]
theorem aNR(fn:Nat)(ds:List DC)(p:aK->Bool)(l:List aK)(hl:l.length<=1000000)(hq:∀ a∈l,EV G (Tb (mE bb)) fn [a.v,.one (.ptr 0 0)] [.box (ds.map aR.dc)]=some (vb (p a),[.box (ds.map aR.dc)])):
  EV G (Tb (mE bb)) 239 [vl (l.map aK.e),.one (.fn fn [.ptr 0 0])] [.box (ds.map aR.dc)]=some (vb (l.any p),[.box (ds.map aR.dc)]):=by
 refine aA rfl ?_;have q:=aER (G:=G) (bb:=bb) fn ds p l hl hq;rw[<- Po];simp (disch:=omega) only[go_sem,h239c,q,nP,nQ,nR,nS,kS]
abbrev cR.d(r:cR):List DC:=[ci r.sq,ci r.li,ci r.fl,ci r.br,ci r.bq,ci r.nx,ci r.ls,.slc (r.ats.map aK.e)]
theorem aR6(r:cR)(a:aK):EV G (Tb (mE bb)) 206 [a.v,.one (.ptr 0 0)] [.box r.c]=some (vb (decide (r.nx<=a.id)),[.box r.c]):=by
 refine aA rfl ?_;simp (disch:=omega) only[go_sem,h206c]
theorem aR7(r:cR)(hl:r.ats.length<=1000000):EV G (Tb (mE bb)) 150 [vl (r.ats.map aK.e),.one (.fn 206 [.ptr 0 0])] [.box r.c]=some (vi (gtI r),[.box r.c]):=
 aER 206 r.d (fun a=>decide (r.nx<=a.id)) r.ats hl (fun a _=>aR6 r a)
def sA:HC->HC
 | .seq a _=>a
 | c=>c
def sB:HC->HC
 | .seq _ b=>b
 | c=>c
theorem sJ{a b:HC}:sA (.seq a b)=a:=rfl
theorem tZ{a b:HC}:sB (.seq a b)=b:=rfl
def sT:HC->HC
 | .trm _ a=>a
 | c=>c
theorem Il{L:List Nat}{a:HC}:sT (.trm L a)=a:=rfl
def aJh(L:List Nat):Option (Exit × AS)->Option AS
 | some (.normal,s)=>some (jL L s.hp.length s)
 | _=>none
theorem nU{L:List Nat}{s:AS}:aJh L (some (.normal,s))=some (jL L s.hp.length s):=rfl
theorem aNS{call:aO}{st st':AS}{c:HC}(hs:c=.seq (sA c) (sB c))(h:EC call G (sA c) st=some (.normal,st')):EC call G c st=EC call G (sB c) st':=by
 rw[hs,Sq];simp only[sJ,tZ];rw[h];rfl
theorem Xc{call:aO}{st st':AS}{c:HC}{L:List Nat}(hs:c=.seq (sA c) (.trm L (sT (sB c))))(h:aJh L (EC call G (sA c) st)=some st'):EC call G c st=EC call G (sT (sB c)) st':=by
 generalize sA c=a at hs h;generalize sT (sB c)=b at hs;subst hs;rw[Sq];cases e:EC call G a st with
 | none=>rw[e] at h;cases h
 | some q=>
  obtain⟨x,s⟩:=q;cases x with
  | normal=>
   rw[e] at h;injection h with h
   rw[aKr,aCF,h]
  | _=>rw[e] at h;cases h
theorem aUE(l:List aK):((l.length:Int)=0)=(l=[]):=by
 apply propext;rw[<- List.length_eq_zero_iff];omega
theorem aNT(r:cR):aJh [1,2] (EC (EV G (Tb (mE bb))) G (sA (sB h157c)) ⟨(r.v::.one (.ptr 0 0)::vi 0::vi 0::jk 92 []),[.box r.c]⟩)=some ⟨(jk 1 (.one (.ptr 0 0)::jk 2 (vb (L1 r)::jk 91 []))),[.box r.c]⟩:=by
 have w:=pU (G:=G) (bb:=bb);unfold L1;by_cases c1:1<=r.sq/\r.sq<=65535
 ·rw[decide_eq_true c1];by_cases c2:0<=r.li/\r.li<=65535
  ·rw[decide_eq_true c2];by_cases c3:0<=r.fl/\r.fl<=3
   ·rw[decide_eq_true c3];by_cases c4:0<=r.nx/\r.nx<=65535
    ·rw[decide_eq_true c4];simp (disch:=omega) only[go_sem,h157c,sJ,tZ,nU,w,aWN]
    ·rw[decide_eq_false c4];simp (disch:=omega) only[go_sem,h157c,sJ,tZ,nU,w,aWN,aWU]
   ·rw[decide_eq_false c3];simp (disch:=omega) only[go_sem,h157c,sJ,tZ,nU,w,aWN,aWU]
  ·rw[decide_eq_false c2];simp (disch:=omega) only[go_sem,h157c,sJ,tZ,nU,w,aWN,aWU]
 ·rw[decide_eq_false c1];simp (disch:=omega) only[go_sem,h157c,sJ,tZ,nU,w,aWN,aWU]
theorem aNU(r:cR)(b:Bool):aJh [1,2,0] (EC (EV G (Tb (mE bb))) G (sA (sT (sB (sB h157c)))) ⟨(jk 1 (.one (.ptr 0 0)::jk 2 (vb b::jk 91 []))),[.box r.c]⟩)=some ⟨(jk 1 (.one (.ptr 0 0)::jk 2 (vb b::vb (aAC r)::jk 90 []))),[.box r.c]⟩:=by
 unfold aAC;have hl:=aUE r.ats;by_cases c1:r.fl=0
 ·rw[decide_eq_true c1];by_cases c2:r.ats=[]
  ·have d2:(r.ats.length:Int)=0:=hl.symm ▸ c2;rw[decide_eq_true c2];by_cases c3:r.li=0
   ·rw[decide_eq_true c3];by_cases c4:r.br=0/\r.bq=0
    ·rw[decide_eq_true c4];simp (disch:=omega) only[go_sem,h157c,sJ,tZ,Il,nU,aWf,eq_true d2,eq_true c1,eq_true c3,eq_true c4.1,eq_true c4.2,aWN]
    ·rw[decide_eq_false c4];by_cases c5:r.br=0
     ·have c6:¬ r.bq=0:=fun h=>c4 ⟨c5,h⟩
      simp (disch:=omega) only[go_sem,h157c,sJ,tZ,Il,nU,aWf,eq_true d2,eq_true c1,eq_true c3,eq_true c5,c6,aWN,aWU]
     ·simp (disch:=omega) only[go_sem,h157c,sJ,tZ,Il,nU,aWf,eq_true d2,eq_true c1,eq_true c3,c5,aWN,aWU]
   ·rw[decide_eq_false c3];simp (disch:=omega) only[go_sem,h157c,sJ,tZ,Il,nU,aWf,eq_true d2,eq_true c1,c3,aWN,aWU]
  ·have d2:¬ (r.ats.length:Int)=0:=fun h=>c2 (hl ▸ h)
   rw[decide_eq_false c2];simp (disch:=omega) only[go_sem,h157c,sJ,tZ,Il,nU,aWf,d2,eq_true c1,aWN,aWU]
 ·rw[decide_eq_false c1];simp (disch:=omega) only[go_sem,h157c,sJ,tZ,Il,nU,c1,aWN,aWU]
set_option maxHeartbeats 4000000 in
theorem aES(r:cR)(hW:r.W):EV G (Tb (mE bb)) 157 [r.v] []=some (iiv (Tp r),[]):=by
 refine aA rfl ?_;have hln:=hW.ln;have e0:EC (EV G (Tb (mE bb))) G h157c ⟨(r.v::jk 95 []),[]⟩=EC (EV G (Tb (mE bb))) G (sB h157c) ⟨(r.v::.one (.ptr 0 0)::vi 0::vi 0::jk 92 []),[.box r.c]⟩:=aNS rfl (by simp (disch:=omega) only[go_sem,h157c,sJ]);have e1:=Xc (c:=sB h157c) (L:=[1,2]) rfl (aNT (G:=G) (bb:=bb) r);have e2:=Xc (c:=sT (sB (sB h157c))) (L:=[1,2,0]) rfl (aNU (G:=G) (bb:=bb) r (L1 r));refine (congrArg (Br _ _ _) (e0.trans (e1.trans e2))).trans ?_;have u:=pV (G:=G) (bb:=bb);have q1:=Jx (G:=G) (bb:=bb) r.br r.bq;have q2:=Qh (G:=G) (bb:=bb) r;have q3:=Qg (G:=G) (bb:=bb);have q4:=up (aIR (G:=G) (bb:=bb) r.ats hW.at' (by omega));have q5:=aR7 (G:=G) (bb:=bb) r (by omega);have q6:=Qj (G:=G) (bb:=bb) r.ats hW.at' (by omega);unfold Tp;have h0:hdE r=aQ [un (L1 r) 2,Hh r.br r.bq,un (fJ r.fl||aAC r) 3]:=rfl
 generalize L1 r=b1 at *;generalize aAC r=b2 at *;generalize Hh r.br r.bq=z at *;generalize gtI r=g at *;generalize eP r.ats=m at *;generalize sF r.ats=o at *;obtain⟨o1,o2⟩:=o;dsimp only at q4 ⊢;by_cases c1:hdE r=0
 ·rw[if_neg (not_not_intro c1)];rw[c1] at h0;by_cases c2:o2=0
  ·rw[if_neg (not_not_intro c2)];by_cases c3:0<=g
   ·rw[if_pos c3];cases hu:fJ r.fl
    all_goals rw[hu] at h0 q2
    all_goals simp only[aXj,aW4] at h0
    all_goals simp (disch:=omega) only[go_sem,h157c,sJ,tZ,Il,u,q1,q2,q3,q4,q5,q6,<- h0,eq_true c2,aXj,aW4]
   ·rw[if_neg c3];by_cases c4:m<=440
    all_goals cases hu:fJ r.fl
    all_goals rw[hu] at h0 q2
    all_goals simp only[aXj,aW4] at h0
    all_goals simp (disch:=omega) only[go_sem,h157c,sJ,tZ,Il,u,q1,q2,q3,q4,q5,q6,<- h0,eq_true c2,aXj,aW4]
  ·rw[if_pos c2];cases hu:fJ r.fl
   all_goals rw[hu] at h0 q2
   all_goals simp only[aXj,aW4] at h0
   all_goals simp (disch:=omega) only[go_sem,h157c,sJ,tZ,Il,u,q1,q2,q3,q4,q5,q6,<- h0,c2,aXj,aW4]
 ·rw[if_pos c1];cases hu:fJ r.fl
  all_goals rw[hu] at h0 q2
  all_goals simp only[aXj,aW4] at h0
  all_goals simp (disch:=omega) only[go_sem,h157c,sJ,tZ,Il,u,q1,q2,q3,<- h0,c1,aXj,aW4]
end
end Go.Proofs.YthepfneloomngaaGreatDoor
