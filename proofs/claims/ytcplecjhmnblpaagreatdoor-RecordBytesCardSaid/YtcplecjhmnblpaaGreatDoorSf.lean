/- Small contracts of chapter 9; which records are valid, by the program. Conditions: as each theorem says. -/
import Derived.Test.YtcplecjhmnblpaaGreatDoorSc
import Derived.Test.YtcplecjhmnblpaaGreatDoorUy
namespace Go.Proofs.YtcplecjhmnblpaaGreatDoor
set_option linter.unusedSimpArgs false
set_option linter.unusedVariables false
set_option maxRecDepth 4000
section
variable {G:aH} {bb:Bool}
theorem aM0{s:List Int}(h:(fG s).2.2=0):s.length=512/\eP s/\∃ ps,sD ((dN s).drop 64)=some ps/\gS (dA (dN s) []) (68+ps.flatten.length) ps.flatten=dN s/\(gO ps).2=0/\dG (dA (dN s) (gO ps).1)=0/\fG s=(dA (dN s) (gO ps).1,dU s,0):=by
 unfold fG at h ⊢;by_cases c1:s.length≠512
 ·rw[if_pos c1] at h;exact absurd h (by decide)
 rw[if_neg c1] at h;by_cases c2:¬ eP s
 ·rw[if_pos c2] at h;exact absurd h (by decide)
 rw[if_neg c2] at h;refine⟨Classical.not_not.1 c1,Classical.not_not.1 c2, ?_⟩;cases hq:sD ((dN s).drop 64) with
 | none=>rw[hq] at h;exact absurd h (show ¬ (3:Int)=0 by decide)
 | some ps=>
  rw[hq] at h;refine⟨ps,rfl, ?_⟩;simp only at h;rw[if_neg c1,if_neg c2];unfold Lj at h ⊢;by_cases d1:gS (dA (dN s) []) (68+ps.flatten.length) ps.flatten≠dN s
  ·rw[if_pos d1] at h;exact absurd h (by decide)
  rw[if_neg d1] at h;by_cases d2:(gO ps).2≠0
  ·rw[if_pos d2] at h;exact absurd h d2
  rw[if_neg d2] at h;by_cases d3:dG (dA (dN s) (gO ps).1)≠0
  ·rw[if_pos d3] at h;dsimp only at h;exact absurd h d3
  refine⟨Classical.byContradiction fun e=>d1 e,Classical.byContradiction fun e=>d2 e,Classical.byContradiction fun e=>d3 e, ?_⟩
  exact (if_neg d1).trans ((if_neg d2).trans (if_neg d3))
theorem R3{s:List Int}(h:(fG s).2.2≠0):(fG s).1=.nil/\(fG s).2.1=0:=by
 unfold fG at h ⊢;by_cases c1:s.length≠512
 ·rw[if_pos c1];exact⟨rfl,rfl⟩
 rw[if_neg c1] at h ⊢;by_cases c2:¬ eP s
 ·rw[if_pos c2];exact⟨rfl,rfl⟩
 rw[if_neg c2] at h ⊢;cases hq:sD ((dN s).drop 64) with
 | none=>exact⟨rfl,rfl⟩
 | some ps=>
  rw[hq] at h;simp only at h ⊢;unfold Lj at h ⊢;by_cases d1:gS (dA (dN s) []) (68+ps.flatten.length) ps.flatten≠dN s
  ·rw[if_pos d1];exact⟨rfl,rfl⟩
  rw[if_neg d1] at h ⊢;by_cases d2:(gO ps).2≠0
  ·rw[if_pos d2];exact⟨rfl,rfl⟩
  rw[if_neg d2] at h ⊢;by_cases d3:dG (dA (dN s) (gO ps).1)≠0
  ·rw[if_pos d3];exact⟨rfl,rfl⟩
  rw[if_neg d3] at h;exact absurd rfl h
theorem Oq{s:List Int}(hs:s.length=512)(hB:aM s){ps:List (List Int)}(h:sD ((dN s).drop 64)=some ps):(∀ p∈ps,aM p/\p.length<=1000/\24<=p.length)/\ps.flatten.length<=444/\ps.length<=18/\aM ps.flatten:=by
 obtain⟨g1,g2,g3,g4⟩:=Ht _ _ ps h;have hl:((dN s).drop 64).length=448:=by rw[aQr,nY hs]
 have hb:aM ((dN s).drop 64):=fun x hx=>C4 hs hB x (aQS hx)
 have hf:aM ps.flatten:=by
  rw[<- g2];exact fun x hx=>hb x (aQO hx)
 have hlen:∀ qs:List (List Int),(∀ p∈qs,24<=p.length)->24 * qs.length<=qs.flatten.length:=by
  intro qs
  induction qs with
  | nil=>intro _;exact aQf _
  | cons p qs ih=>
   intro h;have h1:=h p aQt;have h2:=ih (fun q hq=>h q (aQE _ hq))
   rw[aQ5,aQc,aQd];omega
 have h24:=hlen ps (fun p hp=>(g4 p hp).1)
 refine⟨fun p hp=>⟨fun x hx=>hf x (List.mem_flatten.2 ⟨p,hp,hx⟩), ?_,(g4 p hp).1⟩,by omega,by omega,hf⟩
 have:=(g4 p hp).2;omega
theorem aM1{s:List Int}(hs:s.length=512)(hB:aM s){ps:List (List Int)}(h:sD ((dN s).drop 64)=some ps):(dA (dN s) (gO ps).1).W:=by
 obtain⟨h1,h2,h3,h4⟩:=Oq hs hB h;obtain⟨d1,d2,d3,d4⟩:=R0 ps (fun p hp=>⟨(h1 p hp).1,(h1 p hp).2.1⟩)
 exact⟨d2,by show (gO ps).1.length<=900;omega⟩
theorem aKj{s:List Int}(hB:aM s):(fG s).1.W:=by
 by_cases h:(fG s).2.2=0
 ·obtain⟨hs,hw,ps,e1,e2,e3,e4,e5⟩:=aM0 h;rw[e5];exact aM1 hs hB e1
 ·rw[(R3 h).1];exact bZ.nil_W
theorem aHA{s:List Int}(hB:aM s)(h:(fG s).2.2=0):C2 (fG s).1 (fG s).2.1=(s,0):=by
 obtain⟨hs,hw,ps,e1,e2,e3,e4,e5⟩:=aM0 h;obtain⟨h1,h2,h3,h4⟩:=Oq hs hB e1;have hu:=Om hs hB hw;have hf:fF (dA (dN s) (gO ps).1)=ps.flatten:=by
  show ((gO ps).1.map eQ).flatten=ps.flatten;rw[((R0 ps (fun p hp=>⟨(h1 p hp).1,(h1 p hp).2.1⟩)).1 e3).1]
 rw[e5];unfold C2 Vr;simp only;rw[e4,decide_eq_true hu,eI];rw[if_neg (by decide)];unfold iO;rw[hf];have e:gS (dA (dN s) (gO ps).1) (68+ps.flatten.length) ps.flatten=dN s:=e2;rw[e,aBw hs hB hw]
theorem C5{r:bZ}(hW:r.W)(h:dG r=0){u:Int}(hu:1<=u/\u<=65535):fG (iO r u)=(r,u,0)/\(iO r u).length=512/\aM (iO r u):=by
 have hO:=kX h;have hla:=wN hO;have hv:∀ a∈r.ats,a.W/\hZ a=0:=fun a ha=>⟨hW.at' a ha,hO.errs.1 a ha⟩
 have hba:aM (fF r):=Fg (fun p hp=>by
  obtain⟨a,ha,rfl⟩:=List.mem_map.1 hp;exact (Hr (hv a ha).1 (hv a ha).2).1)
 have hl:=qH r (68+(fF r).length) (fF r) (by omega);obtain⟨q1,q2,q3⟩:=C0 (n:=u) hl (fun j a c=>Rv _ _ _ j a c) hu
 have q4:(iO r u).length=512:=mN hl 8 (by omega);have hB:aM (iO r u):=by
  intro x hx;obtain⟨j,hj,rfl⟩:=List.mem_iff_getElem.1 hx;have e:(iO r u)[j]=(iO r u).getD j 0:=by simp[aQl,hj]
  have hb:=wO r (68+(fF r).length) (fF r) hba;rw[e];unfold iO;rw[Fe hl 8 (by omega)];unfold Wh
  repeat' split
  all_goals first | omega | exact nZ hb _
 refine⟨?_,q4,hB⟩;have hb:fF r=(r.ats.map eQ).flatten:=rfl;unfold fG;have g1:dN (iO r u)=gS r (68+(fF r).length) (fF r):=q1;have g3:dU (iO r u)=u:=q3;have g2:eP (iO r u):=q2;rw[if_neg (not_not_intro q4),if_neg (not_not_intro g2),g1,aBx,hb,Lm _ _ hv];simp only;unfold Lj;rw[g1,g3,Ll hO,Ll hO,Ln _ hv,<- hb];rw[if_neg (not_not_intro (by rfl))];simp only;have e:Ol r r.ats=r:=rfl;rw[e,h];rw[if_neg (fun c=>c rfl),if_neg (fun c=>c rfl)]
theorem wP{p:aE->Bool}{l:List aE}:Cd p l < 0↔∀ a∈l,p a=false:=by
 unfold Cd;obtain⟨hk,hp,hn⟩:=bW (fun k=>p (l.getD k aE.nil)=true) l.length
 generalize ix (fun k=>p (l.getD k aE.nil)=true) l.length=m at *
 constructor
 ·intro h a ha;split at h
  ·rename_i e;obtain⟨j,hj,rfl⟩:=List.mem_iff_getElem.1 ha;have:=hn j (by omega);rw[fE _ _ hj] at this;simpa using this
  ·omega
 ·intro h;rcases hp with e | ⟨hm,hp⟩
  ·rw[if_pos e];decide
  ·rw[fE _ _ hm] at hp;rw[h _ (aQm hm)] at hp;cases hp
theorem R4{r:bZ}{a:aE}(hO:r.Ok)(ha:hZ (dQ a r.nx)=0)(hl:r.ats.length < 32):Kz (r.ats++[dQ a r.nx])=0:=by
 have hg:=wP.1 hO.gt;refine aE8 (by rw[aQc,List.length_singleton];omega) ((sS _).2 ⟨fun b hb=>?_, ?_⟩)
 ·rcases List.mem_append.1 hb with hb | hb
  ·exact hO.errs.1 b hb
  ·rw[List.mem_singleton.1 hb];exact ha
 ·rw[aQL,List.nodup_append];refine⟨hO.errs.2,by simp,fun x hx y hy=>?_⟩
  obtain⟨b,hb,rfl⟩:=List.mem_map.1 hx;have hy':y=r.nx:=by simpa[dQ] using hy
  have:=hg b hb;simp only[decide_eq_false_iff_not] at this;omega
end
section
variable {G:aH} {bb:Bool}
theorem Cm.le{α:Type}{P:α->Prop}{c:α->α->Int}(h:Cm P c){a b d:α}(ha:P a)(hb:P b)(hd:P d)(x:c a b<=0)(y:c b d<=0):c a d<=0:=by
 by_cases e1:c a b=0
 ·rw[h.eq a b d ha hb hd e1];exact y
 ·by_cases e2:c b d=0
  ·have:=(h.eq' hb hd ha e2).1.1 (by omega);omega
  ·have:=h.tr a b d ha hb hd (by omega) (by omega);omega
theorem aJt{α:Type}{P:α->Prop}{c:α->α->Int}(h:Cm P c){l:List α}(hl:∀ a∈l,P a)(ha:∀ k (hk:k+1 < l.length),c l[k] l[k+1]<=0):l.Pairwise fun a b=>c a b<=0:=by
 rw[List.pairwise_iff_getElem];intro i j hi hj hij;obtain⟨d,rfl⟩:∃ d,j=i+1+d:=⟨j - i - 1,by omega⟩
 induction d with
 | zero=>exact ha i hj
 | succ d ih=>
  have h1:=ih (by omega) (by omega);have h2:=ha (i+1+d) (by omega);exact h.le (hl _ (aQm _)) (hl _ (aQm _)) (hl _ (aQm _)) h1 h2
def zG(a b:aE):Int:=aS [jG a.ty b.ty,tC a.nm b.nm,jG a.fi b.fi]
def aFu(a b:aE):Int:=Dx (fun a b:aE=>xN a.ty b.ty) (Dx (fun a b:aE=>Af (eG a.nm).toList (eG b.nm).toList) (fun a b:aE=>xN a.fi b.fi)) a b
theorem aFv:Cm (fun _=>True) aFu:=
 (xO.map (fun a:aE=>a.ty) (fun _ _=>trivial)).lex ((Nz.map (fun a:aE=>(eG a.nm).toList) (fun _ _=>trivial)).lex (xO.map (fun a:aE=>a.fi) (fun _ _=>trivial)))
theorem Lo(a b:Int):jG a b=xN a b:=rfl
theorem aFw(a b:aE):aFu a b=zG a b:=by
 unfold aFu zG Dx;rw[Lo,Lo,wD];simp only;by_cases h1:xN a.ty b.ty=0
 ·rw[if_pos h1,h1,aP];by_cases h2:Af (eG a.nm).toList (eG b.nm).toList=0
  ·rw[if_pos h2,h2,aP];by_cases h3:xN a.fi b.fi=0
   ·rw[h3,aP];rfl
   ·rw[aQ _ _ h3]
  ·rw[if_neg h2,aQ _ _ h2]
 ·rw[if_neg h1,aQ _ _ h1]
theorem R5:Cm (fun _=>True) zG:=by
 have e:zG=aFu:=by funext a b;exact (aFw a b).symm
 rw[e];exact aFv
theorem aBB{a b:aE}(h:iF a b<=0):zG a b<=0:=by
 unfold iF at h;unfold zG;by_cases h1:jG a.ty b.ty=0
 ·rw[h1,aP] at h ⊢;by_cases h2:tC a.nm b.nm=0
  ·rw[h2,aP] at h ⊢;by_cases h3:jG a.fi b.fi=0
   ·rw[h3,aP];exact Int.le_refl _
   ·rw[aQ _ _ h3] at h ⊢;exact h
  ·rw[aQ _ _ h2] at h ⊢;exact h
 ·rw[aQ _ _ h1] at h ⊢;exact h
theorem aGO{a b:Int}(h:xN a b=0):a=b:=by
 unfold xN at h;split at h
 ·omega
 ·split at h<;>omega
theorem aM2{a b:List Int}(ha:aM a)(hb:aM b)(h:tC a b=0):a=b:=by
 rw[wD] at h;have h1:=aMI h;have h2:eG a=eG b:=by
  apply ByteArray.ext;apply Array.ext';have e:∀ l:List Int,(eG l).toList=(eG l).data.toList:=fun l=>ByteArray.toList_eq (eG l)
  rw[<- e,<- e,h1]
 rwa[cW ha hb] at h2
theorem aBC{a b:aE}(ha:aM a.nm)(hb:aM b.nm):zG a b=0↔nL a b=true:=by
 rw[xM];unfold zG;constructor
 ·intro h;obtain⟨h1,h2,h3⟩:=sX h;exact⟨aGO h1,aM2 ha hb h2,aGO h3⟩
 ·rintro⟨h1,h2,h3⟩;have s1:∀ x:Int,jG x x=0:=fun x=>xO.self trivial
  have s2:tC b.nm b.nm=0:=by rw[wD];exact Nz.self trivial
  rw[h1,h2,h3,s1,s1,s2];rfl
theorem Lp{a b:aE}(h:nL a b=true):nL b a=true:=by
 rw[xM] at h ⊢;exact⟨h.1.symm,h.2.1.symm,h.2.2.symm⟩
theorem aJu{l:List aE}(h:(kV l).2=0):l.Pairwise fun a b=>iF a b<=0:=
 aJt Rf (fun _ _=>trivial) (fun k hk=>(Ce (k:=k+1) (by omega) hk ((C3 h).2 _ hk)).2.1)
theorem Lq{l:List aE}(hW:∀ a∈l,a.W)(h:(kV l).2=0){i j:Nat}(hij:i < j)(hj:j < l.length)(hk:nL (l[i]'(by omega)) l[j]=true):l[j].ty=48:=by
 have hB:∀ k (hk:k < l.length),aM (l[k]).nm:=fun k hk=>(hW _ (aQm hk)).nm
 have hp:=List.pairwise_iff_getElem.1 (aJu h);by_cases e:i=j - 1
 ·subst e;exact (Ce (k:=j) (by omega) hj ((C3 h).2 _ hj)).2.2 hk
 ·have h1:=aBB (hp i (j - 1) (by omega) (by omega) (by omega));have h2:=aBB (hp (j - 1) j (by omega) hj (by omega));have h3:=(aBC (hB i (by omega)) (hB j hj)).2 hk;have h4:zG (l[j - 1]'(by omega)) l[j]=0:=by
   refine Classical.byContradiction fun q=>?_
   have h5:zG (l[j - 1]'(by omega)) l[j] < 0:=by omega
   have h6:zG (l[i]'(by omega)) l[j] < 0:=by
    by_cases e1:zG (l[i]'(by omega)) (l[j - 1]'(by omega))=0
    ·rw[R5.eq _ _ l[j] trivial trivial trivial e1];exact h5
    ·exact R5.tr _ _ _ trivial trivial trivial (by omega) h5
   omega
  exact (Ce (k:=j) (by omega) hj ((C3 h).2 _ hj)).2.2 ((aBC (hB _ _) (hB _ _)).1 h4)
theorem Vs(l:List aE)(a:aE):dV (l++[a])=dV l+(eQ a).length:=by
 unfold dV;simp[aQL,List.sum_append]
structure Put (r:bZ) (a:aE):Prop where
 ok:r.Ok
 us:iC r.fl=true
 nx:r.nx < 65535
 ea:hZ (dQ a r.nx)=0
 hs:D1 r a=false
 ln:r.ats.length < 32
 nd:dV (qR r a).ats<=440
theorem aFx{r:bZ}{a:aE}(h:(Oj r a).2=0):Put r a/\Oj r a=(qR r a,0):=by
 unfold Oj at h ⊢;split at h
 ·rename_i c;exact absurd h c
 ·rename_i c;split at h
  ·rename_i d;exact absurd h d
  ·rename_i d;split at h
   ·rename_i g;rw[if_neg c,if_neg d,if_pos g];obtain⟨h1,h2,h3⟩:=sX (Classical.not_not.1 c);obtain⟨k1,k2,k3⟩:=sX (Classical.not_not.1 d);exact⟨⟨kX h1,Hq (by decide) h2,of_decide_eq_true (Hq (by decide) h3),k1,by simpa using Hq (by decide) k2,of_decide_eq_true (Hq (by decide) k3),g⟩,rfl⟩
   ·exact absurd h (by decide)
theorem R6{r:bZ}{a b:aE}:b∈(qR r a).ats↔b∈r.ats\/b=dQ a r.nx:=by
 show b∈dL (r.ats++[dQ a r.nx])↔_;rw[Ck,List.mem_append,List.mem_singleton]
theorem aFy{r:bZ}{a:aE}(h:Put r a):(r.ats++[dQ a r.nx]).length<=32/\∀ k,k < (r.ats++[dQ a r.nx]).length->jO (r.ats++[dQ a r.nx]) k=0:=aJh (R4 h.ok h.ea h.ln)
theorem aFz{r:bZ}{a:aE}(hW:r.W)(haW:aM a.nm)(h:Put r a):(kV (qR r a).ats).2=0:=by
 obtain⟨hl,hs⟩:=aFy h;have hids:((qR r a).ats.map aE.id).Nodup:=((sQ _).map aE.id).nodup_iff.2 ((sS _).1 hs).2;show (kV (dL (r.ats++[dQ a r.nx]))).2=0;rw[aA4 hl hs,if_neg];intro hq;obtain⟨b1,b2,b3⟩:=bW (fun k=>Dz (dL (r.ats++[dQ a r.nx])) (k+1)) ((dL (r.ats++[dQ a r.nx])).length - 1)
 generalize ix (fun k=>Dz (dL (r.ats++[dQ a r.nx])) (k+1)) ((dL (r.ats++[dQ a r.nx])).length - 1)=k at *
 rcases b2 with b2 | ⟨_,b2⟩
 ·omega
 ·obtain⟨_,hk,ht⟩:=b2;have hm:∀ b,b∈dL (r.ats++[dQ a r.nx])↔b∈r.ats\/b=dQ a r.nx:=fun b=>R6
  have hids':((dL (r.ats++[dQ a r.nx])).map aE.id).Nodup:=hids;generalize dL (r.ats++[dQ a r.nx])=m at *;rw[show k+1 - 1=k by omega,fE _ k (by omega),fE _ (k+1) (by omega)] at hk;rw[fE _ (k+1) (by omega)] at ht;have hne:m[k].id≠m[k+1].id:=fun e=>by
   have:=List.pairwise_iff_getElem.1 hids' k (k+1) (by rw[aQb];omega) (by rw[aQb];omega) (by omega);rw[aQw,aQw] at this;exact this e
  have m1:=(hm m[k]).1 (aQm _);have m2:=(hm m[k+1]).1 (aQm _);have hno:∀ b∈r.ats,nL (dQ a r.nx) b=true->b.ty≠48->False:=fun b hb hkb htb=>by
   have h1:=h.hs;unfold D1 at h1;have h2:(r.ats.any fun b=>nL a b)=true:=List.any_eq_true.2 ⟨b,hb,hkb⟩
   have h3:a.ty=b.ty:=(xM.1 hkb).1;rw[h2,decide_eq_false (by omega)] at h1;cases h1
  have key:∀ y z:aE,nL y z=true->z.ty≠48->y.id≠z.id->(y∈r.ats\/y=dQ a r.nx)->(z∈r.ats\/z=dQ a r.nx)->False:=by
   intro y z hk ht hne m1 m2;have hty:y.ty=z.ty:=(xM.1 hk).1;rcases m1 with m1 | m1
   ·rcases m2 with m2 | m2
    ·obtain⟨i,hi,rfl⟩:=List.mem_iff_getElem.1 m1;obtain⟨j,hj,rfl⟩:=List.mem_iff_getElem.1 m2;rcases Nat.lt_trichotomy i j with hij | hij | hij
     ·exact ht (Lq hW.at' h.ok.od hij hj hk)
     ·subst hij;exact hne rfl
     ·exact ht (hty.symm.trans (Lq hW.at' h.ok.od hij hi (Lp hk)))
    ·subst m2;exact hno y m1 (Lp hk) (by omega)
   ·subst m1;rcases m2 with m2 | m2
    ·exact hno z m2 hk ht
    ·subst m2;exact hne rfl
  exact key _ _ hk ht hne m1 m2
theorem aFA{r:bZ}{a:aE}(hW:r.W)(haW:aM a.nm)(h:Put r a):dG (qR r a)=0:=by
 obtain⟨n1,n2,n3,n4,n5⟩:=h.ok.num;have hx:=h.nx;have hg:=wP.1 h.ok.gt;have h1:Lh (qR r a)=0:=by
  unfold Lh;have e1:pO (qR r a)=true:=by
   show (decide (1<=r.sq/\r.sq<=65535)&&(decide (0<=r.li/\r.li<=65535)&&(decide (0<=r.fl/\r.fl<=3)&&(decide (0<=r.nx+1/\r.nx+1<=65535)&&decide (0<=r.ls/\r.ls<=2147483647)))))=true;rw[decide_eq_true n1,decide_eq_true n2,decide_eq_true n3,decide_eq_true (p:=0<=r.nx+1/\r.nx+1<=65535) ⟨by omega,by omega⟩,decide_eq_true n5];rfl
  have e2:sC (qR r a).br (qR r a).bq=0:=h.ok.be;have e3:iC (qR r a).fl=true:=h.us;rw[e1,e2,e3];rfl
 have h2:Ho (qR r a) < 0:=by
  refine wP.2 fun b hb=>?_
  show decide (r.nx+1<=b.id)=false;rw[decide_eq_false_iff_not];rcases R6.1 hb with hb | hb
  ·have:=hg b hb;rw[decide_eq_false_iff_not] at this;omega
  ·subst hb;show ¬ r.nx+1<=r.nx;omega
 unfold dG qQ;rw[if_neg (by rw[h1];decide),if_neg (by rw[aFz hW haW h];decide),if_neg (by omega),decide_eq_true h.nd];rfl
end
section
variable {G:aH} {bb:Bool}
theorem mY(n lo hi:Int):EV G (Tb (iM bb)) 58 [vi n,vi lo,vi hi] []=some (vb (decide (lo<=n/\n<=hi)),[]):=by
 refine aB rfl ?_;by_cases h:lo<=n
 all_goals simp (disch:=omega) only[go_sem,h58c]
 all_goals simp[h]
theorem mZ(n lo hi:Int):EV G (Tb (iM bb)) 19 [vi n,vi lo,vi hi] []=some (vb (decide (lo<=n/\n<=hi)),[]):=by
 refine aB rfl ?_;by_cases h:lo<=n
 all_goals simp (disch:=omega) only[go_sem,h19c]
 all_goals simp[h]
theorem lM(b:Bool)(e:Int):EV G (Tb (iM bb)) 60 [vb b,vi e] []=some (vi (un b e),[]):=by
 refine aB rfl ?_;cases b
 all_goals simp (disch:=omega) only[go_sem,h60c]
 all_goals rfl
theorem Lr(l:List Int)(hl:l.length<=1000):EV G (Tb (iM bb)) 59 [vl (el l)] []=some (vi (aS l),[]):=by
 refine aB rfl ?_;simp (disch:=omega) only[go_sem,h59c,aQb];have round:∀ k (hk:k < l.length),¬ l.getD k 0≠0->Ua [5,0,0] 0 (EC (EV G (Tb (iM bb))) G h59l0 ⟨(jk 5 (vl (el l)::vi l.length::vi k::jk 7 [])),[]⟩)=some ⟨(jk 5 (vl (el l)::vi l.length::vi (k+1:Nat)::jk 7 [])),[]⟩:=fun k hk hz=>by
  rw[eY l k hk] at hz;simp (disch:=omega) only[go_sem,h59l0,aQb,Qu]
 rcases Uz (fun k=>l.getD k 0≠0) l.length with h | ⟨j,hj,h1,h2⟩
 ·rw[bG (fun k=>⟨(jk 5 (vl (el l)::vi l.length::vi k::jk 7 [])),[]⟩) l.length ?_ ?_]
  ·rw[kF l h];simp (disch:=omega) only[go_sem,h59l0]
  ·rfl
  ·exact fun k hk=>round k hk (h k hk)
 ·rw[bG (fun k=>⟨(jk 5 (vl (el l)::vi l.length::vi k::jk 7 [])),[]⟩) j ?_ ?_]
  ·rw[mV l j hj h2 h1];rw[eY l j hj] at h1;simp (disch:=omega) only[go_sem,h59l0,aQb,Qu]
  ·rfl
  ·exact fun k hk=>round k (by omega) (h2 k hk)
theorem wQ(a b:Int):EV G (Tb (iM bb)) 59 [vl [[ci a],[ci b]]] []=some (vi (aS [a,b]),[]):=Lr [a,b] (by simp)
theorem C6(a b c:Int):EV G (Tb (iM bb)) 59 [vl [[ci a],[ci b],[ci c]]] []=some (vi (aS [a,b,c]),[]):=Lr [a,b,c] (by simp)
abbrev rfv(a b:Int):AV:=.agg [.dc (ci a),.dc (ci b)]
theorem aM3(x:Int):Z2 .i64 x 1=x % 2:=by
 have h:(BitVec.ofInt 64 x &&& BitVec.ofInt 64 1).toNat=(x % 2).toNat:=by
  rw[BitVec.toNat_and,show (BitVec.ofInt 64 1).toNat=1 from rfl,Nat.and_one_is_mod,BitVec.toNat_ofInt]
  omega
 show IntKind.i64.wrap (((BitVec.ofInt 64 x &&& BitVec.ofInt 64 1).toNat:Nat):Int)=_;rw[h,yE (by omega)];omega
theorem aBD(a b:Int):EV G (Tb (iM bb)) 112 [rfv a b] []=some (vi (Vq a b),[]):=by
 refine aB rfl ?_;have q1:=mY (G:=G) (bb:=bb) a 0 95;have q2:=mY (G:=G) (bb:=bb) b 1 65535;have u:=fun c=>lM (G:=G) (bb:=bb) c 2
 unfold Vq;by_cases c1:0<=a/\a<=95
 ·rw[decide_eq_true c1] at q1;by_cases c2:1<=b/\b<=65535
  ·rw[decide_eq_true c2] at q2;rw[if_pos ⟨c1,c2⟩];simp (disch:=omega) only[go_sem,h112c,q1,q2,u,eI]
  ·rw[decide_eq_false c2] at q2;rw[if_neg (fun h=>c2 h.2)]
   simp (disch:=omega) only[go_sem,h112c,q1,q2,u,fU]
 ·rw[decide_eq_false c1] at q1;rw[if_neg (fun h=>c1 h.1)]
  simp (disch:=omega) only[go_sem,h112c,q1,u,fU]
theorem Fh(a b:Int):EV G (Tb (iM bb)) 61 [rfv a b] []=some (vi (sC a b),[]):=by
 refine aB rfl ?_;have q:=aBD (G:=G) (bb:=bb) a b;unfold sC;by_cases c1:a=0
 ·by_cases c2:b=0
  ·rw[if_pos ⟨c1,c2⟩];simp (disch:=omega) only[go_sem,h61c,q,eq_true c1,eq_true c2]
  ·rw[if_neg (fun h=>c2 h.2)]
   simp (disch:=omega) only[go_sem,h61c,q,eq_true c1,c2]
 ·rw[if_neg (fun h=>c1 h.1)]
  simp (disch:=omega) only[go_sem,h61c,q,c1]
theorem Vt(a b:Int):EV G (Tb (iM bb)) 55 [rfv a b] []=some (vi (Vq a b),[]):=by
 refine aB rfl ?_;have q1:=mZ (G:=G) (bb:=bb) a 0 95;have q2:=mZ (G:=G) (bb:=bb) b 1 65535;unfold Vq;by_cases c1:0<=a/\a<=95
 ·rw[decide_eq_true c1] at q1;by_cases c2:1<=b/\b<=65535
  ·rw[decide_eq_true c2] at q2;rw[if_pos ⟨c1,c2⟩];simp (disch:=omega) only[go_sem,h55c,q1,q2]
  ·rw[decide_eq_false c2] at q2;rw[if_neg (fun h=>c2 h.2)]
   simp (disch:=omega) only[go_sem,h55c,q1,q2]
 ·rw[decide_eq_false c1] at q1;rw[if_neg (fun h=>c1 h.1)]
  simp (disch:=omega) only[go_sem,h55c,q1]
theorem C7(a b:Int):EV G (Tb (iM bb)) 20 [rfv a b] []=some (vi (sC a b),[]):=by
 refine aB rfl ?_;have q:=Vt (G:=G) (bb:=bb) a b;unfold sC;by_cases c1:a=0
 ·by_cases c2:b=0
  ·rw[if_pos ⟨c1,c2⟩];simp (disch:=omega) only[go_sem,h20c,q,eq_true c1,eq_true c2]
  ·rw[if_neg (fun h=>c2 h.2)]
   simp (disch:=omega) only[go_sem,h20c,q,eq_true c1,c2]
 ·rw[if_neg (fun h=>c1 h.1)]
  simp (disch:=omega) only[go_sem,h20c,q,c1]
theorem C8(r:bZ):EV G (Tb (iM bb)) 62 [r.v] []=some (vb (iC r.fl),[]):=by
 refine aB rfl ?_;unfold iC;by_cases c:r.fl % 2=1
 ·have d:¬ r.fl % 2=0:=by omega
  simp (disch:=omega) only[go_sem,h62c,aM3,d,decide_eq_true c]
 ·have d:r.fl % 2=0:=by omega
  simp (disch:=omega) only[go_sem,h62c,aM3,eq_true d,decide_eq_false c]
theorem R7(r:bZ)(h:0<=r.fl/\r.fl<=1000):EV G (Tb (iM bb)) 23 [r.v] []=some (vb (iC r.fl),[]):=by
 refine aB rfl ?_;unfold iC;have e:r.fl.tmod 2=r.fl % 2:=by rw[aRJ h.1]
 simp (disch:=omega) only[go_sem,h23c,e]
theorem C9(l:List aE)(k:Nat)(hk:k < l.length):dV (l.take (k+1))=dV (l.take k)+(eQ l[k]).length:=by
 rw[aRb hk,Vs]
theorem wR(l:List aE)(hW:∀ a∈l,a.W):0<=dV l/\dV l<=440 * l.length:=by
 induction l with
 | nil=>exact⟨Int.le_refl _,Int.le_refl _⟩
 | cons a l ih=>
  have h1:=ih (fun b hb=>hW b (aQE _ hb))
  have h2:=pK (hW a aQt);unfold dV at h1 ⊢;simp only[aQo,List.sum_cons,aQd];omega
theorem aBE{l:List aE}(hW:∀ a∈l,a.W)(k:Nat):∀ a∈l.take k,a.W:=fun a ha=>hW a (aQO ha)
theorem Da(l:List aE)(hW:∀ a∈l,a.W)(hl:l.length<=1000):EV G (Tb (iM bb)) 66 [vl (l.map aE.e)] []=some (vi (dV l),[]):=by
 refine aB rfl ?_;simp (disch:=omega) only[go_sem,h66c,aQb];rw[bG (fun k=>⟨(jk 3 (vi (dV (l.take k))::jk 4 (vl (l.map aE.e)::vi l.length::vi k::jk 13 []))),[]⟩) l.length ?_ ?_]
 ·simp (disch:=omega) only[go_sem,h66l0,aQR]
 ·rfl
 ·intro k hk;have q:=up (Vd (G:=G) (bb:=bb) l[k] (hW _ (aQm hk)));have h2:=pK (hW _ (aQm hk));have h3:=wR (l.take k) (aBE hW k);rw[aQj] at h3;have h4:dV (l.take k)<=440000:=by omega
  have h5:=h3.1;clear h3;rw[C9 l k hk];generalize dV (l.take k)=z at *;simp (disch:=omega) only[go_sem,h66l0,aQb,ixA,aE.e,q]
theorem aFB(l:List aE)(hW:∀ a∈l,a.W)(he:∀ a∈l,hZ a=0)(hl:l.length<=1000):EV G (Tb (iM bb)) 22 [vl (l.map aE.e)] []=some (vi (dV l),[]):=by
 refine aB rfl ?_;simp (disch:=omega) only[go_sem,h22c,aQb];rw[bG (fun k=>⟨(vl (l.map aE.e)::jk 2 (vi (dV (l.take k))::vi k::jk 15 [])),[]⟩) l.length ?_ ?_]
 ·simp (disch:=omega) only[go_sem,h22l0,aQb,aQR]
 ·rfl
 ·intro k hk;have hWk:=hW _ (aQm hk);have hek:=he _ (aQm hk);have q:=up (Cc (G:=G) (bb:=bb) l[k] (nX hWk hek));rw[<- (wL hWk hek).1] at q;have h2:=pK hWk;have h3:=wR (l.take k) (aBE hW k);rw[aQj] at h3;have h4:dV (l.take k)<=440000:=by omega
  have h5:=h3.1;clear h3;rw[C9 l k hk];generalize dV (l.take k)=z at *;simp (disch:=omega) only[go_sem,h22l0,aQb,ixA,aE.e,q]
attribute [go_sem] aGC aQg
end
end Go.Proofs.YtcplecjhmnblpaaGreatDoor
