/- TableOpens returns true for every input, and each argument reads afterwards as it read before; the variables that the row lists are laid by the program's text. Conditions: none. -/
import Derived.Test.YtgdjbbnicgfohacGreatDoorQw
import Derived.Test.YtgdjbbnicgfohacGreatDoorPp
namespace Go.Proofs.YtgdjbbnicgfohacGreatDoor
set_option maxHeartbeats 32000000
set_option linter.unusedSimpArgs false
set_option linter.unusedVariables false
set_option maxRecDepth 4000
section
variable {G:aF}{bb:Bool}
theorem aBw(l:L aV)(a:l.length<=1000000):EV G (T5 G bb) 30 [cP l] []=some (cP l,[]):=by
 refine aB (h:=hCR) rfl ?_;simp only[hCR];simp (maxSteps:=2000000) (disch:=omega) only[go_sem,h30c,aZa]
theorem aRG{s:L Int}(b:(aW s).2.2=0)(c:(lO s).2.2=0)(h3:¬ iX iZ (lO s).1.ats<0)(h4:(kT s).res=false)(h5:(kT s).fi=0):mM s=rnE (aW s).1 (kT s).rs:=by
 have a:nO s=Eg (aW s).1 (kT s):=by
  unfold nO;rw[if_neg (not_not_intro b),if_neg (not_not_intro c),if_neg h3]
 unfold mM rnE;rw[a];unfold Eg Qn gF;rw[h4,decide_eq_true h5,aZG,aZI,dZ,aX];generalize (kT s).rs.any (fun r=>decide (r.s=-1))=A
 generalize (kT s).rs.any (fun r=>decide (r.s+r.n > (aW s).1.cl))=E
 generalize clE (aW s).1 (rW (kT s).rs)=C;cases A;cases E<;>rfl;rfl
theorem aRH{s:L Int}(c:(aW s).2.2=0)(d:(lO s).2.2=0)(h3:¬ iX iZ (lO s).1.ats<0)(h4:(kT s).res=true\/¬ (kT s).fi=0):mM s=15:=by
 have a:nO s=Eg (aW s).1 (kT s):=by
  unfold nO;rw[if_neg (not_not_intro c),if_neg (not_not_intro d),if_neg h3]
 have b:Eg (aW s).1 (kT s)=15:=by
  unfold Eg;have:(!(kT s).res&&decide ((kT s).fi=0))=false:=by
   rcases h4 with h|h;rw[h];rfl;rw[decide_eq_false h,Bool.and_false]
  rw[this,eP,aZ _ _ (by decide)]
 unfold mM;rw[a,b,if_pos (by decide)]
theorem Yy(s:L Int)(T:aK s)(hl:s.length<=200000):EV G (T5 G bb) 9 [sv s] []=some (aV0 (Vu s),[]):=by
 have q:=t5 (b:=bb) (aDx (G:=G) (B:=dU G bb) s T hl);by_cases k:(aW s).2.2=0;have b:=H5 k;have b2:=b.cl;have b3:=b.n;have b4:=b.tb;have b5:=b.mi;have cT:=t5 (b:=bb) (Qv (G:=G) (B:=dU G bb) s (aW s).1.tb.toNat (by omega) hl);have p:=t5 (b:=bb) (Qv (G:=G) (B:=dU G bb) s (aW s).1.mi.toNat (by omega) hl);rw[show (((aW s).1.tb.toNat:Nat):Int)=(aW s).1.tb by omega] at cT;rw[show (((aW s).1.mi.toNat:Nat):Int)=(aW s).1.mi by omega] at p;change EV G (T5 G bb) _ _ _=some (sv (L4 s (aW s).1),[]) at cT;change EV G (T5 G bb) _ _ _=some (sv (Qm s (aW s).1),[]) at p;have dT:=t5 (upT (aBv (G:=G) (bb:=bb) (L4 s (aW s).1) (kS T _ _) (by unfold L4;rw[H4 (by omega) (by omega)];omega)));have dM:=t5 (upT (aBv (G:=G) (bb:=bb) (Qm s (aW s).1) (kS T _ _) (by unfold Qm;rw[H4 (by omega) (by omega)];omega)));have m:lO s=Vk (L4 s (aW s).1) (Qm s (aW s).1):=rfl;unfold Vk at m;have O:=Qp s T;have oK:=@Vm s;have oA:=@K7 s T;have c:=@aRH s k;have d:=@aRG s k;have f:∀l:L aV,rH l->(∀q∈l,(-1<=q.s/\q.s<=1000)/\(0<=q.n/\q.n<=4096))->cC l<=4096->EV G (T5 G bb) 29 [(aW s).1.v,cP l] []=some (vi (rnE (aW s).1 l),[]):=fun l a1 a2 a3=>
  t5 (aRD (G:=G) (B:=dU G bb) (aW s).1 l ⟨by omega,by omega,by omega⟩ a1 a2 a3)
 by_cases g:(fZ (L4 s (aW s).1)).2.2=0;rw[if_pos g] at m;rw[m] at O oK oA c d;have C:kT s=(fZ (L4 s (aW s).1)).1.ats.getD (iX iZ (fZ (L4 s (aW s).1)).1.ats).toNat aJ.nil:=by unfold kT;rw[m]
 have y:iX iZ (fZ (L4 s (aW s).1)).1.ats < 0->mM s=6:=fun hi=>by
  unfold mM nO;rw[m,if_neg (not_not_intro k),if_neg (not_not_intro g),if_pos hi,if_pos (by decide)]
 have W:Vu s=if mM s=0 then (((aW s).1,(kT s).rs,(tR s:Int)),0) else ((nB,[],0),mM s):=rfl
 have t:=t5 (b:=bb) (Vs (G:=G) (B:=dU G bb) (fZ (L4 s (aW s).1)).1 (by have:=O.1.ln;omega));replace oA:=oA g;replace c:=c g;replace d:=d g;have J:tR s=(rW (kT s).rs).length / 2:=rfl;clear m;rw[W];clear W O;generalize fZ (L4 s (aW s).1)=P at *;generalize fZ (Qm s (aW s).1)=Q at *;generalize L4 s (aW s).1=ST at *;generalize Qm s (aW s).1=SM at *;generalize mM s=E at *;generalize tR s=X at *;generalize kT s=A at *;obtain⟨r,u,e⟩:=P;obtain⟨N,u',e'⟩:=Q;generalize aW s=V at *;obtain⟨x,a,w⟩:=V;simp only at k g oA oK c d f t y C;subst k;by_cases h3:iX iZ r.ats<0;have y:=y h3;subst y;rw[if_neg (by decide)];generalize iX iZ r.ats=I at *;refine aB rfl ?_;simp (maxSteps:=2000000) (disch:=omega) only[go_sem,h9c,q,cT,p,dT,dM,eq_true g,t,h3,Bt.cs,aZx,aZs];rfl;obtain⟨K,F,k1,U,_⟩:=oK h3;obtain⟨S,z⟩:=oA h3;obtain⟨H,Z,R⟩:=Bb (qJ S z);replace c:=c h3;replace d:=d h3;have hw:gI A.rs=cC A.rs:=Xz (qJ S z);have M:=At A.rs (fun r h=>(R r h).2.1)
 have cp:=aBw (G:=G) (bb:=bb) A.rs (by have:=H.len;omega);have lq:=t5 (b:=bb) (rI (G:=G) (B:=dU G bb) A.rs (by have:=H.len;omega));have dv:(gI A.rs).tdiv 2=(X:Int):=by rw[J,hw,<- M,bAP (by omega)];omega
 replace f:=f A.rs H R Z;clear C y oK oA;have D:r.ats[K].e=A.e:=by rw[<- U]
 generalize iX iZ r.ats=I at *;subst k1;have i:¬ (K:Int)<0:=by omega
 have j:(K:Int)<r.ats.length:=by omega
 clear U;by_cases h4:A.res=true;have c:=c (.inl h4);subst c;rw[if_neg (by decide)];refine aB rfl ?_;simp (maxSteps:=2000000) (disch:=omega) only[go_sem,h9c,q,cT,p,dT,dM,eq_true g,t,i,j,F,aZa,ixA,D,h4,Bt.cs,aZx,aZs];rfl;have h4:A.res=false:=by simpa using h4
 by_cases h5:A.fi=0;have d:=d h4 h5;subst d;generalize rnE x A.rs=Y at *;by_cases h6:Y=0
 ·subst h6;rw[if_pos rfl];refine aB rfl ?_;simp (maxSteps:=2000000) (disch:=omega) only[go_sem,h9c,q,cT,p,dT,dM,eq_true g,t,i,j,F,aZa,ixA,D,h4,eq_true h5,f,cp,lq,dv,Bt.cs,aZx,aZs];try rfl
 rw[if_neg h6];refine aB rfl ?_;simp (maxSteps:=2000000) (disch:=omega) only[go_sem,h9c,q,cT,p,dT,dM,eq_true g,t,i,j,F,aZa,ixA,D,h4,eq_true h5,f,h6,Bt.cs,aZx,aZs];rfl;have c:=c (.inr h5);subst c;rw[if_neg (by decide)];refine aB rfl ?_;simp (maxSteps:=2000000) (disch:=omega) only[go_sem,h9c,q,cT,p,dT,dM,eq_true g,t,i,j,F,aZa,ixA,D,h4,h5,Bt.cs,aZx,aZs];rfl;rw[if_neg g] at m;by_cases o:(fZ (Qm s (aW s).1)).2.2=0;rw[if_pos o] at m;rw[m] at O oK oA c d;have C:kT s=(fZ (Qm s (aW s).1)).1.ats.getD (iX iZ (fZ (Qm s (aW s).1)).1.ats).toNat aJ.nil:=by unfold kT;rw[m]
 have y:iX iZ (fZ (Qm s (aW s).1)).1.ats < 0->mM s=6:=fun hi=>by
  unfold mM nO;rw[m,if_neg (not_not_intro k),if_neg (not_not_intro o),if_pos hi,if_pos (by decide)]
 have W:Vu s=if mM s=0 then (((aW s).1,(kT s).rs,(tR s:Int)),0) else ((nB,[],0),mM s):=rfl
 have t:=t5 (b:=bb) (Vs (G:=G) (B:=dU G bb) (fZ (Qm s (aW s).1)).1 (by have:=O.1.ln;omega));replace oA:=oA o;replace c:=c o;replace d:=d o;have J:tR s=(rW (kT s).rs).length / 2:=rfl;clear m;rw[W];clear W O;generalize fZ (L4 s (aW s).1)=P at *;generalize fZ (Qm s (aW s).1)=Q at *;generalize L4 s (aW s).1=ST at *;generalize Qm s (aW s).1=SM at *;generalize mM s=E at *;generalize tR s=X at *;generalize kT s=A at *;obtain⟨r,u,e⟩:=P;obtain⟨N,u',e'⟩:=Q;generalize aW s=V at *;obtain⟨x,a,w⟩:=V;simp only at k g o oA oK c d f t y C;subst k;by_cases h3:iX iZ N.ats<0;have y:=y h3;subst y;rw[if_neg (by decide)];generalize iX iZ N.ats=I at *;refine aB rfl ?_;simp (maxSteps:=2000000) (disch:=omega) only[go_sem,h9c,q,cT,p,dT,dM,g,eq_true o,t,h3,Bt.cs,aZx,aZs];rfl;obtain⟨K,F,k1,U,_⟩:=oK h3;obtain⟨S,z⟩:=oA h3;obtain⟨H,Z,R⟩:=Bb (qJ S z);replace c:=c h3;replace d:=d h3;have hw:gI A.rs=cC A.rs:=Xz (qJ S z);have M:=At A.rs (fun r h=>(R r h).2.1)
 have cp:=aBw (G:=G) (bb:=bb) A.rs (by have:=H.len;omega);have lq:=t5 (b:=bb) (rI (G:=G) (B:=dU G bb) A.rs (by have:=H.len;omega));have dv:(gI A.rs).tdiv 2=(X:Int):=by rw[J,hw,<- M,bAP (by omega)];omega
 replace f:=f A.rs H R Z;clear C y oK oA;have D:N.ats[K].e=A.e:=by rw[<- U]
 generalize iX iZ N.ats=I at *;subst k1;have i:¬ (K:Int)<0:=by omega
 have j:(K:Int)<N.ats.length:=by omega
 clear U;by_cases h4:A.res=true;have c:=c (.inl h4);subst c;rw[if_neg (by decide)];refine aB rfl ?_;simp (maxSteps:=2000000) (disch:=omega) only[go_sem,h9c,q,cT,p,dT,dM,g,eq_true o,t,i,j,F,aZa,ixA,D,h4,Bt.cs,aZx,aZs];rfl;have h4:A.res=false:=by simpa using h4
 by_cases h5:A.fi=0;have d:=d h4 h5;subst d;generalize rnE x A.rs=Y at *;by_cases h6:Y=0
 ·subst h6;rw[if_pos rfl];refine aB rfl ?_;simp (maxSteps:=2000000) (disch:=omega) only[go_sem,h9c,q,cT,p,dT,dM,g,eq_true o,t,i,j,F,aZa,ixA,D,h4,eq_true h5,f,cp,lq,dv,Bt.cs,aZx,aZs];try rfl
 rw[if_neg h6];refine aB rfl ?_;simp (maxSteps:=2000000) (disch:=omega) only[go_sem,h9c,q,cT,p,dT,dM,g,eq_true o,t,i,j,F,aZa,ixA,D,h4,eq_true h5,f,h6,Bt.cs,aZx,aZs];rfl;have c:=c (.inr h5);subst c;rw[if_neg (by decide)];refine aB rfl ?_;simp (maxSteps:=2000000) (disch:=omega) only[go_sem,h9c,q,cT,p,dT,dM,g,eq_true o,t,i,j,F,aZa,ixA,D,h4,h5,Bt.cs,aZx,aZs];rfl;rw[if_neg o] at m;have eE:mM s=(fZ (L4 s (aW s).1)).2.2:=by
  unfold mM nO;rw[m,if_neg (not_not_intro k),if_pos g,if_pos g]
 unfold Vu;rw[eE,if_neg g];clear O oK oA c d f eE;generalize fZ (L4 s (aW s).1)=P at *;generalize fZ (Qm s (aW s).1)=Q at *;generalize L4 s (aW s).1=ST at *;generalize Qm s (aW s).1=SM at *;obtain⟨r,u,e⟩:=P;obtain⟨N,u',e'⟩:=Q;generalize aW s=V at *;obtain⟨x,a,w⟩:=V;simp only at k g o;subst k;refine aB rfl ?_;simp (maxSteps:=2000000) (disch:=omega) only[go_sem,h9c,q,cT,p,dT,dM,g,o,Bt.cs,aZx,aZs];rfl;have e:mM s=(aW s).2.2:=by
  unfold mM nO;rw[if_pos k,if_pos k]
 unfold Vu;rw[e,if_neg k];generalize aW s=V at *;obtain⟨x,a,e⟩:=V;refine aB rfl ?_;simp (maxSteps:=2000000) (disch:=omega) only[go_sem,h9c,q,k,Bt.cs];rfl
end
section
variable {G:aF}{bb:Bool}
abbrev vwQ(x:Bt)(a:L aV)(N:Int):AV:=.agg [.dc (ci x.cl),.dc (ci x.tb),.dc (ci x.mi),.dc (ci x.lg),.dc (ci x.lc),.dc (ci x.se),.dc (.slc (a.map aV.e)),.dc (ci N)]
theorem Yz{B:aO}(s:L Int)(f:s.length<=200000)(x:Bt)(b:L aV)(N:Int)(i:rH b)(k a c:Nat)(m:k<=1000)(d:2*k+1<(rW b).length)(j:(rW b).getD (2*k) 0=a)(l:(rW b).getD (2*k+1) 0=c)(h0:a*256+256<=s.length)(e:c*256+256<=s.length):EV G (Tb B) 33 [sv s,vwQ x b N,vi k] []=some (sv (Bm s a c),[]):=by
 have r:=Cg (G:=G) (B:=B) b i;have p:=aBu (G:=G) (B:=B) s a h0 f;have q:=aBu (G:=G) (B:=B) s c e f;generalize rW b=C at *;have g:C[2*k]?=some (a:Int):=by rw[<- j,cD C (2*k) (by omega),aZj (by omega)]
 have h:C[2*k+1]?=some (c:Int):=by rw[<- l,cD C (2*k+1) d,aZj d]
 have n:(2*(k:Int)).toNat=2*k:=by omega
 have o:(2*(k:Int)+1).toNat=2*k+1:=by omega
 have u:(2*(k:Int))<C.length:=by omega
 have v:(2*(k:Int)+1)<C.length:=by omega
 have t:2*k<C.length:=by omega
 unfold Bm;have w:(G6 s a).length=256:=Ba h0;have y:(G6 s c).length=256:=Ba e;generalize G6 s a=U at *;generalize G6 s c=W at *;refine aB rfl ?_;simp (maxSteps:=2000000) (disch:=first|omega|(simp only[aZb,aZc,aZd,aZa,aA,aZh,aZf,aZn,aC,aS,lH,lf]<;>omega)|fail) only[go_sem,h33c,r,p,q,aC,aZa,tD,n,o,u,v,t,d,g,h]
theorem aIJ{B:aO}(s:L Int)(c:s.length<=200000)(x:Bt)(d:L aV)(N:Int)(k:Nat)(b:k<=1000)(f:0<=x.mi)(h:(x.mi+2*k)*256+512<=s.length):EV G (Tb B) 34 [sv s,vwQ x d N,vi k] []=some (sv (miB s x k),[]):=by
 have a:=Qv (G:=G) (B:=B) s (x.mi.toNat+2*k) (by omega) c;have e:((x.mi.toNat+2*k:Nat):Int)=x.mi+2*k:=by omega
 rw[e] at a;unfold miB;generalize Bm s (x.mi.toNat+2*k) (x.mi.toNat+2*k+1)=U at *;refine aB rfl ?_;simp (maxSteps:=2000000) (disch:=omega) only[go_sem,h34c,a]
theorem aIK{B:aO}(x:Bt)(a:L aV)(N:Int)(d:rH a)(k:Nat)(e:k<=1000)(b:2*k<(rW a).length):EV G (Tb B) 14 [vwQ x a N,vi k] []=some (vi ((rW a).getD (2*k) 0),[]):=by
 have g:=Cg (G:=G) (B:=B) a d;generalize rW a=C at *;have f:(2*(k:Int)).toNat=2*k:=by omega
 have h:(2*(k:Int))<C.length:=by omega
 have c:C[2*k]?=some C[2*k]:=aZj b;rw[cD C (2*k) b];generalize C[2*k]=V at *;refine aB rfl ?_;simp (maxSteps:=2000000) (disch:=omega) only[go_sem,h14c,g,aZa,tD,f,h,b,c]
theorem Y0{B:aO}(x:Bt)(l:L aV)(N:Int)(a:l.length<=1000000):EV G (Tb B) 10 [vwQ x l N,vwQ x l N] []=some (vb true,[]):=by
 have q:=Xe (G:=G) (B:=B) l l a;rw[decide_eq_true rfl] at q;refine aB rfl ?_;simp (maxSteps:=2000000) (disch:=omega) only[go_sem,h10c,q]
theorem aIL(s:L Int)(a:aK s)(d:s.length<=200000)(n:Int):EV G (T5 G bb) 13 [sv s,vi n] []=some (vi (N5 s n),[]):=by
 have o:=Yy (G:=G) (bb:=bb) s a d;unfold N5;unfold Vu at o;by_cases h:mM s=0;rw[if_pos h] at o;rw[if_neg (not_not_intro h)];have w:=t5 (b:=bb) (bN (G:=G) (B:=dU G bb) n 0 ((tR s:Int)-1));generalize decide (0<=n/\n<=(tR s:Int)-1)=W at *;have f:tR s<=1000:=by
  obtain⟨_,_,c⟩:=jK a h;have:=c.ln;unfold tR;omega
 generalize tR s=e at *;refine aB rfl ?_;cases W;simp (maxSteps:=2000000) (disch:=omega) only[go_sem,h13c,o,w,eP];simp (maxSteps:=2000000) (disch:=omega) only[go_sem,h13c,o,w,dZ];rw[if_neg h] at o;rw[if_pos h];refine aB rfl ?_;simp (maxSteps:=2000000) (disch:=omega) only[go_sem,h13c,o,h]
theorem aIM{s:L Int}(b:aK s)(h:mM s=0):rH (kT s).rs/\cC (kT s).rs<=4096/\∀q∈(kT s).rs,(-1<=q.s/\q.s<=1000)/\(0<=q.n/\q.n<=4096):=by
 obtain⟨e,_,_⟩:=jK b h;obtain⟨f,c,h3,_⟩:=Yn e;obtain⟨d,a⟩:=K7 b c h3;exact Bb (qJ d a)
theorem aDI(s:List Int)(f:aK s)(m:s.length<=200000):EV G (T5 G bb) 11 [sv s] []=some (inV (mrV s),[]):=by
 have o:=Yy (G:=G) (bb:=bb) s f m;unfold Vu at o;unfold mrV;by_cases h:mM s=0
 rw[if_pos h] at o;rw[if_pos h];obtain⟨q1,q2,i⟩:=jK f h;obtain⟨I,Y,Z⟩:=aIM f h;have J:=i.ln;have b:=i.b;have R:=b.cl;have S:=b.n;have T:=b.mi;have F:∀ k:Nat,k < 4->EV G (T5 G bb) 33 [sv s,vwQ (aW s).1 (kT s).rs (tR s),vi k] []=some (sv (plB s (gF s) k),[]):=fun k l=>by
  obtain⟨a,q,O,Q,_⟩:=i.at (k:=2 * k) (by omega);obtain⟨c,r,W,X,_⟩:=i.at (k:=2 * k+1) (by omega);unfold plB;rw[q,r];exact t5 (Yz s m _ _ _ I k a c (by omega) (show _ < (gF s).length by omega) q r (by omega) (by omega))
 have E:∀k:Nat,k<4->EV G (T5 G bb) 34 [sv s,vwQ (aW s).1 (kT s).rs (tR s),vi k] []=some (sv (miB s (aW s).1 k),[]):=fun k l=>
  t5 (aIJ s m _ _ _ k (by omega) (by omega) (by omega))
 have H:∀k,(dB (plB s (gF s) k)=dB (miB s (aW s).1 k))=(plB s (gF s) k=miB s (aW s).1 k):=fun k=>cQ (kS f _ _) (kS f _ _)
 have L:=aNU s (aW s).1 (gF s);have y:=Qx s (aW s).1 (gF s);have w:mrL s (aW s).1 (gF s) 0=[]:=rfl;generalize mrL s (aW s).1 (gF s)=U at *;generalize plB s (gF s)=P at *;generalize miB s (aW s).1=M at *;generalize tR s=A at *;generalize gF s=C at *;generalize (aW s).1=x at *;generalize (kT s).rs=K at *;refine aB (h:=h11) rfl ?_;simp (maxSteps:=2000000) (disch:=omega) only[go_sem,h11c,o];rw[aR (fun k=>⟨(sv s::jk 3 (.one (.ptr 0 0)::jk 1 (.one (.bld 1 (U k).length)::vi k::jk 26 []))),[.box [.dc (ci x.cl),.dc (ci x.tb),.dc (ci x.mi),.dc (ci x.lg),.dc (ci x.lc),.dc (ci x.se),.dc (.slc (K.map aV.e)),.dc (ci A)],.arr 0 1 (el (U k))]⟩) 4 ?_ ?_]
 simp (maxSteps:=2000000) (disch:=omega) only[go_sem,h11l0];rw[w];rfl;intro k l;have t:=F k l;have u:=E k l;have v:=H k;have N:=y k;have g:=L k;by_cases j:P k=M k;rw[if_pos j] at g;rw[g];have p:(dB (P k)=dB (M k))=True:=by rw[v];exact eq_true j
 generalize U k=V at *;generalize P k=D at *;generalize M k=z at *;have d:(k:Int)<4:=by omega
 simp (maxSteps:=2000000) (disch:=omega) only[go_sem,h11l0,d,t,u,p];rw[if_neg j] at g;rw[g];have p:(dB (P k)=dB (M k))=False:=by rw[v];exact eq_false j
 generalize U k=V at *;generalize P k=D at *;generalize M k=z at *;have d:(k:Int)<4:=by omega
 simp (maxSteps:=2000000) (disch:=omega) only[go_sem,h11l0,d,t,u,p,aAM,aZb,aZa]
 ·rw[if_neg h] at o;rw[if_neg h];refine aB (h:=h11) rfl ?_;simp (maxSteps:=2000000) (disch:=omega) only[go_sem,h11c,o,h];try rfl
end
section
variable {G:aF}{bb:Bool}
theorem aRJ{B:aO}(l:L Int)(c:l.length<=1000000):EV G (Tb B) 12 [vl (el l),vl (el l)] []=some (vb true,[]):=by
 refine aB rfl ?_;simp (maxSteps:=2000000) (disch:=omega) only[go_sem,h12c,aZa];rw[aR (fun k=>⟨(vl (el l)::vl (el l)::jk 3 (vi k::jk 20 [])),[]⟩) l.length ?_ ?_]
 simp (maxSteps:=2000000) (disch:=omega) only[go_sem,h12l0,aZa];rfl;intro k b;have a:(k:Int)<l.length:=by omega
 simp (maxSteps:=2000000) (disch:=omega) only[go_sem,h12l0,aZa,tD,b,a]
noncomputable def T1(f:FuncId)(h:HF)(C:aO):HT:=⟨fun g=>if g=f then some h else none,C⟩
theorem t1{f0:FuncId}{h0:HF}{T:HT}{f:FuncId}{a:L AV}{hp:L aD}{r:AV×L aD}(h:EV G T f a hp=some r)(b:f≠f0:=by decide):EV G (T1 f0 h0 (EV G T)) f a hp=some r:=jC (by show (if f=f0 then some h0 else none)=none;exact if_neg b) h
noncomputable abbrev TLo(G:aF)(b:Bool):HT:=T1 3 h3 (EV G (T5 G b))
theorem aRK{b:Bool}:W5 Tryz.prog (TLo G b):=by
 intro f h hf;change (if f=3 then some h3 else none)=some h at hf
 split at hf;rename_i e;subst e;injection hf with hf;subst hf;exact⟨by kernel_rfl,_,Tryz.func3,Tryz.ntmps3,h3_ok,aSS⟩
 cases hf
theorem aRL{s:L Int}{n:Int}(h:N5 s n=0):mM s=0/\0<=n/\n<tR s:=by
 unfold N5 at h;by_cases c:mM s=0;rw[if_neg (not_not_intro c)] at h;have:=of_decide_eq_true (Gi (by decide) h);exact⟨c,by omega,by omega⟩;rw[if_pos c] at h;exact absurd h c
theorem aNd(k:G9 G)(e:EV G (T5 G bb) 4 [] []=some (vb true,[]))(s:L Int)(a:aK s)(n:Int):EV G (TLo G bb) 3 [sv s,vi n] []=some (vb true,[]):=by
 have g:=t1 (h0:=h3) (f0:=3) (t5 (b:=bb) (aMz (G:=G) (B:=dU G bb) s));replace e:=t1 (h0:=h3) (f0:=3) e;by_cases h:s.length<=24576\/s.length % 256≠0/\s.length<=200000;rw[decide_eq_true h] at g;have d:s.length<=200000:=by omega
 have o:=t1 (h0:=h3) (f0:=3) (t5 (aNb (bb:=bb) k s a d));have p:=t1 (h0:=h3) (f0:=3) (t5 (N6 (bb:=bb) k s a d n));have u:=t1 (h0:=h3) (f0:=3) (t5 (Yx (bb:=bb) k s a d));have m:=t1 (h0:=h3) (f0:=3) (Yy (G:=G) (bb:=bb) s a d);have f:=t1 (h0:=h3) (f0:=3) (aDI (G:=G) (bb:=bb) s a d);have l:=t1 (h0:=h3) (f0:=3) (aIL (G:=G) (bb:=bb) s a d n);have C:(Vu s).1.2.1.length<=1000000:=by
  unfold Vu;by_cases c:mM s=0;rw[if_pos c];have:=(aIM a c).1.len;show (kT s).rs.length<=_;omega;rw[if_neg c];exact aZv _
 have A:(mrV s).1.length<=1000000:=by
  unfold mrV;by_cases c:mM s=0;rw[if_pos c];have:=Qx s (aW s).1 (gF s) 4;show (mrL s (aW s).1 (gF s) 4).length<=_;omega;rw[if_neg c];exact aZv _
 have r:=t1 (h0:=h3) (f0:=3) (t5 (b:=bb) (Y0 (G:=G) (B:=dU G bb) (Vu s).1.1 (Vu s).1.2.1 (Vu s).1.2.2 C));have t:=t1 (h0:=h3) (f0:=3) (t5 (b:=bb) (aRJ (G:=G) (B:=dU G bb) (mrV s).1 A));by_cases c:N5 s n=0;obtain⟨j,J,K⟩:=aRL c;obtain⟨z,M,N⟩:=aIM a j;have O:=(jK a j).2.2.ln;have P:tR s=(gF s).length / 2:=rfl;have q:=t1 (h0:=h3) (f0:=3) (t5 (b:=bb) (aIK (G:=G) (B:=dU G bb) (aW s).1 (kT s).rs (tR s) z n.toNat (by omega) (show _<(gF s).length by omega)));have y:Vu s=(((aW s).1,(kT s).rs,(tR s:Int)),0):=by unfold Vu;rw[if_pos j]
 rw[if_pos c,c] at p;rw[c] at l;rw[y] at o m r;rw[show ((n.toNat:Nat):Int)=n by omega] at q;change EV G _ _ _ _=some (vi ((gF s).getD (2*n.toNat) 0),[]) at q;generalize (gF s).getD (2*n.toNat) 0=I at *;generalize mrV s=i at *;obtain⟨E,D⟩:=i;generalize tR s=v at *;generalize (aW s).1=x at *;generalize (kT s).rs=F at *;refine aB (h:=h3) rfl ?_;simp (maxSteps:=2000000) (disch:=omega) only[go_sem,h3c,e,g,o,p,u,m,f,l,r,t,q,aZF,aZG];rw[if_neg c] at p;generalize N5 s n=H at *;generalize mrV s=i at *;obtain⟨E,D⟩:=i;generalize Vu s=w at *;obtain⟨⟨x,F,v⟩,Q⟩:=w;refine aB (h:=h3) rfl ?_;simp (maxSteps:=2000000) (disch:=omega) only[go_sem,h3c,e,g,o,p,u,m,f,l,r,t,c,aZF,aZG];rw[decide_eq_false h] at g;refine aB (h:=h3) rfl ?_;simp (maxSteps:=2000000) (disch:=omega) only[go_sem,h3c,e,g,aZF,aZG]
end
section
variable {G:aF}{B:aO}
theorem qcO{f:FuncId}{a:L AV}{r:AV}(h:EV GF (TLo GF true) f a []=some (r,[])):QC Tryz.prog GF f a r:=aAk aRK (aNa fun _=>aDE aVU) h
theorem aXT{G:aF}:EV G (T5 G true) 4 [] []=some (vb true,[]):=t5 aVW
end
section
variable {G:aF}{bb:Bool}
open Go.ChangeShapes Go.WideShapes Go.ChangeAt Go.RowKit
set_option maxRecDepth 100000 in
theorem Ek(os:Os)(d:os.Started)(H:Type)(enc:TypeId×Value->H):ReturnsInHanded {} Tryz.checked os 3 .any (fun w c=>(Rows.tableOpensSpec.pre enc Tryz.prog Tryz.f3 [] false w c/\laidMetH Tryz.prog Rows.tableOpensRow.laid w)/\sizedMet enc Tryz.prog Tryz.f3 (OpenSpec.ofChange Rows.tableOpensSpec) false w c) (Rows.tableOpensSpec.post enc Tryz.prog Tryz.f3 false true false false):=by
 refine Lc (C:=Tryz.checked) (X:=fun w _=>laidMetH Tryz.prog Rows.tableOpensRow.laid w) (fun _ _ _ N h=>h.of_heap N) Tryz.own d (by kernel_rfl) Tryz.func3
  (ChangeSpec.witness_shaped (enc:=enc) (C:=Tryz.checked) (os:=os) (X:=fun w _=>laidMetH Tryz.prog Rows.tableOpensRow.laid w) false (World.laidAll Tryz.prog os Rows.tableOpensRow.laid) #[.string ⟨#[]⟩,.int .i64 0] 8 (World.laidAll_os _ _ _)
   (World.shaped_of_ZipB (by kernel_rfl) (by kernel_rfl)) (by kernel_rfl) (by kernel_rfl) (by kernel_rfl)
   (by rw[MakeChecks.laidMetH_plain _ _ _ (by kernel_rfl)];exact laidMet_laidAll _ (by kernel_rfl) (by kernel_rfl))) ?_
 intro W g c y gs l f z I R;have k:∀(j:Nat) t v,Tryz.f3.params[j]?=some t->c[j]?=some v->Value.okWide Tryz.prog W .any g t v:=f;have r:=z;obtain⟨p,q,o,J,rfl,M,O⟩:=z;have F:DataW.TrodAll enc Tryz.prog W 0 (fun _=>true) true Tryz.f3.params.toList c.toList y p:=o
 obtain⟨rfl,rfl⟩:=trodVars_none J;obtain⟨n,D,E,h3,h4⟩:=N8 (m:=7) F (fun j t v a b=>k j t v (by simpa using a) (by simpa using b)) (by
  have:Tryz.f3.params.toList.all (Lb Tryz.prog 7)=true:=by kernel_rfl
  exact fun t x=>bAw.1 this t x)
 rw[Tryz.params3] at h3
 match n,h3 with
 |[V,Y],h3=>
  obtain⟨k0,T,_⟩:=h3;obtain⟨s,rfl,Q,S⟩:=aIC (m:=6) k0;obtain⟨m,rfl,hm⟩:=aID (m:=6) T;have u:fR (iU W) GF:=aVV I;have P:=qcO (aNd (bb:=true) aVU aXT s Q m);refine (aB1 P u ⟨by simpa using D,fun i A v a b=>E i A v a (by simpa using b)⟩).mono fun e U ⟨L,K⟩=>?_
  subst L;rw[Tryz.params3] at h4
  match y,h4 with
  |[Z,d1],_=>
   exact⟨_,rfl,aB2 (tb:=4) Tryz.laidOut (by
    have:Tryz.f3.params.toList.all (fun t=>Tryz.prog.readableRec t&&decide (t < Tryz.prog.types.size))=true:=by kernel_rfl
    intro t x;have:=bAw.1 this t x;rw[aZp,decide_eq_true_eq] at this;exact this) rfl rfl Tryz.underlying4 r rfl K⟩
theorem gR{a b:Bool}(c:a=true)(d:b=true):(a&&b)=true:=by rw[c,d];rfl
theorem aXU:(Rows.tableOpensRow.wf (OpenSpec.ofChange Rows.tableOpensSpec))=true:=by kernel_rfl
theorem aXV:(laidOutB Tryz.pinned.checked.prog)=true:=by kernel_rfl
theorem aXW:(mapsRowed Tryz.pinned.checked.prog)=true:=by kernel_rfl
theorem aXX:(Tryz.f3.params.all (Tryz.pinned.checked.prog.readableRec ·))=true:=by kernel_rfl
theorem aXY:(namedTie Tryz.pinned.checked.prog Rows.tableOpensRow.named Rows.tableOpensSpec.vars)=true:=by kernel_rfl
theorem aXZ:((Rows.tableOpensRow.stops==[]))=true:=by kernel_rfl
theorem aX0:((Tryz.pinned.checked.prog.stops==[]))=true:=by kernel_rfl
theorem aX1:((Rows.tableOpensRow.knobs==[]))=true:=by kernel_rfl
theorem aX2:((Tryz.pinned.checked.prog.stopKnobs==[]))=true:=by kernel_rfl
theorem aX3:((Rows.tableOpensRow.inPlace==Tryz.pinned.checked.prog.inPlace 3))=true:=by kernel_rfl
theorem aV1:((Rows.tableOpensRow.unfollowed==Tryz.pinned.checked.prog.unfollowed 3))=true:=by kernel_rfl
theorem aV2:((Rows.tableOpensRow.recurses==Tryz.pinned.checked.prog.recurses 3))=true:=by kernel_rfl
theorem aV3:((Rows.tableOpensRow.named==Tryz.pinned.checked.prog.varsNamed 3))=true:=by kernel_rfl
theorem aV4:((Rows.tableOpensRow.maps==(Tryz.f3.params.toList++Rows.tableOpensSpec.plain.varTypes Tryz.pinned.checked.prog).any (Tryz.pinned.checked.prog.mapsRec ·)))=true:=by kernel_rfl
theorem aV5:((Rows.tableOpensRow.ifaces==(Tryz.f3.params.toList++Rows.tableOpensSpec.plain.varTypes Tryz.pinned.checked.prog).any (Tryz.pinned.checked.prog.ifacesRec ·)))=true:=by kernel_rfl
theorem aV6:((Rows.tableOpensRow.mapsOut==Tryz.pinned.checked.prog.mapsAmong Tryz.f3.resultTypes.toList))=true:=by kernel_rfl
theorem aV7:((Rows.tableOpensRow.loops==(Tryz.f3.params.toList++Rows.tableOpensSpec.plain.varTypes Tryz.pinned.checked.prog).any (Tryz.pinned.checked.prog.loopsFrom ·)))=true:=by kernel_rfl
theorem aV8:((Rows.tableOpensRow.wideKeys==(Tryz.f3.params.toList++Rows.tableOpensSpec.plain.varTypes Tryz.pinned.checked.prog++Tryz.f3.resultTypes.toList).any (Tryz.pinned.checked.prog.wideKeysFrom ·)))=true:=by kernel_rfl
theorem aV9:(Rows.tableOpensSpec.vars.all (Tryz.pinned.checked.prog.varReadable ·))=true:=by kernel_rfl
theorem aWa:(Tryz.f3.resultTypes.all (fun t=>Tryz.pinned.checked.prog.readableRec t&&decide (t<Tryz.pinned.checked.prog.types.size)))=true:=by kernel_rfl
theorem aWb:((Rows.tableOpensRow.ifacesOut==Tryz.f3.resultTypes.toList.any (Tryz.pinned.checked.prog.ifacesRec ·)))=true:=by kernel_rfl
theorem aWc:((Rows.tableOpensRow.loopsOut==Tryz.f3.resultTypes.toList.any (Tryz.pinned.checked.prog.loopsFrom ·)))=true:=by kernel_rfl
theorem aWd:((Rows.tableOpensRow.plainKeys==Tryz.pinned.checked.prog.plainKeys))=true:=by kernel_rfl
theorem aWe:(Rows.tableOpensRow.shortTexts.isNone)=true:=by kernel_rfl
theorem aWf:(Tryz.pinned.checked.prog.stopsHeard)=true:=by kernel_rfl
theorem aWg:(Tryz.pinned.checked.prog.mayEnter)=true:=by kernel_rfl
theorem aWh:((Rows.tableOpensRow.lifted==Tryz.pinned.checked.prog.liftsFinal))=true:=by kernel_rfl
theorem aWi:((Tryz.pinned.checked.prog.make==some Rows.tableOpensRow.make))=true:=by kernel_rfl
theorem aWj:((Rows.tableOpensRow.kinds==(if Rows.tableOpensRow.domain.isEmpty then [] else Tryz.f3.params.toList.map fun t=>match Tryz.pinned.checked.prog.underlying t with|some (.int k)=>some k|_=>none)))=true:=by kernel_rfl
theorem aWk:((Rows.tableOpensRow.pinned==Rows.tableOpensRow.pinnedBy))=true:=by kernel_rfl
theorem aWl:((Rows.tableOpensRow.veiled==(Tryz.f3.params.toList++Rows.tableOpensSpec.plain.varTypes Tryz.pinned.checked.prog++Tryz.f3.resultTypes.toList).any (Tryz.pinned.checked.prog.veiledRec ·)))=true:=by kernel_rfl
theorem aWm:(Rows.tableOpensRow.veiledFits Tryz.pinned.checked.prog Tryz.f3.params.toList (Tryz.f3.params.toList++Rows.tableOpensSpec.plain.varTypes Tryz.pinned.checked.prog++Tryz.f3.resultTypes.toList))=true:=by kernel_rfl
theorem aIN:joinedFacts Tryz.pinned.checked.prog 3 Tryz.f3 Rows.tableOpensSpec Rows.tableOpensRow=true:=(gR (gR (gR (gR (gR (gR (gR (gR (gR (gR (gR (gR (gR (gR (gR (gR (gR (gR (gR (gR (gR (gR (gR (gR (gR (gR (gR (gR (gR (gR (gR aXU aXV) aXW) aXX) aXY) aXZ) aX0) aX1) aX2) aX3) aV1) aV2) aV3) aV4) aV5) aV6) aV7) aV8) aV9) aWa) aWb) aWc) aWd) aWe) aWf) aWg) aWh) aWi) aWj) aWk) aWl) aWm)
theorem Ha:Rows.TableOpensSaid:=
 OpenClaim.holds_of_wide 3 Tryz.f3 rfl rfl rfl rfl rfl rfl rfl ⟨rfl,rfl,rfl,rfl,rfl⟩ rfl rfl rfl rfl rfl (by kernel_rfl) Tryz.func3 aIN
  (of_decide_eq_true (by kernel_rfl)) (by unfold Func.isWrapper;first|(rw[if_pos (by decide +kernel)];kernel_rfl)|(rw[if_neg (by decide +kernel)];exact⟨rfl,rfl⟩))
  (fun os a H enc _=>Ek os a H enc)
theorem Fs(f:FuncId)(b:Func)(hf:Tryz.pinned.checked.prog.funcNamed "depository/depositorylaw11.TableOpens"=some f)(c:Tryz.pinned.checked.prog.funcs[f]?=some b):false=Tryz.pinned.checked.prog.looks []/\∀(j:Nat) t,b.params[j]?=some t->Tryz.pinned.checked.prog.wantsStandIn t=false:=by
 obtain rfl:f=3:=Option.some.inj ((show Tryz.prog.funcNamed "depository/depositorylaw11.TableOpens"=some 3 by kernel_rfl).symm.trans hf) |>.symm
 obtain rfl:b=Tryz.f3:=(Option.some.inj (Tryz.func3.symm.trans c)).symm;refine⟨by kernel_rfl,fun j t d=>?_⟩
 have a:Tryz.f3.params.toList.all (fun t=>!Tryz.prog.wantsStandIn t)=true:=by kernel_rfl
 have:=bAw.1 a t (by simpa using Array.mem_of_getElem? d);have e:Tryz.prog.wantsStandIn t=false:=by simpa using this
 exact e
theorem tableOpens_holds:Rows.TableOpensCardSaid:=
 Claim7.holds_tied_plain_at .later [] _ _ _ _ Ha (fun _ h=>by cases h) (by kernel_rfl) (fun _ h=>by cases h) tableOpens_row_tie rfl ⟨rfl,rfl⟩ (by kernel_rfl) rfl Fs G8
