/- TableReads returns true for every input, and each argument reads afterwards as it read before; the variables that the row lists are laid by the program's text. Conditions: none. -/
import Derived.Test.YtgdjbbnicgfohabGreatDoorQc
import Derived.Test.YtgdjbbnicgfohabGreatDoorPp
import Derived.Test.YtgdjbbnicgfohabGreatDoorMf
import Derived.Test.YtgdjbbnicgfohabGreatDoorPa
namespace Go.Proofs.YtgdjbbnicgfohabGreatDoor
set_option maxHeartbeats 8000000
set_option linter.unusedSimpArgs false
set_option linter.unusedVariables false
set_option maxRecDepth 4000
section
variable {G:aF}{bb:Bool}
abbrev vwQ(x:Bt)(a:L aW)(N:Int):AV:=.agg [.dc (ci x.cl),.dc (ci x.tb),.dc (ci x.mi),.dc (ci x.lg),.dc (ci x.lc),.dc (ci x.se),.dc (.slc (a.map aW.e)),.dc (ci N)]
theorem Zk{B:aO}(s:L Int)(g:s.length<=200000)(x:Bt)(b:L aW)(N:Int)(j:sO b)(k a c:Nat)(n:k<=1000)(d:2*k+1<(tO b).length)(l:(tO b).getD (2*k) 0=a)(m:(tO b).getD (2*k+1) 0=c)(e:a*256+256<=s.length)(f:c*256+256<=s.length):EV G (Tb B) 57 [sv s,vwQ x b N,vi k] []=some (sv (Bc s a c),[]):=by
 have t:=Ke (G:=G) (B:=B) b j;have q:=aBJ (G:=G) (B:=B) s a e g;have r:=aBJ (G:=G) (B:=B) s c f g;generalize tO b=C at *;have h:C[2*k]?=some (a:Int):=by rw[<- l,cE C (2*k) (by omega),aZJ (by omega)]
 have i:C[2*k+1]?=some (c:Int):=by rw[<- m,cE C (2*k+1) d,aZJ d]
 have o:(2*(k:Int)).toNat=2*k:=by omega
 have p:(2*(k:Int)+1).toNat=2*k+1:=by omega
 have v:(2*(k:Int))<C.length:=by omega
 have w:(2*(k:Int)+1)<C.length:=by omega
 have u:2*k<C.length:=by omega
 unfold Bc;have y:(He s a).length=256:=Be e;have z:(He s c).length=256:=Be f;generalize He s a=U at *;generalize He s c=W at *;refine aB rfl ?_;simp (maxSteps:=2000000) (disch:=first|omega|(simp only[aZB,aZC,aZD,aZA,aA,aZI,aZF,aZL,aC,aS,lH,lf]<;>omega)|fail) only[go_sem,h57c,t,q,r,aC,aZA,tL,o,p,v,w,u,d,h,i]
theorem aI6{B:aO}(s:L Int)(c:s.length<=200000)(x:Bt)(d:L aW)(N:Int)(k:Nat)(b:k<=1000)(f:0<=x.mi)(h:(x.mi+2*k)*256+512<=s.length):EV G (Tb B) 58 [sv s,vwQ x d N,vi k] []=some (sv (miB s x k),[]):=by
 have a:=Rb (G:=G) (B:=B) s (x.mi.toNat+2*k) (by omega) c;have e:((x.mi.toNat+2*k:Nat):Int)=x.mi+2*k:=by omega
 rw[e] at a;unfold miB;generalize Bc s (x.mi.toNat+2*k) (x.mi.toNat+2*k+1)=U at *;refine aB rfl ?_;simp (maxSteps:=2000000) (disch:=omega) only[go_sem,h58c,a]
theorem aI7(s:L Int)(a:aI s)(d:s.length<=200000)(n:Int):EV G (T5 G bb) 27 [sv s,vi n] []=some (vi (Q4 s n),[]):=by
 have o:=Rd (G:=G) (bb:=bb) s a d;unfold Q4;unfold vwV at o;by_cases h:nW s=0;rw[if_pos h] at o;rw[if_neg (not_not_intro h)];have w:=t5 (b:=bb) (bN (G:=G) (B:=eL G bb) n 0 ((oT s:Int)-1));generalize decide (0<=n/\n<=(oT s:Int)-1)=W at *;have f:oT s<=1000:=by
  obtain⟨_,_,c⟩:=kX a h;have:=c.ln;unfold oT;omega
 generalize oT s=e at *;refine aB rfl ?_;cases W;simp (maxSteps:=2000000) (disch:=omega) only[go_sem,h27c,o,w,fF];simp (maxSteps:=2000000) (disch:=omega) only[go_sem,h27c,o,w,eB];rw[if_neg h] at o;rw[if_pos h];refine aB rfl ?_;simp (maxSteps:=2000000) (disch:=omega) only[go_sem,h27c,o,h]
theorem aWn{s:L Int}(b:aI s)(h:nW s=0):sO (mW s).rs/\cC (mW s).rs<=4096/\∀q∈(mW s).rs,(-1<=q.s/\q.s<=1000)/\(0<=q.n/\q.n<=4096):=by
 obtain⟨e,_,_⟩:=kX b h;obtain⟨f,c,h3,_⟩:=Za e;obtain⟨d,a⟩:=Lg b c h3;exact Bg (qO d a)
end
section
variable {G:aF}{bb:Bool}
theorem aWo(s:L Int)(x:Bt)(C:L Int)(k:Nat):Gp s x C k=if (dQ (Wk s C k)).2.2≠0/\k<4/\(dQ (miB s x k)).2.2=0 then dQ (miB s x k) else dQ (Wk s C k):=by
 unfold Gp Rh;change (if (dQ (Wk s C k)).2.2=0 then dQ (Wk s C k) else if (dQ (if k<4 then miB s x k else Wk s C k)).2.2=0 then dQ (if k<4 then miB s x k else Wk s C k) else dQ (Wk s C k))=_
 by_cases c:(dQ (Wk s C k)).2.2=0;rw[if_pos c,if_neg (fun h=>h.1 c)]
 rw[if_neg c];by_cases h4:k<4;rw[if_pos h4];by_cases d:(dQ (miB s x k)).2.2=0;rw[if_pos d,if_pos ⟨c,h4,d⟩];rw[if_neg d,if_neg (fun h=>d h.2.2)]
 rw[if_neg h4,if_neg c,if_neg (fun h=>h4 h.2.1)]
theorem aBL(s:L Int)(l:aI s)(v:s.length<=200000)(h:nW s=0)(k:Nat)(T:k<oT s):EV G (Tb (eL G bb)) 29 [sv s,vwQ (bB s).1 (mW s).rs (oT s),vi k] []=some (Y7 (Gp s (bB s).1 (jU s) k),[]):=by
 obtain⟨U,V,m⟩:=kX l h;obtain⟨A,R,S⟩:=aWn l h;have D:=m.ln;have b:=m.b;have J:=b.cl;have K:=b.n;have M:=b.mi;have C:oT s=(jU s).length / 2:=rfl;obtain⟨a,q,H,I,_⟩:=m.at (k:=2*k) (by omega);obtain⟨c,t,N,O,_⟩:=m.at (k:=2*k+1) (by omega);have j:Wk s (jU s) k=Bc s a c:=by
  unfold Wk;rw[q,t];rfl
 have g:EV G (Tb (eL G bb)) 57 [sv s,vwQ (bB s).1 (mW s).rs (oT s),vi k] []=some (sv (Wk s (jU s) k),[]):=by
  rw[j];exact (Zk s v _ _ _ A k a c (by omega) (show _<(jU s).length by omega) q t (by omega) (by omega))
 have i:=(upT (Ii (G:=G) (bb:=bb) (Wk s (jU s) k) (kD l _ _) (by rw[j,Bf (by omega) (by omega)];omega)));rw[aWo];by_cases h4:k<4;have p:EV G (Tb (eL G bb)) 58 [sv s,vwQ (bB s).1 (mW s).rs (oT s),vi k] []=some (sv (miB s (bB s).1 k),[]):=
  (aI6 s v _ _ _ k (by omega) (by omega) (by omega))
 have dM:=(upT (Ii (G:=G) (bb:=bb) (miB s (bB s).1 k) (kD l _ _) (by unfold miB;rw[Bf (by omega) (by omega)];omega)));have d:(k:Int)<4:=by omega
 clear j;generalize dQ (Wk s (jU s) k)=P at *;generalize dQ (miB s (bB s).1 k)=Q at *;generalize Wk s (jU s) k=y at *;generalize miB s (bB s).1 k=F at *;generalize oT s=w at *;generalize (bB s).1=x at *;generalize (mW s).rs=E at *;obtain⟨r,u,e⟩:=P;obtain⟨W,X,z⟩:=Q;refine aB rfl ?_;by_cases f:e=0
 ·rw[if_neg (fun h=>h.1 f)]
  simp (maxSteps:=2000000) (disch:=omega) only[go_sem,h29c,g,i,p,dM,eq_true f,d,aZT,aZP];try rfl
 by_cases o:z=0
 ·rw[if_pos ⟨f,h4,o⟩];subst o;simp (maxSteps:=2000000) (disch:=omega) only[go_sem,h29c,g,i,p,dM,f,d,aZT,aZP];try rfl
 ·rw[if_neg (fun h=>o h.2.2)]
  simp (maxSteps:=2000000) (disch:=omega) only[go_sem,h29c,g,i,p,dM,f,o,d,aZT,aZP];try rfl
 rw[if_neg (fun h=>h4 h.2.1)]
 have d:¬ (k:Int)<4:=by omega
 clear j;generalize dQ (Wk s (jU s) k)=P at *;generalize Wk s (jU s) k=y at *;generalize oT s=w at *;generalize (bB s).1=x at *;generalize (mW s).rs=E at *;obtain⟨r,u,e⟩:=P;refine aB rfl ?_;by_cases f:e=0
 ·simp (maxSteps:=2000000) (disch:=omega) only[go_sem,h29c,g,i,eq_true f,d,aZT,aZP];try rfl
 ·simp (maxSteps:=2000000) (disch:=omega) only[go_sem,h29c,g,i,f,d,aZT,aZP];try rfl
theorem Wf(s:L Int)(a:aI s)(c:s.length<=200000)(n:Int):EV G (T5 G bb) 10 [sv s,vi n] []=some (Y7 (Q5 s n),[]):=by
 have d:=aI7 (G:=G) (bb:=bb) s a c n;have o:=Rd (G:=G) (bb:=bb) s a c;unfold Q5;by_cases h:Q4 s n=0
 ·rw[if_pos h];rw[h] at d;obtain⟨f,k,h3⟩:=aIA h;have g:=t5 (b:=bb) (aBL (G:=G) (bb:=bb) s a c f n.toNat h3);unfold vwV at o;rw[if_pos f] at o;rw[show ((n.toNat:Nat):Int)=n by omega] at g;generalize Gp s (bB s).1 (jU s) n.toNat=E at *;generalize oT s=j at *;generalize (bB s).1=x at *;generalize (mW s).rs=l at *;obtain⟨r,u,e⟩:=E;refine aB rfl ?_;simp (maxSteps:=2000000) (disch:=omega) only[go_sem,h10c,d,o,g,aZT,aZP];try rfl
 ·rw[if_neg h];generalize Q4 s n=i at *;refine aB rfl ?_;simp (maxSteps:=2000000) (disch:=omega) only[go_sem,h10c,d,h,aZT,aZP];try rfl
end
section
variable {G:aF}{bb:Bool}
theorem aR6{B:aO}(l:L Int)(c:l.length<=1000000):EV G (Tb B) 14 [vl (el l),vl (el l)] []=some (vb true,[]):=by
 refine aB rfl ?_;simp (maxSteps:=2000000) (disch:=omega) only[go_sem,h14c,aZA];rw[aR (fun k=>⟨(vl (el l)::vl (el l)::jk 3 (vi k::jk 20 [])),[]⟩) l.length ?_ ?_]
 simp (maxSteps:=2000000) (disch:=omega) only[go_sem,h14l0,aZA];rfl;intro k b;have a:(k:Int)<l.length:=by omega
 simp (maxSteps:=2000000) (disch:=omega) only[go_sem,h14l0,aZA,tL,b,a]
noncomputable def T1(f:FuncId)(h:HF)(C:aO):HT:=⟨fun g=>if g=f then some h else none,C⟩
theorem t1{f0:FuncId}{b:HF}{T:HT}{f:FuncId}{a:L AV}{hp:L aD}{r:AV×L aD}(h:EV G T f a hp=some r)(c:f≠f0:=by decide):EV G (T1 f0 b (EV G T)) f a hp=some r:=jF (by show (if f=f0 then some b else none)=none;exact if_neg c) h
end
section
variable {G:aF}{bb:Bool}
theorem aI8{s:L Int}(a:aI s)(x:Bt)(C:L Int)(k:Nat):(Gp s x C k).1.W/\((Gp s x C k).2.2=0->gJ (Gp s x C k).1=0):=by
 unfold Gp;refine aIy _ _ (kD a _ _) ?_;split;exact kD a _ _;exact kD a _ _
theorem Zl{s:L Int}(a:aI s)(n:Int):(Q5 s n).1.W/\((Q5 s n).2.2=0->gJ (Q5 s n).1=0):=by
 unfold Q5;by_cases h:Q4 s n=0;rw[if_pos h];exact aI8 a _ _ _;rw[if_neg h];exact⟨cK.nil_W,fun q=>absurd q h⟩
theorem aOj{r:cK}(h:gJ r=0):EV G (T5 G bb) 31 [r.v] []=some (vb (fE r.fl),[]):=by
 have a:=(A4 h).num;exact t5 (upS (Qs (G:=G) (bb:=bb) r (by omega)))
theorem aI9(s:L Int)(f:aI s)(j:s.length<=200000)(a b:Int):EV G (T5 G bb) 12 [sv s,rfv a b] []=some (rcv (Mh s a b),[]):=by
 have q:=Wf (G:=G) (bb:=bb) s f j a;have i:=Zl f a;unfold Mh;generalize Q5 s a=E at *;obtain⟨r,k,e⟩:=E;simp only at q i ⊢;by_cases h:e=0;rw[if_neg (not_not_intro h)];have c:=aOj (G:=G) (bb:=bb) (i.2 h);subst h;cases g:fE r.fl
 ·rw[g] at c;rw[if_neg (fun h=>by cases h.1)]
  refine aB rfl ?_;simp (maxSteps:=2000000) (disch:=omega) only[go_sem,h12c,q,c,aZT,aZP];try rfl
 rw[g] at c;by_cases d:r.sq=b
 ·rw[if_pos ⟨rfl,d⟩];refine aB rfl ?_;simp (maxSteps:=2000000) (disch:=omega) only[go_sem,h12c,q,c,eq_true d,aZT,aZP];try rfl
 ·rw[if_neg (fun h=>d h.2)]
  refine aB rfl ?_;simp (maxSteps:=2000000) (disch:=omega) only[go_sem,h12c,q,c,d,aZT,aZP];try rfl
 ·rw[if_pos h];refine aB rfl ?_;simp (maxSteps:=2000000) (disch:=omega) only[go_sem,h12c,q,h,aZT,aZP];try rfl
theorem aR7(s:L Int)(x:Bt)(C:L Int)(n k:Nat)(h:k<n):(Lj s x C n).getD k false=usB s x C k:=by
 unfold Lj;rw[aZO,aZH,bAO h];rfl
theorem Ot(s:List Int)(j:aI s)(r:s.length<=200000):EV G (T5 G bb) 13 [sv s] []=some (inV (V8 s),[]):=by
 have o:=Rd (G:=G) (bb:=bb) s j r;unfold vwV at o;unfold V8 Hf;by_cases h:nW s=0
 ·rw[if_pos h] at o;rw[if_neg (not_not_intro h)];obtain⟨N,O,C⟩:=kX j h;have D:=C.ln;have i:oT s=(jU s).length / 2:=rfl;have p:oT s<=96:=by omega
  have u:=fun k c=>t5 (b:=bb) (aBL (G:=G) (bb:=bb) s j r h k c)
  have J:∀k,(Gp s (bB s).1 (jU s) k).2.2=0->EV G (T5 G bb) 31 [(Gp s (bB s).1 (jU s) k).1.v] []=some (vb (usB s (bB s).1 (jU s) k),[]):=fun k c=>aOj ((aI8 j _ _ _).2 c)
  have L:∀ k,k < oT s->Ft (Lj s (bB s).1 (jU s) (oT s)) (k+1)=if usB s (bB s).1 (jU s) k=true then Ft (Lj s (bB s).1 (jU s) (oT s)) k++[(k:Int)] else Ft (Lj s (bB s).1 (jU s) (oT s)) k:=fun k c=>by
   rw[aOh,aR7 _ _ _ _ _ c]
  have y:=El (Lj s (bB s).1 (jU s) (oT s));have w:Ft (Lj s (bB s).1 (jU s) (oT s)) 0=[]:=rfl;have z:=Bi s (bB s).1 (jU s) (oT s);unfold usI;rw[<- i];clear i;generalize Lj s (bB s).1 (jU s) (oT s)=g at *;generalize usB s (bB s).1 (jU s)=A at *;generalize Gp s (bB s).1 (jU s)=R at *;generalize oT s=NN at *;generalize (bB s).1=x at *;generalize (mW s).rs=H at *;refine aB (h:=h13) rfl ?_;simp (maxSteps:=2000000) (disch:=omega) only[go_sem,h13c,o];rw[dE (fun k=>⟨(sv s::jk 3 (.one (.ptr 0 0)::jk 1 (.one (.bld 1 (Ft g k).length)::vi k::jk 34 []))),[.box [.dc (ci x.cl),.dc (ci x.tb),.dc (ci x.mi),.dc (ci x.lg),.dc (ci x.lc),.dc (ci x.se),.dc (.slc (H.map aW.e)),.dc (ci NN)],.arr 0 1 (el (Ft g k))]⟩) (fun k=>¬ (R k).2.2=0) NN ?_ ?_]
  rotate_left
  rw[w];rfl;intro k c t;have h3:=t k (aZE _);have l:=u k c;have h3:(R k).2.2=0:=Classical.not_not.1 h3;have m:=J k h3;have f:=L k c;have K:=y k;generalize Ft g (k+1)=M at *;generalize Ft g k=V at *;generalize R k=E at *;obtain⟨F,I,n⟩:=E;have h3:n=0:=h3;subst h3;have a:(k:Int)<NN:=by omega
  cases q:A k;rw[q] at m f;rw[if_neg (by decide)] at f;rw[f];simp (maxSteps:=2000000) (disch:=omega) only[go_sem,h13l0,a,l,m,aZT,aZP];rw[q] at m f;rw[if_pos rfl] at f;rw[f];simp (maxSteps:=2000000) (disch:=omega) only[go_sem,h13l0,a,l,m,aZT,aZP,aAW,aZB,aZA];obtain⟨c,hp,t⟩:=bD (fun k=>¬ (R k).2.2=0) NN
  generalize ix (fun k=>¬ (R k).2.2=0) NN=k at *
  by_cases d:k=NN;rw[if_pos d];subst d;dsimp only;rw[z];generalize Ft g k=V at *;simp (maxSteps:=2000000) (disch:=omega) only[go_sem,h13l0];rw[if_neg d];rcases hp with hp|⟨a,hp⟩
  exact absurd hp d;have l:=u k a;generalize Ft g k=V at *;generalize R k=E at *;obtain⟨F,I,n⟩:=E;have hp:¬ n=0:=hp;have a:(k:Int)<NN:=by omega
  simp (maxSteps:=2000000) (disch:=omega) only[go_sem,h13l0,a,l,hp,aZT,aZP];rfl
 ·rw[if_neg h] at o;rw[if_pos h];refine aB (h:=h13) rfl ?_;simp (maxSteps:=2000000) (disch:=omega) only[go_sem,h13c,o,h];try rfl
end
section
variable {G:aF}{bb:Bool}
theorem aBM{l:L Bool}{k n:Nat}:((k:Int)∈Ft l n)↔k<n/\l.getD k false=true:=by
 unfold Ft;rw[List.mem_map];constructor;rintro⟨j,c,e⟩;have e:j=k:=by
  have:(j:Int)=(k:Int):=e;omega
 subst e;have h:=List.mem_filter.1 c;exact⟨List.mem_range.1 h.1,h.2⟩;rintro⟨a,b⟩;exact⟨k,List.mem_filter.2 ⟨List.mem_range.2 a,b⟩,rfl⟩
theorem aR8{s:L Int}(d:aI s)(h:(Hf s).2=0):nW s=0/\(Hf s).1.length=oT s:=by
 have a:=Zb d h;unfold Hf at h a ⊢;by_cases b:nW s=0;rw[if_neg (not_not_intro b)] at h a ⊢;refine⟨b,?_⟩;by_cases c:usI s (bB s).1 (jU s)=oT s;rw[if_pos c];exact Bi _ _ _ _;rw[if_neg c] at a;exact absurd a (by show ¬ 16<=0;decide);rw[if_pos b] at h;exact absurd h b
theorem Re(s:L Int)(c:aI s)(v:s.length<=200000):EV G (T5 G bb) 15 [sv s] []=some (.tup [tI (frV s).1,tE (frV s).2],[]):=by
 have u:=Ot (G:=G) (bb:=bb) s c v;have o:=Rd (G:=G) (bb:=bb) s c v;have a:=Zb (s:=s) c;have y:=aR8 (s:=s) c;have n:=Ie s c;unfold V8 at u;unfold frV;unfold vwV at o;generalize Hf s=V at *;obtain⟨l,e⟩:=V;dsimp only at u a y n ⊢;by_cases h:e=0
 ·rw[if_neg (not_not_intro h)];obtain⟨D,m⟩:=y h;have a:=a h;subst h;rw[if_pos D,<- m] at o;have t:∀k,16+k<l.length->EV G (T5 G bb) 32 [vl (el (Ft l l.length)),vi (16+(k:Int))] []=some (vb (l.getD (16+k) true),[]):=fun k d=>by
   have q:=t5 (b:=bb) (Tt (G:=G) (B:=eL G bb) (Ft l l.length) (((16+k:Nat):Int)) (by have:=El l l.length;omega));have e:decide ((((16+k:Nat):Int))∈Ft l l.length)=l.getD (16+k) true:=by
    have i:l.getD (16+k) true=l[16+k]:=by simp[d]
    have p:l.getD (16+k) false=l[16+k]:=by simp[d]
    rw[i];cases r:l[16+k]
    ·rw[decide_eq_false];intro E;have:=(aBM.1 E).2;rw[p,r] at this;cases this
    ·rw[decide_eq_true];exact aBM.2 ⟨d,by rw[p,r]⟩
   rw[e] at q;exact q
  have I:=El l l.length;have C:ixB (l.drop 16)=if ix (fun k=>l.getD (16+k) true=false) (l.length - 16)=l.length - 16 then -1 else ((ix (fun k=>l.getD (16+k) true=false) (l.length - 16):Nat):Int):=by
   unfold ixB;have i:(fun k=>(l.drop 16).getD k true=false)=fun k=>l.getD (16+k) true=false:=by
    funext k;rw[aZO,aZ9,<- aZO]
   rw[i,aZL]
  rw[C];obtain⟨M,H⟩:∃M,l.length=16+M:=⟨l.length-16,by omega⟩;have j:l.length-16=M:=by omega
  rw[j];generalize (bB s).1=x at *;generalize (mW s).rs=F at *;generalize Ft l l.length=T at *;have z:((l.length:Nat):Int)=16+(M:Int):=by omega
  rw[z] at o;refine aB rfl ?_;simp (maxSteps:=2000000) (disch:=omega) only[go_sem,h15c,u,o];rw[dE (fun k=>⟨(jk 4 (vl (el T)::jk 1 (.one (.ptr 0 0)::jk 1 (vi (16+(k:Int))::jk 24 [])))),[.box [.dc (ci x.cl),.dc (ci x.tb),.dc (ci x.mi),.dc (ci x.lg),.dc (ci x.lc),.dc (ci x.se),.dc (.slc (F.map aW.e)),.dc (ci (16+(M:Int)))]]⟩) (fun k=>l.getD (16+k) true=false) M ?_ ?_]
  rotate_left
  rfl;intro k d w;have h3:=w k (aZE _);have q:=t k (by omega);have h4:l.getD (16+k) true=true:=by simpa using h3
  rw[h4] at q;have A:(16:Int)+((k+1:Nat):Int)=16+k+1:=by omega
  have f:(16:Int)+k<16+M:=by omega
  rw[A];simp (maxSteps:=2000000) (disch:=omega) only[go_sem,h15l0,q,f];obtain⟨d,hp,w⟩:=bD (fun k=>l.getD (16+k) true=false) M
  generalize ix (fun k=>l.getD (16+k) true=false) M=K at *
  rcases hp with rfl|⟨f,hp⟩;rw[if_pos rfl,if_pos (by decide)];simp (maxSteps:=2000000) (disch:=omega) only[go_sem,h15l0]
  rw[if_neg (show ¬ K=M by omega),if_neg (by omega)];have q:=t K (by omega);rw[hp] at q;have g:(16:Int)+K<16+M:=by omega
  simp (maxSteps:=2000000) (disch:=omega) only[go_sem,h15l0,q,g]
 rw[if_pos h];refine aB rfl ?_;simp (maxSteps:=2000000) (disch:=omega) only[go_sem,h15c,u,h]
end
section
variable {G:aF}{bb:Bool}
noncomputable abbrev TLr(G:aF)(b:Bool):HT:=T1 3 h3 (EV G (T5 G b))
theorem aR9{b:Bool}:Xr Tryz.prog (TLr G b):=by
 intro f h hf;change (if f=3 then some h3 else none)=some h at hf
 split at hf;rename_i e;subst e;injection hf with hf;subst hf;exact⟨by kernel_rfl,_,Tryz.func3,Tryz.ntmps3,h3_ok,aTi⟩
 cases hf
theorem trd{b:Bool}{f:FuncId}{a:L AV}{hp:L aD}{r:AV×L aD}(h:EV G (T5 G b) f a hp=some r)(c:f≠3:=by decide):EV G (TLr G b) f a hp=some r:=t1 h c
theorem aSa{s:L Int}(c:aI s)(a b:Int):(Mh s a b).1.W:=by
 unfold Mh;split;exact cK.nil_W;split;exact (Zl c a).1;exact cK.nil_W
theorem aNB(g:G9 G)(e:EV G (T5 G bb) 4 [] []=some (vb true,[]))(s:L Int)(c:aI s)(a b:Int):EV G (TLr G bb) 3 [sv s,rfv a b] []=some (vb true,[]):=by
 have i:=trd (t5 (b:=bb) (aMW (G:=G) (B:=eL G bb) s));replace e:=trd e;by_cases h:s.length<=24576\/s.length % 256≠0/\s.length<=200000;rw[decide_eq_true h] at i;have d:s.length<=200000:=by omega
 have p:=trd (t5 (Oj (bb:=bb) g s c d a));have j:=trd (t5 (Om (bb:=bb) g s c d a b));have v:=trd (t5 (aID (bb:=bb) g s c d));have l:=trd (t5 (Gq (bb:=bb) g s c d));have q:=trd (Wf (G:=G) (bb:=bb) s c d a);have k:=trd (aI9 (G:=G) (bb:=bb) s c d a b);have w:=trd (Ot (G:=G) (bb:=bb) s c d);have m:=trd (Re (G:=G) (bb:=bb) s c d);have t:=trd (t5 (upS (Oa (G:=G) (bb:=bb) (Q5 s a).1 (Zl c a).1)));have u:=trd (t5 (upS (Oa (G:=G) (bb:=bb) (Mh s a b).1 (aSa c a b))));have n:(V8 s).1.length<=1000000:=by
  have:=Ie s c;have:=El (Hf s).1 (Hf s).1.length;show (Ft _ _).length<=_;omega
 have o:=trd (t5 (b:=bb) (aR6 (G:=G) (B:=eL G bb) (V8 s).1 n));generalize Q5 s a=R at *;generalize Mh s a b=F at *;generalize V8 s=U at *;generalize frV s=V at *;obtain⟨r,z,y⟩:=R;obtain⟨f,x⟩:=F;obtain⟨C,A⟩:=U;obtain⟨E,D⟩:=V;refine aB (h:=h3) rfl ?_;simp (maxSteps:=2000000) (disch:=omega) only[go_sem,h3c,e,i,p,j,v,l,q,k,w,m,t,u,o,aZ5,aZ6,aZT,aZP];rw[decide_eq_false h] at i;refine aB (h:=h3) rfl ?_;simp (maxSteps:=2000000) (disch:=omega) only[go_sem,h3c,e,i,aZ5,aZ6]
end
section
variable {G:aF}{B:aO}
theorem qcR{f:FuncId}{a:L AV}{r:AV}(h:EV GF (TLr GF true) f a []=some (r,[])):QC Tryz.prog GF f a r:=aAE aR9 (aNz fun _=>aDT aWg) h
theorem aYj{G:aF}:EV G (T5 G true) 4 [] []=some (vb true,[]):=t5 aWi
theorem aNC:Tryz.prog.cellsOf 23=2:=by kernel_rfl
theorem aND{m:Nat}{av:AV}(h:okA Tryz.prog (m+2) 23 av):∃a b:Int,av=rfv a b:=by
 obtain⟨ds,rfl,g⟩:=aIX (by kernel_rfl) h;rw[Fx,Tryz.underlying23] at g;obtain⟨hl,hf⟩:=g;rw[aNC] at hl
 match ds,hl with
 |[x0,x1],_=>
  have h0:Fx Tryz.prog (m+1) 3 [x0]:=by
   have h:Fx Tryz.prog (m+1) 3 (([x0,x1].drop 0).take (Tryz.prog.cellsOf 3)):=hf 0 _ rfl;rw[Ra] at h;exact h
  have h1:Fx Tryz.prog (m+1) 3 [x1]:=by
   have h:Fx Tryz.prog (m+1) 3 (([x0,x1].drop 1).take (Tryz.prog.cellsOf 3)):=hf 1 _ rfl;rw[Ra] at h;exact h
  obtain⟨i0,rfl,_⟩:=aIZ h0;obtain⟨i1,rfl,_⟩:=aIZ h1;exact⟨i0,i1,rfl⟩
end
section
variable {G:aF}{bb:Bool}
open Go.ChangeShapes Go.WideShapes Go.ChangeAt Go.RowKit
set_option maxRecDepth 100000 in
theorem Eo(os:Os)(d:os.Started)(H:Type)(enc:TypeId×Value->H):ReturnsInHanded {} Tryz.checked os 3 .any (fun w c=>(Rows.tableReadsSpec.pre enc Tryz.prog Tryz.f3 [] false w c/\laidMetH Tryz.prog Rows.tableReadsRow.laid w)/\sizedMet enc Tryz.prog Tryz.f3 (OpenSpec.ofChange Rows.tableReadsSpec) false w c) (Rows.tableReadsSpec.post enc Tryz.prog Tryz.f3 false true false false):=by
 refine Lp (C:=Tryz.checked) (X:=fun w _=>laidMetH Tryz.prog Rows.tableReadsRow.laid w) (fun _ _ _ N h=>h.of_heap N) Tryz.own d (by kernel_rfl) Tryz.func3
  (ChangeSpec.witness_shaped (enc:=enc) (C:=Tryz.checked) (os:=os) (X:=fun w _=>laidMetH Tryz.prog Rows.tableReadsRow.laid w) false (World.laidAll Tryz.prog os Rows.tableReadsRow.laid) #[.string ⟨#[]⟩,.agg #[.int .i64 0,.int .i64 0]] 8 (World.laidAll_os _ _ _)
   (World.shaped_of_ZipB (by kernel_rfl) (by kernel_rfl)) (by kernel_rfl) (by kernel_rfl) (by kernel_rfl)
   (by rw[MakeChecks.laidMetH_plain _ _ _ (by kernel_rfl)];exact laidMet_laidAll _ (by kernel_rfl) (by kernel_rfl))) ?_
 intro W g c y gs l f z I R;have k:∀(j:Nat) t v,Tryz.f3.params[j]?=some t->c[j]?=some v->Value.okWide Tryz.prog W .any g t v:=f;have r:=z;obtain⟨p,q,o,J,rfl,M,O⟩:=z;have F:DataW.TrodAll enc Tryz.prog W 0 (fun _=>true) true Tryz.f3.params.toList c.toList y p:=o
 obtain⟨rfl,rfl⟩:=trodVars_none J;obtain⟨n,D,E,h3,h4⟩:=Oq (m:=7) F (fun j t v a b=>k j t v (by simpa using a) (by simpa using b)) (by
  have:Tryz.f3.params.toList.all (Lo Tryz.prog 7)=true:=by kernel_rfl
  exact fun t x=>bAW.1 this t x)
 rw[Tryz.params3] at h3
 match n,h3 with
 |[V,Y],h3=>
  obtain⟨k0,T,_⟩:=h3;obtain⟨s,rfl,Q,S⟩:=aI0 (m:=6) k0;obtain⟨a,b,rfl⟩:=aND (m:=5) T;have u:fZ (iX W) GF:=aWh I;have P:=qcR (aNB (bb:=true) aWg aYj s Q a b);refine (aCh P u ⟨by simpa using D,fun i A v a b=>E i A v a (by simpa using b)⟩).mono fun e U ⟨L,K⟩=>?_
  subst L;rw[Tryz.params3] at h4
  match y,h4 with
  |[Z,d1],_=>
   exact⟨_,rfl,aCi (tb:=4) Tryz.laidOut (by
    have:Tryz.f3.params.toList.all (fun t=>Tryz.prog.readableRec t&&decide (t < Tryz.prog.types.size))=true:=by kernel_rfl
    intro t x;have:=bAW.1 this t x;rw[aZQ,decide_eq_true_eq] at this;exact this) rfl rfl Tryz.underlying4 r rfl K⟩
theorem gV{a b:Bool}(c:a=true)(d:b=true):(a&&b)=true:=by rw[c,d];rfl
theorem aYk:(Rows.tableReadsRow.wf (OpenSpec.ofChange Rows.tableReadsSpec))=true:=by kernel_rfl
theorem aYl:(laidOutB Tryz.pinned.checked.prog)=true:=by kernel_rfl
theorem aYm:(mapsRowed Tryz.pinned.checked.prog)=true:=by kernel_rfl
theorem aYn:(Tryz.f3.params.all (Tryz.pinned.checked.prog.readableRec ·))=true:=by kernel_rfl
theorem aYo:(namedTie Tryz.pinned.checked.prog Rows.tableReadsRow.named Rows.tableReadsSpec.vars)=true:=by kernel_rfl
theorem aYp:((Rows.tableReadsRow.stops==[]))=true:=by kernel_rfl
theorem aYq:((Tryz.pinned.checked.prog.stops==[]))=true:=by kernel_rfl
theorem aYr:((Rows.tableReadsRow.knobs==[]))=true:=by kernel_rfl
theorem aYs:((Tryz.pinned.checked.prog.stopKnobs==[]))=true:=by kernel_rfl
theorem aYt:((Rows.tableReadsRow.inPlace==Tryz.pinned.checked.prog.inPlace 3))=true:=by kernel_rfl
theorem aWp:((Rows.tableReadsRow.unfollowed==Tryz.pinned.checked.prog.unfollowed 3))=true:=by kernel_rfl
theorem aWq:((Rows.tableReadsRow.recurses==Tryz.pinned.checked.prog.recurses 3))=true:=by kernel_rfl
theorem aWr:((Rows.tableReadsRow.named==Tryz.pinned.checked.prog.varsNamed 3))=true:=by kernel_rfl
theorem aWs:((Rows.tableReadsRow.maps==(Tryz.f3.params.toList++Rows.tableReadsSpec.plain.varTypes Tryz.pinned.checked.prog).any (Tryz.pinned.checked.prog.mapsRec ·)))=true:=by kernel_rfl
theorem aWt:((Rows.tableReadsRow.ifaces==(Tryz.f3.params.toList++Rows.tableReadsSpec.plain.varTypes Tryz.pinned.checked.prog).any (Tryz.pinned.checked.prog.ifacesRec ·)))=true:=by kernel_rfl
theorem aWu:((Rows.tableReadsRow.mapsOut==Tryz.pinned.checked.prog.mapsAmong Tryz.f3.resultTypes.toList))=true:=by kernel_rfl
theorem aWv:((Rows.tableReadsRow.loops==(Tryz.f3.params.toList++Rows.tableReadsSpec.plain.varTypes Tryz.pinned.checked.prog).any (Tryz.pinned.checked.prog.loopsFrom ·)))=true:=by kernel_rfl
theorem aWw:((Rows.tableReadsRow.wideKeys==(Tryz.f3.params.toList++Rows.tableReadsSpec.plain.varTypes Tryz.pinned.checked.prog++Tryz.f3.resultTypes.toList).any (Tryz.pinned.checked.prog.wideKeysFrom ·)))=true:=by kernel_rfl
theorem aWx:(Rows.tableReadsSpec.vars.all (Tryz.pinned.checked.prog.varReadable ·))=true:=by kernel_rfl
theorem aWy:(Tryz.f3.resultTypes.all (fun t=>Tryz.pinned.checked.prog.readableRec t&&decide (t<Tryz.pinned.checked.prog.types.size)))=true:=by kernel_rfl
theorem aWz:((Rows.tableReadsRow.ifacesOut==Tryz.f3.resultTypes.toList.any (Tryz.pinned.checked.prog.ifacesRec ·)))=true:=by kernel_rfl
theorem aWA:((Rows.tableReadsRow.loopsOut==Tryz.f3.resultTypes.toList.any (Tryz.pinned.checked.prog.loopsFrom ·)))=true:=by kernel_rfl
theorem aWB:((Rows.tableReadsRow.plainKeys==Tryz.pinned.checked.prog.plainKeys))=true:=by kernel_rfl
theorem aWC:(Rows.tableReadsRow.shortTexts.isNone)=true:=by kernel_rfl
theorem aWD:(Tryz.pinned.checked.prog.stopsHeard)=true:=by kernel_rfl
theorem aWE:(Tryz.pinned.checked.prog.mayEnter)=true:=by kernel_rfl
theorem aWF:((Rows.tableReadsRow.lifted==Tryz.pinned.checked.prog.liftsFinal))=true:=by kernel_rfl
theorem aWG:((Tryz.pinned.checked.prog.make==some Rows.tableReadsRow.make))=true:=by kernel_rfl
theorem aWH:((Rows.tableReadsRow.kinds==(if Rows.tableReadsRow.domain.isEmpty then [] else Tryz.f3.params.toList.map fun t=>match Tryz.pinned.checked.prog.underlying t with|some (.int k)=>some k|_=>none)))=true:=by kernel_rfl
theorem aWI:((Rows.tableReadsRow.pinned==Rows.tableReadsRow.pinnedBy))=true:=by kernel_rfl
theorem aWJ:((Rows.tableReadsRow.veiled==(Tryz.f3.params.toList++Rows.tableReadsSpec.plain.varTypes Tryz.pinned.checked.prog++Tryz.f3.resultTypes.toList).any (Tryz.pinned.checked.prog.veiledRec ·)))=true:=by kernel_rfl
theorem aWK:(Rows.tableReadsRow.veiledFits Tryz.pinned.checked.prog Tryz.f3.params.toList (Tryz.f3.params.toList++Rows.tableReadsSpec.plain.varTypes Tryz.pinned.checked.prog++Tryz.f3.resultTypes.toList))=true:=by kernel_rfl
theorem aJa:joinedFacts Tryz.pinned.checked.prog 3 Tryz.f3 Rows.tableReadsSpec Rows.tableReadsRow=true:=(gV (gV (gV (gV (gV (gV (gV (gV (gV (gV (gV (gV (gV (gV (gV (gV (gV (gV (gV (gV (gV (gV (gV (gV (gV (gV (gV (gV (gV (gV (gV aYk aYl) aYm) aYn) aYo) aYp) aYq) aYr) aYs) aYt) aWp) aWq) aWr) aWs) aWt) aWu) aWv) aWw) aWx) aWy) aWz) aWA) aWB) aWC) aWD) aWE) aWF) aWG) aWH) aWI) aWJ) aWK)
theorem Hh:Rows.TableReadsSaid:=
 OpenClaim.holds_of_wide 3 Tryz.f3 rfl rfl rfl rfl rfl rfl rfl ⟨rfl,rfl,rfl,rfl,rfl⟩ rfl rfl rfl rfl rfl (by kernel_rfl) Tryz.func3 aJa
  (of_decide_eq_true (by kernel_rfl)) (by unfold Func.isWrapper;first|(rw[if_pos (by decide +kernel)];kernel_rfl)|(rw[if_neg (by decide +kernel)];exact⟨rfl,rfl⟩))
  (fun os a H enc _=>Eo os a H enc)
theorem F3(f:FuncId)(b:Func)(hf:Tryz.pinned.checked.prog.funcNamed "depository/depositorylaw11.TableReads"=some f)(c:Tryz.pinned.checked.prog.funcs[f]?=some b):false=Tryz.pinned.checked.prog.looks []/\∀(j:Nat) t,b.params[j]?=some t->Tryz.pinned.checked.prog.wantsStandIn t=false:=by
 obtain rfl:f=3:=Option.some.inj ((show Tryz.prog.funcNamed "depository/depositorylaw11.TableReads"=some 3 by kernel_rfl).symm.trans hf) |>.symm
 obtain rfl:b=Tryz.f3:=(Option.some.inj (Tryz.func3.symm.trans c)).symm;refine⟨by kernel_rfl,fun j t d=>?_⟩
 have a:Tryz.f3.params.toList.all (fun t=>!Tryz.prog.wantsStandIn t)=true:=by kernel_rfl
 have:=bAW.1 a t (by simpa using Array.mem_of_getElem? d);have e:Tryz.prog.wantsStandIn t=false:=by simpa using this
 exact e
theorem tableReads_holds:Rows.TableReadsCardSaid:=
 Claim7.holds_tied_plain_at .later [] _ _ _ _ Hh (fun _ h=>by cases h) (by kernel_rfl) (fun _ h=>by cases h) tableReads_row_tie rfl ⟨rfl,rfl⟩ (by kernel_rfl) rfl F3 Hg
