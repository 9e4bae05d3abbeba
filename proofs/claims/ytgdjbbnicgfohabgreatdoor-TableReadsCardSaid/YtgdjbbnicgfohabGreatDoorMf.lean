/- Part. Conditions: none. -/
import Derived.Test.YtgdjbbnicgfohabGreatDoorQo
import Derived.Test.YtgdjbbnicgfohabGreatDoorSg
import Derived.Test.YtgdjbbnicgfohabGreatDoorPa
import Derived.Test.YtgdjbbnicgfohabGreatDoorMb
import Derived.OpenShut
namespace Go.Proofs.YtgdjbbnicgfohabGreatDoor
set_option maxHeartbeats 8000000
set_option linter.unusedSimpArgs false
set_option linter.unusedVariables false
set_option maxRecDepth 4000
section
variable {G:aF}{bb:Bool}
theorem Ol{B:aO}(r:cK):EV G (Tb B) 24 [r.v] []=some (vb (fE r.fl),[]):=by
 refine aB rfl ?_;unfold fE;by_cases c:r.fl % 2=1;have d:¬ r.fl % 2=0:=by omega
 simp (disch:=omega) only[go_sem,h24c,aMx,d,decide_eq_true c];have d:r.fl % 2=0:=by omega
 simp (disch:=omega) only[go_sem,h24c,aMx,eq_true d,decide_eq_false c]
noncomputable def Mh(s:L Int)(a b:Int):cK×Int:=if (Q5 s a).2.2≠0 then (.nil,(Q5 s a).2.2) else if fE (Q5 s a).1.fl=true/\(Q5 s a).1.sq=b then ((Q5 s a).1,0) else (.nil,32)
theorem Om(j:G9 G)(s:L Int)(i:aI s)(k:s.length<=200000)(a b:Int):EV G (Tb (eL G bb)) 7 [sv s,rfv a b] []=some (rcv (Mh s a b),[]):=by
 have q:=Oj (bb:=bb) j s i k a;have u:=jB (G:=G) (B:=eL G bb);have f:=pW (G:=G) (B:=eL G bb);unfold Mh;generalize Q5 s a=E at *;obtain⟨r,l,e⟩:=E;have c:=Ol (G:=G) (B:=eL G bb) r;simp only at q ⊢;by_cases h:e=0;rw[if_neg (not_not_intro h)];subst h;cases d:fE r.fl
 ·rw[d] at c;rw[if_neg (fun h=>by cases h.1)]
  refine aB rfl ?_;simp (maxSteps:=2000000) (disch:=omega) only[go_sem,h7c,q,u,f,c,bY,eB,fF];try rfl
 rw[d] at c;by_cases g:r.sq=b
 ·rw[if_pos ⟨rfl,g⟩];refine aB rfl ?_;simp (maxSteps:=2000000) (disch:=omega) only[go_sem,h7c,q,u,f,c,bY,eB,fF,eq_true g];try rfl
 ·rw[if_neg (fun h=>g h.2)]
  refine aB rfl ?_;simp (maxSteps:=2000000) (disch:=omega) only[go_sem,h7c,q,u,f,c,bY,eB,fF,g];try rfl
 rw[if_pos h];refine aB rfl ?_;cases d:fE r.fl
 ·rw[d] at c;simp (maxSteps:=2000000) (disch:=omega) only[go_sem,h7c,q,u,f,c,bY,eB,fF,h];try rfl
 ·rw[d] at c;simp (maxSteps:=2000000) (disch:=omega) only[go_sem,h7c,q,u,f,c,bY,h];try rfl
abbrev bo1(b:Bool):L DC:=[.raw (.bool b)]
noncomputable def usB(s:L Int)(x:Bt)(C:L Int)(k:Nat):Bool:=fE (Gp s x C k).1.fl
noncomputable def Lj(s:L Int)(x:Bt)(C:L Int)(k:Nat):L Bool:=(List.range k).map (usB s x C)
theorem aV9(s:L Int)(x:Bt)(C:L Int)(k:Nat):Lj s x C (k+1)=Lj s x C k++[usB s x C k]:=by simp[Lj,List.range_succ]
theorem Bi(s:L Int)(x:Bt)(C:L Int)(k:Nat):(Lj s x C k).length=k:=by simp[Lj]
noncomputable def usI(s:L Int)(x:Bt)(C:L Int):Nat:=ix (fun k=>¬ (Gp s x C k).2.2=0) (C.length / 2)
noncomputable def Hf(s:L Int):L Bool×Int:=if nW s≠0 then ([],nW s) else if usI s (bB s).1 (jU s)=oT s then (Lj s (bB s).1 (jU s) (oT s),0) else ([],(Gp s (bB s).1 (jU s) (usI s (bB s).1 (jU s))).2.2)
abbrev boV(p:L Bool×Int):AV:=.tup [.one (.dc (.slc (p.1.map bo1))),tE p.2]
theorem aRP(l:L Bool):gG 1 (l.map bo1)=true:=jG (f:=bo1) (fun _=>rfl) l
theorem aWa(l:L Bool)(b:Bool):l.map bo1++[[.raw (.bool b)]]=(l++[b]).map bo1:=by simp
theorem aIC(d:G9 G)(s:List Int)(c:aI s)(f:s.length<=200000):EV G (Tb (eL G bb)) 25 [sv s] []=some (boV (Hf s),[]):=by
 unfold Hf;by_cases h:nW s=0
 ·rw[if_neg (not_not_intro h)];obtain⟨F,I,u⟩:=kX c h;have o:=Ic (bb:=bb) d s c f F;rw[I] at o;have D:=u.ln;unfold oT;have y:=fun n g=>aBt (bb:=bb) d (bB s).1 (.slc ((mW s).rs.map aW.e)) (ci ((jU s).length / 2:Nat)) s c f (jU s) u n g
  have O:=fun n=>Ol (G:=G) (B:=eL G bb) (Gp s (bB s).1 (jU s) n).1
  have A:∀n,usB s (bB s).1 (jU s) n=fE (Gp s (bB s).1 (jU s) n).1.fl:=fun n=>rfl
  have L:=aV9 s (bB s).1 (jU s);have p:=Bi s (bB s).1 (jU s);have z:Lj s (bB s).1 (jU s) 0=[]:=rfl;unfold usI;generalize Lj s (bB s).1 (jU s)=U at *;generalize usB s (bB s).1 (jU s)=Q at *;generalize Gp s (bB s).1 (jU s)=R at *;generalize jU s=C at *;generalize (bB s).1=x at *;generalize (mN s).1=r at *;generalize (mN s).2.1=w at *;generalize (mW s).rs=K at *;refine aB rfl ?_;simp (maxSteps:=2000000) (disch:=omega) only[go_sem,h25c,o,aZM,aZN,eQ,B7,kT];rw[dE (fun k=>⟨(jk 4 (.one (.ptr 2 0)::jk 1 (.one (.bld 5 (U k).length)::jk 15 (vi (C.length / 2:Nat)::vi k::jk 19 [])))),opH x r w s K C++[.arr 0 1 ((U k).map bo1)]⟩) (fun k=>¬ (R k).2.2=0) (C.length / 2) ?_ ?_]
  rotate_left
  rw[z];rfl;intro k v g;have h3:=g k (aZE _);have j:=y k v;have N:=O k;rw[show U (k+1)=U k++[fE (R k).1.fl] from by rw[L k,A k]]
  have l:=p k;generalize U k=V at *;generalize R k=E at *;obtain⟨J,M,i⟩:=E;have h3:i=0:=Classical.not_not.1 h3;subst h3;have b:(k:Int)<(C.length / 2:Nat):=by omega
  simp (maxSteps:=2000000) (disch:=omega) only[go_sem,h25l0,b,j,N,aZT,aZP,kT,pK,aRP,aWa,aZB,aZA];obtain⟨v,hp,g⟩:=bD (fun k=>¬ (R k).2.2=0) (C.length / 2)
  generalize ix (fun k=>¬ (R k).2.2=0) (C.length / 2)=k at *
  by_cases a:k=C.length / 2;rw[if_pos a];have l:=p k;rw[<- a];generalize U k=V at *;rw[a] at l;rw[a];simp (maxSteps:=2000000) (disch:=omega) only[go_sem,h25l0,aZT,aZP,kT,pK,aZA,aZM,aZN,eQ,B7];rw[if_neg a];rcases hp with hp|⟨b,hp⟩
  exact absurd hp a;have j:=y k b;generalize R k=E at *;obtain⟨J,M,i⟩:=E;have hp:¬ i=0:=hp;have b:(k:Int)<(C.length / 2:Nat):=by omega
  simp (maxSteps:=2000000) (disch:=omega) only[go_sem,h25l0,b,j,hp,aZT,aZP,kT,pK,aZA];rfl
 rw[if_pos h];rcases aIz h with⟨q,e⟩|⟨q,e⟩
 ·have o:=V7 (bb:=bb) d s c f q;rw[e] at o;refine aB rfl ?_;simp (maxSteps:=2000000) (disch:=omega) only[go_sem,h25c,o,h];try rfl
 ·have o:=Ic (bb:=bb) d s c f q;rw[e] at o;generalize jU s=C at *;refine aB rfl ?_;simp (maxSteps:=2000000) (disch:=omega) only[go_sem,h25c,o,h,aZM,aZN,eQ,B7];try rfl
noncomputable def Ft(l:L Bool)(k:Nat):L Int:=((List.range k).filter fun j=>l.getD j false).map Int.ofNat
theorem aOh(l:L Bool)(k:Nat):Ft l (k+1)=if l.getD k false=true then Ft l k++[(k:Int)] else Ft l k:=by
 unfold Ft;rw[List.range_succ,List.filter_append];rw[List.filter_cons,List.filter_nil,bAh];by_cases h:l.getD k false=true;rw[if_pos h,if_pos h];rfl;rw[if_neg h,if_neg h,aZN,bAx]
theorem El(l:L Bool)(k:Nat):(Ft l k).length<=k:=by
 unfold Ft;rw[aZA];exact Nat.le_trans (List.length_filter_le _ _) (by simp)
noncomputable def V8(s:L Int):L Int×Int:=(Ft (Hf s).1 (Hf s).1.length,(Hf s).2)
abbrev inV(p:L Int×Int):AV:=.tup [.one (.dc (.slc (el p.1))),tE p.2]
theorem Ie(s:L Int)(a:aI s):(Hf s).1.length<=96:=by
 unfold Hf;by_cases h:nW s=0;rw[if_neg (not_not_intro h)];obtain⟨c,d,b⟩:=kX a h;split;show (Lj _ _ _ _).length<=_;rw[Bi];exact b.ln.2;exact aZX _;rw[if_pos h];exact aZX _
theorem aID(h:G9 G)(s:L Int)(d:aI s)(i:s.length<=200000):EV G (Tb (eL G bb)) 8 [sv s] []=some (inV (V8 s),[]):=by
 have o:=aIC (bb:=bb) h s d i;have j:=Ie s d;unfold V8;generalize Hf s=V at *;obtain⟨l,e⟩:=V;dsimp only at j o ⊢;refine aB rfl ?_;simp (maxSteps:=2000000) (disch:=omega) only[go_sem,h8c,o,aZA];rw[aR (fun k=>⟨(jk 5 (vi e::.one (.bld 0 (Ft l k).length)::jk 7 (vl (l.map bo1)::vi l.length::vi k::jk 12 []))),[.arr 0 1 (el (Ft l k))]⟩) l.length ?_ ?_]
 simp (maxSteps:=2000000) (disch:=omega) only[go_sem,h8l0,aZA];rfl;intro k f;have a:=aOh l k;have n:=El l k;have c:(l.map bo1)[k]?=some (bo1 l[k]):=by rw[aZH,aZJ f];rfl
 have g:l.getD k false=l[k]:=by simp[f]
 rw[g] at a;cases b:l[k];rw[b,if_neg (by decide)] at a;rw[b] at c;rw[a];simp (maxSteps:=2000000) (disch:=omega) only[go_sem,h8l0,aZA,c];rw[b,if_pos rfl] at a;rw[b] at c;rw[a];generalize Ft l k=T at *;simp (maxSteps:=2000000) (disch:=omega) only[go_sem,h8l0,aZA,c,aAW,aZB]
noncomputable def ixB(l:L Bool):Int:=if ix (fun k=>l.getD k true=false) l.length=l.length then -1 else (ix (fun k=>l.getD k true=false) l.length:Nat)
theorem aIF{B:aO}(l:L Bool)(f:l.length<=1000000):EV G (Tb B) 26 [vl (l.map bo1),vb false] []=some (vi (ixB l),[]):=by
 refine aB rfl ?_;simp (disch:=omega) only[go_sem,h26c,aZA];unfold ixB;have e:∀k (a:k<l.length),(l.map bo1)[k]?=some (bo1 l[k]):=fun k a=>by rw[aZH,aZJ a];rfl
 have c:∀k (a:k<l.length),l.getD k true=l[k]:=fun k a=>by simp[a]
 rw[dE (fun k=>⟨(vl (l.map bo1)::vb false::jk 5 (vi l.length::vi k::jk 10 [])),[]⟩) (fun k=>l.getD k true=false) l.length ?_ ?_]
 rotate_left
 rfl;intro k a d;have h3:=d k (aZE _);rw[c k a] at h3;have h4:l[k]=true:=by simpa using h3
 have q:=e k a;rw[h4] at q;simp (disch:=omega) only[go_sem,h26l0,aZA,q];obtain⟨a,hp,d⟩:=bD (fun k=>l.getD k true=false) l.length
 generalize ix (fun k=>l.getD k true=false) l.length=k at *
 rcases hp with rfl|⟨b,hp⟩;rw[if_pos rfl];simp (disch:=omega) only[go_sem,h26l0,aZA];rw[if_neg (by omega)];rw[c k b] at hp;have q:=e k b;rw[hp] at q;simp (disch:=omega) only[go_sem,h26l0,aZA,q]
noncomputable def frV(s:L Int):Int×Int:=if (Hf s).2≠0 then (0,(Hf s).2) else if ixB ((Hf s).1.drop 16)<0 then (0,16) else (16+ixB ((Hf s).1.drop 16),0)
theorem Zb{s:L Int}(c:aI s)(h:(Hf s).2=0):16<=(Hf s).1.length:=by
 unfold Hf at h ⊢;by_cases a:nW s=0;rw[if_neg (not_not_intro a)] at h ⊢;obtain⟨i,j,d⟩:=kX c a;split;show _<=(Lj _ _ _ _).length;rw[Bi];exact d.ln.1;rename_i b;rw[if_neg b] at h;unfold usI oT at b;unfold usI at h;obtain⟨f,hp,g⟩:=bD (fun k=>¬ (Gp s (bB s).1 (jU s) k).2.2=0) ((jU s).length / 2)
 generalize ix (fun k=>¬ (Gp s (bB s).1 (jU s) k).2.2=0) ((jU s).length / 2)=K at *
 dsimp only at h hp;generalize (Gp s (bB s).1 (jU s) K).2.2=e at *;rcases hp with hp|⟨_,hp⟩
 exact absurd hp b;exact absurd h hp;rw[if_pos a] at h;exact absurd h a
theorem aRQ(l:L Bool):-1<=ixB l/\ixB l<=l.length:=by
 unfold ixB;obtain⟨a,_⟩:=bD (fun k=>l.getD k true=false) l.length
 split<;>omega
theorem Gq(g:G9 G)(s:L Int)(f:aI s)(i:s.length<=200000):EV G (Tb (eL G bb)) 9 [sv s] []=some (.tup [tI (frV s).1,tE (frV s).2],[]):=by
 have o:=aIC (bb:=bb) g s f i;have j:=Ie s f;have b:=Zb (s:=s) f;unfold frV;generalize Hf s=V at *;obtain⟨l,e⟩:=V;dsimp only at j o b ⊢;by_cases h:e=0;rw[if_neg (not_not_intro h)];have b:=b h;subst h;have q:=aIF (G:=G) (B:=eL G bb) (l.drop 16) (by rw[aZL];omega);have k:=aRQ (l.drop 16);rw[aZL] at k;rw[bAR] at q;generalize ixB (l.drop 16)=I at *;have a:((l.map bo1).all fun e=>decide (e.length=1))=true:=by simp
 have c:(16:Int).toNat=16:=rfl;refine aB rfl ?_;by_cases d:I<0;rw[if_pos d];simp (maxSteps:=2000000) (disch:=omega) only[go_sem,h9c,o,q,d,aZA,a,if_true,c];rw[if_neg d];simp (maxSteps:=2000000) (disch:=omega) only[go_sem,h9c,o,q,d,aZA,a,if_true,c];rw[if_pos h];refine aB rfl ?_;simp (maxSteps:=2000000) (disch:=omega) only[go_sem,h9c,o,h]
end
section
variable {G:aF}{bb:Bool}
theorem aBv{q:aW}(h:0<=q.s/\1<=q.n/\q.s+q.n<=512):(mT [q]).2=0:=by
 have r:bO q.s q.n=0:=by
  unfold bO;rw[if_neg (by omega),if_pos (by omega),if_pos (by omega)]
 have f:q.fresh U0=true:=by
  have:=Dp [] q (fun _ h=>(by cases h)) r
  exact this
 have e:nG none U0 q=0:=by
  unfold nG;rw[r,if_neg (by decide),if_neg (by simp),if_pos f]
 unfold mT;rw[if_neg (by simp)];unfold tN;rw[e,if_neg (by decide)];unfold tN;show (if cC [q]<=4096 then (0:Int) else 8)=0
 rw[if_pos];simp[cC];omega
def Bs:aJ:=⟨16,[],0,0,true,zl 16,0,[],0,0,0⟩
def rA(l:L aW):aJ:=⟨128,[],0,0,false,[],0,l,cC l*256,cC l*256,cC l*256⟩
theorem aIG:Bs.W:=⟨fun x h=>(by cases h),A6 16,by decide,by decide,by decide⟩
theorem V9{l:L aW}(h:l.length<=100000):(rA l).W:=⟨fun x h=>(by cases h),fun x h=>(by cases h),aZX _,aZX _,h⟩
theorem aIH:P0 []=true:=by unfold P0;exact decide_eq_true (.inl rfl)
theorem aNh:(gY Bs).length<=40:=by
 unfold gY;split;rename_i h;rw[nL Bs (nA aIG h).bd];decide;exact aZX _
theorem aRR{i:Int}(h:0<=i/\i<=100):gI (bT Bs i)=0:=by
 unfold gI;rw[if_neg (by simp[bT,Bs,Ni]),if_neg (by show ¬ P0 []=false;rw[aIH];decide),if_neg (by simp only[bT,Bs];omega)];have e:tQ (bT Bs i)=0:=rfl;have z:fA (bT Bs i)=40:=by unfold fA cX sS qU;simp[bT,Bs,zl]
 rw[e,if_neg (by decide),z,if_neg (by decide)]
theorem aII{q:aW}(h:(mT [q]).2=0)(i:Int):fA (bT (rA [q]) i)<=48:=by
 have b:(qU (bT (rA [q]) i)).length<=6:=by
  show (if false=true then _ else (Ch [q]).1).length<=6
  rw[if_neg (by decide)];unfold Ch;rw[Nd,h,if_neg (by decide)];show ((jH [q]).1++[0]).length<=6;have:=Tr 0 q;rw[Fh,dR,dR,bAx,aZB];show _+1<=6;omega
 unfold fA;have a:cX (bT (rA [q]) i)=40:=by unfold cX sS;simp[bT,rA]
 rw[a];omega
theorem aIJ{q:aW}(h:0<=q.s/\1<=q.n/\q.s+q.n<=512){i:Int}(l:0<=i/\i<=100):gI (bT (rA [q]) i)=0:=by
 have b:=aBv h;have d:cC [q]=q.n:=by simp[cC]
 have j:gQ [q]=q.n:=by rw[Yc b,d]
 have o:=aII b i;unfold gI;rw[if_neg (by simp[bT,rA,Ni]),if_neg (by show ¬ P0 []=false;rw[aIH];decide),if_neg (by simp only[bT,rA];omega)];have e:tQ (bT (rA [q]) i)=0:=by
  show (if false=true then _ else J9 (bT (rA [q]) i))=0
  rw[if_neg (by decide)];have c:(bT (rA [q]) i).al=q.n*256:=by show cC [q]*256=_;rw[d]
  have f:(bT (rA [q]) i).sz=q.n*256:=c;have g:(bT (rA [q]) i).vd=q.n*256:=c;have a:(bT (rA [q]) i).fi=0:=rfl;have k:gQ (bT (rA [q]) i).rs=q.n:=j;unfold J9;rw[if_neg (by simp[bT,rA,G7]),if_neg (by simp[bT,rA]),if_neg (by rw[a];decide),if_neg (not_not_intro (show (mT (bT (rA [q]) i).rs).2=0 from b)),if_neg (by rw[a];simp),if_neg (by rw[a,k];omega),if_neg (by rw[a];simp),if_neg (by rw[c,f,g];omega),if_neg (by rw[f,g];omega)]
 rw[e,if_neg (by decide),if_neg (by omega)]
theorem aNi{q:aW}(h:0<=q.s/\1<=q.n/\q.s+q.n<=512){i:Int}(b:0<=i/\i<=100):(gY (bT (rA [q]) i)).length<=48:=by
 have a:=aIJ h b;unfold gY;rw[if_pos a,nL _ (nA (Qt (V9 (by simp))) a).bd];exact aII (aBv h) i
theorem Wa{r:cK}(h:r.ats=[]):gJ r=Wi r:=by
 unfold gJ Ac;have c:(nO r.ats).2=0:=by
  unfold nO;rw[h];rw[if_neg (by decide)];rw[if_neg (by simp)]
 have d:¬ 0<=Wj r:=by
  have:Wj r<0:=Af.2 (fun a b=>by rw[h] at b;cases b)
  omega
 have h3:dC r.ats=0:=by rw[h];rfl
 by_cases q:Wi r=0;rw[if_neg (not_not_intro q),if_neg (not_not_intro c),if_neg d,h3,q];rfl;rw[if_pos q]
def r00(a:Int):cK:=⟨1,1,a,0,0,0,0,[]⟩
theorem aRS{a:Int}(h:a=1\/a=3):gJ (r00 a)=0:=by
 rw[Wa rfl];rcases h with rfl|rfl<;>rfl
theorem aIK(b:Int):(r00 b).W:=⟨fun a h=>(by cases h),aZX _⟩
noncomputable def Gr(a:Int):cK:=pO (r00 a) Bs
theorem aBw{r:cK}{a:aJ}(b:gJ r=0)(h:fE r.fl=true)(f:r.nx<65535)(d:gI (bT a r.nx)=0)(g:Fl r a=false)(e:r.ats.length<32)(c:dC (pO r a).ats<=440):Put r a/\Yw r a=(pO r a,0):=by
 refine⟨⟨A4 b,h,f,d,g,e,c⟩,?_⟩;have i:U3 r=0:=by unfold U3;rw[b,h,decide_eq_true f];rfl
 have j:U4 r a=0:=by unfold U4;rw[d,g,decide_eq_true e];rfl
 unfold Yw;rw[if_neg (not_not_intro i),if_neg (not_not_intro j),if_pos c]
theorem aIL{r:cK}{a:aJ}(c:r.W)(b:a.W)(e:r.ats.length<32):(pO r a).W:=by
 refine⟨fun x d=>?_,?_⟩
 rcases Ed.1 d with h|h;exact c.at' x h;rw[h];exact Qt b;show (fK (r.ats++[bT a r.nx])).length<=900;rw[uX,aZB,bBb];omega
theorem Q6{a:Int}(h:a=1\/a=3):Yw (r00 a) Bs=(Gr a,0)/\gJ (Gr a)=0/\(Gr a).W/\dC (Gr a).ats<=40:=by
 have n:dC (Gr a).ats<=40:=by
  show dC (pO (r00 a) Bs).ats<=40;rw[Ve];have:=aNh;show dC []+_<=40;have e:bT Bs (r00 a).nx=Bs:=rfl;rw[e];simp only[dC,aZN,List.sum_nil];omega
 have d:fE (r00 a).fl=true:=by rcases h with rfl|rfl<;>rfl
 obtain⟨b,c⟩:=aBw (aRS h) d (by show (0:Int)<65535;decide) (aRR (by simp[r00]):gI (bT Bs (r00 a).nx)=0) rfl (by show (0:Nat)<32;decide) (by have:dC (pO (r00 a) Bs).ats<=40:=n;omega);exact⟨c,aBm (aIK a) (fun x h=>(by cases h)) b,aIL (aIK a) aIG (by show (0:Nat)<32;decide),n⟩
theorem aBx{a:Int}{b:aJ}:b∈(Gr a).ats↔b=Bs:=by
 unfold Gr;rw[Ed];show b∈[]\/b=Bs↔b=Bs;simp
theorem aBy(a:Int):(Gr a).ats.length=1:=by
 show (fK ([]++[bT Bs 0])).length=1;rw[uX];rfl
noncomputable def Wb(a:Int)(q:aW):cK:=pO (Gr a) (rA [q])
theorem Fu{a:Int}(h:a=1\/a=3){q:aW}(d:0<=q.s/\1<=q.n/\q.s+q.n<=512):Yw (Gr a) (rA [q])=(Wb a q,0)/\gJ (Wb a q)=0/\(Wb a q).W:=by
 obtain⟨_,r,e,u⟩:=Q6 h;have p:fE (Gr a).fl=true:=by rcases h with rfl|rfl<;>rfl
 have j:=V9 (l:=[q]) (by simp);have c:(Gr a).nx=1:=rfl;have n:dC (pO (Gr a) (rA [q])).ats<=440:=by
  rw[Ve,c];have:=aNi d (i:=1) (by decide);omega
 have o:Fl (Gr a) (rA [q])=false:=by
  unfold Fl;have:((Gr a).ats.any fun b=>nU (rA [q]) b)=false:=by
   rw[bAM];intro b k;rw[aBx.1 k];simp[nU,rA,Bs]
  rw[this,Bool.and_false]
 obtain⟨f,g⟩:=aBw r p (by rw[c];decide) (by rw[c];exact aIJ d (by decide)) o (by rw[aBy];decide) n;exact⟨g,aBm e (fun x h=>(by cases h)) f,aIL e j (by rw[aBy];decide)⟩
theorem aBz{a:Int}{q:aW}{b:aJ}:b∈(Wb a q).ats↔b=Bs\/b=bT (rA [q]) 1:=by
 unfold Wb;rw[Ed,aBx];rfl
def Gs(n:Int):Int:=if n=5 then 3 else 1
noncomputable def Q7(n:Int)(a c b:aW):cK:=if n=0 then Wb (Gs n) a else if n=1 then Wb (Gs n) c else if n=2 then Wb (Gs n) b else Gr (Gs n)
theorem mH(n:Int):Gs n=1\/Gs n=3:=by unfold Gs;split<;>simp
def VR(q:aW):Prop:=0<=q.s/\1<=q.n/\q.s+q.n<=512
theorem Zc(n:Int){a c b:aW}(d:VR a)(e:VR c)(h3:VR b):gJ (Q7 n a c b)=0/\(Q7 n a c b).W:=by
 unfold Q7;split;exact (Fu (mH n) d).2;split;exact (Fu (mH n) e).2;split;exact (Fu (mH n) h3).2;exact⟨(Q6 (mH n)).2.1,(Q6 (mH n)).2.2.1⟩
def frR:cK:=⟨1,0,0,0,0,0,0,[]⟩
theorem Fv:gJ frR=0/\frR.W:=⟨by rw[Wa rfl];rfl,⟨fun a h=>(by cases h),by decide⟩⟩
theorem aIM{r:cK}(h:gJ r=0):Gm r 1=(oQ r 1,0):=by
 unfold Gm aMq;rw[h];rfl
end
section
variable {G:aF}{bb:Bool}
theorem Zd:EV G (Tb (eL G bb)) 67 [] []=some (Bs.v,[]):=by
 have r:=aRD (G:=G) (bb:=bb) (n:=16) (by decide);have q:EV G (Tb (eL G bb)) 96 [.one (.dc (.raw (.string ⟨#[0]⟩))),vi 16] []=some (sv (zl 16),[]):=jF rfl r;refine aB rfl ?_;simp (maxSteps:=2000000) (disch:=omega) only[go_sem,h67c,q,Bs,aJ.v];try rfl
theorem aNj(l:L aW)(k:Nat)(a:k<l.length):cC (l.take (k+1))=cC (l.take k)+l[k].n:=As l k a
theorem Ze{B:aO}(l:L aW)(b:∀q∈l,0<=q.n/\q.n<=100000)(h:cC l<=100000)(g:l.length<=100000):EV G (Tb B) 68 [cQ l] []=some ((rA l).v,[]):=by
 refine aB rfl ?_;simp (maxSteps:=2000000) (disch:=omega) only[go_sem,h68c,aZA];rw[aR (fun k=>⟨(cQ l::jk 1 (.one (.ptr 0 0)::vi (cC (l.take k)*256)::jk 2 (cQ l::vi l.length::vi k::jk 14 []))),[.box [.dc (.raw (Zi 0)),.dc (.raw (.string ⟨#[]⟩)),.dc (.raw (Zi 0)),.dc (.raw (Zi 0)),.dc (.raw (.bool false)),.dc (.raw (.string ⟨#[]⟩)),.dc (.raw (Zi 0)),.dc (.raw (.slice none 0 0)),.dc (.raw (Zi 0)),.dc (.raw (Zi 0)),.dc (.raw (Zi 0))]]⟩) l.length ?_ ?_]
 ·rw[bAj];simp (maxSteps:=2000000) (disch:=omega) only[go_sem,h68l0,aZA,rA,aJ.v,aG];try rfl
 rfl;intro k c;have d:=b _ (aZK c);have f:=aNj l k c;have h3:=iG l k (fun r a=>(b r a).1)
 have h4:=iF (l.take k) (fun r a=>(b r (aZ0 a)).1)
 have e:cC (l.take k)*256+l[k].n*256=cC (l.take (k+1))*256:=by omega
 have h5:=iG l (k+1) (fun r a=>(b r a).1)
 simp (maxSteps:=2000000) (disch:=omega) only[go_sem,h68l0,aZA,aW.e,e]
theorem Gt(a:G9 G)(r:cK)(c:r.W):EV G (Tb (eL G bb)) 66 [r.v] []=some (bkv (Gm r 1),[]):=by
 have q:EV G (Tb (eL G bb)) 99 [.agg (rc9 r 1)] []=some (bkv (Gm r 1),[]):=upS (aIt (bb:=bb) a r c 1);generalize Gm r 1=E at *;obtain⟨b,e⟩:=E;refine aB rfl ?_;simp (maxSteps:=2000000) (disch:=omega) only[go_sem,h66c,q,aZT,aZP]
theorem aRT(a:G9 G):EV G (Tb (eL G bb)) 41 [] []=some (sv (oQ frR 1),[]):=by
 have q:EV G (Tb (eL G bb)) 66 [.agg [.dc (ci 1),.dc (ci 0),.dc (ci 0),.dc (ci 0),.dc (ci 0),.dc (ci 0),.dc (ci 0),.dc (.slc [])]] []=some (bkv (Gm frR 1),[]):=Gt (bb:=bb) a frR Fv.2;rw[aIM Fv.1] at q;generalize oQ frR 1=b at *;refine aB rfl ?_;simp (maxSteps:=2000000) (disch:=omega) only[go_sem,h41c,q]
abbrev rL(f:Int):L aU:=[.dc (ci 1),.dc (ci 1),.dc (ci f),.dc (ci 0),.dc (ci 0),.dc (ci 0),.dc (ci 0),.dc (.slc [])]
theorem aWb(L:G9 G)(n:Int)(al mi lg:aW)(r:VR al)(u:VR mi)(h3:VR lg):EV G (Tb (eL G bb)) 42 [vi n,al.v,mi.v,lg.v] []=some (sv (oQ (Q7 n al mi lg) 1),[]):=by
 have p:=Zd (G:=G) (bb:=bb);have F:EV G (Tb (eL G bb)) 68 [vl [[ci al.s,ci al.n]]] []=some ((rA [al]).v,[]):=Ze (G:=G) (B:=eL G bb) [al] (by simp;unfold VR at r;omega) (by simp[cC];unfold VR at r;omega) (by simp);have I:EV G (Tb (eL G bb)) 68 [vl [[ci mi.s,ci mi.n]]] []=some ((rA [mi]).v,[]):=Ze (G:=G) (B:=eL G bb) [mi] (by simp;unfold VR at u;omega) (by simp[cC];unfold VR at u;omega) (by simp);have J:EV G (Tb (eL G bb)) 68 [vl [[ci lg.s,ci lg.n]]] []=some ((rA [lg]).v,[]):=Ze (G:=G) (B:=eL G bb) [lg] (by simp;unfold VR at h3;omega) (by simp[cC];unfold VR at h3;omega) (by simp);have f:EV G (Tb (eL G bb)) 69 [vi 1,vi (Gs n),rfv 0 0] []=some (.tup [.agg [.dc (ci 1),.dc (ci 0),.dc (ci (Gs n)),.dc (ci 0),.dc (ci 0),.dc (ci 0),.dc (ci 0),.dc (.slc [])],tE 0],[]):=by
  have q:=upS (aVQ (G:=G) (bb:=bb) 1 (Gs n) 0 0);rcases mH n with e|e
  rw[e] at q ⊢;exact q;rw[e] at q ⊢;exact q
 obtain⟨l,_,i,_⟩:=Q6 (mH n);have b:EV G (Tb (eL G bb)) 70 [.agg (rL (Gs n)),Bs.v] []=some (rcv (Yw (r00 (Gs n)) Bs),[]):=upS (H8 (G:=G) (bb:=bb) (r00 (Gs n)) (aIK _) Bs aIG);rw[l] at b;obtain⟨N,M⟩:=Zc n r u h3;have a:=Gt (bb:=bb) L (Q7 n al mi lg) M;rw[aIM N] at a;refine aB rfl ?_;by_cases y:n=0;subst y;have d:=upS (H8 (G:=G) (bb:=bb) (Gr (Gs 0)) i (rA [al]) (V9 (by simp)));rw[(Fu (mH 0) r).1] at d;have j:Q7 0 al mi lg=Wb (Gs 0) al:=by unfold Q7;simp
 rw[j] at a ⊢;have h:Gs 0=1:=rfl;rw[h] at f b d a ⊢;clear l i;generalize Wb 1 al=o at *;generalize Gr 1=g at *;generalize rA [al]=D at *;generalize Bs=A at *;simp (maxSteps:=2000000) (disch:=omega) only[go_sem,h42c,p,F,f,aW.e,Int.reduceEq,decide_false,decide_true,Int.reduceNeg];rw[aR (fun k=>⟨(jk 11 (.one (.ptr 4 0)::jk 43 (.one (.bld 3 2)::vi 2::vi k::jk 16 []))),[.box [.dc (ci al.s),.dc (ci al.n)],.box [.dc (ci mi.s),.dc (ci mi.n)],.box [.dc (ci lg.s),.dc (ci lg.n)],.arr 0 11 [A.e,D.e],.box (match k with|0=>rL 1|1=>g.c|_=>o.c)]⟩) 2 ?_ ?_]
 simp (maxSteps:=2000000) (disch:=omega) only[go_sem,h42l0,a];rfl;intro k x;rcases (show k=0\/k=1 by omega) with rfl|rfl
 simp (maxSteps:=2000000) (disch:=omega) only[go_sem,h42l0,b,aJ.e];rfl;simp (maxSteps:=2000000) (disch:=omega) only[go_sem,h42l0,d,aJ.e];rfl;by_cases z:n=1;subst z;have d:=upS (H8 (G:=G) (bb:=bb) (Gr (Gs 1)) i (rA [mi]) (V9 (by simp)));rw[(Fu (mH 1) u).1] at d;have j:Q7 1 al mi lg=Wb (Gs 1) mi:=by unfold Q7;simp
 rw[j] at a ⊢;have h:Gs 1=1:=rfl;rw[h] at f b d a ⊢;clear l i;generalize Wb 1 mi=o at *;generalize Gr 1=g at *;generalize rA [mi]=D at *;generalize Bs=A at *;simp (maxSteps:=2000000) (disch:=omega) only[go_sem,h42c,p,I,f,aW.e,Int.reduceEq,decide_false,decide_true,Int.reduceNeg];rw[aR (fun k=>⟨(jk 11 (.one (.ptr 4 0)::jk 43 (.one (.bld 3 2)::vi 2::vi k::jk 16 []))),[.box [.dc (ci al.s),.dc (ci al.n)],.box [.dc (ci mi.s),.dc (ci mi.n)],.box [.dc (ci lg.s),.dc (ci lg.n)],.arr 0 11 [A.e,D.e],.box (match k with|0=>rL 1|1=>g.c|_=>o.c)]⟩) 2 ?_ ?_]
 simp (maxSteps:=2000000) (disch:=omega) only[go_sem,h42l0,a];rfl;intro k x;rcases (show k=0\/k=1 by omega) with rfl|rfl
 simp (maxSteps:=2000000) (disch:=omega) only[go_sem,h42l0,b,aJ.e];rfl;simp (maxSteps:=2000000) (disch:=omega) only[go_sem,h42l0,d,aJ.e];rfl;by_cases C:n=2;subst C;have d:=upS (H8 (G:=G) (bb:=bb) (Gr (Gs 2)) i (rA [lg]) (V9 (by simp)));rw[(Fu (mH 2) h3).1] at d;have j:Q7 2 al mi lg=Wb (Gs 2) lg:=by unfold Q7;simp
 rw[j] at a ⊢;have h:Gs 2=1:=rfl;rw[h] at f b d a ⊢;clear l i;generalize Wb 1 lg=o at *;generalize Gr 1=g at *;generalize rA [lg]=D at *;generalize Bs=A at *;simp (maxSteps:=2000000) (disch:=omega) only[go_sem,h42c,p,J,f,aW.e,Int.reduceEq,decide_false,decide_true,Int.reduceNeg];rw[aR (fun k=>⟨(jk 11 (.one (.ptr 4 0)::jk 43 (.one (.bld 3 2)::vi 2::vi k::jk 16 []))),[.box [.dc (ci al.s),.dc (ci al.n)],.box [.dc (ci mi.s),.dc (ci mi.n)],.box [.dc (ci lg.s),.dc (ci lg.n)],.arr 0 11 [A.e,D.e],.box (match k with|0=>rL 1|1=>g.c|_=>o.c)]⟩) 2 ?_ ?_]
 simp (maxSteps:=2000000) (disch:=omega) only[go_sem,h42l0,a];rfl;intro k x;rcases (show k=0\/k=1 by omega) with rfl|rfl
 simp (maxSteps:=2000000) (disch:=omega) only[go_sem,h42l0,b,aJ.e];rfl;simp (maxSteps:=2000000) (disch:=omega) only[go_sem,h42l0,d,aJ.e];rfl;have j:Q7 n al mi lg=Gr (Gs n):=by unfold Q7;rw[if_neg y,if_neg z,if_neg C]
 rw[j] at a ⊢;by_cases E:n=5;subst E;have h:Gs 5=3:=rfl;have K:Xv .i64 1 2=3:=by decide
 rw[h] at f b a ⊢;clear l i;generalize Gr 3=g at *;generalize Bs=A at *;simp (maxSteps:=2000000) (disch:=omega) only[go_sem,h42c,p,f,aW.e,Int.reduceEq,decide_false,decide_true,Int.reduceNeg,K];rw[aR (fun k=>⟨(jk 11 (.one (.ptr 4 0)::jk 43 (.one (.bld 3 1)::vi 1::vi k::jk 16 []))),[.box [.dc (ci al.s),.dc (ci al.n)],.box [.dc (ci mi.s),.dc (ci mi.n)],.box [.dc (ci lg.s),.dc (ci lg.n)],.arr 0 11 [A.e],.box (match k with|0=>rL 3|_=>g.c)]⟩) 1 ?_ ?_]
 simp (maxSteps:=2000000) (disch:=omega) only[go_sem,h42l0,a];rfl;intro k x;rw[show k=0 by omega];simp (maxSteps:=2000000) (disch:=omega) only[go_sem,h42l0,b,aJ.e];rfl;have h:Gs n=1:=by unfold Gs;rw[if_neg E]
 rw[h] at f b a ⊢;clear l i;generalize Gr 1=g at *;generalize Bs=A at *;simp (maxSteps:=2000000) (disch:=omega) only[go_sem,h42c,p,f,aW.e,Int.reduceEq,y,z,C,E,decide_false,decide_true,Int.reduceNeg];rw[aR (fun k=>⟨(jk 11 (.one (.ptr 4 0)::jk 43 (.one (.bld 3 1)::vi 1::vi k::jk 16 []))),[.box [.dc (ci al.s),.dc (ci al.n)],.box [.dc (ci mi.s),.dc (ci mi.n)],.box [.dc (ci lg.s),.dc (ci lg.n)],.arr 0 11 [A.e],.box (match k with|0=>rL 1|_=>g.c)]⟩) 1 ?_ ?_]
 simp (maxSteps:=2000000) (disch:=omega) only[go_sem,h42l0,a];rfl;intro k x;rw[show k=0 by omega];simp (maxSteps:=2000000) (disch:=omega) only[go_sem,h42l0,b,aJ.e];rfl
end
section
variable {G:aF}{bb:Bool}
abbrev Wc(x:Bt)(n:Int):aW:=⟨x.tb,2*n⟩
abbrev miR(x:Bt):aW:=⟨x.mi,8⟩
abbrev lgR(x:Bt):aW:=⟨x.lg,x.lc⟩
noncomputable def nX(x:Bt)(m:Int)(n:Nat):L Int:=if n<16 then oQ (Q7 n (Wc x m) (miR x) (lgR x)) 1 else oQ frR 1
noncomputable def lQ(x:Bt)(m:Int):Nat->L Int
 |0=>Mf (zl (x.cl.toNat*256)) x
 |n+1=>if n<4 then qF (qF (lQ x m n) (nX x m n) (x.tb.toNat+2*n) (x.tb.toNat+2*n+1)) (nX x m n) (x.mi.toNat+2*n) (x.mi.toNat+2*n+1) else qF (lQ x m n) (nX x m n) (x.tb.toNat+2*n) (x.tb.toNat+2*n+1)
theorem aIN(x:Bt)(m:Int)(n:Nat):lQ x m (n+1)=if n<4 then qF (qF (lQ x m n) (nX x m n) (x.tb.toNat+2*n) (x.tb.toNat+2*n+1)) (nX x m n) (x.mi.toNat+2*n) (x.mi.toNat+2*n+1) else qF (lQ x m n) (nX x m n) (x.tb.toNat+2*n) (x.tb.toNat+2*n+1):=rfl
noncomputable def jD(x:Bt)(m:Int):L Int:=lQ x m m.toNat
structure Lv (x:Bt) (m:Int):Prop where
 ck:jQ x=0
 cl:64<=x.cl/\x.cl<=512
 tb:1<=x.tb/\x.tb+2*m<x.cl
 mi:1<=x.mi/\x.mi+8<x.cl
 lg:1<=x.lg/\x.lg+x.lc<x.cl/\8<=x.lc
 nn:16<=m/\m<=96
 c1:Er x.tb (2*m) x.mi 8=false
 c2:Er x.tb (2*m) x.lg x.lc=false
theorem aBA{x:Bt}{m:Int}(h:aMX x m=0):Lv x m:=by
 unfold aMX at h;by_cases e:jQ x=0;rw[if_pos e] at h;by_cases g:16<=m/\m<=96;rw[if_pos g] at h;by_cases h3:x.tb+2*m<x.cl;rw[if_pos h3] at h;by_cases h4:Er x.tb (2*m) x.mi 8=true\/Er x.tb (2*m) x.lg x.lc=true;rw[if_pos h4] at h;cases h;obtain⟨a,b,c,d⟩:=aMT e;obtain⟨l,o,n,p⟩:=mG.1 a;obtain⟨i,j,k⟩:=qN.1 b;have f:=Ef.1 c;exact⟨e,l,⟨i.1,h3⟩,⟨j.1,f.1⟩,⟨k.1,f.2,n.1⟩,g,by simpa using fun q=>h4 (.inl q),by simpa using fun q=>h4 (.inr q)⟩
 rw[if_neg h3] at h;cases h;rw[if_neg g] at h;cases h;rw[if_neg e] at h;exact absurd h e
theorem Lv.rs{x:Bt}{m:Int}(h:Lv x m):VR (Wc x m)/\VR (miR x)/\VR (lgR x):=by
 have:=h.cl;have:=h.tb;have:=h.mi;have:=h.lg;have:=h.nn;refine⟨⟨?_,?_,?_⟩,⟨?_,?_,?_⟩,⟨?_,?_,?_⟩⟩<;>simp only<;>omega
theorem Q8{x:Bt}{m:Int}(h:Lv x m)(n:Nat):(nX x m n).length=512/\aI (nX x m n):=by
 obtain⟨c,d,h3⟩:=h.rs;unfold nX;split;obtain⟨a,b⟩:=Zc n c d h3;exact (Ec b a (by decide)).2;exact (Ec Fv.2 Fv.1 (by decide)).2
theorem pZ{l b:L Int}{a c:Nat}(g:b.length=512)(d:a*256+256<=l.length)(f:c*256+256<=l.length):(qF l b a c).length=l.length:=by
 unfold qF;have e:(iZ l (a*256) (b.take 256)).length=l.length:=cY (by rw[aZF];omega);rw[cY (by rw[e,aZL];omega),e]
theorem Fw{l b:L Int}{e f:Nat}(d:aI l)(c:aI b):aI (qF l b e f):=aMU (aMU d (fun x a=>c x (aZ0 a))) (fun x a=>c x (bAb a))
theorem tA{x:Bt}{m:Int}(h:Lv x m):∀n:Nat,(n:Int)<=m->(lQ x m n).length=x.cl.toNat*256/\aI (lQ x m n)
 | 0,_=>by
  have:=h.cl;refine⟨?_,aMU (aMU (A6 _) (Bb x)) (Bb x)⟩;show (Mf (zl (x.cl.toNat * 256)) x).length=_;rw[aMV _ _ (by rw[aS];omega),aS]
 | n+1,e=>by
  obtain⟨c,d⟩:=tA h n (by omega);obtain⟨a,b⟩:=Q8 h n;have:=h.cl;have:=h.tb;have:=h.mi;unfold lQ;split
  ·rw[pZ a (by rw[pZ a (by omega) (by omega)];omega) (by rw[pZ a (by omega) (by omega)];omega),pZ a (by omega) (by omega)];exact⟨c,Fw (Fw d b) b⟩
  ·rw[pZ a (by omega) (by omega)];exact⟨c,Fw d b⟩
theorem aWc(n:Nat):List.replicate n (cI (.int .u8 0))=(zl n).map yC:=by rw[zl,List.map_replicate];rfl
theorem aIO(v:G9 G){x:Bt}{m:Int}(h:Lv x m)(N:Nat)(U:x.cl.toNat*256=N)(k:Nat)(y:(k:Int)<m):Ls [2,4,1,48,0] 4 (EC (EV G (Tb (eL G bb))) G h18l0 ⟨(jk 2 (.one (.ptr 0 0)::jk 4 (.one (.ptr 1 0)::jk 1 (.one (.bls 3 0 N 1)::jk 48 (vi m::vi k::jk 35 []))))),[x.o,.box [.dc (ci x.tb),.dc (ci (2*m))],.arr 0 1 [[ci 0],[ci 0]],yb (lQ x m k)]⟩)= some ⟨(jk 2 (.one (.ptr 0 0)::jk 4 (.one (.ptr 1 0)::jk 1 (.one (.bls 3 0 N 1)::jk 48 (vi m::vi (k+1:Nat)::jk 35 []))))),[x.o,.box [.dc (ci x.tb),.dc (ci (2*m))],.arr 0 1 [[ci 0],[ci 0]],yb (lQ x m (k+1))]⟩:=by
 obtain⟨E,I,J⟩:=h.rs;have j:=aRT (bb:=bb) v;have p:=aWb (bb:=bb) v k (Wc x m) (miR x) (lgR x) E I J;have i:=A8 (G:=G) (B:=eL G bb) x;have g:=Y2 (G:=G) (B:=eL G bb) x;obtain⟨f,u⟩:=Q8 h k;obtain⟨L,M⟩:=tA h k (by omega);have O:=h.cl;have R:=h.tb;have S:=h.mi;have T:=h.nn;have n:=Lb (G:=G) (B:=eL G bb) (x.tb+2*k) (by omega);have l:=Lb (G:=G) (B:=eL G bb) (x.mi+2*k) (by omega);have c:=Vy (G:=G) (B:=eL G bb) (lQ x m k) (nX x m k) N (x.tb.toNat+2*k) (x.tb.toNat+2*k+1) (by omega) f u (by omega) (by omega) (by omega);have z:(qF (lQ x m k) (nX x m k) (x.tb.toNat+2*k) (x.tb.toNat+2*k+1)).length=N:=by rw[pZ f (by omega) (by omega)];omega
 have C:((x.tb.toNat+2*k:Nat):Int)=x.tb+2*k:=by omega
 have r:((x.tb.toNat+2*k+1:Nat):Int)=x.tb+2*k+1:=by omega
 rw[C,r] at c;have d:(k:Int)<m:=y;rw[aIN];by_cases h4:k<4;rw[if_pos h4];have b:(k:Int)<4:=by omega
 have a:(k:Int)<16:=by omega
 have e:=Vy (G:=G) (B:=eL G bb) (qF (lQ x m k) (nX x m k) (x.tb.toNat+2*k) (x.tb.toNat+2*k+1)) (nX x m k) N (x.mi.toNat+2*k) (x.mi.toNat+2*k+1) z f u (by omega) (by omega) (by omega);have A:((x.mi.toNat+2*k:Nat):Int)=x.mi+2*k:=by omega
 have q:((x.mi.toNat+2*k+1:Nat):Int)=x.mi+2*k+1:=by omega
 rw[A,q] at e;generalize qF (lQ x m k) (nX x m k) (x.tb.toNat+2*k) (x.tb.toNat+2*k+1)=s at *;generalize qF s (nX x m k) (x.mi.toNat+2*k) (x.mi.toNat+2*k+1)=K at *;unfold nX at c e;rw[if_pos (by omega)] at c e;generalize oQ (Q7 k (Wc x m) (miR x) (lgR x)) 1=Q at *;generalize oQ frR 1=F at *;generalize lQ x m k=D at *;simp (maxSteps:=2000000) (disch:=omega) only[go_sem,h18l0,d,j,p,i,g,n,l,c,e,b,a,kT];rw[if_neg h4];have b:¬ (k:Int)<4:=by omega
 generalize qF (lQ x m k) (nX x m k) (x.tb.toNat+2*k) (x.tb.toNat+2*k+1)=s at *;unfold nX at c;generalize lQ x m k=D at *;by_cases h16:k<16;rw[if_pos h16] at c;have a:(k:Int)<16:=by omega
 generalize oQ (Q7 k (Wc x m) (miR x) (lgR x)) 1=Q at *;generalize oQ frR 1=F at *;simp (maxSteps:=2000000) (disch:=omega) only[go_sem,h18l0,d,j,p,i,g,n,l,c,b,a,kT];rw[if_neg h16] at c;have a:¬ (k:Int)<16:=by omega
 generalize oQ frR 1=F at *;simp (maxSteps:=2000000) (disch:=omega) only[go_sem,h18l0,d,j,p,i,g,n,l,c,b,a,kT]
theorem aDR(s:G9 G)(x:Bt)(n:Int)(h:aMX x n=0):EV G (Tb (eL G bb)) 18 [x.v,vi n] []=some (.tup [tS (jD x n),tE 0],[]):=by
 have a:=aBA h;have c:=Aj (G:=G) (B:=eL G bb) x;have w:=kJ (G:=G) (B:=eL G bb) n 16 96;have u:=jB (G:=G) (B:=eL G bb);have f:=pW (G:=G) (B:=eL G bb);have j:=A8 (G:=G) (B:=eL G bb) x;have i:=Y2 (G:=G) (B:=eL G bb) x;have K:=a.cl;have q:=a.tb;have L:=a.mi;have M:=a.lg;have r:=a.nn;obtain⟨_,_,hf,_⟩:=aMT a.ck;have Q:x.lc<=1000:=by omega
 have g:=pX (G:=G) (B:=eL G bb) x.tb (2*n) (by omega) (by omega);have d:=Ee (G:=G) (B:=eL G bb) x.tb (2*n) x.mi 8 (by omega) (by omega) (by omega) (by omega);have e:=Ee (G:=G) (B:=eL G bb) x.tb (2*n) x.lg x.lc (by omega) (by omega) (by omega) (by omega);rw[a.ck] at c;rw[decide_eq_true r] at w;rw[a.c1] at d;rw[a.c2] at e;have h3:=q.2;obtain⟨N,b⟩:∃N:Nat,x.cl.toNat*256=N:=⟨_,rfl⟩;have E:x.cl*256=(N:Int):=by omega
 have C:=aRw (G:=G) (B:=eL G bb) (zl N) x N (aS N) (aRD (by decide)) (fun y z=>by have:=Qu a.ck y z;omega) (by omega)
 have l:lQ x n 0=Mf (zl N) x:=by rw[<- b];rfl
 have F:=aWc N;obtain⟨el,J⟩:=tA a n.toNat (by omega);have p:jO (List.take N (List.map yC (lQ x n n.toNat)))=some ((lQ x n n.toNat).map u8):=by
  rw[bAc (by rw[aZA,el];omega),lM]
 have A:((n.toNat:Nat):Int)=n:=by omega
 refine aB rfl ?_;simp (maxSteps:=2000000) (disch:=omega) only[go_sem,h18c,c,w,u,f,j,i,g,d,e,h3,bY,eB,fF,aZ5,aZ6,E,F,C,bAd];rw[aR (fun k=>⟨(jk 2 (.one (.ptr 0 0)::jk 4 (.one (.ptr 1 0)::jk 1 (.one (.bls 3 0 N 1)::jk 48 (vi n::vi k::jk 35 []))))),[x.o,.box [.dc (ci x.tb),.dc (ci (2*n))],.arr 0 1 [[ci 0],[ci 0]],yb (lQ x n k)]⟩) n.toNat ?_ ?_]
 unfold jD;have I:List.drop 0 (List.map yC (lQ x n n.toNat))=List.map yC (lQ x n n.toNat):=bAr;generalize lQ x n n.toNat=D at *;simp (maxSteps:=2000000) (disch:=omega) only[go_sem,h18l0,A,aZA,el,b,p,Tp];rw[l];rfl;exact fun k O=>aIO s a N b k (by omega)
end
section
variable {G:aF}{bb:Bool}
theorem aBB{l t:L Int}(d:t.length=256)(n c:Nat)(b:n*256+256<=l.length):He (iZ l (n*256) t) c=if c=n then t else He l c:=by
 have a:(l.take (n*256)).length=n*256:=by rw[aZF];omega
 unfold He iZ;rw[aZS];by_cases h:c=n;rw[if_pos h,h,List.drop_append_of_le_length (by omega),List.drop_eq_nil_of_le (by omega),aZP,bAZ (by omega),bAc (by omega)];rw[if_neg h];rcases Nat.lt_or_gt_of_ne h with q|q
 rw[List.drop_append_of_le_length (by omega),bAZ (by rw[aZL];omega),bAS,List.take_take,Nat.min_eq_left (by omega)];have e:(l.take (n*256)++(t++l.drop (n*256+t.length))).drop (c*256)=(l.drop (n*256+t.length)).drop (c*256-(n*256+t.length)):=by
  rw[<- aZS,List.drop_append,List.drop_eq_nil_of_le (by rw[aZB];omega),aZP,aZB,a]
 rw[e,bAE];congr 2;omega
theorem qA{l b:L Int}(g:b.length=512)(a d c:Nat)(e:a*256+256<=l.length)(f:d*256+256<=l.length):He (qF l b a d) c=if c=d then b.drop 256 else if c=a then b.take 256 else He l c:=by
 unfold qF;rw[aBB (by rw[aZL];omega) d c (by rw[cY (by rw[aZF];omega)];omega),aBB (by rw[aZF];omega) a c e]
theorem Q9{l b:L Int}(a:b.length=512)(n:Nat)(c:n*256+512<=l.length):Bc (qF l b n (n+1)) n (n+1)=b:=by
 unfold Bc;rw[qA a n (n+1) n (by omega) (by omega),qA a n (n+1) (n+1) (by omega) (by omega),if_neg (by omega),if_pos rfl,if_pos rfl,bAX]
theorem pB{l b:L Int}(f:b.length=512)(n a c:Nat)(g:n*256+512<=l.length)(d:a≠n/\a≠n+1)(e:c≠n/\c≠n+1):Bc (qF l b n (n+1)) a c=Bc l a c:=by
 unfold Bc;rw[qA f n (n+1) a (by omega) (by omega),qA f n (n+1) c (by omega) (by omega),if_neg d.2,if_neg d.1,if_neg e.2,if_neg e.1]
theorem aIP{a m b n:Int}(h:Er a m b n=false):¬ (a<b+n/\b<a+m):=of_decide_eq_false h
theorem Ig{x:Bt}{m:Int}(h:Lv x m):∀n:Nat,(n:Int)<=m->(He (lQ x m n) 0=He (lQ x m 0) 0)/\(∀k,k<n->Bc (lQ x m n) (x.tb.toNat+2*k) (x.tb.toNat+2*k+1)=nX x m k)/\(∀k,k<n->k<4->Bc (lQ x m n) (x.mi.toNat+2*k) (x.mi.toNat+2*k+1)=nX x m k)
 |0,_=>⟨rfl,fun k b=>absurd b (Nat.not_lt_zero k),fun k b=>absurd b (Nat.not_lt_zero k)⟩
 | n+1,q=>by
  obtain⟨d,f,g⟩:=Ig h n (by omega);obtain⟨i,_⟩:=tA h n (by omega);obtain⟨a,_⟩:=Q8 h n;have j:=h.cl;have l:=h.tb;have o:=h.mi;have p:=h.nn;have s:=aIP h.c1;have r:(qF (lQ x m n) (nX x m n) (x.tb.toNat+2 * n) (x.tb.toNat+2 * n+1)).length=x.cl.toNat * 256:=by rw[pZ a (by omega) (by omega),i]
  rw[aIN];by_cases h4:n < 4
  ·rw[if_pos h4];refine⟨?_,fun k b=>?_,fun k b c=>?_⟩
   ·rw[qA a _ _ _ (by omega) (by omega),if_neg (by omega),if_neg (by omega),qA a _ _ _ (by omega) (by omega),if_neg (by omega),if_neg (by omega),d]
   ·rw[pB a _ _ _ (by omega) ⟨by omega,by omega⟩ ⟨by omega,by omega⟩];by_cases e:k=n
    ·rw[e,Q9 a _ (by omega)]
    ·rw[pB a _ _ _ (by omega) ⟨by omega,by omega⟩ ⟨by omega,by omega⟩,f k (by omega)]
   ·by_cases e:k=n
    ·rw[e,Q9 a _ (by omega)]
    ·rw[pB a _ _ _ (by omega) ⟨by omega,by omega⟩ ⟨by omega,by omega⟩,pB a _ _ _ (by omega) ⟨by omega,by omega⟩ ⟨by omega,by omega⟩,g k (by omega) c]
  ·rw[if_neg h4];refine⟨?_,fun k b=>?_,fun k b c=>?_⟩
   ·rw[qA a _ _ _ (by omega) (by omega),if_neg (by omega),if_neg (by omega),d]
   ·by_cases e:k=n
    ·rw[e,Q9 a _ (by omega)]
    ·rw[pB a _ _ _ (by omega) ⟨by omega,by omega⟩ ⟨by omega,by omega⟩,f k (by omega)]
   ·rw[pB a _ _ _ (by omega) ⟨by omega,by omega⟩ ⟨by omega,by omega⟩,g k (by omega) c]
noncomputable def Zf(x:Bt)(m:Int)(n:Nat):cK:=if n<16 then Q7 n (Wc x m) (miR x) (lgR x) else frR
theorem aBC{x:Bt}{m:Int}(h:Lv x m)(n:Nat):dQ (nX x m n)=(Zf x m n,1,0):=by
 obtain⟨c,d,h3⟩:=h.rs;unfold nX Zf;split;obtain⟨a,b⟩:=Zc n c d h3;exact (Ec b a (by decide)).1;exact (Ec Fv.2 Fv.1 (by decide)).1
theorem aIQ(l:L Int)(h:256<=l.length):l.take 64=(He l 0).take 64:=by
 unfold He;rw[Nat.zero_mul,bAr,List.take_take,Nat.min_eq_left (by decide)]
theorem Em{x:Bt}{m:Int}(h:Lv x m):bB (jD x m)=(x,0,0):=by
 have f:=h.cl;have g:=h.nn;obtain⟨d,_⟩:=tA h m.toNat (by omega);obtain⟨i,_⟩:=tA h 0 (by omega);obtain⟨c,_⟩:=Ig h m.toNat (by omega);have e:(jD x m).take 64=x.bs:=by
  unfold jD;rw[aIQ _ (by omega),c,<- aIQ _ (by omega)];exact aIj _ x (by rw[aS];omega)
 have a:(jD x m).length=x.cl.toNat*256:=d;have b:Lt (jD x m).length=0:=by
  rw[a];unfold Lt Ia;rw[if_neg (show ¬ (x.cl.toNat*256=0\/x.cl.toNat*256 % 64≠0) by omega),if_neg (show ¬ 131072<x.cl.toNat*256 by omega),if_neg (by decide),if_pos (by omega)]
 unfold bB;rw[if_pos b];unfold Al;rw[e,aRs x h.ck,if_pos ⟨rfl,by rw[a];show x.cl=_;omega⟩];rfl
theorem aBD{x:Bt}{m:Int}(h:Lv x m):mN (jD x m)=(Wb 1 (Wc x m),1,0):=by
 have b:=h.nn;obtain⟨_,a,_⟩:=Ig h m.toNat (by omega);unfold mN;rw[Em h];have e:Mg (jD x m) x=nX x m 0:=a 0 (by omega);unfold Rh;dsimp only;rw[e,aBC h 0,if_pos rfl];rfl
theorem aBE{x:Bt}{m:Int}:¬ jA jC (Wb 1 (Wc x m)).ats<0:=by
 rw[Af];intro q;have:=q (bT (rA [Wc x m]) 1) (aBz.2 (.inr rfl));simp[jC,bT,rA] at this
theorem aBF{x:Bt}{m:Int}(h:Lv x m):mW (jD x m)=bT (rA [Wc x m]) 1:=by
 have e:=aBD h;have c:¬ jA jC (mN (jD x m)).1.ats<0:=by rw[e];exact aBE
 obtain⟨K,b,_,h3,h4,_⟩:=V6 c;rw[h3];have a:=aZK b;generalize (mN (jD x m)).1.ats[K]=A at *;rw[e] at a;rcases aBz.1 a with q|q;rw[q] at h4;simp[jC,Bs] at h4;exact q
theorem aNk(q:aW):tO [q]=At q q.n.toNat:=by simp[tO]
theorem aRU{q:aW}(b:q.s≠-1){n k:Nat}(a:k<n):(At q n).getD k 0=q.s+k:=by
 unfold At;rw[aZO,aZH,bAO a];simp[b]
theorem aRV(q:aW)(n:Nat):(At q n).length=n:=by simp[At]
noncomputable def tW(x:Bt)(m:Int):L Int:=At (Wc x m) (2*m).toNat
theorem En{x:Bt}{m:Int}(h:Lv x m):jU (jD x m)=tW x m:=by
 unfold jU;rw[aBF h];exact aNk _
theorem tC{x:Bt}{m:Int}(h:Lv x m){k:Nat}(a:(k:Int)<2*m):(tW x m).getD k 0=x.tb+k:=aRU (by have:=h.tb;show x.tb≠-1;omega) (by omega)
theorem Ll{x:Bt}{m:Int}:(tW x m).length=(2*m).toNat:=aRV _ _
theorem aNl{x:Bt}{m:Int}(h:Lv x m):clE x (tW x m)=0:=by
 have c:=h.tb;have d:=h.mi;have f:=h.nn;have l:=aIP h.c1;have b:=Ll (x:=x) (m:=m);have a:tV x (tW x m)=false:=by
  refine decide_eq_false ?_;rintro⟨k,i,q⟩;rw[tC h (by omega)] at q;rcases q with q|q
  simp only[bAL] at q;rcases q with q|q|q
  omega;omega;obtain⟨j,g,e⟩:=List.mem_take_iff_getElem.1 q;have:(tW x m).getD j 0=(tW x m)[j]'(by omega):=by simp[show j<(tW x m).length by omega]
  rw[tC h (by omega)] at this;omega;omega
 unfold clE;rw[a,tC h (by omega),tC h (by omega),b,decide_eq_true (show (2*m).toNat % 2=0 by omega),decide_eq_true (show 16<=(2*m).toNat / 2/\(2*m).toNat / 2<=96 by omega),decide_eq_true (show 2<=(2*m).toNat by omega),decide_eq_true (by omega)];rfl
theorem aBG{x:Bt}{m:Int}(h:Lv x m):nQ (jD x m)=0/\nW (jD x m)=0:=by
 have e:=h.tb;have f:=h.nn;have a:nQ (jD x m)=0:=by
  unfold nQ;rw[Em h,aBD h,aBF h];dsimp only;rw[if_neg (by decide),if_neg (by decide),if_neg aBE];unfold Ej;have k:(bT (rA [Wc x m]) 1).rs=[Wc x m]:=rfl;have b:(!(bT (rA [Wc x m]) 1).res&&decide ((bT (rA [Wc x m]) 1).fi=0))=true:=rfl;rw[k,b];have c:([Wc x m].any fun r=>decide (r.s=-1))=false:=by simp;omega
  have d:([Wc x m].any fun r=>decide (r.s+r.n > x.cl))=false:=by simp;omega
  rw[c,d];rfl
 refine⟨a,?_⟩;unfold nW Q2;rw[a,if_neg (by decide),Em h,En h];exact aNl h
theorem Zg{x:Bt}{m:Int}(h:Lv x m){k:Nat}(g:(k:Int)<m):Gp (jD x m) x (tW x m) k=(Zf x m k,1,0):=by
 have d:=h.tb;have f:=h.nn;obtain⟨_,c,_⟩:=Ig h m.toNat (by omega);unfold Gp;rw[tC h (by omega),tC h (by omega)];have a:(x.tb+((2*k:Nat):Int)).toNat=x.tb.toNat+2*k:=by omega
 have b:(x.tb+((2*k+1:Nat):Int)).toNat=x.tb.toNat+2*k+1:=by omega
 rw[a,b];have e:Bc (jD x m) (x.tb.toNat+2*k) (x.tb.toNat+2*k+1)=nX x m k:=c k (by omega);unfold Rh;rw[e,aBC h k,if_pos rfl]
end
section
variable {G:aF}{bb:Bool}
theorem aOi{x:Bt}{m:Int}(h:Lv x m):oT (jD x m)=m.toNat:=by
 have:=h.nn;unfold oT;rw[En h,Ll];omega
theorem aNm(p:Nat->Prop)(n:Nat)(h:∀k,k<n->¬ p k):ix p n=n:=by
 obtain⟨b,a,_⟩:=bD p n;rcases a with q|⟨q,r⟩;exact q;exact absurd r (h _ q)
theorem aRW{x:Bt}{m:Int}(h:Lv x m):Hf (jD x m)=(Lj (jD x m) x (tW x m) m.toNat,0):=by
 have g:=h.nn;have e:usI (jD x m) x (tW x m)=m.toNat:=by
  unfold usI;rw[Ll];rw[show (2*m).toNat / 2=m.toNat by omega];exact aNm _ _ (fun k a q=>q (by rw[Zg h (by omega)]))
 unfold Hf;rw[(aBG h).2,if_neg (by decide),Em h,En h,aOi h];dsimp only;rw[e,if_pos rfl]
theorem aIR(n:Int)(b e d:aW):fE (Q7 n b e d).fl=true:=by
 have c:∀f,f=1\/f=3->fE (Gr f).fl=true:=fun f h=>by rcases h with rfl|rfl<;>rfl
 have a:∀f q,f=1\/f=3->fE (Wb f q).fl=true:=fun f q h=>by rcases h with rfl|rfl<;>rfl
 unfold Q7;split;exact a _ _ (mH n);split;exact a _ _ (mH n);split;exact a _ _ (mH n);exact c _ (mH n)
theorem aNn{x:Bt}{m:Int}(h:Lv x m){k:Nat}(a:(k:Int)<m):usB (jD x m) x (tW x m) k=decide (k<16):=by
 unfold usB;rw[Zg h a];unfold Zf;by_cases q:k<16;rw[if_pos q,decide_eq_true q];exact aIR _ _ _ _;rw[if_neg q,decide_eq_false q];rfl
theorem aRX{x:Bt}{m:Int}(h:Lv x m):frV (jD x m)=if 16<m then (16,0) else (0,16):=by
 have g:=h.nn;have e:=Bi (jD x m) x (tW x m) m.toNat;have a:∀ k,16+k < m.toNat->((Lj (jD x m) x (tW x m) m.toNat).drop 16).getD k true=false:=fun k d=>by
  rw[aZO,aZ9,Lj,aZH,bAO d];show usB (jD x m) x (tW x m) (16+k)=false;rw[aNn h (by omega)];exact decide_eq_false (by omega)
 unfold frV;rw[aRW h];dsimp only;rw[if_neg (by decide)];have f:((Lj (jD x m) x (tW x m) m.toNat).drop 16).length=m.toNat-16:=by rw[aZL,e]
 generalize (Lj (jD x m) x (tW x m) m.toNat).drop 16=U at *;unfold ixB;obtain⟨i,j,h3⟩:=bD (fun k=>U.getD k true=false) U.length
 generalize ix (fun k=>U.getD k true=false) U.length=K at *
 by_cases c:16<m;have b:K=0:=by
  rcases Nat.eq_zero_or_pos K with q|q;exact q;exact absurd (a 0 (by omega)) (h3 0 q)
 rw[if_pos c,b];rw[if_neg (show ¬ 0=U.length by omega),if_neg (by decide)];rfl;rw[if_neg c,if_pos (show K=U.length by omega),if_pos (by decide)]
theorem aIS{x:Bt}{m:Int}(h:Lv x m){n:Int}(a:0<=n/\n<m):Q4 (jD x m) n=0:=by
 unfold Q4;rw[(aBG h).2,if_neg (by decide),aOi h,decide_eq_true (by omega)];rfl
theorem aRY{x:Bt}{m:Int}(h:Lv x m)(a:16<m):Mh (jD x m) 16 1=(.nil,32):=by
 have e:Q5 (jD x m) 16=(Zf x m 16,1,0):=by
  unfold Q5;rw[aIS h ⟨by decide,a⟩,if_pos rfl,Em h,En h];exact Zg h (by omega)
 unfold Mh;rw[e];dsimp only;rw[if_neg (by decide)];have r:Zf x m 16=frR:=by unfold Zf;rw[if_neg (by decide)]
 rw[r,if_neg (by rintro⟨q,_⟩;cases q)]
def Ri:Bt:=⟨64,4,44,52,8,7⟩
theorem aWd:jQ Ri=0:=by decide
theorem aIT:aMX Ri 18=0:=by decide
def tbV:FuncId->Option HF:=fun f=>if f=4 then some h4 else none
noncomputable def T3(G:aF):HT:=⟨tbV,EV G (Tb (eL G false))⟩
theorem aWe{G:aF}:Xr Tryz.prog (T3 G):=by
 intro f h hf;change tbV f=some h at hf;unfold tbV at hf;split at hf;rename_i e;subst e;injection hf with hf;subst hf;exact⟨by kernel_rfl,_,Tryz.func4,Tryz.ntmps4,h4_ok,aTj⟩
 cases hf
theorem t3{f:FuncId}{a:L AV}{hp:L aD}{r:AV×L aD}(h:EV G (Tb (eL G false)) f a hp=some r)(b:f≠4:=by decide):EV G (T3 G) f a hp=some r:=
 jF (by show tbV f=none;exact if_neg b) h
theorem aNo{B:aO}:EV G (Tb B) 17 [] []=some (.agg [.dc (ci 64),.dc (ci 4),.dc (ci 44),.dc (ci 52),.dc (ci 8),.dc (ci 7)],[]):=by
 exact aB rfl rfl
theorem aDS(c:G9 G):EV G (T3 G) 4 [] []=some (vb true,[]):=by
 have a:=aBA aIT;obtain⟨j,b⟩:=tA a 18 (by decide);have j:(jD Ri 18).length=16384:=j;have b:aI (jD Ri 18):=b;have k:=t3 (aNo (G:=G) (B:=eL G false));have l:EV G (T3 G) 16 [.agg [.dc (ci 64),.dc (ci 4),.dc (ci 44),.dc (ci 52),.dc (ci 8),.dc (ci 7)]] []=some (.tup [tS Ri.bs,tE 0],[]):=by
  have q:=t3 (aDK (G:=G) (B:=eL G false) Ri (Ei Ri) (aRD (by decide)));rw[aWd,if_pos rfl] at q;exact q
 have n:EV G (T3 G) 18 [.agg [.dc (ci 64),.dc (ci 4),.dc (ci 44),.dc (ci 52),.dc (ci 8),.dc (ci 7)],vi 18] []=some (.tup [tS (jD Ri 18),tE 0],[]):=t3 (aDR (bb:=false) c Ri 18 aIT);have i:=t3 (Gq (bb:=false) c (jD Ri 18) b (by omega));rw[aRX a,if_pos (by decide)] at i;have d:=t3 (aDQ (bb:=false) c (jD Ri 18) b (by omega) 3);rw[aIS a (by decide),if_pos rfl,En a] at d;have p:(tW Ri 18).getD (2*(3:Int).toNat) 0=10:=by rw[tC a (by decide)];rfl
 rw[p] at d;have o:EV G (T3 G) 7 [sv (jD Ri 18),rfv 16 1] []=some (.tup [.agg [.dc (ci 0),.dc (ci 0),.dc (ci 0),.dc (ci 0),.dc (ci 0),.dc (ci 0),.dc (ci 0),.dc (.slc [])],tE 32],[]):=by
  have q:=t3 (Om (bb:=false) c (jD Ri 18) b (by omega) 16 1);rw[aRY a (by decide)] at q;exact q
 have s:=K9 Ri;have e:Ri.bs.take (12:Int).toNat=[68,69,80,79,83,73,84,49,64,0,0,0]:=by decide
 have r:(dO [68,69,80,79,83,73,84,49,64,0,0,0]=(⟨#[68,69,80,79,83,73,84,49,64,0,0,0]⟩:ByteArray))=True:=eq_true (by kernel_rfl);generalize jD Ri 18=D at *;generalize Ri.bs=S at *;have g:(S.length:Int)=64:=by omega
 have f:(D.length:Int)=16384:=by omega
 refine aB (h:=h4) rfl ?_;simp (maxSteps:=2000000) (disch:=omega) only[go_sem,h4c,k,l,n,i,d,o,aC,g,f,e,r]
theorem aDT(c:G9 G):QC Tryz.prog G 4 [] (vb true):=aAE aWe (fun f a hp av g h b d=>by
 obtain⟨n,e⟩:=jZ h;exact uS (aAF (eL G false)) (aIq (fun h=>by cases h)) n f a hp av g e b d) (aDS c)
end
section
open Go.ChangeShapes Go.WideShapes Go.ChangeAt Go.RowKit
def Fx(P:Program):Nat->TypeId->L DC->Prop
 |0,_,_=>False
 |n+1,t,a=>
  match P.underlying t with
  |some .bool=>∃b,a=[.raw (.bool b)]
  |some (.int k)=>∃i,a=[.raw (.int k i)]/\k.min<=i/\i<=k.max
  |some .string=>∃s:ByteArray,a=[.raw (.string s)]/\s.size<=maxLen
  |some (.slice e)=>∃es:L (L DC),a=[.slc es]/\es.length<=maxLen/\∀d∈es,Fx P n e d
  |some (.struct c)=>a.length=P.cellsOf t/\∀(i:Nat) f,c[i]?=some f->Fx P n f.type ((a.drop f.offset).take (P.cellsOf f.type))
  |some (.array m e)=>a.length=P.cellsOf t/\∀i,i<m->Fx P n e ((a.drop (i*P.cellsOf e)).take (P.cellsOf e))
  |_=>False
def Lm:L (Nat×Nat)->Nat->Nat->Bool
 |[],off,a=>decide (off=a)
 |p::l,off,a=>decide (p.1=off)&&Lm l (off+p.2) a
def Lo(P:Program):Nat->TypeId->Bool
 |0,_=>false
 |n+1,t=>
  match P.underlying t with
  |some .bool=>true
  |some (.int _)=>true
  |some .string=>true
  |some (.slice e)=>Lo P n e&&decide (0<P.cellsOf e)
  |some (.struct a)=>a.toList.all (fun f=>Lo P n f.type)&&Lm (a.toList.map fun f=>(f.offset,P.cellsOf f.type)) 0 (P.cellsOf t)
  |some (.array m e)=>Lo P n e&&decide (P.cellsOf t=m*P.cellsOf e)
  |_=>false
def RDs(F:Fz)(a:L DC)(cs:L Value):Prop:=a.length=cs.length/\∀(i:Nat) d v,a[i]?=some d->cs[i]?=some v->RD F d v
theorem aBH:∀(l:L (Nat×Nat)) (off a:Nat),Lm l off a=true->off<=a
 |[],off,a,h=>by simp[Lm] at h;omega
 | p::l,off,a,h=>by
  simp only[Lm,aZQ,decide_eq_true_eq] at h;have:=aBH l _ _ h.2;omega
theorem aRZ{F:Fz}{cs:L Value}:∀(l:L (Nat×Nat×(L DC->Prop))) (off:Nat),Lm (l.map fun p=>(p.1,p.2.1)) off cs.length=true->(∀p∈l,∃f,RDs F f ((cs.drop p.1).take p.2.1)/\p.2.2 f)-> ∃f,RDs F f (cs.drop off)/\∀p∈l,off<=p.1/\p.2.2 ((f.drop (p.1-off)).take p.2.1)
 | [],off,h,_=>by
  simp only[aZN,Lm,decide_eq_true_eq] at h;exact⟨[],⟨by simp[h],fun i d v j=>by simp at j⟩,fun p hp=>by cases hp⟩
 | p::l,off,h,hp=>by
  simp only[aZM,Lm,aZQ,decide_eq_true_eq] at h;obtain⟨o,j⟩:=h;have y:=aBH _ _ _ j;obtain⟨a,e,s⟩:=hp p aZV;obtain⟨c,n,u⟩:=aRZ l (off+p.2.1) j (fun q g=>hp q (aZ2 _ g))
  have k:a.length=p.2.1:=by rw[e.1,aZF,aZL];omega
  have b:cs.drop off=(cs.drop p.1).take p.2.1++cs.drop (off+p.2.1):=by
   rw[o,<- bAE,bAX]
  refine⟨a++c,⟨by rw[b,aZB,aZB,e.1,n.1],fun i d v h3 h4=>?_⟩,fun q g=>?_⟩
  ·rw[b] at h4;by_cases r:i < a.length
   ·rw[aZW r] at h3;rw[aZW (by rw[<- e.1];exact r)] at h4;exact e.2 i d v h3 h4
   ·rw[aZ1 (by omega)] at h3;rw[aZ1 (by rw[<- e.1];omega),<- e.1] at h4;exact n.2 _ d v h3 h4
  ·rcases bAL.1 g with rfl | g
   ·refine⟨by omega, ?_⟩;rw[o,bAs,bAr,bAZ (by omega),bAc (by omega)];exact s
   ·obtain⟨z,x⟩:=u q g;refine⟨by omega, ?_⟩;have:(a++c).drop (q.1 - off)=c.drop (q.1 - (off+p.2.1)):=by
     rw[List.drop_append,List.drop_of_length_le (by omega),aZP,k];congr 1;omega
    rw[this];exact x
theorem Gu{α:Type}{a:Nat->α->Prop}:∀n,(∀i,i<n->∃x,a i x)->∃l:L α,l.length=n/\∀(i:Nat) x,l[i]?=some x->a i x
 |0,_=>⟨[],rfl,fun i x h=>by simp at h⟩
 | n+1,h=>by
  obtain⟨l,b,hp⟩:=Gu n (fun i e=>h i (by omega))
  obtain⟨x,c⟩:=h n (by omega);refine⟨l++[x],by simp[b],fun i y d=>?_⟩
  rcases iM d with h1 | ⟨h1,rfl⟩
  ·exact hp i y h1
  ·rw[h1,b];exact c
section
variable {H:Type}{enc:TypeId×Value->H}{P:Program}{w:World}{base:Nat}{spare:Nat->Bool}{held:Bool}
theorem aDU{a:Addr}{v:Value}(h:w.cell? a=some v):a.spot=none:=by
 unfold World.cell? at h;split at h;split at h;cases h;rename_i b;cases c:a.spot with
 |none=>rfl
 |some x=>simp[c] at b
 cases h
theorem aIU{a:Addr}(h:a.spot=none)(i:Nat):a.add i=⟨a.block,a.off+i,none⟩:=by
 unfold Addr.add;split;rename_i b;subst b;cases a;simp_all;rfl
theorem aIV{a:Addr}{v:Value}(h:w.cell? a=some v):(iX w).cell? a=some v:=by
 unfold World.cell? at h;unfold Fz.cell? iX;exact h
theorem Bj:∀(n:Nat)(t:TypeId)(cs:List Value)(x:DataW H×List MemPlace)(m:Nat),Lo P m t=true->DataW.trod enc P w base spare held n t cs=some x->∃E,RDs (iX w) E cs/\Fx P m t E
 |0,t,cs,x,m,l,h=>by simp[DataW.trod] at h
 |n+1,t,cs,x,0,l,h=>by simp[Lo] at l
 | n+1,t,cs,x,m+1,l,h=>by
  rw[Lo] at l;cases q:P.underlying t with
  | none=>simp[q] at l
  | some u=>
   simp only[q] at l;cases u<;>try (simp at l;done)
   case bool=>
    obtain⟨b,rfl,rfl⟩:=DataW.trod_bool q h;exact⟨[.raw (.bool b)],⟨rfl,fun i d v c g=>by
     cases i with
     | zero=>simp at c g;subst c;subst g;exact .raw _ rfl
     | succ i=>simp at c⟩,by rw[Fx,q];exact⟨b,rfl⟩⟩
   case int k=>
    obtain⟨i,rfl,rfl,hw⟩:=DataW.trod_int q h;refine⟨[.raw (.int k i)],⟨rfl,fun j d v c g=>?_⟩,by rw[Fx,q];exact⟨i,rfl,by simpa[Lit.wf] using hw⟩⟩
    cases j with
    | zero=>simp at c g;subst c;subst g;exact .raw _ rfl
    | succ j=>simp at c
   case string=>
    obtain⟨s,rfl,rfl,hw⟩:=DataW.trod_string q h;refine⟨[.raw (.string s)],⟨rfl,fun j d v c g=>?_⟩,by rw[Fx,q];exact⟨s,rfl,hw⟩⟩
    cases j with
    | zero=>simp at c g;subst c;subst g;exact .raw _ rfl
    | succ j=>simp at c
   case slice e=>
    simp only[aZQ,decide_eq_true_eq] at l;rcases DataW.trod_slice q h with⟨rfl,_⟩ | ⟨a,len,cap,K,rest,J,hn,rfl,_,hb,hl,hcm,hel,hat,_,_⟩
    ·refine⟨[.slc []],⟨rfl,fun j d v c g=>?_⟩,by rw[Fx,q];exact⟨[],rfl,aZX _,by simp⟩⟩
     cases j with
     | zero=>simp at c g;subst c;subst g;exact .nil _ _
     | succ j=>simp at c
    ·have C:J=n:=by omega
     subst C;have key:∀ i,i < len->∃ r:List DC × List Value,w.cells? base (a.add (i * P.cellsOf e)) (P.cellsOf e)=some r.2/\RDs (iX w) r.1 r.2/\Fx P m e r.1:=by
      intro i z;have c:=hat i z;have hi2:i < K.length:=by omega
      rw[aZJ hi2] at c;obtain⟨cs',g,h3⟩:=bAl.1 c;obtain⟨E,h4,h5⟩:=Bj J e cs' _ m l.1 h3;exact⟨(E,cs'),g,h4,h5⟩
     obtain⟨L,hL,A⟩:=Gu len key;refine⟨[.slc (L.map (·.1))],⟨rfl,fun j d v c g=>?_⟩, ?_⟩
     ·cases j with
      | succ j=>simp at c
      | zero=>
       simp at c g;subst c;subst g;by_cases h0:len=0
       ·have:L=[]:=bAJ (by omega);subst this;rw[h0];exact .nil _ _
       ·have y:∀ (i j:Nat) r d,L[i]?=some r->r.1[j]?=some d->∃ u,r.2[j]?=some u/\w.cell? ((a.add (i * P.cellsOf e)).add j)=some u/\j < P.cellsOf e:=by
         intro i j r d M Q;obtain⟨R,W,_⟩:=A i r M;obtain⟨_,g5,Y⟩:=World.cells?_some R;have X:j < r.2.length:=by rw[<- W.1];exact aK Q
         exact⟨_,aZJ X,by rw[Y j (by omega),aZJ X],by omega⟩
        have hsp:a.spot=none:=by
         have Z:0 < L.length:=by omega
         obtain⟨R,W,_⟩:=A 0 _ (aZJ Z);obtain⟨_,g5,Y⟩:=World.cells?_some R;have X:0 < (L[0]).2.length:=by rw[g5];exact l.2
         have g7:=Y 0 l.2;rw[aZJ X] at g7;have:=aDU g7;simp only[Nat.zero_mul] at this;simpa[Addr.add] using this
        have N:∀ i j,(a.add (i * P.cellsOf e)).add j=⟨a.block,a.off+(i * P.cellsOf e+j),none⟩:=by
         intro i j;rw[aIU hsp,aIU rfl,Nat.add_assoc]
        have ha:(some a:Option Addr)=some ⟨a.block,a.off,none⟩:=by cases a;simp_all
        rw[ha];have I:(L.map (·.1)).length=len:=by simp[hL]
        have B:=RD.slc (F:=iX w) a.block a.off cap (P.cellsOf e) (L.map (·.1)) (fun i j=>((L.getD i ([],[])).2).getD j undef) (fun r he'=>by
          obtain⟨p,hp,rfl⟩:=List.mem_map.1 he';obtain⟨i,z⟩:=List.mem_iff_getElem?.1 hp;obtain⟨R,W,_⟩:=A i p z;rw[W.1,(World.cells?_some R).2.1]) (fun i j r d M Q=>by
          rw[aZH] at M;obtain⟨p,hp,rfl⟩:=Option.map_eq_some_iff.1 M;obtain⟨u,D,O,hu3⟩:=y i j p d hp Q;simp only[aZO,hp,bAm,D];exact (A i p hp).2.1.2 j d u Q D) (fun i j r d M Q=>by
          rw[aZH] at M;obtain⟨p,hp,rfl⟩:=Option.map_eq_some_iff.1 M;obtain⟨u,D,O,hu3⟩:=y i j p d hp Q;simp only[aZO,hp,bAm,D];rw[N] at O;exact aIV O) (by rw[I];exact hl)
        rw[I] at B;exact B
     ·rw[Fx,q];refine⟨_,rfl,by simp[hL];omega,fun d hdm=>?_⟩
      obtain⟨p,hp,rfl⟩:=List.mem_map.1 hdm;obtain⟨i,z⟩:=List.mem_iff_getElem?.1 hp;exact (A i p z).2.2
   case struct fs=>
    simp only[aZQ,bAW] at l;obtain⟨xs,J,hn,_,o,V,hf⟩:=DataW.trod_struct q h;have C:J=n:=by omega
    subst C;obtain⟨E,c,g⟩:=aRZ (F:=iX w) (cs:=cs) (fs.toList.map fun f=>(f.offset,P.cellsOf f.type,Fx P m f.type)) 0 (by
     rw[o,aZ4];exact l.2) (fun p hp=>by
     obtain⟨f,T,rfl⟩:=List.mem_map.1 hp;obtain⟨i,z⟩:=List.mem_iff_getElem?.1 T;have U:fs[i]?=some f:=by simpa using z
     have h3:=hf i f U;have hix:i < xs.length:=by rw[V];exact (Array.getElem?_eq_some_iff.1 U).1
     rw[aZJ hix] at h3;exact Bj J f.type _ _ m (l.1 f T) h3)
    simp only[bAr] at c;refine⟨E,c, ?_⟩;rw[Fx,q];refine⟨by rw[c.1,o],fun i f z=>?_⟩
    have:=(g _ (List.mem_map.2 ⟨f,by exact List.mem_iff_getElem?.2 ⟨i,by simpa using z⟩,rfl⟩)).2;simpa using this
   case array m' e=>
    simp only[aZQ,decide_eq_true_eq] at l;obtain⟨xs,J,hn,_,o,V,hf⟩:=DataW.trod_array q h;have C:J=n:=by omega
    subst C;have S:∀ (k s:Nat),Lm ((List.range' s k).map fun i=>(i * P.cellsOf e,P.cellsOf e)) (s * P.cellsOf e) ((s+k) * P.cellsOf e)=true:=by
     intro k
     induction k with
     | zero=>intro s;simp[Lm]
     | succ k ih=>
      intro s;have:=ih (s+1);rw[List.range'_succ,aZM,Lm];simp only[decide_true,aZ8];rw[<- Nat.succ_mul,show s+(k+1)=s+1+k by omega];exact this
    obtain⟨E,c,g⟩:=aRZ (F:=iX w) (cs:=cs) ((List.range m').map fun i=>(i * P.cellsOf e,P.cellsOf e,Fx P m e)) 0 (by
     rw[o,aZ4,l.2,List.range_eq_range'];have:=S m' 0;simpa[Function.comp_def] using this) (fun p hp=>by
     obtain⟨i,him,rfl⟩:=List.mem_map.1 hp;have z:=List.mem_range.1 him;have h3:=hf i z;rw[aZJ (by omega)] at h3;exact Bj J e _ _ m l.1 h3)
    simp only[bAr] at c;refine⟨E,c, ?_⟩;rw[Fx,q];refine⟨by rw[c.1,o],fun i z=>?_⟩
    have:=(g _ (List.mem_map.2 ⟨i,List.mem_range.2 z,rfl⟩)).2;simpa using this
def Fy(P:Program)(t:TypeId):Bool:=
 match P.underlying t with
 |some (.struct _)=>true
 |some (.array _ _)=>true
 |_=>false
def okA(P:Program)(m:Nat)(t:TypeId):AV->Prop
 |.one (.dc d)=>Fy P t=false/\Fx P m t [d]
 |.agg cs=>Fy P t=true/\∃a,cs=kP a/\Fx P m t a
 |_=>False
theorem aIW{r:Reach}{C m:Nat}{t:TypeId}{v:Value}{d:DataW H}{I:L MemPlace}(f:Value.okWide P w r C t v)(E:DataW.Trod enc P w base spare held t v d I)(g:Lo P m t=true):∃av,RV (iX w) [] av v/\okA P m t av:=by
 obtain⟨n,h⟩:=E;obtain⟨A,p,z⟩:=Bj n t _ _ m g h;have q:∀x:Value,v=x->Fy P t=false->(∀cs,x≠.agg cs)->∃av,RV (iX w) [] av v/\okA P m t av:=by
  intro x F h3 h4;subst F;have B:v.cells.toList=[v]:=by cases v<;>first|rfl|(exact absurd rfl (h4 _))
  rw[B] at p
  match A,p,z with
  |[y],p,z=>exact⟨.one (.dc y),.one _ _ (.dc _ _ (p.2 0 y v rfl rfl)),h3,z⟩
  |[],p,_=>simp[RDs] at p
  |_::_::_,p,_=>simp[RDs] at p
 have s:∀cs,v=.agg cs->Fy P t=true->∃av,RV (iX w) [] av v/\okA P m t av:=by
  intro cs o D;subst o;have B:(Value.agg cs).cells.toList=cs.toList:=rfl;rw[B] at p;refine⟨.agg (kP A),.agg _ _ (by rw[kP,aZA,p.1,bA8]) (fun i c u h3 h4=>?_),D,A,rfl,z⟩
  rw[kP,aZH] at h3;obtain⟨y,h5,rfl⟩:=Option.map_eq_some_iff.1 h3;exact .dc _ _ (p.2 i y u h5 (by simpa using h4))
 cases m with
 |zero=>simp[Lo] at g
 |succ m=>
  rw[Lo] at g;cases j:P.underlying t with
  |none=>simp[j] at g
  |some u=>
   simp only[j] at g;cases u<;>try (simp at g;done)
   case bool=>obtain⟨b,o⟩:=okWide_bool j f;exact q _ o (by rw[Fy,j]) (fun cs h=>by cases h)
   case int k=>obtain⟨b,o⟩:=okWide_int j f;exact q _ o (by rw[Fy,j]) (fun cs h=>by cases h)
   case string=>obtain⟨b,o⟩:=okWide_string j f;exact q _ o (by rw[Fy,j]) (fun cs h=>by cases h)
   case slice e=>obtain⟨a,l,c,o⟩:=okWide_slice j f;exact q _ o (by rw[Fy,j]) (fun cs h=>by cases h)
   case struct fs=>obtain⟨cs,o,_⟩:=okWide_struct j f;exact s cs o (by rw[Fy,j])
   case array k e=>
    unfold Value.okWide at f;rw[j] at f;obtain⟨cs,o,_⟩:=f;exact s cs o (by rw[Fy,j])
def aWf(P:Program)(m:Nat):L TypeId->L AV->Prop
 |[],[]=>True
 |t::c,a::b=>okA P m t a/\aWf P m c b
 |_,_=>False
theorem Oq{r:Reach}{n m:Nat}:∀{e:L TypeId}{vs:L Value}{f:L (DataW H)}{g:L MemPlace},DataW.TrodAll enc P w base spare held e vs f g-> (∀(j:Nat) t v,e[j]?=some t->vs[j]?=some v->Value.okWide P w r n t v)->(∀t∈e,Lo P m t=true)->∃a:L AV,vs.length=a.length/\(∀(i:Nat) av v,a[i]?=some av->vs[i]?=some v->RV (iX w) [] av v)/\aWf P m e a/\f.length=e.length
 | [],vs,f,g,h,_,_=>by
  obtain⟨rfl,rfl,rfl⟩:=trodAll_nil h;exact⟨[],rfl,fun i av v h=>by simp at h,trivial,rfl⟩
 | t::e,vs,f,g,h,c,b=>by
  obtain⟨v,E,d,A,p,q,rfl,rfl,rfl,B,C⟩:=trodAll_cons h;obtain⟨av,k,l⟩:=aIW (c 0 t v rfl rfl) B (b t aZV);obtain⟨a,o,s,u,z⟩:=Oq C (fun j t v h3 h4=>c (j+1) t v (by simpa using h3) (by simpa using h4)) (fun t D=>b t (aZ2 _ D))
  refine⟨av::a,by simp[o],fun i x y h3 h4=>?_,⟨l,u⟩,by simp[z]⟩
  cases i with
  | zero=>simp at h3 h4;subst h3;subst h4;exact k
  | succ i=>exact s i x y (by simpa using h3) (by simpa using h4)
end
end
section
section
variable {P:Program}{m:Nat}{t:TypeId}{av:AV}
theorem aNq(a:Fy P t=false)(h:okA P m t av):∃d,av=.one (.dc d)/\Fx P m t [d]:=by
 cases av with
 | one c=>cases c with
  | dc d=>exact⟨d,rfl,h.2⟩
  | _=>exact h.elim
 |agg cs=>rw[h.1] at a;cases a
 |tup l=>exact h.elim
 |junk=>exact h.elim
theorem aIX(a:Fy P t=true)(h:okA P m t av):∃ds,av=.agg (kP ds)/\Fx P m t ds:=by
 cases av with
 | one c=>cases c with
  | dc d=>rw[h.1] at a;cases a
  | _=>exact h.elim
 |agg cs=>obtain⟨_,ds,rfl,b⟩:=h;exact⟨ds,rfl,b⟩
 |tup l=>exact h.elim
 |junk=>exact h.elim
theorem Zh(b:P.underlying t=some .string)(h:okA P (m+1) t av):∃s:ByteArray,av=.one (.dc (.raw (.string s)))/\s.size<=maxLen:=by
 obtain⟨d,rfl,a⟩:=aNq (by rw[Fy,b]) h;rw[Fx,b] at a;obtain⟨i,h3,h4⟩:=a;simp only[List.cons.injEq,and_true] at h3;exact⟨i,by rw[h3],h4⟩
theorem Zj{i:Int}(h:IntKind.i64.min<=i/\i<=IntKind.i64.max):-9223372036854775808<=i/\i<=9223372036854775807:=by
 have a:IntKind.i64.min=-9223372036854775808:=by decide
 have b:IntKind.i64.max=9223372036854775807:=by decide
 omega
theorem aIY{k:IntKind}{a:L DC}(b:P.underlying t=some (.int k))(h:Fx P (m+1) t a):∃i,a=[.raw (.int k i)]/\k.min<=i/\i<=k.max:=by
 rw[Fx,b] at h;exact h
