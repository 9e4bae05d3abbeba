/- Part. Conditions: none. -/
import Derived.Test.YtgdjbbnicgfohacGreatDoorSg
import Derived.Test.YtgdjbbnicgfohacGreatDoorUw
import Derived.Test.YtgdjbbnicgfohacGreatDoorSz
import Derived.Test.YtgdjbbnicgfohacGreatDoorRk
import Derived.Test.YtgdjbbnicgfohacGreatDoorTf
import Derived.Test.YtgdjbbnicgfohacGreatDoorCb
import Derived.Test.YtgdjbbnicgfohacGreatDoorVf
namespace Go.Proofs.YtgdjbbnicgfohacGreatDoor
set_option maxHeartbeats 8000000
set_option linter.unusedSimpArgs false
set_option linter.unusedVariables false
set_option maxRecDepth 4000
section
variable {G:aF}{bb:Bool}
theorem Ku{r:cL}(h:tP r=false):Aa r=(0,2):=by
 have h0:Vx r=2:=by unfold Vx;rw[h,gT,aZ _ _ (by decide)]
 unfold Aa;rw[if_pos (by rw[h0];decide),h0]
theorem aQN{r:cL}(h:tP r=true):Vx r=aT [Bj r.br r.bq,un (fJ r.fl||Lw r) 3]:=by
 unfold Vx;rw[h,gA,aX]
theorem aHL{r:cL}{e:Int}(h:Vx r=e)(a:e≠0):Aa r=(0,e):=by
 unfold Aa;rw[if_pos (by rw[h];exact a),h]
theorem U4(r:cL)(K:r.W)(x:1<=r.sq/\r.sq<=65535)(y:0<=r.li/\r.li<=65535)(p:0<=r.fl/\r.fl<=3)(z:0<=r.nx/\r.nx<=65535)(A:0<=r.ls/\r.ls<=2147483647)(R:Bj r.br r.bq=0) (M:fJ r.fl=true\/fJ r.fl=false/\r.ats=[]/\r.li=0/\r.br=0/\r.bq=0/\r.fl=0/\r.nx=0):EV G (Tb (lJ bb)) 102 [r.v] []=some (iiv (if (nN r.ats).2≠0 then nN r.ats else if 0<=Vy r then (Vy r,9) else (0,un (decide (dC r.ats<=440)) 16)),[]):=by
 have L:=K.ln;have w:=A5 (G:=G) (bb:=bb);have q:=Kr (G:=G) (bb:=bb) r.br r.bq;rw[R] at q;have d:=aA4 (G:=G) (bb:=bb) r ⟨p.1,by omega⟩;have s:=up (aG9 (G:=G) (bb:=bb) r.ats K.at' (by omega));have P:=Um (l:=r.ats);have N:r.ats.length<=900:=L;generalize S:nN r.ats=o at *;obtain⟨T,Q⟩:=o;dsimp only at s ⊢;by_cases f:Q=0;have O:∀a∈r.ats,gE a=0:=((A1 r.ats).1 (P f)).1;have C:=aMb (G:=G) (bb:=bb) r.ats K.at' O (by omega);rw[if_neg (not_not_intro f)];have b:Vy r=if ix (fun k=>decide (r.nx<=(r.ats.getD k aJ.nil).id)=true) r.ats.length=r.ats.length then -1 else ((ix (fun k=>decide (r.nx<=(r.ats.getD k aJ.nil).id)=true) r.ats.length:Nat):Int):=rfl
 generalize Vy r=g at *;refine aB rfl ?_;rcases M with j|⟨j,t,E,F,H,I,J⟩
 ·rw[j] at d;simp (disch:=omega) only[go_sem,h102c,w,q,d,s,eq_true f,eq_true x,eq_true y,eq_true p,eq_true z,eq_true A,decide_true,aZF];rw[dN (fun k=>⟨(jk 1 (.one (.ptr 0 0)::jk 5 (vi k::jk 95 []))),[.box r.c]⟩) (fun k=>decide (r.nx<=(r.ats.getD k aJ.nil).id)=true) r.ats.length ?_ ?_]
  rotate_left
  rfl;intro k m u;have h3:=u k (aZe _);rw[eY r.ats k m,decide_eq_true_eq] at h3;simp (disch:=omega) only[go_sem,h102l0,aZa,ixA,aJ.e,h3];obtain⟨m,hp,u⟩:=bE (fun k=>decide (r.nx<=(r.ats.getD k aJ.nil).id)=true) r.ats.length
  generalize ix (fun k=>decide (r.nx<=(r.ats.getD k aJ.nil).id)=true) r.ats.length=k at *
  rcases hp with rfl|⟨i,hp⟩;rw[if_pos rfl] at b;subst b;rw[if_neg (by decide)];by_cases n:dC r.ats<=440
  have h:¬ 440<dC r.ats:=by omega
  rw[decide_eq_true n,gA];simp (disch:=omega) only[go_sem,h102l0,aZa,C,h];have h:440<dC r.ats:=by omega
  rw[decide_eq_false n,gT];simp (disch:=omega) only[go_sem,h102l0,aZa,C,eq_true h];rw[if_neg (by omega)] at b;subst b;rw[if_pos (by omega)];rw[eY r.ats k i,decide_eq_true_eq] at hp;simp (disch:=omega) only[go_sem,h102l0,aZa,ixA,aJ.e,eq_true hp]
 ·rw[j] at d;have D:¬ 0<(r.ats.length:Int):=by rw[t];simp
  simp (disch:=omega) only[go_sem,h102c,w,q,d,s,eq_true f,eq_true x,eq_true y,eq_true p,eq_true z,eq_true A,decide_true,aZF,aZa,D,eq_true E,eq_true F,eq_true H,eq_true I,eq_true J];rw[dN (fun k=>⟨(jk 1 (.one (.ptr 0 0)::jk 5 (vi k::jk 95 []))),[.box r.c]⟩) (fun k=>decide (r.nx<=(r.ats.getD k aJ.nil).id)=true) r.ats.length ?_ ?_]
  rotate_left
  rfl;intro k m u;rw[t] at m;simp at m;obtain⟨m,hp,u⟩:=bE (fun k=>decide (r.nx<=(r.ats.getD k aJ.nil).id)=true) r.ats.length
  generalize ix (fun k=>decide (r.nx<=(r.ats.getD k aJ.nil).id)=true) r.ats.length=k at *
  rcases hp with rfl|⟨i,hp⟩;rw[if_pos rfl] at b;subst b;rw[if_neg (by decide)];by_cases n:dC r.ats<=440
  have h:¬ 440<dC r.ats:=by omega
  rw[decide_eq_true n,gA];simp (disch:=omega) only[go_sem,h102l0,aZa,C,h];have h:440<dC r.ats:=by omega
  rw[decide_eq_false n,gT];simp (disch:=omega) only[go_sem,h102l0,aZa,C,eq_true h];rw[if_neg (by omega)] at b;subst b;rw[if_pos (by omega)];rw[eY r.ats k i,decide_eq_true_eq] at hp;simp (disch:=omega) only[go_sem,h102l0,aZa,ixA,aJ.e,eq_true hp]
 rw[if_pos f];refine aB rfl ?_;rcases M with j|⟨j,t,E,F,H,I,J⟩
 rw[j] at d;simp (disch:=omega) only[go_sem,h102c,w,q,d,s,f,eq_true x,eq_true y,eq_true p,eq_true z,eq_true A,decide_true,aZF];rw[j] at d;have D:¬ 0<(r.ats.length:Int):=by rw[t];simp
 simp (disch:=omega) only[go_sem,h102c,w,q,d,s,f,eq_true x,eq_true y,eq_true p,eq_true z,eq_true A,decide_true,aZF,aZa,D,eq_true E,eq_true F,eq_true H,eq_true I,eq_true J]
theorem aHM(r:cL)(u:r.W):EV G (Tb (lJ bb)) 102 [r.v] []=some (iiv (Aa r),[]):=by
 have w:=A5 (G:=G) (bb:=bb);have i:=Kr (G:=G) (bb:=bb) r.br r.bq;by_cases a:1<=r.sq/\r.sq<=65535;by_cases b:0<=r.li/\r.li<=65535;by_cases c:0<=r.fl/\r.fl<=3;by_cases d:0<=r.nx/\r.nx<=65535;by_cases f:0<=r.ls/\r.ls<=2147483647;have x:tP r=true:=by simp[tP,a,b,c,d,f]
 have g:=aQN x;by_cases l:Bj r.br r.bq=0;rw[l,aX] at g;have k:=aA4 (G:=G) (bb:=bb) r ⟨c.1,by omega⟩;cases o:fJ r.fl with
 |true=>
  rw[o,bAd,gA] at g;have h0:Vx r=0:=g;have e:Aa r=if (nN r.ats).2≠0 then nN r.ats else if 0<=Vy r then (Vy r,9) else (0,un (decide (dC r.ats<=440)) 16):=by
   unfold Aa;rw[if_neg (not_not_intro h0)]
  rw[e];exact U4 r u a b c d f l (.inl o)
 |false=>
  rw[o,aZ0] at g;rw[o] at k;rw[l] at i;cases h:Lw r with
  |true=>
   rw[h,gA] at g;have h0:Vx r=0:=g;have e:Aa r=if (nN r.ats).2≠0 then nN r.ats else if 0<=Vy r then (Vy r,9) else (0,un (decide (dC r.ats<=440)) 16):=by
    unfold Aa;rw[if_neg (not_not_intro h0)]
   rw[e];simp only[Lw,aZp,decide_eq_true_eq] at h;exact U4 r u a b c d f l (.inr ⟨o,h.2.1,h.2.2.1,h.2.2.2.1.1,h.2.2.2.1.2,h.1,h.2.2.2.2⟩)
  |false=>
   rw[h,gT] at g;have h0:Vx r=3:=g;rw[aHL h0 (by decide)];refine aB rfl ?_;by_cases s:r.ats=[];have j:¬ 0<(r.ats.length:Int):=by rw[s];simp
   by_cases m:r.li=0;by_cases n:r.br=0;by_cases p:r.bq=0;by_cases q:r.fl=0;by_cases t:r.nx=0;simp[Lw,q,s,m,n,p,t] at h;simp (disch:=omega) only[go_sem,h102c,w,i,k,eq_true a,eq_true b,eq_true c,eq_true d,eq_true f,decide_true,aZF,aZa,j,eq_true m,eq_true n,eq_true p,eq_true q,t];simp (disch:=omega) only[go_sem,h102c,w,i,k,eq_true a,eq_true b,eq_true c,eq_true d,eq_true f,decide_true,aZF,aZa,j,eq_true m,eq_true n,eq_true p,q];simp (disch:=omega) only[go_sem,h102c,w,i,k,eq_true a,eq_true b,eq_true c,eq_true d,eq_true f,decide_true,aZF,aZa,j,eq_true m,eq_true n,p];simp (disch:=omega) only[go_sem,h102c,w,i,k,eq_true a,eq_true b,eq_true c,eq_true d,eq_true f,decide_true,aZF,aZa,j,eq_true m,n];simp (disch:=omega) only[go_sem,h102c,w,i,k,eq_true a,eq_true b,eq_true c,eq_true d,eq_true f,decide_true,aZF,aZa,j,m];have j:0<(r.ats.length:Int):=by
    have:=List.length_pos_iff.2 s;omega
   simp (disch:=omega) only[go_sem,h102c,w,i,k,eq_true a,eq_true b,eq_true c,eq_true d,eq_true f,decide_true,aZF,aZa,eq_true j]
 rw[aZ _ _ l] at g;rw[aHL g l];refine aB rfl ?_;simp (disch:=omega) only[go_sem,h102c,w,i,eq_true a,eq_true b,eq_true c,eq_true d,eq_true f,decide_true,aZF,l];rw[Ku (by simp[tP,f])];refine aB rfl ?_;simp (disch:=omega) only[go_sem,h102c,w,eq_true a,eq_true b,eq_true c,eq_true d,f,decide_true,aZF,decide_false,aZG];rw[Ku (by simp[tP,d])];refine aB rfl ?_;simp (disch:=omega) only[go_sem,h102c,w,eq_true a,eq_true b,eq_true c,d,decide_true,aZF,decide_false,aZG];rw[Ku (by simp[tP,c])];refine aB rfl ?_;simp (disch:=omega) only[go_sem,h102c,w,eq_true a,eq_true b,c,decide_true,aZF,decide_false,aZG];rw[Ku (by simp[tP,b])];refine aB rfl ?_;simp (disch:=omega) only[go_sem,h102c,w,eq_true a,b,decide_true,aZF,decide_false,aZG];rw[Ku (by simp[tP,a])];refine aB rfl ?_;simp (disch:=omega) only[go_sem,h102c,w,a,decide_false,aZG]
theorem aMe(r:cL)(a:r.W):EV G (Tb (lJ bb)) 71 [r.v] []=some (vi (gW r),[]):=by
 refine aB rfl ?_;have q:=aHM (G:=G) (bb:=bb) r a;unfold gW;generalize Aa r=o at *;obtain⟨b,c⟩:=o;simp (disch:=omega) only[go_sem,h71c,q]
theorem Af(r:cL)(a:r.W):EV G (Tb (lJ bb)) 115 [r.v] []=some (vi (gW r),[]):=by
 refine aB rfl ?_;have q:=aHI (G:=G) (bb:=bb) r a;unfold gW;generalize Aa r=o at *;obtain⟨b,c⟩:=o;simp (disch:=omega) only[go_sem,h115c,q]
theorem aVs(q f a b:Int):EV G (Tb (lJ bb)) 83 [vi q,vi f,rfv a b] []=some (rcv (aVn q f a b),[]):=by
 have w:=rT (G:=G) (bb:=bb) q 1 65535;have u:=rU (G:=G) (bb:=bb);have h:=Nw (G:=G) (bb:=bb) a b;have i:=Ux (G:=G) (bb:=bb);unfold aVn;have h0:aL1 q f a b=aT [un (decide (1<=q/\q<=65535)&&(decide (f=1)||decide (f=3))) 2,Bj a b]:=rfl
 generalize aL1 q f a b=e at *;generalize Bj a b=z at *;have j:∀ c:Bool,EV G (Tb (lJ bb)) 83 [vi q,vi f,rfv a b] []=some (rcv (if e≠0 then (.nil,e) else (⟨q,0,f,a,b,0,0,[]⟩,0)),[]):=fun _=>by
  refine aB rfl ?_;cases k:decide (1<=q/\q<=65535)
  all_goals rw[k] at w h0
  all_goals by_cases c:f=1
  all_goals by_cases d:e=0
  all_goals first | rw[if_neg (not_not_intro d)] | rw[if_pos d]
  all_goals first | rw[decide_eq_true c] at h0 | rw[decide_eq_false c] at h0
  all_goals simp only[aZI,aZS,bAd,aZ0] at h0
  ·simp (disch:=omega) only[go_sem,h83c,w,u,h,i,<- h0,eq_true c,eq_true d,cL.nil];rfl
  ·simp (disch:=omega) only[go_sem,h83c,w,u,h,i,<- h0,eq_true c,d,cL.nil];rfl
  ·by_cases g:f=3
   all_goals simp (disch:=omega) only[go_sem,h83c,w,u,h,i,<- h0,c,eq_true d,cL.nil]
   all_goals rfl
  ·by_cases g:f=3
   all_goals simp (disch:=omega) only[go_sem,h83c,w,u,h,i,<- h0,c,d,cL.nil]
   all_goals rfl
  ·simp (disch:=omega) only[go_sem,h83c,w,u,h,i,<- h0,eq_true c,eq_true d,cL.nil];rfl
  ·simp (disch:=omega) only[go_sem,h83c,w,u,h,i,<- h0,eq_true c,d,cL.nil];rfl
  ·by_cases g:f=3
   ·rw[decide_eq_true g] at h0;simp (disch:=omega) only[go_sem,h83c,w,u,h,i,<- h0,c,eq_true g,eq_true d,cL.nil];rfl
   ·rw[decide_eq_false g] at h0;simp (disch:=omega) only[go_sem,h83c,w,u,h,i,<- h0,c,g,eq_true d,cL.nil];rfl
  ·by_cases g:f=3
   ·rw[decide_eq_true g] at h0;simp (disch:=omega) only[go_sem,h83c,w,u,h,i,<- h0,c,eq_true g,d,cL.nil];rfl
   ·rw[decide_eq_false g] at h0;simp (disch:=omega) only[go_sem,h83c,w,u,h,i,<- h0,c,g,d,cL.nil];rfl
 exact j true
end
section
variable {G:aF}{bb:Bool}
end
section
variable {G:aF}{bb:Bool}
abbrev cL.c2(r:cL):L aU:=[.dc (ci r.sq),.dc (ci r.li),.dc (ci r.fl),.dc (ci r.br),.dc (ci r.bq),.dc (ci r.nx),.dc (ci r.ls),.bld 2 r.ats.length]
theorem aHN{α:Type}(l:L α)(k:Nat)(h:k<l.length):l.set k l[k]=l:=List.set_getElem_self h
theorem aDm(r:cL)(b:r.W):EV G (Tb (lJ bb)) 119 [r.v] []=some (.agg r.c2,[.box r.c2,.box r.c2,.arr 0 11 (r.ats.map aJ.e)]):=by
 refine aB rfl ?_;have f:=b.ln;have q:=aHo (G:=G) (bb:=bb) r.ats (by omega);simp (disch:=omega) only[go_sem,h119c,q];rw[aR (fun k=>⟨(jk 1 (.one (.ptr 0 0)::.one (.ptr 1 0)::jk 7 (vi r.ats.length::vi k::jk 16 []))),[.box [.dc (ci r.sq),.dc (ci r.li),.dc (ci r.fl),.dc (ci r.br),.dc (ci r.bq),.dc (ci r.nx),.dc (ci r.ls),.bld 2 r.ats.length],.box [.dc (ci 0),.dc (ci 0),.dc (ci 0),.dc (ci 0),.dc (ci 0),.dc (ci 0),.dc (ci 0),.dc (.raw (.slice none 0 0))],.arr 0 11 (r.ats.map aJ.e)]⟩) r.ats.length ?_ ?_]
 simp (disch:=omega) only[go_sem,h119l0,aZa];rfl;intro k a;have d:=up (aAL (G:=G) (bb:=bb) r.ats[k].rs (by have:=(b.at' _ (aZk a)).rl;omega));have e:=ixA r.ats k a;have c:(r.ats.map aJ.e).set k r.ats[k].e=r.ats.map aJ.e:=by
  have:=aHN (r.ats.map aJ.e) k (by rw[aZa];exact a);rwa[aZt] at this
 simp (disch:=omega) only[go_sem,h119l0,aZa,e,aJ.e,d];rw[c]
theorem aQO(a b:aJ)(g:aK a.nm)(h:aK b.nm):EV G (Tb (lJ bb)) 172 [b.v,.one (.ptr 0 0)] [.box a.c]=some (vb (nR a b),[.box a.c]):=by
 refine aB rfl ?_;have e:=cQ g h;unfold nR;by_cases d:a.ty=b.ty;by_cases f:a.nm=b.nm
 ·rw[eq_true f] at e;simp (disch:=omega) only[go_sem,h172c,eq_true d,e];all_goals simp[d,f]
 ·rw[eq_false f] at e;simp (disch:=omega) only[go_sem,h172c,eq_true d,e];all_goals simp[d,f]
 ·simp (disch:=omega) only[go_sem,h172c,d];all_goals simp[d]
abbrev aJ.dd(a:aJ):L DC:=[ci a.ty,.raw (.string (dB a.nm)),ci a.id,ci a.fl,.raw (.bool a.res),.raw (.string (dB a.va)),ci a.fi,.slc (a.rs.map aV.e),ci a.al,ci a.sz,ci a.vd]
theorem aQP(r:cL)(a:aJ)(d:r.W)(f:aK a.nm):EV G (Tb (lJ bb)) 118 [r.v,a.v] []=some (vb (Fh r a),[]):=by
 refine aB rfl ?_;have h:=d.ln;have q:EV G (Tb (lJ bb)) 171 [vl (r.ats.map aJ.e),.one (.fn 172 [.ptr 0 0])] [.box a.c]=some (vb (r.ats.any fun b=>nR a b),[.box a.c]):=
  aQI 172 a.dd (fun b=>nR a b) r.ats (by omega) (fun b g=>aQO a b f (d.at' b g).nm)
 unfold Fh;by_cases c:a.ty=48
 ·simp (disch:=omega) only[go_sem,h118c,eq_true c];all_goals simp[c]
 ·simp (disch:=omega) only[go_sem,h118c,c,q];all_goals simp[c]
end
section
variable {G:aF}{bb:Bool}
theorem Qf{a:aJ}{i:Int}(h:a.W):(bT a i).W:=⟨h.nm,h.va,h.nl,h.vl,h.rl⟩
theorem aVt(l:L aJ):((l.length:Int)<32)=(l.length<32):=by apply propext;omega
theorem Hz(r:cL)(l:r.W)(a:aJ)(w:a.W):EV G (Tb (lJ bb)) 84 [r.v,a.v] []=some (rcv (Ya r a),[]):=by
 refine aB rfl ?_;have n:=Af (G:=G) (bb:=bb) r l;have o:=Uz (G:=G) (bb:=bb) r;have u:=rU (G:=G) (bb:=bb);have p:=Uy (G:=G) (bb:=bb);have h:gW r=0->r.Ok:=D6;have y:=Qf (i:=r.nx) w;have j:=up (Ds (G:=G) (bb:=bb) (bT a r.nx) y);have f:=aQP (G:=G) (bb:=bb) r (bT a r.nx) l y.nm;have K:Fh r (bT a r.nx)=Fh r a:=rfl;rw[K] at f;unfold Ya Ui Uj;by_cases b:aT [gW r,un (fJ r.fl) 20,un (decide (r.nx<65535)) 16]=0;rw[if_neg (not_not_intro b)];obtain⟨S,V,X⟩:=A2 b;have t:=h S;have T:=t.num.2.2.2.1;have P:=t.ln;clear h;have s:=aVt r.ats;by_cases d:aT [gE (bT a r.nx),un (!Fh r a) 5,un (decide (r.ats.length<32)) 8]=0;rw[if_neg (not_not_intro d)];obtain⟨Q,U,R⟩:=A2 d;have N:r.ats.length<32:=by
  have:=aHy (by decide) R;simpa using this
 have E:=aDm (G:=G) (bb:=bb) r l;have D:=aA1 t Q N;have g:∀ x∈r.ats++[bT a r.nx],x.W:=fun x c=>by
  rcases bAv.1 c with c | c
  ·exact l.at' x c
  ·rw[List.mem_singleton.1 c];exact y
 have O:(r.ats++[bT a r.nx]).length=r.ats.length+1:=by simp
 have k:=aHq (G:=G) (bb:=bb) (r.ats++[bT a r.nx]) g (by omega);rw[if_pos D,D] at k;have F:=U1 (G:=G) (bb:=bb) (fA (r.ats++[bT a r.nx])) (fun x c=>g x (Kj.1 c)) (by rw[uZ];omega)
 have I:∀x:L DC,List.take (r.ats.length+1) (List.map aJ.e r.ats++[x])=List.map aJ.e r.ats++[x]:=fun x=>aZM (by rw[aZb,aZa];exact aZe _)
 unfold pJ;simp only[aZR,aZl,aZm] at k;generalize fA (r.ats++[bT a r.nx])=m at *;generalize gE (bT a r.nx)=M at *;generalize Fh r a=A at *;generalize gW r=H at *;generalize fJ r.fl=J at *;simp only[bT] at j f k ⊢;generalize dC m=z at *;by_cases C:z<=440
 ·have q:¬ 440<z:=by omega
  rw[if_pos C];simp (disch:=omega) only[go_sem,h84c,n,o,u,p,j,f,E,k,F,eq_true b,eq_true d,q,s,aZa,aZb,aZc,aZd,aZX,aZe,I];all_goals rfl
 have q:440<z:=by omega
 rw[if_neg C];simp (disch:=omega) only[go_sem,h84c,n,o,u,p,j,f,E,k,F,eq_true b,eq_true d,eq_true q,s,aZa,aZb,aZc,aZd,aZX,aZe,I,cL.nil];rfl;rw[if_pos d];generalize gE (bT a r.nx)=M at *;generalize Fh r a=A at *;generalize gW r=H at *;generalize fJ r.fl=J at *;simp only[bT] at j f;simp (disch:=omega) only[go_sem,h84c,n,o,u,p,j,f,eq_true b,d,s,aZa,cL.nil];rfl;rw[if_pos b];generalize gW r=H at *;generalize fJ r.fl=J at *;simp (disch:=omega) only[go_sem,h84c,n,o,u,p,b,cL.nil];rfl
end
section
variable {G:aF}{bb:Bool}
end
section
variable {G:aF}{bb:Bool}
end
section
variable {G:aF}{bb:Bool}
def Kv:L (L DC)->Option (L ByteArray)
 |[]=>some []
 |[.raw (.string s)]::es=>(Kv es).map (s::·)
 |_::_=>none
theorem Nx:∀{es:L (L DC)}{a:L ByteArray},Kv es=some a->es=a.map G5
 |[],a,h=>by simp[Kv] at h;subst h;rfl
 | e::es,a,h=>by
  unfold Kv at h;split at h
  ·rename_i h0;cases h0
  ·rename_i s b h0;injection h0 with c d
   subst c;subst d;obtain⟨f,h3,h4⟩:=Option.map_eq_some_iff.1 h;subst h4;rw[Nx h3];rfl
  ·cases h
theorem aHO(xs:L ByteArray):Kv (xs.map G5)=some xs:=by
 induction xs with
 |nil=>rfl
 |cons x xs a=>rw[aZl,G5,Kv,a];rfl
def aHP(a:ByteArray):Option (L ByteArray)->Option (AV×L aD)
 |some b=>if b.length<=1000/\(Lib.join (b.map (·.data.toList)) a.data.toList).length<=1000000 then some (.one (.dc (.raw (.string (U3 b a)))),[]) else none
 |none=>none
def aA6:L AV->L aD->Option (AV×L aD)
 |[.one (.dc (.slc es)),.one (.dc (.raw (.string sep)))],[]=>aHP sep (Kv es)
 |_,_=>none
noncomputable def lM(_:aF)(b:Bool):aO:=fun f a hp=>if f=129 then aA6 a hp else lJ b f a hp
theorem aQQ{b:Bool}(l:b=true->QC Tryz.prog G 4 [] (.one (.dc (.raw (.bool true))))):cH Tryz.prog G (lM G b):=by
 intro f c hp k m h d j;unfold lM at h;split at h;rename_i hf;subst hf;refine⟨by kernel_rfl,?_⟩;unfold aA6 at h;split at h;rename_i es n;unfold aHP at h;split at h;rename_i q i;split at h;rename_i p;injection h with h;injection h with e g;subst e;subst g
 have:d=[]:=by simpa using j
 subst this;rw[Nx i];exact (aMd (G:=G) (by omega) (by omega)).gh (fun a o ⟨e,g⟩ _=>⟨a,o,Gh.refl,aZv _,e,by rw[g];rfl⟩)
 cases h;cases h;cases h;exact aQu l f c hp k m h d j
theorem aMf{b:Bool}(f:FuncId)(a:L AV)(hp:L aD)(r:AV×L aD)(h:lJ b f a hp=some r):lM G b f a hp=some r:=by
 have c:lJ b 129 a hp=none:=rfl;unfold lM;split;rename_i hf;subst hf;rw[c] at h;cases h;exact h
theorem Fj{b:Bool}{f:FuncId}{a:L AV}{hp:L aD}{r:AV×L aD}(h:EV G (Tb (lJ b)) f a hp=some r):EV G (Tb (lM G b)) f a hp=some r:=
 aHl (T:=Tb (lJ b)) (T':=Tb (lM G b)) (fun _=>rfl) (fun f a hp r _ h=>aMf (G:=G) f a hp r h) h
theorem Ny:∀L:List (List UInt8),([]:List UInt8).intercalate L=L.flatten
 |[]=>rfl
 |[x]=>by simp[List.intercalate]
 | x::y::l=>by
  have:=Ny (y::l);simp[List.intercalate,List.intersperse] at this ⊢;exact this
theorem aHQ(a:L (L Int)):U3 (a.map dB) ⟨#[]⟩=dB a.flatten:=by
 have b:Lib.join ((a.map dB).map (·.data.toList)) []=a.flatten.map u8:=by
  unfold Lib.join;rw[Ny,aZE,List.map_flatten];congr 1
 unfold U3;show (⟨(Lib.join ((a.map dB).map (·.data.toList)) []).toArray⟩:ByteArray)=_;rw[b];rfl
theorem aMg(a:L (L Int))(c:a.length<=1000)(d:a.flatten.length<=1000000):EV G (Tb (lM G bb)) 129 [vl (a.map pQ),.one (.dc (.raw (.string ⟨#[]⟩)))] []=some (sv a.flatten,[]):=by
 refine jC rfl ?_;show lM G bb 129 [vl (a.map pQ),.one (.dc (.raw (.string ⟨#[]⟩)))] []=_;unfold lM;rw[if_pos rfl];have e:a.map pQ=(a.map dB).map G5:=by rw[aZE];rfl
 have b:(Lib.join ((a.map dB).map (·.data.toList)) (⟨#[]⟩:ByteArray).data.toList).length=a.flatten.length:=by
  have:=congrArg ByteArray.size (aHQ a);rw[aC] at this;simpa[U3,ByteArray.size] using this
 show aA6 [vl (a.map pQ),.one (.dc (.raw (.string ⟨#[]⟩)))] []=_;unfold aA6;simp only;rw[e,aHO];unfold aHP;simp only;rw[if_pos ⟨by rw[aZa];exact c,by rw[b];exact d⟩,aHQ]
end
section
variable {G:aF}{B:aO}
structure Bt where
 (cl tb mi lg lc se:Int)
deriving DecidableEq
abbrev Bt.cs(x:Bt):L aU:=[.dc (ci x.cl),.dc (ci x.tb),.dc (ci x.mi),.dc (ci x.lg),.dc (ci x.lc),.dc (ci x.se)]
abbrev Bt.v(x:Bt):AV:=.agg x.cs
abbrev Bt.o(x:Bt):aD:=.box x.cs
def pW(b:Bool)(e:Int):Int:=if b=true then 0 else e
def Bt.num(x:Bt):Bool:=decide (64<=x.cl/\x.cl<=512)&&decide (x.lc.tmod 2=0)&&decide (8<=x.lc/\x.lc<=64)&&decide (0<=x.se/\x.se<=2147483647)
def Bt.inn(x:Bt)(n:Int):Bool:=decide (1<=n/\n<=x.cl-2)
def Bt.ins(x:Bt):Bool:=x.inn x.tb&&x.inn x.mi&&x.inn x.lg
def Bt.fit(x:Bt):Bool:=decide (x.mi+8<x.cl)&&decide (x.lg+x.lc<x.cl)
def Em(a m b n:Int):Bool:=decide (a<b+n/\b<a+m)
def Bt.cla(x:Bt):Bool:=!Em x.tb 2 x.mi 8&&!Em x.tb 2 x.lg x.lc&&!Em x.mi 8 x.lg x.lc
def jO(x:Bt):Int:=if x.num=true then if x.ins=true then if x.fit=true then if x.cla=true then 0 else 13 else 37 else 2 else 2
theorem kG(n a b:Int):EV G (Tb B) 41 [vi n,vi a,vi b] []=some (vb (decide (a<=n/\n<=b)),[]):=by
 refine aB rfl ?_;by_cases h:a<=n;all_goals simp (disch:=omega) only[go_sem,h41c]
 all_goals simp[h]
theorem iY(b:Bool)(e:Int):EV G (Tb B) 40 [vb b,vi e] []=some (vi (pW b e),[]):=by
 refine aB rfl ?_;cases b;all_goals simp (disch:=omega) only[go_sem,h40c]
 all_goals rfl
theorem U5(l:L Int)(g:l.length<=1000):EV G (Tb B) 39 [vl (el l)] []=some (vi (aT l),[]):=by
 refine aB rfl ?_;simp (disch:=omega) only[go_sem,h39c,aZa];have a:∀ k (b:k < l.length),¬ l.getD k 0≠0->Lf [5,0,0] 0 (EC (EV G (Tb B)) G h39l0 ⟨(jk 5 (vl (el l)::vi l.length::vi k::jk 7 [])),[]⟩)=some ⟨(jk 5 (vl (el l)::vi l.length::vi (k+1:Nat)::jk 7 [])),[]⟩:=fun k b f=>by
  rw[cD l k b] at f;simp (disch:=omega) only[go_sem,h39l0,aZa,tD]
 rcases Ph (fun k=>l.getD k 0≠0) l.length with h|⟨j,e,c,d⟩
 rw[aR (fun k=>⟨(jk 5 (vl (el l)::vi l.length::vi k::jk 7 [])),[]⟩) l.length ?_ ?_]
 rw[iD l h];simp (disch:=omega) only[go_sem,h39l0];rfl;exact fun k b=>a k b (h k b)
 rw[aR (fun k=>⟨(jk 5 (vl (el l)::vi l.length::vi k::jk 7 [])),[]⟩) j ?_ ?_]
 rw[kE l j e d c];rw[cD l j e] at c;simp (disch:=omega) only[go_sem,h39l0,aZa,tD];rfl;exact fun k b=>a k (by omega) (d k b)
theorem pR(a b:Int):EV G (Tb B) 39 [vl [[ci a],[ci b]]] []=some (vi (aT [a,b]),[]):=U5 [a,b] (by simp)
theorem Kw(x:Bt)(n:Int):EV G (Tb B) 74 [vi n,.one (.ptr 0 0)] [x.o]=some (vb (decide (1<=n/\n<=IntKind.i64.wrap (x.cl-2))),[x.o]):=by
 refine aB rfl ?_;have w:=fun n b a=>kG (G:=G) (B:=B) n b a
 simp (disch:=omega) only[go_sem,h74c,w]
theorem aMh(x:Bt):EV G (Tb B) 75 [x.v] []=some (rn x.tb 2,[]):=by
 refine aB rfl ?_;simp (disch:=omega) only[go_sem,h75c]
theorem A6(x:Bt):EV G (Tb B) 44 [x.v] []=some (rn x.mi 8,[]):=by
 refine aB rfl ?_;simp (disch:=omega) only[go_sem,h44c]
theorem Yg(x:Bt):EV G (Tb B) 45 [x.v] []=some (rn x.lg x.lc,[]):=by
 refine aB rfl ?_;simp (disch:=omega) only[go_sem,h45c]
theorem pS(s n:Int)(h:-1000000<=s/\s<=1000000)(a:-1000000<=n/\n<=1000000):EV G (Tb B) 42 [rn s n] []=some (vi (s+n),[]):=by
 refine aB rfl ?_;simp (disch:=omega) only[go_sem,h42c]
theorem Ea(a m b n:Int)(h:-1000000<=a/\a<=1000000)(d:-1000000<=m/\m<=1000000)(e:-1000000<=b/\b<=1000000)(c:-1000000<=n/\n<=1000000):EV G (Tb B) 43 [rn a m,rn b n] []=some (vb (Em a m b n),[]):=by
 refine aB rfl ?_;have f:=pS (G:=G) (B:=B) a m h d;have g:=pS (G:=G) (B:=B) b n e c;by_cases h:a<b+n;all_goals simp (disch:=omega) only[go_sem,h43c,f,g]
 all_goals simp[h,Em]
theorem dZ(e:Int):pW true e=0:=rfl
theorem eP(e:Int):pW false e=e:=rfl
theorem bY(a b:Int):aT [a,b]=if a=0 then b else a:=by
 by_cases h:a=0;subst h;by_cases c:b=0;subst c;rfl;simp[aT,c];simp[aT,h]
theorem Bl{α a:Type}(f:α->Option a)(x:α):[x].mapM f=(f x).map fun c=>[c]:=by
 cases h:f x<;>simp[aZ9,h]
theorem sV{id:Nat}{a b c d:aU}{st:AS}:fvT 2 id 0 [a,b] st (some (.box [c,d]))=some (⟨st.sl,st.hp.set id (.box [a,b])⟩,[id],[id]):=aNw rfl (by simp)
theorem rV{x:Bt}(h:x.num=false):jO x=2:=by simp[jO,h]
theorem Ag{x:Bt}(h:x.ins=false):jO x=2:=by simp[jO,h]
theorem Kx{x:Bt}(h:x.num=true)(a:x.ins=true)(b:x.fit=false):jO x=37:=by simp[jO,h,a,b]
theorem U6{x:Bt}(h:x.num=true)(a:x.ins=true)(b:x.fit=true):jO x=pW x.cla 13:=by simp[jO,h,a,b,pW]
theorem mE{x:Bt}:x.num=true↔(64<=x.cl/\x.cl<=512)/\x.lc.tmod 2=0/\(8<=x.lc/\x.lc<=64)/\(0<=x.se/\x.se<=2147483647):=by
 simp[Bt.num,and_assoc]
theorem qI{x:Bt}:x.ins=true↔(1<=x.tb/\x.tb<=x.cl-2)/\(1<=x.mi/\x.mi<=x.cl-2)/\(1<=x.lg/\x.lg<=x.cl-2):=by
 simp[Bt.ins,Bt.inn,and_assoc]
theorem Eb{x:Bt}:x.fit=true↔x.mi+8<x.cl/\x.lg+x.lc<x.cl:=by simp[Bt.fit]
theorem Yh(x:Bt)(j:x.num=false):EV G (Tb B) 37 [x.v] []=some (vi 2,[]):=by
 have w:=fun n k i=>kG (G:=G) (B:=B) n k i
 have u:=iY (G:=G) (B:=B);have f:=pR (G:=G) (B:=B);obtain⟨I,c⟩:∃I:Int->Bool,∀n,EV G (Tb B) 74 [vi n,.one (.ptr 0 0)] [x.o]=some (vb (I n),[x.o]):=⟨_,Kw x⟩;have e:¬ ((64<=x.cl/\x.cl<=512)/\x.lc.tmod 2=0/\(8<=x.lc/\x.lc<=64)/\(0<=x.se/\x.se<=2147483647)):=fun h=>by rw[<- mE,j] at h;cases h
 refine aB rfl ?_;by_cases d:64<=x.cl/\x.cl<=512;by_cases g:x.lc.tmod 2=0;by_cases h3:8<=x.lc/\x.lc<=64
 ·have h4:¬ (0<=x.se/\x.se<=2147483647):=fun h4=>e ⟨d,g,h3,h4⟩
  cases a:I x.tb;all_goals cases b:I x.mi
  all_goals simp (disch:=omega) only[go_sem,h37c,w,u,f,c,d,g,h3,h4,a,b,Bl,jB,aZg,bY,dZ,eP]
 ·cases a:I x.tb;all_goals cases b:I x.mi
  all_goals simp (disch:=omega) only[go_sem,h37c,w,u,f,c,d,g,h3,a,b,Bl,jB,aZg,bY,dZ,eP]
 ·cases a:I x.tb;all_goals cases b:I x.mi
  all_goals simp (disch:=omega) only[go_sem,h37c,w,u,f,c,d,g,a,b,Bl,jB,aZg,bY,dZ,eP]
 ·cases a:I x.tb;all_goals cases b:I x.mi
  all_goals simp (disch:=omega) only[go_sem,h37c,w,u,f,c,d,a,b,Bl,jB,aZg,bY,dZ,eP]
theorem Yi(x:Bt)(l:x.num=true)(g:x.ins=false):EV G (Tb B) 37 [x.v] []=some (vi 2,[]):=by
 have w:=fun n p g=>kG (G:=G) (B:=B) n p g
 have u:=iY (G:=G) (B:=B);have f:=pR (G:=G) (B:=B);obtain⟨i,j,h3,h4⟩:=mE.1 l;have c:∀ n,EV G (Tb B) 74 [vi n,.one (.ptr 0 0)] [x.o]=some (vb (x.inn n),[x.o]):=fun n=>by
  rw[Kw,Es (by omega)];rfl
 have e:x.inn x.tb=true->x.inn x.mi=true->x.inn x.lg=false:=fun a b=>by
  cases d:x.inn x.lg
  ·rfl
  ·rw[Bt.ins,a,b,d] at g;cases g
 refine aB rfl ?_;cases h:x.inn x.tb;simp (disch:=omega) only[go_sem,h37c,w,u,f,c,i,j,h3,h4,Bl,jB,aZg,bY,dZ,eP,h];cases k:x.inn x.mi;simp (disch:=omega) only[go_sem,h37c,w,u,f,c,i,j,h3,h4,Bl,jB,aZg,bY,dZ,eP,h,k];have m:=e h k;simp (disch:=omega) only[go_sem,h37c,w,u,f,c,i,j,h3,h4,Bl,jB,aZg,bY,dZ,eP,h,k,m]
theorem aDn(x:Bt)(I:x.num=true)(E:x.ins=true):EV G (Tb B) 37 [x.v] []=some (vi (jO x),[]):=by
 have w:=fun n O E=>kG (G:=G) (B:=B) n O E
 have u:=iY (G:=G) (B:=B);have f:=pR (G:=G) (B:=B);have l:=aMh (G:=G) (B:=B) x;have p:=A6 (G:=G) (B:=B) x;have m:=Yg (G:=G) (B:=B) x;obtain⟨q,r,h3,h4⟩:=mE.1 I;obtain⟨L,M,N⟩:=qI.1 E;have c:∀ n,EV G (Tb B) 74 [vi n,.one (.ptr 0 0)] [x.o]=some (vb (x.inn n),[x.o]):=fun n=>by
  rw[Kw,Es (by omega)];rfl
 have s:x.inn x.tb=true:=by simp[Bt.inn,L]
 have t:x.inn x.mi=true:=by simp[Bt.inn,M]
 have y:x.inn x.lg=true:=by simp[Bt.inn,N]
 have i:=pS (G:=G) (B:=B) x.mi 8 (by omega) (by omega);have k:=pS (G:=G) (B:=B) x.lg x.lc (by omega) (by omega);have b:=Ea (G:=G) (B:=B) x.tb 2 x.mi 8 (by omega) (by omega) (by omega) (by omega);have g:=Ea (G:=G) (B:=B) x.tb 2 x.lg x.lc (by omega) (by omega) (by omega) (by omega);have h:=Ea (G:=G) (B:=B) x.mi 8 x.lg x.lc (by omega) (by omega) (by omega) (by omega);have e:jO x=if pW x.fit 37=0 then pW x.cla 13 else pW x.fit 37:=by
  cases hf:x.fit<;>simp[jO,I,E,hf,pW]
 rw[e];have d:x.fit=(decide (x.mi+8<x.cl)&&decide (x.lg+x.lc<x.cl)):=rfl;have D:x.cla=(!Em x.tb 2 x.mi 8&&!Em x.tb 2 x.lg x.lc&&!Em x.mi 8 x.lg x.lc):=rfl;generalize Em x.tb 2 x.mi 8=A at b D;generalize Em x.tb 2 x.lg x.lc=C at g D;generalize Em x.mi 8 x.lg x.lc=K at h D;rw[d,D];have F:∀J:Bool,(decide (x.mi+8<x.cl)&&decide (x.lg+x.lc<x.cl))=J->pX h37.own h37.rs 0 (EC (EV G (Tb B)) G h37.code ⟨[x.v]++tC (h37.nt-1),[]⟩)=some (vi (if pW J 37=0 then pW (!A&&!C&&!K) 13 else pW J 37),[]):=by
  intro J H;by_cases a:x.mi+8<x.cl;by_cases z:x.lg+x.lc<x.cl;have j:J=true:=by rw[<- H];simp[a,z]
  subst j;cases A;cases C;simp (disch:=omega) only[go_sem,h37c,w,u,f,c,q,r,h3,h4,Bl,jB,aZg,bY,dZ,eP,s,t,y,l,p,m,i,k,sV,b,g,h,a,z,aZF,aZG,aZI,aZS];simp (disch:=omega) only[go_sem,h37c,w,u,f,c,q,r,h3,h4,Bl,jB,aZg,bY,dZ,eP,s,t,y,l,p,m,i,k,sV,b,g,h,a,z,aZF,aZG,aZI,aZS];simp (disch:=omega) only[go_sem,h37c,w,u,f,c,q,r,h3,h4,Bl,jB,aZg,bY,dZ,eP,s,t,y,l,p,m,i,k,sV,b,g,h,a,z,aZF,aZG,aZI,aZS];have j:J=false:=by rw[<- H];simp[z]
  subst j;cases A;cases C;simp (disch:=omega) only[go_sem,h37c,w,u,f,c,q,r,h3,h4,Bl,jB,aZg,bY,dZ,eP,s,t,y,l,p,m,i,k,sV,b,g,h,a,z,aZF,aZG];simp (disch:=omega) only[go_sem,h37c,w,u,f,c,q,r,h3,h4,Bl,jB,aZg,bY,dZ,eP,s,t,y,l,p,m,i,k,sV,b,g,h,a,z,aZF,aZG];simp (disch:=omega) only[go_sem,h37c,w,u,f,c,q,r,h3,h4,Bl,jB,aZg,bY,dZ,eP,s,t,y,l,p,m,i,k,sV,b,g,h,a,z,aZF,aZG];have j:J=false:=by rw[<- H];simp[a]
  subst j;cases A;cases C;simp (disch:=omega) only[go_sem,h37c,w,u,f,c,q,r,h3,h4,Bl,jB,aZg,bY,dZ,eP,s,t,y,l,p,m,i,k,sV,b,g,h,a,aZF,aZG];simp (disch:=omega) only[go_sem,h37c,w,u,f,c,q,r,h3,h4,Bl,jB,aZg,bY,dZ,eP,s,t,y,l,p,m,i,k,sV,b,g,h,a,aZF,aZG];simp (disch:=omega) only[go_sem,h37c,w,u,f,c,q,r,h3,h4,Bl,jB,aZg,bY,dZ,eP,s,t,y,l,p,m,i,k,sV,b,g,h,a,aZF,aZG]
 exact aB rfl (F _ rfl)
theorem Ah(x:Bt):EV G (Tb B) 37 [x.v] []=some (vi (jO x),[]):=by
 cases a:x.num with
 |false=>rw[rV a];exact Yh x a
 | true=>cases b:x.ins with
  | false=>rw[Ag b];exact Yi x a b
  | true=>exact aDn x a b
