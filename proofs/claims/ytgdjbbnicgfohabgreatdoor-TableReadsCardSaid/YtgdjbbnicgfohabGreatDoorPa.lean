/- Part. Conditions: none. -/
import Derived.Test.YtgdjbbnicgfohabGreatDoorSg
import Derived.Test.YtgdjbbnicgfohabGreatDoorUw
import Derived.Test.YtgdjbbnicgfohabGreatDoorSz
import Derived.Test.YtgdjbbnicgfohabGreatDoorRk
import Derived.Test.YtgdjbbnicgfohabGreatDoorTf
import Derived.Test.YtgdjbbnicgfohabGreatDoorCb
import Derived.Test.YtgdjbbnicgfohabGreatDoorVf
namespace Go.Proofs.YtgdjbbnicgfohabGreatDoor
set_option maxHeartbeats 8000000
set_option linter.unusedSimpArgs false
set_option linter.unusedVariables false
set_option maxRecDepth 4000
section
variable {G:aF}{bb:Bool}
theorem K3{r:cK}(h:tU r=false):Ac r=(0,2):=by
 have a:Wi r=2:=by unfold Wi;rw[h,gX,aY _ _ (by decide)]
 unfold Ac;rw[if_pos (by rw[a];decide),a]
theorem aRg{r:cK}(h:tU r=true):Wi r=aT [Bo r.br r.bq,un (fE r.fl||Ma r) 3]:=by
 unfold Wi;rw[h,gE,aV]
theorem aH0{r:cK}{e:Int}(h:Wi r=e)(a:e≠0):Ac r=(0,e):=by
 unfold Ac;rw[if_pos (by rw[h];exact a),h]
theorem Vm(r:cK)(K:r.W)(x:1<=r.sq/\r.sq<=65535)(y:0<=r.li/\r.li<=65535)(p:0<=r.fl/\r.fl<=3)(z:0<=r.nx/\r.nx<=65535)(A:0<=r.ls/\r.ls<=2147483647) (R:Bo r.br r.bq=0) (M:fE r.fl=true\/fE r.fl=false/\r.ats=[]/\r.li=0/\r.br=0/\r.bq=0/\r.fl=0/\r.nx=0):EV G (Tb (lA bb)) 132 [r.v] []=some (iiv (if (nO r.ats).2≠0 then nO r.ats else if 0<=Wj r then (Wj r,9) else (0,un (decide (dC r.ats<=440)) 16)),[]):=by
 have L:=K.ln;have w:=A7 (G:=G) (bb:=bb);have q:=K0 (G:=G) (bb:=bb) r.br r.bq;rw[R] at q;have d:=Qs (G:=G) (bb:=bb) r ⟨p.1,by omega⟩;have s:=up (aG6 (G:=G) (bb:=bb) r.ats K.at' (by omega));have P:=U6 (l:=r.ats);have N:r.ats.length<=900:=L;generalize S:nO r.ats=o at *;obtain⟨T,Q⟩:=o;dsimp only at s ⊢;by_cases f:Q=0;have O:∀a∈r.ats,gI a=0:=((Az r.ats).1 (P f)).1;have C:=aMy (G:=G) (bb:=bb) r.ats K.at' O (by omega);rw[if_neg (not_not_intro f)];have b:Wj r=if ix (fun k=>decide (r.nx<=(r.ats.getD k aJ.nil).id)=true) r.ats.length=r.ats.length then -1 else ((ix (fun k=>decide (r.nx<=(r.ats.getD k aJ.nil).id)=true) r.ats.length:Nat):Int):=rfl
 generalize Wj r=g at *;refine aB rfl ?_;rcases M with j|⟨j,t,E,F,H,I,J⟩
 ·rw[j] at d;simp (disch:=omega) only[go_sem,h132c,w,q,d,s,eq_true f,eq_true x,eq_true y,eq_true p,eq_true z,eq_true A,decide_true,aZ5];rw[dE (fun k=>⟨(jk 1 (.one (.ptr 0 0)::jk 5 (vi k::jk 95 []))),[.box r.c]⟩) (fun k=>decide (r.nx<=(r.ats.getD k aJ.nil).id)=true) r.ats.length ?_ ?_]
  rotate_left
  rfl;intro k m u;have h3:=u k (aZE _);rw[fJ r.ats k m,decide_eq_true_eq] at h3;simp (disch:=omega) only[go_sem,h132l0,aZA,ixA,aJ.e,h3];obtain⟨m,hp,u⟩:=bD (fun k=>decide (r.nx<=(r.ats.getD k aJ.nil).id)=true) r.ats.length
  generalize ix (fun k=>decide (r.nx<=(r.ats.getD k aJ.nil).id)=true) r.ats.length=k at *
  rcases hp with rfl|⟨i,hp⟩;rw[if_pos rfl] at b;subst b;rw[if_neg (by decide)];by_cases n:dC r.ats<=440
  have h:¬ 440<dC r.ats:=by omega
  rw[decide_eq_true n,gE];simp (disch:=omega) only[go_sem,h132l0,aZA,C,h];have h:440<dC r.ats:=by omega
  rw[decide_eq_false n,gX];simp (disch:=omega) only[go_sem,h132l0,aZA,C,eq_true h];rw[if_neg (by omega)] at b;subst b;rw[if_pos (by omega)];rw[fJ r.ats k i,decide_eq_true_eq] at hp;simp (disch:=omega) only[go_sem,h132l0,aZA,ixA,aJ.e,eq_true hp]
 ·rw[j] at d;have D:¬ 0<(r.ats.length:Int):=by rw[t];simp
  simp (disch:=omega) only[go_sem,h132c,w,q,d,s,eq_true f,eq_true x,eq_true y,eq_true p,eq_true z,eq_true A,decide_true,aZ5,aZA,D,eq_true E,eq_true F,eq_true H,eq_true I,eq_true J];rw[dE (fun k=>⟨(jk 1 (.one (.ptr 0 0)::jk 5 (vi k::jk 95 []))),[.box r.c]⟩) (fun k=>decide (r.nx<=(r.ats.getD k aJ.nil).id)=true) r.ats.length ?_ ?_]
  rotate_left
  rfl;intro k m u;rw[t] at m;simp at m;obtain⟨m,hp,u⟩:=bD (fun k=>decide (r.nx<=(r.ats.getD k aJ.nil).id)=true) r.ats.length
  generalize ix (fun k=>decide (r.nx<=(r.ats.getD k aJ.nil).id)=true) r.ats.length=k at *
  rcases hp with rfl|⟨i,hp⟩;rw[if_pos rfl] at b;subst b;rw[if_neg (by decide)];by_cases n:dC r.ats<=440
  have h:¬ 440<dC r.ats:=by omega
  rw[decide_eq_true n,gE];simp (disch:=omega) only[go_sem,h132l0,aZA,C,h];have h:440<dC r.ats:=by omega
  rw[decide_eq_false n,gX];simp (disch:=omega) only[go_sem,h132l0,aZA,C,eq_true h];rw[if_neg (by omega)] at b;subst b;rw[if_pos (by omega)];rw[fJ r.ats k i,decide_eq_true_eq] at hp;simp (disch:=omega) only[go_sem,h132l0,aZA,ixA,aJ.e,eq_true hp]
 rw[if_pos f];refine aB rfl ?_;rcases M with j|⟨j,t,E,F,H,I,J⟩
 rw[j] at d;simp (disch:=omega) only[go_sem,h132c,w,q,d,s,f,eq_true x,eq_true y,eq_true p,eq_true z,eq_true A,decide_true,aZ5];rw[j] at d;have D:¬ 0<(r.ats.length:Int):=by rw[t];simp
 simp (disch:=omega) only[go_sem,h132c,w,q,d,s,f,eq_true x,eq_true y,eq_true p,eq_true z,eq_true A,decide_true,aZ5,aZA,D,eq_true E,eq_true F,eq_true H,eq_true I,eq_true J]
theorem aH1(r:cK)(x:r.W):EV G (Tb (lA bb)) 132 [r.v] []=some (iiv (Ac r),[]):=by
 have w:=A7 (G:=G) (bb:=bb);have i:=K0 (G:=G) (bb:=bb) r.br r.bq;by_cases a:1<=r.sq/\r.sq<=65535;by_cases b:0<=r.li/\r.li<=65535;by_cases c:0<=r.fl/\r.fl<=3;by_cases d:0<=r.nx/\r.nx<=65535;by_cases f:0<=r.ls/\r.ls<=2147483647;have y:tU r=true:=by simp[tU,a,b,c,d,f]
 have g:=aRg y;by_cases l:Bo r.br r.bq=0;rw[l,aV] at g;have k:=Qs (G:=G) (bb:=bb) r ⟨c.1,by omega⟩;cases p:fE r.fl with
 |true=>
  rw[p,bAD,gE] at g;have o:Wi r=0:=g;have e:Ac r=if (nO r.ats).2≠0 then nO r.ats else if 0<=Wj r then (Wj r,9) else (0,un (decide (dC r.ats<=440)) 16):=by
   unfold Ac;rw[if_neg (not_not_intro o)]
  rw[e];exact Vm r x a b c d f l (.inl p)
 |false=>
  rw[p,bAq] at g;rw[p] at k;rw[l] at i;cases h:Ma r with
  |true=>
   rw[h,gE] at g;have o:Wi r=0:=g;have e:Ac r=if (nO r.ats).2≠0 then nO r.ats else if 0<=Wj r then (Wj r,9) else (0,un (decide (dC r.ats<=440)) 16):=by
    unfold Ac;rw[if_neg (not_not_intro o)]
   rw[e];simp only[Ma,aZQ,decide_eq_true_eq] at h;exact Vm r x a b c d f l (.inr ⟨p,h.2.1,h.2.2.1,h.2.2.2.1.1,h.2.2.2.1.2,h.1,h.2.2.2.2⟩)
  |false=>
   rw[h,gX] at g;have o:Wi r=3:=g;rw[aH0 o (by decide)];refine aB rfl ?_;by_cases t:r.ats=[];have j:¬ 0<(r.ats.length:Int):=by rw[t];simp
   by_cases m:r.li=0;by_cases n:r.br=0;by_cases q:r.bq=0;by_cases s:r.fl=0;by_cases u:r.nx=0;simp[Ma,s,t,m,n,q,u] at h;simp (disch:=omega) only[go_sem,h132c,w,i,k,eq_true a,eq_true b,eq_true c,eq_true d,eq_true f,decide_true,aZ5,aZA,j,eq_true m,eq_true n,eq_true q,eq_true s,u];simp (disch:=omega) only[go_sem,h132c,w,i,k,eq_true a,eq_true b,eq_true c,eq_true d,eq_true f,decide_true,aZ5,aZA,j,eq_true m,eq_true n,eq_true q,s];simp (disch:=omega) only[go_sem,h132c,w,i,k,eq_true a,eq_true b,eq_true c,eq_true d,eq_true f,decide_true,aZ5,aZA,j,eq_true m,eq_true n,q];simp (disch:=omega) only[go_sem,h132c,w,i,k,eq_true a,eq_true b,eq_true c,eq_true d,eq_true f,decide_true,aZ5,aZA,j,eq_true m,n];simp (disch:=omega) only[go_sem,h132c,w,i,k,eq_true a,eq_true b,eq_true c,eq_true d,eq_true f,decide_true,aZ5,aZA,j,m];have j:0<(r.ats.length:Int):=by
    have:=List.length_pos_iff.2 t;omega
   simp (disch:=omega) only[go_sem,h132c,w,i,k,eq_true a,eq_true b,eq_true c,eq_true d,eq_true f,decide_true,aZ5,aZA,eq_true j]
 rw[aY _ _ l] at g;rw[aH0 g l];refine aB rfl ?_;simp (disch:=omega) only[go_sem,h132c,w,i,eq_true a,eq_true b,eq_true c,eq_true d,eq_true f,decide_true,aZ5,l];rw[K3 (by simp[tU,f])];refine aB rfl ?_;simp (disch:=omega) only[go_sem,h132c,w,eq_true a,eq_true b,eq_true c,eq_true d,f,decide_true,aZ5,decide_false,aZ6];rw[K3 (by simp[tU,d])];refine aB rfl ?_;simp (disch:=omega) only[go_sem,h132c,w,eq_true a,eq_true b,eq_true c,d,decide_true,aZ5,decide_false,aZ6];rw[K3 (by simp[tU,c])];refine aB rfl ?_;simp (disch:=omega) only[go_sem,h132c,w,eq_true a,eq_true b,c,decide_true,aZ5,decide_false,aZ6];rw[K3 (by simp[tU,b])];refine aB rfl ?_;simp (disch:=omega) only[go_sem,h132c,w,eq_true a,b,decide_true,aZ5,decide_false,aZ6];rw[K3 (by simp[tU,a])];refine aB rfl ?_;simp (disch:=omega) only[go_sem,h132c,w,a,decide_false,aZ6]
theorem aMB(r:cK)(a:r.W):EV G (Tb (lA bb)) 88 [r.v] []=some (vi (gJ r),[]):=by
 refine aB rfl ?_;have q:=aH1 (G:=G) (bb:=bb) r a;unfold gJ;generalize Ac r=o at *;obtain⟨b,c⟩:=o;simp (disch:=omega) only[go_sem,h88c,q]
theorem Ah(r:cK)(a:r.W):EV G (Tb (lA bb)) 104 [r.v] []=some (vi (gJ r),[]):=by
 refine aB rfl ?_;have q:=aHX (G:=G) (bb:=bb) r a;unfold gJ;generalize Ac r=o at *;obtain⟨b,c⟩:=o;simp (disch:=omega) only[go_sem,h104c,q]
theorem aVQ(q f a b:Int):EV G (Tb (lA bb)) 69 [vi q,vi f,rfv a b] []=some (rcv (aVL q f a b),[]):=by
 have w:=rW (G:=G) (bb:=bb) q 1 65535;have u:=rY (G:=G) (bb:=bb);have i:=N9 (G:=G) (bb:=bb) a b;have j:=Vg (G:=G) (bb:=bb);unfold aVL;have c:aMp q f a b=aT [un (decide (1<=q/\q<=65535)&&(decide (f=1)||decide (f=3))) 2,Bo a b]:=rfl
 generalize aMp q f a b=e at *;generalize Bo a b=z at *;have k:∀ d:Bool,EV G (Tb (lA bb)) 69 [vi q,vi f,rfv a b] []=some (rcv (if e≠0 then (.nil,e) else (⟨q,0,f,a,b,0,0,[]⟩,0)),[]):=fun _=>by
  refine aB rfl ?_;cases l:decide (1<=q/\q<=65535)
  all_goals rw[l] at w c
  all_goals by_cases d:f=1
  all_goals by_cases g:e=0
  all_goals first | rw[if_neg (not_not_intro g)] | rw[if_pos g]
  all_goals first | rw[decide_eq_true d] at c | rw[decide_eq_false d] at c
  all_goals simp only[aZ8,bAi,bAD,bAq] at c
  ·simp (disch:=omega) only[go_sem,h69c,w,u,i,j,<- c,eq_true d,eq_true g,cK.nil];rfl
  ·simp (disch:=omega) only[go_sem,h69c,w,u,i,j,<- c,eq_true d,g,cK.nil];rfl
  ·by_cases h:f=3
   all_goals simp (disch:=omega) only[go_sem,h69c,w,u,i,j,<- c,d,eq_true g,cK.nil]
   all_goals rfl
  ·by_cases h:f=3
   all_goals simp (disch:=omega) only[go_sem,h69c,w,u,i,j,<- c,d,g,cK.nil]
   all_goals rfl
  ·simp (disch:=omega) only[go_sem,h69c,w,u,i,j,<- c,eq_true d,eq_true g,cK.nil];rfl
  ·simp (disch:=omega) only[go_sem,h69c,w,u,i,j,<- c,eq_true d,g,cK.nil];rfl
  ·by_cases h:f=3
   ·rw[decide_eq_true h] at c;simp (disch:=omega) only[go_sem,h69c,w,u,i,j,<- c,d,eq_true h,eq_true g,cK.nil];rfl
   ·rw[decide_eq_false h] at c;simp (disch:=omega) only[go_sem,h69c,w,u,i,j,<- c,d,h,eq_true g,cK.nil];rfl
  ·by_cases h:f=3
   ·rw[decide_eq_true h] at c;simp (disch:=omega) only[go_sem,h69c,w,u,i,j,<- c,d,eq_true h,g,cK.nil];rfl
   ·rw[decide_eq_false h] at c;simp (disch:=omega) only[go_sem,h69c,w,u,i,j,<- c,d,h,g,cK.nil];rfl
 exact k true
end
section
variable {G:aF}{bb:Bool}
theorem aH2(l:L aJ)(b:∀a∈l,a.W)(c:l.length<=1000):EV G (Tb (lA bb)) 30 [vl (l.map aJ.e),vl (l.map aJ.e)] []=some (vb true,[]):=up (aHz l b c)
theorem Oa(r:cK)(a:r.W):EV G (Tb (lA bb)) 11 [r.v,r.v] []=some (vb true,[]):=by
 refine aB rfl ?_;have q:=aH2 (G:=G) (bb:=bb) r.ats a.at' (by have:=a.ln;omega);simp (disch:=omega) only[go_sem,h11c,q]
end
section
variable {G:aF}{bb:Bool}
abbrev cK.c2(r:cK):L aU:=[.dc (ci r.sq),.dc (ci r.li),.dc (ci r.fl),.dc (ci r.br),.dc (ci r.bq),.dc (ci r.nx),.dc (ci r.ls),.bld 2 r.ats.length]
theorem aH3{α:Type}(l:L α)(k:Nat)(h:k<l.length):l.set k l[k]=l:=List.set_getElem_self h
theorem aDD(r:cK)(b:r.W):EV G (Tb (lA bb)) 108 [r.v] []=some (.agg r.c2,[.box r.c2,.box r.c2,.arr 0 11 (r.ats.map aJ.e)]):=by
 refine aB rfl ?_;have f:=b.ln;have q:=aHl (G:=G) (bb:=bb) r.ats (by omega);simp (disch:=omega) only[go_sem,h108c,q];rw[aR (fun k=>⟨(jk 1 (.one (.ptr 0 0)::.one (.ptr 1 0)::jk 7 (vi r.ats.length::vi k::jk 16 []))),[.box [.dc (ci r.sq),.dc (ci r.li),.dc (ci r.fl),.dc (ci r.br),.dc (ci r.bq),.dc (ci r.nx),.dc (ci r.ls),.bld 2 r.ats.length],.box [.dc (ci 0),.dc (ci 0),.dc (ci 0),.dc (ci 0),.dc (ci 0),.dc (ci 0),.dc (ci 0),.dc (.raw (.slice none 0 0))],.arr 0 11 (r.ats.map aJ.e)]⟩) r.ats.length ?_ ?_]
 simp (disch:=omega) only[go_sem,h108l0,aZA];rfl;intro k a;have d:=up (aAV (G:=G) (bb:=bb) r.ats[k].rs (by have:=(b.at' _ (aZK a)).rl;omega));have e:=ixA r.ats k a;have c:(r.ats.map aJ.e).set k r.ats[k].e=r.ats.map aJ.e:=by
  have:=aH3 (r.ats.map aJ.e) k (by rw[aZA];exact a);rwa[aZU] at this
 simp (disch:=omega) only[go_sem,h108l0,aZA,e,aJ.e,d];rw[c]
theorem aRh(a b:aJ)(g:aI a.nm)(h:aI b.nm):EV G (Tb (lA bb)) 156 [b.v,.one (.ptr 0 0)] [.box a.c]=some (vb (nU a b),[.box a.c]):=by
 refine aB rfl ?_;have e:=cR g h;unfold nU;by_cases d:a.ty=b.ty;by_cases f:a.nm=b.nm
 ·rw[eq_true f] at e;simp (disch:=omega) only[go_sem,h156c,eq_true d,e];all_goals simp[d,f]
 ·rw[eq_false f] at e;simp (disch:=omega) only[go_sem,h156c,eq_true d,e];all_goals simp[d,f]
 ·simp (disch:=omega) only[go_sem,h156c,d];all_goals simp[d]
abbrev aJ.dd(a:aJ):L DC:=[ci a.ty,.raw (.string (dO a.nm)),ci a.id,ci a.fl,.raw (.bool a.res),.raw (.string (dO a.va)),ci a.fi,.slc (a.rs.map aW.e),ci a.al,ci a.sz,ci a.vd]
theorem aRi(r:cK)(a:aJ)(d:r.W)(f:aI a.nm):EV G (Tb (lA bb)) 107 [r.v,a.v] []=some (vb (Fl r a),[]):=by
 refine aB rfl ?_;have h:=d.ln;have q:EV G (Tb (lA bb)) 155 [vl (r.ats.map aJ.e),.one (.fn 156 [.ptr 0 0])] [.box a.c]=some (vb (r.ats.any fun b=>nU a b),[.box a.c]):=
  aRb 156 a.dd (fun b=>nU a b) r.ats (by omega) (fun b g=>aRh a b f (d.at' b g).nm)
 unfold Fl;by_cases c:a.ty=48
 ·simp (disch:=omega) only[go_sem,h107c,eq_true c];all_goals simp[c]
 ·simp (disch:=omega) only[go_sem,h107c,c,q];all_goals simp[c]
end
section
variable {G:aF}{bb:Bool}
theorem Qt{a:aJ}{i:Int}(h:a.W):(bT a i).W:=⟨h.nm,h.va,h.nl,h.vl,h.rl⟩
theorem aVR(l:L aJ):((l.length:Int)<32)=(l.length<32):=by apply propext;omega
theorem H8(r:cK)(l:r.W)(a:aJ)(w:a.W):EV G (Tb (lA bb)) 70 [r.v,a.v] []=some (rcv (Yw r a),[]):=by
 refine aB rfl ?_;have n:=Ah (G:=G) (bb:=bb) r l;have o:=Vi (G:=G) (bb:=bb) r;have u:=rY (G:=G) (bb:=bb);have p:=Vh (G:=G) (bb:=bb);have h:gJ r=0->r.Ok:=A4;have y:=Qt (i:=r.nx) w;have j:=up (Dx (G:=G) (bb:=bb) (bT a r.nx) y);have f:=aRi (G:=G) (bb:=bb) r (bT a r.nx) l y.nm;have K:Fl r (bT a r.nx)=Fl r a:=rfl;rw[K] at f;unfold Yw U3 U4;by_cases b:aT [gJ r,un (fE r.fl) 20,un (decide (r.nx<65535)) 16]=0;rw[if_neg (not_not_intro b)];obtain⟨S,V,X⟩:=A3 b;have t:=h S;have T:=t.num.2.2.2.1;have P:=t.ln;clear h;have s:=aVR r.ats;by_cases d:aT [gI (bT a r.nx),un (!Fl r a) 5,un (decide (r.ats.length<32)) 8]=0;rw[if_neg (not_not_intro d)];obtain⟨Q,U,R⟩:=A3 d;have N:r.ats.length<32:=by
  have:=aHN (by decide) R;simpa using this
 have E:=aDD (G:=G) (bb:=bb) r l;have D:=aBk t Q N;have g:∀ x∈r.ats++[bT a r.nx],x.W:=fun x c=>by
  rcases bAV.1 c with c | c
  ·exact l.at' x c
  ·rw[List.mem_singleton.1 c];exact y
 have O:(r.ats++[bT a r.nx]).length=r.ats.length+1:=by simp
 have k:=aHy (G:=G) (bb:=bb) (r.ats++[bT a r.nx]) g (by omega);rw[if_pos D,D] at k;have F:=Vj (G:=G) (bb:=bb) (fK (r.ats++[bT a r.nx])) (fun x c=>g x (Km.1 c)) (by rw[uX];omega)
 have I:∀x:L DC,List.take (r.ats.length+1) (List.map aJ.e r.ats++[x])=List.map aJ.e r.ats++[x]:=fun x=>bAc (by rw[aZB,aZA];exact aZE _)
 unfold pO;simp only[bAh,aZM,aZN] at k;generalize fK (r.ats++[bT a r.nx])=m at *;generalize gI (bT a r.nx)=M at *;generalize Fl r a=A at *;generalize gJ r=H at *;generalize fE r.fl=J at *;simp only[bT] at j f k ⊢;generalize dC m=z at *;by_cases C:z<=440
 ·have q:¬ 440<z:=by omega
  rw[if_pos C];simp (disch:=omega) only[go_sem,h70c,n,o,u,p,j,f,E,k,F,eq_true b,eq_true d,q,s,aZA,aZB,aZC,aZD,bAn,aZE,I];all_goals rfl
 have q:440<z:=by omega
 rw[if_neg C];simp (disch:=omega) only[go_sem,h70c,n,o,u,p,j,f,E,k,F,eq_true b,eq_true d,eq_true q,s,aZA,aZB,aZC,aZD,bAn,aZE,I,cK.nil];rfl;rw[if_pos d];generalize gI (bT a r.nx)=M at *;generalize Fl r a=A at *;generalize gJ r=H at *;generalize fE r.fl=J at *;simp only[bT] at j f;simp (disch:=omega) only[go_sem,h70c,n,o,u,p,j,f,eq_true b,d,s,aZA,cK.nil];rfl;rw[if_pos b];generalize gJ r=H at *;generalize fE r.fl=J at *;simp (disch:=omega) only[go_sem,h70c,n,o,u,p,b,cK.nil];rfl
end
section
variable {G:aF}{bb:Bool}
end
section
variable {G:aF}{bb:Bool}
end
section
variable {G:aF}{bb:Bool}
def K4:L (L DC)->Option (L ByteArray)
 |[]=>some []
 |[.raw (.string s)]::es=>(K4 es).map (s::·)
 |_::_=>none
theorem Ob:∀{es:L (L DC)}{a:L ByteArray},K4 es=some a->es=a.map Hd
 |[],a,h=>by simp[K4] at h;subst h;rfl
 | e::es,a,h=>by
  unfold K4 at h;split at h
  ·rename_i b;cases b
  ·rename_i s c b;injection b with d f
   subst d;subst f;obtain⟨g,h3,h4⟩:=Option.map_eq_some_iff.1 h;subst h4;rw[Ob h3];rfl
  ·cases h
theorem aH4(xs:L ByteArray):K4 (xs.map Hd)=some xs:=by
 induction xs with
 |nil=>rfl
 |cons x xs a=>rw[aZM,Hd,K4,a];rfl
def aH5(a:ByteArray):Option (L ByteArray)->Option (AV×L aD)
 |some b=>if b.length<=1000/\(Lib.join (b.map (·.data.toList)) a.data.toList).length<=1000000 then some (.one (.dc (.raw (.string (Vl b a)))),[]) else none
 |none=>none
def aBo:L AV->L aD->Option (AV×L aD)
 |[.one (.dc (.slc es)),.one (.dc (.raw (.string sep)))],[]=>aH5 sep (K4 es)
 |_,_=>none
noncomputable def lP(_:aF)(b:Bool):aO:=fun f a hp=>if f=119 then aBo a hp else lA b f a hp
theorem aRj{b:Bool}(l:b=true->QC Tryz.prog G 4 [] (.one (.dc (.raw (.bool true))))):cH Tryz.prog G (lP G b):=by
 intro f c hp k m h d j;unfold lP at h;split at h;rename_i hf;subst hf;refine⟨by kernel_rfl,?_⟩;unfold aBo at h;split at h;rename_i es n;unfold aH5 at h;split at h;rename_i q i;split at h;rename_i p;injection h with h;injection h with e g;subst e;subst g
 have:d=[]:=by simpa using j
 subst this;rw[Ob i];exact (aMA (G:=G) (by omega) (by omega)).gh (fun a o ⟨e,g⟩ _=>⟨a,o,Gh.refl,aZX _,e,by rw[g];rfl⟩)
 cases h;cases h;cases h;exact aQS l f c hp k m h d j
theorem aMC{b:Bool}(f:FuncId)(a:L AV)(hp:L aD)(r:AV×L aD)(h:lA b f a hp=some r):lP G b f a hp=some r:=by
 have c:lA b 119 a hp=none:=rfl;unfold lP;split;rename_i hf;subst hf;rw[c] at h;cases h;exact h
theorem Fn{b:Bool}{f:FuncId}{a:L AV}{hp:L aD}{r:AV×L aD}(h:EV G (Tb (lA b)) f a hp=some r):EV G (Tb (lP G b)) f a hp=some r:=
 aHi (T:=Tb (lA b)) (T':=Tb (lP G b)) (fun _=>rfl) (fun f a hp r _ h=>aMC (G:=G) f a hp r h) h
theorem Oc:∀L:List (List UInt8),([]:List UInt8).intercalate L=L.flatten
 |[]=>rfl
 |[x]=>by simp[List.intercalate]
 | x::y::l=>by
  have:=Oc (y::l);simp[List.intercalate,List.intersperse] at this ⊢;exact this
theorem aH6(a:L (L Int)):Vl (a.map dO) ⟨#[]⟩=dO a.flatten:=by
 have b:Lib.join ((a.map dO).map (·.data.toList)) []=a.flatten.map u8:=by
  unfold Lib.join;rw[Oc,aZ4,List.map_flatten];congr 1
 unfold Vl;show (⟨(Lib.join ((a.map dO).map (·.data.toList)) []).toArray⟩:ByteArray)=_;rw[b];rfl
theorem aMD(a:L (L Int))(c:a.length<=1000)(d:a.flatten.length<=1000000):EV G (Tb (lP G bb)) 119 [vl (a.map pV),.one (.dc (.raw (.string ⟨#[]⟩)))] []=some (sv a.flatten,[]):=by
 refine jF rfl ?_;show lP G bb 119 [vl (a.map pV),.one (.dc (.raw (.string ⟨#[]⟩)))] []=_;unfold lP;rw[if_pos rfl];have e:a.map pV=(a.map dO).map Hd:=by rw[aZ4];rfl
 have b:(Lib.join ((a.map dO).map (·.data.toList)) (⟨#[]⟩:ByteArray).data.toList).length=a.flatten.length:=by
  have:=congrArg ByteArray.size (aH6 a);rw[aC] at this;simpa[Vl,ByteArray.size] using this
 show aBo [vl (a.map pV),.one (.dc (.raw (.string ⟨#[]⟩)))] []=_;unfold aBo;simp only;rw[e,aH4];unfold aH5;simp only;rw[if_pos ⟨by rw[aZA];exact c,by rw[b];exact d⟩,aH6]
end
section
variable {G:aF}{B:aO}
structure Bt where
 (cl tb mi lg lc se:Int)
deriving DecidableEq
abbrev Bt.cs(x:Bt):L aU:=[.dc (ci x.cl),.dc (ci x.tb),.dc (ci x.mi),.dc (ci x.lg),.dc (ci x.lc),.dc (ci x.se)]
abbrev Bt.v(x:Bt):AV:=.agg x.cs
abbrev Bt.o(x:Bt):aD:=.box x.cs
def qB(b:Bool)(e:Int):Int:=if b=true then 0 else e
def Bt.num(x:Bt):Bool:=decide (64<=x.cl/\x.cl<=512)&&decide (x.lc.tmod 2=0)&&decide (8<=x.lc/\x.lc<=64)&&decide (0<=x.se/\x.se<=2147483647)
def Bt.inn(x:Bt)(n:Int):Bool:=decide (1<=n/\n<=x.cl-2)
def Bt.ins(x:Bt):Bool:=x.inn x.tb&&x.inn x.mi&&x.inn x.lg
def Bt.fit(x:Bt):Bool:=decide (x.mi+8<x.cl)&&decide (x.lg+x.lc<x.cl)
def Er(a m b n:Int):Bool:=decide (a<b+n/\b<a+m)
def Bt.cla(x:Bt):Bool:=!Er x.tb 2 x.mi 8&&!Er x.tb 2 x.lg x.lc&&!Er x.mi 8 x.lg x.lc
def jQ(x:Bt):Int:=if x.num=true then if x.ins=true then if x.fit=true then if x.cla=true then 0 else 13 else 37 else 2 else 2
theorem kJ(n a b:Int):EV G (Tb B) 35 [vi n,vi a,vi b] []=some (vb (decide (a<=n/\n<=b)),[]):=by
 refine aB rfl ?_;by_cases h:a<=n;all_goals simp (disch:=omega) only[go_sem,h35c]
 all_goals simp[h]
theorem jB(b:Bool)(e:Int):EV G (Tb B) 23 [vb b,vi e] []=some (vi (qB b e),[]):=by
 refine aB rfl ?_;cases b;all_goals simp (disch:=omega) only[go_sem,h23c]
 all_goals rfl
theorem Vn(l:L Int)(g:l.length<=1000):EV G (Tb B) 22 [vl (el l)] []=some (vi (aT l),[]):=by
 refine aB rfl ?_;simp (disch:=omega) only[go_sem,h22c,aZA];have a:∀ k (b:k < l.length),¬ l.getD k 0≠0->Ls [5,0,0] 0 (EC (EV G (Tb B)) G h22l0 ⟨(jk 5 (vl (el l)::vi l.length::vi k::jk 7 [])),[]⟩)=some ⟨(jk 5 (vl (el l)::vi l.length::vi (k+1:Nat)::jk 7 [])),[]⟩:=fun k b f=>by
  rw[cE l k b] at f;simp (disch:=omega) only[go_sem,h22l0,aZA,tL]
 rcases Pv (fun k=>l.getD k 0≠0) l.length with h|⟨j,e,c,d⟩
 rw[aR (fun k=>⟨(jk 5 (vl (el l)::vi l.length::vi k::jk 7 [])),[]⟩) l.length ?_ ?_]
 rw[iH l h];simp (disch:=omega) only[go_sem,h22l0];rfl;exact fun k b=>a k b (h k b)
 rw[aR (fun k=>⟨(jk 5 (vl (el l)::vi l.length::vi k::jk 7 [])),[]⟩) j ?_ ?_]
 rw[kH l j e d c];rw[cE l j e] at c;simp (disch:=omega) only[go_sem,h22l0,aZA,tL];rfl;exact fun k b=>a k (by omega) (d k b)
theorem pW(a b:Int):EV G (Tb B) 22 [vl [[ci a],[ci b]]] []=some (vi (aT [a,b]),[]):=Vn [a,b] (by simp)
theorem K5(x:Bt)(n:Int):EV G (Tb B) 60 [vi n,.one (.ptr 0 0)] [x.o]=some (vb (decide (1<=n/\n<=IntKind.i64.wrap (x.cl-2))),[x.o]):=by
 refine aB rfl ?_;have w:=fun n b a=>kJ (G:=G) (B:=B) n b a
 simp (disch:=omega) only[go_sem,h60c,w]
theorem aME(x:Bt):EV G (Tb B) 61 [x.v] []=some (rn x.tb 2,[]):=by
 refine aB rfl ?_;simp (disch:=omega) only[go_sem,h61c]
theorem A8(x:Bt):EV G (Tb B) 38 [x.v] []=some (rn x.mi 8,[]):=by
 refine aB rfl ?_;simp (disch:=omega) only[go_sem,h38c]
theorem Y2(x:Bt):EV G (Tb B) 39 [x.v] []=some (rn x.lg x.lc,[]):=by
 refine aB rfl ?_;simp (disch:=omega) only[go_sem,h39c]
theorem pX(s n:Int)(h:-1000000<=s/\s<=1000000)(a:-1000000<=n/\n<=1000000):EV G (Tb B) 36 [rn s n] []=some (vi (s+n),[]):=by
 refine aB rfl ?_;simp (disch:=omega) only[go_sem,h36c]
theorem Ee(a m b n:Int)(h:-1000000<=a/\a<=1000000)(d:-1000000<=m/\m<=1000000)(e:-1000000<=b/\b<=1000000)(c:-1000000<=n/\n<=1000000):EV G (Tb B) 37 [rn a m,rn b n] []=some (vb (Er a m b n),[]):=by
 refine aB rfl ?_;have f:=pX (G:=G) (B:=B) a m h d;have g:=pX (G:=G) (B:=B) b n e c;by_cases h:a<b+n;all_goals simp (disch:=omega) only[go_sem,h37c,f,g]
 all_goals simp[h,Er]
theorem eB(e:Int):qB true e=0:=rfl
theorem fF(e:Int):qB false e=e:=rfl
theorem bY(a b:Int):aT [a,b]=if a=0 then b else a:=by
 by_cases h:a=0;subst h;by_cases c:b=0;subst c;rfl;simp[aT,c];simp[aT,h]
theorem Bq{α a:Type}(f:α->Option a)(x:α):[x].mapM f=(f x).map fun c=>[c]:=by
 cases h:f x<;>simp[bAz,h]
theorem sY{id:Nat}{a b c d:aU}{st:AS}:fvT 2 id 0 [a,b] st (some (.box [c,d]))=some (⟨st.sl,st.hp.set id (.box [a,b])⟩,[id],[id]):=aNW rfl (by simp)
theorem rZ{x:Bt}(h:x.num=false):jQ x=2:=by simp[jQ,h]
theorem Ai{x:Bt}(h:x.ins=false):jQ x=2:=by simp[jQ,h]
theorem K6{x:Bt}(h:x.num=true)(a:x.ins=true)(b:x.fit=false):jQ x=37:=by simp[jQ,h,a,b]
theorem Vo{x:Bt}(h:x.num=true)(a:x.ins=true)(b:x.fit=true):jQ x=qB x.cla 13:=by simp[jQ,h,a,b,qB]
theorem mG{x:Bt}:x.num=true↔(64<=x.cl/\x.cl<=512)/\x.lc.tmod 2=0/\(8<=x.lc/\x.lc<=64)/\(0<=x.se/\x.se<=2147483647):=by
 simp[Bt.num,and_assoc]
theorem qN{x:Bt}:x.ins=true↔(1<=x.tb/\x.tb<=x.cl-2)/\(1<=x.mi/\x.mi<=x.cl-2)/\(1<=x.lg/\x.lg<=x.cl-2):=by
 simp[Bt.ins,Bt.inn,and_assoc]
theorem Ef{x:Bt}:x.fit=true↔x.mi+8<x.cl/\x.lg+x.lc<x.cl:=by simp[Bt.fit]
theorem Y3(x:Bt)(j:x.num=false):EV G (Tb B) 33 [x.v] []=some (vi 2,[]):=by
 have w:=fun n k i=>kJ (G:=G) (B:=B) n k i
 have u:=jB (G:=G) (B:=B);have f:=pW (G:=G) (B:=B);obtain⟨I,c⟩:∃I:Int->Bool,∀n,EV G (Tb B) 60 [vi n,.one (.ptr 0 0)] [x.o]=some (vb (I n),[x.o]):=⟨_,K5 x⟩;have e:¬ ((64<=x.cl/\x.cl<=512)/\x.lc.tmod 2=0/\(8<=x.lc/\x.lc<=64)/\(0<=x.se/\x.se<=2147483647)):=fun h=>by rw[<- mG,j] at h;cases h
 refine aB rfl ?_;by_cases d:64<=x.cl/\x.cl<=512;by_cases g:x.lc.tmod 2=0;by_cases h3:8<=x.lc/\x.lc<=64
 ·have h4:¬ (0<=x.se/\x.se<=2147483647):=fun h4=>e ⟨d,g,h3,h4⟩
  cases a:I x.tb;all_goals cases b:I x.mi
  all_goals simp (disch:=omega) only[go_sem,h33c,w,u,f,c,d,g,h3,h4,a,b,Bq,jE,aZG,bY,eB,fF]
 ·cases a:I x.tb;all_goals cases b:I x.mi
  all_goals simp (disch:=omega) only[go_sem,h33c,w,u,f,c,d,g,h3,a,b,Bq,jE,aZG,bY,eB,fF]
 ·cases a:I x.tb;all_goals cases b:I x.mi
  all_goals simp (disch:=omega) only[go_sem,h33c,w,u,f,c,d,g,a,b,Bq,jE,aZG,bY,eB,fF]
 ·cases a:I x.tb;all_goals cases b:I x.mi
  all_goals simp (disch:=omega) only[go_sem,h33c,w,u,f,c,d,a,b,Bq,jE,aZG,bY,eB,fF]
theorem Y4(x:Bt)(l:x.num=true)(g:x.ins=false):EV G (Tb B) 33 [x.v] []=some (vi 2,[]):=by
 have w:=fun n p g=>kJ (G:=G) (B:=B) n p g
 have u:=jB (G:=G) (B:=B);have f:=pW (G:=G) (B:=B);obtain⟨i,j,h3,h4⟩:=mG.1 l;have c:∀ n,EV G (Tb B) 60 [vi n,.one (.ptr 0 0)] [x.o]=some (vb (x.inn n),[x.o]):=fun n=>by
  rw[K5,Ew (by omega)];rfl
 have e:x.inn x.tb=true->x.inn x.mi=true->x.inn x.lg=false:=fun a b=>by
  cases d:x.inn x.lg
  ·rfl
  ·rw[Bt.ins,a,b,d] at g;cases g
 refine aB rfl ?_;cases h:x.inn x.tb;simp (disch:=omega) only[go_sem,h33c,w,u,f,c,i,j,h3,h4,Bq,jE,aZG,bY,eB,fF,h];cases k:x.inn x.mi;simp (disch:=omega) only[go_sem,h33c,w,u,f,c,i,j,h3,h4,Bq,jE,aZG,bY,eB,fF,h,k];have m:=e h k;simp (disch:=omega) only[go_sem,h33c,w,u,f,c,i,j,h3,h4,Bq,jE,aZG,bY,eB,fF,h,k,m]
theorem aDE(x:Bt)(I:x.num=true)(E:x.ins=true):EV G (Tb B) 33 [x.v] []=some (vi (jQ x),[]):=by
 have w:=fun n O E=>kJ (G:=G) (B:=B) n O E
 have u:=jB (G:=G) (B:=B);have f:=pW (G:=G) (B:=B);have l:=aME (G:=G) (B:=B) x;have p:=A8 (G:=G) (B:=B) x;have m:=Y2 (G:=G) (B:=B) x;obtain⟨q,r,h3,h4⟩:=mG.1 I;obtain⟨L,M,N⟩:=qN.1 E;have c:∀ n,EV G (Tb B) 60 [vi n,.one (.ptr 0 0)] [x.o]=some (vb (x.inn n),[x.o]):=fun n=>by
  rw[K5,Ew (by omega)];rfl
 have s:x.inn x.tb=true:=by simp[Bt.inn,L]
 have t:x.inn x.mi=true:=by simp[Bt.inn,M]
 have y:x.inn x.lg=true:=by simp[Bt.inn,N]
 have i:=pX (G:=G) (B:=B) x.mi 8 (by omega) (by omega);have k:=pX (G:=G) (B:=B) x.lg x.lc (by omega) (by omega);have b:=Ee (G:=G) (B:=B) x.tb 2 x.mi 8 (by omega) (by omega) (by omega) (by omega);have g:=Ee (G:=G) (B:=B) x.tb 2 x.lg x.lc (by omega) (by omega) (by omega) (by omega);have h:=Ee (G:=G) (B:=B) x.mi 8 x.lg x.lc (by omega) (by omega) (by omega) (by omega);have e:jQ x=if qB x.fit 37=0 then qB x.cla 13 else qB x.fit 37:=by
  cases hf:x.fit<;>simp[jQ,I,E,hf,qB]
 rw[e];have d:x.fit=(decide (x.mi+8<x.cl)&&decide (x.lg+x.lc<x.cl)):=rfl;have D:x.cla=(!Er x.tb 2 x.mi 8&&!Er x.tb 2 x.lg x.lc&&!Er x.mi 8 x.lg x.lc):=rfl;generalize Er x.tb 2 x.mi 8=A at b D;generalize Er x.tb 2 x.lg x.lc=C at g D;generalize Er x.mi 8 x.lg x.lc=K at h D;rw[d,D];have F:∀J:Bool,(decide (x.mi+8<x.cl)&&decide (x.lg+x.lc<x.cl))=J->qC h33.own h33.rs 0 (EC (EV G (Tb B)) G h33.code ⟨[x.v]++tF (h33.nt-1),[]⟩)=some (vi (if qB J 37=0 then qB (!A&&!C&&!K) 13 else qB J 37),[]):=by
  intro J H;by_cases a:x.mi+8<x.cl;by_cases z:x.lg+x.lc<x.cl;have j:J=true:=by rw[<- H];simp[a,z]
  subst j;cases A;cases C;simp (disch:=omega) only[go_sem,h33c,w,u,f,c,q,r,h3,h4,Bq,jE,aZG,bY,eB,fF,s,t,y,l,p,m,i,k,sY,b,g,h,a,z,aZ5,aZ6,aZ8,bAi];simp (disch:=omega) only[go_sem,h33c,w,u,f,c,q,r,h3,h4,Bq,jE,aZG,bY,eB,fF,s,t,y,l,p,m,i,k,sY,b,g,h,a,z,aZ5,aZ6,aZ8,bAi];simp (disch:=omega) only[go_sem,h33c,w,u,f,c,q,r,h3,h4,Bq,jE,aZG,bY,eB,fF,s,t,y,l,p,m,i,k,sY,b,g,h,a,z,aZ5,aZ6,aZ8,bAi];have j:J=false:=by rw[<- H];simp[z]
  subst j;cases A;cases C;simp (disch:=omega) only[go_sem,h33c,w,u,f,c,q,r,h3,h4,Bq,jE,aZG,bY,eB,fF,s,t,y,l,p,m,i,k,sY,b,g,h,a,z,aZ5,aZ6];simp (disch:=omega) only[go_sem,h33c,w,u,f,c,q,r,h3,h4,Bq,jE,aZG,bY,eB,fF,s,t,y,l,p,m,i,k,sY,b,g,h,a,z,aZ5,aZ6];simp (disch:=omega) only[go_sem,h33c,w,u,f,c,q,r,h3,h4,Bq,jE,aZG,bY,eB,fF,s,t,y,l,p,m,i,k,sY,b,g,h,a,z,aZ5,aZ6];have j:J=false:=by rw[<- H];simp[a]
  subst j;cases A;cases C;simp (disch:=omega) only[go_sem,h33c,w,u,f,c,q,r,h3,h4,Bq,jE,aZG,bY,eB,fF,s,t,y,l,p,m,i,k,sY,b,g,h,a,aZ5,aZ6];simp (disch:=omega) only[go_sem,h33c,w,u,f,c,q,r,h3,h4,Bq,jE,aZG,bY,eB,fF,s,t,y,l,p,m,i,k,sY,b,g,h,a,aZ5,aZ6];simp (disch:=omega) only[go_sem,h33c,w,u,f,c,q,r,h3,h4,Bq,jE,aZG,bY,eB,fF,s,t,y,l,p,m,i,k,sY,b,g,h,a,aZ5,aZ6]
 exact aB rfl (F _ rfl)
theorem Aj(x:Bt):EV G (Tb B) 33 [x.v] []=some (vi (jQ x),[]):=by
 cases a:x.num with
 |false=>rw[rZ a];exact Y3 x a
 | true=>cases b:x.ins with
  | false=>rw[Ai b];exact Y4 x a b
  | true=>exact aDE x a b
