/- Part. Conditions: none. -/
import Derived.Test.YtalhnjjchkmfeaaGreatDoorSg
import Derived.Test.YtalhnjjchkmfeaaGreatDoorUw
import Derived.Test.YtalhnjjchkmfeaaGreatDoorSz
import Derived.Test.YtalhnjjchkmfeaaGreatDoorRk
import Derived.Test.YtalhnjjchkmfeaaGreatDoorTf
import Derived.Test.YtalhnjjchkmfeaaGreatDoorCb
import Derived.Test.YtalhnjjchkmfeaaGreatDoorVf
namespace Go.Proofs.YtalhnjjchkmfeaaGreatDoor
set_option maxHeartbeats 8000000
set_option linter.unusedSimpArgs false
set_option linter.unusedVariables false
set_option maxRecDepth 4000
section
variable {G:aF}{bb:Bool}
theorem K2{r:cL}(h:tY r=false):Aj r=(0,2):=by
 have a:Wh r=2:=by unfold Wh;rw[h,gX,aZ _ _ (by decide)]
 unfold Aj;rw[if_pos (by rw[a];decide),a]
theorem aRf{r:cL}(h:tY r=true):Wh r=aU [Br r.br r.bq,un (fU r.fl||Mb r) 3]:=by
 unfold Wh;rw[h,gE,aW]
theorem aH5{r:cL}{e:Int}(h:Wh r=e)(a:e≠0):Aj r=(0,e):=by
 unfold Aj;rw[if_pos (by rw[h];exact a),h]
theorem Vk(r:cL)(K:r.W)(x:1<=r.sq/\r.sq<=65535)(y:0<=r.li/\r.li<=65535)(p:0<=r.fl/\r.fl<=3)(z:0<=r.nx/\r.nx<=65535)(A:0<=r.ls/\r.ls<=2147483647) (R:Br r.br r.bq=0) (M:fU r.fl=true\/fU r.fl=false/\r.ats=[]/\r.li=0/\r.br=0/\r.bq=0/\r.fl=0/\r.nx=0):EV G (Tb (lA bb)) 128 [r.v] []=some (iiv (if (nP r.ats).2≠0 then nP r.ats else if 0<=Wi r then (Wi r,9) else (0,un (decide (dD r.ats<=440)) 16)),[]):=by
 have L:=K.ln;have w:=Bf (G:=G) (bb:=bb);have q:=Kz (G:=G) (bb:=bb) r.br r.bq;rw[R] at q;have d:=aBl (G:=G) (bb:=bb) r ⟨p.1,by omega⟩;have s:=up (aHc (G:=G) (bb:=bb) r.ats K.at' (by omega));have P:=U4 (l:=r.ats);have N:r.ats.length<=900:=L;generalize S:nP r.ats=o at *;obtain⟨T,Q⟩:=o;dsimp only at s ⊢;by_cases f:Q=0;have O:∀a∈r.ats,gI a=0:=((A7 r.ats).1 (P f)).1;have C:=aMC (G:=G) (bb:=bb) r.ats K.at' O (by omega);rw[if_neg (not_not_intro f)];have b:Wi r=if ix (fun k=>decide (r.nx<=(r.ats.getD k aI.nil).id)=true) r.ats.length=r.ats.length then -1 else ((ix (fun k=>decide (r.nx<=(r.ats.getD k aI.nil).id)=true) r.ats.length:Nat):Int):=rfl
 generalize Wi r=g at *;refine aB rfl ?_;rcases M with j|⟨j,t,E,F,H,I,J⟩
 ·rw[j] at d;simp (disch:=omega) only[go_sem,h128c,w,q,d,s,eq_true f,eq_true x,eq_true y,eq_true p,eq_true z,eq_true A,decide_true,aZX];rw[dQ (fun k=>⟨(jk 1 (.one (.ptr 0 0)::jk 5 (vi k::jk 95 []))),[.box r.c]⟩) (fun k=>decide (r.nx<=(r.ats.getD k aI.nil).id)=true) r.ats.length ?_ ?_]
  rotate_left
  rfl;intro k m u;have h3:=u k (aZE _);rw[fH r.ats k m,decide_eq_true_eq] at h3;simp (disch:=omega) only[go_sem,h128l0,aZz,ixA,aI.e,h3];obtain⟨m,hp,u⟩:=bF (fun k=>decide (r.nx<=(r.ats.getD k aI.nil).id)=true) r.ats.length
  generalize ix (fun k=>decide (r.nx<=(r.ats.getD k aI.nil).id)=true) r.ats.length=k at *
  rcases hp with rfl|⟨i,hp⟩;rw[if_pos rfl] at b;subst b;rw[if_neg (by decide)];by_cases n:dD r.ats<=440
  have h:¬ 440<dD r.ats:=by omega
  rw[decide_eq_true n,gE];simp (disch:=omega) only[go_sem,h128l0,aZz,C,h];have h:440<dD r.ats:=by omega
  rw[decide_eq_false n,gX];simp (disch:=omega) only[go_sem,h128l0,aZz,C,eq_true h];rw[if_neg (by omega)] at b;subst b;rw[if_pos (by omega)];rw[fH r.ats k i,decide_eq_true_eq] at hp;simp (disch:=omega) only[go_sem,h128l0,aZz,ixA,aI.e,eq_true hp]
 ·rw[j] at d;have D:¬ 0<(r.ats.length:Int):=by rw[t];simp
  simp (disch:=omega) only[go_sem,h128c,w,q,d,s,eq_true f,eq_true x,eq_true y,eq_true p,eq_true z,eq_true A,decide_true,aZX,aZz,D,eq_true E,eq_true F,eq_true H,eq_true I,eq_true J];rw[dQ (fun k=>⟨(jk 1 (.one (.ptr 0 0)::jk 5 (vi k::jk 95 []))),[.box r.c]⟩) (fun k=>decide (r.nx<=(r.ats.getD k aI.nil).id)=true) r.ats.length ?_ ?_]
  rotate_left
  rfl;intro k m u;rw[t] at m;simp at m;obtain⟨m,hp,u⟩:=bF (fun k=>decide (r.nx<=(r.ats.getD k aI.nil).id)=true) r.ats.length
  generalize ix (fun k=>decide (r.nx<=(r.ats.getD k aI.nil).id)=true) r.ats.length=k at *
  rcases hp with rfl|⟨i,hp⟩;rw[if_pos rfl] at b;subst b;rw[if_neg (by decide)];by_cases n:dD r.ats<=440
  have h:¬ 440<dD r.ats:=by omega
  rw[decide_eq_true n,gE];simp (disch:=omega) only[go_sem,h128l0,aZz,C,h];have h:440<dD r.ats:=by omega
  rw[decide_eq_false n,gX];simp (disch:=omega) only[go_sem,h128l0,aZz,C,eq_true h];rw[if_neg (by omega)] at b;subst b;rw[if_pos (by omega)];rw[fH r.ats k i,decide_eq_true_eq] at hp;simp (disch:=omega) only[go_sem,h128l0,aZz,ixA,aI.e,eq_true hp]
 rw[if_pos f];refine aB rfl ?_;rcases M with j|⟨j,t,E,F,H,I,J⟩
 rw[j] at d;simp (disch:=omega) only[go_sem,h128c,w,q,d,s,f,eq_true x,eq_true y,eq_true p,eq_true z,eq_true A,decide_true,aZX];rw[j] at d;have D:¬ 0<(r.ats.length:Int):=by rw[t];simp
 simp (disch:=omega) only[go_sem,h128c,w,q,d,s,f,eq_true x,eq_true y,eq_true p,eq_true z,eq_true A,decide_true,aZX,aZz,D,eq_true E,eq_true F,eq_true H,eq_true I,eq_true J]
theorem aH6(r:cL)(x:r.W):EV G (Tb (lA bb)) 128 [r.v] []=some (iiv (Aj r),[]):=by
 have w:=Bf (G:=G) (bb:=bb);have i:=Kz (G:=G) (bb:=bb) r.br r.bq;by_cases a:1<=r.sq/\r.sq<=65535;by_cases b:0<=r.li/\r.li<=65535;by_cases c:0<=r.fl/\r.fl<=3;by_cases d:0<=r.nx/\r.nx<=65535;by_cases f:0<=r.ls/\r.ls<=2147483647;have y:tY r=true:=by simp[tY,a,b,c,d,f]
 have g:=aRf y;by_cases l:Br r.br r.bq=0;rw[l,aW] at g;have k:=aBl (G:=G) (bb:=bb) r ⟨c.1,by omega⟩;cases p:fU r.fl with
 |true=>
  rw[p,bAE,gE] at g;have o:Wh r=0:=g;have e:Aj r=if (nP r.ats).2≠0 then nP r.ats else if 0<=Wi r then (Wi r,9) else (0,un (decide (dD r.ats<=440)) 16):=by
   unfold Aj;rw[if_neg (not_not_intro o)]
  rw[e];exact Vk r x a b c d f l (.inl p)
 |false=>
  rw[p,bAp] at g;rw[p] at k;rw[l] at i;cases h:Mb r with
  |true=>
   rw[h,gE] at g;have o:Wh r=0:=g;have e:Aj r=if (nP r.ats).2≠0 then nP r.ats else if 0<=Wi r then (Wi r,9) else (0,un (decide (dD r.ats<=440)) 16):=by
    unfold Aj;rw[if_neg (not_not_intro o)]
   rw[e];simp only[Mb,aZO,decide_eq_true_eq] at h;exact Vk r x a b c d f l (.inr ⟨p,h.2.1,h.2.2.1,h.2.2.2.1.1,h.2.2.2.1.2,h.1,h.2.2.2.2⟩)
  |false=>
   rw[h,gX] at g;have o:Wh r=3:=g;rw[aH5 o (by decide)];refine aB rfl ?_;by_cases t:r.ats=[];have j:¬ 0<(r.ats.length:Int):=by rw[t];simp
   by_cases m:r.li=0;by_cases n:r.br=0;by_cases q:r.bq=0;by_cases s:r.fl=0;by_cases u:r.nx=0;simp[Mb,s,t,m,n,q,u] at h;simp (disch:=omega) only[go_sem,h128c,w,i,k,eq_true a,eq_true b,eq_true c,eq_true d,eq_true f,decide_true,aZX,aZz,j,eq_true m,eq_true n,eq_true q,eq_true s,u];simp (disch:=omega) only[go_sem,h128c,w,i,k,eq_true a,eq_true b,eq_true c,eq_true d,eq_true f,decide_true,aZX,aZz,j,eq_true m,eq_true n,eq_true q,s];simp (disch:=omega) only[go_sem,h128c,w,i,k,eq_true a,eq_true b,eq_true c,eq_true d,eq_true f,decide_true,aZX,aZz,j,eq_true m,eq_true n,q];simp (disch:=omega) only[go_sem,h128c,w,i,k,eq_true a,eq_true b,eq_true c,eq_true d,eq_true f,decide_true,aZX,aZz,j,eq_true m,n];simp (disch:=omega) only[go_sem,h128c,w,i,k,eq_true a,eq_true b,eq_true c,eq_true d,eq_true f,decide_true,aZX,aZz,j,m];have j:0<(r.ats.length:Int):=by
    have:=List.length_pos_iff.2 t;omega
   simp (disch:=omega) only[go_sem,h128c,w,i,k,eq_true a,eq_true b,eq_true c,eq_true d,eq_true f,decide_true,aZX,aZz,eq_true j]
 rw[aZ _ _ l] at g;rw[aH5 g l];refine aB rfl ?_;simp (disch:=omega) only[go_sem,h128c,w,i,eq_true a,eq_true b,eq_true c,eq_true d,eq_true f,decide_true,aZX,l];rw[K2 (by simp[tY,f])];refine aB rfl ?_;simp (disch:=omega) only[go_sem,h128c,w,eq_true a,eq_true b,eq_true c,eq_true d,f,decide_true,aZX,decide_false,aZ2];rw[K2 (by simp[tY,d])];refine aB rfl ?_;simp (disch:=omega) only[go_sem,h128c,w,eq_true a,eq_true b,eq_true c,d,decide_true,aZX,decide_false,aZ2];rw[K2 (by simp[tY,c])];refine aB rfl ?_;simp (disch:=omega) only[go_sem,h128c,w,eq_true a,eq_true b,c,decide_true,aZX,decide_false,aZ2];rw[K2 (by simp[tY,b])];refine aB rfl ?_;simp (disch:=omega) only[go_sem,h128c,w,eq_true a,b,decide_true,aZX,decide_false,aZ2];rw[K2 (by simp[tY,a])];refine aB rfl ?_;simp (disch:=omega) only[go_sem,h128c,w,a,decide_false,aZ2]
theorem aMF(r:cL)(a:r.W):EV G (Tb (lA bb)) 86 [r.v] []=some (vi (hZ r),[]):=by
 refine aB rfl ?_;have q:=aH6 (G:=G) (bb:=bb) r a;unfold hZ;generalize Aj r=o at *;obtain⟨b,c⟩:=o;simp (disch:=omega) only[go_sem,h86c,q]
theorem Ao(r:cL)(a:r.W):EV G (Tb (lA bb)) 116 [r.v] []=some (vi (hZ r),[]):=by
 refine aB rfl ?_;have q:=aH2 (G:=G) (bb:=bb) r a;unfold hZ;generalize Aj r=o at *;obtain⟨b,c⟩:=o;simp (disch:=omega) only[go_sem,h116c,q]
theorem aVN(q f a b:Int):EV G (Tb (lA bb)) 80 [vi q,vi f,rfv a b] []=some (rcv (aVI q f a b),[]):=by
 have w:=rY (G:=G) (bb:=bb) q 1 65535;have u:=rZ (G:=G) (bb:=bb);have i:=Oa (G:=G) (bb:=bb) a b;have j:=Ve (G:=G) (bb:=bb);unfold aVI;have c:aMs q f a b=aU [un (decide (1<=q/\q<=65535)&&(decide (f=1)||decide (f=3))) 2,Br a b]:=rfl
 generalize aMs q f a b=e at *;generalize Br a b=z at *;have k:∀ d:Bool,EV G (Tb (lA bb)) 80 [vi q,vi f,rfv a b] []=some (rcv (if e≠0 then (.nil,e) else (⟨q,0,f,a,b,0,0,[]⟩,0)),[]):=fun _=>by
  refine aB rfl ?_;cases l:decide (1<=q/\q<=65535)
  all_goals rw[l] at w c
  all_goals by_cases d:f=1
  all_goals by_cases g:e=0
  all_goals first | rw[if_neg (not_not_intro g)] | rw[if_pos g]
  all_goals first | rw[decide_eq_true d] at c | rw[decide_eq_false d] at c
  all_goals simp only[aZ8,bAh,bAE,bAp] at c
  ·simp (disch:=omega) only[go_sem,h80c,w,u,i,j,<- c,eq_true d,eq_true g,cL.nil];rfl
  ·simp (disch:=omega) only[go_sem,h80c,w,u,i,j,<- c,eq_true d,g,cL.nil];rfl
  ·by_cases h:f=3
   all_goals simp (disch:=omega) only[go_sem,h80c,w,u,i,j,<- c,d,eq_true g,cL.nil]
   all_goals rfl
  ·by_cases h:f=3
   all_goals simp (disch:=omega) only[go_sem,h80c,w,u,i,j,<- c,d,g,cL.nil]
   all_goals rfl
  ·simp (disch:=omega) only[go_sem,h80c,w,u,i,j,<- c,eq_true d,eq_true g,cL.nil];rfl
  ·simp (disch:=omega) only[go_sem,h80c,w,u,i,j,<- c,eq_true d,g,cL.nil];rfl
  ·by_cases h:f=3
   ·rw[decide_eq_true h] at c;simp (disch:=omega) only[go_sem,h80c,w,u,i,j,<- c,d,eq_true h,eq_true g,cL.nil];rfl
   ·rw[decide_eq_false h] at c;simp (disch:=omega) only[go_sem,h80c,w,u,i,j,<- c,d,h,eq_true g,cL.nil];rfl
  ·by_cases h:f=3
   ·rw[decide_eq_true h] at c;simp (disch:=omega) only[go_sem,h80c,w,u,i,j,<- c,d,eq_true h,g,cL.nil];rfl
   ·rw[decide_eq_false h] at c;simp (disch:=omega) only[go_sem,h80c,w,u,i,j,<- c,d,h,g,cL.nil];rfl
 exact k true
end
section
variable {G:aF}{bb:Bool}
theorem aH7(l:L aI)(b:∀a∈l,a.W)(c:l.length<=1000):EV G (Tb (lA bb)) 35 [vl (l.map aI.e),vl (l.map aI.e)] []=some (vb true,[]):=up (aHE l b c)
theorem aDE(r:cL)(a:r.W):EV G (Tb (lA bb)) 16 [r.v,r.v] []=some (vb true,[]):=by
 refine aB rfl ?_;have q:=aH7 (G:=G) (bb:=bb) r.ats a.at' (by have:=a.ln;omega);simp (disch:=omega) only[go_sem,h16c,q]
end
section
variable {G:aF}{bb:Bool}
abbrev cL.c2(r:cL):L aV:=[.dc (ci r.sq),.dc (ci r.li),.dc (ci r.fl),.dc (ci r.br),.dc (ci r.bq),.dc (ci r.nx),.dc (ci r.ls),.bld 2 r.ats.length]
theorem aH8{α:Type}(l:L α)(k:Nat)(h:k<l.length):l.set k l[k]=l:=List.set_getElem_self h
theorem aDF(r:cL)(hW:r.W):EV G (Tb (lA bb)) 120 [r.v] []=some (.agg r.c2,[.box r.c2,.box r.c2,.arr 0 11 (r.ats.map aI.e)]):=by
 refine aB rfl ?_;have hl:=hW.ln;have q:=aHr (G:=G) (bb:=bb) r.ats (by omega);simp (disch:=omega) only[go_sem,h120c,q];rw[aT (fun k=>⟨(jk 1 (.one (.ptr 0 0)::.one (.ptr 1 0)::jk 7 (vi r.ats.length::vi k::jk 16 []))),[.box [.dc (ci r.sq),.dc (ci r.li),.dc (ci r.fl),.dc (ci r.br),.dc (ci r.bq),.dc (ci r.nx),.dc (ci r.ls),.bld 2 r.ats.length],.box [.dc (ci 0),.dc (ci 0),.dc (ci 0),.dc (ci 0),.dc (ci 0),.dc (ci 0),.dc (ci 0),.dc (.raw (.slice none 0 0))],.arr 0 11 (r.ats.map aI.e)]⟩) r.ats.length ?_ ?_]
 simp (disch:=omega) only[go_sem,h120l0,aZz];rfl;intro k hk;have q2:=up (aAU (G:=G) (bb:=bb) r.ats[k].rs (by have:=(hW.at' _ (aZG hk)).rl;omega));have e:=ixA r.ats k hk;have hs:(r.ats.map aI.e).set k r.ats[k].e=r.ats.map aI.e:=by
  have:=aH8 (r.ats.map aI.e) k (by rw[aZz];exact hk);rwa[aZS] at this
 simp (disch:=omega) only[go_sem,h120l0,aZz,e,aI.e,q2];rw[hs]
theorem aRg(a b:aI)(g:aJ a.nm)(h:aJ b.nm):EV G (Tb (lA bb)) 169 [b.v,.one (.ptr 0 0)] [.box a.c]=some (vb (nV a b),[.box a.c]):=by
 refine aB rfl ?_;have e:=cR g h;unfold nV;by_cases d:a.ty=b.ty;by_cases f:a.nm=b.nm
 ·rw[eq_true f] at e;simp (disch:=omega) only[go_sem,h169c,eq_true d,e];all_goals simp[d,f]
 ·rw[eq_false f] at e;simp (disch:=omega) only[go_sem,h169c,eq_true d,e];all_goals simp[d,f]
 ·simp (disch:=omega) only[go_sem,h169c,d];all_goals simp[d]
abbrev aI.dd(a:aI):L DC:=[ci a.ty,.raw (.string (dI a.nm)),ci a.id,ci a.fl,.raw (.bool a.res),.raw (.string (dI a.va)),ci a.fi,.slc (a.rs.map aX.e),ci a.al,ci a.sz,ci a.vd]
theorem aRh(r:cL)(a:aI)(d:r.W)(f:aJ a.nm):EV G (Tb (lA bb)) 119 [r.v,a.v] []=some (vb (Fs r a),[]):=by
 refine aB rfl ?_;have h:=d.ln;have q:EV G (Tb (lA bb)) 168 [vl (r.ats.map aI.e),.one (.fn 169 [.ptr 0 0])] [.box a.c]=some (vb (r.ats.any fun b=>nV a b),[.box a.c]):=
  aRa 169 a.dd (fun b=>nV a b) r.ats (by omega) (fun b g=>aRg a b f (d.at' b g).nm)
 unfold Fs;by_cases c:a.ty=48
 ·simp (disch:=omega) only[go_sem,h119c,eq_true c];all_goals simp[c]
 ·simp (disch:=omega) only[go_sem,h119c,c,q];all_goals simp[c]
end
section
variable {G:aF}{bb:Bool}
theorem Qv{a:aI}{i:Int}(h:a.W):(bV a i).W:=⟨h.nm,h.va,h.nl,h.vl,h.rl⟩
theorem aVO(l:L aI):((l.length:Int)<32)=(l.length<32):=by apply propext;omega
theorem Ia(r:cL)(l:r.W)(a:aI)(w:a.W):EV G (Tb (lA bb)) 81 [r.v,a.v] []=some (rcv (Yw r a),[]):=by
 refine aB rfl ?_;have n:=Ao (G:=G) (bb:=bb) r l;have o:=Vg (G:=G) (bb:=bb) r;have u:=rZ (G:=G) (bb:=bb);have p:=Vf (G:=G) (bb:=bb);have h:hZ r=0->r.Ok:=Ee;have y:=Qv (i:=r.nx) w;have j:=up (D3 (G:=G) (bb:=bb) (bV a r.nx) y);have f:=aRh (G:=G) (bb:=bb) r (bV a r.nx) l y.nm;have K:Fs r (bV a r.nx)=Fs r a:=rfl;rw[K] at f;unfold Yw U1 U2;by_cases b:aU [hZ r,un (fU r.fl) 20,un (decide (r.nx<65535)) 16]=0;rw[if_neg (not_not_intro b)];obtain⟨S,V,X⟩:=Bb b;have t:=h S;have T:=t.num.2.2.2.1;have P:=t.ln;clear h;have s:=aVO r.ats;by_cases d:aU [gI (bV a r.nx),un (!Fs r a) 5,un (decide (r.ats.length<32)) 8]=0;rw[if_neg (not_not_intro d)];obtain⟨Q,U,R⟩:=Bb d;have N:r.ats.length<32:=by
  have:=aHS (by decide) R;simpa using this
 have E:=aDF (G:=G) (bb:=bb) r l;have D:=aBi t Q N;have g:∀ x∈r.ats++[bV a r.nx],x.W:=fun x c=>by
  rcases bAY.1 c with c | c
  ·exact l.at' x c
  ·rw[List.mem_singleton.1 c];exact y
 have O:(r.ats++[bV a r.nx]).length=r.ats.length+1:=by simp
 have k:=aHD (G:=G) (bb:=bb) (r.ats++[bV a r.nx]) g (by omega);rw[if_pos D,D] at k;have F:=Vh (G:=G) (bb:=bb) (fJ (r.ats++[bV a r.nx])) (fun x c=>g x (Kl.1 c)) (by rw[Ad];omega)
 have I:∀x:L DC,List.take (r.ats.length+1) (List.map aI.e r.ats++[x])=List.map aI.e r.ats++[x]:=fun x=>aZ6 (by rw[aZA,aZz];exact aZE _)
 unfold pN;simp only[bAg,aZL,aZM] at k;generalize fJ (r.ats++[bV a r.nx])=m at *;generalize gI (bV a r.nx)=M at *;generalize Fs r a=A at *;generalize hZ r=H at *;generalize fU r.fl=J at *;simp only[bV] at j f k ⊢;generalize dD m=z at *;by_cases C:z<=440
 ·have q:¬ 440<z:=by omega
  rw[if_pos C];simp (disch:=omega) only[go_sem,h81c,n,o,u,p,j,f,E,k,F,eq_true b,eq_true d,q,s,aZz,aZA,aZB,aZC,bAm,aZE,I];all_goals rfl
 have q:440<z:=by omega
 rw[if_neg C];simp (disch:=omega) only[go_sem,h81c,n,o,u,p,j,f,E,k,F,eq_true b,eq_true d,eq_true q,s,aZz,aZA,aZB,aZC,bAm,aZE,I,cL.nil];rfl;rw[if_pos d];generalize gI (bV a r.nx)=M at *;generalize Fs r a=A at *;generalize hZ r=H at *;generalize fU r.fl=J at *;simp only[bV] at j f;simp (disch:=omega) only[go_sem,h81c,n,o,u,p,j,f,eq_true b,d,s,aZz,cL.nil];rfl;rw[if_pos b];generalize hZ r=H at *;generalize fU r.fl=J at *;simp (disch:=omega) only[go_sem,h81c,n,o,u,p,b,cL.nil];rfl
end
section
variable {G:aF}{bb:Bool}
end
section
variable {G:aF}{bb:Bool}
end
section
variable {G:aF}{bb:Bool}
def K3:L (L DC)->Option (L ByteArray)
 |[]=>some []
 |[.raw (.string s)]::es=>(K3 es).map (s::·)
 |_::_=>none
theorem Ob:∀{es:L (L DC)}{a:L ByteArray},K3 es=some a->es=a.map Hi
 |[],a,h=>by simp[K3] at h;subst h;rfl
 | e::es,a,h=>by
  unfold K3 at h;split at h
  ·rename_i b;cases b
  ·rename_i s c b;injection b with d f
   subst d;subst f;obtain⟨g,h3,h4⟩:=Option.map_eq_some_iff.1 h;subst h4;rw[Ob h3];rfl
  ·cases h
theorem aH9(xs:L ByteArray):K3 (xs.map Hi)=some xs:=by
 induction xs with
 |nil=>rfl
 |cons x xs a=>rw[aZL,Hi,K3,a];rfl
def aIa(a:ByteArray):Option (L ByteArray)->Option (AV×L aD)
 |some b=>if b.length<=1000/\(Lib.join (b.map (·.data.toList)) a.data.toList).length<=1000000 then some (.one (.dc (.raw (.string (Vj b a)))),[]) else none
 |none=>none
def aBn:L AV->L aD->Option (AV×L aD)
 |[.one (.dc (.slc es)),.one (.dc (.raw (.string sep)))],[]=>aIa sep (K3 es)
 |_,_=>none
noncomputable def lO(_:aF)(b:Bool):aO:=fun f a hp=>if f=135 then aBn a hp else lA b f a hp
theorem aRi{b:Bool}(l:b=true->QC Tryz.prog G 4 [] (.one (.dc (.raw (.bool true))))):cI Tryz.prog G (lO G b):=by
 intro f c hp k m h d j;unfold lO at h;split at h;rename_i hf;subst hf;refine⟨by kernel_rfl,?_⟩;unfold aBn at h;split at h;rename_i es n;unfold aIa at h;split at h;rename_i q i;split at h;rename_i p;injection h with h;injection h with e g;subst e;subst g
 have:d=[]:=by simpa using j
 subst this;rw[Ob i];exact (aME (G:=G) (by omega) (by omega)).gh (fun a o ⟨e,g⟩ _=>⟨a,o,Gh.refl,aZV _,e,by rw[g];rfl⟩)
 cases h;cases h;cases h;exact aQR l f c hp k m h d j
theorem aMG{b:Bool}(f:FuncId)(a:L AV)(hp:L aD)(r:AV×L aD)(h:lA b f a hp=some r):lO G b f a hp=some r:=by
 have c:lA b 135 a hp=none:=rfl;unfold lO;split;rename_i hf;subst hf;rw[c] at h;cases h;exact h
theorem Fu{b:Bool}{f:FuncId}{a:L AV}{hp:L aD}{r:AV×L aD}(h:EV G (Tb (lA b)) f a hp=some r):EV G (Tb (lO G b)) f a hp=some r:=
 aHo (T:=Tb (lA b)) (T':=Tb (lO G b)) (fun _=>rfl) (fun f a hp r _ h=>aMG (G:=G) f a hp r h) h
theorem Oc:∀L:List (List UInt8),([]:List UInt8).intercalate L=L.flatten
 |[]=>rfl
 |[x]=>by simp[List.intercalate]
 | x::y::l=>by
  have:=Oc (y::l);simp[List.intercalate,List.intersperse] at this ⊢;exact this
theorem aIb(a:L (L Int)):Vj (a.map dI) ⟨#[]⟩=dI a.flatten:=by
 have b:Lib.join ((a.map dI).map (·.data.toList)) []=a.flatten.map u8:=by
  unfold Lib.join;rw[Oc,aZ5,List.map_flatten];congr 1
 unfold Vj;show (⟨(Lib.join ((a.map dI).map (·.data.toList)) []).toArray⟩:ByteArray)=_;rw[b];rfl
theorem aMH(a:L (L Int))(c:a.length<=1000)(d:a.flatten.length<=1000000):EV G (Tb (lO G bb)) 135 [vl (a.map pU),.one (.dc (.raw (.string ⟨#[]⟩)))] []=some (sv a.flatten,[]):=by
 refine jG rfl ?_;show lO G bb 135 [vl (a.map pU),.one (.dc (.raw (.string ⟨#[]⟩)))] []=_;unfold lO;rw[if_pos rfl];have e:a.map pU=(a.map dI).map Hi:=by rw[aZ5];rfl
 have b:(Lib.join ((a.map dI).map (·.data.toList)) (⟨#[]⟩:ByteArray).data.toList).length=a.flatten.length:=by
  have:=congrArg ByteArray.size (aIb a);rw[aC] at this;simpa[Vj,ByteArray.size] using this
 show aBn [vl (a.map pU),.one (.dc (.raw (.string ⟨#[]⟩)))] []=_;unfold aBn;simp only;rw[e,aH9];unfold aIa;simp only;rw[if_pos ⟨by rw[aZz];exact c,by rw[b];exact d⟩,aIb]
end
section
variable {G:aF}{B:aO}
structure Bt where
 (cl tb mi lg lc se:Int)
deriving DecidableEq
abbrev Bt.cs(x:Bt):L aV:=[.dc (ci x.cl),.dc (ci x.tb),.dc (ci x.mi),.dc (ci x.lg),.dc (ci x.lc),.dc (ci x.se)]
abbrev Bt.v(x:Bt):AV:=.agg x.cs
abbrev Bt.o(x:Bt):aD:=.box x.cs
def qA(b:Bool)(e:Int):Int:=if b=true then 0 else e
def Bt.num(x:Bt):Bool:=decide (64<=x.cl/\x.cl<=512)&&decide (x.lc.tmod 2=0)&&decide (8<=x.lc/\x.lc<=64)&&decide (0<=x.se/\x.se<=2147483647)
def Bt.inn(x:Bt)(n:Int):Bool:=decide (1<=n/\n<=x.cl-2)
def Bt.ins(x:Bt):Bool:=x.inn x.tb&&x.inn x.mi&&x.inn x.lg
def Bt.fit(x:Bt):Bool:=decide (x.mi+8<x.cl)&&decide (x.lg+x.lc<x.cl)
def Ev(a m b n:Int):Bool:=decide (a<b+n/\b<a+m)
def Bt.cla(x:Bt):Bool:=!Ev x.tb 2 x.mi 8&&!Ev x.tb 2 x.lg x.lc&&!Ev x.mi 8 x.lg x.lc
def jP(x:Bt):Int:=if x.num=true then if x.ins=true then if x.fit=true then if x.cla=true then 0 else 13 else 37 else 2 else 2
theorem kJ(n a b:Int):EV G (Tb B) 43 [vi n,vi a,vi b] []=some (vb (decide (a<=n/\n<=b)),[]):=by
 refine aB rfl ?_;by_cases h:a<=n;all_goals simp (disch:=omega) only[go_sem,h43c]
 all_goals simp[h]
theorem jB(b:Bool)(e:Int):EV G (Tb B) 38 [vb b,vi e] []=some (vi (qA b e),[]):=by
 refine aB rfl ?_;cases b;all_goals simp (disch:=omega) only[go_sem,h38c]
 all_goals rfl
theorem Vl(l:L Int)(g:l.length<=1000):EV G (Tb B) 42 [vl (el l)] []=some (vi (aU l),[]):=by
 refine aB rfl ?_;simp (disch:=omega) only[go_sem,h42c,aZz];have a:∀ k (b:k < l.length),¬ l.getD k 0≠0->Lt [5,0,0] 0 (EC (EV G (Tb B)) G h42l0 ⟨(jk 5 (vl (el l)::vi l.length::vi k::jk 7 [])),[]⟩)=some ⟨(jk 5 (vl (el l)::vi l.length::vi (k+1:Nat)::jk 7 [])),[]⟩:=fun k b f=>by
  rw[bU l k b] at f;simp (disch:=omega) only[go_sem,h42l0,aZz,uC]
 rcases Py (fun k=>l.getD k 0≠0) l.length with h|⟨j,e,c,d⟩
 rw[aT (fun k=>⟨(jk 5 (vl (el l)::vi l.length::vi k::jk 7 [])),[]⟩) l.length ?_ ?_]
 rw[iI l h];simp (disch:=omega) only[go_sem,h42l0];rfl;exact fun k b=>a k b (h k b)
 rw[aT (fun k=>⟨(jk 5 (vl (el l)::vi l.length::vi k::jk 7 [])),[]⟩) j ?_ ?_]
 rw[kH l j e d c];rw[bU l j e] at c;simp (disch:=omega) only[go_sem,h42l0,aZz,uC];rfl;exact fun k b=>a k (by omega) (d k b)
theorem pV(a b:Int):EV G (Tb B) 42 [vl [[ci a],[ci b]]] []=some (vi (aU [a,b]),[]):=Vl [a,b] (by simp)
theorem K4(x:Bt)(n:Int):EV G (Tb B) 71 [vi n,.one (.ptr 0 0)] [x.o]=some (vb (decide (1<=n/\n<=IntKind.i64.wrap (x.cl-2))),[x.o]):=by
 refine aB rfl ?_;have w:=fun n b a=>kJ (G:=G) (B:=B) n b a
 simp (disch:=omega) only[go_sem,h71c,w]
theorem aMI(x:Bt):EV G (Tb B) 72 [x.v] []=some (rn x.tb 2,[]):=by
 refine aB rfl ?_;simp (disch:=omega) only[go_sem,h72c]
theorem Bg(x:Bt):EV G (Tb B) 46 [x.v] []=some (rn x.mi 8,[]):=by
 refine aB rfl ?_;simp (disch:=omega) only[go_sem,h46c]
theorem Y2(x:Bt):EV G (Tb B) 47 [x.v] []=some (rn x.lg x.lc,[]):=by
 refine aB rfl ?_;simp (disch:=omega) only[go_sem,h47c]
theorem pW(s n:Int)(h:-1000000<=s/\s<=1000000)(a:-1000000<=n/\n<=1000000):EV G (Tb B) 44 [rn s n] []=some (vi (s+n),[]):=by
 refine aB rfl ?_;simp (disch:=omega) only[go_sem,h44c]
theorem Ei(a m b n:Int)(h:-1000000<=a/\a<=1000000)(d:-1000000<=m/\m<=1000000)(e:-1000000<=b/\b<=1000000)(c:-1000000<=n/\n<=1000000):EV G (Tb B) 45 [rn a m,rn b n] []=some (vb (Ev a m b n),[]):=by
 refine aB rfl ?_;have f:=pW (G:=G) (B:=B) a m h d;have g:=pW (G:=G) (B:=B) b n e c;by_cases h:a<b+n;all_goals simp (disch:=omega) only[go_sem,h45c,f,g]
 all_goals simp[h,Ev]
theorem eL(e:Int):qA true e=0:=rfl
theorem fK(e:Int):qA false e=e:=rfl
theorem cB(a b:Int):aU [a,b]=if a=0 then b else a:=by
 by_cases h:a=0;subst h;by_cases c:b=0;subst c;rfl;simp[aU,c];simp[aU,h]
theorem Bu{α a:Type}(f:α->Option a)(x:α):[x].mapM f=(f x).map fun c=>[c]:=by
 cases h:f x<;>simp[bAA,h]
theorem sZ{id:Nat}{a b c d:aV}{st:AS}:fvT 2 id 0 [a,b] st (some (.box [c,d]))=some (⟨st.sl,st.hp.set id (.box [a,b])⟩,[id],[id]):=aN0 rfl (by simp)
theorem sC{x:Bt}(h:x.num=false):jP x=2:=by simp[jP,h]
theorem Ap{x:Bt}(h:x.ins=false):jP x=2:=by simp[jP,h]
theorem K5{x:Bt}(h:x.num=true)(a:x.ins=true)(b:x.fit=false):jP x=37:=by simp[jP,h,a,b]
theorem Vm{x:Bt}(h:x.num=true)(a:x.ins=true)(b:x.fit=true):jP x=qA x.cla 13:=by simp[jP,h,a,b,qA]
theorem mG{x:Bt}:x.num=true↔(64<=x.cl/\x.cl<=512)/\x.lc.tmod 2=0/\(8<=x.lc/\x.lc<=64)/\(0<=x.se/\x.se<=2147483647):=by
 simp[Bt.num,and_assoc]
theorem qM{x:Bt}:x.ins=true↔(1<=x.tb/\x.tb<=x.cl-2)/\(1<=x.mi/\x.mi<=x.cl-2)/\(1<=x.lg/\x.lg<=x.cl-2):=by
 simp[Bt.ins,Bt.inn,and_assoc]
theorem Ej{x:Bt}:x.fit=true↔x.mi+8<x.cl/\x.lg+x.lc<x.cl:=by simp[Bt.fit]
theorem Y3(x:Bt)(j:x.num=false):EV G (Tb B) 40 [x.v] []=some (vi 2,[]):=by
 have w:=fun n k i=>kJ (G:=G) (B:=B) n k i
 have u:=jB (G:=G) (B:=B);have f:=pV (G:=G) (B:=B);obtain⟨I,c⟩:∃I:Int->Bool,∀n,EV G (Tb B) 71 [vi n,.one (.ptr 0 0)] [x.o]=some (vb (I n),[x.o]):=⟨_,K4 x⟩;have e:¬ ((64<=x.cl/\x.cl<=512)/\x.lc.tmod 2=0/\(8<=x.lc/\x.lc<=64)/\(0<=x.se/\x.se<=2147483647)):=fun h=>by rw[<- mG,j] at h;cases h
 refine aB rfl ?_;by_cases d:64<=x.cl/\x.cl<=512;by_cases g:x.lc.tmod 2=0;by_cases h3:8<=x.lc/\x.lc<=64
 ·have h4:¬ (0<=x.se/\x.se<=2147483647):=fun h4=>e ⟨d,g,h3,h4⟩
  cases a:I x.tb;all_goals cases b:I x.mi
  all_goals simp (disch:=omega) only[go_sem,h40c,w,u,f,c,d,g,h3,h4,a,b,Bu,jF,aZF,cB,eL,fK]
 ·cases a:I x.tb;all_goals cases b:I x.mi
  all_goals simp (disch:=omega) only[go_sem,h40c,w,u,f,c,d,g,h3,a,b,Bu,jF,aZF,cB,eL,fK]
 ·cases a:I x.tb;all_goals cases b:I x.mi
  all_goals simp (disch:=omega) only[go_sem,h40c,w,u,f,c,d,g,a,b,Bu,jF,aZF,cB,eL,fK]
 ·cases a:I x.tb;all_goals cases b:I x.mi
  all_goals simp (disch:=omega) only[go_sem,h40c,w,u,f,c,d,a,b,Bu,jF,aZF,cB,eL,fK]
theorem Y4(x:Bt)(l:x.num=true)(g:x.ins=false):EV G (Tb B) 40 [x.v] []=some (vi 2,[]):=by
 have w:=fun n p g=>kJ (G:=G) (B:=B) n p g
 have u:=jB (G:=G) (B:=B);have f:=pV (G:=G) (B:=B);obtain⟨i,j,h3,h4⟩:=mG.1 l;have c:∀ n,EV G (Tb B) 71 [vi n,.one (.ptr 0 0)] [x.o]=some (vb (x.inn n),[x.o]):=fun n=>by
  rw[K4,E2 (by omega)];rfl
 have e:x.inn x.tb=true->x.inn x.mi=true->x.inn x.lg=false:=fun a b=>by
  cases d:x.inn x.lg
  ·rfl
  ·rw[Bt.ins,a,b,d] at g;cases g
 refine aB rfl ?_;cases h:x.inn x.tb;simp (disch:=omega) only[go_sem,h40c,w,u,f,c,i,j,h3,h4,Bu,jF,aZF,cB,eL,fK,h];cases k:x.inn x.mi;simp (disch:=omega) only[go_sem,h40c,w,u,f,c,i,j,h3,h4,Bu,jF,aZF,cB,eL,fK,h,k];have m:=e h k;simp (disch:=omega) only[go_sem,h40c,w,u,f,c,i,j,h3,h4,Bu,jF,aZF,cB,eL,fK,h,k,m]
theorem aDG(x:Bt)(I:x.num=true)(E:x.ins=true):EV G (Tb B) 40 [x.v] []=some (vi (jP x),[]):=by
 have w:=fun n O E=>kJ (G:=G) (B:=B) n O E
 have u:=jB (G:=G) (B:=B);have f:=pV (G:=G) (B:=B);have l:=aMI (G:=G) (B:=B) x;have p:=Bg (G:=G) (B:=B) x;have m:=Y2 (G:=G) (B:=B) x;obtain⟨q,r,h3,h4⟩:=mG.1 I;obtain⟨L,M,N⟩:=qM.1 E;have c:∀ n,EV G (Tb B) 71 [vi n,.one (.ptr 0 0)] [x.o]=some (vb (x.inn n),[x.o]):=fun n=>by
  rw[K4,E2 (by omega)];rfl
 have s:x.inn x.tb=true:=by simp[Bt.inn,L]
 have t:x.inn x.mi=true:=by simp[Bt.inn,M]
 have y:x.inn x.lg=true:=by simp[Bt.inn,N]
 have i:=pW (G:=G) (B:=B) x.mi 8 (by omega) (by omega);have k:=pW (G:=G) (B:=B) x.lg x.lc (by omega) (by omega);have b:=Ei (G:=G) (B:=B) x.tb 2 x.mi 8 (by omega) (by omega) (by omega) (by omega);have g:=Ei (G:=G) (B:=B) x.tb 2 x.lg x.lc (by omega) (by omega) (by omega) (by omega);have h:=Ei (G:=G) (B:=B) x.mi 8 x.lg x.lc (by omega) (by omega) (by omega) (by omega);have e:jP x=if qA x.fit 37=0 then qA x.cla 13 else qA x.fit 37:=by
  cases hf:x.fit<;>simp[jP,I,E,hf,qA]
 rw[e];have d:x.fit=(decide (x.mi+8<x.cl)&&decide (x.lg+x.lc<x.cl)):=rfl;have D:x.cla=(!Ev x.tb 2 x.mi 8&&!Ev x.tb 2 x.lg x.lc&&!Ev x.mi 8 x.lg x.lc):=rfl;generalize Ev x.tb 2 x.mi 8=A at b D;generalize Ev x.tb 2 x.lg x.lc=C at g D;generalize Ev x.mi 8 x.lg x.lc=K at h D;rw[d,D];have F:∀J:Bool,(decide (x.mi+8<x.cl)&&decide (x.lg+x.lc<x.cl))=J->qC h40.own h40.rs 0 (EC (EV G (Tb B)) G h40.code ⟨[x.v]++tK (h40.nt-1),[]⟩)=some (vi (if qA J 37=0 then qA (!A&&!C&&!K) 13 else qA J 37),[]):=by
  intro J H;by_cases a:x.mi+8<x.cl;by_cases z:x.lg+x.lc<x.cl;have j:J=true:=by rw[<- H];simp[a,z]
  subst j;cases A;cases C;simp (disch:=omega) only[go_sem,h40c,w,u,f,c,q,r,h3,h4,Bu,jF,aZF,cB,eL,fK,s,t,y,l,p,m,i,k,sZ,b,g,h,a,z,aZX,aZ2,aZ8,bAh];simp (disch:=omega) only[go_sem,h40c,w,u,f,c,q,r,h3,h4,Bu,jF,aZF,cB,eL,fK,s,t,y,l,p,m,i,k,sZ,b,g,h,a,z,aZX,aZ2,aZ8,bAh];simp (disch:=omega) only[go_sem,h40c,w,u,f,c,q,r,h3,h4,Bu,jF,aZF,cB,eL,fK,s,t,y,l,p,m,i,k,sZ,b,g,h,a,z,aZX,aZ2,aZ8,bAh];have j:J=false:=by rw[<- H];simp[z]
  subst j;cases A;cases C;simp (disch:=omega) only[go_sem,h40c,w,u,f,c,q,r,h3,h4,Bu,jF,aZF,cB,eL,fK,s,t,y,l,p,m,i,k,sZ,b,g,h,a,z,aZX,aZ2];simp (disch:=omega) only[go_sem,h40c,w,u,f,c,q,r,h3,h4,Bu,jF,aZF,cB,eL,fK,s,t,y,l,p,m,i,k,sZ,b,g,h,a,z,aZX,aZ2];simp (disch:=omega) only[go_sem,h40c,w,u,f,c,q,r,h3,h4,Bu,jF,aZF,cB,eL,fK,s,t,y,l,p,m,i,k,sZ,b,g,h,a,z,aZX,aZ2];have j:J=false:=by rw[<- H];simp[a]
  subst j;cases A;cases C;simp (disch:=omega) only[go_sem,h40c,w,u,f,c,q,r,h3,h4,Bu,jF,aZF,cB,eL,fK,s,t,y,l,p,m,i,k,sZ,b,g,h,a,aZX,aZ2];simp (disch:=omega) only[go_sem,h40c,w,u,f,c,q,r,h3,h4,Bu,jF,aZF,cB,eL,fK,s,t,y,l,p,m,i,k,sZ,b,g,h,a,aZX,aZ2];simp (disch:=omega) only[go_sem,h40c,w,u,f,c,q,r,h3,h4,Bu,jF,aZF,cB,eL,fK,s,t,y,l,p,m,i,k,sZ,b,g,h,a,aZX,aZ2]
 exact aB rfl (F _ rfl)
theorem Aq(x:Bt):EV G (Tb B) 40 [x.v] []=some (vi (jP x),[]):=by
 cases a:x.num with
 |false=>rw[sC a];exact Y3 x a
 | true=>cases b:x.ins with
  | false=>rw[Ap b];exact Y4 x a b
  | true=>exact aDG x a b
