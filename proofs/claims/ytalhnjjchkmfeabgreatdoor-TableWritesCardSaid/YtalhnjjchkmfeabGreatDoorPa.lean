/- Part. Conditions: none. -/
import Derived.Test.YtalhnjjchkmfeabGreatDoorSg
import Derived.Test.YtalhnjjchkmfeabGreatDoorUw
import Derived.Test.YtalhnjjchkmfeabGreatDoorSz
import Derived.Test.YtalhnjjchkmfeabGreatDoorRk
import Derived.Test.YtalhnjjchkmfeabGreatDoorTf
import Derived.Test.YtalhnjjchkmfeabGreatDoorCb
import Derived.Test.YtalhnjjchkmfeabGreatDoorVf
namespace Go.Proofs.YtalhnjjchkmfeabGreatDoor
set_option maxHeartbeats 8000000
set_option linter.unusedSimpArgs false
set_option linter.unusedVariables false
set_option maxRecDepth 4000
section
variable {G:aE}{bb:Bool}
theorem Kf{r:cI}(h:tN r=false):qN r=(0,2):=by
 have a:T9 r=2:=by unfold T9;rw[h,gQ,bA _ _ (by decide)]
 unfold qN;rw[if_pos (by rw[a];decide),a]
theorem aQG{r:cI}(h:tN r=true):T9 r=aT [Bj r.br r.bq,un (hZ r.fl||J6 r) 3]:=by
 unfold T9;rw[h,gA,bD]
theorem aHv{r:cI}{e:Int}(h:T9 r=e)(a:e≠0):qN r=(0,e):=by
 unfold qN;rw[if_pos (by rw[h];exact a),h]
theorem Un(r:cI)(J:r.W)(n1:1<=r.sq/\r.sq<=65535)(x:0<=r.li/\r.li<=65535)(p:0<=r.fl/\r.fl<=3)(y:0<=r.nx/\r.nx<=65535)(z:0<=r.ls/\r.ls<=2147483647) (Q:Bj r.br r.bq=0) (L:hZ r.fl=true\/hZ r.fl=false/\r.ats=[]/\r.li=0/\r.br=0/\r.bq=0/\r.fl=0/\r.nx=0):EV G (Tb (kS bb)) 64 [r.v] []=some (iiv (if (oD r.ats).2≠0 then oD r.ats else if 0<=Nb r then (Nb r,9) else (0,un (decide (dE r.ats<=440)) 16)),[]):=by
 have K:=J.ln;have w:=sN (G:=G) (bb:=bb);have q:=Kc (G:=G) (bb:=bb) r.br r.bq;rw[Q] at q;have d:=aAB (G:=G) (bb:=bb) r ⟨p.1,by omega⟩;have s:=up (aGz (G:=G) (bb:=bb) r.ats J.at' (by omega));have O:=Uc (l:=r.ats);have M:r.ats.length<=900:=K;generalize R:oD r.ats=o at *;obtain⟨S,P⟩:=o;dsimp only at s ⊢;by_cases f:P=0;have N:∀a∈r.ats,iL a=0:=((aAi r.ats).1 (O f)).1;have A:=aL2 (G:=G) (bb:=bb) r.ats J.at' N (by omega);rw[if_neg (not_not_intro f)];have b:Nb r=if ix (fun k=>decide (r.nx<=(r.ats.getD k aK.nil).id)=true) r.ats.length=r.ats.length then -1 else ((ix (fun k=>decide (r.nx<=(r.ats.getD k aK.nil).id)=true) r.ats.length:Nat):Int):=rfl
 generalize Nb r=g at *;refine aA rfl ?_;rcases L with j|⟨j,t,D,E,F,H,I⟩
 ·rw[j] at d;simp (disch:=omega) only[go_sem,h64c,w,q,d,s,eq_true f,eq_true n1,eq_true x,eq_true p,eq_true y,eq_true z,decide_true,aZz];rw[dP (fun k=>⟨(jk 1 (.one (.ptr 0 0)::jk 5 (vi k::jk 95 []))),[.box r.c]⟩) (fun k=>decide (r.nx<=(r.ats.getD k aK.nil).id)=true) r.ats.length ?_ ?_]
  rotate_left
  rfl;intro k m u;have h3:=u k (aZe _);rw[gB r.ats k m,decide_eq_true_eq] at h3;simp (disch:=omega) only[go_sem,h64l0,aY9,ixA,aK.e,h3];obtain⟨m,hp,u⟩:=bI (fun k=>decide (r.nx<=(r.ats.getD k aK.nil).id)=true) r.ats.length
  generalize ix (fun k=>decide (r.nx<=(r.ats.getD k aK.nil).id)=true) r.ats.length=k at *
  rcases hp with rfl|⟨i,hp⟩;rw[if_pos rfl] at b;subst b;rw[if_neg (by decide)];by_cases n:dE r.ats<=440
  have h:¬ 440<dE r.ats:=by omega
  rw[decide_eq_true n,gA];simp (disch:=omega) only[go_sem,h64l0,aY9,A,h];have h:440<dE r.ats:=by omega
  rw[decide_eq_false n,gQ];simp (disch:=omega) only[go_sem,h64l0,aY9,A,eq_true h];rw[if_neg (by omega)] at b;subst b;rw[if_pos (by omega)];rw[gB r.ats k i,decide_eq_true_eq] at hp;simp (disch:=omega) only[go_sem,h64l0,aY9,ixA,aK.e,eq_true hp]
 ·rw[j] at d;have C:¬ 0<(r.ats.length:Int):=by rw[t];simp
  simp (disch:=omega) only[go_sem,h64c,w,q,d,s,eq_true f,eq_true n1,eq_true x,eq_true p,eq_true y,eq_true z,decide_true,aZz,aY9,C,eq_true D,eq_true E,eq_true F,eq_true H,eq_true I];rw[dP (fun k=>⟨(jk 1 (.one (.ptr 0 0)::jk 5 (vi k::jk 95 []))),[.box r.c]⟩) (fun k=>decide (r.nx<=(r.ats.getD k aK.nil).id)=true) r.ats.length ?_ ?_]
  rotate_left
  rfl;intro k m u;rw[t] at m;simp at m;obtain⟨m,hp,u⟩:=bI (fun k=>decide (r.nx<=(r.ats.getD k aK.nil).id)=true) r.ats.length
  generalize ix (fun k=>decide (r.nx<=(r.ats.getD k aK.nil).id)=true) r.ats.length=k at *
  rcases hp with rfl|⟨i,hp⟩;rw[if_pos rfl] at b;subst b;rw[if_neg (by decide)];by_cases n:dE r.ats<=440
  have h:¬ 440<dE r.ats:=by omega
  rw[decide_eq_true n,gA];simp (disch:=omega) only[go_sem,h64l0,aY9,A,h];have h:440<dE r.ats:=by omega
  rw[decide_eq_false n,gQ];simp (disch:=omega) only[go_sem,h64l0,aY9,A,eq_true h];rw[if_neg (by omega)] at b;subst b;rw[if_pos (by omega)];rw[gB r.ats k i,decide_eq_true_eq] at hp;simp (disch:=omega) only[go_sem,h64l0,aY9,ixA,aK.e,eq_true hp]
 rw[if_pos f];refine aA rfl ?_;rcases L with j|⟨j,t,D,E,F,H,I⟩
 rw[j] at d;simp (disch:=omega) only[go_sem,h64c,w,q,d,s,f,eq_true n1,eq_true x,eq_true p,eq_true y,eq_true z,decide_true,aZz];rw[j] at d;have C:¬ 0<(r.ats.length:Int):=by rw[t];simp
 simp (disch:=omega) only[go_sem,h64c,w,q,d,s,f,eq_true n1,eq_true x,eq_true p,eq_true y,eq_true z,decide_true,aZz,aY9,C,eq_true D,eq_true E,eq_true F,eq_true H,eq_true I]
theorem aHw(r:cI)(u:r.W):EV G (Tb (kS bb)) 64 [r.v] []=some (iiv (qN r),[]):=by
 have w:=sN (G:=G) (bb:=bb);have h:=Kc (G:=G) (bb:=bb) r.br r.bq;by_cases n1:1<=r.sq/\r.sq<=65535;by_cases a:0<=r.li/\r.li<=65535;by_cases b:0<=r.fl/\r.fl<=3;by_cases c:0<=r.nx/\r.nx<=65535;by_cases d:0<=r.ls/\r.ls<=2147483647;have x:tN r=true:=by simp[tN,n1,a,b,c,d]
 have f:=aQG x;by_cases k:Bj r.br r.bq=0;rw[k,bD] at f;have j:=aAB (G:=G) (bb:=bb) r ⟨b.1,by omega⟩;cases o:hZ r.fl with
 |true=>
  rw[o,bAd,gA] at f;have n:T9 r=0:=f;have e:qN r=if (oD r.ats).2≠0 then oD r.ats else if 0<=Nb r then (Nb r,9) else (0,un (decide (dE r.ats<=440)) 16):=by
   unfold qN;rw[if_neg (not_not_intro n)]
  rw[e];exact Un r u n1 a b c d k (.inl o)
 |false=>
  rw[o,aZX] at f;rw[o] at j;rw[k] at h;cases g:J6 r with
  |true=>
   rw[g,gA] at f;have n:T9 r=0:=f;have e:qN r=if (oD r.ats).2≠0 then oD r.ats else if 0<=Nb r then (Nb r,9) else (0,un (decide (dE r.ats<=440)) 16):=by
    unfold qN;rw[if_neg (not_not_intro n)]
   rw[e];simp only[J6,aZq,decide_eq_true_eq] at g;exact Un r u n1 a b c d k (.inr ⟨o,g.2.1,g.2.2.1,g.2.2.2.1.1,g.2.2.2.1.2,g.1,g.2.2.2.2⟩)
  |false=>
   rw[g,gQ] at f;have n:T9 r=3:=f;rw[aHv n (by decide)];refine aA rfl ?_;by_cases s:r.ats=[];have i:¬ 0<(r.ats.length:Int):=by rw[s];simp
   by_cases l:r.li=0;by_cases m:r.br=0;by_cases p:r.bq=0;by_cases q:r.fl=0;by_cases t:r.nx=0;simp[J6,q,s,l,m,p,t] at g;simp (disch:=omega) only[go_sem,h64c,w,h,j,eq_true n1,eq_true a,eq_true b,eq_true c,eq_true d,decide_true,aZz,aY9,i,eq_true l,eq_true m,eq_true p,eq_true q,t];simp (disch:=omega) only[go_sem,h64c,w,h,j,eq_true n1,eq_true a,eq_true b,eq_true c,eq_true d,decide_true,aZz,aY9,i,eq_true l,eq_true m,eq_true p,q];simp (disch:=omega) only[go_sem,h64c,w,h,j,eq_true n1,eq_true a,eq_true b,eq_true c,eq_true d,decide_true,aZz,aY9,i,eq_true l,eq_true m,p];simp (disch:=omega) only[go_sem,h64c,w,h,j,eq_true n1,eq_true a,eq_true b,eq_true c,eq_true d,decide_true,aZz,aY9,i,eq_true l,m];simp (disch:=omega) only[go_sem,h64c,w,h,j,eq_true n1,eq_true a,eq_true b,eq_true c,eq_true d,decide_true,aZz,aY9,i,l];have i:0<(r.ats.length:Int):=by
    have:=List.length_pos_iff.2 s;omega
   simp (disch:=omega) only[go_sem,h64c,w,h,j,eq_true n1,eq_true a,eq_true b,eq_true c,eq_true d,decide_true,aZz,aY9,eq_true i]
 rw[bA _ _ k] at f;rw[aHv f k];refine aA rfl ?_;simp (disch:=omega) only[go_sem,h64c,w,h,eq_true n1,eq_true a,eq_true b,eq_true c,eq_true d,decide_true,aZz,k];rw[Kf (by simp[tN,d])];refine aA rfl ?_;simp (disch:=omega) only[go_sem,h64c,w,eq_true n1,eq_true a,eq_true b,eq_true c,d,decide_true,aZz,decide_false,aZF];rw[Kf (by simp[tN,c])];refine aA rfl ?_;simp (disch:=omega) only[go_sem,h64c,w,eq_true n1,eq_true a,eq_true b,c,decide_true,aZz,decide_false,aZF];rw[Kf (by simp[tN,b])];refine aA rfl ?_;simp (disch:=omega) only[go_sem,h64c,w,eq_true n1,eq_true a,b,decide_true,aZz,decide_false,aZF];rw[Kf (by simp[tN,a])];refine aA rfl ?_;simp (disch:=omega) only[go_sem,h64c,w,eq_true n1,a,decide_true,aZz,decide_false,aZF];rw[Kf (by simp[tN,n1])];refine aA rfl ?_;simp (disch:=omega) only[go_sem,h64c,w,n1,decide_false,aZF]
theorem P5(r:cI)(a:r.W):EV G (Tb (kS bb)) 23 [r.v] []=some (vi (dR r),[]):=by
 refine aA rfl ?_;have q:=aHw (G:=G) (bb:=bb) r a;unfold dR;generalize qN r=o at *;obtain⟨b,c⟩:=o;simp (disch:=omega) only[go_sem,h23c,q]
theorem qX(r:cI)(a:r.W):EV G (Tb (kS bb)) 106 [r.v] []=some (vi (dR r),[]):=by
 refine aA rfl ?_;have q:=Uj (G:=G) (bb:=bb) r a;unfold dR;generalize qN r=o at *;obtain⟨b,c⟩:=o;simp (disch:=omega) only[go_sem,h106c,q]
theorem aVj(q f a b:Int):EV G (Tb (kS bb)) 88 [vi q,vi f,rfv a b] []=some (rcv (aVf q f a b),[]):=by
 have w:=pI (G:=G) (bb:=bb) q 1 65535;have u:=pJ (G:=G) (bb:=bb);have i:=Nf (G:=G) (bb:=bb) a b;have j:=Ka (G:=G) (bb:=bb);unfold aVf;have c:aLY q f a b=aT [un (decide (1<=q/\q<=65535)&&(decide (f=1)||decide (f=3))) 2,Bj a b]:=rfl
 generalize aLY q f a b=e at *;generalize Bj a b=z at *;have k:∀ d:Bool,EV G (Tb (kS bb)) 88 [vi q,vi f,rfv a b] []=some (rcv (if e≠0 then (.nil,e) else (⟨q,0,f,a,b,0,0,[]⟩,0)),[]):=fun _=>by
  refine aA rfl ?_;cases l:decide (1<=q/\q<=65535)
  all_goals rw[l] at w c
  all_goals by_cases d:f=1
  all_goals by_cases g:e=0
  all_goals first | rw[if_neg (not_not_intro g)] | rw[if_pos g]
  all_goals first | rw[decide_eq_true d] at c | rw[decide_eq_false d] at c
  all_goals simp only[aZJ,aZS,bAd,aZX] at c
  ·simp (disch:=omega) only[go_sem,h88c,w,u,i,j,<- c,eq_true d,eq_true g,cI.nil];rfl
  ·simp (disch:=omega) only[go_sem,h88c,w,u,i,j,<- c,eq_true d,g,cI.nil];rfl
  ·by_cases h:f=3
   all_goals simp (disch:=omega) only[go_sem,h88c,w,u,i,j,<- c,d,eq_true g,cI.nil]
   all_goals rfl
  ·by_cases h:f=3
   all_goals simp (disch:=omega) only[go_sem,h88c,w,u,i,j,<- c,d,g,cI.nil]
   all_goals rfl
  ·simp (disch:=omega) only[go_sem,h88c,w,u,i,j,<- c,eq_true d,eq_true g,cI.nil];rfl
  ·simp (disch:=omega) only[go_sem,h88c,w,u,i,j,<- c,eq_true d,g,cI.nil];rfl
  ·by_cases h:f=3
   ·rw[decide_eq_true h] at c;simp (disch:=omega) only[go_sem,h88c,w,u,i,j,<- c,d,eq_true h,eq_true g,cI.nil];rfl
   ·rw[decide_eq_false h] at c;simp (disch:=omega) only[go_sem,h88c,w,u,i,j,<- c,d,h,eq_true g,cI.nil];rfl
  ·by_cases h:f=3
   ·rw[decide_eq_true h] at c;simp (disch:=omega) only[go_sem,h88c,w,u,i,j,<- c,d,eq_true h,g,cI.nil];rfl
   ·rw[decide_eq_false h] at c;simp (disch:=omega) only[go_sem,h88c,w,u,i,j,<- c,d,h,g,cI.nil];rfl
 exact k true
theorem aAD(n:Int)(h:0<=n/\n<=65535):EV G (Tb (kS bb)) 107 [vi n,vi 65535] []=some (vi (oF n),[]):=by
 refine aA rfl ?_;have e:n.tmod 65535=n % 65535:=by rw[bAE h.1]
 unfold oF;simp (disch:=omega) only[go_sem,h107c,e]
theorem aHx(n:Int)(h:0<=n/\n<=65535):EV G (Tb (kS bb)) 72 [vi n] []=some (vi (oF n),[]):=by
 refine aA rfl ?_;have e:n.tmod 65535=n % 65535:=by rw[bAE h.1]
 unfold oF;simp (disch:=omega) only[go_sem,h72c,e]
end
section
variable {G:aE}{bb:Bool}
theorem aHy(l:L aK)(b:∀a∈l,a.W)(c:l.length<=1000):EV G (Tb (kS bb)) 36 [vl (l.map aK.e),vl (l.map aK.e)] []=some (vb true,[]):=up (aG6 l b c)
theorem Ng(r:cI)(a:r.W):EV G (Tb (kS bb)) 12 [r.v,r.v] []=some (vb true,[]):=by
 refine aA rfl ?_;have q:=aHy (G:=G) (bb:=bb) r.ats a.at' (by have:=a.ln;omega);simp (disch:=omega) only[go_sem,h12c,q]
theorem Nh(r:cI)(b:r.W):EV G (Tb (kS bb)) 8 [r.v] []=some (r.v,[]):=by
 refine aA rfl ?_;have d:=b.ln;have q:=up (aGA (G:=G) (bb:=bb) r.ats (by omega) (fun a c=>by have:=(b.at' a c).rl;omega))
 simp (disch:=omega) only[go_sem,h8c,q]
end
section
variable {G:aE}{bb:Bool}
abbrev cI.c2(r:cI):L aU:=[.dc (ci r.sq),.dc (ci r.li),.dc (ci r.fl),.dc (ci r.br),.dc (ci r.bq),.dc (ci r.nx),.dc (ci r.ls),.bld 2 r.ats.length]
theorem aHz{α:Type}(l:L α)(k:Nat)(h:k<l.length):l.set k l[k]=l:=List.set_getElem_self h
theorem aCZ(r:cI)(b:r.W):EV G (Tb (kS bb)) 142 [r.v] []=some (.agg r.c2,[.box r.c2,.box r.c2,.arr 0 11 (r.ats.map aK.e)]):=by
 refine aA rfl ?_;have f:=b.ln;have q:=aGT (G:=G) (bb:=bb) r.ats (by omega);simp (disch:=omega) only[go_sem,h142c,q];rw[aQ (fun k=>⟨(jk 1 (.one (.ptr 0 0)::.one (.ptr 1 0)::jk 7 (vi r.ats.length::vi k::jk 16 []))),[.box [.dc (ci r.sq),.dc (ci r.li),.dc (ci r.fl),.dc (ci r.br),.dc (ci r.bq),.dc (ci r.nx),.dc (ci r.ls),.bld 2 r.ats.length],.box [.dc (ci 0),.dc (ci 0),.dc (ci 0),.dc (ci 0),.dc (ci 0),.dc (ci 0),.dc (ci 0),.dc (.raw (.slice none 0 0))],.arr 0 11 (r.ats.map aK.e)]⟩) r.ats.length ?_ ?_]
 simp (disch:=omega) only[go_sem,h142l0,aY9];rfl;intro k a;have d:=up (aAg (G:=G) (bb:=bb) r.ats[k].rs (by have:=(b.at' _ (aZk a)).rl;omega));have e:=ixA r.ats k a;have c:(r.ats.map aK.e).set k r.ats[k].e=r.ats.map aK.e:=by
  have:=aHz (r.ats.map aK.e) k (by rw[aY9];exact a);rwa[aZu] at this
 simp (disch:=omega) only[go_sem,h142l0,aY9,e,aK.e,d];rw[c]
theorem aQH(a b:aK)(g:aH a.nm)(h:aH b.nm):EV G (Tb (kS bb)) 197 [b.v,.one (.ptr 0 0)] [.box a.c]=some (vb (Ce a b),[.box a.c]):=by
 refine aA rfl ?_;have e:=dA g h;unfold Ce;by_cases d:a.ty=b.ty;by_cases f:a.nm=b.nm
 ·rw[eq_true f] at e;simp (disch:=omega) only[go_sem,h197c,eq_true d,e];all_goals simp[d,f]
 ·rw[eq_false f] at e;simp (disch:=omega) only[go_sem,h197c,eq_true d,e];all_goals simp[d,f]
 ·simp (disch:=omega) only[go_sem,h197c,d];all_goals simp[d]
abbrev aK.dd(a:aK):L DC:=[ci a.ty,.raw (.string (fF a.nm)),ci a.id,ci a.fl,.raw (.bool a.res),.raw (.string (fF a.va)),ci a.fi,.slc (a.rs.map aV.e),ci a.al,ci a.sz,ci a.vd]
theorem aQI(r:cI)(a:aK)(d:r.W)(f:aH a.nm):EV G (Tb (kS bb)) 141 [r.v,a.v] []=some (vb (aCW r a),[]):=by
 refine aA rfl ?_;have h:=d.ln;have q:EV G (Tb (kS bb)) 196 [vl (r.ats.map aK.e),.one (.fn 197 [.ptr 0 0])] [.box a.c]=some (vb (r.ats.any fun b=>Ce a b),[.box a.c]):=
  aQB 197 a.dd (fun b=>Ce a b) r.ats (by omega) (fun b g=>aQH a b f (d.at' b g).nm)
 unfold aCW;by_cases c:a.ty=48
 ·simp (disch:=omega) only[go_sem,h141c,eq_true c];all_goals simp[c]
 ·simp (disch:=omega) only[go_sem,h141c,c,q];all_goals simp[c]
end
section
variable {G:aE}{bb:Bool}
theorem P6{a:aK}{i:Int}(h:a.W):(cL a i).W:=⟨h.nm,h.va,h.nl,h.vl,h.rl⟩
theorem aVk(l:L aK):((l.length:Int)<32)=(l.length<32):=by apply propext;omega
def aHA(G:aE)(bb:Bool)(l:L aK):Prop:=EV G (Tb (kS bb)) 201 [.one (.bls 0 0 l.length 11),.one (.fn 152 [])] [.box (oR (l.map aK.e).flatten)]=some (.tup [],[.box (oR (l.map aK.e).flatten)])
theorem aHB(l:L aK)(f:∀a∈l,a.W)(v:l.length<=32)(m:l≠[])(t:∀k,k<l.length->rH l k=0)(q:aHA G bb l):EV G (Tb (kS bb)) 143 [vl (l.map aK.e)] []=some (lev l 0,[]):=by
 have j:¬ 32<(l.length:Int):=by omega
 unfold aHA at q;refine aA rfl ?_;simp (disch:=omega) only[go_sem,h143c,aY9,j];rw[aQ (fun k=>⟨(vl (l.map aK.e)::jk 3 (.one (.bld 0 ((l.take k).map aK.e).length)::jk 6 (vl (l.map aK.e)::vi l.length::vi k::jk 19 []))),[.arr 0 11 ((l.take k).map aK.e)]⟩) l.length ?_ ?_]
 rw[aZO];have o:(l.map aK.e).isEmpty=false:=by cases l with|nil=>exact absurd rfl m|cons _ _=>rfl
 obtain⟨g,h,i⟩:=aLI (s:=11) (n:=l.length) (es:=l.map aK.e) (fun e r=>by obtain⟨a,_,rfl⟩:=List.mem_map.1 r;rfl) (by rw[aY9])
 unfold lev;have d:(l.map aK.e).length=l.length:=aY9 ..;generalize l.map aK.e=M at *;simp (disch:=omega) only[go_sem,h143l0,d,q,o,g,h,i,O2,Nat.zero_mul,aZW];rfl;intro k c;have q:=up (Jw (G:=G) (bb:=bb) l f (by omega) k c);rw[t k c] at q;have u:=up (aG5 (G:=G) (bb:=bb) l[k] (by have:=(f _ (aZk c)).rl;omega));have p:((l.take k).map aK.e).length<=1000:=by rw[aY9,aZd];omega
 have b:=Pf (l.take k);rw[aNI l k c];generalize (l.take k).map aK.e=C at p b ⊢;simp (disch:=omega) only[go_sem,h143l0,aY9,ixA,aK.e,q,u,b];rw[aZa];rfl
def aVl(r:cI)(a:aK):cI:=⟨r.sq,r.li,r.fl,r.br,r.bq,r.nx+1,r.ls,r.ats++[cL a r.nx]⟩
theorem aAE(r:cI)(f:r.W)(a:aK)(h:a.W)(o:dR r=0)(P:hZ r.fl=true)(K:r.nx<65535)(F:iL (cL a r.nx)=0)(H:aCW r a=false)(I:r.ats.length<32)(O:∀k,k<(r.ats++[cL a r.nx]).length->rH (r.ats++[cL a r.nx]) k=0)(N:aHA G bb (r.ats++[cL a r.nx]))(E:dE (r.ats++[cL a r.nx])<=440):EV G (Tb (kS bb)) 89 [r.v,a.v] []=some (rcv (aVl r a,0),[]):=by
 refine aA rfl ?_;have p:=qX (G:=G) (bb:=bb) r f;have q:=Uh (G:=G) (bb:=bb) r;have u:=pJ (G:=G) (bb:=bb);have Q:=Kb (G:=G) (bb:=bb);have D:=oZ o;have M:=D.num.2.2.2.1;have j:=P6 (i:=r.nx) h;have l:=up (Du (G:=G) (bb:=bb) (cL a r.nx) j);have m:=aQI (G:=G) (bb:=bb) r (cL a r.nx) f j.nm;have C:aCW r (cL a r.nx)=aCW r a:=rfl;rw[C,H] at m;rw[F] at l;rw[o] at p;rw[P] at q;have s:aT [0,un true 20,un (decide (r.nx<65535)) 16]=0:=by rw[decide_eq_true K];rfl
 have w:aT [0,un true 5,un (decide (r.ats.length<32)) 8]=0:=by rw[decide_eq_true I];rfl
 have A:=aVk r.ats;have R:=aCZ (G:=G) (bb:=bb) r f;have b:∀ x∈r.ats++[cL a r.nx],x.W:=fun x d=>by
  rcases bAB.1 d with d | d
  ·exact f.at' x d
  ·rw[List.mem_singleton.1 d];exact j
 have J:(r.ats++[cL a r.nx]).length=r.ats.length+1:=by simp
 have g:=aHB (G:=G) (bb:=bb) (r.ats++[cL a r.nx]) b (by omega) (by simp) O N;have n:=Ui (G:=G) (bb:=bb) (r.ats++[cL a r.nx]) b (by omega);have S:∀x:L DC,List.take (r.ats.length+1) (List.map aK.e r.ats++[x])=List.map aK.e r.ats++[x]:=fun x=>aZI (by rw[aZa,aY9];exact aZe _)
 unfold aVl;unfold lev at g;simp only[aZQ,aZl,aZm] at g n ⊢;simp only[cL] at l m g n E ⊢;generalize dE _=z at *;have y:¬ 440<z:=by omega
 simp (disch:=omega) only[go_sem,h89c,p,q,u,Q,l,m,R,g,n,eq_true s,eq_true w,y,A,aY9,aZa,aZb,aZc,aZ0,aZe,S,aZF];all_goals simp only[rcv,cI.t,cI.c,aZQ,aZl,aZm]
theorem aAF{l:L aK}(h:aU1 l):aHA G bb l:=by
 unfold aHA;refine jO rfl ?_;show kS bb 201 [.one (.bls 0 0 l.length 11),.one (.fn 152 [])] [.box (oR (l.map aK.e).flatten)]=some (.tup [],[.box (oR (l.map aK.e).flatten)]);rw[aLJ];unfold Mx;simp only;rw[if_pos ⟨l,h,rfl,rfl⟩]
end
section
variable {G:aE}{bb:Bool}
end
section
variable {G:aE}{bb:Bool}
end
section
variable {G:aE}{bb:Bool}
def Kg:L (L DC)->Option (L ByteArray)
 |[]=>some []
 |[.raw (.string s)]::es=>(Kg es).map (s::·)
 |_::_=>none
theorem Ni:∀{es:L (L DC)}{a:L ByteArray},Kg es=some a->es=a.map Gx
 |[],a,h=>by simp[Kg] at h;subst h;rfl
 | e::es,a,h=>by
  unfold Kg at h;split at h
  ·rename_i b;cases b
  ·rename_i s c b;injection b with d f
   subst d;subst f;obtain⟨g,h3,h4⟩:=Option.map_eq_some_iff.1 h;subst h4;rw[Ni h3];rfl
  ·cases h
theorem aHC(xs:L ByteArray):Kg (xs.map Gx)=some xs:=by
 induction xs with
 |nil=>rfl
 |cons x xs a=>rw[aZl,Gx,Kg,a];rfl
def aHD(a:ByteArray):Option (L ByteArray)->Option (AV×L aD)
 |some b=>if b.length<=1000/\(Lib.join (b.map (·.data.toList)) a.data.toList).length<=1000000 then some (.one (.dc (.raw (.string (Um b a)))),[]) else none
 |none=>none
def aAG:L AV->L aD->Option (AV×L aD)
 |[.one (.dc (.slc es)),.one (.dc (.raw (.string sep)))],[]=>aHD sep (Kg es)
 |_,_=>none
noncomputable def lP(_:aE)(b:Bool):aN:=fun f a hp=>if f=113 then aAG a hp else kS b f a hp
theorem aQJ{b:Bool}(k:b=true->QC Tryz.prog G 4 [] (.one (.dc (.raw (.bool true))))):cJ Tryz.prog G (lP G b):=by
 intro f c hp av l h d j;unfold lP at h;split at h;rename_i hf;subst hf;refine⟨by kernel_rfl,?_⟩;unfold aAG at h;split at h;rename_i es m;unfold aHD at h;split at h;rename_i p i;split at h;rename_i n;injection h with h;injection h with e g;subst e;subst g
 have:d=[]:=by simpa using j
 subst this;rw[Ni i];exact (aL4 (G:=G) (by omega) (by omega)).gh (fun a o ⟨e,g⟩ _=>⟨a,o,Gh.refl,aZx _,e,by rw[g];rfl⟩)
 cases h;cases h;cases h;exact aQl k f c hp av l h d j
theorem aL5{b:Bool}(f:FuncId)(a:L AV)(hp:L aD)(r:AV×L aD)(h:kS b f a hp=some r):lP G b f a hp=some r:=by
 have c:kS b 113 a hp=none:=rfl;unfold lP;split;rename_i hf;subst hf;rw[c] at h;cases h;exact h
theorem sO{b:Bool}{f:FuncId}{a:L AV}{hp:L aD}{r:AV×L aD}(h:EV G (Tb (kS b)) f a hp=some r):EV G (Tb (lP G b)) f a hp=some r:=
 aGB (T:=Tb (kS b)) (T':=Tb (lP G b)) (fun _=>rfl) (fun f a hp r _ h=>aL5 (G:=G) f a hp r h) h
theorem Nj:∀L:List (List UInt8),([]:List UInt8).intercalate L=L.flatten
 |[]=>rfl
 |[x]=>by simp[List.intercalate]
 | x::y::l=>by
  have:=Nj (y::l);simp[List.intercalate,List.intersperse] at this ⊢;exact this
theorem aHE(a:L (L Int)):Um (a.map fF) ⟨#[]⟩=fF a.flatten:=by
 have b:Lib.join ((a.map fF).map (·.data.toList)) []=a.flatten.map u8:=by
  unfold Lib.join;rw[Nj,aZG,List.map_flatten];congr 1
 unfold Um;show (⟨(Lib.join ((a.map fF).map (·.data.toList)) []).toArray⟩:ByteArray)=_;rw[b];rfl
theorem aL6(a:L (L Int))(c:a.length<=1000)(d:a.flatten.length<=1000000):EV G (Tb (lP G bb)) 113 [vl (a.map qF),.one (.dc (.raw (.string ⟨#[]⟩)))] []=some (sv a.flatten,[]):=by
 refine jO rfl ?_;show lP G bb 113 [vl (a.map qF),.one (.dc (.raw (.string ⟨#[]⟩)))] []=_;unfold lP;rw[if_pos rfl];have e:a.map qF=(a.map fF).map Gx:=by rw[aZG];rfl
 have b:(Lib.join ((a.map fF).map (·.data.toList)) (⟨#[]⟩:ByteArray).data.toList).length=a.flatten.length:=by
  have:=congrArg ByteArray.size (aHE a);rw[aC] at this;simpa[Um,ByteArray.size] using this
 show aAG [vl (a.map qF),.one (.dc (.raw (.string ⟨#[]⟩)))] []=_;unfold aAG;simp only;rw[e,aHC];unfold aHD;simp only;rw[if_pos ⟨by rw[aY9];exact c,by rw[b];exact d⟩,aHE]
end
section
variable {G:aE}{B:aN}
structure Bt where
 (cl tb mi lg lc se:Int)
deriving DecidableEq
abbrev Bt.cs(x:Bt):L aU:=[.dc (ci x.cl),.dc (ci x.tb),.dc (ci x.mi),.dc (ci x.lg),.dc (ci x.lc),.dc (ci x.se)]
abbrev Bt.v(x:Bt):AV:=.agg x.cs
abbrev Bt.o(x:Bt):aD:=.box x.cs
def qG(b:Bool)(e:Int):Int:=if b=true then 0 else e
def Bt.num(x:Bt):Bool:=decide (64<=x.cl/\x.cl<=512)&&decide (x.lc.tmod 2=0)&&decide (8<=x.lc/\x.lc<=64)&&decide (0<=x.se/\x.se<=2147483647)
def Bt.inn(x:Bt)(n:Int):Bool:=decide (1<=n/\n<=x.cl-2)
def Bt.ins(x:Bt):Bool:=x.inn x.tb&&x.inn x.mi&&x.inn x.lg
def Bt.fit(x:Bt):Bool:=decide (x.mi+8<x.cl)&&decide (x.lg+x.lc<x.cl)
def En(a m b n:Int):Bool:=decide (a<b+n/\b<a+m)
def Bt.cla(x:Bt):Bool:=!En x.tb 2 x.mi 8&&!En x.tb 2 x.lg x.lc&&!En x.mi 8 x.lg x.lc
def jZ(x:Bt):Int:=if x.num=true then if x.ins=true then if x.fit=true then if x.cla=true then 0 else 13 else 37 else 2 else 2
theorem kO(n a b:Int):EV G (Tb B) 41 [vi n,vi a,vi b] []=some (vb (decide (a<=n/\n<=b)),[]):=by
 refine aA rfl ?_;by_cases h:a<=n;all_goals simp (disch:=omega) only[go_sem,h41c]
 all_goals simp[h]
theorem jH(b:Bool)(e:Int):EV G (Tb B) 40 [vb b,vi e] []=some (vi (qG b e),[]):=by
 refine aA rfl ?_;cases b;all_goals simp (disch:=omega) only[go_sem,h40c]
 all_goals rfl
theorem Uo(l:L Int)(g:l.length<=1000):EV G (Tb B) 39 [vl (el l)] []=some (vi (aT l),[]):=by
 refine aA rfl ?_;simp (disch:=omega) only[go_sem,h39c,aY9];have a:∀ k (b:k < l.length),¬ l.getD k 0≠0->K7 [5,0,0] 0 (EC (EV G (Tb B)) G h39l0 ⟨(jk 5 (vl (el l)::vi l.length::vi k::jk 7 [])),[]⟩)=some ⟨(jk 5 (vl (el l)::vi l.length::vi (k+1:Nat)::jk 7 [])),[]⟩:=fun k b f=>by
  rw[bW l k b] at f;simp (disch:=omega) only[go_sem,h39l0,aY9,tX]
 rcases O3 (fun k=>l.getD k 0≠0) l.length with h|⟨j,e,c,d⟩
 rw[aQ (fun k=>⟨(jk 5 (vl (el l)::vi l.length::vi k::jk 7 [])),[]⟩) l.length ?_ ?_]
 rw[iK l h];simp (disch:=omega) only[go_sem,h39l0];rfl;exact fun k b=>a k b (h k b)
 rw[aQ (fun k=>⟨(jk 5 (vl (el l)::vi l.length::vi k::jk 7 [])),[]⟩) j ?_ ?_]
 rw[kM l j e d c];rw[bW l j e] at c;simp (disch:=omega) only[go_sem,h39l0,aY9,tX];rfl;exact fun k b=>a k (by omega) (d k b)
theorem qH(a b:Int):EV G (Tb B) 39 [vl [[ci a],[ci b]]] []=some (vi (aT [a,b]),[]):=Uo [a,b] (by simp)
theorem Kh(x:Bt)(n:Int):EV G (Tb B) 80 [vi n,.one (.ptr 0 0)] [x.o]=some (vb (decide (1<=n/\n<=IntKind.i64.wrap (x.cl-2))),[x.o]):=by
 refine aA rfl ?_;have w:=fun n b a=>kO (G:=G) (B:=B) n b a
 simp (disch:=omega) only[go_sem,h80c,w]
theorem aL7(x:Bt):EV G (Tb B) 81 [x.v] []=some (rn x.tb 2,[]):=by
 refine aA rfl ?_;simp (disch:=omega) only[go_sem,h81c]
theorem A7(x:Bt):EV G (Tb B) 44 [x.v] []=some (rn x.mi 8,[]):=by
 refine aA rfl ?_;simp (disch:=omega) only[go_sem,h44c]
theorem Xt(x:Bt):EV G (Tb B) 45 [x.v] []=some (rn x.lg x.lc,[]):=by
 refine aA rfl ?_;simp (disch:=omega) only[go_sem,h45c]
theorem qI(s n:Int)(h:-1000000<=s/\s<=1000000)(a:-1000000<=n/\n<=1000000):EV G (Tb B) 42 [rn s n] []=some (vi (s+n),[]):=by
 refine aA rfl ?_;simp (disch:=omega) only[go_sem,h42c]
theorem D9(a m b n:Int)(h:-1000000<=a/\a<=1000000)(d:-1000000<=m/\m<=1000000)(e:-1000000<=b/\b<=1000000)(c:-1000000<=n/\n<=1000000):EV G (Tb B) 43 [rn a m,rn b n] []=some (vb (En a m b n),[]):=by
 refine aA rfl ?_;have f:=qI (G:=G) (B:=B) a m h d;have g:=qI (G:=G) (B:=B) b n e c;by_cases h:a<b+n;all_goals simp (disch:=omega) only[go_sem,h43c,f,g]
 all_goals simp[h,En]
theorem eB(e:Int):qG true e=0:=rfl
theorem fE(e:Int):qG false e=e:=rfl
theorem cB(a b:Int):aT [a,b]=if a=0 then b else a:=by
 by_cases h:a=0;subst h;by_cases c:b=0;subst c;rfl;simp[aT,c];simp[aT,h]
theorem Bl{α a:Type}(f:α->Option a)(x:α):[x].mapM f=(f x).map fun c=>[c]:=by
 cases h:f x<;>simp[aZ8,h]
theorem tP{id:Nat}{a b c d:aU}{st:AS}:fvT 2 id 0 [a,b] st (some (.box [c,d]))=some (⟨st.sl,st.hp.set id (.box [a,b])⟩,[id],[id]):=aNu rfl (by simp)
theorem sP{x:Bt}(h:x.num=false):jZ x=2:=by simp[jZ,h]
theorem Ak{x:Bt}(h:x.ins=false):jZ x=2:=by simp[jZ,h]
theorem Kj{x:Bt}(h:x.num=true)(a:x.ins=true)(b:x.fit=false):jZ x=37:=by simp[jZ,h,a,b]
theorem Uq{x:Bt}(h:x.num=true)(a:x.ins=true)(b:x.fit=true):jZ x=qG x.cla 13:=by simp[jZ,h,a,b,qG]
theorem mM{x:Bt}:x.num=true↔(64<=x.cl/\x.cl<=512)/\x.lc.tmod 2=0/\(8<=x.lc/\x.lc<=64)/\(0<=x.se/\x.se<=2147483647):=by
 simp[Bt.num,and_assoc]
theorem qY{x:Bt}:x.ins=true↔(1<=x.tb/\x.tb<=x.cl-2)/\(1<=x.mi/\x.mi<=x.cl-2)/\(1<=x.lg/\x.lg<=x.cl-2):=by
 simp[Bt.ins,Bt.inn,and_assoc]
theorem Ea{x:Bt}:x.fit=true↔x.mi+8<x.cl/\x.lg+x.lc<x.cl:=by simp[Bt.fit]
theorem Xu(x:Bt)(j:x.num=false):EV G (Tb B) 37 [x.v] []=some (vi 2,[]):=by
 have w:=fun n k i=>kO (G:=G) (B:=B) n k i
 have u:=jH (G:=G) (B:=B);have f:=qH (G:=G) (B:=B);obtain⟨I,c⟩:∃I:Int->Bool,∀n,EV G (Tb B) 80 [vi n,.one (.ptr 0 0)] [x.o]=some (vb (I n),[x.o]):=⟨_,Kh x⟩;have e:¬ ((64<=x.cl/\x.cl<=512)/\x.lc.tmod 2=0/\(8<=x.lc/\x.lc<=64)/\(0<=x.se/\x.se<=2147483647)):=fun h=>by rw[<- mM,j] at h;cases h
 refine aA rfl ?_;by_cases d:64<=x.cl/\x.cl<=512;by_cases g:x.lc.tmod 2=0;by_cases h3:8<=x.lc/\x.lc<=64
 ·have h4:¬ (0<=x.se/\x.se<=2147483647):=fun h4=>e ⟨d,g,h3,h4⟩
  cases a:I x.tb;all_goals cases b:I x.mi
  all_goals simp (disch:=omega) only[go_sem,h37c,w,u,f,c,d,g,h3,h4,a,b,Bl,jM,aZf,cB,eB,fE]
 ·cases a:I x.tb;all_goals cases b:I x.mi
  all_goals simp (disch:=omega) only[go_sem,h37c,w,u,f,c,d,g,h3,a,b,Bl,jM,aZf,cB,eB,fE]
 ·cases a:I x.tb;all_goals cases b:I x.mi
  all_goals simp (disch:=omega) only[go_sem,h37c,w,u,f,c,d,g,a,b,Bl,jM,aZf,cB,eB,fE]
 ·cases a:I x.tb;all_goals cases b:I x.mi
  all_goals simp (disch:=omega) only[go_sem,h37c,w,u,f,c,d,a,b,Bl,jM,aZf,cB,eB,fE]
theorem Xv(x:Bt)(l:x.num=true)(g:x.ins=false):EV G (Tb B) 37 [x.v] []=some (vi 2,[]):=by
 have w:=fun n p g=>kO (G:=G) (B:=B) n p g
 have u:=jH (G:=G) (B:=B);have f:=qH (G:=G) (B:=B);obtain⟨i,j,h3,h4⟩:=mM.1 l;have c:∀ n,EV G (Tb B) 80 [vi n,.one (.ptr 0 0)] [x.o]=some (vb (x.inn n),[x.o]):=fun n=>by
  rw[Kh,Et (by omega)];rfl
 have e:x.inn x.tb=true->x.inn x.mi=true->x.inn x.lg=false:=fun a b=>by
  cases d:x.inn x.lg
  ·rfl
  ·rw[Bt.ins,a,b,d] at g;cases g
 refine aA rfl ?_;cases h:x.inn x.tb;simp (disch:=omega) only[go_sem,h37c,w,u,f,c,i,j,h3,h4,Bl,jM,aZf,cB,eB,fE,h];cases k:x.inn x.mi;simp (disch:=omega) only[go_sem,h37c,w,u,f,c,i,j,h3,h4,Bl,jM,aZf,cB,eB,fE,h,k];have m:=e h k;simp (disch:=omega) only[go_sem,h37c,w,u,f,c,i,j,h3,h4,Bl,jM,aZf,cB,eB,fE,h,k,m]
theorem aC0(x:Bt)(I:x.num=true)(E:x.ins=true):EV G (Tb B) 37 [x.v] []=some (vi (jZ x),[]):=by
 have w:=fun n O E=>kO (G:=G) (B:=B) n O E
 have u:=jH (G:=G) (B:=B);have f:=qH (G:=G) (B:=B);have l:=aL7 (G:=G) (B:=B) x;have p:=A7 (G:=G) (B:=B) x;have m:=Xt (G:=G) (B:=B) x;obtain⟨q,r,h3,h4⟩:=mM.1 I;obtain⟨L,M,N⟩:=qY.1 E;have c:∀ n,EV G (Tb B) 80 [vi n,.one (.ptr 0 0)] [x.o]=some (vb (x.inn n),[x.o]):=fun n=>by
  rw[Kh,Et (by omega)];rfl
 have s:x.inn x.tb=true:=by simp[Bt.inn,L]
 have t:x.inn x.mi=true:=by simp[Bt.inn,M]
 have y:x.inn x.lg=true:=by simp[Bt.inn,N]
 have i:=qI (G:=G) (B:=B) x.mi 8 (by omega) (by omega);have k:=qI (G:=G) (B:=B) x.lg x.lc (by omega) (by omega);have b:=D9 (G:=G) (B:=B) x.tb 2 x.mi 8 (by omega) (by omega) (by omega) (by omega);have g:=D9 (G:=G) (B:=B) x.tb 2 x.lg x.lc (by omega) (by omega) (by omega) (by omega);have h:=D9 (G:=G) (B:=B) x.mi 8 x.lg x.lc (by omega) (by omega) (by omega) (by omega);have e:jZ x=if qG x.fit 37=0 then qG x.cla 13 else qG x.fit 37:=by
  cases hf:x.fit<;>simp[jZ,I,E,hf,qG]
 rw[e];have d:x.fit=(decide (x.mi+8<x.cl)&&decide (x.lg+x.lc<x.cl)):=rfl;have D:x.cla=(!En x.tb 2 x.mi 8&&!En x.tb 2 x.lg x.lc&&!En x.mi 8 x.lg x.lc):=rfl;generalize En x.tb 2 x.mi 8=A at b D;generalize En x.tb 2 x.lg x.lc=C at g D;generalize En x.mi 8 x.lg x.lc=K at h D;rw[d,D];have F:∀J:Bool,(decide (x.mi+8<x.cl)&&decide (x.lg+x.lc<x.cl))=J->qL h37.own h37.rs 0 (EC (EV G (Tb B)) G h37.code ⟨[x.v]++tW (h37.nt-1),[]⟩)=some (vi (if qG J 37=0 then qG (!A&&!C&&!K) 13 else qG J 37),[]):=by
  intro J H;by_cases a:x.mi+8<x.cl;by_cases z:x.lg+x.lc<x.cl;have j:J=true:=by rw[<- H];simp[a,z]
  subst j;cases A;cases C;simp (disch:=omega) only[go_sem,h37c,w,u,f,c,q,r,h3,h4,Bl,jM,aZf,cB,eB,fE,s,t,y,l,p,m,i,k,tP,b,g,h,a,z,aZz,aZF,aZJ,aZS];simp (disch:=omega) only[go_sem,h37c,w,u,f,c,q,r,h3,h4,Bl,jM,aZf,cB,eB,fE,s,t,y,l,p,m,i,k,tP,b,g,h,a,z,aZz,aZF,aZJ,aZS];simp (disch:=omega) only[go_sem,h37c,w,u,f,c,q,r,h3,h4,Bl,jM,aZf,cB,eB,fE,s,t,y,l,p,m,i,k,tP,b,g,h,a,z,aZz,aZF,aZJ,aZS];have j:J=false:=by rw[<- H];simp[z]
  subst j;cases A;cases C;simp (disch:=omega) only[go_sem,h37c,w,u,f,c,q,r,h3,h4,Bl,jM,aZf,cB,eB,fE,s,t,y,l,p,m,i,k,tP,b,g,h,a,z,aZz,aZF];simp (disch:=omega) only[go_sem,h37c,w,u,f,c,q,r,h3,h4,Bl,jM,aZf,cB,eB,fE,s,t,y,l,p,m,i,k,tP,b,g,h,a,z,aZz,aZF];simp (disch:=omega) only[go_sem,h37c,w,u,f,c,q,r,h3,h4,Bl,jM,aZf,cB,eB,fE,s,t,y,l,p,m,i,k,tP,b,g,h,a,z,aZz,aZF];have j:J=false:=by rw[<- H];simp[a]
  subst j;cases A;cases C;simp (disch:=omega) only[go_sem,h37c,w,u,f,c,q,r,h3,h4,Bl,jM,aZf,cB,eB,fE,s,t,y,l,p,m,i,k,tP,b,g,h,a,aZz,aZF];simp (disch:=omega) only[go_sem,h37c,w,u,f,c,q,r,h3,h4,Bl,jM,aZf,cB,eB,fE,s,t,y,l,p,m,i,k,tP,b,g,h,a,aZz,aZF];simp (disch:=omega) only[go_sem,h37c,w,u,f,c,q,r,h3,h4,Bl,jM,aZf,cB,eB,fE,s,t,y,l,p,m,i,k,tP,b,g,h,a,aZz,aZF]
 exact aA rfl (F _ rfl)
theorem Al(x:Bt):EV G (Tb B) 37 [x.v] []=some (vi (jZ x),[]):=by
 cases a:x.num with
 |false=>rw[sP a];exact Xu x a
 | true=>cases b:x.ins with
  | false=>rw[Ak b];exact Xv x a b
  | true=>exact aC0 x a b
