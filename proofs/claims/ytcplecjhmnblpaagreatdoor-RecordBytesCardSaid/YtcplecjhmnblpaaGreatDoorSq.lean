/- EncodeRecord. Conditions: as each theorem says. -/
import Derived.Test.YtcplecjhmnblpaaGreatDoorSl
import Derived.Test.YtcplecjhmnblpaaGreatDoorUg
import Derived.Test.YtcplecjhmnblpaaGreatDoorSc
namespace Go.Proofs.YtcplecjhmnblpaaGreatDoor
set_option linter.unusedSimpArgs false
set_option linter.unusedVariables false
set_option maxRecDepth 4000
section
variable {G:aH} {bb:Bool}
theorem aFE{a:aE}{i:Int}(h:a.W):(dQ a i).W:=⟨h.nm,h.va,h.nl,h.vl,h.rl⟩
theorem aM8(l:List aE):((l.length:Int) < 32)=(l.length < 32):=by apply propext;omega
set_option maxHeartbeats 8000000 in
theorem aFF(r:bZ)(hW:r.W)(a:aE)(haW:a.W):EV G (Tb (iM bb)) 26 [r.v,a.v] []=some (rcv (Oj r a),[]):=by
 refine aB rfl ?_;have q1:=kG (G:=G) (bb:=bb) r hW;have q2:=C8 (G:=G) (bb:=bb) r;have u:=lM (G:=G) (bb:=bb);have q3:=C6 (G:=G) (bb:=bb);have hok:dG r=0->r.Ok:=kX;have hb:=aFE (i:=r.nx) haW;have q4:=up (vZ (G:=G) (bb:=bb) (dQ a r.nx) hb);have q5:=aJC (G:=G) (bb:=bb) r (dQ a r.nx) hW hb.nm;have e5:D1 r (dQ a r.nx)=D1 r a:=rfl;rw[e5] at q5;unfold Oj Li Ru;by_cases c1:aS [dG r,un (iC r.fl) 20,un (decide (r.nx < 65535)) 16]=0
 ·rw[if_neg (not_not_intro c1)];obtain⟨z1,z2,z3⟩:=sX c1;have hO:=hok z1;have hn:=hO.num.2.2.2.1;have hln:=hO.ln;clear hok;have e3:=aM8 r.ats;by_cases c2:aS [hZ (dQ a r.nx),un (!D1 r a) 5,un (decide (r.ats.length < 32)) 8]=0
  ·rw[if_neg (not_not_intro c2)];obtain⟨y1,y2,y3⟩:=sX c2;have hl:r.ats.length < 32:=by
    have:=Hq (by decide) y3;simpa using this
   have q6:=Vv (G:=G) (bb:=bb) r hW;have hs:=R4 hO y1 hl;have hWn:∀ x∈r.ats++[dQ a r.nx],x.W:=fun x hx=>by
    rcases List.mem_append.1 hx with hx | hx
    ·exact hW.at' x hx
    ·rw[List.mem_singleton.1 hx];exact hb
   have hll:(r.ats++[dQ a r.nx]).length=r.ats.length+1:=by simp
   have q7:=aA9 (G:=G) (bb:=bb) (r.ats++[dQ a r.nx]) hWn (by omega);rw[if_pos hs,hs] at q7;have q8:=Da (G:=G) (bb:=bb) (dL (r.ats++[dQ a r.nx])) (fun x hx=>hWn x (Ck.1 hx)) (by rw[wE];omega)
   have tk:∀ x:List DC,List.take (r.ats.length+1) (List.map aE.e r.ats++[x])=List.map aE.e r.ats++[x]:=fun x=>aQM (by rw[aQc,aQb];exact aQf _)
   unfold qR;simp only[aQL,aQo,aQn] at q7;generalize dL (r.ats++[dQ a r.nx])=m at *;generalize hZ (dQ a r.nx)=ea at *;generalize D1 r a=hb' at *;generalize dG r=re at *;generalize iC r.fl=ub at *;simp only[dQ] at q4 q5 q7 ⊢;generalize dV m=z at *;by_cases c3:z<=440
   ·have d3:¬ 440 < z:=by omega
    rw[if_pos c3];simp (disch:=omega) only[go_sem,h26c,q1,q2,u,q3,q4,q5,q6,q7,q8,eq_true c1,eq_true c2,d3,e3,aQb,aQc,aQd,aQe,aQQ,aQf,tk]
    all_goals rfl
   ·have d3:440 < z:=by omega
    rw[if_neg c3];simp (disch:=omega) only[go_sem,h26c,q1,q2,u,q3,q4,q5,q6,q7,q8,eq_true c1,eq_true c2,eq_true d3,e3,aQb,aQc,aQd,aQe,aQQ,aQf,tk,bZ.nil];rfl
  ·rw[if_pos c2];generalize hZ (dQ a r.nx)=ea at *;generalize D1 r a=hb' at *;generalize dG r=re at *;generalize iC r.fl=ub at *;simp only[dQ] at q4 q5;simp (disch:=omega) only[go_sem,h26c,q1,q2,u,q3,q4,q5,eq_true c1,c2,e3,aQb,bZ.nil];rfl
 ·rw[if_pos c1];generalize dG r=re at *;generalize iC r.fl=ub at *;simp (disch:=omega) only[go_sem,h26c,q1,q2,u,q3,c1,bZ.nil];rfl
end
section
variable {G:aH} {bb:Bool}
end
section
variable {G:aH} {bb:Bool}
theorem Vw(n lo hi:Int):EV G (Tb (bs bb)) 157 [vi n,vi lo,vi hi] []=some (vb (decide (lo<=n/\n<=hi)),[]):=by
 refine aB rfl ?_;by_cases h:lo<=n
 all_goals simp (disch:=omega) only[go_sem,h157c]
 all_goals simp[h]
theorem Fi(b:Bool)(e:Int):EV G (Tb (bs bb)) 155 [vb b,vi e] []=some (vi (un b e),[]):=by
 refine aB rfl ?_;cases b
 all_goals simp (disch:=omega) only[go_sem,h155c]
 all_goals rfl
theorem aBO(l:List Int)(hl:l.length<=1000):EV G (Tb (bs bb)) 154 [vl (el l)] []=some (vi (aS l),[]):=by
 refine aB rfl ?_;simp (disch:=omega) only[go_sem,h154c,aQb];have round:∀ k (hk:k < l.length),¬ l.getD k 0≠0->Ua [5,0,0] 0 (EC (EV G (Tb (bs bb))) G h154l0 ⟨(jk 5 (vl (el l)::vi l.length::vi k::jk 7 [])),[]⟩)=some ⟨(jk 5 (vl (el l)::vi l.length::vi (k+1:Nat)::jk 7 [])),[]⟩:=fun k hk hz=>by
  rw[eY l k hk] at hz;simp (disch:=omega) only[go_sem,h154l0,aQb,Qu]
 rcases Uz (fun k=>l.getD k 0≠0) l.length with h | ⟨j,hj,h1,h2⟩
 ·rw[bG (fun k=>⟨(jk 5 (vl (el l)::vi l.length::vi k::jk 7 [])),[]⟩) l.length ?_ ?_]
  ·rw[kF l h];simp (disch:=omega) only[go_sem,h154l0]
  ·rfl
  ·exact fun k hk=>round k hk (h k hk)
 ·rw[bG (fun k=>⟨(jk 5 (vl (el l)::vi l.length::vi k::jk 7 [])),[]⟩) j ?_ ?_]
  ·rw[mV l j hj h2 h1];rw[eY l j hj] at h1;simp (disch:=omega) only[go_sem,h154l0,aQb,Qu]
  ·rfl
  ·exact fun k hk=>round k (by omega) (h2 k hk)
theorem aBP(a b:Int):EV G (Tb (bs bb)) 154 [vl [[ci a],[ci b]]] []=some (vi (aS [a,b]),[]):=aBO [a,b] (by simp)
theorem Lt(l:List Int):EV G (Tb (bs bb)) 142 [sv l] []=some (vi (un (decide (l.length=512)) 10),[]):=by
 refine aB rfl ?_;have u:=Fi (G:=G) (bb:=bb);have e:((l.length:Int)=512)=(l.length=512):=by apply propext;omega
 simp (disch:=omega) only[go_sem,h142c,u,e]
theorem Ow(i:Nat)(h:i<=1000):EV G (Tb (bs bb)) 147 [vi i] []=some (vi ((64 * i+62:Nat):Int),[]):=by
 refine aB rfl ?_;have e:((i:Int)+1) * 64 - 2=((64 * i+62:Nat):Int):=by omega
 simp (disch:=omega) only[go_sem,h147c,e]
theorem Vx(n:Int)(h:-9223372036854775808<=n/\n<=9223372036854775807):EV G (Tb (bs bb)) 158 [vi n] []=some (sv (bU n 2),[]):=by
 refine aB rfl ?_;have e:bU n 2=[n % 256,n / 256 % 256]:=rfl;rw[e];simp (disch:=omega) only[go_sem,h158c,wu8,Aa,Int.reduceToNat,Int.reducePow,tR,fH,u8,eG,aQo,aQn];rfl
theorem orC(n b:Int)(hn:0<=n/\n<=255)(hb:0<=b/\b<=255):Wd .i64 b (n * 256)=b+256 * n:=by
 have h1:Wd .i64 b (n * 256)=Wd .i64 (n * 256) b:=by
  unfold Wd;rw[BitVec.or_comm]
 rw[h1,orL n b (by omega) hb];omega
theorem Fj(x y:Int)(hx:0<=x/\x<=255)(hy:0<=y/\y<=255):EV G (Tb (bs bb)) 144 [sv [x,y]] []=some (vi (x+256 * y),[]):=by
 refine aB rfl ?_;have hB:aM [x,y]:=fun b hb=>by
  rcases List.mem_cons.1 hb with rfl | hb
  ·exact hx
  ·rw[List.mem_singleton.1 hb];exact hy
 have i0:Dn (sv [x,y]) 0=some (vu x):=aGA [x,y] hB 0 (by simp);have i1:Dn (sv [x,y]) 1=some (vu y):=aGA [x,y] hB 1 (by simp);have o:=orC y x hy hx;simp (disch:=omega) only[go_sem,h144c,i0,i1,o,Int.reduceToNat,Int.reducePow]
theorem aM9(b:List Int):(List.map tR b).all (fun e=>decide (e.length=1))=true:=by
 rw[aRl];intro e he;obtain⟨x,_,rfl⟩:=List.mem_map.1 he;rfl
theorem aGP(b:List Int)(i:Nat)(h:i+2<=b.length)(hl:b.length<=1000000):EV G (Tb (bs bb)) 145 [vl (bl b),vi i] []=some (sv (gC b i),[]):=by
 refine aB rfl ?_;have e:((b.map tR).take (i+2)).drop i=(gC b i).map tR:=by
  rw[aQY,List.map_drop,List.take_drop,Nat.add_comm]
 have ht:((i:Int)+2).toNat=i+2:=by omega
 have ha:=aM9 b;simp (disch:=omega) only[go_sem,h145c,aQb,ht,e,ha,aAz]
theorem byS(n:Int):∀ k,aM (bU n k)
 | 0=>fun b hb=>by cases hb
 | k+1=>fun b hb=>by
  rw[bU,List.mem_append] at hb;rcases hb with hb | hb
  ·exact byS n k b hb
  ·rw[List.mem_singleton.1 hb];omega
theorem Ox:∀ b:List Int,jB (List.map tR b).flatten=b.map yC
 | []=>rfl
 | x::b=>by
  have ih:=Ox b;rw[aQo,aQ5,aQo,<- ih];rfl
theorem Dd(b:List Int)(h:aM b):gE (eG b)=List.map tR b:=by
 show List.map _ (b.map u8)=_;rw[aQC];exact aQz fun x hx=>by simp only[Function.comp_apply,tR,jJ x (h x hx)]
theorem aJD(b:List Int)(a n:Nat):cN (b.map yC) a (List.replicate n (cI (.int .u8 0)))=(kH b a (zl n)).map yC:=by
 have:List.replicate n (cI (.int .u8 0))=(zl n).map yC:=G0 n;rw[this];simp[cN,kH,aQL,aQY,List.map_drop]
theorem aGQ{b:List Int}{n:Nat}(h:b.length=n)(hn:0 < n):(List.map tR b).isEmpty=false:=by
 cases b with
 | nil=>simp at h;omega
 | cons _ _=>rfl
theorem aNb(l:List Int)(i j:Int)(h:0<=i/\i<=j/\j<=l.length):Do (sv l) (some (vi i)) (some (vi j))=some (sv ((l.take j.toNat).drop i.toNat)):=by
 have h2:0<=j:=by omega
 have h3:i<=(j.toNat:Int):=by omega
 simp only[Do,cS,dI,bP,aQq,h.1,h.2.1,h.2.2,h2,h3,and_self,if_true,Gx,aL,cX]
theorem aNc(l:List Int)(j:Int)(h:0<=j/\j<=l.length):Do (sv l) none (some (vi j))=some (sv (l.take j.toNat)):=by
 simp[Do,cS,dI,bP,h.1,h.2,Gx,aL,cX]
theorem aBQ(b:List Int)(i:Nat)(N:Nat)(hN:b.length=N)(h:i+2<=N)(hl:N<=1000000):EV G (Tb (bs bb)) 145 [.one (.bls 0 0 N 1),vi i] [yb b]=some (sv (gC b i),[yb b]):=by
 refine aB rfl ?_;have ht:((i:Int)+2).toNat=i+2:=by omega
 have e:jT (((b.map yC).drop i).take 2)=some ((gC b i).map u8):=by rw[<- List.map_drop,<- aQY,pG]
 simp (disch:=omega) only[go_sem,h145c,aQb,ht,aRv,e,aAA]
theorem Hw(b t:List Int)(a:Int)(N:Nat)(hN:b.length=N)(hl:N<=1000000)(ha:0<=a/\a+t.length<=N)(hB:aM t):EV G (Tb (bs bb)) 146 [.one (.bls 0 0 N 1),vi a,sv t] [yb b]=some (.tup [],[yb (kH b a.toNat t)]):=by
 refine aB rfl ?_;have e:=uB b t a.toNat (N - a.toNat) hB (by omega);simp (disch:=omega) only[go_sem,h146c,aQb,e]
theorem aFG(n:Nat)(h:n<=1000):EV G (Tb (bs bb)) 191 [sv (zl n),vu 0] []=some (sv [],[]):=by
 refine aB rfl ?_;simp (disch:=omega) only[go_sem,h191c];rw[bG (fun k=>⟨(sv (zl (n - k))::vu 0::jk 21 []),[]⟩) n ?_ ?_]
 ·rw[aQZ];simp (disch:=omega) only[go_sem,h191l0,aL,bD];rfl
 ·rfl
 ·intro k hk;have h1:(zl (n - k))[n - k - 1]?=some 0:=by unfold zl;rw[aRc,if_pos (by omega)]
  have h2:=aNc (zl (n - k)) ((n - k:Nat) - 1:Int) (by rw[bD];omega);have h3:(zl (n - k)).take (n - k - 1)=zl (n - (k+1)):=by
   unfold zl;rw[List.take_replicate];congr 1;omega
  have h5:(((n - k:Nat):Int) - 1).toNat=n - k - 1:=by omega
  rw[h5,h3] at h2;have h4:(0:Int) < ((n - k:Nat):Int):=by omega
  have h6:((u8 0).toNat:Int)=0:=rfl;simp (disch:=omega) only[go_sem,h191l0,aL,bD,h1,h3,eq_true h4,h6]
theorem aFH:EV G (Tb (bs bb)) 190 [sv [],vu 0] []=some (sv [],[]):=by
 refine aB rfl ?_;simp (disch:=omega) only[go_sem,h190c];rw[bG (fun k=>⟨(sv []::vu 0::jk 15 []),[]⟩) 0 ?_ ?_]
 ·simp (disch:=omega) only[go_sem,h190l0,aL,aQe]
 ·rfl
 ·intro k hk;omega
theorem aJE:EV G (Tb (bs bb)) 156 [sv (zl 18),.one (.dc (.raw (.string ⟨#[0]⟩)))] []=some (sv [],[]):=by
 refine aB rfl ?_;have q1:=aFG (G:=G) (bb:=bb) 18 (by decide);have q2:=aFH (G:=G) (bb:=bb);have i0:Dn (.one (.dc (.raw (.string ⟨#[0]⟩)))) 0=some (vu 0):=by rfl
 have e0:¬ eG (zl 18)=⟨#[]⟩:=by decide
 have e1:¬ (⟨#[0]⟩:ByteArray)=⟨#[]⟩:=by decide
 have e5:((UInt8.toNat 0:Nat):Int)=0:=rfl;have e4:(((#[0]:Array UInt8).size:Nat):Int)=1:=rfl;simp (disch:=omega) only[go_sem,h156c,q1,q2,i0,e0,e1,e4,e5]
theorem byC{s:List Int}(h:aM s)(a:Nat):aM (gC s a):=fun x hx=>h x (aQS (aQO hx))
theorem aFI{b s:List Int}{k:Nat}(hb:aM b)(hs:aM s):aM (kH b k s):=fun x hx=>by
 unfold kH at hx;rcases List.mem_append.1 hx with hx | hx
 ·rcases List.mem_append.1 hx with hx | hx
  ·exact hb x (aQO hx)
  ·exact hs x hx
 ·exact hb x (aQS hx)
theorem Oy{b:List Int}{u:Int}(hb:b.length=512)(hB:aM b):∀ k,k<=8->aM (lR b u k)
 | 0,_=>aFI hB (byS u 2)
 | k+1,h=>aFI (aFI (Oy hb hB k (by omega)) (byC (Oy hb hB k (by omega)) _)) (byS u 2)
set_option maxHeartbeats 4000000 in
theorem Vy(b:List Int)(u:Int)(hb:b.length=512)(hB:aM b)(hz:(b.drop 40).take 18=zl 18)(hu:1<=u/\u<=65535):EV G (Tb (bs bb)) 103 [sv b,vi u] []=some (.tup [.one (.dc (.raw (.string (eG (lR b u 8))))),.one (.dc (ci 0))],[]):=by
 refine aB rfl ?_;have q1:=Lt (G:=G) (bb:=bb) b;have w:=Fi (G:=G) (bb:=bb);have e1:un (decide (b.length=512)) 10=0:=by rw[decide_eq_true hb];rfl
 rw[e1] at q1;have q2:=aJE (G:=G) (bb:=bb);have q3:=Vw (G:=G) (bb:=bb) u 1 65535;rw[decide_eq_true hu] at q3;have q4:=aBP (G:=G) (bb:=bb);have q5:=Vx (G:=G) (bb:=bb) u (by omega);have s1:=aNb b 40 58 (by omega);have s2:(b.take (58:Int).toNat).drop (40:Int).toNat=zl 18:=by
  rw[<- hz,List.take_drop];rfl
 have e3:eG []=⟨#[]⟩:=rfl;have q6:=Hw (G:=G) (bb:=bb) b (bU u 2) 40 512 hb (by decide) (by rw[aA];decide) (byS u 2);have hD:=Dd b hB;have hE:=aGQ hb (by decide);have hF:=Ox b;simp (disch:=omega) only[go_sem,h103c,q1,w,q2,q3,q4,q5,s2,e3,eI,aP,bJ,aL,hb,hD,hE,hF,Gq,aQb,q6];rw[bG (fun k=>⟨(jk 1 (vi u::jk 6 (.one (.bls 0 0 512 1)::jk 25 (vi k::jk 20 [])))),[yb (lR b u k)]⟩) 8 ?_ ?_]
 ·have hl:=mN (n:=u) hb 8 (by decide);have e:jT (List.take 512 (List.map yC (lR b u 8)))=some ((lR b u 8).map u8):=by rw[vY _ _ (by omega),pG]
  simp (disch:=omega) only[go_sem,h103l0,e,aAA]
 ·rfl
 ·intro k hk;have hl:=mN (n:=u) hb k (by omega);have t1:=Ow (G:=G) (bb:=bb) k (by omega);have a1:=aBQ (G:=G) (bb:=bb) (lR b u k) (64 * k+62) 512 hl (by omega) (by decide);have hc:=jP (s:=lR b u k) (a:=64 * k+62) (by omega);have hBk:aM (lR b u k):=Oy hb hB k (by omega);have p1:=Hw (G:=G) (bb:=bb) (lR b u k) (gC (lR b u k) (64 * k+62)) (42+2 * (k:Int)) 512 hl (by decide) (by rw[hc];omega) (byC hBk _);have n1:(42+2 * (k:Int)).toNat=42+2 * k:=by omega
  rw[n1] at p1;have hl2:(kH (lR b u k) (42+2 * k) (gC (lR b u k) (64 * k+62))).length=512:=by rw[fK (by rw[hc];omega),hl]
  have p2:=Hw (G:=G) (bb:=bb) (kH (lR b u k) (42+2 * k) (gC (lR b u k) (64 * k+62))) (bU u 2) ((64 * k+62:Nat):Int) 512 hl2 (by decide) (by rw[aA];omega) (byS u 2);rw[aQN] at p2;have e:kH (kH (lR b u k) (42+2 * k) (gC (lR b u k) (64 * k+62))) (64 * k+62) (bU u 2)=lR b u (k+1):=rfl;rw[e] at p2;generalize 64 * k+62=m at *;generalize lR b u (k+1)=y at *;generalize kH (lR b u k) (42+2 * k) (gC (lR b u k) m)=x at *;generalize gC (lR b u k) m=c at *;generalize lR b u k=z at *;simp (disch:=omega) only[go_sem,h103l0,t1,a1,p1,p2,q5]
end
section
variable {G:aH} {bb:Bool}
noncomputable def oT(s:List Int):Nat->List Int
 | 0=>[]
 | k+1=>oT s k++(open Classical in if Lg s k then [(k:Int)] else [])
theorem Lu(s:List Int):∀ k,oT s k=[]↔∀ i,i < k->¬ Lg s i
 | 0=>by simp[oT]
 | k+1=>by
  rw[oT,List.append_eq_nil_iff,Lu s k];constructor
  ·rintro⟨h1,h2⟩ i hi;by_cases e:i=k
   ·subst e;intro h;rw[if_pos h] at h2;cases h2
   ·exact h1 i (by omega)
  ·intro h;exact⟨fun i hi=>h i (by omega),by rw[if_neg (h k (by omega))]⟩
theorem De(s:List Int):∀ k,(oT s k).length<=k
 | 0=>aQf _
 | k+1=>by
  rw[oT,aQc];have:=De s k;split<;>simp<;>omega
theorem Oz(s:List Int):oT s 8=[]↔eP s:=by
 rw[Lu];unfold Lg eP;constructor
 ·intro h;refine⟨fun h0=>h 0 (by decide) (.inl h0),fun i hi=>?_⟩
  exact Classical.byContradiction fun h1=>h i hi (.inr h1)
 ·rintro⟨h1,h2⟩ i hi h;rcases h with h | h
  ·exact h1 h
  ·exact h (h2 i hi)
theorem Sa{s:List Int}(hs:s.length=512):gC s 40=[s.getD 40 0,s.getD 41 0]/\dU s=s.getD 40 0+256 * s.getD 41 0:=⟨jS (by omega),Oi (by omega)⟩
theorem aFJ{a b:List Int}(ha:aM a)(hb:aM b):(eG a=eG b)=(a=b):=cW ha hb
set_option maxHeartbeats 4000000 in
theorem aJF(s:List Int)(hs:s.length=512)(hB:aM s):EV G (Tb (bs bb)) 143 [sv s] []=some (vl ((oT s 8).map fun n=>[ci n]),[]):=by
 refine aB rfl ?_;have hD:=Dd s hB;obtain⟨hc,hu⟩:=Sa hs;have q1:EV G (Tb (bs bb)) 145 [vl (bl s),vi 40] []=some (sv (gC s 40),[]):=aGP (G:=G) (bb:=bb) s 40 (by omega) (by omega);have q2:=Fj (G:=G) (bb:=bb) (s.getD 40 0) (s.getD 41 0) (nZ hB 40) (nZ hB 41);rw[<- hc,<- hu] at q2;simp (disch:=omega) only[go_sem,h143c,hD];rw[bG (fun k=>⟨(jk 3 (vl (bl s)::.one (.bld 0 (oT s k).length)::jk 3 (vi k::jk 21 []))),[.arr 0 1 ((oT s k).map fun n=>[ci n])]⟩) 8 ?_ ?_]
 ·have h8:((oT s 8).map fun n=>[ci n]).take (oT s 8).length=(oT s 8).map fun n=>[ci n]:=aQM (by rw[aQb];exact aQf _)
  simp (disch:=omega) only[go_sem,h143l0,aQb,h8,aQf]
 ·rfl
 ·intro k hk;have t1:=Ow (G:=G) (bb:=bb) k (by omega);have a1:=aGP (G:=G) (bb:=bb) s (64 * k+62) (by omega) (by omega);have eT:(eG (gC s (64 * k+62))=eG (gC s 40))=(gC s (64 * k+62)=gC s 40):=aFJ (byC hB _) (byC hB _);have hall:fZ 1 ((oT s k).map fun n=>[ci n])=true:=iV (f:=fun n=>[ci n]) (fun _=>rfl) _
  have hlk:=De s k;have ht:((oT s k).map fun n=>[ci n]).take (oT s k).length=(oT s k).map fun n=>[ci n]:=aQM (by rw[aQb];exact aQf _)
  have hT:oT s (k+1)=oT s k++(open Classical in if Lg s k then [(k:Int)] else []):=rfl
  unfold Lg at hT;rw[hT];generalize oT s k=L at *;generalize dU s=w at *;generalize 64 * k+62=m at *;by_cases c1:w=0
  ·rw[if_pos (.inl c1)];rw[aQL,aQc];simp (disch:=omega) only[go_sem,h143l0,aQb,q1,q2,t1,a1,eq_true c1,hall,ht,aQf,aQo,aQn,aQd,aQe]
  ·by_cases c2:gC s m=gC s 40
   ·rw[if_neg (by rintro (h | h)<;>contradiction),aQ6]
    rw[eq_true c2] at eT;simp (disch:=omega) only[go_sem,h143l0,aQb,q1,q2,t1,a1,c1,eT,hall,ht,aQf]
   ·rw[if_pos (.inr c2)];rw[eq_false c2] at eT;rw[aQL,aQc];simp (disch:=omega) only[go_sem,h143l0,aQb,q1,q2,t1,a1,c1,eT,hall,ht,aQf,aQo,aQn,aQd,aQe]
theorem O0{s:List Int}(hB:aM s):∀ k,aM (zF s k)
 | 0=>hB
 | k+1=>aFI (O0 hB k) (byC (O0 hB k) _)
abbrev aGR(s:List Int)(u e:Int):AV:=.tup [.one (.dc (.raw (.string (eG s)))),.one (.dc (ci u)),.one (.dc (ci e))]
set_option maxHeartbeats 4000000 in
open Classical in
theorem aJG(s:List Int)(hs:s.length=512)(hB:aM s):EV G (Tb (bs bb)) 96 [sv s] []=some (if eP s then aGR (dN s) (dU s) 0 else aGR [] 0 31,[]):=by
 refine aB rfl ?_;have q1:=Lt (G:=G) (bb:=bb) s;have e1:un (decide (s.length=512)) 10=0:=by rw[decide_eq_true hs];rfl
 rw[e1] at q1;have q2:=aJF (G:=G) (bb:=bb) s hs hB;have ht:=Oz s;have hlT:=De s 8;have hD:=Dd s hB;have hE:=aGQ hs (by decide);have hF:=Ox s;have e3:eG []=⟨#[]⟩:=rfl;generalize oT s 8=L at *;by_cases c:eP s
 ·rw[if_pos c];have hL:=ht.2 c;subst hL;obtain⟨hc,hu⟩:=Sa hs;have q3:EV G (Tb (bs bb)) 145 [.one (.bls 0 0 512 1),vi 40] [yb s]=some (sv (gC s 40),[yb s]):=aBQ (G:=G) (bb:=bb) s 40 512 hs (by omega) (by decide);have q4:=Fj (G:=G) (bb:=bb) (s.getD 40 0) (s.getD 41 0) (nZ hB 40) (nZ hB 41);rw[<- hc,<- hu] at q4;generalize dU s=w at *;simp (disch:=omega) only[go_sem,h96c,q1,q2,aQn,aQe,aL,hs,hD,hE,hF,Gq,aQb,q3,q4];rw[bG (fun k=>⟨(jk 6 (.one (.bls 0 0 512 1)::vi w::jk 15 (vi k::jk 17 []))),[yb (zF s k)]⟩) 8 ?_ ?_]
  ·have hl:=(Cz hs 8 (by decide)).1;have hl2:=nY hs;have hl3:(zF s 8).length=512:=hl;have ec:cN (List.map yC (zF s 8)) 40 (List.replicate 18 (aR.dc (DC.raw (Value.int .u8 0))))=List.map yC (kH (zF s 8) 40 (zl 18)):=aJD (zF s 8) 40 18;have ed:kH (zF s 8) 40 (zl 18)=dN s:=rfl;rw[ed] at ec;have e:jT (List.take 512 (List.map yC (dN s)))=some ((dN s).map u8):=by rw[vY _ _ (by omega),pG]
   simp (disch:=omega) only[go_sem,h96l0,aQb,hl3,hl2,Int.reduceToNat,ec,e,aAA]
  ·rfl
  ·intro k hk;have hl:=(Cz hs k (by omega)).1;have t1:=Ow (G:=G) (bb:=bb) k (by omega);have a1:=aBQ (G:=G) (bb:=bb) (zF s k) (42+2 * k) 512 hl (by omega) (by decide);have hc2:=jP (s:=zF s k) (a:=42+2 * k) (by omega);have p1:=Hw (G:=G) (bb:=bb) (zF s k) (gC (zF s k) (42+2 * k)) ((64 * k+62:Nat):Int) 512 hl (by decide) (by rw[hc2];omega) (byC (O0 hB k) _);rw[aQN] at p1;have e:kH (zF s k) (64 * k+62) (gC (zF s k) (42+2 * k))=zF s (k+1):=rfl;rw[e] at p1;have n1:((42+2 * k:Nat):Int)=42+2 * (k:Int):=by omega
   rw[n1] at a1;generalize gC (zF s k) (42+2 * k)=c at *;generalize 64 * k+62=m at *;generalize zF s (k+1)=y at *;generalize zF s k=z at *;simp (disch:=omega) only[go_sem,h96l0,t1,a1,p1]
 ·rw[if_neg c];have hL:0 < (L.length:Int):=by
   have:L≠[]:=fun h=>c (ht.1 h)
   have:=List.length_pos_iff.2 this;omega
  simp (disch:=omega) only[go_sem,h96c,q1,q2,aQb,eq_true hL];rfl
end
section
variable {G:aH} {bb:Bool}
structure G9 (G:aH):Prop where
 sq:G 0=some [ci 16,ci 2]
 li:G 1=some [ci 18,ci 2]
 fl:G 2=some [ci 22,ci 2]
 ba:G 3=some [ci 32,ci 4]
 bo:G 4=some [ci 36,ci 2]
 nx:G 5=some [ci 38,ci 2]
 ls:G 6=some [ci 8,ci 4]
 fi:G 8=some [ci 20,ci 2]
 en:G 9=some [ci 24,ci 4]
 si:G 10=some [ci 28,ci 4]
abbrev D3(a k:Int):AV:=.agg [.dc (ci a),.dc (ci k)]
theorem aJH(l:List Int)(a k:Nat)(n:Int)(N:Nat)(hN:l.length=N)(h:a+k<=N)(hl:N<=1000000)(hn:-9223372036854775808<=n/\n<=9223372036854775807):
  EV G (Tb (bs bb)) 149 [D3 a k,.one (.bls 0 0 N 1),vi n] [yb l]=some (.tup [],[yb (aT l a n k)]):=by
 refine aB rfl ?_;simp (disch:=omega) only[go_sem,h149c];rw[bG (fun j=>⟨(jk 1 (.one (.bls 0 0 N 1)::vi (B0 n j)::.one (.ptr 1 0)::jk 4 (vi k::vi j::jk 13 []))),[yb (aT l a n j),.box [.dc (ci a),.dc (ci k)]]⟩) k ?_ ?_]
 ·simp (disch:=omega) only[go_sem,h149l0]
 ·rfl
 ·intro j hj;have h1:=cR l a n j;have h2:=Nj n hn j;have h3:=aAL (aT l a n j) (a+j) (B0 n j % 256) (by omega);simp (disch:=omega) only[go_sem,h149l0,aQb,h1,wu8,Int.reduceToNat,Int.reducePow,Aa,B0,aT,h3]
theorem lS(l:List Int)(a k:Nat)(n:Int)(hN:l.length=512)(h:a+k<=512)(hn:-9223372036854775808<=n/\n<=9223372036854775807):
  EV G (Tb (bs bb)) 149 [D3 a k,.one (.bls 0 0 512 1),vi n] [yb l]=some (.tup [],[yb (aT l a n k)]):=aJH l a k n 512 hN h (by decide) hn
structure aJI (r:bZ):Prop where
 sq:-9223372036854775808<=r.sq/\r.sq<=9223372036854775807
 li:-9223372036854775808<=r.li/\r.li<=9223372036854775807
 fl:-9223372036854775808<=r.fl/\r.fl<=9223372036854775807
 br:-9223372036854775808<=r.br/\r.br<=9223372036854775807
 bq:-9223372036854775808<=r.bq/\r.bq<=9223372036854775807
 nx:-9223372036854775808<=r.nx/\r.nx<=9223372036854775807
 ls:-9223372036854775808<=r.ls/\r.ls<=9223372036854775807
theorem bZ.Ok.n9{r:bZ}(hO:r.Ok):aJI r:=by
 obtain⟨n1,n2,n3,n4,n5⟩:=hO.num;obtain⟨n6,n7⟩:=hO.base;exact⟨by omega,by omega,by omega,by omega,by omega,by omega,by omega⟩
set_option maxHeartbeats 8000000 in
theorem Sb(hG:G9 G)(r:bZ)(at':List Int)(hN:aJI r)(ha:at'.length<=444)(hB:aM at'):EV G (Tb (bs bb)) 99 [r.v,sv at'] []=some (sv (gS r (68+(at'.length:Int)) at'),[]):=by
 refine aB rfl ?_;obtain⟨n1,n2,n3,n4,n5,n6,n7⟩:=hN;have hp:=aJr r at' ha;rw[<- hp];unfold pbl;have l0:(kH (zl 512) 0 [70,73,76,69]).length=512:=by rw[fK (by rw[bD];decide),bD]
 have e0:dS (70::73::76::69::List.take 508 [])++List.drop (dS (70::73::76::69::List.take 508 [])).length (List.map yC (zl 512))=(kH (zl 512) 0 [70,73,76,69]).map yC:=by
  have h:=uB (zl 512) [70,73,76,69] 0 4 (fun x hx=>by simp at hx;omega) (by decide)
  rw[Qr] at h;exact h
 have r0:List.replicate 512 (aR.dc (DC.raw (Value.int .u8 0)))=(zl 512).map yC:=G0 512;generalize kH (zl 512) 0 [70,73,76,69]=b0 at *;have p1:EV G (Tb (bs bb)) 149 [D3 8 4,.one (.bls 0 0 512 1),vi r.ls] [yb b0]=some (.tup [],[yb (aT b0 8 r.ls 4)]):=lS (G:=G) (bb:=bb) b0 8 4 r.ls l0 (by decide) (by omega);have l1:(aT b0 8 r.ls 4).length=512:=by rw[cR,l0]
 generalize aT b0 8 r.ls 4=b1 at *;have p2:EV G (Tb (bs bb)) 149 [D3 16 2,.one (.bls 0 0 512 1),vi r.sq] [yb b1]=some (.tup [],[yb (aT b1 16 r.sq 2)]):=lS (G:=G) (bb:=bb) b1 16 2 r.sq l1 (by decide) (by omega);have l2:(aT b1 16 r.sq 2).length=512:=by rw[cR,l1]
 generalize aT b1 16 r.sq 2=b2 at *;have p3:EV G (Tb (bs bb)) 149 [D3 18 2,.one (.bls 0 0 512 1),vi r.li] [yb b2]=some (.tup [],[yb (aT b2 18 r.li 2)]):=lS (G:=G) (bb:=bb) b2 18 2 r.li l2 (by decide) (by omega);have l3:(aT b2 18 r.li 2).length=512:=by rw[cR,l2]
 generalize aT b2 18 r.li 2=b3 at *;have p4:EV G (Tb (bs bb)) 149 [D3 20 2,.one (.bls 0 0 512 1),vi 64] [yb b3]=some (.tup [],[yb (aT b3 20 64 2)]):=lS (G:=G) (bb:=bb) b3 20 2 64 l3 (by decide) (by omega);have l4:(aT b3 20 64 2).length=512:=by rw[cR,l3]
 generalize aT b3 20 64 2=b4 at *;have p5:EV G (Tb (bs bb)) 149 [D3 22 2,.one (.bls 0 0 512 1),vi r.fl] [yb b4]=some (.tup [],[yb (aT b4 22 r.fl 2)]):=lS (G:=G) (bb:=bb) b4 22 2 r.fl l4 (by decide) (by omega);have l5:(aT b4 22 r.fl 2).length=512:=by rw[cR,l4]
 generalize aT b4 22 r.fl 2=b5 at *;have p6:EV G (Tb (bs bb)) 149 [D3 24 4,.one (.bls 0 0 512 1),vi (68+(at'.length:Int))] [yb b5]=some (.tup [],[yb (aT b5 24 (68+(at'.length:Int)) 4)]):=lS (G:=G) (bb:=bb) b5 24 4 (68+(at'.length:Int)) l5 (by decide) (by omega);have l6:(aT b5 24 (68+(at'.length:Int)) 4).length=512:=by rw[cR,l5]
 generalize aT b5 24 (68+(at'.length:Int)) 4=b6 at *;have p7:EV G (Tb (bs bb)) 149 [D3 28 4,.one (.bls 0 0 512 1),vi 512] [yb b6]=some (.tup [],[yb (aT b6 28 512 4)]):=lS (G:=G) (bb:=bb) b6 28 4 512 l6 (by decide) (by omega);have l7:(aT b6 28 512 4).length=512:=by rw[cR,l6]
 generalize aT b6 28 512 4=b7 at *;have p8:EV G (Tb (bs bb)) 149 [D3 32 4,.one (.bls 0 0 512 1),vi r.br] [yb b7]=some (.tup [],[yb (aT b7 32 r.br 4)]):=lS (G:=G) (bb:=bb) b7 32 4 r.br l7 (by decide) (by omega);have l8:(aT b7 32 r.br 4).length=512:=by rw[cR,l7]
 generalize aT b7 32 r.br 4=b8 at *;have p9:EV G (Tb (bs bb)) 149 [D3 36 2,.one (.bls 0 0 512 1),vi r.bq] [yb b8]=some (.tup [],[yb (aT b8 36 r.bq 2)]):=lS (G:=G) (bb:=bb) b8 36 2 r.bq l8 (by decide) (by omega);have l9:(aT b8 36 r.bq 2).length=512:=by rw[cR,l8]
 generalize aT b8 36 r.bq 2=b9 at *;have p10:EV G (Tb (bs bb)) 149 [D3 38 2,.one (.bls 0 0 512 1),vi r.nx] [yb b9]=some (.tup [],[yb (aT b9 38 r.nx 2)]):=lS (G:=G) (bb:=bb) b9 38 2 r.nx l9 (by decide) (by omega);have l10:(aT b9 38 r.nx 2).length=512:=by rw[cR,l9]
 generalize aT b9 38 r.nx 2=b10 at *;have ef:(eG at':ByteArray)++⟨#[255,255,255,255]⟩=eG (at'++pP):=by
  have:=zZ at' pP;exact this
 have eb:eK .add (sv at') (.one (.dc (.raw (.string ⟨#[255,255,255,255]⟩))))=some (sv (at'++pP)):=by
  rw[vN (by rw[aL];show at'.length+4<=_;omega),ef]
 have hBf:aM (at'++pP):=fun x hx=>by
  rcases List.mem_append.1 hx with hx | hx
  ·exact hB x hx
  ·exact Ak x hx
 have lf:(at'++pP).length=at'.length+4:=by rw[aQc];rfl
 have ec:=uB b10 (at'++pP) 64 448 hBf (by omega);have lc:(kH b10 64 (at'++pP)).length=512:=by rw[fK (by rw[lf,l10];omega),l10]
 have ez:jT (List.take 512 (List.map yC (kH b10 64 (at'++pP))))=some ((kH b10 64 (at'++pP)).map u8):=by rw[vY _ _ (by omega),pG]
 have e68:(64:Int)+(at'.length:Int)+4=68+(at'.length:Int):=by omega
 generalize kH b10 64 (at'++pP)=z at *;have g1:=hG.sq;have g2:=hG.li;have g3:=hG.fl;have g4:=hG.ba;have g5:=hG.bo;have g6:=hG.nx;have g7:=hG.ls;have g8:=hG.fi;have g9:=hG.en;have g10:=hG.si;simp (disch:=omega) only[go_sem,h99c,aQb,bD,r0,e0,p1,p2,p3,p4,p5,p6,p7,p8,p9,p10,g1,g2,g3,g4,g5,g6,g7,g8,g9,g10,l0,l1,l2,l3,l4,l5,l6,l7,l8,l9,l10,eb,aL,lf,ec,lc,ez,aAA,e68,Int.reduceToNat,cI]
end
section
variable {G:aH} {bb:Bool}
end
section
variable {G:aH} {bb:Bool}
theorem aO9(l:List aE)(k:Nat)(hk:k < l.length):((l.take (k+1)).map eQ).flatten=((l.take k).map eQ).flatten++eQ l[k]:=by
 rw[aRb hk,aQL,List.flatten_append];simp
abbrev bkv(p:List Int × Int):AV:=.tup [.one (.dc (.raw (.string (eG p.1)))),.one (.dc (ci p.2))]
abbrev bZ.u(r:bZ)(u:Int):AV:=.agg (r.c++[.dc (ci u)])
set_option maxHeartbeats 8000000 in
theorem Lv(hG:G9 G)(r:bZ)(hW:r.W)(u:Int):EV G (Tb (iM bb)) 41 [r.u u] []=some (bkv (C2 r u),[]):=by
 refine aB rfl ?_;have q1:=kG (G:=G) (bb:=bb) r hW;have w:=mY (G:=G) (bb:=bb) u 1 65535;have un9:=lM (G:=G) (bb:=bb);have q3:=wQ (G:=G) (bb:=bb);unfold C2 Vr;by_cases c:aS [dG r,un (decide (1<=u/\u<=65535)) 2]=0
 ·rw[if_neg (not_not_intro c)];obtain⟨z1,z2⟩:=Hp c;have hu:1<=u/\u<=65535:=of_decide_eq_true (Hq (by decide) z2);have hO:=kX z1;have hln:=hO.ln;have hat:=wN hO;have hBa:aM (fF r):=Fg fun p hp=>by
   obtain⟨a,ha,rfl⟩:=List.mem_map.1 hp;exact (Hr (hW.at' a ha) (hO.errs.1 a ha)).1
  generalize dG r=re at *;have e0:(eG []:ByteArray)=⟨#[]⟩:=rfl;have qb:=up (Sb (G:=G) (bb:=bb) hG r (fF r) hO.n9 (by omega) hBa);have hbl:=qH r (68+((fF r).length:Int)) (fF r) (by omega);have hby:=wO r (68+((fF r).length:Int)) (fF r) hBa;have hz:((gS r (68+((fF r).length:Int)) (fF r)).drop 40).take 18=zl 18:=by
   refine uH (by rw[aQj,aQr,hbl,bD];decide) (fun j hj=>?_)
   rw[aQj,aQr,hbl] at hj;rw[uI _ _ _ _ (by omega),Rs,Rv _ _ _ _ (by omega) (by omega)]
  have qp:=up (Vy (G:=G) (bb:=bb) _ u hbl hby hz hu);unfold iO;generalize gS r (68+((fF r).length:Int)) (fF r)=b at *;generalize lR b u 8=p at *;have hE:fF r=(r.ats.map eQ).flatten:=rfl;rw[hE] at qb;clear hE hat hBa;simp (disch:=omega) only[go_sem,h41c,q1,w,un9,q3,eq_true c,aQb];rw[bG (fun k=>⟨(jk 1 (.one (.ptr 0 0)::jk 3 (sv ((r.ats.take k).map eQ).flatten::jk 18 (vl (r.ats.map aE.e)::vi r.ats.length::vi k::jk 21 [])))),[.box (r.c++[.dc (ci u)]),.arr 0 1 [[ci re],[ci (un (decide (1<=u/\u<=65535)) 2)]]]⟩) r.ats.length ?_ ?_]
  ·simp (disch:=omega) only[go_sem,h41l0,aQR,qb,qp,aQy,aQv]
  ·rfl
  ·intro k hk;have q:=up (E1 (G:=G) (bb:=bb) r.ats[k] (hW.at' _ (aQm hk)));rw[aO9 r.ats k hk];have b1:=wR (r.ats.take k) (aBE hW.at' k);have b2:=Ff (r.ats.take k);have b3:=pK (hW.at' _ (aQm hk));rw[aQj] at b1;have b4:(((r.ats.take k).map eQ).flatten.length:Int)+(eQ r.ats[k]).length<=9223372036854775807:=by omega
   clear b1 b2 b3;generalize ((r.ats.take k).map eQ).flatten=s at *;have eb:eK .add (sv s) (sv (eQ r.ats[k]))=some (sv (s++eQ r.ats[k])):=by
    rw[vN (by rw[aL,aL];omega),zZ]
   simp (disch:=omega) only[go_sem,h41l0,aQb,ixA,aE.e,q,eb,aQy,aQv]
 ·rw[if_pos c];generalize dG r=re at *;simp (disch:=omega) only[go_sem,h41c,q1,w,un9,q3,c];rfl
end
end Go.Proofs.YtcplecjhmnblpaaGreatDoor
