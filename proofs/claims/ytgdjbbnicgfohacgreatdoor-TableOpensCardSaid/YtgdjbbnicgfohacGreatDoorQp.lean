/- Part. Conditions: none. -/
import Derived.Test.YtgdjbbnicgfohacGreatDoorPp
import Derived.Test.YtgdjbbnicgfohacGreatDoorPq
import Derived.Test.YtgdjbbnicgfohacGreatDoorPa
import Derived.Test.YtgdjbbnicgfohacGreatDoorSu
import Derived.Test.YtgdjbbnicgfohacGreatDoorTy
import Derived.Test.YtgdjbbnicgfohacGreatDoorPt
import Derived.Test.YtgdjbbnicgfohacGreatDoorSg
namespace Go.Proofs.YtgdjbbnicgfohacGreatDoor
set_option maxHeartbeats 32000000
set_option linter.unusedSimpArgs false
set_option linter.unusedVariables false
set_option maxRecDepth 4000
section
variable {G:aF}{B:aO}
def qA(l b:L Int)(a c:Nat):L Int:=iW (iW l (a*256) (b.take 256)) (c*256) (b.drop 256)
def aMI(l b:L Int)(a c:Nat):Nat->L Int
 |0=>l
 |1=>iW l (a*256) (b.take 256)
 |_=>qA l b a c
theorem Vg(l b:L Int)(N a c:Nat)(d:l.length=N)(i:b.length=512)(h:aK b)(h0:a*256+256<=N)(q:c*256+256<=N)(j:N<=200000):EV G (Tb B) 49 [.one (.bls 0 0 N 1),sv b,.agg [.dc (ci a),.dc (ci c)]] [yb l]=some (.tup [],[yb (qA l b a c)]):=by
 have r:=Qj (G:=G) (B:=B) l N a d h0 j;have m:(iW l (a*256) (b.take 256)).length=N:=by rw[cX (by rw[aZf];omega),d]
 have s:=Qj (G:=G) (B:=B) (iW l (a*256) (b.take 256)) N c m q j;have n:aK (b.take 256):=fun x e=>h x (aZA e)
 have o:aK (b.drop 256):=fun x e=>h x (aZL e)
 have g:=pH l (b.take 256) (a*256) 256 n (by rw[aZf];omega);rw[aZZ,List.take_take,Nat.min_self] at g;have p:=pH (iW l (a*256) (b.take 256)) (b.drop 256) (c*256) 256 o (by rw[aZn];omega);have f:b.take 512=b:=aZM (by omega);have t:(256:Int).toNat=256:=rfl;refine aB rfl ?_;simp (maxSteps:=2000000) (disch:=omega) only[go_sem,h49c];rw[aR (fun k=>⟨(.one (.bls 0 0 N 1)::sv b::jk 6 (.agg [.dc (ci (a:Nat)),.dc (ci (c:Nat))]::vi k::jk 12 [])),[yb (aMI l b a c k),.box [.dc (ci (a:Nat)),.dc (ci (c:Nat))]]⟩) 2 ?_ ?_]
 simp (maxSteps:=2000000) (disch:=omega) only[go_sem,h49l0,aMI];rfl;intro k u;rcases (show k=0\/k=1 by omega) with rfl|rfl
 simp (maxSteps:=2000000) (disch:=omega) only[go_sem,h49l0,aMI,nS,qU,r,aC,i,aZa,d,Int.zero_mul,Int.reduceMul,Int.reduceAdd,f,g,jJ];simp (maxSteps:=2000000) (disch:=omega) only[go_sem,h49l0,aMI,qA,nS,sW,s,aC,i,aZa,d,m,Int.zero_mul,Int.reduceMul,Int.reduceAdd,f,t,p,jJ]
end
section
variable {G:aF}{B:aO}
def G6(s:L Int)(n:Nat):L Int:=(s.drop (n*256)).take 256
def Bm(s:L Int)(a b:Nat):L Int:=G6 s a++G6 s b
abbrev pr2(a b:Nat):AV:=.agg [.dc (ci (a:Nat)),.dc (ci (b:Nat))]
theorem Vh{s:L Int}(h:aK s)(n:Nat):aK (G6 s n):=fun x a=>h x (aZL (aZA a))
theorem kS{s:L Int}(h:aK s)(a b:Nat):aK (Bm s a b):=fun x c=>by
 rcases bAv.1 c with q|q;exact Vh h a x q;exact Vh h b x q
theorem Ba{s:L Int}{n:Nat}(h:n*256+256<=s.length):(G6 s n).length=256:=by
 rw[G6,aZf,aZn];omega
theorem H4{s:L Int}{a b:Nat}(h:a*256+256<=s.length)(c:b*256+256<=s.length):(Bm s a b).length=512:=by
 rw[Bm,aZb,Ba h,Ba c]
theorem aA8(s:L Int)(n:Nat):List.take 256 (List.drop (n*256) (s.map yC))=(G6 s n).map yC:=by rw[G6,aZZ,bAq]
def bkH(s:L Int)(a b:Nat):Nat->L Int
 |0=>[]
 |1=>G6 s a
 |_=>Bm s a b
theorem Ef(x:Bt)(d e f:DC)(s:L Int)(p:aK s)(N a b:Nat)(c:s.length=N)(h0:a*256+256<=N)(j:b*256+256<=N)(g:N<=200000):EV G (Tb B) 23 [.one (.ptr 0 0),pr2 a b] [sX x d e N f,yb s]=some (sv (Bm s a b),[sX x d e N f,yb s]):=by
 have m:=Qj (G:=G) (B:=B) s N a c h0 g;have o:=Qj (G:=G) (B:=B) s N b c j g;have h:jM (List.take 256 (List.drop (a*256) (s.map yC)))=some ((G6 s a).map u8):=by rw[aA8,lI]
 have i:jM (List.take 256 (List.drop (b*256) (s.map yC)))=some ((G6 s b).map u8):=by rw[aA8,lI]
 have r:=Ba (s:=s) (n:=a) (by omega);have t:=Ba (s:=s) (n:=b) (by omega);have l:dB ([]:L Int)=⟨#[]⟩:=rfl;refine aB rfl ?_;simp (maxSteps:=2000000) (disch:=omega) only[go_sem,h23c,<- l];rw[aR (fun k=>⟨(.one (.ptr 0 0)::jk 4 (sv (bkH s a b k)::jk 2 (pr2 a b::vi k::jk 13 []))),[sX x d e N f,yb s,.box [.dc (ci (a:Nat)),.dc (ci (b:Nat))]]⟩) 2 ?_ ?_]
 simp (maxSteps:=2000000) (disch:=omega) only[go_sem,h23l0,bkH];simp (maxSteps:=2000000) (disch:=omega) only[go_sem,bkH];intro k q;rcases (show k=0\/k=1 by omega) with rfl|rfl
 simp (maxSteps:=2000000) (disch:=first|omega|(simp only[aZb,aZc,aZd,aZa,aA,aZh,aZf,aZn,aC,aS]<;>omega)|fail) only[go_sem,h23l0,bkH,nS,qU,m,c,h,S7,aZs,Int.reduceAdd]
 simp (maxSteps:=2000000) (disch:=first|omega|(simp only[aZb,aZc,aZd,aZa,aA,aZh,aZf,aZn,aC,aS]<;>omega)|fail) only[go_sem,h23l0,bkH,Bm,nS,sW,o,c,i,S7,Int.reduceAdd]
theorem aVI{α:Type}(a b:α):[[a],[b]].flatten=[a,b]:=rfl
abbrev prI(a b:Int):AV:=.agg [.dc (ci a),.dc (ci b)]
theorem aIb(a:L Int)(n:Nat)(h:n+2<=a.length):a.drop n=a.getD n 0::a.getD (n+1) 0::a.drop (n+2):=by
 rw[aZ5 (by omega),aZ5 (by omega)];simp[show n<a.length by omega,show n+1<a.length by omega]
theorem aIc(x:Bt)(c d:DC)(N:Nat)(a:L Int)(s:L Int)(n:Nat)(h:2*n+2<=a.length)(i:a.length<=1000000):EV G (Tb B) 22 [.one (.ptr 0 0),vi n] [sX x c d N (.slc (a.map fun n=>[ci n])),yb s]=some (prI (a.getD (2*n) 0) (a.getD (2*n+1) 0),[sX x c d N (.slc (a.map fun n=>[ci n])),yb s]):=by
 have e:=aIb a (2*n) h;have w:(2:Int)*(n:Int)=((2*n:Nat):Int):=by omega
 have g:(a.map fun n=>[ci n]).length=a.length:=by rw[aZa]
 have f:List.drop (2*n) (a.map fun n=>[ci n])=[ci (a.getD (2*n) 0)]::[ci (a.getD (2*n+1) 0)]::(a.drop (2*n+2)).map fun n=>[ci n]:=by rw[<- bAq,e];rfl
 have b:((a.map fun n=>[DC.raw (Value.int .i64 n)]).all fun e=>decide (e.length=1))=true:=by simp
 generalize j:2*n=m at *;generalize a.getD m 0=A at *;generalize a.getD (m+1) 0=C at *;generalize (a.drop (m+2)).map (fun n=>[ci n])=R at *
 refine aB rfl ?_;simp (maxSteps:=2000000) (disch:=omega) only[go_sem,h22c,w,g,aZN,f,b,if_true,aBy,aVI]
theorem Gg(x:Bt)(a b c:DC)(N:Nat)(s:L Int)(n:Nat)(h:n<=1000)(d:0<=x.mi/\x.mi<=1000):EV G (Tb B) 24 [.one (.ptr 0 0),vi n] [sX x a b N c,yb s]=some (prI (x.mi+2*n) (x.mi+2*n+1),[sX x a b N c,yb s]):=by
 have q:=K2 (G:=G) (B:=B) (x.mi+2*n) (by omega);refine aB rfl ?_;simp (maxSteps:=2000000) (disch:=omega) only[go_sem,h24c,q]
end
section
variable {G:aF}{bb:Bool}
end
section
variable {G:aF}{bb:Bool}
theorem aXO(l:L aJ)(k:Nat)(a:k<l.length):((l.take (k+1)).map gV).flatten=((l.take k).map gV).flatten++gV l[k]:=by
 rw[bAa a,aZR,List.flatten_append];simp
abbrev bkv(p:L Int×Int):AV:=.tup [.one (.dc (.raw (.string (dB p.1)))),.one (.dc (ci p.2))]
abbrev cL.u(r:cL)(u:Int):AV:=.agg (r.c++[.dc (ci u)])
theorem aId(F:G9 G)(r:cL)(g:r.W)(u:Int):EV G (Tb (lJ bb)) 110 [r.u u] []=some (bkv (Ge r u),[]):=by
 refine aB rfl ?_;have x:=Af (G:=G) (bb:=bb) r g;have w:=rT (G:=G) (bb:=bb) u 1 65535;have h:=rU (G:=G) (bb:=bb);have y:=Ux (G:=G) (bb:=bb);unfold Ge aL2;by_cases c:aT [gW r,un (decide (1<=u/\u<=65535)) 2]=0
 rw[if_neg (not_not_intro c)];obtain⟨M,N⟩:=aL3 c;have J:1<=u/\u<=65535:=of_decide_eq_true (aHy (by decide) N);have i:=D6 M;have I:=i.ln;have l:=Un i;have d:aK (jY r):=Nu fun p hp=>by
  obtain⟨a,v,rfl⟩:=List.mem_map.1 hp;exact (P9 (g.at' a v) (i.errs.1 a v)).1
 generalize gW r=A at *;have P:(dB []:ByteArray)=⟨#[]⟩:=rfl;have z:=up (aA0 (G:=G) (bb:=bb) F r (jY r) i.n9 (by omega) d);have f:=A3 r (68+((jY r).length:Int)) (jY r) (by omega);have m:=D7 r (68+((jY r).length:Int)) (jY r) d;have K:((iK r (68+((jY r).length:Int)) (jY r)).drop 40).take 18=zl 18:=by
  refine Fa (by rw[aZf,aZn,f,aS];decide) (fun j H=>?_)
  rw[aZf,aZn,f] at H;rw[Fb _ _ _ _ (by omega),aAI,aHz _ _ _ _ (by omega) (by omega)]
 have L:=up (aDa (G:=G) (bb:=bb) _ u f m K J);unfold oH;generalize iK r (68+((jY r).length:Int)) (jY r)=b at *;generalize mY b u 8=p at *;have t:jY r=(r.ats.map gV).flatten:=rfl;rw[t] at z;clear t l d;simp (disch:=omega) only[go_sem,h110c,x,w,h,y,eq_true c,aZa];rw[aR (fun k=>⟨(jk 1 (.one (.ptr 0 0)::jk 3 (sv ((r.ats.take k).map gV).flatten::jk 18 (vl (r.ats.map aJ.e)::vi r.ats.length::vi k::jk 21 [])))),[.box (r.c++[.dc (ci u)]),.arr 0 1 [[ci A],[ci (un (decide (1<=u/\u<=65535)) 2)]]]⟩) r.ats.length ?_ ?_]
 simp (disch:=omega) only[go_sem,h110l0,aZT,z,L,aZx,aZs];rfl;intro k n;have q:=up (Nh (G:=G) (bb:=bb) r.ats[k] (g.at' _ (aZk n)));rw[aXO r.ats k n];have o:=Kt (r.ats.take k) (aHG g.at' k);have C:=Nt (r.ats.take k);have D:=rO (g.at' _ (aZk n));rw[aZf] at o;have O:(((r.ats.take k).map gV).flatten.length:Int)+(gV r.ats[k]).length<=9223372036854775807:=by omega
 clear o C D;generalize ((r.ats.take k).map gV).flatten=s at *;have E:fM .add (sv s) (sv (gV r.ats[k]))=some (sv (s++gV r.ats[k])):=by
  rw[De (by rw[aC,aC];omega),Ho]
 simp (disch:=omega) only[go_sem,h110l0,aZa,ixA,aJ.e,q,E,aZx,aZs];rw[if_pos c];generalize gW r=A at *;simp (disch:=omega) only[go_sem,h110c,x,w,h,y,c];rfl
end
section
variable {G:aF}{bb:Bool}
abbrev dcv(p:cL×Int×Int):AV:=.tup [.agg (p.1.c++[.dc (ci p.2.1)]),.one (.dc (ci p.2.2))]
end
section
variable {G:aF}{bb:Bool}
theorem K3:∀a:L (L Int),(∀p∈a,(bL p).2=0)->iG a=(a.map fun p=>(bL p).1,0)
 |[],_=>rfl
 | p::t,h=>by
  have b:=h p aZu;have d:=K3 t (fun q c=>h q (aZC _ c))
  rw[iG,if_neg (not_not_intro b),d];simp
theorem K4:∀(a:L (L Int)) (k:Nat),k<a.length->(∀j,j<k->(bL (a.getD j [])).2=0)->(bL (a.getD k [])).2≠0->iG a=([],(bL (a.getD k [])).2)
 |[],k,c,_,_=>by simp at c
 | p::t,0,_,_,h=>by
  have b:(bL p).2≠0:=h;rw[iG,if_pos b];rfl
 | p::t,k+1,c,d,h=>by
  have h0:(bL p).2=0:=d 0 (by omega);have f:=K4 t k (by simpa using c) (fun j e=>d (j+1) (by omega)) h
  have b:(bL (t.getD k [])).2≠0:=h;rw[iG,if_neg (not_not_intro h0),f,if_pos b];rfl
theorem Bn{l:L Int}(b:aK l)(a k:Nat)(h:a+k<=l.length)(c:k<=4):0<=gL l a k/\gL l a k<=4294967295:=by
 have d:=kP b a k c;have:(256:Int) ^ k<=256 ^ 4:=by
  rcases k with _|_|_|_|_|k<;>first|decide|omega
 omega
theorem aRa{o:L Int}(d:o.length=512)(a:aK o)(l:L aJ):aQD (dS o l):=by
 have b:=Bn a 16 2 (by omega) (by omega);have c:=Bn a 18 2 (by omega) (by omega);have h3:=Bn a 22 2 (by omega) (by omega);have h4:=Bn a 32 4 (by omega) (by omega);have h5:=Bn a 36 2 (by omega) (by omega);have h6:=Bn a 38 2 (by omega) (by omega);have h7:=Bn a 8 4 (by omega) (by omega);refine⟨?_,?_,?_,?_,?_,?_,?_⟩<;>simp only[dS]<;>omega
abbrev r9(o:L Int):L aU:=[.dc (ci (gL o 16 2)),.dc (ci (gL o 18 2)),.dc (ci (gL o 22 2)),.dc (ci (gL o 32 4)),.dc (ci (gL o 36 2)),.dc (ci (gL o 38 2)),.dc (ci (gL o 8 4))]
abbrev z9:L aU:=[.dc (ci 0),.dc (ci 0),.dc (ci 0),.dc (ci 0),.dc (ci 0),.dc (ci 0),.dc (ci 0),.dc (.raw (.slice none 0 0)),.dc (ci 0)]
noncomputable def Vi(o:L Int)(u:Int)(d:L aJ×Int):cL×Int×Int:=if d.2≠0 then (.nil,0,d.2) else if gW (dS o d.1)≠0 then (.nil,0,gW (dS o d.1)) else (dS o d.1,u,0)
def Ql:HC:=sB (sB (sB (sB (sB (sB (sB (sB h88c)))))))
abbrev aRb(e:Int):AV:=.tup [.agg [.dc (ci 0),.dc (ci 0),.dc (ci 0),.dc (ci 0),.dc (ci 0),.dc (ci 0),.dc (ci 0),.dc (.slc []),.dc (ci 0)],.one (.dc (ci e))]
theorem qV(e:Int):dcv (.nil,0,e)=aRb e:=rfl
theorem aRc(o:List Int)(u:Int)(a:List (List Int))(J:a.length<=1000)(b:∀k (g:k<a.length),EV G (Tb (lM G bb)) 130 [sv a[k]] []=some (rtv (bL a[k]),[]))(l:EV G (Tb (lM G bb)) 115 [(dS o (iG a).1).v] []=some (vi (gW (dS o (iG a).1)),[])) {st:AS}(h0:st=⟨(jk 2 (.one (.ptr 0 0)::jk 2 (vi u::jk 1 (.one (.ptr 1 0)::jk 63 (vl (a.map pQ)::vi a.length::vi (0:Nat)::jk 28 []))))),[.box z9,.box (r9 o++[.bld 2 0]),.arr 0 11 []]⟩):pX false [.cell 2 true 9,.tmp 3] 0 (sqK (EV G (Tb (lM G bb))) G Ql (Bf 0 (EL (EV G (Tb (lM G bb))) G h88l0 [2,2,1,63,0,0] 3 st)))=some (dcv (Vi o u (iG a)),[]):=by
 have h:∀k (g:k<a.length),(a.map pQ)[k]?=some (pQ a[k]):=fun k g=>by rw[aZi,aZj g];rfl
 have q:∀k (g:k<a.length),a.getD k []=a[k]:=fun k g=>by simp[List.getD,g]
 rw[dN (fun k=>⟨(jk 2 (.one (.ptr 0 0)::jk 2 (vi u::jk 1 (.one (.ptr 1 0)::jk 63 (vl (a.map pQ)::vi a.length::vi k::jk 28 []))))),[.box z9,.box (r9 o++[.bld 2 ((a.take k).map fun p=>(bL p).1.e).length]),.arr 0 11 ((a.take k).map fun p=>(bL p).1.e)]⟩) (fun k=>(bL (a.getD k [])).2≠0) a.length ?_ ?_]
 rotate_left
 rw[h0];rfl;intro k g n;have D:=Classical.not_not.1 (n k (aZe _));rw[q k g] at D;have t:=b k g;have e:=h k g;have K:((a.take k).map fun p=>(bL p).1.e).length<=1000:=by rw[aZa,aZf];omega
 have s:gC 11 ((a.take k).map fun p=>(bL p).1.e)=true:=jD (f:=fun p=>(bL p).1.e) (fun _=>rfl) _
 have F:(a.take (k+1)).map (fun p=>(bL p).1.e)=(a.take k).map (fun p=>(bL p).1.e)++[(bL a[k]).1.e]:=by
  rw[bAa g,aZR,aZl,aZm]
 rw[F];clear l b h q h0 n F;have A:((a.take k).map fun p=>(bL p).1.e).take ((a.take k).map fun p=>(bL p).1.e).length=(a.take k).map fun p=>(bL p).1.e:=aZT
 generalize (a.take k).map (fun p=>(bL p).1.e)=C at *
 generalize bL a[k]=d at *;obtain⟨x,z⟩:=d;dsimp only at D t ⊢;subst D;generalize a[k]=p at *;rw[aZb];simp (disch:=omega) only[go_sem,h88l0,aZa,e,t,aJ.e,s,A,aZc,aZd,aZe,aZx,aZs,aZX];obtain⟨g,hp,n⟩:=bE (fun k=>(bL (a.getD k [])).2≠0) a.length
 generalize ix (fun k=>(bL (a.getD k [])).2≠0) a.length=k at *
 rcases hp with rfl|⟨i,hp⟩
 have r:=K3 a (fun p hp=>by
  obtain⟨j,y,rfl⟩:=List.mem_iff_getElem.1 hp;have:=Classical.not_not.1 (n j y);rwa[q j y] at this)
 have E:(a.take a.length).map (fun p=>(bL p).1.e)=(a.map fun p=>(bL p).1).map aJ.e:=by rw[aZT,aZE];rfl
 have m:((a.map fun p=>(bL p).1).map aJ.e).length=a.length:=by simp
 have H:((a.map fun p=>(bL p).1).map aJ.e).take a.length=(a.map fun p=>(bL p).1).map aJ.e:=aZM (by omega)
 rw[E,m];rw[r] at l ⊢;unfold Vi;rw[if_neg (not_not_intro rfl)];dsimp only at l ⊢;clear b h q h0 r E n;generalize (a.map fun p=>(bL p).1)=L at *
 by_cases w:gW (dS o L)=0;rw[if_neg (not_not_intro w)];rw[w] at l;simp only[dS,cL.v,cL.c] at l;generalize I:L.map aJ.e=M at *;simp (disch:=omega) only[go_sem,Ql,sB,h88c,h88l0,aZa,l,m,H,aZe,aZx,aZs];simp only[dcv,dS,cL.c,I,aZx,aZs];rw[if_pos w,qV];generalize gW (dS o L)=N at *;simp only[dS,cL.v,cL.c] at l;generalize L.map aJ.e=M at *;simp (disch:=omega) only[go_sem,Ql,sB,h88c,h88l0,aZa,l,w,m,H,aZe,aZx,aZs];have r:=K4 a k i (fun j y=>Classical.not_not.1 (n j y)) hp
 rw[q k i] at hp r;rw[r];unfold Vi;dsimp only;rw[if_pos hp,qV];have t:=b k i;have e:=h k i;clear b h q h0 r n l;generalize (a.take k).map (fun p=>(bL p).1.e)=C at *
 generalize bL a[k]=d at *;obtain⟨x,z⟩:=d;dsimp only at hp t ⊢;generalize a[k]=p at *;simp (disch:=omega) only[go_sem,Ql,sB,h88c,h88l0,aZa,e,t,aJ.e,hp,aZx,aZs]
end
section
variable {G:aF}{bb:Bool}
theorem Vj(e:G9 G)(s:L Int)(p:aK s)(Z:s.length<=9223372036854775807):EV G (Tb (lM G bb)) 88 [sv s] []=some (dcv (fZ s),[]):=by
 refine aB rfl ?_;unfold fZ;by_cases d:s.length=512;rw[if_neg (not_not_intro d)];have g:=Fj (up (aQj (G:=G) (bb:=bb) s d p));by_cases h:jN s;rw[if_neg (not_not_intro h)];rw[if_pos h] at g;have N:¬ gO s=0:=h.1;have S:=qF d;have a:=Kq d p;have t:EV G (Tb (lM G bb)) 126 [Lx 16 2,sv (eK s)] []=some (vi (gL (eK s) 16 2),[]):=Fj (up (Ac (G:=G) (bb:=bb) (eK s) a 16 2 (by omega) (by omega) (by omega)));have w:EV G (Tb (lM G bb)) 126 [Lx 18 2,sv (eK s)] []=some (vi (gL (eK s) 18 2),[]):=Fj (up (Ac (G:=G) (bb:=bb) (eK s) a 18 2 (by omega) (by omega) (by omega)));have x:EV G (Tb (lM G bb)) 126 [Lx 22 2,sv (eK s)] []=some (vi (gL (eK s) 22 2),[]):=Fj (up (Ac (G:=G) (bb:=bb) (eK s) a 22 2 (by omega) (by omega) (by omega)));have y:EV G (Tb (lM G bb)) 126 [Lx 32 4,sv (eK s)] []=some (vi (gL (eK s) 32 4),[]):=Fj (up (Ac (G:=G) (bb:=bb) (eK s) a 32 4 (by omega) (by omega) (by omega)));have z:EV G (Tb (lM G bb)) 126 [Lx 36 2,sv (eK s)] []=some (vi (gL (eK s) 36 2),[]):=Fj (up (Ac (G:=G) (bb:=bb) (eK s) a 36 2 (by omega) (by omega) (by omega)));have A:EV G (Tb (lM G bb)) 126 [Lx 38 2,sv (eK s)] []=some (vi (gL (eK s) 38 2),[]):=Fj (up (Ac (G:=G) (bb:=bb) (eK s) a 38 2 (by omega) (by omega) (by omega)));have C:EV G (Tb (lM G bb)) 126 [Lx 8 4,sv (eK s)] []=some (vi (gL (eK s) 8 4),[]):=Fj (up (Ac (G:=G) (bb:=bb) (eK s) a 8 4 (by omega) (by omega) (by omega)));have n:=Fj (up (Yf (G:=G) (bb:=bb) (eK s) S a));have D:=e.sq;have E:=e.li;have F:=e.fl;have H:=e.ba;have I:=e.bo;have J:=e.nx;have K:=e.ls;cases m:Ab ((eK s).drop 64) with
 |none=>
  rw[m] at n;generalize gO s=u at *;simp (maxSteps:=2000000) (disch:=omega) only[go_sem,h88c,aC,d,g,N,D,E,F,H,I,J,K,t,w,x,y,z,A,C,n,cL.nil];all_goals rfl
 |some b=>
  rw[m] at n;obtain⟨P,Q,h3,h4⟩:=Yd d p m;have T:=aMg (G:=G) (bb:=bb) b (by omega) (by omega);have q:=Fj (up (aA0 (G:=G) (bb:=bb) e (dS (eK s) []) b.flatten (aRa S a []) Q h4));have o:=cQ (D7 (dS (eK s) []) (68+(b.flatten.length:Int)) b.flatten h4) a;have l:=aQE d p m;have O:Ul s b=if iK (dS (eK s) []) (68+(b.flatten.length:Int)) b.flatten≠eK s then (.nil,0,3) else Vi (eK s) (gO s) (iG b):=rfl
  dsimp only;rw[O];clear O;by_cases f:iK (dS (eK s) []) (68+(b.flatten.length:Int)) b.flatten=eK s;rw[if_neg (not_not_intro f)];rw[eq_true f] at o;have W:=f;have M:b.length<=1000:=by omega
  have j:∀ k (R:k < b.length),EV G (Tb (lM G bb)) 130 [sv b[k]] []=some (rtv (bL b[k]),[]):=fun k R=>by
   obtain⟨U,V,_⟩:=P _ (aZk R);exact Fj (up (aDh (G:=G) (bb:=bb) b[k] U V))
  have X:=Fj (Af (G:=G) (bb:=bb) (dS (eK s) (iG b).1) l);clear P Q h3 h4 l f m;generalize b.flatten=i at *;generalize iK (dS (eK s) []) (68+(i.length:Int)) i=Y at *;simp only[dS,cL.v,cL.c,aZm] at q;generalize gO s=u at *;simp (maxSteps:=2000000) (disch:=omega) only[go_sem,h88c,aC,d,g,N,D,E,F,H,I,J,K,t,w,x,y,z,A,C,n,T,q,o,Jk,aZa];exact aRc (eK s) u b M j X rfl
  ·rw[if_pos f];rw[eq_false f] at o;generalize b.flatten=i at *;generalize iK (dS (eK s) []) (68+(i.length:Int)) i=Y at *;simp only[dS,cL.v,cL.c,aZm] at q;generalize gO s=u at *;simp (maxSteps:=2000000) (disch:=omega) only[go_sem,h88c,aC,d,g,N,D,E,F,H,I,J,K,t,w,x,y,z,A,C,n,T,q,o,Jk,cL.nil];all_goals rfl
 ·rw[if_pos h];rw[if_neg h] at g;simp (maxSteps:=2000000) (disch:=omega) only[go_sem,h88c,aC,d,g,cL.nil];all_goals rfl
 ·rw[if_pos d];have r:¬ (s.length:Int)=512:=by omega
  simp (maxSteps:=2000000) (disch:=omega) only[go_sem,h88c,aC,r,cL.nil];all_goals rfl
end
section
variable {G:aF}{bb:Bool}
noncomputable def Vk(p q:L Int):cL×Int×Int:=if (fZ p).2.2=0 then fZ p else if (fZ q).2.2=0 then fZ q else fZ p
theorem K5(n:G9 G)(x:Bt)(h i j:DC)(s:L Int)(k:aK s)(N a b c d:Nat)(o:s.length=N)(h0:a*256+256<=N)(w:b*256+256<=N)(y:c*256+256<=N)(h3:d*256+256<=N)(p:N<=200000):EV G (Tb (dU G bb)) 56 [.one (.ptr 0 0),pr2 a b,pr2 c d] [sX x h i N j,yb s]=some (dcv (Vk (Bm s a b) (Bm s c d)),[sX x h i N j,yb s]):=by
 have l:=Ef (G:=G) (B:=dU G bb) x h i j s k N a b o h0 w p;have q:=Ef (G:=G) (B:=dU G bb) x h i j s k N c d o y h3 p;have m:=upT (Vj (bb:=bb) n (Bm s a b) (kS k a b) (by rw[H4 (by omega) (by omega)];omega));have t:=upT (Vj (bb:=bb) n (Bm s c d) (kS k c d) (by rw[H4 (by omega) (by omega)];omega));unfold Vk;generalize Bm s a b=P at *;generalize Bm s c d=Q at *;generalize fZ P=X at *;generalize fZ Q=Y at *;obtain⟨r,u,e⟩:=X;obtain⟨z,A,v⟩:=Y;refine aB rfl ?_;by_cases f:e=0;rw[if_pos f];simp (maxSteps:=2000000) (disch:=omega) only[go_sem,h56c,l,m,f];rfl;rw[if_neg f];by_cases g:v=0;rw[if_pos g];simp (maxSteps:=2000000) (disch:=omega) only[go_sem,h56c,l,m,q,t,f,g];rfl;rw[if_neg g];simp (maxSteps:=2000000) (disch:=omega) only[go_sem,h56c,l,m,q,t,f,g];rfl
end
section
variable {G:aF}{B:aO}
theorem aRd(c:Nat)(p:aJ->Bool)(l:L aJ)(h:l.length<=1000000)(g:∀a∈l,EV G (Tb B) c [a.v] []=some (vb (p a),[])):EV G (Tb B) 57 [vl (l.map aJ.e),.one (.fn c [])] []=some (vi (iX p l),[]):=by
 refine aB rfl ?_;simp (disch:=omega) only[go_sem,h57c,aZa];unfold iX;rw[dN (fun k=>⟨(vl (l.map aJ.e)::.one (.fn c [])::jk 5 (vi l.length::vi k::jk 10 [])),[]⟩) (fun k=>p (l.getD k aJ.nil)=true) l.length ?_ ?_]
 rotate_left
 rfl;intro k d f;have h3:=f k (aZe _);rw[eY l k d] at h3;have h4:p l[k]=false:=by simpa using h3
 have q:=g l[k] (aZk d);rw[h4] at q;simp (disch:=omega) only[go_sem,h57l0,aZa,ixA,aJ.e,q];obtain⟨d,hp,f⟩:=bE (fun k=>p (l.getD k aJ.nil)=true) l.length
 generalize ix (fun k=>p (l.getD k aJ.nil)=true) l.length=k at *
 rcases hp with rfl|⟨b,hp⟩;rw[if_pos rfl];simp (disch:=omega) only[go_sem,h57l0,aZa];rw[if_neg (by omega)];rw[eY l k b] at hp;have q:=g l[k] (aZk b);rw[hp] at q;simp (disch:=omega) only[go_sem,h57l0,aZa,ixA,aJ.e,q]
noncomputable def Yl(p:aV->Bool)(l:L aV):Int:=if ix (fun k=>p (l.getD k ⟨0,0⟩)=true) l.length=l.length then -1 else (ix (fun k=>p (l.getD k ⟨0,0⟩)=true) l.length:Nat)
theorem Vl(p:aV->Bool)(l:L aV):decide (0<=Yl p l)=l.any p:=by
 unfold Yl;obtain⟨e,hp,c⟩:=bE (fun k=>p (l.getD k ⟨0,0⟩)=true) l.length
 generalize ix (fun k=>p (l.getD k ⟨0,0⟩)=true) l.length=k at *
 rcases hp with rfl|⟨a,hp⟩;rw[if_pos rfl]
 symm
 rw[show decide ((0:Int)<=-1)=false from rfl,bAm]
 intro x d;obtain⟨j,b,rfl⟩:=List.getElem_of_mem d;have:=c j b;rw[jR l j b] at this;exact this;rw[if_neg (by omega),decide_eq_true (by omega)];rw[jR l k a] at hp;exact (List.any_eq_true.2 ⟨_,aZk a,hp⟩).symm
theorem aMJ(a:Nat)(p:aV->Bool)(l:L aV)(b:l.length<=1000000)(c:∀r:aV,EV G (Tb B) a [r.v] []=some (vb (p r),[])):EV G (Tb B) 61 [cP l,.one (.fn a [])] []=some (vb (l.any p),[]):=by
 have q:EV G (Tb B) 89 [cP l,.one (.fn a [])] []=some (vi (Yl p l),[]):=T2 (G:=G) (B:=B) p a c l b;rw[<- Vl];generalize Yl p l=I at *;refine aB rfl ?_;simp (disch:=omega) only[go_sem,h61c,q,ge_iff_le]
theorem aRe(c:Nat)(a:L DC)(p:aV->Bool)(l:L aV)(h:l.length<=1000000)(g:∀r∈l,EV G (Tb B) c [r.v,.one (.ptr 0 0)] [.box (a.map aU.dc)]=some (vb (p r),[.box (a.map aU.dc)])):EV G (Tb B) 89 [cP l,.one (.fn c [.ptr 0 0])] [.box (a.map aU.dc)]=some (vi (Yl p l),[.box (a.map aU.dc)]):=by
 refine aB rfl ?_;simp (disch:=omega) only[go_sem,h89c,aZa,pL,pM,pN,pO,mD];unfold Yl;rw[dN (fun k=>⟨(cP l::.one (.fn c [.ptr 0 0])::jk 5 (vi l.length::vi k::jk 10 [])),[.box (a.map aU.dc)]⟩) (fun k=>p (l.getD k ⟨0,0⟩)=true) l.length ?_ ?_]
 rotate_left
 rfl;intro k d f;have h3:=f k (aZe _);rw[jR l k d] at h3;have h4:p l[k]=false:=by simpa using h3
 have q:=g l[k] (aZk d);rw[h4] at q;simp (disch:=omega) only[go_sem,h89l0,aZa,aV.e,q,pL,pM,pN,pO,mD];obtain⟨d,hp,f⟩:=bE (fun k=>p (l.getD k ⟨0,0⟩)=true) l.length
 generalize ix (fun k=>p (l.getD k ⟨0,0⟩)=true) l.length=k at *
 rcases hp with rfl|⟨b,hp⟩;rw[if_pos rfl];simp (disch:=omega) only[go_sem,h89l0,aZa,pL,pM,pN,pO,mD];rw[if_neg (by omega)];rw[jR l k b] at hp;have q:=g l[k] (aZk b);rw[hp] at q;simp (disch:=omega) only[go_sem,h89l0,aZa,aV.e,q,pL,pM,pN,pO,mD]
theorem aMK(b:Nat)(a:L DC)(p:aV->Bool)(l:L aV)(c:l.length<=1000000)(d:∀r∈l,EV G (Tb B) b [r.v,.one (.ptr 0 0)] [.box (a.map aU.dc)]=some (vb (p r),[.box (a.map aU.dc)])):EV G (Tb B) 61 [cP l,.one (.fn b [.ptr 0 0])] [.box (a.map aU.dc)]=some (vb (l.any p),[.box (a.map aU.dc)]):=by
 have q:=aRe (G:=G) (B:=B) b a p l c d;rw[<- Vl];generalize Yl p l=I at *;refine aB rfl ?_;simp (disch:=omega) only[go_sem,h61c,q,ge_iff_le,pL,pM,pN,pO,mD]
def iZ(a:aJ):Bool:=decide (a.ty=128)&&decide (a.nm=[])
theorem aIe(a:aJ):EV G (Tb B) 58 [a.v] []=some (vb (iZ a),[]):=by
 have e:=K1 a.nm;unfold iZ;refine aB rfl ?_;by_cases c:a.ty=128;simp (disch:=omega) only[go_sem,h58c,eq_true c,e,decide_true,aZI];simp (disch:=omega) only[go_sem,h58c,c,decide_false,aZS]
theorem aRf(r:aV):EV G (Tb B) 59 [r.v] []=some (vb (decide (r.s=-1)),[]):=by
 refine aB rfl ?_;simp (disch:=omega) only[go_sem,h59c]
theorem aIf(r:aV)(x:Bt)(h:-1000000<=r.s/\r.s<=1000000)(a:-1000000<=r.n/\r.n<=1000000):EV G (Tb B) 60 [r.v,.one (.ptr 0 0)] [x.o]=some (vb (decide (r.s+r.n > x.cl)),[x.o]):=by
 have q:=pS (G:=G) (B:=B) r.s r.n h a;refine aB rfl ?_;simp (disch:=omega) only[go_sem,h60c,q]
theorem Ym(l:L aJ)(b:l.length<=1000000):EV G (Tb B) 57 [vl (l.map aJ.e),.one (.fn 58 [])] []=some (vi (iX iZ l),[]):=aRd _ _ l b (fun a _=>aIe a)
theorem aBa(l:L aV)(a:l.length<=1000000):EV G (Tb B) 61 [cP l,.one (.fn 59 [])] []=some (vb (l.any fun r=>decide (r.s=-1)),[]):=aMJ _ _ l a aRf
abbrev Bt.d(x:Bt):L DC:=[ci x.cl,ci x.tb,ci x.mi,ci x.lg,ci x.lc,ci x.se]
theorem aBb(l:L aV)(x:Bt)(b:l.length<=1000000)(h:∀r∈l,(-1000000<=r.s/\r.s<=1000000)/\(-1000000<=r.n/\r.n<=1000000)):EV G (Tb B) 61 [cP l,.one (.fn 60 [.ptr 0 0])] [x.o]=some (vb (l.any fun r=>decide (r.s+r.n > x.cl)),[x.o]):=
 aMK _ x.d _ l b (fun r a=>aIf r x (h r a).1 (h r a).2)
end
section
variable {G:aF}{bb:Bool}
abbrev tE(e:Int):TV:=.one (.dc (ci e))
abbrev ptN:TV:=.one (.dc (.raw (.pointer none)))
theorem aBc{a b:Nat}{x y:Int}(h:(a:Int)=x)(c:(b:Int)=y):pr2 a b=prI x y:=by subst h;subst c;rfl
theorem aML(s:L Int)(b:aK s)(c:s.length<=200000)(h:(aW s).2.2≠0):EV G (Tb (dU G bb)) 20 [sv s] []=some (.tup [ptN,tE (aW s).2.2],[]):=by
 have q:=Vb (G:=G) (B:=dU G bb) Ee s b c;generalize aW s=V at *;obtain⟨x,a,e⟩:=V;refine aB rfl ?_;simp (maxSteps:=2000000) (disch:=omega) only[go_sem,h20c,q,h,Bt.cs]
structure Pre (G:aF) (bb:Bool) (s:List Int) (x:Bt) (r:cL) (u e:Int):Prop where
 hB:aK s
 pos:0<s.length
 len:s.length<=200000
 q:∃a,EV G (Tb (dU G bb)) 55 [sv s] []=some (.tup [.agg x.cs,tI a,tI 0],[])
 nT:EV G (Tb (dU G bb)) 50 [vi x.tb] []=some (prI x.tb (x.tb+1),[])
 nM:EV G (Tb (dU G bb)) 50 [vi x.mi] []=some (prI x.mi (x.mi+1),[])
 ei:EV G (Tb (dU G bb)) 56 [.one (.ptr 0 0),prI x.tb (x.tb+1),prI x.mi (x.mi+1)] [sX x (.raw (.slice none 0 0)) (.raw (.int .i64 0)) s.length (.raw (.slice none 0 0)),yb s]=some (dcv (r,u,e),[sX x (.raw (.slice none 0 0)) (.raw (.int .i64 0)) s.length (.raw (.slice none 0 0)),yb s])
def L4(s:L Int)(x:Bt):L Int:=Bm s x.tb.toNat (x.tb.toNat+1)
def Qm(s:L Int)(x:Bt):L Int:=Bm s x.mi.toNat (x.mi.toNat+1)
theorem aIg(i:G9 G)(s:L Int)(b:aK s)(c:s.length<=200000)(h:(aW s).2.2=0)(j:(0<=(aW s).1.tb/\(aW s).1.tb*256+512<=s.length)/\(0<=(aW s).1.mi/\(aW s).1.mi*256+512<=s.length)):Pre G bb s (aW s).1 (Vk (L4 s (aW s).1) (Qm s (aW s).1)).1 (Vk (L4 s (aW s).1) (Qm s (aW s).1)).2.1 (Vk (L4 s (aW s).1) (Qm s (aW s).1)).2.2:=by
 have q:=Vb (G:=G) (B:=dU G bb) Ee s b c;generalize aW s=V at *;obtain⟨x,a,e⟩:=V;simp only at h j q ⊢;subst h;obtain⟨T,l⟩:∃T:Nat,x.tb=T:=⟨x.tb.toNat,by omega⟩;obtain⟨M,k⟩:∃M:Nat,x.mi=M:=⟨x.mi.toNat,by omega⟩;have g:x.tb.toNat=T:=by omega
 have f:x.mi.toNat=M:=by omega
 have d:=K5 (G:=G) (bb:=bb) i x (.raw (.slice none 0 0)) (.raw (.int .i64 0)) (.raw (.slice none 0 0)) s b s.length T (T+1) M (M+1) rfl (by omega) (by omega) (by omega) (by omega) c;rw[aBc (x:=x.tb) (y:=x.tb+1) (by omega) (by omega),aBc (x:=x.mi) (y:=x.mi+1) (by omega) (by omega),<- g,<- f] at d;exact⟨b,by omega,c,⟨a,q⟩,K2 _ (by omega),K2 _ (by omega),d⟩
theorem aMM{s:L Int}{x:Bt}{r:cL}{u e:Int}(hp:Pre G bb s x r u e)(i:e≠0):EV G (Tb (dU G bb)) 20 [sv s] []=some (.tup [ptN,tE e],[]):=by
 obtain⟨g,c,m,⟨a,q⟩,l,k,f⟩:=hp;have h:=nL s g;have d:=Ng (b:=s) rfl c;have j:=Cf s;refine aB rfl ?_;simp (maxSteps:=2000000) (disch:=omega) only[go_sem,h20c,q,Bt.cs,h,d,j,aC,aZa,l,k,f,i]
theorem aMN{s:L Int}{x:Bt}{r:cL}{u:Int}(hp:Pre G bb s x r u 0)(e:r.ats.length<=1000000)(j:iX iZ r.ats<0):EV G (Tb (dU G bb)) 20 [sv s] []=some (.tup [ptN,tE 6],[]):=by
 obtain⟨g,c,n,⟨a,q⟩,l,k,f⟩:=hp;have h:=nL s g;have d:=Ng (b:=s) rfl c;have i:=Cf s;have m:=Ym (G:=G) (B:=dU G bb) r.ats e;generalize iX iZ r.ats=I at *;refine aB rfl ?_;simp (maxSteps:=2000000) (disch:=omega) only[go_sem,h20c,q,Bt.cs,h,d,i,aC,aZa,l,k,f,m,j]
def Eg(x:Bt)(a:aJ):Int:=aT [pW (!a.res&&decide (a.fi=0)) 15,pW (!a.rs.any fun r=>decide (r.s=-1)) 14,pW (!a.rs.any fun r=>decide (r.s+r.n > x.cl)) 37]
theorem K6{B:aO}(a b c:Int):EV G (Tb B) 39 [vl [[ci a],[ci b],[ci c]]] []=some (vi (aT [a,b,c]),[]):=U5 [a,b,c] (by simp)
theorem aMO{s:L Int}{x:Bt}{r:cL}{u:Int}(hp:Pre G bb s x r u 0)(C:r.ats.length<=1000000)(K:Nat)(J:K<r.ats.length)(I:iX iZ r.ats=K)(i:r.ats[K].rs.length<=1000000)(N:∀q∈r.ats[K].rs,(-1000000<=q.s/\q.s<=1000000)/\(-1000000<=q.n/\q.n<=1000000))(g:Eg x r.ats[K]≠0):EV G (Tb (dU G bb)) 20 [sv s] []=some (.tup [ptN,tE (Eg x r.ats[K])],[]):=by
 obtain⟨H,j,O,⟨a,q⟩,F,E,t⟩:=hp;have y:=nL s H;have h:=Ng (b:=s) rfl j;have z:=Cf s;have k:=Ym (G:=G) (B:=dU G bb) r.ats C;rw[I] at k;have w:=iY (G:=G) (B:=dU G bb);have v:=K6 (G:=G) (B:=dU G bb);have D:=ixA r.ats K J;unfold Eg at g ⊢;generalize r.ats[K]=A at *;have o:=aBa (G:=G) (B:=dU G bb) A.rs i;have p:=aBb (G:=G) (B:=dU G bb) A.rs x i N;generalize (A.rs.any fun r=>decide (r.s=-1))=l at *
 generalize (A.rs.any fun r=>decide (r.s+r.n > x.cl))=m at *
 have M:(0:Int)<=(K:Int):=by omega
 refine aB rfl ?_;cases c:A.res;rw[c] at g;by_cases f:A.fi=0;rw[decide_eq_true f] at g ⊢;have d:¬ aT [pW true 15,pW (!l) 14,pW (!m) 37]=0:=g;simp (maxSteps:=2000000) (disch:=omega) only[go_sem,h20c,q,Bt.cs,y,h,z,aC,aZa,F,E,t,k,D,aJ.e,c,f,o,p,w,v,d,aZG,aZF,aZI,aZS];rw[decide_eq_false f] at g ⊢;have d:¬ aT [pW false 15,pW (!l) 14,pW (!m) 37]=0:=g;simp (maxSteps:=2000000) (disch:=omega) only[go_sem,h20c,q,Bt.cs,y,h,z,aC,aZa,F,E,t,k,D,aJ.e,c,f,o,p,w,v,d,aZG,aZF,aZI,aZS,Bool.and_false];rw[c] at g;have d:¬ aT [pW false 15,pW (!l) 14,pW (!m) 37]=0:=g;simp (maxSteps:=2000000) (disch:=omega) only[go_sem,h20c,q,Bt.cs,y,h,z,aC,aZa,F,E,t,k,D,aJ.e,c,o,p,w,v,d,aZG,aZF,aZI,aZS]
end
section
variable {G:aF}{bb:Bool}
theorem aRh(x:Bt)(b c:DC)(N:Nat)(a:L Int)(s:L Int)(e:(-1000000<=x.mi/\x.mi<=1000000)/\2<=x.cl/\x.cl<=1000000)(d:a.length<=1000000):EV G (Tb (dU G bb)) 62 [.one (.ptr 0 0)] [sX x b c N (.slc (el a)),yb s]=some (vb (tQ x a),[sX x b c N (.slc (el a)),yb s]):=aVF x b c N a s e d
theorem Ak{B:aO}(x:Bt)(b c:DC)(N:Nat)(a:L Int)(s:L Int)(n:Nat)(h:2*n+2<=a.length)(d:a.length<=1000000):EV G (Tb B) 22 [.one (.ptr 0 0),vi n] [sX x b c N (.slc (el a)),yb s]=some (prI (a.getD (2*n) 0) (a.getD (2*n+1) 0),[sX x b c N (.slc (el a)),yb s]):=aIc x b c N a s n h d
def clE(x:Bt)(a:L Int):Int:=aT [pW (!tQ x a) 13,pW (decide (a.length % 2=0)&&decide (16<=a.length / 2/\a.length / 2<=96)) 2,pW (decide (2<=a.length)&&decide (a.getD 0 0=x.tb/\a.getD 1 0=x.tb+1)) 9]
abbrev rc9(r:cL)(u:Int):L aU:=[.dc (ci r.sq),.dc (ci r.li),.dc (ci r.fl),.dc (ci r.br),.dc (ci r.bq),.dc (ci r.nx),.dc (ci r.ls),.dc (.slc (r.ats.map aJ.e)),.dc (ci u)]
abbrev opH(x:Bt)(r:cL)(u:Int)(s:L Int)(b:L aV)(a:L Int):L aD:=[x.o,yb s,sX x (.slc (b.map aV.e)) (ci (a.length / 2:Nat)) s.length (.slc (el a)),.box (rc9 r u),.dead]
abbrev opB(x:Bt)(N:Nat)(a:L aV)(n:Nat):aD:=.box [.dc (ci x.cl),.dc (ci x.tb),.dc (ci x.mi),.dc (ci x.lg),.dc (ci x.lc),.dc (ci x.se),.dc (.slc (a.map aV.e)),.dc (ci 0),.bls 1 0 N 1,.bld 4 n]
theorem aVJ(q:aV)(h:q.s≠-1)(n:Nat):As q (n+1)=As q n++[q.s+n]:=by rw[S4,if_neg h]
theorem aXP(x:Bt)(r:cL)(u:Int)(s:L Int)(a:L aV)(k:Nat)(q:aV)(g:-1<=q.s/\q.s<=1000)(D:L Int)(c:D.length<=1000000)(j:Nat)(d:j<q.n.toNat)(f:q.n<=100000000):Lf [4,2,6,93,0,0,4,0] 6 (EC (EV G (Tb (dU G bb))) G h20l0 ⟨(jk 4 (.one (.ptr 0 0)::jk 2 (.one (.ptr 2 0)::jk 6 (.one (.ptr 5 0)::jk 93 (cP a::vi a.length::vi k::jk 4 (vi q.n::vi j::jk 59 [])))))),[x.o,yb s,opB x s.length a D.length,.box (rc9 r u),.arr 0 1 (el D),.box [.dc (ci q.s),.dc (ci q.n)]]⟩)= some ⟨(jk 4 (.one (.ptr 0 0)::jk 2 (.one (.ptr 2 0)::jk 6 (.one (.ptr 5 0)::jk 93 (cP a::vi a.length::vi k::jk 4 (vi q.n::vi (j+1:Nat)::jk 59 [])))))),[x.o,yb s,opB x s.length a (D++[q.s+j]).length,.box (rc9 r u),.arr 0 1 (el (D++[q.s+j])),.box [.dc (ci q.s),.dc (ci q.n)]]⟩:=by
 have b:(j:Int)<q.n:=by omega
 have e:List.take D.length (List.map tD D)=List.map tD D:=aZM (by rw[aZa];exact aZe _);simp (maxSteps:=2000000) (disch:=omega) only[go_sem,h20l0,aZa,b,aAM,aZb,jJ,mL,e]
theorem aVK(x:Bt)(r:cL)(u:Int)(s:L Int)(a:L aV)(hf:rH a)(f:∀q∈a,q.s≠-1)(i:cC a<=100000)(k:Nat)(b:k<a.length):Lf [4,2,100,0,0] 5 (EC (EV G (Tb (dU G bb))) G h20l1 ⟨(jk 4 (.one (.ptr 0 0)::jk 2 (.one (.ptr 2 0)::jk 100 (cP a::vi a.length::vi k::jk 65 [])))),[x.o,yb s,opB x s.length a (rW (a.take k)).length,.box (rc9 r u),.arr 0 1 (el (rW (a.take k)))]⟩)= some ⟨(jk 4 (.one (.ptr 0 0)::jk 2 (.one (.ptr 2 0)::jk 100 (cP a::vi a.length::vi (k+1:Nat)::jk 65 [])))),[x.o,yb s,opB x s.length a (rW (a.take (k+1))).length,.box (rc9 r u),.arr 0 1 (el (rW (a.take (k+1))))]⟩:=by
 have p:=hf.el _ (aZk b);have t:=hf.n_le (aZk b);have h3:=At (a.take k) (fun r c=>(hf.el r (aZA c)).2.2)
 have h4:=iC a k (fun r c=>(hf.el r c).2.2)
 have l:=f _ (aZk b);have h:=hf.len;have h6:=Ar a k b;have h7:=iC a (k+1) (fun r c=>(hf.el r c).2.2)
 rw[S5 a k b];generalize rW (a.take k)=C at *;simp (maxSteps:=2000000) (disch:=omega) only[go_sem,h20l1,aZa,jJ,mL,aV.e];rw[aR (fun j=>⟨(jk 4 (.one (.ptr 0 0)::jk 2 (.one (.ptr 2 0)::jk 6 (.one (.ptr 5 0)::jk 93 (cP a::vi a.length::vi k::jk 4 (vi a[k].n::vi j::jk 59 [])))))),[x.o,yb s,opB x s.length a (C++As a[k] j).length,.box (rc9 r u),.arr 0 1 (el (C++As a[k] j)),.box [.dc (ci a[k].s),.dc (ci a[k].n)]]⟩) a[k].n.toNat ?_ ?_]
 have m:((a[k].n.toNat:Nat):Int)=a[k].n:=by omega
 simp (maxSteps:=2000000) (disch:=omega) only[go_sem,h20l0,aZa,aV.e,m,jJ,mL];simp[As,jk];intro j g;have d:(C++As a[k] j).length=C.length+j:=by simp[As]
 rw[aVJ a[k] l,<- aZr];exact aXP x r u s a k a[k] (by omega) (C++As a[k] j) (by omega) j g (by omega)
theorem aRi{s:L Int}{x:Bt}{r:cL}{u:Int}(hp:Pre G bb s x r u 0)(R:r.ats.length<=1000000)(K:Nat)(hK:K<r.ats.length)(hI:iX iZ r.ats=K)(hf:rH r.ats[K].rs)(hx:(0<=x.mi/\x.mi<=1000)/\2<=x.cl/\x.cl<=1000)(P:cC r.ats[K].rs<=100000)(Q:∀q∈r.ats[K].rs,q.n<=100000)(p:Eg x r.ats[K]=0):EV G (Tb (dU G bb)) 20 [sv s] []=some (.tup [.one (.ptr 2 0),tE (clE x (rW r.ats[K].rs))],opH x r u s r.ats[K].rs (rW r.ats[K].rs)):=by
 obtain⟨hB,E,hl,⟨a,q⟩,t,nM,X⟩:=hp;have Z:=nL s hB;have z:=Ng (b:=s) rfl E;have hF:=Cf s;have S:=Ym (G:=G) (B:=dU G bb) r.ats R;rw[hI] at S;have w:=iY (G:=G) (B:=dU G bb);have j:=K6 (G:=G) (B:=dU G bb);have H:=ixA r.ats K hK;unfold Eg at p;generalize r.ats[K]=A at *;have D:A.rs.length<=1000000:=by have:=hf.len;omega
 have M:=aBa (G:=G) (B:=dU G bb) A.rs D;have N:=aBb (G:=G) (B:=dU G bb) A.rs x D (fun q J=>by have:=hf.el q J;have:=Q q J;omega)
 have hp0:(0:Int)<=(K:Int):=by omega
 have e1:A.res=false/\A.fi=0/\(A.rs.any fun r=>decide (r.s=-1))=false/\(A.rs.any fun r=>decide (r.s+r.n > x.cl))=false:=by
  cases h5:A.res
  ·by_cases h6:A.fi=0
   ·rw[h5,decide_eq_true h6] at p;refine⟨rfl,h6, ?_⟩;revert p;cases (A.rs.any fun r=>decide (r.s=-1))<;>cases (A.rs.any fun r=>decide (r.s+r.n > x.cl))<;>simp[pW,aT]
   ·rw[h5,decide_eq_false h6] at p;revert p;cases (A.rs.any fun r=>decide (r.s=-1))<;>cases (A.rs.any fun r=>decide (r.s+r.n > x.cl))<;>simp[pW,aT]
  ·rw[h5] at p;revert p;cases (A.rs.any fun r=>decide (r.s=-1))<;>cases (A.rs.any fun r=>decide (r.s+r.n > x.cl))<;>simp[pW,aT]
 obtain⟨F,O,h3,h4⟩:=e1;rw[h3] at M;rw[h4] at N;have V:aT [pW true 15,pW true 14,pW true 37]=0:=rfl;refine aB rfl ?_;simp (maxSteps:=2000000) (disch:=omega) only[go_sem,h20c,q,Bt.cs,Z,z,hF,aC,aZa,t,nM,X,S,H,aJ.e,F,O,M,N,w,j,V,aZG,aZF,aZI,aZS];rw[aR (fun k=>⟨(jk 4 (.one (.ptr 0 0)::jk 2 (.one (.ptr 2 0)::jk 100 (cP A.rs::vi A.rs.length::vi k::jk 65 [])))),[x.o,yb s,opB x s.length A.rs (rW (A.rs.take k)).length,.box (rc9 r u),.arr 0 1 (el (rW (A.rs.take k)))]⟩) A.rs.length ?_ ?_]
 rotate_left
 rfl
 exact fun k hk=>aVK x r u s A.rs hf (fun q J e=>by
  have:=bAm.1 h3 q J;simp[e] at this) P k hk
 clear q Z z hF S X M N H V j;have j:=K6 (G:=G) (B:=dU G bb);have lc:=At A.rs (fun r Q=>(hf.el r Q).2.2)
 rw[aZT];generalize rW A.rs=C at *;have i:=aRh (G:=G) (bb:=bb) x (.slc (A.rs.map aV.e)) (ci (C.length / 2:Nat)) s.length C s (by omega) (by omega);unfold clE;generalize tQ x C=CB at *;have d:(C.length:Int).tmod 2=((C.length % 2:Nat):Int):=Fo C.length 2;have c:(C.length:Int).tdiv 2=((C.length / 2:Nat):Int):=Qi C.length 2;have I:=kG (G:=G) (B:=dU G bb) (C.length / 2:Nat) 16 96;have eW:decide ((16:Int)<=(C.length / 2:Nat)/\((C.length / 2:Nat):Int)<=96)=decide (16<=C.length / 2/\C.length / 2<=96):=by rw[decide_eq_decide];omega
 rw[eW] at I;generalize decide (16<=C.length / 2/\C.length / 2<=96)=W at *;by_cases Y:C.length % 2=0;have g:((C.length % 2:Nat):Int)=0:=by omega
 rw[decide_eq_true Y,aZI];by_cases y:2<=C.length;have f:(C.length:Int)≥2:=by omega
 rw[decide_eq_true y,aZI];have v:EV G (Tb (dU G bb)) 22 [.one (.ptr 0 0),vi 0] [sX x (.slc (A.rs.map aV.e)) (ci (C.length / 2:Nat)) s.length (.slc (el C)),yb s]=some (prI (C.getD 0 0) (C.getD 1 0),[sX x (.slc (A.rs.map aV.e)) (ci (C.length / 2:Nat)) s.length (.slc (el C)),yb s]):=Ak x _ _ _ C s 0 (by omega) (by omega);generalize C.getD 0 0=T at *;generalize C.getD 1 0=U at *;by_cases l:T=x.tb;by_cases m:U=x.tb+1;rw[decide_eq_true (And.intro l m)];simp (maxSteps:=2000000) (disch:=omega) only[go_sem,h20l1,aZa,jJ,mL,d,c,g,eq_true f,i,v,t,w,I,j,eq_true l,eq_true m];rw[decide_eq_false (fun h=>m h.2)]
 simp (maxSteps:=2000000) (disch:=omega) only[go_sem,h20l1,aZa,jJ,mL,d,c,g,eq_true f,i,v,t,w,I,j,eq_true l,m];rw[decide_eq_false (fun h=>l h.1)]
 simp (maxSteps:=2000000) (disch:=omega) only[go_sem,h20l1,aZa,jJ,mL,d,c,g,eq_true f,i,v,t,w,I,j,l];have f:¬ (C.length:Int)≥2:=by omega
 rw[decide_eq_false y,aZS];simp (maxSteps:=2000000) (disch:=omega) only[go_sem,h20l1,aZa,jJ,mL,d,c,g,f,i,w,I,j];have g:¬ ((C.length % 2:Nat):Int)=0:=by omega
 rw[decide_eq_false Y,aZS];by_cases y:2<=C.length;have f:(C.length:Int)≥2:=by omega
 rw[decide_eq_true y,aZI];have v:EV G (Tb (dU G bb)) 22 [.one (.ptr 0 0),vi 0] [sX x (.slc (A.rs.map aV.e)) (ci (C.length / 2:Nat)) s.length (.slc (el C)),yb s]=some (prI (C.getD 0 0) (C.getD 1 0),[sX x (.slc (A.rs.map aV.e)) (ci (C.length / 2:Nat)) s.length (.slc (el C)),yb s]):=Ak x _ _ _ C s 0 (by omega) (by omega);generalize C.getD 0 0=T at *;generalize C.getD 1 0=U at *;by_cases l:T=x.tb;by_cases m:U=x.tb+1;rw[decide_eq_true (And.intro l m)];simp (maxSteps:=2000000) (disch:=omega) only[go_sem,h20l1,aZa,jJ,mL,d,c,g,eq_true f,i,v,t,w,j,eq_true l,eq_true m];rw[decide_eq_false (fun h=>m h.2)]
 simp (maxSteps:=2000000) (disch:=omega) only[go_sem,h20l1,aZa,jJ,mL,d,c,g,eq_true f,i,v,t,w,j,eq_true l,m];rw[decide_eq_false (fun h=>l h.1)]
 simp (maxSteps:=2000000) (disch:=omega) only[go_sem,h20l1,aZa,jJ,mL,d,c,g,eq_true f,i,v,t,w,j,l];have f:¬ (C.length:Int)≥2:=by omega
 rw[decide_eq_false y,aZS];simp (maxSteps:=2000000) (disch:=omega) only[go_sem,h20l1,aZa,jJ,mL,d,c,g,f,i,w,j]
end
section
variable {G:aF}{bb:Bool}
theorem qJ{a:aJ}(b:a.W)(h:gE a=0):(mS a.rs).2=0:=by
 have h4:=(mZ b h).e;unfold tN at h4;split at h4;rename_i c;unfold Lq at h4;split at h4;rename_i q;rw[q.1];rfl;cases h4;exact (E6 h4).2.2.2.1
theorem Bb{l:L aV}(h:(mS l).2=0):rH l/\cC l<=4096/\∀q∈l,(-1<=q.s/\q.s<=1000)/\(0<=q.n/\q.n<=4096):=by
 have a:=Dm h;have d:=aUL h;refine⟨a,d.2,fun q c=>?_⟩
 have h3:=a.el q c;obtain⟨i,e,rfl⟩:=List.mem_iff_getElem.1 c;have h4:=Ar l i e;have h5:=iC l (i+1) (fun r b=>(a.el r b).2.2)
 have h6:=iB (l.take i) (fun r b=>(a.el r (aZA b)).2.2)
 omega
noncomputable def lO(s:L Int):cL×Int×Int:=Vk (L4 s (aW s).1) (Qm s (aW s).1)
noncomputable def kT(s:L Int):aJ:=(lO s).1.ats.getD (iX iZ (lO s).1.ats).toNat aJ.nil
noncomputable def nO(s:L Int):Int:=if (aW s).2.2≠0 then (aW s).2.2 else if (lO s).2.2≠0 then (lO s).2.2 else if iX iZ (lO s).1.ats<0 then 6 else Eg (aW s).1 (kT s)
noncomputable def gF(s:L Int):L Int:=rW (kT s).rs
noncomputable def Qn(s:L Int):Int:=clE (aW s).1 (gF s)
noncomputable def mM(s:L Int):Int:=if nO s≠0 then nO s else Qn s
theorem aRj{s:L Int}(h:(aW s).2.2=0):Lg s.length=0/\jO (aW s).1=0/\(aW s).1.cl=(s.length / 256:Nat):=by
 unfold aW at h ⊢;by_cases e:Lg s.length=0;rw[if_pos e] at h ⊢;have f:∀l:L Int,(fH l).2=0->jO (fH l).1=0:=by
  intro l d;unfold fH at d ⊢;split at d;split at d;split at d;rename_i a b c;rw[if_pos a,if_pos b,if_pos c];exact c;rename_i c;exact absurd d c;cases d;cases d
 unfold Aj at h ⊢;by_cases g:(fH (s.take 64)).2=0/\(fH (s.take 64)).1.cl=(s.length / 256:Nat);rw[if_pos g];exact⟨e,f _ g.1,g.2⟩;rw[if_neg g] at h ⊢;by_cases h3:(fH (s.drop (s.length-64))).2=0/\(fH (s.drop (s.length-64))).1.cl=(s.length / 256:Nat);rw[if_pos h3];exact⟨e,f _ h3.1,h3.2⟩;rw[if_neg h3] at h;cases h;rw[if_neg e] at h;exact absurd h e
structure Bok (x:Bt) (N:Nat):Prop where
 cl:x.cl=(N / 256:Nat)
 n:N % 256=0/\64<=N / 256/\N / 256<=512
 tb:1<=x.tb/\x.tb<=x.cl-2
 mi:1<=x.mi/\x.mi+8<x.cl
 lg:1<=x.lg/\x.lg+x.lc<x.cl
 lc:8<=x.lc/\x.lc<=64
theorem H5{s:L Int}(h:(aW s).2.2=0):Bok (aW s).1 s.length:=by
 obtain⟨e,g,h3⟩:=aRj h;obtain⟨a,b,c,d⟩:=aMw g;obtain⟨m,n,l,o⟩:=mE.1 a;obtain⟨i,j,k⟩:=qI.1 b;have f:=Eb.1 c;exact⟨h3,dk0 e,i,⟨j.1,f.1⟩,⟨k.1,f.2⟩,l⟩
theorem aRk(p q:L Int)(hp:aK p)(a:aK q):(Vk p q).1.W/\((Vk p q).2.2=0->gW (Vk p q).1=0):=by
 have k:∀ p:L Int,aK p->(fZ p).1.W/\((fZ p).2.2=0->gW (fZ p).1=0):=fun p hp=>⟨aVo hp,fun h=>by
  rcases aQF hp with q | q
  ·exact absurd h q.1
  ·exact q.2.1⟩
 unfold Vk;split;exact k p hp;split;exact k q a;exact k p hp
theorem Qp(s:L Int)(a:aK s):(lO s).1.W/\((lO s).2.2=0->gW (lO s).1=0):=aRk _ _ (kS a _ _) (kS a _ _)
theorem Vm{s:L Int}(h:¬ iX iZ (lO s).1.ats<0):∃K:Nat,∃d:K<(lO s).1.ats.length,iX iZ (lO s).1.ats=K/\kT s=(lO s).1.ats[K]/\iZ (lO s).1.ats[K]=true/\∀j,j<K->iZ ((lO s).1.ats.getD j aJ.nil)=false:=by
 unfold kT;generalize (lO s).1.ats=l at *;unfold iX at h ⊢;obtain⟨e,hp,c⟩:=bE (fun k=>iZ (l.getD k aJ.nil)=true) l.length
 generalize ix (fun k=>iZ (l.getD k aJ.nil)=true) l.length=k at *
 rcases hp with rfl|⟨a,hp⟩;rw[if_pos rfl] at h;exact absurd (by decide) h
 rw[if_neg (by omega)];refine⟨k,a,rfl,?_,by rw[<- eY l k a];exact hp,fun j b=>by simpa using c j b⟩
 rw[aZN,eY l k a]
theorem K7{s:L Int}(d:aK s)(b:(lO s).2.2=0)(c:¬ iX iZ (lO s).1.ats<0):(kT s).W/\gE (kT s)=0:=by
 obtain⟨K,a,_,h3,_⟩:=Vm c;obtain⟨h4,h5⟩:=Qp s d;rw[h3];exact⟨h4.at' _ (aZk a),(D6 (h5 b)).errs.1 _ (aZk a)⟩
theorem Eh(l:G9 G)(s:L Int)(e:aK s)(j:s.length<=200000)(h:nO s≠0):EV G (Tb (dU G bb)) 20 [sv s] []=some (.tup [ptN,tE (nO s)],[]):=by
 unfold nO at h ⊢;by_cases a:(aW s).2.2=0;rw[if_neg (not_not_intro a)] at h ⊢;have b:=H5 a;have t:=b.cl;have u:=b.n;have v:=b.tb;have w:=b.mi;have hp:=aIg (bb:=bb) l s e j a ⟨⟨by omega,by omega⟩,⟨by omega,by omega⟩⟩;change Pre G bb s (aW s).1 (lO s).1 (lO s).2.1 (lO s).2.2 at hp;by_cases c:(lO s).2.2=0;rw[if_neg (not_not_intro c)] at h ⊢;rw[c] at hp;have x:=(Qp s e).1.ln;by_cases h3:iX iZ (lO s).1.ats<0;rw[if_pos h3];exact aMN hp (by omega) h3;rw[if_neg h3] at h ⊢;obtain⟨i,d⟩:=K7 e c h3;obtain⟨K,m,p,r,_⟩:=Vm h3;obtain⟨f,k,g⟩:=Bb (qJ i d);rw[r] at h i d f k g ⊢;exact aMO hp (by omega) K m p (by have:=f.len;omega) (fun q o=>by have:=g q o;omega) h
 rw[if_pos c];exact aMM hp c;rw[if_pos a];exact aML s e j a
theorem Yn{s:L Int}(h:nO s=0):(aW s).2.2=0/\(lO s).2.2=0/\¬ iX iZ (lO s).1.ats<0/\Eg (aW s).1 (kT s)=0:=by
 unfold nO at h;by_cases a:(aW s).2.2=0;rw[if_neg (not_not_intro a)] at h;by_cases b:(lO s).2.2=0;rw[if_neg (not_not_intro b)] at h;by_cases h3:iX iZ (lO s).1.ats<0;rw[if_pos h3] at h;cases h;rw[if_neg h3] at h;exact⟨a,b,h3,h⟩;rw[if_pos b] at h;exact absurd h b;rw[if_pos a] at h;exact absurd h a
theorem qK(k:G9 G)(s:L Int)(c:aK s)(m:s.length<=200000)(h:nO s=0):EV G (Tb (dU G bb)) 20 [sv s] []=some (.tup [.one (.ptr 2 0),tE (Qn s)],opH (aW s).1 (lO s).1 (lO s).2.1 s (kT s).rs (gF s)):=by
 obtain⟨f,g,h3,h4⟩:=Yn h;have b:=H5 f;have t:=b.cl;have u:=b.n;have v:=b.tb;have w:=b.mi;have hp:=aIg (bb:=bb) k s c m f ⟨⟨by omega,by omega⟩,⟨by omega,by omega⟩⟩;change Pre G bb s (aW s).1 (lO s).1 (lO s).2.1 (lO s).2.2 at hp;rw[g] at hp;have x:=(Qp s c).1.ln;obtain⟨i,a⟩:=K7 c g h3;obtain⟨K,l,p,r,_⟩:=Vm h3;obtain⟨d,j,e⟩:=Bb (qJ i a);unfold Qn gF;rw[r] at h4 i a d j e ⊢;exact aRi hp (by omega) K l p d ⟨by omega,by omega⟩ (by omega) (fun q o=>by have:=e q o;omega) h4
end
section
variable {G:aF}{bb:Bool}
structure Tok (x:Bt) (N:Nat) (C:List Int):Prop where
 b:Bok x N
 rg:∀c∈C,1<=c/\c<=x.cl-2
 mi:∀c∈C,¬ (x.mi<=c/\c<=x.mi+7)
 nd:C.Nodup
 ev:C.length % 2=0
 ln:16<=C.length / 2/\C.length / 2<=96
 h0:C.getD 0 0=x.tb/\C.getD 1 0=x.tb+1
theorem aMP{l:L aV}(e:∀q∈l,q.s≠-1){c:Int}(h:c∈rW l):∃q∈l,q.s<=c/\c<q.s+q.n:=by
 obtain⟨q,d,a⟩:=List.mem_flatMap.1 h;refine⟨q,d,?_⟩;unfold As at a;obtain⟨k,b,rfl⟩:=List.mem_map.1 a;have b:=List.mem_range.1 b;rw[if_neg (e q d)];omega
theorem Gi{b:Bool}{e:Int}(a:e≠0)(h:pW b e=0):b=true:=by
 unfold pW at h;split at h
 assumption
 exact absurd h a
theorem aRl{x:Bt}{a:aJ}(h:Eg x a=0):a.res=false/\a.fi=0/\(∀q∈a.rs,q.s≠-1)/\∀q∈a.rs,q.s+q.n<=x.cl:=by
 obtain⟨b,c,h3⟩:=A2 h;have b:=Gi (by decide) b;have c:=Gi (by decide) c;have h3:=Gi (by decide) h3;simp only[aZp,bAc,decide_eq_true_eq,bAm] at b c h3;exact⟨b.1,b.2,fun q d e=>c q d e,fun q d=>by have:=h3 q d;omega⟩
theorem aMQ{x:Bt}{C:L Int}(h:tQ x C=false):∀k (a:k<C.length),C[k]≠0/\C[k]≠x.cl-1/\¬ C[k]∈C.take k/\¬ (x.mi<=C[k]/\C[k]<=x.mi+7):=by
 intro k a;have h:=of_decide_eq_false h;have e:C.getD k 0=C[k]:=by simp[a]
 refine⟨fun q=>h ⟨k,a,.inl ?_⟩,fun q=>h ⟨k,a,.inl ?_⟩,fun q=>h ⟨k,a,.inl ?_⟩,fun q=>h ⟨k,a,.inr ?_⟩⟩
 rw[e,q];simp;rw[e,q];simp;rw[e];simp[q];rw[e];omega
theorem jK{s:L Int}(D:aK s)(h:mM s=0):nO s=0/\Qn s=0/\Tok (aW s).1 s.length (gF s):=by
 have l:nO s=0:=by
  unfold mM at h;by_cases q:nO s=0;exact q;rw[if_pos q] at h;exact absurd h q
 have m:Qn s=0:=by
  unfold mM at h;rw[if_neg (not_not_intro l)] at h;exact h
 obtain⟨x,y,z,A⟩:=Yn l;have b:=H5 x;obtain⟨C,n⟩:=K7 D y z;obtain⟨I,J,v⟩:=Bb (qJ C n);obtain⟨K,M,u,w⟩:=aRl A;refine⟨l,m, ?_⟩;unfold Qn clE at m;obtain⟨f,d,g⟩:=A2 m;have f:=Gi (by decide) f;have d:=Gi (by decide) d;have g:=Gi (by decide) g;simp only[aZp,bAc,decide_eq_true_eq] at f d g;have t:=aMQ f;have H:∀ c∈gF s,0<=c/\c < (aW s).1.cl:=fun c a=>by
  obtain⟨q,p,l,m⟩:=aMP u a;have:=w q p;have:=v q p;have:=u q p;omega
 refine⟨b,fun c a=>?_,fun c a=>?_,?_,d.1,d.2,g.2⟩
 have r:=H c a;obtain⟨k,o,rfl⟩:=List.mem_iff_getElem.1 a;have:=t k o;omega;obtain⟨k,o,rfl⟩:=List.mem_iff_getElem.1 a;exact (t k o).2.2.2;rw[List.nodup_iff_pairwise_ne,bAO];intro i j N F E e;refine (t j F).2.2.1 ?_;rw[<- e];exact List.mem_take_iff_getElem.2 ⟨i,by omega,rfl⟩
noncomputable def Yo(s:L Int)(x:Bt)(C:L Int)(n:Nat):cL×Int×Int:=
 Vk (Bm s (C.getD (2*n) 0).toNat (C.getD (2*n+1) 0).toNat) (if n<4 then Bm s (x.mi.toNat+2*n) (x.mi.toNat+2*n+1) else Bm s (C.getD (2*n) 0).toNat (C.getD (2*n+1) 0).toNat)
theorem Tok.at{x:Bt}{N:Nat}{C:L Int}(h:Tok x N C){k:Nat}(a:k<C.length):∃c:Nat,C.getD k 0=c/\c*256+256<=N/\1<=c/\c*256+512<=N:=by
 have e:C.getD k 0=C[k]:=by simp[a]
 have:=h.rg _ (aZk a);have:=h.b.cl;have:=h.b.n;exact⟨C[k].toNat,by omega,by omega,by omega,by omega⟩
theorem aBd(m:G9 G)(x:Bt)(f g:DC)(s:L Int)(l:aK s)(o:s.length<=200000)(C:L Int)(i:Tok x s.length C)(n:Nat)(J:n<C.length / 2):EV G (Tb (dU G bb)) 85 [.one (.ptr 0 0),vi n] [sX x f g s.length (.slc (el C)),yb s]=some (dcv (Yo s x C n),[sX x f g s.length (.slc (el C)),yb s]):=by
 have t:=i.ln;have j:=Ak (G:=G) (B:=dU G bb) x f g s.length C s n (by omega) (by omega);obtain⟨a,p,w,z,_⟩:=i.at (k:=2*n) (by omega);obtain⟨c,q,H,I,_⟩:=i.at (k:=2*n+1) (by omega);obtain⟨b,_,_,_,_,_⟩:=i;have A:=b.cl;have D:=b.n;have F:=b.mi;unfold Yo;rw[p,q] at j ⊢;rw[aZN,aZN];by_cases h4:n<4
 ·rw[if_pos h4];have v:=Gg (G:=G) (B:=dU G bb) x f g (.slc (el C)) s.length s n (by omega) (by omega);have h:=K5 (G:=G) (bb:=bb) m x f g (.slc (el C)) s l s.length a c (x.mi.toNat+2*n) (x.mi.toNat+2*n+1) rfl (by omega) (by omega) (by omega) (by omega) o;rw[aBc (a:=x.mi.toNat+2*n) (x:=x.mi+2*n) (y:=x.mi+2*n+1) (by omega) (by omega)] at h;have d:(n:Int)<4:=by omega
  generalize Vk _ _=E at *;obtain⟨r,u,e⟩:=E;refine aB rfl ?_;simp (maxSteps:=2000000) (disch:=omega) only[go_sem,h85c,j,v,h,d,aZa];try rfl
 ·rw[if_neg h4];have h:=K5 (G:=G) (bb:=bb) m x f g (.slc (el C)) s l s.length a c a c rfl (by omega) (by omega) (by omega) (by omega) o;have d:¬ (n:Int)<4:=by omega
  generalize Vk _ _=E at *;obtain⟨r,u,e⟩:=E;refine aB rfl ?_;simp (maxSteps:=2000000) (disch:=omega) only[go_sem,h85c,j,h,d,aZa];try rfl
end
section
variable {G:aF}{bb:Bool}
noncomputable def tR(s:L Int):Nat:=(gF s).length / 2
theorem Qq{s:L Int}(h:mM s≠0):(nO s≠0/\nO s=mM s)\/(nO s=0/\Qn s=mM s):=by
 unfold mM at h ⊢;by_cases q:nO s=0;rw[if_neg (not_not_intro q)];exact .inr ⟨q,rfl⟩;rw[if_pos q];exact .inl ⟨q,rfl⟩
theorem K8(b:G9 G)(s:L Int)(a:aK s)(c:s.length<=200000)(n:Int)(h:mM s≠0):EV G (Tb (dU G bb)) 21 [sv s,vi n] []=some (.tup [ptN,tE (mM s)],[]):=by
 rcases Qq h with⟨q,e⟩|⟨q,e⟩;have o:=Eh (bb:=bb) b s a c q;rw[e] at o;refine aB rfl ?_;simp (maxSteps:=2000000) (disch:=omega) only[go_sem,h21c,o,h];have o:=qK (bb:=bb) b s a c q;rw[e] at o;generalize gF s=C at *;refine aB rfl ?_;simp (maxSteps:=2000000) (disch:=omega) only[go_sem,h21c,o,h,aZl,aZm,dY,pG]
theorem Bc(b:G9 G)(s:L Int)(a:aK s)(d:s.length<=200000)(n:Int)(h:mM s=0):EV G (Tb (dU G bb)) 21 [sv s,vi n] []=some (.tup [.one (.ptr 2 0),tE (pW (decide (0<=n/\n<=(tR s:Int)-1)) 6)],opH (aW s).1 (lO s).1 (lO s).2.1 s (kT s).rs (gF s)):=by
 obtain⟨f,g,c⟩:=jK a h;have o:=qK (bb:=bb) b s a d f;rw[g] at o;have e:=c.ln;have w:=kG (G:=G) (B:=dU G bb) n 0 ((tR s:Int)-1);have u:=iY (G:=G) (B:=dU G bb);unfold tR at w ⊢;change _=some (_,opH (aW s).1 (lO s).1 (lO s).2.1 s (kT s).rs (gF s));generalize gF s=C at *;generalize (aW s).1=x at *;generalize (lO s).1=r at *;generalize (lO s).2.1=j at *;generalize (kT s).rs=i at *;refine aB rfl ?_;simp (maxSteps:=2000000) (disch:=omega) only[go_sem,h21c,o,w,u,aZl,aZm,dY,pG]
noncomputable def N5(s:L Int)(n:Int):Int:=if mM s≠0 then mM s else pW (decide (0<=n/\n<=(tR s:Int)-1)) 6
theorem aNQ{s:L Int}{n:Int}(h:N5 s n=0):mM s=0/\0<=n/\n.toNat<tR s:=by
 unfold N5 at h;by_cases q:mM s=0;rw[if_neg (not_not_intro q)] at h;have:=of_decide_eq_true (Gi (by decide) h);exact⟨q,this.1,by omega⟩;rw[if_pos q] at h;exact absurd h q
theorem aNR{s:L Int}{n:Int}(h:N5 s n≠0):mM s≠0/\N5 s n=mM s\/mM s=0/\N5 s n=6/\pW (decide (0<=n/\n<=(tR s:Int)-1)) 6=6:=by
 unfold N5 at h ⊢;by_cases q:mM s=0;rw[if_neg (not_not_intro q)] at h ⊢;unfold pW at h ⊢;split;rename_i r;rw[if_pos r] at h;exact absurd rfl h;exact .inr ⟨q,rfl,rfl⟩;rw[if_pos q];exact .inl ⟨q,rfl⟩
theorem N6(d:G9 G)(s:L Int)(c:aK s)(f:s.length<=200000)(n:Int):EV G (Tb (dU G bb)) 7 [sv s,vi n] []=some (.tup [tI (if N5 s n=0 then (gF s).getD (2*n.toNat) 0 else 0),tE (N5 s n)],[]):=by
 by_cases h:N5 s n=0;rw[if_pos h,h];obtain⟨a,b,h3⟩:=aNQ h;have o:=Bc (bb:=bb) d s c f n a;obtain⟨_,_,j⟩:=jK c a;have k:=j.ln;have e:pW (decide (0<=n/\n<=(tR s:Int)-1)) 6=0:=by rw[decide_eq_true (by omega)];rfl
 rw[e] at o;have i:n=(n.toNat:Int):=by omega
 unfold tR at h3;have g:=Ak (G:=G) (B:=dU G bb) (aW s).1 (.slc ((kT s).rs.map aV.e)) (ci ((gF s).length / 2:Nat)) s.length (gF s) s n.toNat (by omega) (by omega);rw[<- i] at g;generalize (gF s).getD (2*n.toNat) 0=p at *;generalize (gF s).getD (2*n.toNat+1) 0=q at *;generalize gF s=C at *;generalize (aW s).1=x at *;generalize (lO s).1=r at *;generalize (lO s).2.1=m at *;generalize (kT s).rs=l at *;refine aB rfl ?_;simp (maxSteps:=2000000) (disch:=omega) only[go_sem,h7c,o,g,aZl,aZm,dY,pG,qU,nS];rw[if_neg h];rcases aNR h with⟨a,b⟩|⟨a,b,h3⟩
 have o:=K8 (bb:=bb) d s c f n a;rw[b];refine aB rfl ?_;simp (maxSteps:=2000000) (disch:=omega) only[go_sem,h7c,o,a];have o:=Bc (bb:=bb) d s c f n a;rw[h3] at o;rw[b];generalize gF s=C at *;generalize (aW s).1=x at *;generalize (lO s).1=r at *;generalize (lO s).2.1=m at *;generalize (kT s).rs=l at *;refine aB rfl ?_;simp (maxSteps:=2000000) (disch:=omega) only[go_sem,h7c,o,aZl,aZm,dY,pG]
noncomputable def rrV(s:L Int)(n:Int):cL×Int×Int:=if N5 s n=0 then Yo s (aW s).1 (gF s) n.toNat else (.nil,0,N5 s n)
theorem aDA(d:G9 G)(s:L Int)(b:aK s)(f:s.length<=200000)(n:Int):EV G (Tb (dU G bb)) 53 [sv s,vi n] []=some (dcv (rrV s n),[]):=by
 unfold rrV;by_cases h:N5 s n=0
 ·rw[if_pos h];obtain⟨a,c,h3⟩:=aNQ h;have o:=Bc (bb:=bb) d s b f n a;obtain⟨_,_,j⟩:=jK b a;have e:pW (decide (0<=n/\n<=(tR s:Int)-1)) 6=0:=by rw[decide_eq_true (by omega)];rfl
  rw[e] at o;have i:n=(n.toNat:Int):=by omega
  unfold tR at h3;have g:=aBd (bb:=bb) d (aW s).1 (.slc ((kT s).rs.map aV.e)) (ci ((gF s).length / 2:Nat)) s b f (gF s) j n.toNat h3;rw[<- i] at g;generalize Yo s (aW s).1 (gF s) n.toNat=E at *;generalize gF s=C at *;generalize (aW s).1=x at *;generalize (lO s).1=r at *;generalize (lO s).2.1=l at *;generalize (kT s).rs=k at *;obtain⟨p,q,m⟩:=E;refine aB rfl ?_;simp (maxSteps:=2000000) (disch:=omega) only[go_sem,h53c,o,g,aZl,aZm,dY,pG];try rfl
 rw[if_neg h];rcases aNR h with⟨a,c⟩|⟨a,c,h3⟩
 ·have o:=K8 (bb:=bb) d s b f n a;rw[c];refine aB rfl ?_;simp (maxSteps:=2000000) (disch:=omega) only[go_sem,h53c,o,a];try rfl
 ·have o:=Bc (bb:=bb) d s b f n a;rw[h3] at o;rw[c];generalize gF s=C at *;generalize (aW s).1=x at *;generalize (lO s).1=r at *;generalize (lO s).2.1=l at *;generalize (kT s).rs=k at *;refine aB rfl ?_;simp (maxSteps:=2000000) (disch:=omega) only[go_sem,h53c,o,aZl,aZm,dY,pG];try rfl
end
section
variable {G:aF}{bb:Bool}
theorem N7{B:aO}(r:cL):EV G (Tb B) 54 [r.v] []=some (vb (fJ r.fl),[]):=by
 refine aB rfl ?_;unfold fJ;by_cases c:r.fl % 2=1;have d:¬ r.fl % 2=0:=by omega
 simp (disch:=omega) only[go_sem,h54c,aMa,d,decide_eq_true c];have d:r.fl % 2=0:=by omega
 simp (disch:=omega) only[go_sem,h54c,aMa,eq_true d,decide_eq_false c]
noncomputable def aMR(s:L Int)(a b:Int):cL×Int:=if (rrV s a).2.2≠0 then (.nil,(rrV s a).2.2) else if fJ (rrV s a).1.fl=true/\(rrV s a).1.sq=b then ((rrV s a).1,0) else (.nil,32)
theorem aDB(j:G9 G)(s:L Int)(i:aK s)(k:s.length<=200000)(a b:Int):EV G (Tb (dU G bb)) 19 [sv s,rfv a b] []=some (rcv (aMR s a b),[]):=by
 have q:=aDA (bb:=bb) j s i k a;have u:=iY (G:=G) (B:=dU G bb);have f:=pR (G:=G) (B:=dU G bb);unfold aMR;generalize rrV s a=E at *;obtain⟨r,l,e⟩:=E;have c:=N7 (G:=G) (B:=dU G bb) r;simp only at q ⊢;by_cases h:e=0;rw[if_neg (not_not_intro h)];subst h;cases d:fJ r.fl
 ·rw[d] at c;rw[if_neg (fun h=>by cases h.1)]
  refine aB rfl ?_;simp (maxSteps:=2000000) (disch:=omega) only[go_sem,h19c,q,u,f,c,bY,dZ,eP];try rfl
 rw[d] at c;by_cases g:r.sq=b
 ·rw[if_pos ⟨rfl,g⟩];refine aB rfl ?_;simp (maxSteps:=2000000) (disch:=omega) only[go_sem,h19c,q,u,f,c,bY,dZ,eP,eq_true g];try rfl
 ·rw[if_neg (fun h=>g h.2)]
  refine aB rfl ?_;simp (maxSteps:=2000000) (disch:=omega) only[go_sem,h19c,q,u,f,c,bY,dZ,eP,g];try rfl
 rw[if_pos h];refine aB rfl ?_;cases d:fJ r.fl
 ·rw[d] at c;simp (maxSteps:=2000000) (disch:=omega) only[go_sem,h19c,q,u,f,c,bY,dZ,eP,h];try rfl
 ·rw[d] at c;simp (maxSteps:=2000000) (disch:=omega) only[go_sem,h19c,q,u,f,c,bY,h];try rfl
abbrev bo1(b:Bool):L DC:=[.raw (.bool b)]
noncomputable def usB(s:L Int)(x:Bt)(C:L Int)(k:Nat):Bool:=fJ (Yo s x C k).1.fl
noncomputable def Yp(s:L Int)(x:Bt)(C:L Int)(k:Nat):L Bool:=(List.range k).map (usB s x C)
theorem aVL(s:L Int)(x:Bt)(C:L Int)(k:Nat):Yp s x C (k+1)=Yp s x C k++[usB s x C k]:=by simp[Yp,List.range_succ]
theorem H6(s:L Int)(x:Bt)(C:L Int)(k:Nat):(Yp s x C k).length=k:=by simp[Yp]
noncomputable def usI(s:L Int)(x:Bt)(C:L Int):Nat:=ix (fun k=>¬ (Yo s x C k).2.2=0) (C.length / 2)
noncomputable def usV(s:L Int):L Bool×Int:=if mM s≠0 then ([],mM s) else if usI s (aW s).1 (gF s)=tR s then (Yp s (aW s).1 (gF s) (tR s),0) else ([],(Yo s (aW s).1 (gF s) (usI s (aW s).1 (gF s))).2.2)
abbrev boV(p:L Bool×Int):AV:=.tup [.one (.dc (.slc (p.1.map bo1))),tE p.2]
theorem aRo(l:L Bool):gC 1 (l.map bo1)=true:=jD (f:=bo1) (fun _=>rfl) l
theorem aVM(l:L Bool)(b:Bool):l.map bo1++[[.raw (.bool b)]]=(l++[b]).map bo1:=by simp
theorem aRp(d:G9 G)(s:List Int)(c:aK s)(f:s.length<=200000):EV G (Tb (dU G bb)) 51 [sv s] []=some (boV (usV s),[]):=by
 unfold usV;by_cases h:mM s=0
 ·rw[if_neg (not_not_intro h)];obtain⟨A,D,p⟩:=jK c h;have o:=qK (bb:=bb) d s c f A;rw[D] at o;have z:=p.ln;unfold tR;have u:=fun n g=>aBd (bb:=bb) d (aW s).1 (.slc ((kT s).rs.map aV.e)) (ci ((gF s).length / 2:Nat)) s c f (gF s) p n g
  have K:=fun n=>N7 (G:=G) (B:=dU G bb) (Yo s (aW s).1 (gF s) n).1
  have y:∀n,usB s (aW s).1 (gF s) n=fJ (Yo s (aW s).1 (gF s) n).1.fl:=fun n=>rfl
  have L:=aVL s (aW s).1 (gF s);have m:=H6 s (aW s).1 (gF s);have v:Yp s (aW s).1 (gF s) 0=[]:=rfl;unfold usI;generalize Yp s (aW s).1 (gF s)=U at *;generalize usB s (aW s).1 (gF s)=M at *;generalize Yo s (aW s).1 (gF s)=R at *;generalize gF s=C at *;generalize (aW s).1=x at *;generalize (lO s).1=r at *;generalize (lO s).2.1=w at *;generalize (kT s).rs=H at *;refine aB rfl ?_;simp (maxSteps:=2000000) (disch:=omega) only[go_sem,h51c,o,aZl,aZm,dY,pG,jJ];rw[dN (fun k=>⟨(jk 4 (.one (.ptr 2 0)::jk 1 (.one (.bld 5 (U k).length)::jk 15 (vi (C.length / 2:Nat)::vi k::jk 19 [])))),opH x r w s H C++[.arr 0 1 ((U k).map bo1)]⟩) (fun k=>¬ (R k).2.2=0) (C.length / 2) ?_ ?_]
  rotate_left
  rw[v];rfl;intro k t g;have h3:=g k (aZe _);have j:=u k t;have J:=K k;rw[show U (k+1)=U k++[fJ (R k).1.fl] from by rw[L k,y k]]
  have l:=m k;generalize U k=V at *;generalize R k=E at *;obtain⟨F,I,i⟩:=E;have h3:i=0:=Classical.not_not.1 h3;subst h3;have b:(k:Int)<(C.length / 2:Nat):=by omega
  simp (maxSteps:=2000000) (disch:=omega) only[go_sem,h51l0,b,j,J,aZx,aZs,jJ,mL,aRo,aVM,aZb,aZa];obtain⟨t,hp,g⟩:=bE (fun k=>¬ (R k).2.2=0) (C.length / 2)
  generalize ix (fun k=>¬ (R k).2.2=0) (C.length / 2)=k at *
  by_cases a:k=C.length / 2;rw[if_pos a];have l:=m k;rw[<- a];generalize U k=V at *;rw[a] at l;rw[a];simp (maxSteps:=2000000) (disch:=omega) only[go_sem,h51l0,aZx,aZs,jJ,mL,aZa,aZl,aZm,dY,pG];rw[if_neg a];rcases hp with hp|⟨b,hp⟩
  exact absurd hp a;have j:=u k b;generalize R k=E at *;obtain⟨F,I,i⟩:=E;have hp:¬ i=0:=hp;have b:(k:Int)<(C.length / 2:Nat):=by omega
  simp (maxSteps:=2000000) (disch:=omega) only[go_sem,h51l0,b,j,hp,aZx,aZs,jJ,mL,aZa];rfl
 rw[if_pos h];rcases Qq h with⟨q,e⟩|⟨q,e⟩
 ·have o:=Eh (bb:=bb) d s c f q;rw[e] at o;refine aB rfl ?_;simp (maxSteps:=2000000) (disch:=omega) only[go_sem,h51c,o,h];try rfl
 ·have o:=qK (bb:=bb) d s c f q;rw[e] at o;generalize gF s=C at *;refine aB rfl ?_;simp (maxSteps:=2000000) (disch:=omega) only[go_sem,h51c,o,h,aZl,aZm,dY,pG];try rfl
abbrev inV(p:L Int×Int):AV:=.tup [.one (.dc (.slc (el p.1))),tE p.2]
theorem aMS(s:L Int)(a:aK s):(usV s).1.length<=96:=by
 unfold usV;by_cases h:mM s=0;rw[if_neg (not_not_intro h)];obtain⟨c,d,b⟩:=jK a h;split;show (Yp _ _ _ _).length<=_;rw[H6];exact b.ln.2;exact aZv _;rw[if_pos h];exact aZv _
noncomputable def ixB(l:L Bool):Int:=if ix (fun k=>l.getD k true=false) l.length=l.length then -1 else (ix (fun k=>l.getD k true=false) l.length:Nat)
theorem aIi{B:aO}(l:L Bool)(f:l.length<=1000000):EV G (Tb B) 52 [vl (l.map bo1),vb false] []=some (vi (ixB l),[]):=by
 refine aB rfl ?_;simp (disch:=omega) only[go_sem,h52c,aZa];unfold ixB;have e:∀k (a:k<l.length),(l.map bo1)[k]?=some (bo1 l[k]):=fun k a=>by rw[aZi,aZj a];rfl
 have c:∀k (a:k<l.length),l.getD k true=l[k]:=fun k a=>by simp[a]
 rw[dN (fun k=>⟨(vl (l.map bo1)::vb false::jk 5 (vi l.length::vi k::jk 10 [])),[]⟩) (fun k=>l.getD k true=false) l.length ?_ ?_]
 rotate_left
 rfl;intro k a d;have h3:=d k (aZe _);rw[c k a] at h3;have h4:l[k]=true:=by simpa using h3
 have q:=e k a;rw[h4] at q;simp (disch:=omega) only[go_sem,h52l0,aZa,q];obtain⟨a,hp,d⟩:=bE (fun k=>l.getD k true=false) l.length
 generalize ix (fun k=>l.getD k true=false) l.length=k at *
 rcases hp with rfl|⟨b,hp⟩;rw[if_pos rfl];simp (disch:=omega) only[go_sem,h52l0,aZa];rw[if_neg (by omega)];rw[c k b] at hp;have q:=e k b;rw[hp] at q;simp (disch:=omega) only[go_sem,h52l0,aZa,q]
noncomputable def frV(s:L Int):Int×Int:=if (usV s).2≠0 then (0,(usV s).2) else if ixB ((usV s).1.drop 16)<0 then (0,16) else (16+ixB ((usV s).1.drop 16),0)
theorem aRq{s:L Int}(b:aK s)(h:(usV s).2=0):16<=(usV s).1.length:=by
 unfold usV at h ⊢;by_cases h0:mM s=0;rw[if_neg (not_not_intro h0)] at h ⊢;obtain⟨g,i,c⟩:=jK b h0;split;show _<=(Yp _ _ _ _).length;rw[H6];exact c.ln.1;rename_i a;rw[if_neg a] at h;unfold usI tR at a;unfold usI at h;obtain⟨d,hp,f⟩:=bE (fun k=>¬ (Yo s (aW s).1 (gF s) k).2.2=0) ((gF s).length / 2)
 generalize ix (fun k=>¬ (Yo s (aW s).1 (gF s) k).2.2=0) ((gF s).length / 2)=K at *
 dsimp only at h hp;generalize (Yo s (aW s).1 (gF s) K).2.2=e at *;rcases hp with hp|⟨_,hp⟩
 exact absurd hp a;exact absurd h hp;rw[if_pos h0] at h;exact absurd h h0
theorem aRr(l:L Bool):-1<=ixB l/\ixB l<=l.length:=by
 unfold ixB;obtain⟨a,_⟩:=bE (fun k=>l.getD k true=false) l.length
 split<;>omega
theorem Vn(g:G9 G)(s:L Int)(f:aK s)(i:s.length<=200000):EV G (Tb (dU G bb)) 18 [sv s] []=some (.tup [tI (frV s).1,tE (frV s).2],[]):=by
 have o:=aRp (bb:=bb) g s f i;have j:=aMS s f;have b:=aRq (s:=s) f;unfold frV;generalize usV s=V at *;obtain⟨l,e⟩:=V;dsimp only at j o b ⊢;by_cases h:e=0;rw[if_neg (not_not_intro h)];have b:=b h;subst h;have q:=aIi (G:=G) (B:=dU G bb) (l.drop 16) (by rw[aZn];omega);have k:=aRr (l.drop 16);rw[aZn] at k;rw[bAq] at q;generalize ixB (l.drop 16)=I at *;have a:((l.map bo1).all fun e=>decide (e.length=1))=true:=by simp
 have c:(16:Int).toNat=16:=rfl;refine aB rfl ?_;by_cases d:I<0;rw[if_pos d];simp (maxSteps:=2000000) (disch:=omega) only[go_sem,h18c,o,q,d,aZa,a,if_true,c];rw[if_neg d];simp (maxSteps:=2000000) (disch:=omega) only[go_sem,h18c,o,q,d,aZa,a,if_true,c];rw[if_pos h];refine aB rfl ?_;simp (maxSteps:=2000000) (disch:=omega) only[go_sem,h18c,o,h]
