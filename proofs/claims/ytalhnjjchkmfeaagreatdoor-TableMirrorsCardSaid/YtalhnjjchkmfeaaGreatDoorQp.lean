/- Part. Conditions: none. -/
import Derived.Test.YtalhnjjchkmfeaaGreatDoorPp
import Derived.Test.YtalhnjjchkmfeaaGreatDoorPq
import Derived.Test.YtalhnjjchkmfeaaGreatDoorPa
import Derived.Test.YtalhnjjchkmfeaaGreatDoorSu
import Derived.Test.YtalhnjjchkmfeaaGreatDoorTy
import Derived.Test.YtalhnjjchkmfeaaGreatDoorPt
import Derived.Test.YtalhnjjchkmfeaaGreatDoorSg
namespace Go.Proofs.YtalhnjjchkmfeaaGreatDoor
set_option maxHeartbeats 32000000
set_option linter.unusedSimpArgs false
set_option linter.unusedVariables false
set_option maxRecDepth 4000
section
variable {G:aF}{B:aO}
def qF(l b:L Int)(a c:Nat):L Int:=fE (fE l (a*256) (b.take 256)) (c*256) (b.drop 256)
def aM7(l b:L Int)(a c:Nat):Nat->L Int
 |0=>l
 |1=>fE l (a*256) (b.take 256)
 |_=>qF l b a c
theorem Vx(l b:L Int)(N a c:Nat)(d:l.length=N)(i:b.length=512)(h:aJ b)(q:a*256+256<=N)(r:c*256+256<=N)(j:N<=200000):EV G (Tb B) 51 [.one (.bls 0 0 N 1),sv b,.agg [.dc (ci a),.dc (ci c)]] [yb l]=some (.tup [],[yb (qF l b a c)]):=by
 have s:=Qy (G:=G) (B:=B) l N a d q j;have m:(fE l (a*256) (b.take 256)).length=N:=by rw[cJ (by rw[aZD];omega),d]
 have t:=Qy (G:=G) (B:=B) (fE l (a*256) (b.take 256)) N c m r j;have n:aJ (b.take 256):=fun x e=>h x (aZZ e)
 have o:aJ (b.drop 256):=fun x e=>h x (bAa e)
 have g:=pK l (b.take 256) (a*256) 256 n (by rw[aZD];omega);rw[bAo,bA3,Nat.min_self] at g;have p:=pK (fE l (a*256) (b.take 256)) (b.drop 256) (c*256) 256 o (by rw[aZK];omega);have f:b.take 512=b:=aZ6 (by omega);have u:(256:Int).toNat=256:=rfl;refine aB rfl ?_;simp (maxSteps:=2000000) (disch:=omega) only[go_sem,h51c];rw[aT (fun k=>⟨(.one (.bls 0 0 N 1)::sv b::jk 6 (.agg [.dc (ci (a:Nat)),.dc (ci (c:Nat))]::vi k::jk 12 [])),[yb (aM7 l b a c k),.box [.dc (ci (a:Nat)),.dc (ci (c:Nat))]]⟩) 2 ?_ ?_]
 simp (maxSteps:=2000000) (disch:=omega) only[go_sem,h51l0,aM7];rfl;intro k v;rcases (show k=0\/k=1 by omega) with rfl|rfl
 simp (maxSteps:=2000000) (disch:=omega) only[go_sem,h51l0,aM7,nW,qY,s,aC,i,aZz,d,Int.zero_mul,Int.reduceMul,Int.reduceAdd,f,g,kS];simp (maxSteps:=2000000) (disch:=omega) only[go_sem,h51l0,aM7,qF,nW,tD,t,aC,i,aZz,d,m,Int.zero_mul,Int.reduceMul,Int.reduceAdd,f,u,p,kS]
end
section
variable {G:aF}{B:aO}
def Cr(s:L Int)(n:Nat):L Int:=(s.drop (n*256)).take 256
def qB(s:L Int)(a b:Nat):L Int:=Cr s a++Cr s b
abbrev pr2(a b:Nat):AV:=.agg [.dc (ci (a:Nat)),.dc (ci (b:Nat))]
theorem Vy{s:L Int}(h:aJ s)(n:Nat):aJ (Cr s n):=fun x a=>h x (bAa (aZZ a))
theorem kA{s:L Int}(h:aJ s)(a b:Nat):aJ (qB s a b):=fun x c=>by
 rcases bAY.1 c with q|q;exact Vy h a x q;exact Vy h b x q
theorem tF{s:L Int}{n:Nat}(h:n*256+256<=s.length):(Cr s n).length=256:=by
 rw[Cr,aZD,aZK];omega
theorem Bj{s:L Int}{a b:Nat}(h:a*256+256<=s.length)(c:b*256+256<=s.length):(qB s a b).length=512:=by
 rw[qB,aZA,tF h,tF c]
theorem aBp(s:L Int)(n:Nat):List.take 256 (List.drop (n*256) (s.map yC))=(Cr s n).map yC:=by rw[Cr,bAo,bAV]
def bkH(s:L Int)(a b:Nat):Nat->L Int
 |0=>[]
 |1=>Cr s a
 |_=>qB s a b
theorem Vz(x:Bt)(d e f:DC)(s:L Int)(q:aJ s)(N a b:Nat)(c:s.length=N)(j:a*256+256<=N)(l:b*256+256<=N)(g:N<=200000):EV G (Tb B) 97 [.one (.ptr 0 0),pr2 a b] [Cq x d e N f,yb s]=some (sv (qB s a b),[Cq x d e N f,yb s]):=by
 have o:=Qy (G:=G) (B:=B) s N a c j g;have p:=Qy (G:=G) (B:=B) s N b c l g;have h:jO (List.take 256 (List.drop (a*256) (s.map yC)))=some ((Cr s a).map u8):=by rw[aBp,lL]
 have i:jO (List.take 256 (List.drop (b*256) (s.map yC)))=some ((Cr s b).map u8):=by rw[aBp,lL]
 have t:=tF (s:=s) (n:=a) (by omega);have u:=tF (s:=s) (n:=b) (by omega);have m:dI ([]:L Int)=⟨#[]⟩:=rfl;refine aB rfl ?_;simp (maxSteps:=2000000) (disch:=omega) only[go_sem,h97c,<- m];rw[aT (fun k=>⟨(.one (.ptr 0 0)::jk 4 (sv (bkH s a b k)::jk 2 (pr2 a b::vi k::jk 13 []))),[Cq x d e N f,yb s,.box [.dc (ci (a:Nat)),.dc (ci (b:Nat))]]⟩) 2 ?_ ?_]
 simp (maxSteps:=2000000) (disch:=omega) only[go_sem,h97l0,bkH];simp (maxSteps:=2000000) (disch:=omega) only[go_sem,bkH];intro k r;rcases (show k=0\/k=1 by omega) with rfl|rfl
 simp (maxSteps:=2000000) (disch:=first|omega|(simp only[aZA,aZB,aZC,aZz,aA,aZH,aZD,aZK,aC,aS]<;>omega)|fail) only[go_sem,h97l0,bkH,nW,qY,o,c,h,To,aZR,Int.reduceAdd]
 simp (maxSteps:=2000000) (disch:=first|omega|(simp only[aZA,aZB,aZC,aZz,aA,aZH,aZD,aZK,aC,aS]<;>omega)|fail) only[go_sem,h97l0,bkH,qB,nW,tD,p,c,i,To,Int.reduceAdd]
theorem aV4{α:Type}(a b:α):[[a],[b]].flatten=[a,b]:=rfl
abbrev prI(a b:Int):AV:=.agg [.dc (ci a),.dc (ci b)]
theorem aIz(a:L Int)(n:Nat)(h:n+2<=a.length):a.drop n=a.getD n 0::a.getD (n+1) 0::a.drop (n+2):=by
 rw[bAv (by omega),bAv (by omega)];simp[show n<a.length by omega,show n+1<a.length by omega]
theorem aIA(x:Bt)(c d:DC)(N:Nat)(a:L Int)(s:L Int)(n:Nat)(h:2*n+2<=a.length)(i:a.length<=1000000):EV G (Tb B) 34 [.one (.ptr 0 0),vi n] [Cq x c d N (.slc (a.map fun n=>[ci n])),yb s]=some (prI (a.getD (2*n) 0) (a.getD (2*n+1) 0),[Cq x c d N (.slc (a.map fun n=>[ci n])),yb s]):=by
 have e:=aIz a (2*n) h;have w:(2:Int)*(n:Int)=((2*n:Nat):Int):=by omega
 have g:(a.map fun n=>[ci n]).length=a.length:=by rw[aZz]
 have f:List.drop (2*n) (a.map fun n=>[ci n])=[ci (a.getD (2*n) 0)]::[ci (a.getD (2*n+1) 0)]::(a.drop (2*n+2)).map fun n=>[ci n]:=by rw[<- bAV,e];rfl
 have b:((a.map fun n=>[DC.raw (Value.int .i64 n)]).all fun e=>decide (e.length=1))=true:=by simp
 generalize j:2*n=m at *;generalize a.getD m 0=A at *;generalize a.getD (m+1) 0=C at *;generalize (a.drop (m+2)).map (fun n=>[ci n])=R at *
 refine aB rfl ?_;simp (maxSteps:=2000000) (disch:=omega) only[go_sem,h34c,w,g,bAc,f,b,if_true,aBO,aV4]
theorem V0(x:Bt)(a b c:DC)(N:Nat)(s:L Int)(n:Nat)(h:n<=1000)(d:0<=x.mi/\x.mi<=1000):EV G (Tb B) 65 [.one (.ptr 0 0),vi n] [Cq x a b N c,yb s]=some (prI (x.mi+2*n) (x.mi+2*n+1),[Cq x a b N c,yb s]):=by
 have q:=Lc (G:=G) (B:=B) (x.mi+2*n) (by omega);refine aB rfl ?_;simp (maxSteps:=2000000) (disch:=omega) only[go_sem,h65c,q]
end
section
variable {G:aF}{bb:Bool}
end
section
variable {G:aF}{bb:Bool}
theorem aYb(l:L aI)(k:Nat)(a:k<l.length):((l.take (k+1)).map gY).flatten=((l.take k).map gY).flatten++gY l[k]:=by
 rw[bAB a,bAg,List.flatten_append];simp
abbrev bkv(p:L Int×Int):AV:=.tup [.one (.dc (.raw (.string (dI p.1)))),.one (.dc (ci p.2))]
abbrev cL.u(r:cL)(u:Int):AV:=.agg (r.c++[.dc (ci u)])
theorem aIB(F:G9 G)(r:cL)(g:r.W)(u:Int):EV G (Tb (lA bb)) 111 [r.u u] []=some (bkv (Gs r u),[]):=by
 refine aB rfl ?_;have x:=Ao (G:=G) (bb:=bb) r g;have w:=rY (G:=G) (bb:=bb) u 1 65535;have h:=rZ (G:=G) (bb:=bb);have y:=Ve (G:=G) (bb:=bb);unfold Gs aMt;by_cases c:aU [hZ r,un (decide (1<=u/\u<=65535)) 2]=0
 rw[if_neg (not_not_intro c)];obtain⟨M,N⟩:=aMu c;have J:1<=u/\u<=65535:=of_decide_eq_true (aHS (by decide) N);have i:=Ee M;have I:=i.ln;have l:=U5 i;have d:aJ (jZ r):=N8 fun p hp=>by
  obtain⟨a,v,rfl⟩:=List.mem_map.1 hp;exact (Qr (g.at' a v) (i.errs.1 a v)).1
 generalize hZ r=A at *;have P:(dI []:ByteArray)=⟨#[]⟩:=rfl;have z:=up (aBh (G:=G) (bb:=bb) F r (jZ r) i.n9 (by omega) d);have f:=Bc r (68+((jZ r).length:Int)) (jZ r) (by omega);have m:=Ef r (68+((jZ r).length:Int)) (jZ r) d;have K:((iO r (68+((jZ r).length:Int)) (jZ r)).drop 40).take 18=zl 18:=by
  refine Fq (by rw[aZD,aZK,f,aS];decide) (fun j H=>?_)
  rw[aZD,aZK,f] at H;rw[Fr _ _ _ _ (by omega),aBb,aHT _ _ _ _ (by omega) (by omega)]
 have L:=up (aDA (G:=G) (bb:=bb) _ u f m K J);unfold oQ;generalize iO r (68+((jZ r).length:Int)) (jZ r)=b at *;generalize nD b u 8=p at *;have t:jZ r=(r.ats.map gY).flatten:=rfl;rw[t] at z;clear t l d;simp (disch:=omega) only[go_sem,h111c,x,w,h,y,eq_true c,aZz];rw[aT (fun k=>⟨(jk 1 (.one (.ptr 0 0)::jk 3 (sv ((r.ats.take k).map gY).flatten::jk 18 (vl (r.ats.map aI.e)::vi r.ats.length::vi k::jk 21 [])))),[.box (r.c++[.dc (ci u)]),.arr 0 1 [[ci A],[ci (un (decide (1<=u/\u<=65535)) 2)]]]⟩) r.ats.length ?_ ?_]
 simp (disch:=omega) only[go_sem,h111l0,bAi,z,L,aZW,aZR];rfl;intro k n;have q:=up (Nn (G:=G) (bb:=bb) r.ats[k] (g.at' _ (aZG n)));rw[aYb r.ats k n];have o:=K1 (r.ats.take k) (aH0 g.at' k);have C:=N7 (r.ats.take k);have D:=rR (g.at' _ (aZG n));rw[aZD] at o;have O:(((r.ats.take k).map gY).flatten.length:Int)+(gY r.ats[k]).length<=9223372036854775807:=by omega
 clear o C D;generalize ((r.ats.take k).map gY).flatten=s at *;have E:fX .add (sv s) (sv (gY r.ats[k]))=some (sv (s++gY r.ats[k])):=by
  rw[Dn (by rw[aC,aC];omega),Hx]
 simp (disch:=omega) only[go_sem,h111l0,aZz,ixA,aI.e,q,E,aZW,aZR];rw[if_pos c];generalize hZ r=A at *;simp (disch:=omega) only[go_sem,h111c,x,w,h,y,c];rfl
end
section
variable {G:aF}{bb:Bool}
abbrev dcv(p:cL×Int×Int):AV:=.tup [.agg (p.1.c++[.dc (ci p.2.1)]),.one (.dc (ci p.2.2))]
end
section
variable {G:aF}{bb:Bool}
theorem Ld:∀a:L (L Int),(∀p∈a,(bN p).2=0)->iK a=(a.map fun p=>(bN p).1,0)
 |[],_=>rfl
 | p::t,h=>by
  have b:=h p aZT;have d:=Ld t (fun q c=>h q (aZ3 _ c))
  rw[iK,if_neg (not_not_intro b),d];simp
theorem Le:∀(a:L (L Int)) (k:Nat),k<a.length->(∀j,j<k->(bN (a.getD j [])).2=0)->(bN (a.getD k [])).2≠0->iK a=([],(bN (a.getD k [])).2)
 |[],k,c,_,_=>by simp at c
 | p::t,0,_,_,h=>by
  have b:(bN p).2≠0:=h;rw[iK,if_pos b];rfl
 | p::t,k+1,c,d,h=>by
  have e:(bN p).2=0:=d 0 (by omega);have g:=Le t k (by simpa using c) (fun j f=>d (j+1) (by omega)) h
  have b:(bN (t.getD k [])).2≠0:=h;rw[iK,if_neg (not_not_intro e),g,if_pos b];rfl
theorem Bv{l:L Int}(b:aJ l)(a k:Nat)(h:a+k<=l.length)(c:k<=4):0<=gL l a k/\gL l a k<=4294967295:=by
 have d:=kU b a k c;have:(256:Int) ^ k<=256 ^ 4:=by
  rcases k with _|_|_|_|_|k<;>first|decide|omega
 omega
theorem aRz{o:L Int}(d:o.length=512)(a:aJ o)(l:L aI):aQ5 (dZ o l):=by
 have b:=Bv a 16 2 (by omega) (by omega);have c:=Bv a 18 2 (by omega) (by omega);have h3:=Bv a 22 2 (by omega) (by omega);have h4:=Bv a 32 4 (by omega) (by omega);have h5:=Bv a 36 2 (by omega) (by omega);have h6:=Bv a 38 2 (by omega) (by omega);have h7:=Bv a 8 4 (by omega) (by omega);refine⟨?_,?_,?_,?_,?_,?_,?_⟩<;>simp only[dZ]<;>omega
abbrev r9(o:L Int):L aV:=[.dc (ci (gL o 16 2)),.dc (ci (gL o 18 2)),.dc (ci (gL o 22 2)),.dc (ci (gL o 32 4)),.dc (ci (gL o 36 2)),.dc (ci (gL o 38 2)),.dc (ci (gL o 8 4))]
abbrev z9:L aV:=[.dc (ci 0),.dc (ci 0),.dc (ci 0),.dc (ci 0),.dc (ci 0),.dc (ci 0),.dc (ci 0),.dc (.raw (.slice none 0 0)),.dc (ci 0)]
noncomputable def V1(o:L Int)(u:Int)(d:L aI×Int):cL×Int×Int:=if d.2≠0 then (.nil,0,d.2) else if hZ (dZ o d.1)≠0 then (.nil,0,hZ (dZ o d.1)) else (dZ o d.1,u,0)
def Q1:HC:=sB (sB (sB (sB (sB (sB (sB (sB h96c)))))))
abbrev aRA(e:Int):AV:=.tup [.agg [.dc (ci 0),.dc (ci 0),.dc (ci 0),.dc (ci 0),.dc (ci 0),.dc (ci 0),.dc (ci 0),.dc (.slc []),.dc (ci 0)],.one (.dc (ci e))]
theorem qZ(e:Int):dcv (.nil,0,e)=aRA e:=rfl
theorem aRB(o:List Int)(u:Int)(a:List (List Int))(K:a.length<=1000)(b:∀k (g:k<a.length),EV G (Tb (lO G bb)) 136 [sv a[k]] []=some (rtv (bN a[k]),[])) (l:EV G (Tb (lO G bb)) 116 [(dZ o (iK a).1).v] []=some (vi (hZ (dZ o (iK a).1)),[])) {st:AS} (y:st=⟨(jk 2 (.one (.ptr 0 0)::jk 2 (vi u::jk 1 (.one (.ptr 1 0)::jk 63 (vl (a.map pU)::vi a.length::vi (0:Nat)::jk 28 []))))),[.box z9,.box (r9 o++[.bld 2 0]),.arr 0 11 []]⟩):qC false [.cell 2 true 9,.tmp 3] 0 (sqK (EV G (Tb (lO G bb))) G Q1 (Bn 0 (EL (EV G (Tb (lO G bb))) G h96l0 [2,2,1,63,0,0] 3 st)))=some (dcv (V1 o u (iK a)),[]):=by
 have h:∀k (g:k<a.length),(a.map pU)[k]?=some (pU a[k]):=fun k g=>by rw[aZI,aZJ g];rfl
 have q:∀k (g:k<a.length),a.getD k []=a[k]:=fun k g=>by simp[List.getD,g]
 rw[dQ (fun k=>⟨(jk 2 (.one (.ptr 0 0)::jk 2 (vi u::jk 1 (.one (.ptr 1 0)::jk 63 (vl (a.map pU)::vi a.length::vi k::jk 28 []))))),[.box z9,.box (r9 o++[.bld 2 ((a.take k).map fun p=>(bN p).1.e).length]),.arr 0 11 ((a.take k).map fun p=>(bN p).1.e)]⟩) (fun k=>(bN (a.getD k [])).2≠0) a.length ?_ ?_]
 rotate_left
 rw[y];rfl;intro k g n;have E:=Classical.not_not.1 (n k (aZE _));rw[q k g] at E;have t:=b k g;have e:=h k g;have N:((a.take k).map fun p=>(bN p).1.e).length<=1000:=by rw[aZz,aZD];omega
 have s:gG 11 ((a.take k).map fun p=>(bN p).1.e)=true:=jH (f:=fun p=>(bN p).1.e) (fun _=>rfl) _
 have H:(a.take (k+1)).map (fun p=>(bN p).1.e)=(a.take k).map (fun p=>(bN p).1.e)++[(bN a[k]).1.e]:=by
  rw[bAB g,bAg,aZL,aZM]
 rw[H];clear l b h q y n H;have D:((a.take k).map fun p=>(bN p).1.e).take ((a.take k).map fun p=>(bN p).1.e).length=(a.take k).map fun p=>(bN p).1.e:=bAi
 generalize (a.take k).map (fun p=>(bN p).1.e)=C at *
 generalize bN a[k]=d at *;obtain⟨x,z⟩:=d;dsimp only at E t ⊢;subst E;generalize a[k]=p at *;rw[aZA];simp (disch:=omega) only[go_sem,h96l0,aZz,e,t,aI.e,s,D,aZB,aZC,aZE,aZW,aZR,bAm];obtain⟨g,hp,n⟩:=bF (fun k=>(bN (a.getD k [])).2≠0) a.length
 generalize ix (fun k=>(bN (a.getD k [])).2≠0) a.length=k at *
 rcases hp with rfl|⟨i,hp⟩
 have r:=Ld a (fun p hp=>by
  obtain⟨j,A,rfl⟩:=List.mem_iff_getElem.1 hp;have:=Classical.not_not.1 (n j A);rwa[q j A] at this)
 have F:(a.take a.length).map (fun p=>(bN p).1.e)=(a.map fun p=>(bN p).1).map aI.e:=by rw[bAi,aZ5];rfl
 have m:((a.map fun p=>(bN p).1).map aI.e).length=a.length:=by simp
 have I:((a.map fun p=>(bN p).1).map aI.e).take a.length=(a.map fun p=>(bN p).1).map aI.e:=aZ6 (by omega)
 rw[F,m];rw[r] at l ⊢;unfold V1;rw[if_neg (not_not_intro rfl)];dsimp only at l ⊢;clear b h q y r F n;generalize (a.map fun p=>(bN p).1)=L at *
 by_cases w:hZ (dZ o L)=0;rw[if_neg (not_not_intro w)];rw[w] at l;simp only[dZ,cL.v,cL.c] at l;generalize J:L.map aI.e=M at *;simp (disch:=omega) only[go_sem,Q1,sB,h96c,h96l0,aZz,l,m,I,aZE,aZW,aZR];simp only[dcv,dZ,cL.c,J,aZW,aZR];rw[if_pos w,qZ];generalize hZ (dZ o L)=O at *;simp only[dZ,cL.v,cL.c] at l;generalize L.map aI.e=M at *;simp (disch:=omega) only[go_sem,Q1,sB,h96c,h96l0,aZz,l,w,m,I,aZE,aZW,aZR];have r:=Le a k i (fun j A=>Classical.not_not.1 (n j A)) hp
 rw[q k i] at hp r;rw[r];unfold V1;dsimp only;rw[if_pos hp,qZ];have t:=b k i;have e:=h k i;clear b h q y r n l;generalize (a.take k).map (fun p=>(bN p).1.e)=C at *
 generalize bN a[k]=d at *;obtain⟨x,z⟩:=d;dsimp only at hp t ⊢;generalize a[k]=p at *;simp (disch:=omega) only[go_sem,Q1,sB,h96c,h96l0,aZz,e,t,aI.e,hp,aZW,aZR]
end
section
variable {G:aF}{bb:Bool}
theorem V2(e:G9 G)(s:L Int)(p:aJ s)(Z:s.length<=9223372036854775807):EV G (Tb (lO G bb)) 96 [sv s] []=some (dcv (dG s),[]):=by
 refine aB rfl ?_;unfold dG;by_cases d:s.length=512;rw[if_neg (not_not_intro d)];have g:=Fu (up (aQ0 (G:=G) (bb:=bb) s d p));by_cases h:gU s;rw[if_neg (not_not_intro h)];rw[if_pos h] at g;have N:¬ gR s=0:=h.1;have S:=qK d;have a:=Ky d p;have t:EV G (Tb (lO G bb)) 132 [Mc 16 2,sv (eQ s)] []=some (vi (gL (eQ s) 16 2),[]):=Fu (up (Al (G:=G) (bb:=bb) (eQ s) a 16 2 (by omega) (by omega) (by omega)));have w:EV G (Tb (lO G bb)) 132 [Mc 18 2,sv (eQ s)] []=some (vi (gL (eQ s) 18 2),[]):=Fu (up (Al (G:=G) (bb:=bb) (eQ s) a 18 2 (by omega) (by omega) (by omega)));have x:EV G (Tb (lO G bb)) 132 [Mc 22 2,sv (eQ s)] []=some (vi (gL (eQ s) 22 2),[]):=Fu (up (Al (G:=G) (bb:=bb) (eQ s) a 22 2 (by omega) (by omega) (by omega)));have y:EV G (Tb (lO G bb)) 132 [Mc 32 4,sv (eQ s)] []=some (vi (gL (eQ s) 32 4),[]):=Fu (up (Al (G:=G) (bb:=bb) (eQ s) a 32 4 (by omega) (by omega) (by omega)));have z:EV G (Tb (lO G bb)) 132 [Mc 36 2,sv (eQ s)] []=some (vi (gL (eQ s) 36 2),[]):=Fu (up (Al (G:=G) (bb:=bb) (eQ s) a 36 2 (by omega) (by omega) (by omega)));have A:EV G (Tb (lO G bb)) 132 [Mc 38 2,sv (eQ s)] []=some (vi (gL (eQ s) 38 2),[]):=Fu (up (Al (G:=G) (bb:=bb) (eQ s) a 38 2 (by omega) (by omega) (by omega)));have C:EV G (Tb (lO G bb)) 132 [Mc 8 4,sv (eQ s)] []=some (vi (gL (eQ s) 8 4),[]):=Fu (up (Al (G:=G) (bb:=bb) (eQ s) a 8 4 (by omega) (by omega) (by omega)));have n:=Fu (up (Y1 (G:=G) (bb:=bb) (eQ s) S a));have D:=e.sq;have E:=e.li;have F:=e.fl;have H:=e.ba;have I:=e.bo;have J:=e.nx;have K:=e.ls;cases m:Ak ((eQ s).drop 64) with
 |none=>
  rw[m] at n;generalize gR s=u at *;simp (maxSteps:=2000000) (disch:=omega) only[go_sem,h96c,aC,d,g,N,D,E,F,H,I,J,K,t,w,x,y,z,A,C,n,cL.nil];all_goals rfl
 |some b=>
  rw[m] at n;obtain⟨P,Q,h3,h4⟩:=Yz d p m;have T:=aMH (G:=G) (bb:=bb) b (by omega) (by omega);have q:=Fu (up (aBh (G:=G) (bb:=bb) e (dZ (eQ s) []) b.flatten (aRz S a []) Q h4));have o:=cR (Ef (dZ (eQ s) []) (68+(b.flatten.length:Int)) b.flatten h4) a;have l:=aQ6 d p m;have O:U3 s b=if iO (dZ (eQ s) []) (68+(b.flatten.length:Int)) b.flatten≠eQ s then (.nil,0,3) else V1 (eQ s) (gR s) (iK b):=rfl
  dsimp only;rw[O];clear O;by_cases f:iO (dZ (eQ s) []) (68+(b.flatten.length:Int)) b.flatten=eQ s;rw[if_neg (not_not_intro f)];rw[eq_true f] at o;have W:=f;have M:b.length<=1000:=by omega
  have j:∀ k (R:k < b.length),EV G (Tb (lO G bb)) 136 [sv b[k]] []=some (rtv (bN b[k]),[]):=fun k R=>by
   obtain⟨U,V,_⟩:=P _ (aZG R);exact Fu (up (aDu (G:=G) (bb:=bb) b[k] U V))
  have X:=Fu (Ao (G:=G) (bb:=bb) (dZ (eQ s) (iK b).1) l);clear P Q h3 h4 l f m;generalize b.flatten=i at *;generalize iO (dZ (eQ s) []) (68+(i.length:Int)) i=Y at *;simp only[dZ,cL.v,cL.c,aZM] at q;generalize gR s=u at *;simp (maxSteps:=2000000) (disch:=omega) only[go_sem,h96c,aC,d,g,N,D,E,F,H,I,J,K,t,w,x,y,z,A,C,n,T,q,o,Jr,aZz];exact aRB (eQ s) u b M j X rfl
  ·rw[if_pos f];rw[eq_false f] at o;generalize b.flatten=i at *;generalize iO (dZ (eQ s) []) (68+(i.length:Int)) i=Y at *;simp only[dZ,cL.v,cL.c,aZM] at q;generalize gR s=u at *;simp (maxSteps:=2000000) (disch:=omega) only[go_sem,h96c,aC,d,g,N,D,E,F,H,I,J,K,t,w,x,y,z,A,C,n,T,q,o,Jr,cL.nil];all_goals rfl
 ·rw[if_pos h];rw[if_neg h] at g;simp (maxSteps:=2000000) (disch:=omega) only[go_sem,h96c,aC,d,g,cL.nil];all_goals rfl
 ·rw[if_pos d];have r:¬ (s.length:Int)=512:=by omega
  simp (maxSteps:=2000000) (disch:=omega) only[go_sem,h96c,aC,r,cL.nil];all_goals rfl
end
section
variable {G:aF}{bb:Bool}
noncomputable def Q2(p q:L Int):cL×Int×Int:=if (dG p).2.2=0 then dG p else if (dG q).2.2=0 then dG q else dG p
theorem Lf(n:G9 G)(x:Bt)(h i j:DC)(s:L Int)(k:aJ s)(N a b c d:Nat)(o:s.length=N)(w:a*256+256<=N)(y:b*256+256<=N)(z:c*256+256<=N)(h3:d*256+256<=N)(p:N<=200000):EV G (Tb (dU G bb)) 66 [.one (.ptr 0 0),pr2 a b,pr2 c d] [Cq x h i N j,yb s]=some (dcv (Q2 (qB s a b) (qB s c d)),[Cq x h i N j,yb s]):=by
 have l:=Vz (G:=G) (B:=dU G bb) x h i j s k N a b o w y p;have q:=Vz (G:=G) (B:=dU G bb) x h i j s k N c d o z h3 p;have m:=upT (V2 (bb:=bb) n (qB s a b) (kA k a b) (by rw[Bj (by omega) (by omega)];omega));have t:=upT (V2 (bb:=bb) n (qB s c d) (kA k c d) (by rw[Bj (by omega) (by omega)];omega));unfold Q2;generalize qB s a b=P at *;generalize qB s c d=Q at *;generalize dG P=X at *;generalize dG Q=Y at *;obtain⟨r,u,e⟩:=X;obtain⟨A,C,v⟩:=Y;refine aB rfl ?_;by_cases f:e=0;rw[if_pos f];simp (maxSteps:=2000000) (disch:=omega) only[go_sem,h66c,l,m,f];rfl;rw[if_neg f];by_cases g:v=0;rw[if_pos g];simp (maxSteps:=2000000) (disch:=omega) only[go_sem,h66c,l,m,q,t,f,g];rfl;rw[if_neg g];simp (maxSteps:=2000000) (disch:=omega) only[go_sem,h66c,l,m,q,t,f,g];rfl
end
section
variable {G:aF}{B:aO}
theorem aRC(c:Nat)(p:aI->Bool)(l:L aI)(h:l.length<=1000000)(g:∀a∈l,EV G (Tb B) c [a.v] []=some (vb (p a),[])):EV G (Tb B) 90 [vl (l.map aI.e),.one (.fn c [])] []=some (vi (jA p l),[]):=by
 refine aB rfl ?_;simp (disch:=omega) only[go_sem,h90c,aZz];unfold jA;rw[dQ (fun k=>⟨(vl (l.map aI.e)::.one (.fn c [])::jk 5 (vi l.length::vi k::jk 10 [])),[]⟩) (fun k=>p (l.getD k aI.nil)=true) l.length ?_ ?_]
 rotate_left
 rfl;intro k d f;have h3:=f k (aZE _);rw[fH l k d] at h3;have h4:p l[k]=false:=by simpa using h3
 have q:=g l[k] (aZG d);rw[h4] at q;simp (disch:=omega) only[go_sem,h90l0,aZz,ixA,aI.e,q];obtain⟨d,hp,f⟩:=bF (fun k=>p (l.getD k aI.nil)=true) l.length
 generalize ix (fun k=>p (l.getD k aI.nil)=true) l.length=k at *
 rcases hp with rfl|⟨b,hp⟩;rw[if_pos rfl];simp (disch:=omega) only[go_sem,h90l0,aZz];rw[if_neg (by omega)];rw[fH l k b] at hp;have q:=g l[k] (aZG b);rw[hp] at q;simp (disch:=omega) only[go_sem,h90l0,aZz,ixA,aI.e,q]
noncomputable def Y7(p:aX->Bool)(l:L aX):Int:=if ix (fun k=>p (l.getD k ⟨0,0⟩)=true) l.length=l.length then -1 else (ix (fun k=>p (l.getD k ⟨0,0⟩)=true) l.length:Nat)
theorem V3(p:aX->Bool)(l:L aX):decide (0<=Y7 p l)=l.any p:=by
 unfold Y7;obtain⟨e,hp,c⟩:=bF (fun k=>p (l.getD k ⟨0,0⟩)=true) l.length
 generalize ix (fun k=>p (l.getD k ⟨0,0⟩)=true) l.length=k at *
 rcases hp with rfl|⟨a,hp⟩;rw[if_pos rfl]
 symm
 rw[show decide ((0:Int)<=-1)=false from rfl,bAR]
 intro x d;obtain⟨j,b,rfl⟩:=List.getElem_of_mem d;have:=c j b;rw[jT l j b] at this;exact this;rw[if_neg (by omega),decide_eq_true (by omega)];rw[jT l k a] at hp;exact (List.any_eq_true.2 ⟨_,aZG a,hp⟩).symm
theorem aM8(a:Nat)(p:aX->Bool)(l:L aX)(b:l.length<=1000000)(c:∀r:aX,EV G (Tb B) a [r.v] []=some (vb (p r),[])):EV G (Tb B) 94 [cW l,.one (.fn a [])] []=some (vb (l.any p),[]):=by
 have q:EV G (Tb B) 129 [cW l,.one (.fn a [])] []=some (vi (Y7 p l),[]):=Uc (G:=G) (B:=B) p a c l b;rw[<- V3];generalize Y7 p l=I at *;refine aB rfl ?_;simp (disch:=omega) only[go_sem,h94c,q,ge_iff_le]
theorem aRD(c:Nat)(a:L DC)(p:aX->Bool)(l:L aX)(h:l.length<=1000000)(g:∀r∈l,EV G (Tb B) c [r.v,.one (.ptr 0 0)] [.box (a.map aV.dc)]=some (vb (p r),[.box (a.map aV.dc)])):EV G (Tb B) 129 [cW l,.one (.fn c [.ptr 0 0])] [.box (a.map aV.dc)]=some (vi (Y7 p l),[.box (a.map aV.dc)]):=by
 refine aB rfl ?_;simp (disch:=omega) only[go_sem,h129c,aZz,pP,pQ,pR,pS,mF];unfold Y7;rw[dQ (fun k=>⟨(cW l::.one (.fn c [.ptr 0 0])::jk 5 (vi l.length::vi k::jk 10 [])),[.box (a.map aV.dc)]⟩) (fun k=>p (l.getD k ⟨0,0⟩)=true) l.length ?_ ?_]
 rotate_left
 rfl;intro k d f;have h3:=f k (aZE _);rw[jT l k d] at h3;have h4:p l[k]=false:=by simpa using h3
 have q:=g l[k] (aZG d);rw[h4] at q;simp (disch:=omega) only[go_sem,h129l0,aZz,aX.e,q,pP,pQ,pR,pS,mF];obtain⟨d,hp,f⟩:=bF (fun k=>p (l.getD k ⟨0,0⟩)=true) l.length
 generalize ix (fun k=>p (l.getD k ⟨0,0⟩)=true) l.length=k at *
 rcases hp with rfl|⟨b,hp⟩;rw[if_pos rfl];simp (disch:=omega) only[go_sem,h129l0,aZz,pP,pQ,pR,pS,mF];rw[if_neg (by omega)];rw[jT l k b] at hp;have q:=g l[k] (aZG b);rw[hp] at q;simp (disch:=omega) only[go_sem,h129l0,aZz,aX.e,q,pP,pQ,pR,pS,mF]
theorem aM9(b:Nat)(a:L DC)(p:aX->Bool)(l:L aX)(c:l.length<=1000000)(d:∀r∈l,EV G (Tb B) b [r.v,.one (.ptr 0 0)] [.box (a.map aV.dc)]=some (vb (p r),[.box (a.map aV.dc)])):EV G (Tb B) 94 [cW l,.one (.fn b [.ptr 0 0])] [.box (a.map aV.dc)]=some (vb (l.any p),[.box (a.map aV.dc)]):=by
 have q:=aRD (G:=G) (B:=B) b a p l c d;rw[<- V3];generalize Y7 p l=I at *;refine aB rfl ?_;simp (disch:=omega) only[go_sem,h94c,q,ge_iff_le,pP,pQ,pR,pS,mF]
def jC(a:aI):Bool:=decide (a.ty=128)&&decide (a.nm=[])
theorem aIC(a:aI):EV G (Tb B) 91 [a.v] []=some (vb (jC a),[]):=by
 have e:=K9 a.nm;unfold jC;refine aB rfl ?_;by_cases c:a.ty=128;simp (disch:=omega) only[go_sem,h91c,eq_true c,e,decide_true,aZ8];simp (disch:=omega) only[go_sem,h91c,c,decide_false,bAh]
theorem aRE(r:aX):EV G (Tb B) 92 [r.v] []=some (vb (decide (r.s=-1)),[]):=by
 refine aB rfl ?_;simp (disch:=omega) only[go_sem,h92c]
theorem aID(r:aX)(x:Bt)(h:-1000000<=r.s/\r.s<=1000000)(a:-1000000<=r.n/\r.n<=1000000):EV G (Tb B) 93 [r.v,.one (.ptr 0 0)] [x.o]=some (vb (decide (r.s+r.n > x.cl)),[x.o]):=by
 have q:=pW (G:=G) (B:=B) r.s r.n h a;refine aB rfl ?_;simp (disch:=omega) only[go_sem,h93c,q]
theorem Y8(l:L aI)(b:l.length<=1000000):EV G (Tb B) 90 [vl (l.map aI.e),.one (.fn 91 [])] []=some (vi (jA jC l),[]):=aRC _ _ l b (fun a _=>aIC a)
theorem aBq(l:L aX)(a:l.length<=1000000):EV G (Tb B) 94 [cW l,.one (.fn 92 [])] []=some (vb (l.any fun r=>decide (r.s=-1)),[]):=aM8 _ _ l a aRE
abbrev Bt.d(x:Bt):L DC:=[ci x.cl,ci x.tb,ci x.mi,ci x.lg,ci x.lc,ci x.se]
theorem aBr(l:L aX)(x:Bt)(b:l.length<=1000000)(h:∀r∈l,(-1000000<=r.s/\r.s<=1000000)/\(-1000000<=r.n/\r.n<=1000000)):EV G (Tb B) 94 [cW l,.one (.fn 93 [.ptr 0 0])] [x.o]=some (vb (l.any fun r=>decide (r.s+r.n > x.cl)),[x.o]):=
 aM9 _ x.d _ l b (fun r a=>aID r x (h r a).1 (h r a).2)
end
section
variable {G:aF}{bb:Bool}
abbrev tE(e:Int):TV:=.one (.dc (ci e))
abbrev ptN:TV:=.one (.dc (.raw (.pointer none)))
theorem aIE{a b:Nat}{x y:Int}(h:(a:Int)=x)(c:(b:Int)=y):pr2 a b=prI x y:=by subst h;subst c;rfl
theorem aNa(s:L Int)(b:aJ s)(c:s.length<=200000)(h:(aQ s).2.2≠0):EV G (Tb (dU G bb)) 64 [sv s] []=some (.tup [ptN,tE (aQ s).2.2],[]):=by
 have q:=Lb (G:=G) (B:=dU G bb) As s b c;generalize aQ s=V at *;obtain⟨x,a,e⟩:=V;refine aB rfl ?_;simp (maxSteps:=2000000) (disch:=omega) only[go_sem,h64c,q,h,Bt.cs]
structure Pre (G:aF) (bb:Bool) (s:List Int) (x:Bt) (r:cL) (u e:Int):Prop where
 hB:aJ s
 pos:0<s.length
 len:s.length<=200000
 q:∃a,EV G (Tb (dU G bb)) 17 [sv s] []=some (.tup [.agg x.cs,tI a,tI 0],[])
 nT:EV G (Tb (dU G bb)) 52 [vi x.tb] []=some (prI x.tb (x.tb+1),[])
 nM:EV G (Tb (dU G bb)) 52 [vi x.mi] []=some (prI x.mi (x.mi+1),[])
 ei:EV G (Tb (dU G bb)) 66 [.one (.ptr 0 0),prI x.tb (x.tb+1),prI x.mi (x.mi+1)] [Cq x (.raw (.slice none 0 0)) (.raw (.int .i64 0)) s.length (.raw (.slice none 0 0)),yb s]=some (dcv (r,u,e),[Cq x (.raw (.slice none 0 0)) (.raw (.int .i64 0)) s.length (.raw (.slice none 0 0)),yb s])
def Ew(s:L Int)(x:Bt):L Int:=qB s x.tb.toNat (x.tb.toNat+1)
def Lu(s:L Int)(x:Bt):L Int:=qB s x.mi.toNat (x.mi.toNat+1)
theorem aIF(i:G9 G)(s:L Int)(b:aJ s)(c:s.length<=200000)(h:(aQ s).2.2=0)(j:(0<=(aQ s).1.tb/\(aQ s).1.tb*256+512<=s.length)/\(0<=(aQ s).1.mi/\(aQ s).1.mi*256+512<=s.length)):Pre G bb s (aQ s).1 (Q2 (Ew s (aQ s).1) (Lu s (aQ s).1)).1 (Q2 (Ew s (aQ s).1) (Lu s (aQ s).1)).2.1 (Q2 (Ew s (aQ s).1) (Lu s (aQ s).1)).2.2:=by
 have q:=Lb (G:=G) (B:=dU G bb) As s b c;generalize aQ s=V at *;obtain⟨x,a,e⟩:=V;simp only at h j q ⊢;subst h;obtain⟨T,l⟩:∃T:Nat,x.tb=T:=⟨x.tb.toNat,by omega⟩;obtain⟨M,k⟩:∃M:Nat,x.mi=M:=⟨x.mi.toNat,by omega⟩;have g:x.tb.toNat=T:=by omega
 have f:x.mi.toNat=M:=by omega
 have d:=Lf (G:=G) (bb:=bb) i x (.raw (.slice none 0 0)) (.raw (.int .i64 0)) (.raw (.slice none 0 0)) s b s.length T (T+1) M (M+1) rfl (by omega) (by omega) (by omega) (by omega) c;rw[aIE (x:=x.tb) (y:=x.tb+1) (by omega) (by omega),aIE (x:=x.mi) (y:=x.mi+1) (by omega) (by omega),<- g,<- f] at d;exact⟨b,by omega,c,⟨a,q⟩,Lc _ (by omega),Lc _ (by omega),d⟩
theorem aNb{s:L Int}{x:Bt}{r:cL}{u e:Int}(hp:Pre G bb s x r u e)(i:e≠0):EV G (Tb (dU G bb)) 64 [sv s] []=some (.tup [ptN,tE e],[]):=by
 obtain⟨g,c,m,⟨a,q⟩,l,k,f⟩:=hp;have h:=nQ s g;have d:=N6 (b:=s) rfl c;have j:=Cp s;refine aB rfl ?_;simp (maxSteps:=2000000) (disch:=omega) only[go_sem,h64c,q,Bt.cs,h,d,j,aC,aZz,l,k,f,i]
theorem aNc{s:L Int}{x:Bt}{r:cL}{u:Int}(hp:Pre G bb s x r u 0)(e:r.ats.length<=1000000)(j:jA jC r.ats<0):EV G (Tb (dU G bb)) 64 [sv s] []=some (.tup [ptN,tE 6],[]):=by
 obtain⟨g,c,n,⟨a,q⟩,l,k,f⟩:=hp;have h:=nQ s g;have d:=N6 (b:=s) rfl c;have i:=Cp s;have m:=Y8 (G:=G) (B:=dU G bb) r.ats e;generalize jA jC r.ats=I at *;refine aB rfl ?_;simp (maxSteps:=2000000) (disch:=omega) only[go_sem,h64c,q,Bt.cs,h,d,i,aC,aZz,l,k,f,m,j]
def En(x:Bt)(a:aI):Int:=aU [qA (!a.res&&decide (a.fi=0)) 15,qA (!a.rs.any fun r=>decide (r.s=-1)) 14,qA (!a.rs.any fun r=>decide (r.s+r.n > x.cl)) 37]
theorem Lg{B:aO}(a b c:Int):EV G (Tb B) 42 [vl [[ci a],[ci b],[ci c]]] []=some (vi (aU [a,b,c]),[]):=Vl [a,b,c] (by simp)
theorem aNd{s:L Int}{x:Bt}{r:cL}{u:Int}(hp:Pre G bb s x r u 0)(C:r.ats.length<=1000000)(K:Nat)(J:K<r.ats.length)(I:jA jC r.ats=K)(i:r.ats[K].rs.length<=1000000)(N:∀q∈r.ats[K].rs,(-1000000<=q.s/\q.s<=1000000)/\(-1000000<=q.n/\q.n<=1000000)) (g:En x r.ats[K]≠0):EV G (Tb (dU G bb)) 64 [sv s] []=some (.tup [ptN,tE (En x r.ats[K])],[]):=by
 obtain⟨H,j,O,⟨a,q⟩,F,E,t⟩:=hp;have y:=nQ s H;have h:=N6 (b:=s) rfl j;have z:=Cp s;have k:=Y8 (G:=G) (B:=dU G bb) r.ats C;rw[I] at k;have w:=jB (G:=G) (B:=dU G bb);have v:=Lg (G:=G) (B:=dU G bb);have D:=ixA r.ats K J;unfold En at g ⊢;generalize r.ats[K]=A at *;have o:=aBq (G:=G) (B:=dU G bb) A.rs i;have p:=aBr (G:=G) (B:=dU G bb) A.rs x i N;generalize (A.rs.any fun r=>decide (r.s=-1))=l at *
 generalize (A.rs.any fun r=>decide (r.s+r.n > x.cl))=m at *
 have M:(0:Int)<=(K:Int):=by omega
 refine aB rfl ?_;cases c:A.res;rw[c] at g;by_cases f:A.fi=0;rw[decide_eq_true f] at g ⊢;have d:¬ aU [qA true 15,qA (!l) 14,qA (!m) 37]=0:=g;simp (maxSteps:=2000000) (disch:=omega) only[go_sem,h64c,q,Bt.cs,y,h,z,aC,aZz,F,E,t,k,D,aI.e,c,f,o,p,w,v,d,aZ2,aZX,aZ8,bAh];rw[decide_eq_false f] at g ⊢;have d:¬ aU [qA false 15,qA (!l) 14,qA (!m) 37]=0:=g;simp (maxSteps:=2000000) (disch:=omega) only[go_sem,h64c,q,Bt.cs,y,h,z,aC,aZz,F,E,t,k,D,aI.e,c,f,o,p,w,v,d,aZ2,aZX,aZ8,bAh,Bool.and_false];rw[c] at g;have d:¬ aU [qA false 15,qA (!l) 14,qA (!m) 37]=0:=g;simp (maxSteps:=2000000) (disch:=omega) only[go_sem,h64c,q,Bt.cs,y,h,z,aC,aZz,F,E,t,k,D,aI.e,c,o,p,w,v,d,aZ2,aZX,aZ8,bAh]
end
section
variable {G:aF}{bb:Bool}
theorem aRG(x:Bt)(b c:DC)(N:Nat)(a:L Int)(s:L Int)(e:(-1000000<=x.mi/\x.mi<=1000000)/\2<=x.cl/\x.cl<=1000000)(d:a.length<=1000000):EV G (Tb (dU G bb)) 95 [.one (.ptr 0 0)] [Cq x b c N (.slc (el a)),yb s]=some (vb (uA x a),[Cq x b c N (.slc (el a)),yb s]):=aV1 x b c N a s e d
theorem Eo{B:aO}(x:Bt)(b c:DC)(N:Nat)(a:L Int)(s:L Int)(n:Nat)(h:2*n+2<=a.length)(d:a.length<=1000000):EV G (Tb B) 34 [.one (.ptr 0 0),vi n] [Cq x b c N (.slc (el a)),yb s]=some (prI (a.getD (2*n) 0) (a.getD (2*n+1) 0),[Cq x b c N (.slc (el a)),yb s]):=aIA x b c N a s n h d
def clE(x:Bt)(a:L Int):Int:=aU [qA (!uA x a) 13,qA (decide (a.length % 2=0)&&decide (16<=a.length / 2/\a.length / 2<=96)) 2,qA (decide (2<=a.length)&&decide (a.getD 0 0=x.tb/\a.getD 1 0=x.tb+1)) 9]
abbrev rc9(r:cL)(u:Int):L aV:=[.dc (ci r.sq),.dc (ci r.li),.dc (ci r.fl),.dc (ci r.br),.dc (ci r.bq),.dc (ci r.nx),.dc (ci r.ls),.dc (.slc (r.ats.map aI.e)),.dc (ci u)]
abbrev opH(x:Bt)(r:cL)(u:Int)(s:L Int)(b:L aX)(a:L Int):L aD:=[x.o,yb s,Cq x (.slc (b.map aX.e)) (ci (a.length / 2:Nat)) s.length (.slc (el a)),.box (rc9 r u),.dead]
abbrev opB(x:Bt)(N:Nat)(a:L aX)(n:Nat):aD:=.box [.dc (ci x.cl),.dc (ci x.tb),.dc (ci x.mi),.dc (ci x.lg),.dc (ci x.lc),.dc (ci x.se),.dc (.slc (a.map aX.e)),.dc (ci 0),.bls 1 0 N 1,.bld 4 n]
theorem aV6(q:aX)(h:q.s≠-1)(n:Nat):A1 q (n+1)=A1 q n++[q.s+n]:=by rw[Tl,if_neg h]
theorem aYc(x:Bt)(r:cL)(u:Int)(s:L Int)(a:L aX)(k:Nat)(q:aX)(g:-1<=q.s/\q.s<=1000)(D:L Int)(c:D.length<=1000000)(j:Nat)(d:j<q.n.toNat)(f:q.n<=100000000):Lt [4,2,6,93,0,0,4,0] 6 (EC (EV G (Tb (dU G bb))) G h64l0 ⟨(jk 4 (.one (.ptr 0 0)::jk 2 (.one (.ptr 2 0)::jk 6 (.one (.ptr 5 0)::jk 93 (cW a::vi a.length::vi k::jk 4 (vi q.n::vi j::jk 59 [])))))),[x.o,yb s,opB x s.length a D.length,.box (rc9 r u),.arr 0 1 (el D),.box [.dc (ci q.s),.dc (ci q.n)]]⟩)= some ⟨(jk 4 (.one (.ptr 0 0)::jk 2 (.one (.ptr 2 0)::jk 6 (.one (.ptr 5 0)::jk 93 (cW a::vi a.length::vi k::jk 4 (vi q.n::vi (j+1:Nat)::jk 59 [])))))),[x.o,yb s,opB x s.length a (D++[q.s+j]).length,.box (rc9 r u),.arr 0 1 (el (D++[q.s+j])),.box [.dc (ci q.s),.dc (ci q.n)]]⟩:=by
 have b:(j:Int)<q.n:=by omega
 have e:List.take D.length (List.map uC D)=List.map uC D:=aZ6 (by rw[aZz];exact aZE _);simp (maxSteps:=2000000) (disch:=omega) only[go_sem,h64l0,aZz,b,aG9,aZA,kS,pJ,e]
theorem aV7(x:Bt)(r:cL)(u:Int)(s:L Int)(a:L aX)(hf:sP a)(f:∀q∈a,q.s≠-1)(i:cE a<=100000)(k:Nat)(b:k<a.length):Lt [4,2,100,0,0] 5 (EC (EV G (Tb (dU G bb))) G h64l1 ⟨(jk 4 (.one (.ptr 0 0)::jk 2 (.one (.ptr 2 0)::jk 100 (cW a::vi a.length::vi k::jk 65 [])))),[x.o,yb s,opB x s.length a (tU (a.take k)).length,.box (rc9 r u),.arr 0 1 (el (tU (a.take k)))]⟩)= some ⟨(jk 4 (.one (.ptr 0 0)::jk 2 (.one (.ptr 2 0)::jk 100 (cW a::vi a.length::vi (k+1:Nat)::jk 65 [])))),[x.o,yb s,opB x s.length a (tU (a.take (k+1))).length,.box (rc9 r u),.arr 0 1 (el (tU (a.take (k+1))))]⟩:=by
 have p:=hf.el _ (aZG b);have t:=hf.n_le (aZG b);have h3:=A2 (a.take k) (fun r c=>(hf.el r (aZZ c)).2.2)
 have h4:=iH a k (fun r c=>(hf.el r c).2.2)
 have l:=f _ (aZG b);have h:=hf.len;have h6:=A0 a k b;have h7:=iH a (k+1) (fun r c=>(hf.el r c).2.2)
 rw[Tm a k b];generalize tU (a.take k)=C at *;simp (maxSteps:=2000000) (disch:=omega) only[go_sem,h64l1,aZz,kS,pJ,aX.e];rw[aT (fun j=>⟨(jk 4 (.one (.ptr 0 0)::jk 2 (.one (.ptr 2 0)::jk 6 (.one (.ptr 5 0)::jk 93 (cW a::vi a.length::vi k::jk 4 (vi a[k].n::vi j::jk 59 [])))))),[x.o,yb s,opB x s.length a (C++A1 a[k] j).length,.box (rc9 r u),.arr 0 1 (el (C++A1 a[k] j)),.box [.dc (ci a[k].s),.dc (ci a[k].n)]]⟩) a[k].n.toNat ?_ ?_]
 have m:((a[k].n.toNat:Nat):Int)=a[k].n:=by omega
 simp (maxSteps:=2000000) (disch:=omega) only[go_sem,h64l0,aZz,aX.e,m,kS,pJ];simp[A1,jk];intro j g;have d:(C++A1 a[k] j).length=C.length+j:=by simp[A1]
 rw[aV6 a[k] l,<- aZP];exact aYc x r u s a k a[k] (by omega) (C++A1 a[k] j) (by omega) j g (by omega)
theorem aRH{s:L Int}{x:Bt}{r:cL}{u:Int}(hp:Pre G bb s x r u 0)(R:r.ats.length<=1000000)(K:Nat)(hK:K<r.ats.length)(hI:jA jC r.ats=K)(hf:sP r.ats[K].rs)(hx:(0<=x.mi/\x.mi<=1000)/\2<=x.cl/\x.cl<=1000)(P:cE r.ats[K].rs<=100000)(Q:∀q∈r.ats[K].rs,q.n<=100000) (p:En x r.ats[K]=0):EV G (Tb (dU G bb)) 64 [sv s] []=some (.tup [.one (.ptr 2 0),tE (clE x (tU r.ats[K].rs))],opH x r u s r.ats[K].rs (tU r.ats[K].rs)):=by
 obtain⟨hB,E,hl,⟨a,q⟩,t,nM,X⟩:=hp;have Z:=nQ s hB;have z:=N6 (b:=s) rfl E;have hF:=Cp s;have S:=Y8 (G:=G) (B:=dU G bb) r.ats R;rw[hI] at S;have w:=jB (G:=G) (B:=dU G bb);have j:=Lg (G:=G) (B:=dU G bb);have H:=ixA r.ats K hK;unfold En at p;generalize r.ats[K]=A at *;have D:A.rs.length<=1000000:=by have:=hf.len;omega
 have M:=aBq (G:=G) (B:=dU G bb) A.rs D;have N:=aBr (G:=G) (B:=dU G bb) A.rs x D (fun q J=>by have:=hf.el q J;have:=Q q J;omega)
 have hp0:(0:Int)<=(K:Int):=by omega
 have e1:A.res=false/\A.fi=0/\(A.rs.any fun r=>decide (r.s=-1))=false/\(A.rs.any fun r=>decide (r.s+r.n > x.cl))=false:=by
  cases h5:A.res
  ·by_cases h6:A.fi=0
   ·rw[h5,decide_eq_true h6] at p;refine⟨rfl,h6, ?_⟩;revert p;cases (A.rs.any fun r=>decide (r.s=-1))<;>cases (A.rs.any fun r=>decide (r.s+r.n > x.cl))<;>simp[qA,aU]
   ·rw[h5,decide_eq_false h6] at p;revert p;cases (A.rs.any fun r=>decide (r.s=-1))<;>cases (A.rs.any fun r=>decide (r.s+r.n > x.cl))<;>simp[qA,aU]
  ·rw[h5] at p;revert p;cases (A.rs.any fun r=>decide (r.s=-1))<;>cases (A.rs.any fun r=>decide (r.s+r.n > x.cl))<;>simp[qA,aU]
 obtain⟨F,O,h3,h4⟩:=e1;rw[h3] at M;rw[h4] at N;have V:aU [qA true 15,qA true 14,qA true 37]=0:=rfl;refine aB rfl ?_;simp (maxSteps:=2000000) (disch:=omega) only[go_sem,h64c,q,Bt.cs,Z,z,hF,aC,aZz,t,nM,X,S,H,aI.e,F,O,M,N,w,j,V,aZ2,aZX,aZ8,bAh];rw[aT (fun k=>⟨(jk 4 (.one (.ptr 0 0)::jk 2 (.one (.ptr 2 0)::jk 100 (cW A.rs::vi A.rs.length::vi k::jk 65 [])))),[x.o,yb s,opB x s.length A.rs (tU (A.rs.take k)).length,.box (rc9 r u),.arr 0 1 (el (tU (A.rs.take k)))]⟩) A.rs.length ?_ ?_]
 rotate_left
 rfl
 exact fun k hk=>aV7 x r u s A.rs hf (fun q J e=>by
  have:=bAR.1 h3 q J;simp[e] at this) P k hk
 clear q Z z hF S X M N H V j;have j:=Lg (G:=G) (B:=dU G bb);have lc:=A2 A.rs (fun r Q=>(hf.el r Q).2.2)
 rw[bAi];generalize tU A.rs=C at *;have i:=aRG (G:=G) (bb:=bb) x (.slc (A.rs.map aX.e)) (ci (C.length / 2:Nat)) s.length C s (by omega) (by omega);unfold clE;generalize uA x C=CB at *;have d:(C.length:Int).tmod 2=((C.length % 2:Nat):Int):=F3 C.length 2;have c:(C.length:Int).tdiv 2=((C.length / 2:Nat):Int):=Qx C.length 2;have I:=kJ (G:=G) (B:=dU G bb) (C.length / 2:Nat) 16 96;have eW:decide ((16:Int)<=(C.length / 2:Nat)/\((C.length / 2:Nat):Int)<=96)=decide (16<=C.length / 2/\C.length / 2<=96):=by rw[decide_eq_decide];omega
 rw[eW] at I;generalize decide (16<=C.length / 2/\C.length / 2<=96)=W at *;by_cases Y:C.length % 2=0;have g:((C.length % 2:Nat):Int)=0:=by omega
 rw[decide_eq_true Y,aZ8];by_cases y:2<=C.length;have f:(C.length:Int)≥2:=by omega
 rw[decide_eq_true y,aZ8];have v:EV G (Tb (dU G bb)) 34 [.one (.ptr 0 0),vi 0] [Cq x (.slc (A.rs.map aX.e)) (ci (C.length / 2:Nat)) s.length (.slc (el C)),yb s]=some (prI (C.getD 0 0) (C.getD 1 0),[Cq x (.slc (A.rs.map aX.e)) (ci (C.length / 2:Nat)) s.length (.slc (el C)),yb s]):=Eo x _ _ _ C s 0 (by omega) (by omega);generalize C.getD 0 0=T at *;generalize C.getD 1 0=U at *;by_cases l:T=x.tb;by_cases m:U=x.tb+1;rw[decide_eq_true (And.intro l m)];simp (maxSteps:=2000000) (disch:=omega) only[go_sem,h64l1,aZz,kS,pJ,d,c,g,eq_true f,i,v,t,w,I,j,eq_true l,eq_true m];rw[decide_eq_false (fun h=>m h.2)]
 simp (maxSteps:=2000000) (disch:=omega) only[go_sem,h64l1,aZz,kS,pJ,d,c,g,eq_true f,i,v,t,w,I,j,eq_true l,m];rw[decide_eq_false (fun h=>l h.1)]
 simp (maxSteps:=2000000) (disch:=omega) only[go_sem,h64l1,aZz,kS,pJ,d,c,g,eq_true f,i,v,t,w,I,j,l];have f:¬ (C.length:Int)≥2:=by omega
 rw[decide_eq_false y,bAh];simp (maxSteps:=2000000) (disch:=omega) only[go_sem,h64l1,aZz,kS,pJ,d,c,g,f,i,w,I,j];have g:¬ ((C.length % 2:Nat):Int)=0:=by omega
 rw[decide_eq_false Y,bAh];by_cases y:2<=C.length;have f:(C.length:Int)≥2:=by omega
 rw[decide_eq_true y,aZ8];have v:EV G (Tb (dU G bb)) 34 [.one (.ptr 0 0),vi 0] [Cq x (.slc (A.rs.map aX.e)) (ci (C.length / 2:Nat)) s.length (.slc (el C)),yb s]=some (prI (C.getD 0 0) (C.getD 1 0),[Cq x (.slc (A.rs.map aX.e)) (ci (C.length / 2:Nat)) s.length (.slc (el C)),yb s]):=Eo x _ _ _ C s 0 (by omega) (by omega);generalize C.getD 0 0=T at *;generalize C.getD 1 0=U at *;by_cases l:T=x.tb;by_cases m:U=x.tb+1;rw[decide_eq_true (And.intro l m)];simp (maxSteps:=2000000) (disch:=omega) only[go_sem,h64l1,aZz,kS,pJ,d,c,g,eq_true f,i,v,t,w,j,eq_true l,eq_true m];rw[decide_eq_false (fun h=>m h.2)]
 simp (maxSteps:=2000000) (disch:=omega) only[go_sem,h64l1,aZz,kS,pJ,d,c,g,eq_true f,i,v,t,w,j,eq_true l,m];rw[decide_eq_false (fun h=>l h.1)]
 simp (maxSteps:=2000000) (disch:=omega) only[go_sem,h64l1,aZz,kS,pJ,d,c,g,eq_true f,i,v,t,w,j,l];have f:¬ (C.length:Int)≥2:=by omega
 rw[decide_eq_false y,bAh];simp (maxSteps:=2000000) (disch:=omega) only[go_sem,h64l1,aZz,kS,pJ,d,c,g,f,i,w,j]
end
section
variable {G:aF}{bb:Bool}
theorem qO{a:aI}(b:a.W)(h:gI a=0):(mU a.rs).2=0:=by
 have h4:=(nC b h).e;unfold tW at h4;split at h4;rename_i c;unfold L5 at h4;split at h4;rename_i q;rw[q.1];rfl;cases h4;exact (Fh h4).2.2.2.1
theorem Bk{l:L aX}(h:(mU l).2=0):sP l/\cE l<=4096/\∀q∈l,(-1<=q.s/\q.s<=1000)/\(0<=q.n/\q.n<=4096):=by
 have a:=Dv h;have d:=aU6 h;refine⟨a,d.2,fun q c=>?_⟩
 have h3:=a.el q c;obtain⟨i,e,rfl⟩:=List.mem_iff_getElem.1 c;have h4:=A0 l i e;have h5:=iH l (i+1) (fun r b=>(a.el r b).2.2)
 have h6:=iG (l.take i) (fun r b=>(a.el r (aZZ b)).2.2)
 omega
noncomputable def mH(s:L Int):cL×Int×Int:=Q2 (Ew s (aQ s).1) (Lu s (aQ s).1)
noncomputable def nR(s:L Int):aI:=(mH s).1.ats.getD (jA jC (mH s).1.ats).toNat aI.nil
noncomputable def mX(s:L Int):Int:=if (aQ s).2.2≠0 then (aQ s).2.2 else if (mH s).2.2≠0 then (mH s).2.2 else if jA jC (mH s).1.ats<0 then 6 else En (aQ s).1 (nR s)
noncomputable def jD(s:L Int):L Int:=tU (nR s).rs
noncomputable def Mg(s:L Int):Int:=clE (aQ s).1 (jD s)
noncomputable def mO(s:L Int):Int:=if mX s≠0 then mX s else Mg s
theorem Y9{s:L Int}(h:(aQ s).2.2=0):La s.length=0/\jP (aQ s).1=0/\(aQ s).1.cl=(s.length / 256:Nat):=by
 unfold aQ at h ⊢;by_cases e:La s.length=0;rw[if_pos e] at h ⊢;have f:∀l:L Int,(dR l).2=0->jP (dR l).1=0:=by
  intro l d;unfold dR at d ⊢;split at d;split at d;split at d;rename_i a b c;rw[if_pos a,if_pos b,if_pos c];exact c;rename_i c;exact absurd d c;cases d;cases d
 unfold qN at h ⊢;by_cases g:(dR (s.take 64)).2=0/\(dR (s.take 64)).1.cl=(s.length / 256:Nat);rw[if_pos g];exact⟨e,f _ g.1,g.2⟩;rw[if_neg g] at h ⊢;by_cases h3:(dR (s.drop (s.length-64))).2=0/\(dR (s.drop (s.length-64))).1.cl=(s.length / 256:Nat);rw[if_pos h3];exact⟨e,f _ h3.1,h3.2⟩;rw[if_neg h3] at h;cases h;rw[if_neg e] at h;exact absurd h e
structure Bok (x:Bt) (N:Nat):Prop where
 cl:x.cl=(N / 256:Nat)
 n:N % 256=0/\64<=N / 256/\N / 256<=512
 tb:1<=x.tb/\x.tb<=x.cl-2
 mi:1<=x.mi/\x.mi+8<x.cl
 lg:1<=x.lg/\x.lg+x.lc<x.cl
 lc:8<=x.lc/\x.lc<=64
theorem Ie{s:L Int}(h:(aQ s).2.2=0):Bok (aQ s).1 s.length:=by
 obtain⟨e,g,h3⟩:=Y9 h;obtain⟨a,b,c,d⟩:=aMW g;obtain⟨m,n,l,o⟩:=mG.1 a;obtain⟨i,j,k⟩:=qM.1 b;have f:=Ej.1 c;exact⟨h3,dk0 e,i,⟨j.1,f.1⟩,⟨k.1,f.2⟩,l⟩
theorem aIG(p q:L Int)(hp:aJ p)(a:aJ q):(Q2 p q).1.W/\((Q2 p q).2.2=0->hZ (Q2 p q).1=0):=by
 have k:∀ p:L Int,aJ p->(dG p).1.W/\((dG p).2.2=0->hZ (dG p).1=0):=fun p hp=>⟨aVJ hp,fun h=>by
  rcases aQ7 hp with q | q
  ·exact absurd h q.1
  ·exact q.2.1⟩
 unfold Q2;split;exact k p hp;split;exact k q a;exact k p hp
theorem Q3(s:L Int)(a:aJ s):(mH s).1.W/\((mH s).2.2=0->hZ (mH s).1=0):=aIG _ _ (kA a _ _) (kA a _ _)
theorem V4{s:L Int}(h:¬ jA jC (mH s).1.ats<0):∃K:Nat,∃d:K<(mH s).1.ats.length,jA jC (mH s).1.ats=K/\nR s=(mH s).1.ats[K]/\jC (mH s).1.ats[K]=true/\∀j,j<K->jC ((mH s).1.ats.getD j aI.nil)=false:=by
 unfold nR;generalize (mH s).1.ats=l at *;unfold jA at h ⊢;obtain⟨e,hp,c⟩:=bF (fun k=>jC (l.getD k aI.nil)=true) l.length
 generalize ix (fun k=>jC (l.getD k aI.nil)=true) l.length=k at *
 rcases hp with rfl|⟨a,hp⟩;rw[if_pos rfl] at h;exact absurd (by decide) h
 rw[if_neg (by omega)];refine⟨k,a,rfl,?_,by rw[<- fH l k a];exact hp,fun j b=>by simpa using c j b⟩
 rw[bAc,fH l k a]
theorem Lh{s:L Int}(d:aJ s)(b:(mH s).2.2=0)(c:¬ jA jC (mH s).1.ats<0):(nR s).W/\gI (nR s)=0:=by
 obtain⟨K,a,_,h3,_⟩:=V4 c;obtain⟨h4,h5⟩:=Q3 s d;rw[h3];exact⟨h4.at' _ (aZG a),(Ee (h5 b)).errs.1 _ (aZG a)⟩
theorem V5(l:G9 G)(s:L Int)(e:aJ s)(j:s.length<=200000)(h:mX s≠0):EV G (Tb (dU G bb)) 64 [sv s] []=some (.tup [ptN,tE (mX s)],[]):=by
 unfold mX at h ⊢;by_cases a:(aQ s).2.2=0;rw[if_neg (not_not_intro a)] at h ⊢;have b:=Ie a;have t:=b.cl;have u:=b.n;have v:=b.tb;have w:=b.mi;have hp:=aIF (bb:=bb) l s e j a ⟨⟨by omega,by omega⟩,⟨by omega,by omega⟩⟩;change Pre G bb s (aQ s).1 (mH s).1 (mH s).2.1 (mH s).2.2 at hp;by_cases c:(mH s).2.2=0;rw[if_neg (not_not_intro c)] at h ⊢;rw[c] at hp;have x:=(Q3 s e).1.ln;by_cases h3:jA jC (mH s).1.ats<0;rw[if_pos h3];exact aNc hp (by omega) h3;rw[if_neg h3] at h ⊢;obtain⟨i,d⟩:=Lh e c h3;obtain⟨K,m,p,r,_⟩:=V4 h3;obtain⟨f,k,g⟩:=Bk (qO i d);rw[r] at h i d f k g ⊢;exact aNd hp (by omega) K m p (by have:=f.len;omega) (fun q o=>by have:=g q o;omega) h
 rw[if_pos c];exact aNb hp c;rw[if_pos a];exact aNa s e j a
theorem Q4{s:L Int}(h:mX s=0):(aQ s).2.2=0/\(mH s).2.2=0/\¬ jA jC (mH s).1.ats<0/\En (aQ s).1 (nR s)=0:=by
 unfold mX at h;by_cases a:(aQ s).2.2=0;rw[if_neg (not_not_intro a)] at h;by_cases b:(mH s).2.2=0;rw[if_neg (not_not_intro b)] at h;by_cases h3:jA jC (mH s).1.ats<0;rw[if_pos h3] at h;cases h;rw[if_neg h3] at h;exact⟨a,b,h3,h⟩;rw[if_pos b] at h;exact absurd h b;rw[if_pos a] at h;exact absurd h a
theorem If(k:G9 G)(s:L Int)(c:aJ s)(m:s.length<=200000)(h:mX s=0):EV G (Tb (dU G bb)) 64 [sv s] []=some (.tup [.one (.ptr 2 0),tE (Mg s)],opH (aQ s).1 (mH s).1 (mH s).2.1 s (nR s).rs (jD s)):=by
 obtain⟨f,g,h3,h4⟩:=Q4 h;have b:=Ie f;have t:=b.cl;have u:=b.n;have v:=b.tb;have w:=b.mi;have hp:=aIF (bb:=bb) k s c m f ⟨⟨by omega,by omega⟩,⟨by omega,by omega⟩⟩;change Pre G bb s (aQ s).1 (mH s).1 (mH s).2.1 (mH s).2.2 at hp;rw[g] at hp;have x:=(Q3 s c).1.ln;obtain⟨i,a⟩:=Lh c g h3;obtain⟨K,l,p,r,_⟩:=V4 h3;obtain⟨d,j,e⟩:=Bk (qO i a);unfold Mg jD;rw[r] at h4 i a d j e ⊢;exact aRH hp (by omega) K l p d ⟨by omega,by omega⟩ (by omega) (fun q o=>by have:=e q o;omega) h4
end
section
variable {G:aF}{bb:Bool}
structure Tok (x:Bt) (N:Nat) (C:List Int):Prop where
 b:Bok x N
 rg:∀c∈C,1<=c/\c<=x.cl-2
 mi:∀c∈C,¬ (x.mi<=c/\c<=x.mi+7)
 nd:C.Nodup
 ev:C.length % 2=0
 ln:16<=C.length / 2/\C.length / 2<=96
 h0:C.getD 0 0=x.tb/\C.getD 1 0=x.tb+1
theorem aNe{l:L aX}(e:∀q∈l,q.s≠-1){c:Int}(h:c∈tU l):∃q∈l,q.s<=c/\c<q.s+q.n:=by
 obtain⟨q,d,a⟩:=List.mem_flatMap.1 h;refine⟨q,d,?_⟩;unfold A1 at a;obtain⟨k,b,rfl⟩:=List.mem_map.1 a;have b:=List.mem_range.1 b;rw[if_neg (e q d)];omega
theorem Li{b:Bool}{e:Int}(a:e≠0)(h:qA b e=0):b=true:=by
 unfold qA at h;split at h
 assumption
 exact absurd h a
theorem aRI{x:Bt}{a:aI}(h:En x a=0):a.res=false/\a.fi=0/\(∀q∈a.rs,q.s≠-1)/\∀q∈a.rs,q.s+q.n<=x.cl:=by
 obtain⟨b,c,h3⟩:=Bb h;have b:=Li (by decide) b;have c:=Li (by decide) c;have h3:=Li (by decide) h3;simp only[aZO,bAD,decide_eq_true_eq,bAR] at b c h3;exact⟨b.1,b.2,fun q d e=>c q d e,fun q d=>by have:=h3 q d;omega⟩
theorem aNf{x:Bt}{C:L Int}(h:uA x C=false):∀k (a:k<C.length),C[k]≠0/\C[k]≠x.cl-1/\¬ C[k]∈C.take k/\¬ (x.mi<=C[k]/\C[k]<=x.mi+7):=by
 intro k a;have h:=of_decide_eq_false h;have e:C.getD k 0=C[k]:=by simp[a]
 refine⟨fun q=>h ⟨k,a,.inl ?_⟩,fun q=>h ⟨k,a,.inl ?_⟩,fun q=>h ⟨k,a,.inl ?_⟩,fun q=>h ⟨k,a,.inr ?_⟩⟩
 rw[e,q];simp;rw[e,q];simp;rw[e];simp[q];rw[e];omega
theorem kW{s:L Int}(D:aJ s)(h:mO s=0):mX s=0/\Mg s=0/\Tok (aQ s).1 s.length (jD s):=by
 have l:mX s=0:=by
  unfold mO at h;by_cases q:mX s=0;exact q;rw[if_pos q] at h;exact absurd h q
 have m:Mg s=0:=by
  unfold mO at h;rw[if_neg (not_not_intro l)] at h;exact h
 obtain⟨x,y,z,A⟩:=Q4 l;have b:=Ie x;obtain⟨C,n⟩:=Lh D y z;obtain⟨I,J,v⟩:=Bk (qO C n);obtain⟨K,M,u,w⟩:=aRI A;refine⟨l,m, ?_⟩;unfold Mg clE at m;obtain⟨f,d,g⟩:=Bb m;have f:=Li (by decide) f;have d:=Li (by decide) d;have g:=Li (by decide) g;simp only[aZO,bAD,decide_eq_true_eq] at f d g;have t:=aNf f;have H:∀ c∈jD s,0<=c/\c < (aQ s).1.cl:=fun c a=>by
  obtain⟨q,p,l,m⟩:=aNe u a;have:=w q p;have:=v q p;have:=u q p;omega
 refine⟨b,fun c a=>?_,fun c a=>?_,?_,d.1,d.2,g.2⟩
 have r:=H c a;obtain⟨k,o,rfl⟩:=List.mem_iff_getElem.1 a;have:=t k o;omega;obtain⟨k,o,rfl⟩:=List.mem_iff_getElem.1 a;exact (t k o).2.2.2;rw[List.nodup_iff_pairwise_ne,bBj];intro i j N F E e;refine (t j F).2.2.1 ?_;rw[<- e];exact List.mem_take_iff_getElem.2 ⟨i,by omega,rfl⟩
noncomputable def Lj(s:L Int)(x:Bt)(C:L Int)(n:Nat):cL×Int×Int:=
 Q2 (qB s (C.getD (2*n) 0).toNat (C.getD (2*n+1) 0).toNat) (if n<4 then qB s (x.mi.toNat+2*n) (x.mi.toNat+2*n+1) else qB s (C.getD (2*n) 0).toNat (C.getD (2*n+1) 0).toNat)
theorem Tok.at{x:Bt}{N:Nat}{C:L Int}(h:Tok x N C){k:Nat}(a:k<C.length):∃c:Nat,C.getD k 0=c/\c*256+256<=N/\1<=c/\c*256+512<=N:=by
 have e:C.getD k 0=C[k]:=by simp[a]
 have:=h.rg _ (aZG a);have:=h.b.cl;have:=h.b.n;exact⟨C[k].toNat,by omega,by omega,by omega,by omega⟩
theorem aBs(m:G9 G)(x:Bt)(f g:DC)(s:L Int)(l:aJ s)(o:s.length<=200000)(C:L Int)(i:Tok x s.length C)(n:Nat)(J:n<C.length / 2):EV G (Tb (dU G bb)) 33 [.one (.ptr 0 0),vi n] [Cq x f g s.length (.slc (el C)),yb s]=some (dcv (Lj s x C n),[Cq x f g s.length (.slc (el C)),yb s]):=by
 have t:=i.ln;have j:=Eo (G:=G) (B:=dU G bb) x f g s.length C s n (by omega) (by omega);obtain⟨a,p,w,z,_⟩:=i.at (k:=2*n) (by omega);obtain⟨c,q,H,I,_⟩:=i.at (k:=2*n+1) (by omega);obtain⟨b,_,_,_,_,_⟩:=i;have A:=b.cl;have D:=b.n;have F:=b.mi;unfold Lj;rw[p,q] at j ⊢;rw[bAc,bAc];by_cases h4:n<4
 ·rw[if_pos h4];have v:=V0 (G:=G) (B:=dU G bb) x f g (.slc (el C)) s.length s n (by omega) (by omega);have h:=Lf (G:=G) (bb:=bb) m x f g (.slc (el C)) s l s.length a c (x.mi.toNat+2*n) (x.mi.toNat+2*n+1) rfl (by omega) (by omega) (by omega) (by omega) o;rw[aIE (a:=x.mi.toNat+2*n) (x:=x.mi+2*n) (y:=x.mi+2*n+1) (by omega) (by omega)] at h;have d:(n:Int)<4:=by omega
  generalize Q2 _ _=E at *;obtain⟨r,u,e⟩:=E;refine aB rfl ?_;simp (maxSteps:=2000000) (disch:=omega) only[go_sem,h33c,j,v,h,d,aZz];try rfl
 ·rw[if_neg h4];have h:=Lf (G:=G) (bb:=bb) m x f g (.slc (el C)) s l s.length a c a c rfl (by omega) (by omega) (by omega) (by omega) o;have d:¬ (n:Int)<4:=by omega
  generalize Q2 _ _=E at *;obtain⟨r,u,e⟩:=E;refine aB rfl ?_;simp (maxSteps:=2000000) (disch:=omega) only[go_sem,h33c,j,h,d,aZz];try rfl
end
section
variable {G:aF}{bb:Bool}
noncomputable def Ex(s:L Int):Nat:=(jD s).length / 2
theorem aIH{s:L Int}(h:mO s≠0):(mX s≠0/\mX s=mO s)\/(mX s=0/\Mg s=mO s):=by
 unfold mO at h ⊢;by_cases q:mX s=0;rw[if_neg (not_not_intro q)];exact .inr ⟨q,rfl⟩;rw[if_pos q];exact .inl ⟨q,rfl⟩
theorem Ll(b:G9 G)(s:L Int)(a:aJ s)(c:s.length<=200000)(n:Int)(h:mO s≠0):EV G (Tb (dU G bb)) 32 [sv s,vi n] []=some (.tup [ptN,tE (mO s)],[]):=by
 rcases aIH h with⟨q,e⟩|⟨q,e⟩;have o:=V5 (bb:=bb) b s a c q;rw[e] at o;refine aB rfl ?_;simp (maxSteps:=2000000) (disch:=omega) only[go_sem,h32c,o,h];have o:=If (bb:=bb) b s a c q;rw[e] at o;generalize jD s=C at *;refine aB rfl ?_;simp (maxSteps:=2000000) (disch:=omega) only[go_sem,h32c,o,h,aZL,aZM,fA,B9]
theorem Bl(b:G9 G)(s:L Int)(a:aJ s)(d:s.length<=200000)(n:Int)(h:mO s=0):EV G (Tb (dU G bb)) 32 [sv s,vi n] []=some (.tup [.one (.ptr 2 0),tE (qA (decide (0<=n/\n<=(Ex s:Int)-1)) 6)],opH (aQ s).1 (mH s).1 (mH s).2.1 s (nR s).rs (jD s)):=by
 obtain⟨f,g,c⟩:=kW a h;have o:=If (bb:=bb) b s a d f;rw[g] at o;have e:=c.ln;have w:=kJ (G:=G) (B:=dU G bb) n 0 ((Ex s:Int)-1);have u:=jB (G:=G) (B:=dU G bb);unfold Ex at w ⊢;change _=some (_,opH (aQ s).1 (mH s).1 (mH s).2.1 s (nR s).rs (jD s));generalize jD s=C at *;generalize (aQ s).1=x at *;generalize (mH s).1=r at *;generalize (mH s).2.1=j at *;generalize (nR s).rs=i at *;refine aB rfl ?_;simp (maxSteps:=2000000) (disch:=omega) only[go_sem,h32c,o,w,u,aZL,aZM,fA,B9]
noncomputable def Q5(s:L Int)(n:Int):Int:=if mO s≠0 then mO s else qA (decide (0<=n/\n<=(Ex s:Int)-1)) 6
theorem aII{s:L Int}{n:Int}(h:Q5 s n=0):mO s=0/\0<=n/\n.toNat<Ex s:=by
 unfold Q5 at h;by_cases q:mO s=0;rw[if_neg (not_not_intro q)] at h;have:=of_decide_eq_true (Li (by decide) h);exact⟨q,this.1,by omega⟩;rw[if_pos q] at h;exact absurd h q
theorem aOj{s:L Int}{n:Int}(h:Q5 s n≠0):mO s≠0/\Q5 s n=mO s\/mO s=0/\Q5 s n=6/\qA (decide (0<=n/\n<=(Ex s:Int)-1)) 6=6:=by
 unfold Q5 at h ⊢;by_cases q:mO s=0;rw[if_neg (not_not_intro q)] at h ⊢;unfold qA at h ⊢;split;rename_i r;rw[if_pos r] at h;exact absurd rfl h;exact .inr ⟨q,rfl,rfl⟩;rw[if_pos q];exact .inl ⟨q,rfl⟩
theorem Om(d:G9 G)(s:L Int)(c:aJ s)(f:s.length<=200000)(n:Int):EV G (Tb (dU G bb)) 11 [sv s,vi n] []=some (.tup [tI (if Q5 s n=0 then (jD s).getD (2*n.toNat) 0 else 0),tE (Q5 s n)],[]):=by
 by_cases h:Q5 s n=0;rw[if_pos h,h];obtain⟨a,b,h3⟩:=aII h;have o:=Bl (bb:=bb) d s c f n a;obtain⟨_,_,j⟩:=kW c a;have k:=j.ln;have e:qA (decide (0<=n/\n<=(Ex s:Int)-1)) 6=0:=by rw[decide_eq_true (by omega)];rfl
 rw[e] at o;have i:n=(n.toNat:Int):=by omega
 unfold Ex at h3;have g:=Eo (G:=G) (B:=dU G bb) (aQ s).1 (.slc ((nR s).rs.map aX.e)) (ci ((jD s).length / 2:Nat)) s.length (jD s) s n.toNat (by omega) (by omega);rw[<- i] at g;generalize (jD s).getD (2*n.toNat) 0=p at *;generalize (jD s).getD (2*n.toNat+1) 0=q at *;generalize jD s=C at *;generalize (aQ s).1=x at *;generalize (mH s).1=r at *;generalize (mH s).2.1=m at *;generalize (nR s).rs=l at *;refine aB rfl ?_;simp (maxSteps:=2000000) (disch:=omega) only[go_sem,h11c,o,g,aZL,aZM,fA,B9,qY,nW];rw[if_neg h];rcases aOj h with⟨a,b⟩|⟨a,b,h3⟩
 have o:=Ll (bb:=bb) d s c f n a;rw[b];refine aB rfl ?_;simp (maxSteps:=2000000) (disch:=omega) only[go_sem,h11c,o,a];have o:=Bl (bb:=bb) d s c f n a;rw[h3] at o;rw[b];generalize jD s=C at *;generalize (aQ s).1=x at *;generalize (mH s).1=r at *;generalize (mH s).2.1=m at *;generalize (nR s).rs=l at *;refine aB rfl ?_;simp (maxSteps:=2000000) (disch:=omega) only[go_sem,h11c,o,aZL,aZM,fA,B9]
noncomputable def Lv(s:L Int)(n:Int):cL×Int×Int:=if Q5 s n=0 then Lj s (aQ s).1 (jD s) n.toNat else (.nil,0,Q5 s n)
theorem F4(d:G9 G)(s:L Int)(b:aJ s)(f:s.length<=200000)(n:Int):EV G (Tb (dU G bb)) 10 [sv s,vi n] []=some (dcv (Lv s n),[]):=by
 unfold Lv;by_cases h:Q5 s n=0
 ·rw[if_pos h];obtain⟨a,c,h3⟩:=aII h;have o:=Bl (bb:=bb) d s b f n a;obtain⟨_,_,j⟩:=kW b a;have e:qA (decide (0<=n/\n<=(Ex s:Int)-1)) 6=0:=by rw[decide_eq_true (by omega)];rfl
  rw[e] at o;have i:n=(n.toNat:Int):=by omega
  unfold Ex at h3;have g:=aBs (bb:=bb) d (aQ s).1 (.slc ((nR s).rs.map aX.e)) (ci ((jD s).length / 2:Nat)) s b f (jD s) j n.toNat h3;rw[<- i] at g;generalize Lj s (aQ s).1 (jD s) n.toNat=E at *;generalize jD s=C at *;generalize (aQ s).1=x at *;generalize (mH s).1=r at *;generalize (mH s).2.1=l at *;generalize (nR s).rs=k at *;obtain⟨p,q,m⟩:=E;refine aB rfl ?_;simp (maxSteps:=2000000) (disch:=omega) only[go_sem,h10c,o,g,aZL,aZM,fA,B9];try rfl
 rw[if_neg h];rcases aOj h with⟨a,c⟩|⟨a,c,h3⟩
 ·have o:=Ll (bb:=bb) d s b f n a;rw[c];refine aB rfl ?_;simp (maxSteps:=2000000) (disch:=omega) only[go_sem,h10c,o,a];try rfl
 ·have o:=Bl (bb:=bb) d s b f n a;rw[h3] at o;rw[c];generalize jD s=C at *;generalize (aQ s).1=x at *;generalize (mH s).1=r at *;generalize (mH s).2.1=l at *;generalize (nR s).rs=k at *;refine aB rfl ?_;simp (maxSteps:=2000000) (disch:=omega) only[go_sem,h10c,o,aZL,aZM,fA,B9];try rfl
end
section
variable {G:aF}{bb:Bool}
theorem Oq{B:aO}(r:cL):EV G (Tb B) 55 [r.v] []=some (vb (fU r.fl),[]):=by
 refine aB rfl ?_;unfold fU;by_cases c:r.fl % 2=1;have d:¬ r.fl % 2=0:=by omega
 simp (disch:=omega) only[go_sem,h55c,aMB,d,decide_eq_true c];have d:r.fl % 2=0:=by omega
 simp (disch:=omega) only[go_sem,h55c,aMB,eq_true d,decide_eq_false c]
noncomputable def aNg(s:L Int)(a b:Int):cL×Int:=if (Lv s a).2.2≠0 then (.nil,(Lv s a).2.2) else if fU (Lv s a).1.fl=true/\(Lv s a).1.sq=b then ((Lv s a).1,0) else (.nil,32)
theorem aDS(j:G9 G)(s:L Int)(i:aJ s)(k:s.length<=200000)(a b:Int):EV G (Tb (dU G bb)) 23 [sv s,rfv a b] []=some (rcv (aNg s a b),[]):=by
 have q:=F4 (bb:=bb) j s i k a;have u:=jB (G:=G) (B:=dU G bb);have f:=pV (G:=G) (B:=dU G bb);unfold aNg;generalize Lv s a=E at *;obtain⟨r,l,e⟩:=E;have c:=Oq (G:=G) (B:=dU G bb) r;simp only at q ⊢;by_cases h:e=0;rw[if_neg (not_not_intro h)];subst h;cases d:fU r.fl
 ·rw[d] at c;rw[if_neg (fun h=>by cases h.1)]
  refine aB rfl ?_;simp (maxSteps:=2000000) (disch:=omega) only[go_sem,h23c,q,u,f,c,cB,eL,fK];try rfl
 rw[d] at c;by_cases g:r.sq=b
 ·rw[if_pos ⟨rfl,g⟩];refine aB rfl ?_;simp (maxSteps:=2000000) (disch:=omega) only[go_sem,h23c,q,u,f,c,cB,eL,fK,eq_true g];try rfl
 ·rw[if_neg (fun h=>g h.2)]
  refine aB rfl ?_;simp (maxSteps:=2000000) (disch:=omega) only[go_sem,h23c,q,u,f,c,cB,eL,fK,g];try rfl
 rw[if_pos h];refine aB rfl ?_;cases d:fU r.fl
 ·rw[d] at c;simp (maxSteps:=2000000) (disch:=omega) only[go_sem,h23c,q,u,f,c,cB,eL,fK,h];try rfl
 ·rw[d] at c;simp (maxSteps:=2000000) (disch:=omega) only[go_sem,h23c,q,u,f,c,cB,h];try rfl
abbrev bo1(b:Bool):L DC:=[.raw (.bool b)]
noncomputable def usB(s:L Int)(x:Bt)(C:L Int)(k:Nat):Bool:=fU (Lj s x C k).1.fl
noncomputable def Za(s:L Int)(x:Bt)(C:L Int)(k:Nat):L Bool:=(List.range k).map (usB s x C)
theorem aV8(s:L Int)(x:Bt)(C:L Int)(k:Nat):Za s x C (k+1)=Za s x C k++[usB s x C k]:=by simp[Za,List.range_succ]
theorem Ig(s:L Int)(x:Bt)(C:L Int)(k:Nat):(Za s x C k).length=k:=by simp[Za]
noncomputable def usI(s:L Int)(x:Bt)(C:L Int):Nat:=ix (fun k=>¬ (Lj s x C k).2.2=0) (C.length / 2)
noncomputable def usV(s:L Int):L Bool×Int:=if mO s≠0 then ([],mO s) else if usI s (aQ s).1 (jD s)=Ex s then (Za s (aQ s).1 (jD s) (Ex s),0) else ([],(Lj s (aQ s).1 (jD s) (usI s (aQ s).1 (jD s))).2.2)
abbrev boV(p:L Bool×Int):AV:=.tup [.one (.dc (.slc (p.1.map bo1))),tE p.2]
theorem aRL(l:L Bool):gG 1 (l.map bo1)=true:=jH (f:=bo1) (fun _=>rfl) l
theorem aV9(l:L Bool)(b:Bool):l.map bo1++[[.raw (.bool b)]]=(l++[b]).map bo1:=by simp
theorem aRM(d:G9 G)(s:List Int)(c:aJ s)(f:s.length<=200000):EV G (Tb (dU G bb)) 53 [sv s] []=some (boV (usV s),[]):=by
 unfold usV;by_cases h:mO s=0
 ·rw[if_neg (not_not_intro h)];obtain⟨A,D,p⟩:=kW c h;have o:=If (bb:=bb) d s c f A;rw[D] at o;have z:=p.ln;unfold Ex;have u:=fun n g=>aBs (bb:=bb) d (aQ s).1 (.slc ((nR s).rs.map aX.e)) (ci ((jD s).length / 2:Nat)) s c f (jD s) p n g
  have K:=fun n=>Oq (G:=G) (B:=dU G bb) (Lj s (aQ s).1 (jD s) n).1
  have y:∀n,usB s (aQ s).1 (jD s) n=fU (Lj s (aQ s).1 (jD s) n).1.fl:=fun n=>rfl
  have L:=aV8 s (aQ s).1 (jD s);have m:=Ig s (aQ s).1 (jD s);have v:Za s (aQ s).1 (jD s) 0=[]:=rfl;unfold usI;generalize Za s (aQ s).1 (jD s)=U at *;generalize usB s (aQ s).1 (jD s)=M at *;generalize Lj s (aQ s).1 (jD s)=R at *;generalize jD s=C at *;generalize (aQ s).1=x at *;generalize (mH s).1=r at *;generalize (mH s).2.1=w at *;generalize (nR s).rs=H at *;refine aB rfl ?_;simp (maxSteps:=2000000) (disch:=omega) only[go_sem,h53c,o,aZL,aZM,fA,B9,kS];rw[dQ (fun k=>⟨(jk 4 (.one (.ptr 2 0)::jk 1 (.one (.bld 5 (U k).length)::jk 15 (vi (C.length / 2:Nat)::vi k::jk 19 [])))),opH x r w s H C++[.arr 0 1 ((U k).map bo1)]⟩) (fun k=>¬ (R k).2.2=0) (C.length / 2) ?_ ?_]
  rotate_left
  rw[v];rfl;intro k t g;have h3:=g k (aZE _);have j:=u k t;have J:=K k;rw[show U (k+1)=U k++[fU (R k).1.fl] from by rw[L k,y k]]
  have l:=m k;generalize U k=V at *;generalize R k=E at *;obtain⟨F,I,i⟩:=E;have h3:i=0:=Classical.not_not.1 h3;subst h3;have b:(k:Int)<(C.length / 2:Nat):=by omega
  simp (maxSteps:=2000000) (disch:=omega) only[go_sem,h53l0,b,j,J,aZW,aZR,kS,pJ,aRL,aV9,aZA,aZz];obtain⟨t,hp,g⟩:=bF (fun k=>¬ (R k).2.2=0) (C.length / 2)
  generalize ix (fun k=>¬ (R k).2.2=0) (C.length / 2)=k at *
  by_cases a:k=C.length / 2;rw[if_pos a];have l:=m k;rw[<- a];generalize U k=V at *;rw[a] at l;rw[a];simp (maxSteps:=2000000) (disch:=omega) only[go_sem,h53l0,aZW,aZR,kS,pJ,aZz,aZL,aZM,fA,B9];rw[if_neg a];rcases hp with hp|⟨b,hp⟩
  exact absurd hp a;have j:=u k b;generalize R k=E at *;obtain⟨F,I,i⟩:=E;have hp:¬ i=0:=hp;have b:(k:Int)<(C.length / 2:Nat):=by omega
  simp (maxSteps:=2000000) (disch:=omega) only[go_sem,h53l0,b,j,hp,aZW,aZR,kS,pJ,aZz];rfl
 rw[if_pos h];rcases aIH h with⟨q,e⟩|⟨q,e⟩
 ·have o:=V5 (bb:=bb) d s c f q;rw[e] at o;refine aB rfl ?_;simp (maxSteps:=2000000) (disch:=omega) only[go_sem,h53c,o,h];try rfl
 ·have o:=If (bb:=bb) d s c f q;rw[e] at o;generalize jD s=C at *;refine aB rfl ?_;simp (maxSteps:=2000000) (disch:=omega) only[go_sem,h53c,o,h,aZL,aZM,fA,B9];try rfl
abbrev inV(p:L Int×Int):AV:=.tup [.one (.dc (.slc (el p.1))),tE p.2]
theorem aNh(s:L Int)(a:aJ s):(usV s).1.length<=96:=by
 unfold usV;by_cases h:mO s=0;rw[if_neg (not_not_intro h)];obtain⟨c,d,b⟩:=kW a h;split;show (Za _ _ _ _).length<=_;rw[Ig];exact b.ln.2;exact aZV _;rw[if_pos h];exact aZV _
noncomputable def ixB(l:L Bool):Int:=if ix (fun k=>l.getD k true=false) l.length=l.length then -1 else (ix (fun k=>l.getD k true=false) l.length:Nat)
theorem aIK{B:aO}(l:L Bool)(f:l.length<=1000000):EV G (Tb B) 54 [vl (l.map bo1),vb false] []=some (vi (ixB l),[]):=by
 refine aB rfl ?_;simp (disch:=omega) only[go_sem,h54c,aZz];unfold ixB;have e:∀k (a:k<l.length),(l.map bo1)[k]?=some (bo1 l[k]):=fun k a=>by rw[aZI,aZJ a];rfl
 have c:∀k (a:k<l.length),l.getD k true=l[k]:=fun k a=>by simp[a]
 rw[dQ (fun k=>⟨(vl (l.map bo1)::vb false::jk 5 (vi l.length::vi k::jk 10 [])),[]⟩) (fun k=>l.getD k true=false) l.length ?_ ?_]
 rotate_left
 rfl;intro k a d;have h3:=d k (aZE _);rw[c k a] at h3;have h4:l[k]=true:=by simpa using h3
 have q:=e k a;rw[h4] at q;simp (disch:=omega) only[go_sem,h54l0,aZz,q];obtain⟨a,hp,d⟩:=bF (fun k=>l.getD k true=false) l.length
 generalize ix (fun k=>l.getD k true=false) l.length=k at *
 rcases hp with rfl|⟨b,hp⟩;rw[if_pos rfl];simp (disch:=omega) only[go_sem,h54l0,aZz];rw[if_neg (by omega)];rw[c k b] at hp;have q:=e k b;rw[hp] at q;simp (disch:=omega) only[go_sem,h54l0,aZz,q]
noncomputable def frV(s:L Int):Int×Int:=if (usV s).2≠0 then (0,(usV s).2) else if ixB ((usV s).1.drop 16)<0 then (0,16) else (16+ixB ((usV s).1.drop 16),0)
theorem aRN{s:L Int}(c:aJ s)(h:(usV s).2=0):16<=(usV s).1.length:=by
 unfold usV at h ⊢;by_cases a:mO s=0;rw[if_neg (not_not_intro a)] at h ⊢;obtain⟨i,j,d⟩:=kW c a;split;show _<=(Za _ _ _ _).length;rw[Ig];exact d.ln.1;rename_i b;rw[if_neg b] at h;unfold usI Ex at b;unfold usI at h;obtain⟨f,hp,g⟩:=bF (fun k=>¬ (Lj s (aQ s).1 (jD s) k).2.2=0) ((jD s).length / 2)
 generalize ix (fun k=>¬ (Lj s (aQ s).1 (jD s) k).2.2=0) ((jD s).length / 2)=K at *
 dsimp only at h hp;generalize (Lj s (aQ s).1 (jD s) K).2.2=e at *;rcases hp with hp|⟨_,hp⟩
 exact absurd hp b;exact absurd h hp;rw[if_pos a] at h;exact absurd h a
theorem aRO(l:L Bool):-1<=ixB l/\ixB l<=l.length:=by
 unfold ixB;obtain⟨a,_⟩:=bF (fun k=>l.getD k true=false) l.length
 split<;>omega
theorem V6(g:G9 G)(s:L Int)(f:aJ s)(i:s.length<=200000):EV G (Tb (dU G bb)) 22 [sv s] []=some (.tup [tI (frV s).1,tE (frV s).2],[]):=by
 have o:=aRM (bb:=bb) g s f i;have j:=aNh s f;have b:=aRN (s:=s) f;unfold frV;generalize usV s=V at *;obtain⟨l,e⟩:=V;dsimp only at j o b ⊢;by_cases h:e=0;rw[if_neg (not_not_intro h)];have b:=b h;subst h;have q:=aIK (G:=G) (B:=dU G bb) (l.drop 16) (by rw[aZK];omega);have k:=aRO (l.drop 16);rw[aZK] at k;rw[bAV] at q;generalize ixB (l.drop 16)=I at *;have a:((l.map bo1).all fun e=>decide (e.length=1))=true:=by simp
 have c:(16:Int).toNat=16:=rfl;refine aB rfl ?_;by_cases d:I<0;rw[if_pos d];simp (maxSteps:=2000000) (disch:=omega) only[go_sem,h22c,o,q,d,aZz,a,if_true,c];rw[if_neg d];simp (maxSteps:=2000000) (disch:=omega) only[go_sem,h22c,o,q,d,aZz,a,if_true,c];rw[if_pos h];refine aB rfl ?_;simp (maxSteps:=2000000) (disch:=omega) only[go_sem,h22c,o,h]
