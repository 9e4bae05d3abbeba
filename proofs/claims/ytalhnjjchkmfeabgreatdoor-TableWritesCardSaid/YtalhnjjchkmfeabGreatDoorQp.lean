/- Part. Conditions: none. -/
import Derived.Test.YtalhnjjchkmfeabGreatDoorPp
import Derived.Test.YtalhnjjchkmfeabGreatDoorPq
import Derived.Test.YtalhnjjchkmfeabGreatDoorPa
import Derived.Test.YtalhnjjchkmfeabGreatDoorSu
import Derived.Test.YtalhnjjchkmfeabGreatDoorTy
import Derived.Test.YtalhnjjchkmfeabGreatDoorPt
import Derived.Test.YtalhnjjchkmfeabGreatDoorSg
namespace Go.Proofs.YtalhnjjchkmfeabGreatDoor
set_option maxHeartbeats 32000000
set_option linter.unusedSimpArgs false
set_option linter.unusedVariables false
set_option maxRecDepth 4000
section
variable {G:aE}{B:aN}
def fU(l b:L Int)(n0 n1:Nat):L Int:=gI (gI l (n0*256) (b.take 256)) (n1*256) (b.drop 256)
def aMz(l b:L Int)(n0 n1:Nat):Nat->L Int
 |0=>l
 |1=>gI l (n0*256) (b.take 256)
 |_=>fU l b n0 n1
theorem Ee(l b:L Int)(N n0 n1:Nat)(a:l.length=N)(g:b.length=512)(f:aH b)(o:n0*256+256<=N)(p:n1*256+256<=N)(h:N<=200000):EV G (Tb B) 49 [.one (.bls 0 0 N 1),sv b,.agg [.dc (ci n0),.dc (ci n1)]] [yb l]=some (.tup [],[yb (fU l b n0 n1)]):=by
 have q:=Qa (G:=G) (B:=B) l N n0 a o h;have i:(gI l (n0*256) (b.take 256)).length=N:=by rw[cR (by rw[aZd];omega),a]
 have r:=Qa (G:=G) (B:=B) (gI l (n0*256) (b.take 256)) N n1 i p h;have j:aH (b.take 256):=fun x c=>f x (aZA c)
 have m:aH (b.drop 256):=fun x c=>f x (aZM c)
 have e:=pW l (b.take 256) (n0*256) 256 j (by rw[aZd];omega);rw[aZZ,List.take_take,Nat.min_self] at e;have n:=pW (gI l (n0*256) (b.take 256)) (b.drop 256) (n1*256) 256 m (by rw[aZh];omega);have d:b.take 512=b:=aZI (by omega);have s:(256:Int).toNat=256:=rfl;refine aA rfl ?_;simp (maxSteps:=2000000) (disch:=omega) only[go_sem,h49c];rw[aQ (fun k=>⟨(.one (.bls 0 0 N 1)::sv b::jk 6 (.agg [.dc (ci (n0:Nat)),.dc (ci (n1:Nat))]::vi k::jk 12 [])),[yb (aMz l b n0 n1 k),.box [.dc (ci (n0:Nat)),.dc (ci (n1:Nat))]]⟩) 2 ?_ ?_]
 simp (maxSteps:=2000000) (disch:=omega) only[go_sem,h49l0,aMz];rfl;intro k t;rcases (show k=0\/k=1 by omega) with rfl|rfl
 simp (maxSteps:=2000000) (disch:=omega) only[go_sem,h49l0,aMz,oH,rM,q,aC,g,aY9,a,Int.zero_mul,Int.reduceMul,Int.reduceAdd,d,e,iX];simp (maxSteps:=2000000) (disch:=omega) only[go_sem,h49l0,aMz,fU,oH,tQ,r,aC,g,aY9,a,i,Int.zero_mul,Int.reduceMul,Int.reduceAdd,d,s,n,iX]
end
section
variable {G:aE}{B:aN}
def Fl(s:L Int)(n:Nat):L Int:=(s.drop (n*256)).take 256
def kI(s:L Int)(a b:Nat):L Int:=Fl s a++Fl s b
abbrev pr2(a b:Nat):AV:=.agg [.dc (ci (a:Nat)),.dc (ci (b:Nat))]
theorem U1{s:L Int}(h:aH s)(n:Nat):aH (Fl s n):=fun x a=>h x (aZM (aZA a))
theorem kG{s:L Int}(h:aH s)(a b:Nat):aH (kI s a b):=fun x c=>by
 rcases bAB.1 c with q|q;exact U1 h a x q;exact U1 h b x q
theorem Bb{s:L Int}{n:Nat}(h:n*256+256<=s.length):(Fl s n).length=256:=by
 rw[Fl,aZd,aZh];omega
theorem Bc{s:L Int}{a b:Nat}(h:a*256+256<=s.length)(c:b*256+256<=s.length):(kI s a b).length=512:=by
 rw[kI,aZa,Bb h,Bb c]
theorem aAI(s:L Int)(n:Nat):List.take 256 (List.drop (n*256) (s.map yC))=(Fl s n).map yC:=by rw[Fl,aZZ,bAu]
def bkH(s:L Int)(a b:Nat):Nat->L Int
 |0=>[]
 |1=>Fl s a
 |_=>kI s a b
theorem Kq(x:Bt)(d e f:DC)(s:L Int)(p:aH s)(N a b:Nat)(c:s.length=N)(j:a*256+256<=N)(l:b*256+256<=N)(g:N<=200000):EV G (Tb B) 57 [.one (.ptr 0 0),pr2 a b] [Bm x d e N f,yb s]=some (sv (kI s a b),[Bm x d e N f,yb s]):=by
 have m:=Qa (G:=G) (B:=B) s N a c j g;have o:=Qa (G:=G) (B:=B) s N b c l g;have h:jN (List.take 256 (List.drop (a*256) (s.map yC)))=some ((Fl s a).map u8):=by rw[aAI,kN]
 have i:jN (List.take 256 (List.drop (b*256) (s.map yC)))=some ((Fl s b).map u8):=by rw[aAI,kN]
 have r:=Bb (s:=s) (n:=a) (by omega);have t:=Bb (s:=s) (n:=b) (by omega);have n0:fF ([]:L Int)=⟨#[]⟩:=rfl;refine aA rfl ?_;simp (maxSteps:=2000000) (disch:=omega) only[go_sem,h57c,<- n0];rw[aQ (fun k=>⟨(.one (.ptr 0 0)::jk 4 (sv (bkH s a b k)::jk 2 (pr2 a b::vi k::jk 13 []))),[Bm x d e N f,yb s,.box [.dc (ci (a:Nat)),.dc (ci (b:Nat))]]⟩) 2 ?_ ?_]
 simp (maxSteps:=2000000) (disch:=omega) only[go_sem,h57l0,bkH];simp (maxSteps:=2000000) (disch:=omega) only[go_sem,bkH];intro k q;rcases (show k=0\/k=1 by omega) with rfl|rfl
 simp (maxSteps:=2000000) (disch:=first|omega|(simp only[aZa,aZb,aZc,aY9,aB,aZg,aZd,aZh,aC,aP]<;>omega)|fail) only[go_sem,h57l0,bkH,oH,rM,m,c,h,O8,aZn,Int.reduceAdd]
 simp (maxSteps:=2000000) (disch:=first|omega|(simp only[aZa,aZb,aZc,aY9,aB,aZg,aZd,aZh,aC,aP]<;>omega)|fail) only[go_sem,h57l0,bkH,kI,oH,tQ,o,c,i,O8,Int.reduceAdd]
theorem aVz{α:Type}(a b:α):[[a],[b]].flatten=[a,b]:=rfl
abbrev prI(a b:Int):AV:=.agg [.dc (ci a),.dc (ci b)]
theorem aHZ(a:L Int)(n:Nat)(h:n+2<=a.length):a.drop n=a.getD n 0::a.getD (n+1) 0::a.drop (n+2):=by
 rw[aZ4 (by omega),aZ4 (by omega)];simp[show n<a.length by omega,show n+1<a.length by omega]
theorem aH0(x:Bt)(c d:DC)(N:Nat)(a:L Int)(s:L Int)(n:Nat)(h:2*n+2<=a.length)(i:a.length<=1000000):EV G (Tb B) 53 [.one (.ptr 0 0),vi n] [Bm x c d N (.slc (a.map fun n=>[ci n])),yb s]=some (prI (a.getD (2*n) 0) (a.getD (2*n+1) 0),[Bm x c d N (.slc (a.map fun n=>[ci n])),yb s]):=by
 have e:=aHZ a (2*n) h;have w:(2:Int)*(n:Int)=((2*n:Nat):Int):=by omega
 have g:(a.map fun n=>[ci n]).length=a.length:=by rw[aY9]
 have f:List.drop (2*n) (a.map fun n=>[ci n])=[ci (a.getD (2*n) 0)]::[ci (a.getD (2*n+1) 0)]::(a.drop (2*n+2)).map fun n=>[ci n]:=by rw[<- bAu,e];rfl
 have b:((a.map fun n=>[DC.raw (Value.int .i64 n)]).all fun e=>decide (e.length=1))=true:=by simp
 generalize j:2*n=m at *;generalize a.getD m 0=A at *;generalize a.getD (m+1) 0=C at *;generalize (a.drop (m+2)).map (fun n=>[ci n])=R at *
 refine aA rfl ?_;simp (maxSteps:=2000000) (disch:=omega) only[go_sem,h53c,w,g,aZy,f,b,if_true,aBc,aVz]
theorem Gd(x:Bt)(a b c:DC)(N:Nat)(s:L Int)(n:Nat)(h:n<=1000)(d:0<=x.mi/\x.mi<=1000):EV G (Tb B) 61 [.one (.ptr 0 0),vi n] [Bm x a b N c,yb s]=some (prI (x.mi+2*n) (x.mi+2*n+1),[Bm x a b N c,yb s]):=by
 have q:=Kp (G:=G) (B:=B) (x.mi+2*n) (by omega);refine aA rfl ?_;simp (maxSteps:=2000000) (disch:=omega) only[go_sem,h61c,q]
end
section
variable {G:aE}{bb:Bool}
end
section
variable {G:aE}{bb:Bool}
theorem aXM(l:L aK)(k:Nat)(a:k<l.length):((l.take (k+1)).map fJ).flatten=((l.take k).map fJ).flatten++fJ l[k]:=by
 rw[aZ5 a,aZQ,List.flatten_append];simp
abbrev bkv(p:L Int×Int):AV:=.tup [.one (.dc (.raw (.string (fF p.1)))),.one (.dc (ci p.2))]
abbrev cI.u(r:cI)(u:Int):AV:=.agg (r.c++[.dc (ci u)])
theorem U2(F:G9 G)(r:cI)(g:r.W)(u:Int):EV G (Tb (kS bb)) 108 [r.u u] []=some (bkv (Ag r u),[]):=by
 refine aA rfl ?_;have x:=qX (G:=G) (bb:=bb) r g;have w:=pI (G:=G) (bb:=bb) u 1 65535;have h:=pJ (G:=G) (bb:=bb);have y:=Ka (G:=G) (bb:=bb);unfold Ag aHk;by_cases c:aT [dR r,un (decide (1<=u/\u<=65535)) 2]=0
 rw[if_neg (not_not_intro c)];obtain⟨M,N⟩:=aAw c;have J:1<=u/\u<=65535:=of_decide_eq_true (aLZ (by decide) N);have i:=oZ M;have I:=i.ln;have l:=J7 i;have d:aH (gV r):=Nd fun p hp=>by
  obtain⟨a,v,rfl⟩:=List.mem_map.1 hp;exact (P1 (g.at' a v) (i.errs.1 a v)).1
 generalize dR r=A at *;have P:(fF []:ByteArray)=⟨#[]⟩:=rfl;have z:=up (aAA (G:=G) (bb:=bb) F r (gV r) i.n9 (by omega) d);have f:=A5 r (68+((gV r).length:Int)) (gV r) (by omega);have m:=D8 r (68+((gV r).length:Int)) (gV r) d;have K:((iT r (68+((gV r).length:Int)) (gV r)).drop 40).take 18=zl 18:=by
  refine Fd (by rw[aZd,aZh,f,aP];decide) (fun j H=>?_)
  rw[aZd,aZh,f] at H;rw[Fe _ _ _ _ (by omega),aAt,aHm _ _ _ _ (by omega) (by omega)]
 have L:=up (aCT (G:=G) (bb:=bb) _ u f m K J);unfold kW;generalize iT r (68+((gV r).length:Int)) (gV r)=b at *;generalize nI b u 8=p at *;have t:gV r=(r.ats.map fJ).flatten:=rfl;rw[t] at z;clear t l d;simp (disch:=omega) only[go_sem,h108c,x,w,h,y,eq_true c,aY9];rw[aQ (fun k=>⟨(jk 1 (.one (.ptr 0 0)::jk 3 (sv ((r.ats.take k).map fJ).flatten::jk 18 (vl (r.ats.map aK.e)::vi r.ats.length::vi k::jk 21 [])))),[.box (r.c++[.dc (ci u)]),.arr 0 1 [[ci A],[ci (un (decide (1<=u/\u<=65535)) 2)]]]⟩) r.ats.length ?_ ?_]
 simp (disch:=omega) only[go_sem,h108l0,aZO,z,L,aZp,aZn];rfl;intro k n;have q:=up (Mu (G:=G) (bb:=bb) r.ats[k] (g.at' _ (aZk n)));rw[aXM r.ats k n];have o:=Ke (r.ats.take k) (aHr g.at' k);have C:=Nc (r.ats.take k);have D:=sJ (g.at' _ (aZk n));rw[aZd] at o;have O:(((r.ats.take k).map fJ).flatten.length:Int)+(fJ r.ats[k]).length<=9223372036854775807:=by omega
 clear o C D;generalize ((r.ats.take k).map fJ).flatten=s at *;have E:fX .add (sv s) (sv (fJ r.ats[k]))=some (sv (s++fJ r.ats[k])):=by
  rw[Dh (by rw[aC,aC];omega),Hb]
 simp (disch:=omega) only[go_sem,h108l0,aY9,ixA,aK.e,q,E,aZp,aZn];rw[if_pos c];generalize dR r=A at *;simp (disch:=omega) only[go_sem,h108c,x,w,h,y,c];rfl
end
section
variable {G:aE}{bb:Bool}
abbrev dcv(p:cI×Int×Int):AV:=.tup [.agg (p.1.c++[.dc (ci p.2.1)]),.one (.dc (ci p.2.2))]
end
section
variable {G:aE}{bb:Bool}
theorem Kr:∀a:L (L Int),(∀p∈a,(bO p).2=0)->iN a=(a.map fun p=>(bO p).1,0)
 |[],_=>rfl
 | p::t,h=>by
  have b:=h p aZt;have d:=Kr t (fun q c=>h q (aZB _ c))
  rw[iN,if_neg (not_not_intro b),d];simp
theorem Ks:∀(a:L (L Int)) (k:Nat),k<a.length->(∀j,j<k->(bO (a.getD j [])).2=0)->(bO (a.getD k [])).2≠0->iN a=([],(bO (a.getD k [])).2)
 |[],k,c,_,_=>by simp at c
 | p::t,0,_,_,h=>by
  have b:(bO p).2≠0:=h;rw[iN,if_pos b];rfl
 | p::t,k+1,c,d,h=>by
  have e:(bO p).2=0:=d 0 (by omega);have g:=Ks t k (by simpa using c) (fun j f=>d (j+1) (by omega)) h
  have b:(bO (t.getD k [])).2≠0:=h;rw[iN,if_neg (not_not_intro e),g,if_pos b];rfl
theorem Bn{l:L Int}(b:aH l)(a k:Nat)(h:a+k<=l.length)(c:k<=4):0<=gL l a k/\gL l a k<=4294967295:=by
 have d:=lC b a k c;have:(256:Int) ^ k<=256 ^ 4:=by
  rcases k with _|_|_|_|_|k<;>first|decide|omega
 omega
theorem aQ3{o:L Int}(d:o.length=512)(a:aH o)(l:L aK):aQz (dV o l):=by
 have b:=Bn a 16 2 (by omega) (by omega);have c:=Bn a 18 2 (by omega) (by omega);have h3:=Bn a 22 2 (by omega) (by omega);have h4:=Bn a 32 4 (by omega) (by omega);have h5:=Bn a 36 2 (by omega) (by omega);have h6:=Bn a 38 2 (by omega) (by omega);have h7:=Bn a 8 4 (by omega) (by omega);refine⟨?_,?_,?_,?_,?_,?_,?_⟩<;>simp only[dV]<;>omega
abbrev r9(o:L Int):L aU:=[.dc (ci (gL o 16 2)),.dc (ci (gL o 18 2)),.dc (ci (gL o 22 2)),.dc (ci (gL o 32 4)),.dc (ci (gL o 36 2)),.dc (ci (gL o 38 2)),.dc (ci (gL o 8 4))]
abbrev z9:L aU:=[.dc (ci 0),.dc (ci 0),.dc (ci 0),.dc (ci 0),.dc (ci 0),.dc (ci 0),.dc (ci 0),.dc (.raw (.slice none 0 0)),.dc (ci 0)]
noncomputable def U3(o:L Int)(u:Int)(d:L aK×Int):cI×Int×Int:=if d.2≠0 then (.nil,0,d.2) else if dR (dV o d.1)≠0 then (.nil,0,dR (dV o d.1)) else (dV o d.1,u,0)
def Qd:HC:=sB (sB (sB (sB (sB (sB (sB (sB h59c)))))))
abbrev aQ4(e:Int):AV:=.tup [.agg [.dc (ci 0),.dc (ci 0),.dc (ci 0),.dc (ci 0),.dc (ci 0),.dc (ci 0),.dc (ci 0),.dc (.slc []),.dc (ci 0)],.one (.dc (ci e))]
theorem rN(e:Int):dcv (.nil,0,e)=aQ4 e:=rfl
theorem aQ5(o:List Int)(u:Int)(a:List (List Int))(K:a.length<=1000)(b:∀k (g:k<a.length),EV G (Tb (lP G bb)) 114 [sv a[k]] []=some (rtv (bO a[k]),[])) (l:EV G (Tb (lP G bb)) 106 [(dV o (iN a).1).v] []=some (vi (dR (dV o (iN a).1)),[])) {st:AS} (y:st=⟨(jk 2 (.one (.ptr 0 0)::jk 2 (vi u::jk 1 (.one (.ptr 1 0)::jk 63 (vl (a.map qF)::vi a.length::vi (0:Nat)::jk 28 []))))),[.box z9,.box (r9 o++[.bld 2 0]),.arr 0 11 []]⟩):qL false [.cell 2 true 9,.tmp 3] 0 (sqK (EV G (Tb (lP G bb))) G Qd (Bg 0 (EL (EV G (Tb (lP G bb))) G h59l0 [2,2,1,63,0,0] 3 st)))=some (dcv (U3 o u (iN a)),[]):=by
 have h:∀k (g:k<a.length),(a.map qF)[k]?=some (qF a[k]):=fun k g=>by rw[aZj,aZi g];rfl
 have q:∀k (g:k<a.length),a.getD k []=a[k]:=fun k g=>by simp[List.getD,g]
 rw[dP (fun k=>⟨(jk 2 (.one (.ptr 0 0)::jk 2 (vi u::jk 1 (.one (.ptr 1 0)::jk 63 (vl (a.map qF)::vi a.length::vi k::jk 28 []))))),[.box z9,.box (r9 o++[.bld 2 ((a.take k).map fun p=>(bO p).1.e).length]),.arr 0 11 ((a.take k).map fun p=>(bO p).1.e)]⟩) (fun k=>(bO (a.getD k [])).2≠0) a.length ?_ ?_]
 rotate_left
 rw[y];rfl;intro k g n;have E:=Classical.not_not.1 (n k (aZe _));rw[q k g] at E;have t:=b k g;have e:=h k g;have N:((a.take k).map fun p=>(bO p).1.e).length<=1000:=by rw[aY9,aZd];omega
 have s:gG 11 ((a.take k).map fun p=>(bO p).1.e)=true:=jP (f:=fun p=>(bO p).1.e) (fun _=>rfl) _
 have H:(a.take (k+1)).map (fun p=>(bO p).1.e)=(a.take k).map (fun p=>(bO p).1.e)++[(bO a[k]).1.e]:=by
  rw[aZ5 g,aZQ,aZl,aZm]
 rw[H];clear l b h q y n H;have D:((a.take k).map fun p=>(bO p).1.e).take ((a.take k).map fun p=>(bO p).1.e).length=(a.take k).map fun p=>(bO p).1.e:=aZO
 generalize (a.take k).map (fun p=>(bO p).1.e)=C at *
 generalize bO a[k]=d at *;obtain⟨x,z⟩:=d;dsimp only at E t ⊢;subst E;generalize a[k]=p at *;rw[aZa];simp (disch:=omega) only[go_sem,h59l0,aY9,e,t,aK.e,s,D,aZb,aZc,aZe,aZp,aZn,aZ0];obtain⟨g,hp,n⟩:=bI (fun k=>(bO (a.getD k [])).2≠0) a.length
 generalize ix (fun k=>(bO (a.getD k [])).2≠0) a.length=k at *
 rcases hp with rfl|⟨i,hp⟩
 have r:=Kr a (fun p hp=>by
  obtain⟨j,A,rfl⟩:=List.mem_iff_getElem.1 hp;have:=Classical.not_not.1 (n j A);rwa[q j A] at this)
 have F:(a.take a.length).map (fun p=>(bO p).1.e)=(a.map fun p=>(bO p).1).map aK.e:=by rw[aZO,aZG];rfl
 have m:((a.map fun p=>(bO p).1).map aK.e).length=a.length:=by simp
 have I:((a.map fun p=>(bO p).1).map aK.e).take a.length=(a.map fun p=>(bO p).1).map aK.e:=aZI (by omega)
 rw[F,m];rw[r] at l ⊢;unfold U3;rw[if_neg (not_not_intro rfl)];dsimp only at l ⊢;clear b h q y r F n;generalize (a.map fun p=>(bO p).1)=L at *
 by_cases w:dR (dV o L)=0;rw[if_neg (not_not_intro w)];rw[w] at l;simp only[dV,cI.v,cI.c] at l;generalize J:L.map aK.e=M at *;simp (disch:=omega) only[go_sem,Qd,sB,h59c,h59l0,aY9,l,m,I,aZe,aZp,aZn];simp only[dcv,dV,cI.c,J,aZp,aZn];rw[if_pos w,rN];generalize dR (dV o L)=O at *;simp only[dV,cI.v,cI.c] at l;generalize L.map aK.e=M at *;simp (disch:=omega) only[go_sem,Qd,sB,h59c,h59l0,aY9,l,w,m,I,aZe,aZp,aZn];have r:=Ks a k i (fun j A=>Classical.not_not.1 (n j A)) hp
 rw[q k i] at hp r;rw[r];unfold U3;dsimp only;rw[if_pos hp,rN];have t:=b k i;have e:=h k i;clear b h q y r n l;generalize (a.take k).map (fun p=>(bO p).1.e)=C at *
 generalize bO a[k]=d at *;obtain⟨x,z⟩:=d;dsimp only at hp t ⊢;generalize a[k]=p at *;simp (disch:=omega) only[go_sem,Qd,sB,h59c,h59l0,aY9,e,t,aK.e,hp,aZp,aZn]
end
section
variable {G:aE}{bb:Bool}
theorem Ef(e:G9 G)(s:L Int)(p:aH s)(Z:s.length<=9223372036854775807):EV G (Tb (lP G bb)) 59 [sv s] []=some (dcv (cE s),[]):=by
 refine aA rfl ?_;unfold cE;by_cases d:s.length=512;rw[if_neg (not_not_intro d)];have g:=sO (up (aQu (G:=G) (bb:=bb) s d p));by_cases h:jY s;rw[if_neg (not_not_intro h)];rw[if_pos h] at g;have N:¬ gS s=0:=h.1;have S:=qU d;have a:=J8 d p;have t:EV G (Tb (lP G bb)) 110 [Lo 16 2,sv (eU s)] []=some (vi (gL (eU s) 16 2),[]):=sO (up (Ai (G:=G) (bb:=bb) (eU s) a 16 2 (by omega) (by omega) (by omega)));have w:EV G (Tb (lP G bb)) 110 [Lo 18 2,sv (eU s)] []=some (vi (gL (eU s) 18 2),[]):=sO (up (Ai (G:=G) (bb:=bb) (eU s) a 18 2 (by omega) (by omega) (by omega)));have x:EV G (Tb (lP G bb)) 110 [Lo 22 2,sv (eU s)] []=some (vi (gL (eU s) 22 2),[]):=sO (up (Ai (G:=G) (bb:=bb) (eU s) a 22 2 (by omega) (by omega) (by omega)));have y:EV G (Tb (lP G bb)) 110 [Lo 32 4,sv (eU s)] []=some (vi (gL (eU s) 32 4),[]):=sO (up (Ai (G:=G) (bb:=bb) (eU s) a 32 4 (by omega) (by omega) (by omega)));have z:EV G (Tb (lP G bb)) 110 [Lo 36 2,sv (eU s)] []=some (vi (gL (eU s) 36 2),[]):=sO (up (Ai (G:=G) (bb:=bb) (eU s) a 36 2 (by omega) (by omega) (by omega)));have A:EV G (Tb (lP G bb)) 110 [Lo 38 2,sv (eU s)] []=some (vi (gL (eU s) 38 2),[]):=sO (up (Ai (G:=G) (bb:=bb) (eU s) a 38 2 (by omega) (by omega) (by omega)));have C:EV G (Tb (lP G bb)) 110 [Lo 8 4,sv (eU s)] []=some (vi (gL (eU s) 8 4),[]):=sO (up (Ai (G:=G) (bb:=bb) (eU s) a 8 4 (by omega) (by omega) (by omega)));have n:=sO (up (Xs (G:=G) (bb:=bb) (eU s) S a));have D:=e.sq;have E:=e.li;have F:=e.fl;have H:=e.ba;have I:=e.bo;have J:=e.nx;have K:=e.ls;cases m:Ah ((eU s).drop 64) with
 |none=>
  rw[m] at n;generalize gS s=u at *;simp (maxSteps:=2000000) (disch:=omega) only[go_sem,h59c,aC,d,g,N,D,E,F,H,I,J,K,t,w,x,y,z,A,C,n,cI.nil];all_goals rfl
 |some b=>
  rw[m] at n;obtain⟨P,Q,h3,h4⟩:=Xq d p m;have T:=aL6 (G:=G) (bb:=bb) b (by omega) (by omega);have q:=sO (up (aAA (G:=G) (bb:=bb) e (dV (eU s) []) b.flatten (aQ3 S a []) Q h4));have o:=dA (D8 (dV (eU s) []) (68+(b.flatten.length:Int)) b.flatten h4) a;have l:=aQA d p m;have O:Ua s b=if iT (dV (eU s) []) (68+(b.flatten.length:Int)) b.flatten≠eU s then (.nil,0,3) else U3 (eU s) (gS s) (iN b):=rfl
  dsimp only;rw[O];clear O;by_cases f:iT (dV (eU s) []) (68+(b.flatten.length:Int)) b.flatten=eU s;rw[if_neg (not_not_intro f)];rw[eq_true f] at o;have W:=f;have M:b.length<=1000:=by omega
  have j:∀ k (R:k < b.length),EV G (Tb (lP G bb)) 114 [sv b[k]] []=some (rtv (bO b[k]),[]):=fun k R=>by
   obtain⟨U,V,_⟩:=P _ (aZk R);exact sO (up (aCO (G:=G) (bb:=bb) b[k] U V))
  have X:=sO (qX (G:=G) (bb:=bb) (dV (eU s) (iN b).1) l);clear P Q h3 h4 l f m;generalize b.flatten=i at *;generalize iT (dV (eU s) []) (68+(i.length:Int)) i=Y at *;simp only[dV,cI.v,cI.c,aZm] at q;generalize gS s=u at *;simp (maxSteps:=2000000) (disch:=omega) only[go_sem,h59c,aC,d,g,N,D,E,F,H,I,J,K,t,w,x,y,z,A,C,n,T,q,o,I8,aY9];exact aQ5 (eU s) u b M j X rfl
  ·rw[if_pos f];rw[eq_false f] at o;generalize b.flatten=i at *;generalize iT (dV (eU s) []) (68+(i.length:Int)) i=Y at *;simp only[dV,cI.v,cI.c,aZm] at q;generalize gS s=u at *;simp (maxSteps:=2000000) (disch:=omega) only[go_sem,h59c,aC,d,g,N,D,E,F,H,I,J,K,t,w,x,y,z,A,C,n,T,q,o,I8,cI.nil];all_goals rfl
 ·rw[if_pos h];rw[if_neg h] at g;simp (maxSteps:=2000000) (disch:=omega) only[go_sem,h59c,aC,d,g,cI.nil];all_goals rfl
 ·rw[if_pos d];have r:¬ (s.length:Int)=512:=by omega
  simp (maxSteps:=2000000) (disch:=omega) only[go_sem,h59c,aC,r,cI.nil];all_goals rfl
end
section
variable {G:aE}{bb:Bool}
noncomputable def Qt(p q:L Int):cI×Int×Int:=if (cE p).2.2=0 then cE p else if (cE q).2.2=0 then cE q else cE p
theorem Kt(n:G9 G)(x:Bt)(h i j:DC)(s:L Int)(k:aH s)(N a b c d:Nat)(o:s.length=N)(w:a*256+256<=N)(y:b*256+256<=N)(z:c*256+256<=N)(h3:d*256+256<=N)(p:N<=200000):EV G (Tb (dX G bb)) 78 [.one (.ptr 0 0),pr2 a b,pr2 c d] [Bm x h i N j,yb s]=some (dcv (Qt (kI s a b) (kI s c d)),[Bm x h i N j,yb s]):=by
 have l:=Kq (G:=G) (B:=dX G bb) x h i j s k N a b o w y p;have q:=Kq (G:=G) (B:=dX G bb) x h i j s k N c d o z h3 p;have m:=upT (Ef (bb:=bb) n (kI s a b) (kG k a b) (by rw[Bc (by omega) (by omega)];omega));have t:=upT (Ef (bb:=bb) n (kI s c d) (kG k c d) (by rw[Bc (by omega) (by omega)];omega));unfold Qt;generalize kI s a b=P at *;generalize kI s c d=Q at *;generalize cE P=X at *;generalize cE Q=Y at *;obtain⟨r,u,e⟩:=X;obtain⟨A,C,v⟩:=Y;refine aA rfl ?_;by_cases f:e=0;rw[if_pos f];simp (maxSteps:=2000000) (disch:=omega) only[go_sem,h78c,l,m,f];rfl;rw[if_neg f];by_cases g:v=0;rw[if_pos g];simp (maxSteps:=2000000) (disch:=omega) only[go_sem,h78c,l,m,q,t,f,g];rfl;rw[if_neg g];simp (maxSteps:=2000000) (disch:=omega) only[go_sem,h78c,l,m,q,t,f,g];rfl
end
section
variable {G:aE}{B:aN}
theorem aQ6(c:Nat)(p:aK->Bool)(l:L aK)(h:l.length<=1000000)(g:∀a∈l,EV G (Tb B) c [a.v] []=some (vb (p a),[])):EV G (Tb B) 92 [vl (l.map aK.e),.one (.fn c [])] []=some (vi (jG p l),[]):=by
 refine aA rfl ?_;simp (disch:=omega) only[go_sem,h92c,aY9];unfold jG;rw[dP (fun k=>⟨(vl (l.map aK.e)::.one (.fn c [])::jk 5 (vi l.length::vi k::jk 10 [])),[]⟩) (fun k=>p (l.getD k aK.nil)=true) l.length ?_ ?_]
 rotate_left
 rfl;intro k d f;have h3:=f k (aZe _);rw[gB l k d] at h3;have h4:p l[k]=false:=by simpa using h3
 have q:=g l[k] (aZk d);rw[h4] at q;simp (disch:=omega) only[go_sem,h92l0,aY9,ixA,aK.e,q];obtain⟨d,hp,f⟩:=bI (fun k=>p (l.getD k aK.nil)=true) l.length
 generalize ix (fun k=>p (l.getD k aK.nil)=true) l.length=k at *
 rcases hp with rfl|⟨b,hp⟩;rw[if_pos rfl];simp (disch:=omega) only[go_sem,h92l0,aY9];rw[if_neg (by omega)];rw[gB l k b] at hp;have q:=g l[k] (aZk b);rw[hp] at q;simp (disch:=omega) only[go_sem,h92l0,aY9,ixA,aK.e,q]
noncomputable def Xy(p:aV->Bool)(l:L aV):Int:=if ix (fun k=>p (l.getD k ⟨0,0⟩)=true) l.length=l.length then -1 else (ix (fun k=>p (l.getD k ⟨0,0⟩)=true) l.length:Nat)
theorem U4(p:aV->Bool)(l:L aV):decide (0<=Xy p l)=l.any p:=by
 unfold Xy;obtain⟨e,hp,c⟩:=bI (fun k=>p (l.getD k ⟨0,0⟩)=true) l.length
 generalize ix (fun k=>p (l.getD k ⟨0,0⟩)=true) l.length=k at *
 rcases hp with rfl|⟨a,hp⟩;rw[if_pos rfl]
 symm
 rw[show decide ((0:Int)<=-1)=false from rfl,bAm]
 intro x d;obtain⟨j,b,rfl⟩:=bAJ d;have:=c j b;rw[kC l j b] at this;exact this;rw[if_neg (by omega),decide_eq_true (by omega)];rw[kC l k a] at hp;exact (List.any_eq_true.2 ⟨_,aZk a,hp⟩).symm
theorem aMA(a:Nat)(p:aV->Bool)(l:L aV)(b:l.length<=1000000)(c:∀r:aV,EV G (Tb B) a [r.v] []=some (vb (p r),[])):EV G (Tb B) 96 [cV l,.one (.fn a [])] []=some (vb (l.any p),[]):=by
 have q:EV G (Tb B) 146 [cV l,.one (.fn a [])] []=some (vi (Xy p l),[]):=To (G:=G) (B:=B) p a c l b;rw[<- U4];generalize Xy p l=I at *;refine aA rfl ?_;simp (disch:=omega) only[go_sem,h96c,q,ge_iff_le]
theorem aQ7(c:Nat)(a:L DC)(p:aV->Bool)(l:L aV)(h:l.length<=1000000)(g:∀r∈l,EV G (Tb B) c [r.v,.one (.ptr 0 0)] [.box (a.map aU.dc)]=some (vb (p r),[.box (a.map aU.dc)])):EV G (Tb B) 146 [cV l,.one (.fn c [.ptr 0 0])] [.box (a.map aU.dc)]=some (vi (Xy p l),[.box (a.map aU.dc)]):=by
 refine aA rfl ?_;simp (disch:=omega) only[go_sem,h146c,aY9,qA,qB,qC,qD,mL];unfold Xy;rw[dP (fun k=>⟨(cV l::.one (.fn c [.ptr 0 0])::jk 5 (vi l.length::vi k::jk 10 [])),[.box (a.map aU.dc)]⟩) (fun k=>p (l.getD k ⟨0,0⟩)=true) l.length ?_ ?_]
 rotate_left
 rfl;intro k d f;have h3:=f k (aZe _);rw[kC l k d] at h3;have h4:p l[k]=false:=by simpa using h3
 have q:=g l[k] (aZk d);rw[h4] at q;simp (disch:=omega) only[go_sem,h146l0,aY9,aV.e,q,qA,qB,qC,qD,mL];obtain⟨d,hp,f⟩:=bI (fun k=>p (l.getD k ⟨0,0⟩)=true) l.length
 generalize ix (fun k=>p (l.getD k ⟨0,0⟩)=true) l.length=k at *
 rcases hp with rfl|⟨b,hp⟩;rw[if_pos rfl];simp (disch:=omega) only[go_sem,h146l0,aY9,qA,qB,qC,qD,mL];rw[if_neg (by omega)];rw[kC l k b] at hp;have q:=g l[k] (aZk b);rw[hp] at q;simp (disch:=omega) only[go_sem,h146l0,aY9,aV.e,q,qA,qB,qC,qD,mL]
theorem aMB(b:Nat)(a:L DC)(p:aV->Bool)(l:L aV)(c:l.length<=1000000)(d:∀r∈l,EV G (Tb B) b [r.v,.one (.ptr 0 0)] [.box (a.map aU.dc)]=some (vb (p r),[.box (a.map aU.dc)])):EV G (Tb B) 96 [cV l,.one (.fn b [.ptr 0 0])] [.box (a.map aU.dc)]=some (vb (l.any p),[.box (a.map aU.dc)]):=by
 have q:=aQ7 (G:=G) (B:=B) b a p l c d;rw[<- U4];generalize Xy p l=I at *;refine aA rfl ?_;simp (disch:=omega) only[go_sem,h96c,q,ge_iff_le,qA,qB,qC,qD,mL]
def jI(a:aK):Bool:=decide (a.ty=128)&&decide (a.nm=[])
theorem aH1(a:aK):EV G (Tb B) 93 [a.v] []=some (vb (jI a),[]):=by
 have e:=Kn a.nm;unfold jI;refine aA rfl ?_;by_cases c:a.ty=128;simp (disch:=omega) only[go_sem,h93c,eq_true c,e,decide_true,aZJ];simp (disch:=omega) only[go_sem,h93c,c,decide_false,aZS]
theorem aQ8(r:aV):EV G (Tb B) 94 [r.v] []=some (vb (decide (r.s=-1)),[]):=by
 refine aA rfl ?_;simp (disch:=omega) only[go_sem,h94c]
theorem aH2(r:aV)(x:Bt)(h:-1000000<=r.s/\r.s<=1000000)(a:-1000000<=r.n/\r.n<=1000000):EV G (Tb B) 95 [r.v,.one (.ptr 0 0)] [x.o]=some (vb (decide (r.s+r.n > x.cl)),[x.o]):=by
 have q:=qI (G:=G) (B:=B) r.s r.n h a;refine aA rfl ?_;simp (disch:=omega) only[go_sem,h95c,q]
theorem Xz(l:L aK)(b:l.length<=1000000):EV G (Tb B) 92 [vl (l.map aK.e),.one (.fn 93 [])] []=some (vi (jG jI l),[]):=aQ6 _ _ l b (fun a _=>aH1 a)
theorem aAJ(l:L aV)(a:l.length<=1000000):EV G (Tb B) 96 [cV l,.one (.fn 94 [])] []=some (vb (l.any fun r=>decide (r.s=-1)),[]):=aMA _ _ l a aQ8
abbrev Bt.d(x:Bt):L DC:=[ci x.cl,ci x.tb,ci x.mi,ci x.lg,ci x.lc,ci x.se]
theorem aAK(l:L aV)(x:Bt)(b:l.length<=1000000)(h:∀r∈l,(-1000000<=r.s/\r.s<=1000000)/\(-1000000<=r.n/\r.n<=1000000)):EV G (Tb B) 96 [cV l,.one (.fn 95 [.ptr 0 0])] [x.o]=some (vb (l.any fun r=>decide (r.s+r.n > x.cl)),[x.o]):=
 aMB _ x.d _ l b (fun r a=>aH2 r x (h r a).1 (h r a).2)
end
section
variable {G:aE}{bb:Bool}
abbrev tE(e:Int):TV:=.one (.dc (ci e))
abbrev ptN:TV:=.one (.dc (.raw (.pointer none)))
theorem aH3{a b:Nat}{x y:Int}(h:(a:Int)=x)(c:(b:Int)=y):pr2 a b=prI x y:=by subst h;subst c;rfl
theorem aMC(s:L Int)(b:aH s)(c:s.length<=200000)(h:(aX s).2.2≠0):EV G (Tb (dX G bb)) 55 [sv s] []=some (.tup [ptN,tE (aX s).2.2],[]):=by
 have q:=Uv (G:=G) (B:=dX G bb) Ed s b c;generalize aX s=V at *;obtain⟨x,a,e⟩:=V;refine aA rfl ?_;simp (maxSteps:=2000000) (disch:=omega) only[go_sem,h55c,q,h,Bt.cs]
structure Pre (G:aE) (bb:Bool) (s:List Int) (x:Bt) (r:cI) (u e:Int):Prop where
 hB:aH s
 pos:0<s.length
 len:s.length<=200000
 q:∃a,EV G (Tb (dX G bb)) 91 [sv s] []=some (.tup [.agg x.cs,tI a,tI 0],[])
 nT:EV G (Tb (dX G bb)) 50 [vi x.tb] []=some (prI x.tb (x.tb+1),[])
 nM:EV G (Tb (dX G bb)) 50 [vi x.mi] []=some (prI x.mi (x.mi+1),[])
 ei:EV G (Tb (dX G bb)) 78 [.one (.ptr 0 0),prI x.tb (x.tb+1),prI x.mi (x.mi+1)] [Bm x (.raw (.slice none 0 0)) (.raw (.int .i64 0)) s.length (.raw (.slice none 0 0)),yb s]=some (dcv (r,u,e),[Bm x (.raw (.slice none 0 0)) (.raw (.int .i64 0)) s.length (.raw (.slice none 0 0)),yb s])
def Ku(s:L Int)(x:Bt):L Int:=kI s x.tb.toNat (x.tb.toNat+1)
def Nq(s:L Int)(x:Bt):L Int:=kI s x.mi.toNat (x.mi.toNat+1)
theorem aH4(i:G9 G)(s:L Int)(b:aH s)(c:s.length<=200000)(h:(aX s).2.2=0)(j:(0<=(aX s).1.tb/\(aX s).1.tb*256+512<=s.length)/\(0<=(aX s).1.mi/\(aX s).1.mi*256+512<=s.length)):Pre G bb s (aX s).1 (Qt (Ku s (aX s).1) (Nq s (aX s).1)).1 (Qt (Ku s (aX s).1) (Nq s (aX s).1)).2.1 (Qt (Ku s (aX s).1) (Nq s (aX s).1)).2.2:=by
 have q:=Uv (G:=G) (B:=dX G bb) Ed s b c;generalize aX s=V at *;obtain⟨x,a,e⟩:=V;simp only at h j q ⊢;subst h;obtain⟨T,l⟩:∃T:Nat,x.tb=T:=⟨x.tb.toNat,by omega⟩;obtain⟨M,k⟩:∃M:Nat,x.mi=M:=⟨x.mi.toNat,by omega⟩;have g:x.tb.toNat=T:=by omega
 have f:x.mi.toNat=M:=by omega
 have d:=Kt (G:=G) (bb:=bb) i x (.raw (.slice none 0 0)) (.raw (.int .i64 0)) (.raw (.slice none 0 0)) s b s.length T (T+1) M (M+1) rfl (by omega) (by omega) (by omega) (by omega) c;rw[aH3 (x:=x.tb) (y:=x.tb+1) (by omega) (by omega),aH3 (x:=x.mi) (y:=x.mi+1) (by omega) (by omega),<- g,<- f] at d;exact⟨b,by omega,c,⟨a,q⟩,Kp _ (by omega),Kp _ (by omega),d⟩
theorem aMD{s:L Int}{x:Bt}{r:cI}{u e:Int}(hp:Pre G bb s x r u e)(i:e≠0):EV G (Tb (dX G bb)) 55 [sv s] []=some (.tup [ptN,tE e],[]):=by
 obtain⟨g,c,m,⟨a,q⟩,l,k,f⟩:=hp;have h:=nW s g;have d:=Na (b:=s) rfl c;have j:=Ci s;refine aA rfl ?_;simp (maxSteps:=2000000) (disch:=omega) only[go_sem,h55c,q,Bt.cs,h,d,j,aC,aY9,l,k,f,i]
theorem aME{s:L Int}{x:Bt}{r:cI}{u:Int}(hp:Pre G bb s x r u 0)(e:r.ats.length<=1000000)(j:jG jI r.ats<0):EV G (Tb (dX G bb)) 55 [sv s] []=some (.tup [ptN,tE 6],[]):=by
 obtain⟨g,c,n,⟨a,q⟩,l,k,f⟩:=hp;have h:=nW s g;have d:=Na (b:=s) rfl c;have i:=Ci s;have m:=Xz (G:=G) (B:=dX G bb) r.ats e;generalize jG jI r.ats=I at *;refine aA rfl ?_;simp (maxSteps:=2000000) (disch:=omega) only[go_sem,h55c,q,Bt.cs,h,d,i,aC,aY9,l,k,f,m,j]
def Eg(x:Bt)(a:aK):Int:=aT [qG (!a.res&&decide (a.fi=0)) 15,qG (!a.rs.any fun r=>decide (r.s=-1)) 14,qG (!a.rs.any fun r=>decide (r.s+r.n > x.cl)) 37]
theorem Kv{B:aN}(a b c:Int):EV G (Tb B) 39 [vl [[ci a],[ci b],[ci c]]] []=some (vi (aT [a,b,c]),[]):=Uo [a,b,c] (by simp)
theorem aMF{s:L Int}{x:Bt}{r:cI}{u:Int}(hp:Pre G bb s x r u 0)(C:r.ats.length<=1000000)(K:Nat)(J:K<r.ats.length)(I:jG jI r.ats=K)(i:r.ats[K].rs.length<=1000000)(N:∀q∈r.ats[K].rs,(-1000000<=q.s/\q.s<=1000000)/\(-1000000<=q.n/\q.n<=1000000)) (g:Eg x r.ats[K]≠0):EV G (Tb (dX G bb)) 55 [sv s] []=some (.tup [ptN,tE (Eg x r.ats[K])],[]):=by
 obtain⟨H,j,O,⟨a,q⟩,F,E,t⟩:=hp;have y:=nW s H;have h:=Na (b:=s) rfl j;have z:=Ci s;have k:=Xz (G:=G) (B:=dX G bb) r.ats C;rw[I] at k;have w:=jH (G:=G) (B:=dX G bb);have v:=Kv (G:=G) (B:=dX G bb);have D:=ixA r.ats K J;unfold Eg at g ⊢;generalize r.ats[K]=A at *;have o:=aAJ (G:=G) (B:=dX G bb) A.rs i;have p:=aAK (G:=G) (B:=dX G bb) A.rs x i N;generalize (A.rs.any fun r=>decide (r.s=-1))=l at *
 generalize (A.rs.any fun r=>decide (r.s+r.n > x.cl))=m at *
 have M:(0:Int)<=(K:Int):=by omega
 refine aA rfl ?_;cases c:A.res;rw[c] at g;by_cases f:A.fi=0;rw[decide_eq_true f] at g ⊢;have d:¬ aT [qG true 15,qG (!l) 14,qG (!m) 37]=0:=g;simp (maxSteps:=2000000) (disch:=omega) only[go_sem,h55c,q,Bt.cs,y,h,z,aC,aY9,F,E,t,k,D,aK.e,c,f,o,p,w,v,d,aZF,aZz,aZJ,aZS];rw[decide_eq_false f] at g ⊢;have d:¬ aT [qG false 15,qG (!l) 14,qG (!m) 37]=0:=g;simp (maxSteps:=2000000) (disch:=omega) only[go_sem,h55c,q,Bt.cs,y,h,z,aC,aY9,F,E,t,k,D,aK.e,c,f,o,p,w,v,d,aZF,aZz,aZJ,aZS,Bool.and_false];rw[c] at g;have d:¬ aT [qG false 15,qG (!l) 14,qG (!m) 37]=0:=g;simp (maxSteps:=2000000) (disch:=omega) only[go_sem,h55c,q,Bt.cs,y,h,z,aC,aY9,F,E,t,k,D,aK.e,c,o,p,w,v,d,aZF,aZz,aZJ,aZS]
end
section
variable {G:aE}{bb:Bool}
theorem aRa(x:Bt)(b c:DC)(N:Nat)(a:L Int)(s:L Int)(e:(-1000000<=x.mi/\x.mi<=1000000)/\2<=x.cl/\x.cl<=1000000)(d:a.length<=1000000):EV G (Tb (dX G bb)) 97 [.one (.ptr 0 0)] [Bm x b c N (.slc (el a)),yb s]=some (vb (uH x a),[Bm x b c N (.slc (el a)),yb s]):=aVw x b c N a s e d
theorem An{B:aN}(x:Bt)(b c:DC)(N:Nat)(a:L Int)(s:L Int)(n:Nat)(h:2*n+2<=a.length)(d:a.length<=1000000):EV G (Tb B) 53 [.one (.ptr 0 0),vi n] [Bm x b c N (.slc (el a)),yb s]=some (prI (a.getD (2*n) 0) (a.getD (2*n+1) 0),[Bm x b c N (.slc (el a)),yb s]):=aH0 x b c N a s n h d
def clE(x:Bt)(a:L Int):Int:=aT [qG (!uH x a) 13,qG (decide (a.length % 2=0)&&decide (16<=a.length / 2/\a.length / 2<=96)) 2,qG (decide (2<=a.length)&&decide (a.getD 0 0=x.tb/\a.getD 1 0=x.tb+1)) 9]
abbrev rc9(r:cI)(u:Int):L aU:=[.dc (ci r.sq),.dc (ci r.li),.dc (ci r.fl),.dc (ci r.br),.dc (ci r.bq),.dc (ci r.nx),.dc (ci r.ls),.dc (.slc (r.ats.map aK.e)),.dc (ci u)]
abbrev opH(x:Bt)(r:cI)(u:Int)(s:L Int)(b:L aV)(a:L Int):L aD:=[x.o,yb s,Bm x (.slc (b.map aV.e)) (ci (a.length / 2:Nat)) s.length (.slc (el a)),.box (rc9 r u),.dead]
abbrev opB(x:Bt)(N:Nat)(a:L aV)(n:Nat):aD:=.box [.dc (ci x.cl),.dc (ci x.tb),.dc (ci x.mi),.dc (ci x.lg),.dc (ci x.lc),.dc (ci x.se),.dc (.slc (a.map aV.e)),.dc (ci 0),.bls 1 0 N 1,.bld 4 n]
theorem aVB(q:aV)(h:q.s≠-1)(n:Nat):Aw q (n+1)=Aw q n++[q.s+n]:=by rw[S0,if_neg h]
theorem aXN(x:Bt)(r:cI)(u:Int)(s:L Int)(a:L aV)(k:Nat)(q:aV)(g:-1<=q.s/\q.s<=1000)(D:L Int)(c:D.length<=1000000)(j:Nat)(d:j<q.n.toNat)(f:q.n<=100000000):K7 [4,2,6,93,0,0,4,0] 6 (EC (EV G (Tb (dX G bb))) G h55l0 ⟨(jk 4 (.one (.ptr 0 0)::jk 2 (.one (.ptr 2 0)::jk 6 (.one (.ptr 5 0)::jk 93 (cV a::vi a.length::vi k::jk 4 (vi q.n::vi j::jk 59 [])))))),[x.o,yb s,opB x s.length a D.length,.box (rc9 r u),.arr 0 1 (el D),.box [.dc (ci q.s),.dc (ci q.n)]]⟩)= some ⟨(jk 4 (.one (.ptr 0 0)::jk 2 (.one (.ptr 2 0)::jk 6 (.one (.ptr 5 0)::jk 93 (cV a::vi a.length::vi k::jk 4 (vi q.n::vi (j+1:Nat)::jk 59 [])))))),[x.o,yb s,opB x s.length a (D++[q.s+j]).length,.box (rc9 r u),.arr 0 1 (el (D++[q.s+j])),.box [.dc (ci q.s),.dc (ci q.n)]]⟩:=by
 have b:(j:Int)<q.n:=by omega
 have e:List.take D.length (List.map tX D)=List.map tX D:=aZI (by rw[aY9];exact aZe _);simp (maxSteps:=2000000) (disch:=omega) only[go_sem,h55l0,aY9,b,aNH,aZa,iX,pV,e]
theorem aVC(x:Bt)(r:cI)(u:Int)(s:L Int)(a:L aV)(hf:rW a)(f:∀q∈a,q.s≠-1)(i:cF a<=100000)(k:Nat)(b:k<a.length):K7 [4,2,100,0,0] 5 (EC (EV G (Tb (dX G bb))) G h55l1 ⟨(jk 4 (.one (.ptr 0 0)::jk 2 (.one (.ptr 2 0)::jk 100 (cV a::vi a.length::vi k::jk 65 [])))),[x.o,yb s,opB x s.length a (rY (a.take k)).length,.box (rc9 r u),.arr 0 1 (el (rY (a.take k)))]⟩)= some ⟨(jk 4 (.one (.ptr 0 0)::jk 2 (.one (.ptr 2 0)::jk 100 (cV a::vi a.length::vi (k+1:Nat)::jk 65 [])))),[x.o,yb s,opB x s.length a (rY (a.take (k+1))).length,.box (rc9 r u),.arr 0 1 (el (rY (a.take (k+1))))]⟩:=by
 have p:=hf.el _ (aZk b);have t:=hf.n_le (aZk b);have h3:=Ax (a.take k) (fun r c=>(hf.el r (aZA c)).2.2)
 have h4:=iJ a k (fun r c=>(hf.el r c).2.2)
 have l:=f _ (aZk b);have h:=hf.len;have h6:=Av a k b;have h7:=iJ a (k+1) (fun r c=>(hf.el r c).2.2)
 rw[S4 a k b];generalize rY (a.take k)=C at *;simp (maxSteps:=2000000) (disch:=omega) only[go_sem,h55l1,aY9,iX,pV,aV.e];rw[aQ (fun j=>⟨(jk 4 (.one (.ptr 0 0)::jk 2 (.one (.ptr 2 0)::jk 6 (.one (.ptr 5 0)::jk 93 (cV a::vi a.length::vi k::jk 4 (vi a[k].n::vi j::jk 59 [])))))),[x.o,yb s,opB x s.length a (C++Aw a[k] j).length,.box (rc9 r u),.arr 0 1 (el (C++Aw a[k] j)),.box [.dc (ci a[k].s),.dc (ci a[k].n)]]⟩) a[k].n.toNat ?_ ?_]
 have m:((a[k].n.toNat:Nat):Int)=a[k].n:=by omega
 simp (maxSteps:=2000000) (disch:=omega) only[go_sem,h55l0,aY9,aV.e,m,iX,pV];simp[Aw,jk];intro j g;have d:(C++Aw a[k] j).length=C.length+j:=by simp[Aw]
 rw[aVB a[k] l,<- aZr];exact aXN x r u s a k a[k] (by omega) (C++Aw a[k] j) (by omega) j g (by omega)
theorem aRb{s:L Int}{x:Bt}{r:cI}{u:Int}(hp:Pre G bb s x r u 0)(R:r.ats.length<=1000000)(K:Nat)(hK:K<r.ats.length)(hI:jG jI r.ats=K)(hf:rW r.ats[K].rs)(hx:(0<=x.mi/\x.mi<=1000)/\2<=x.cl/\x.cl<=1000)(P:cF r.ats[K].rs<=100000)(Q:∀q∈r.ats[K].rs,q.n<=100000) (p:Eg x r.ats[K]=0):EV G (Tb (dX G bb)) 55 [sv s] []=some (.tup [.one (.ptr 2 0),tE (clE x (rY r.ats[K].rs))],opH x r u s r.ats[K].rs (rY r.ats[K].rs)):=by
 obtain⟨hB,E,hl,⟨a,q⟩,t,nM,X⟩:=hp;have Z:=nW s hB;have z:=Na (b:=s) rfl E;have hF:=Ci s;have S:=Xz (G:=G) (B:=dX G bb) r.ats R;rw[hI] at S;have w:=jH (G:=G) (B:=dX G bb);have j:=Kv (G:=G) (B:=dX G bb);have H:=ixA r.ats K hK;unfold Eg at p;generalize r.ats[K]=A at *;have D:A.rs.length<=1000000:=by have:=hf.len;omega
 have M:=aAJ (G:=G) (B:=dX G bb) A.rs D;have N:=aAK (G:=G) (B:=dX G bb) A.rs x D (fun q J=>by have:=hf.el q J;have:=Q q J;omega)
 have hp0:(0:Int)<=(K:Int):=by omega
 have e1:A.res=false/\A.fi=0/\(A.rs.any fun r=>decide (r.s=-1))=false/\(A.rs.any fun r=>decide (r.s+r.n > x.cl))=false:=by
  cases h5:A.res
  ·by_cases h6:A.fi=0
   ·rw[h5,decide_eq_true h6] at p;refine⟨rfl,h6, ?_⟩;revert p;cases (A.rs.any fun r=>decide (r.s=-1))<;>cases (A.rs.any fun r=>decide (r.s+r.n > x.cl))<;>simp[qG,aT]
   ·rw[h5,decide_eq_false h6] at p;revert p;cases (A.rs.any fun r=>decide (r.s=-1))<;>cases (A.rs.any fun r=>decide (r.s+r.n > x.cl))<;>simp[qG,aT]
  ·rw[h5] at p;revert p;cases (A.rs.any fun r=>decide (r.s=-1))<;>cases (A.rs.any fun r=>decide (r.s+r.n > x.cl))<;>simp[qG,aT]
 obtain⟨F,O,h3,h4⟩:=e1;rw[h3] at M;rw[h4] at N;have V:aT [qG true 15,qG true 14,qG true 37]=0:=rfl;refine aA rfl ?_;simp (maxSteps:=2000000) (disch:=omega) only[go_sem,h55c,q,Bt.cs,Z,z,hF,aC,aY9,t,nM,X,S,H,aK.e,F,O,M,N,w,j,V,aZF,aZz,aZJ,aZS];rw[aQ (fun k=>⟨(jk 4 (.one (.ptr 0 0)::jk 2 (.one (.ptr 2 0)::jk 100 (cV A.rs::vi A.rs.length::vi k::jk 65 [])))),[x.o,yb s,opB x s.length A.rs (rY (A.rs.take k)).length,.box (rc9 r u),.arr 0 1 (el (rY (A.rs.take k)))]⟩) A.rs.length ?_ ?_]
 rotate_left
 rfl
 exact fun k hk=>aVC x r u s A.rs hf (fun q J e=>by
  have:=bAm.1 h3 q J;simp[e] at this) P k hk
 clear q Z z hF S X M N H V j;have j:=Kv (G:=G) (B:=dX G bb);have lc:=Ax A.rs (fun r Q=>(hf.el r Q).2.2)
 rw[aZO];generalize rY A.rs=C at *;have i:=aRa (G:=G) (bb:=bb) x (.slc (A.rs.map aV.e)) (ci (C.length / 2:Nat)) s.length C s (by omega) (by omega);unfold clE;generalize uH x C=CB at *;have d:(C.length:Int).tmod 2=((C.length % 2:Nat):Int):=Fk C.length 2;have c:(C.length:Int).tdiv 2=((C.length / 2:Nat):Int):=P9 C.length 2;have I:=kO (G:=G) (B:=dX G bb) (C.length / 2:Nat) 16 96;have eW:decide ((16:Int)<=(C.length / 2:Nat)/\((C.length / 2:Nat):Int)<=96)=decide (16<=C.length / 2/\C.length / 2<=96):=by rw[decide_eq_decide];omega
 rw[eW] at I;generalize decide (16<=C.length / 2/\C.length / 2<=96)=W at *;by_cases Y:C.length % 2=0;have g:((C.length % 2:Nat):Int)=0:=by omega
 rw[decide_eq_true Y,aZJ];by_cases y:2<=C.length;have f:(C.length:Int)≥2:=by omega
 rw[decide_eq_true y,aZJ];have v:EV G (Tb (dX G bb)) 53 [.one (.ptr 0 0),vi 0] [Bm x (.slc (A.rs.map aV.e)) (ci (C.length / 2:Nat)) s.length (.slc (el C)),yb s]=some (prI (C.getD 0 0) (C.getD 1 0),[Bm x (.slc (A.rs.map aV.e)) (ci (C.length / 2:Nat)) s.length (.slc (el C)),yb s]):=An x _ _ _ C s 0 (by omega) (by omega);generalize C.getD 0 0=T at *;generalize C.getD 1 0=U at *;by_cases l:T=x.tb;by_cases m:U=x.tb+1;rw[decide_eq_true (And.intro l m)];simp (maxSteps:=2000000) (disch:=omega) only[go_sem,h55l1,aY9,iX,pV,d,c,g,eq_true f,i,v,t,w,I,j,eq_true l,eq_true m];rw[decide_eq_false (fun h=>m h.2)]
 simp (maxSteps:=2000000) (disch:=omega) only[go_sem,h55l1,aY9,iX,pV,d,c,g,eq_true f,i,v,t,w,I,j,eq_true l,m];rw[decide_eq_false (fun h=>l h.1)]
 simp (maxSteps:=2000000) (disch:=omega) only[go_sem,h55l1,aY9,iX,pV,d,c,g,eq_true f,i,v,t,w,I,j,l];have f:¬ (C.length:Int)≥2:=by omega
 rw[decide_eq_false y,aZS];simp (maxSteps:=2000000) (disch:=omega) only[go_sem,h55l1,aY9,iX,pV,d,c,g,f,i,w,I,j];have g:¬ ((C.length % 2:Nat):Int)=0:=by omega
 rw[decide_eq_false Y,aZS];by_cases y:2<=C.length;have f:(C.length:Int)≥2:=by omega
 rw[decide_eq_true y,aZJ];have v:EV G (Tb (dX G bb)) 53 [.one (.ptr 0 0),vi 0] [Bm x (.slc (A.rs.map aV.e)) (ci (C.length / 2:Nat)) s.length (.slc (el C)),yb s]=some (prI (C.getD 0 0) (C.getD 1 0),[Bm x (.slc (A.rs.map aV.e)) (ci (C.length / 2:Nat)) s.length (.slc (el C)),yb s]):=An x _ _ _ C s 0 (by omega) (by omega);generalize C.getD 0 0=T at *;generalize C.getD 1 0=U at *;by_cases l:T=x.tb;by_cases m:U=x.tb+1;rw[decide_eq_true (And.intro l m)];simp (maxSteps:=2000000) (disch:=omega) only[go_sem,h55l1,aY9,iX,pV,d,c,g,eq_true f,i,v,t,w,j,eq_true l,eq_true m];rw[decide_eq_false (fun h=>m h.2)]
 simp (maxSteps:=2000000) (disch:=omega) only[go_sem,h55l1,aY9,iX,pV,d,c,g,eq_true f,i,v,t,w,j,eq_true l,m];rw[decide_eq_false (fun h=>l h.1)]
 simp (maxSteps:=2000000) (disch:=omega) only[go_sem,h55l1,aY9,iX,pV,d,c,g,eq_true f,i,v,t,w,j,l];have f:¬ (C.length:Int)≥2:=by omega
 rw[decide_eq_false y,aZS];simp (maxSteps:=2000000) (disch:=omega) only[go_sem,h55l1,aY9,iX,pV,d,c,g,f,i,w,j]
end
section
variable {G:aE}{bb:Bool}
theorem qZ{a:aK}(b:a.W)(h:iL a=0):(nC a.rs).2=0:=by
 have h4:=(mJ b h).e;unfold uF at h4;split at h4;rename_i c;unfold Li at h4;split at h4;rename_i q;rw[q.1];rfl;cases h4;exact (E7 h4).2.2.2.1
theorem Be{l:L aV}(h:(nC l).2=0):rW l/\cF l<=4096/\∀q∈l,(-1<=q.s/\q.s<=1000)/\(0<=q.n/\q.n<=4096):=by
 have a:=Do h;have d:=aUD h;refine⟨a,d.2,fun q c=>?_⟩
 have h3:=a.el q c;obtain⟨i,e,rfl⟩:=List.mem_iff_getElem.1 c;have h4:=Av l i e;have h5:=iJ l (i+1) (fun r b=>(a.el r b).2.2)
 have h6:=iI (l.take i) (fun r b=>(a.el r (aZA b)).2.2)
 omega
noncomputable def kY(s:L Int):cI×Int×Int:=Qt (Ku s (aX s).1) (Nq s (aX s).1)
noncomputable def lI(s:L Int):aK:=(kY s).1.ats.getD (jG jI (kY s).1.ats).toNat aK.nil
noncomputable def nE(s:L Int):Int:=if (aX s).2.2≠0 then (aX s).2.2 else if (kY s).2.2≠0 then (kY s).2.2 else if jG jI (kY s).1.ats<0 then 6 else Eg (aX s).1 (lI s)
noncomputable def iZ(s:L Int):L Int:=rY (lI s).rs
noncomputable def Lt(s:L Int):Int:=clE (aX s).1 (iZ s)
noncomputable def nX(s:L Int):Int:=if nE s≠0 then nE s else Lt s
theorem aRc{s:L Int}(h:(aX s).2.2=0):K8 s.length=0/\jZ (aX s).1=0/\(aX s).1.cl=(s.length / 256:Nat):=by
 unfold aX at h ⊢;by_cases e:K8 s.length=0;rw[if_pos e] at h ⊢;have f:∀l:L Int,(fR l).2=0->jZ (fR l).1=0:=by
  intro l d;unfold fR at d ⊢;split at d;split at d;split at d;rename_i a b c;rw[if_pos a,if_pos b,if_pos c];exact c;rename_i c;exact absurd d c;cases d;cases d
 unfold uA at h ⊢;by_cases g:(fR (s.take 64)).2=0/\(fR (s.take 64)).1.cl=(s.length / 256:Nat);rw[if_pos g];exact⟨e,f _ g.1,g.2⟩;rw[if_neg g] at h ⊢;by_cases h3:(fR (s.drop (s.length-64))).2=0/\(fR (s.drop (s.length-64))).1.cl=(s.length / 256:Nat);rw[if_pos h3];exact⟨e,f _ h3.1,h3.2⟩;rw[if_neg h3] at h;cases h;rw[if_neg e] at h;exact absurd h e
structure Bok (x:Bt) (N:Nat):Prop where
 cl:x.cl=(N / 256:Nat)
 n:N % 256=0/\64<=N / 256/\N / 256<=512
 tb:1<=x.tb/\x.tb<=x.cl-2
 mi:1<=x.mi/\x.mi+8<x.cl
 lg:1<=x.lg/\x.lg+x.lc<x.cl
 lc:8<=x.lc/\x.lc<=64
theorem Hn{s:L Int}(h:(aX s).2.2=0):Bok (aX s).1 s.length:=by
 obtain⟨e,g,h3⟩:=aRc h;obtain⟨a,b,c,d⟩:=aMm g;obtain⟨n1,m,l,n⟩:=mM.1 a;obtain⟨i,j,k⟩:=qY.1 b;have f:=Ea.1 c;exact⟨h3,dk0 e,i,⟨j.1,f.1⟩,⟨k.1,f.2⟩,l⟩
theorem aH5(p q:L Int)(hp:aH p)(a:aH q):(Qt p q).1.W/\((Qt p q).2.2=0->dR (Qt p q).1=0):=by
 have k:∀ p:L Int,aH p->(cE p).1.W/\((cE p).2.2=0->dR (cE p).1=0):=fun p hp=>⟨aVg hp,fun h=>by
  rcases Xr hp with q | q
  ·exact absurd h q.1
  ·exact q.2.1⟩
 unfold Qt;split;exact k p hp;split;exact k q a;exact k p hp
theorem Qf(s:L Int)(a:aH s):(kY s).1.W/\((kY s).2.2=0->dR (kY s).1=0):=aH5 _ _ (kG a _ _) (kG a _ _)
theorem U5{s:L Int}(h:¬ jG jI (kY s).1.ats<0):∃K:Nat,∃d:K<(kY s).1.ats.length,jG jI (kY s).1.ats=K/\lI s=(kY s).1.ats[K]/\jI (kY s).1.ats[K]=true/\∀j,j<K->jI ((kY s).1.ats.getD j aK.nil)=false:=by
 unfold lI;generalize (kY s).1.ats=l at *;unfold jG at h ⊢;obtain⟨e,hp,c⟩:=bI (fun k=>jI (l.getD k aK.nil)=true) l.length
 generalize ix (fun k=>jI (l.getD k aK.nil)=true) l.length=k at *
 rcases hp with rfl|⟨a,hp⟩;rw[if_pos rfl] at h;exact absurd (by decide) h
 rw[if_neg (by omega)];refine⟨k,a,rfl,?_,by rw[<- gB l k a];exact hp,fun j b=>by simpa using c j b⟩
 rw[aZy,gB l k a]
theorem Kw{s:L Int}(d:aH s)(b:(kY s).2.2=0)(c:¬ jG jI (kY s).1.ats<0):(lI s).W/\iL (lI s)=0:=by
 obtain⟨K,a,_,h3,_⟩:=U5 c;obtain⟨h4,h5⟩:=Qf s d;rw[h3];exact⟨h4.at' _ (aZk a),(oZ (h5 b)).errs.1 _ (aZk a)⟩
theorem U6(l:G9 G)(s:L Int)(e:aH s)(j:s.length<=200000)(h:nE s≠0):EV G (Tb (dX G bb)) 55 [sv s] []=some (.tup [ptN,tE (nE s)],[]):=by
 unfold nE at h ⊢;by_cases a:(aX s).2.2=0;rw[if_neg (not_not_intro a)] at h ⊢;have b:=Hn a;have t:=b.cl;have u:=b.n;have v:=b.tb;have w:=b.mi;have hp:=aH4 (bb:=bb) l s e j a ⟨⟨by omega,by omega⟩,⟨by omega,by omega⟩⟩;change Pre G bb s (aX s).1 (kY s).1 (kY s).2.1 (kY s).2.2 at hp;by_cases c:(kY s).2.2=0;rw[if_neg (not_not_intro c)] at h ⊢;rw[c] at hp;have x:=(Qf s e).1.ln;by_cases h3:jG jI (kY s).1.ats<0;rw[if_pos h3];exact aME hp (by omega) h3;rw[if_neg h3] at h ⊢;obtain⟨i,d⟩:=Kw e c h3;obtain⟨K,m,p,r,_⟩:=U5 h3;obtain⟨f,k,g⟩:=Be (qZ i d);rw[r] at h i d f k g ⊢;exact aMF hp (by omega) K m p (by have:=f.len;omega) (fun q o=>by have:=g q o;omega) h
 rw[if_pos c];exact aMD hp c;rw[if_pos a];exact aMC s e j a
theorem X0{s:L Int}(h:nE s=0):(aX s).2.2=0/\(kY s).2.2=0/\¬ jG jI (kY s).1.ats<0/\Eg (aX s).1 (lI s)=0:=by
 unfold nE at h;by_cases a:(aX s).2.2=0;rw[if_neg (not_not_intro a)] at h;by_cases b:(kY s).2.2=0;rw[if_neg (not_not_intro b)] at h;by_cases h3:jG jI (kY s).1.ats<0;rw[if_pos h3] at h;cases h;rw[if_neg h3] at h;exact⟨a,b,h3,h⟩;rw[if_pos b] at h;exact absurd h b;rw[if_pos a] at h;exact absurd h a
theorem Ho(k:G9 G)(s:L Int)(c:aH s)(m:s.length<=200000)(h:nE s=0):EV G (Tb (dX G bb)) 55 [sv s] []=some (.tup [.one (.ptr 2 0),tE (Lt s)],opH (aX s).1 (kY s).1 (kY s).2.1 s (lI s).rs (iZ s)):=by
 obtain⟨f,g,h3,h4⟩:=X0 h;have b:=Hn f;have t:=b.cl;have u:=b.n;have v:=b.tb;have w:=b.mi;have hp:=aH4 (bb:=bb) k s c m f ⟨⟨by omega,by omega⟩,⟨by omega,by omega⟩⟩;change Pre G bb s (aX s).1 (kY s).1 (kY s).2.1 (kY s).2.2 at hp;rw[g] at hp;have x:=(Qf s c).1.ln;obtain⟨i,a⟩:=Kw c g h3;obtain⟨K,l,p,r,_⟩:=U5 h3;obtain⟨d,j,e⟩:=Be (qZ i a);unfold Lt iZ;rw[r] at h4 i a d j e ⊢;exact aRb hp (by omega) K l p d ⟨by omega,by omega⟩ (by omega) (fun q o=>by have:=e q o;omega) h4
end
section
variable {G:aE}{bb:Bool}
structure Tok (x:Bt) (N:Nat) (C:List Int):Prop where
 b:Bok x N
 rg:∀c∈C,1<=c/\c<=x.cl-2
 mi:∀c∈C,¬ (x.mi<=c/\c<=x.mi+7)
 nd:C.Nodup
 ev:C.length % 2=0
 ln:16<=C.length / 2/\C.length / 2<=96
 h0:C.getD 0 0=x.tb/\C.getD 1 0=x.tb+1
theorem aMG{l:L aV}(e:∀q∈l,q.s≠-1){c:Int}(h:c∈rY l):∃q∈l,q.s<=c/\c<q.s+q.n:=by
 obtain⟨q,d,a⟩:=List.mem_flatMap.1 h;refine⟨q,d,?_⟩;unfold Aw at a;obtain⟨k,b,rfl⟩:=List.mem_map.1 a;have b:=List.mem_range.1 b;rw[if_neg (e q d)];omega
theorem Kx{b:Bool}{e:Int}(a:e≠0)(h:qG b e=0):b=true:=by
 unfold qG at h;split at h
 assumption
 exact absurd h a
theorem aRd{x:Bt}{a:aK}(h:Eg x a=0):a.res=false/\a.fi=0/\(∀q∈a.rs,q.s≠-1)/\∀q∈a.rs,q.s+q.n<=x.cl:=by
 obtain⟨b,c,h3⟩:=P0 h;have b:=Kx (by decide) b;have c:=Kx (by decide) c;have h3:=Kx (by decide) h3;simp only[aZq,bAb,decide_eq_true_eq,bAm] at b c h3;exact⟨b.1,b.2,fun q d e=>c q d e,fun q d=>by have:=h3 q d;omega⟩
theorem aMH{x:Bt}{C:L Int}(h:uH x C=false):∀k (a:k<C.length),C[k]≠0/\C[k]≠x.cl-1/\¬ C[k]∈C.take k/\¬ (x.mi<=C[k]/\C[k]<=x.mi+7):=by
 intro k a;have h:=of_decide_eq_false h;have e:C.getD k 0=C[k]:=by simp[a]
 refine⟨fun q=>h ⟨k,a,.inl ?_⟩,fun q=>h ⟨k,a,.inl ?_⟩,fun q=>h ⟨k,a,.inl ?_⟩,fun q=>h ⟨k,a,.inr ?_⟩⟩
 rw[e,q];simp;rw[e,q];simp;rw[e];simp[q];rw[e];omega
theorem jJ{s:L Int}(D:aH s)(h:nX s=0):nE s=0/\Lt s=0/\Tok (aX s).1 s.length (iZ s):=by
 have l:nE s=0:=by
  unfold nX at h;by_cases q:nE s=0;exact q;rw[if_pos q] at h;exact absurd h q
 have m:Lt s=0:=by
  unfold nX at h;rw[if_neg (not_not_intro l)] at h;exact h
 obtain⟨x,y,z,A⟩:=X0 l;have b:=Hn x;obtain⟨C,n⟩:=Kw D y z;obtain⟨I,J,v⟩:=Be (qZ C n);obtain⟨K,M,u,w⟩:=aRd A;refine⟨l,m, ?_⟩;unfold Lt clE at m;obtain⟨f,d,g⟩:=P0 m;have f:=Kx (by decide) f;have d:=Kx (by decide) d;have g:=Kx (by decide) g;simp only[aZq,bAb,decide_eq_true_eq] at f d g;have t:=aMH f;have H:∀ c∈iZ s,0<=c/\c < (aX s).1.cl:=fun c a=>by
  obtain⟨q,p,l,m⟩:=aMG u a;have:=w q p;have:=v q p;have:=u q p;omega
 refine⟨b,fun c a=>?_,fun c a=>?_,?_,d.1,d.2,g.2⟩
 have r:=H c a;obtain⟨k,o,rfl⟩:=List.mem_iff_getElem.1 a;have:=t k o;omega;obtain⟨k,o,rfl⟩:=List.mem_iff_getElem.1 a;exact (t k o).2.2.2;rw[List.nodup_iff_pairwise_ne,List.pairwise_iff_getElem];intro i j N F E e;refine (t j F).2.2.1 ?_;rw[<- e];exact List.mem_take_iff_getElem.2 ⟨i,by omega,rfl⟩
noncomputable def Qu(s:L Int)(x:Bt)(C:L Int)(n:Nat):cI×Int×Int:=
 Qt (kI s (C.getD (2*n) 0).toNat (C.getD (2*n+1) 0).toNat) (if n<4 then kI s (x.mi.toNat+2*n) (x.mi.toNat+2*n+1) else kI s (C.getD (2*n) 0).toNat (C.getD (2*n+1) 0).toNat)
theorem Tok.at{x:Bt}{N:Nat}{C:L Int}(h:Tok x N C){k:Nat}(a:k<C.length):∃c:Nat,C.getD k 0=c/\c*256+256<=N/\1<=c/\c*256+512<=N:=by
 have e:C.getD k 0=C[k]:=by simp[a]
 have:=h.rg _ (aZk a);have:=h.b.cl;have:=h.b.n;exact⟨C[k].toNat,by omega,by omega,by omega,by omega⟩
theorem aAM(m:G9 G)(x:Bt)(f g:DC)(s:L Int)(l:aH s)(o:s.length<=200000)(C:L Int)(i:Tok x s.length C)(n:Nat)(J:n<C.length / 2):EV G (Tb (dX G bb)) 35 [.one (.ptr 0 0),vi n] [Bm x f g s.length (.slc (el C)),yb s]=some (dcv (Qu s x C n),[Bm x f g s.length (.slc (el C)),yb s]):=by
 have t:=i.ln;have j:=An (G:=G) (B:=dX G bb) x f g s.length C s n (by omega) (by omega);obtain⟨a,p,w,z,_⟩:=i.at (k:=2*n) (by omega);obtain⟨c,q,H,I,_⟩:=i.at (k:=2*n+1) (by omega);obtain⟨b,_,_,_,_,_⟩:=i;have A:=b.cl;have D:=b.n;have F:=b.mi;unfold Qu;rw[p,q] at j ⊢;rw[aZy,aZy];by_cases h4:n<4
 ·rw[if_pos h4];have v:=Gd (G:=G) (B:=dX G bb) x f g (.slc (el C)) s.length s n (by omega) (by omega);have h:=Kt (G:=G) (bb:=bb) m x f g (.slc (el C)) s l s.length a c (x.mi.toNat+2*n) (x.mi.toNat+2*n+1) rfl (by omega) (by omega) (by omega) (by omega) o;rw[aH3 (a:=x.mi.toNat+2*n) (x:=x.mi+2*n) (y:=x.mi+2*n+1) (by omega) (by omega)] at h;have d:(n:Int)<4:=by omega
  generalize Qt _ _=E at *;obtain⟨r,u,e⟩:=E;refine aA rfl ?_;simp (maxSteps:=2000000) (disch:=omega) only[go_sem,h35c,j,v,h,d,aY9];try rfl
 ·rw[if_neg h4];have h:=Kt (G:=G) (bb:=bb) m x f g (.slc (el C)) s l s.length a c a c rfl (by omega) (by omega) (by omega) (by omega) o;have d:¬ (n:Int)<4:=by omega
  generalize Qt _ _=E at *;obtain⟨r,u,e⟩:=E;refine aA rfl ?_;simp (maxSteps:=2000000) (disch:=omega) only[go_sem,h35c,j,h,d,aY9];try rfl
end
section
variable {G:aE}{bb:Bool}
noncomputable def qO(s:L Int):Nat:=(iZ s).length / 2
theorem aH6{s:L Int}(h:nX s≠0):(nE s≠0/\nE s=nX s)\/(nE s=0/\Lt s=nX s):=by
 unfold nX at h ⊢;by_cases q:nE s=0;rw[if_neg (not_not_intro q)];exact .inr ⟨q,rfl⟩;rw[if_pos q];exact .inl ⟨q,rfl⟩
theorem Cj(b:G9 G)(s:L Int)(a:aH s)(c:s.length<=200000)(n:Int)(h:nX s≠0):EV G (Tb (dX G bb)) 19 [sv s,vi n] []=some (.tup [ptN,tE (nX s)],[]):=by
 rcases aH6 h with⟨q,e⟩|⟨q,e⟩;have o:=U6 (bb:=bb) b s a c q;rw[e] at o;refine aA rfl ?_;simp (maxSteps:=2000000) (disch:=omega) only[go_sem,h19c,o,h];have o:=Ho (bb:=bb) b s a c q;rw[e] at o;generalize iZ s=C at *;refine aA rfl ?_;simp (maxSteps:=2000000) (disch:=omega) only[go_sem,h19c,o,h,aZl,aZm,eL,sF]
theorem pK(b:G9 G)(s:L Int)(a:aH s)(d:s.length<=200000)(n:Int)(h:nX s=0):EV G (Tb (dX G bb)) 19 [sv s,vi n] []=some (.tup [.one (.ptr 2 0),tE (qG (decide (0<=n/\n<=(qO s:Int)-1)) 6)],opH (aX s).1 (kY s).1 (kY s).2.1 s (lI s).rs (iZ s)):=by
 obtain⟨f,g,c⟩:=jJ a h;have o:=Ho (bb:=bb) b s a d f;rw[g] at o;have e:=c.ln;have w:=kO (G:=G) (B:=dX G bb) n 0 ((qO s:Int)-1);have u:=jH (G:=G) (B:=dX G bb);unfold qO at w ⊢;change _=some (_,opH (aX s).1 (kY s).1 (kY s).2.1 s (lI s).rs (iZ s));generalize iZ s=C at *;generalize (aX s).1=x at *;generalize (kY s).1=r at *;generalize (kY s).2.1=j at *;generalize (lI s).rs=i at *;refine aA rfl ?_;simp (maxSteps:=2000000) (disch:=omega) only[go_sem,h19c,o,w,u,aZl,aZm,eL,sF]
noncomputable def Fm(s:L Int)(n:Int):Int:=if nX s≠0 then nX s else qG (decide (0<=n/\n<=(qO s:Int)-1)) 6
theorem Ky{s:L Int}{n:Int}(h:Fm s n=0):nX s=0/\0<=n/\n.toNat<qO s:=by
 unfold Fm at h;by_cases q:nX s=0;rw[if_neg (not_not_intro q)] at h;have:=of_decide_eq_true (Kx (by decide) h);exact⟨q,this.1,by omega⟩;rw[if_pos q] at h;exact absurd h q
theorem aH7{s:L Int}{n:Int}(h:Fm s n≠0):nX s≠0/\Fm s n=nX s\/nX s=0/\Fm s n=6/\qG (decide (0<=n/\n<=(qO s:Int)-1)) 6=6:=by
 unfold Fm at h ⊢;by_cases q:nX s=0;rw[if_neg (not_not_intro q)] at h ⊢;unfold qG at h ⊢;split;rename_i r;rw[if_pos r] at h;exact absurd rfl h;exact .inr ⟨q,rfl,rfl⟩;rw[if_pos q];exact .inl ⟨q,rfl⟩
theorem aDd(d:G9 G)(s:L Int)(c:aH s)(f:s.length<=200000)(n:Int):EV G (Tb (dX G bb)) 17 [sv s,vi n] []=some (.tup [tI (if Fm s n=0 then (iZ s).getD (2*n.toNat) 0 else 0),tE (Fm s n)],[]):=by
 by_cases h:Fm s n=0;rw[if_pos h,h];obtain⟨a,b,h3⟩:=Ky h;have o:=pK (bb:=bb) d s c f n a;obtain⟨_,_,j⟩:=jJ c a;have k:=j.ln;have e:qG (decide (0<=n/\n<=(qO s:Int)-1)) 6=0:=by rw[decide_eq_true (by omega)];rfl
 rw[e] at o;have i:n=(n.toNat:Int):=by omega
 unfold qO at h3;have g:=An (G:=G) (B:=dX G bb) (aX s).1 (.slc ((lI s).rs.map aV.e)) (ci ((iZ s).length / 2:Nat)) s.length (iZ s) s n.toNat (by omega) (by omega);rw[<- i] at g;generalize (iZ s).getD (2*n.toNat) 0=p at *;generalize (iZ s).getD (2*n.toNat+1) 0=q at *;generalize iZ s=C at *;generalize (aX s).1=x at *;generalize (kY s).1=r at *;generalize (kY s).2.1=m at *;generalize (lI s).rs=l at *;refine aA rfl ?_;simp (maxSteps:=2000000) (disch:=omega) only[go_sem,h17c,o,g,aZl,aZm,eL,sF,rM,oH];rw[if_neg h];rcases aH7 h with⟨a,b⟩|⟨a,b,h3⟩
 have o:=Cj (bb:=bb) d s c f n a;rw[b];refine aA rfl ?_;simp (maxSteps:=2000000) (disch:=omega) only[go_sem,h17c,o,a];have o:=pK (bb:=bb) d s c f n a;rw[h3] at o;rw[b];generalize iZ s=C at *;generalize (aX s).1=x at *;generalize (kY s).1=r at *;generalize (kY s).2.1=m at *;generalize (lI s).rs=l at *;refine aA rfl ?_;simp (maxSteps:=2000000) (disch:=omega) only[go_sem,h17c,o,aZl,aZm,eL,sF]
noncomputable def U7(s:L Int)(n:Int):cI×Int×Int:=if Fm s n=0 then Qu s (aX s).1 (iZ s) n.toNat else (.nil,0,Fm s n)
theorem Fn(d:G9 G)(s:L Int)(b:aH s)(f:s.length<=200000)(n:Int):EV G (Tb (dX G bb)) 11 [sv s,vi n] []=some (dcv (U7 s n),[]):=by
 unfold U7;by_cases h:Fm s n=0
 ·rw[if_pos h];obtain⟨a,c,h3⟩:=Ky h;have o:=pK (bb:=bb) d s b f n a;obtain⟨_,_,j⟩:=jJ b a;have e:qG (decide (0<=n/\n<=(qO s:Int)-1)) 6=0:=by rw[decide_eq_true (by omega)];rfl
  rw[e] at o;have i:n=(n.toNat:Int):=by omega
  unfold qO at h3;have g:=aAM (bb:=bb) d (aX s).1 (.slc ((lI s).rs.map aV.e)) (ci ((iZ s).length / 2:Nat)) s b f (iZ s) j n.toNat h3;rw[<- i] at g;generalize Qu s (aX s).1 (iZ s) n.toNat=E at *;generalize iZ s=C at *;generalize (aX s).1=x at *;generalize (kY s).1=r at *;generalize (kY s).2.1=l at *;generalize (lI s).rs=k at *;obtain⟨p,q,m⟩:=E;refine aA rfl ?_;simp (maxSteps:=2000000) (disch:=omega) only[go_sem,h11c,o,g,aZl,aZm,eL,sF];try rfl
 rw[if_neg h];rcases aH7 h with⟨a,c⟩|⟨a,c,h3⟩
 ·have o:=Cj (bb:=bb) d s b f n a;rw[c];refine aA rfl ?_;simp (maxSteps:=2000000) (disch:=omega) only[go_sem,h11c,o,a];try rfl
 ·have o:=pK (bb:=bb) d s b f n a;rw[h3] at o;rw[c];generalize iZ s=C at *;generalize (aX s).1=x at *;generalize (kY s).1=r at *;generalize (kY s).2.1=l at *;generalize (lI s).rs=k at *;refine aA rfl ?_;simp (maxSteps:=2000000) (disch:=omega) only[go_sem,h11c,o,aZl,aZm,eL,sF];try rfl
end
section
variable {G:aE}{bb:Bool}
theorem Nr{B:aN}(r:cI):EV G (Tb B) 54 [r.v] []=some (vb (hZ r.fl),[]):=by
 refine aA rfl ?_;unfold hZ;by_cases c:r.fl % 2=1;have d:¬ r.fl % 2=0:=by omega
 simp (disch:=omega) only[go_sem,h54c,aL1,d,decide_eq_true c];have d:r.fl % 2=0:=by omega
 simp (disch:=omega) only[go_sem,h54c,aL1,eq_true d,decide_eq_false c]
noncomputable def aMI(s:L Int)(a b:Int):cI×Int:=if (U7 s a).2.2≠0 then (.nil,(U7 s a).2.2) else if hZ (U7 s a).1.fl=true/\(U7 s a).1.sq=b then ((U7 s a).1,0) else (.nil,32)
theorem aDe(j:G9 G)(s:L Int)(i:aH s)(k:s.length<=200000)(a b:Int):EV G (Tb (dX G bb)) 18 [sv s,rfv a b] []=some (rcv (aMI s a b),[]):=by
 have q:=Fn (bb:=bb) j s i k a;have u:=jH (G:=G) (B:=dX G bb);have f:=qH (G:=G) (B:=dX G bb);unfold aMI;generalize U7 s a=E at *;obtain⟨r,l,e⟩:=E;have c:=Nr (G:=G) (B:=dX G bb) r;simp only at q ⊢;by_cases h:e=0;rw[if_neg (not_not_intro h)];subst h;cases d:hZ r.fl
 ·rw[d] at c;rw[if_neg (fun h=>by cases h.1)]
  refine aA rfl ?_;simp (maxSteps:=2000000) (disch:=omega) only[go_sem,h18c,q,u,f,c,cB,eB,fE];try rfl
 rw[d] at c;by_cases g:r.sq=b
 ·rw[if_pos ⟨rfl,g⟩];refine aA rfl ?_;simp (maxSteps:=2000000) (disch:=omega) only[go_sem,h18c,q,u,f,c,cB,eB,fE,eq_true g];try rfl
 ·rw[if_neg (fun h=>g h.2)]
  refine aA rfl ?_;simp (maxSteps:=2000000) (disch:=omega) only[go_sem,h18c,q,u,f,c,cB,eB,fE,g];try rfl
 rw[if_pos h];refine aA rfl ?_;cases d:hZ r.fl
 ·rw[d] at c;simp (maxSteps:=2000000) (disch:=omega) only[go_sem,h18c,q,u,f,c,cB,eB,fE,h];try rfl
 ·rw[d] at c;simp (maxSteps:=2000000) (disch:=omega) only[go_sem,h18c,q,u,f,c,cB,h];try rfl
abbrev bo1(b:Bool):L DC:=[.raw (.bool b)]
noncomputable def usB(s:L Int)(x:Bt)(C:L Int)(k:Nat):Bool:=hZ (Qu s x C k).1.fl
noncomputable def X3(s:L Int)(x:Bt)(C:L Int)(k:Nat):L Bool:=(List.range k).map (usB s x C)
theorem aVD(s:L Int)(x:Bt)(C:L Int)(k:Nat):X3 s x C (k+1)=X3 s x C k++[usB s x C k]:=by simp[X3,List.range_succ]
theorem Hp(s:L Int)(x:Bt)(C:L Int)(k:Nat):(X3 s x C k).length=k:=by simp[X3]
noncomputable def usI(s:L Int)(x:Bt)(C:L Int):Nat:=ix (fun k=>¬ (Qu s x C k).2.2=0) (C.length / 2)
noncomputable def usV(s:L Int):L Bool×Int:=if nX s≠0 then ([],nX s) else if usI s (aX s).1 (iZ s)=qO s then (X3 s (aX s).1 (iZ s) (qO s),0) else ([],(Qu s (aX s).1 (iZ s) (usI s (aX s).1 (iZ s))).2.2)
abbrev boV(p:L Bool×Int):AV:=.tup [.one (.dc (.slc (p.1.map bo1))),tE p.2]
theorem aRg(l:L Bool):gG 1 (l.map bo1)=true:=jP (f:=bo1) (fun _=>rfl) l
theorem aVE(l:L Bool)(b:Bool):l.map bo1++[[.raw (.bool b)]]=(l++[b]).map bo1:=by simp
theorem aRh(d:G9 G)(s:List Int)(c:aH s)(f:s.length<=200000):EV G (Tb (dX G bb)) 51 [sv s] []=some (boV (usV s),[]):=by
 unfold usV;by_cases h:nX s=0
 ·rw[if_neg (not_not_intro h)];obtain⟨A,D,p⟩:=jJ c h;have o:=Ho (bb:=bb) d s c f A;rw[D] at o;have z:=p.ln;unfold qO;have u:=fun n g=>aAM (bb:=bb) d (aX s).1 (.slc ((lI s).rs.map aV.e)) (ci ((iZ s).length / 2:Nat)) s c f (iZ s) p n g
  have K:=fun n=>Nr (G:=G) (B:=dX G bb) (Qu s (aX s).1 (iZ s) n).1
  have y:∀n,usB s (aX s).1 (iZ s) n=hZ (Qu s (aX s).1 (iZ s) n).1.fl:=fun n=>rfl
  have L:=aVD s (aX s).1 (iZ s);have m:=Hp s (aX s).1 (iZ s);have v:X3 s (aX s).1 (iZ s) 0=[]:=rfl;unfold usI;generalize X3 s (aX s).1 (iZ s)=U at *;generalize usB s (aX s).1 (iZ s)=M at *;generalize Qu s (aX s).1 (iZ s)=R at *;generalize iZ s=C at *;generalize (aX s).1=x at *;generalize (kY s).1=r at *;generalize (kY s).2.1=w at *;generalize (lI s).rs=H at *;refine aA rfl ?_;simp (maxSteps:=2000000) (disch:=omega) only[go_sem,h51c,o,aZl,aZm,eL,sF,iX];rw[dP (fun k=>⟨(jk 4 (.one (.ptr 2 0)::jk 1 (.one (.bld 5 (U k).length)::jk 15 (vi (C.length / 2:Nat)::vi k::jk 19 [])))),opH x r w s H C++[.arr 0 1 ((U k).map bo1)]⟩) (fun k=>¬ (R k).2.2=0) (C.length / 2) ?_ ?_]
  rotate_left
  rw[v];rfl;intro k t g;have h3:=g k (aZe _);have j:=u k t;have J:=K k;rw[show U (k+1)=U k++[hZ (R k).1.fl] from by rw[L k,y k]]
  have l:=m k;generalize U k=V at *;generalize R k=E at *;obtain⟨F,I,i⟩:=E;have h3:i=0:=Classical.not_not.1 h3;subst h3;have b:(k:Int)<(C.length / 2:Nat):=by omega
  simp (maxSteps:=2000000) (disch:=omega) only[go_sem,h51l0,b,j,J,aZp,aZn,iX,pV,aRg,aVE,aZa,aY9];obtain⟨t,hp,g⟩:=bI (fun k=>¬ (R k).2.2=0) (C.length / 2)
  generalize ix (fun k=>¬ (R k).2.2=0) (C.length / 2)=k at *
  by_cases a:k=C.length / 2;rw[if_pos a];have l:=m k;rw[<- a];generalize U k=V at *;rw[a] at l;rw[a];simp (maxSteps:=2000000) (disch:=omega) only[go_sem,h51l0,aZp,aZn,iX,pV,aY9,aZl,aZm,eL,sF];rw[if_neg a];rcases hp with hp|⟨b,hp⟩
  exact absurd hp a;have j:=u k b;generalize R k=E at *;obtain⟨F,I,i⟩:=E;have hp:¬ i=0:=hp;have b:(k:Int)<(C.length / 2:Nat):=by omega
  simp (maxSteps:=2000000) (disch:=omega) only[go_sem,h51l0,b,j,hp,aZp,aZn,iX,pV,aY9];rfl
 rw[if_pos h];rcases aH6 h with⟨q,e⟩|⟨q,e⟩
 ·have o:=U6 (bb:=bb) d s c f q;rw[e] at o;refine aA rfl ?_;simp (maxSteps:=2000000) (disch:=omega) only[go_sem,h51c,o,h];try rfl
 ·have o:=Ho (bb:=bb) d s c f q;rw[e] at o;generalize iZ s=C at *;refine aA rfl ?_;simp (maxSteps:=2000000) (disch:=omega) only[go_sem,h51c,o,h,aZl,aZm,eL,sF];try rfl
theorem aMJ(s:L Int)(a:aH s):(usV s).1.length<=96:=by
 unfold usV;by_cases h:nX s=0;rw[if_neg (not_not_intro h)];obtain⟨c,d,b⟩:=jJ a h;split;show (X3 _ _ _ _).length<=_;rw[Hp];exact b.ln.2;exact aZx _;rw[if_pos h];exact aZx _
noncomputable def ixB(l:L Bool):Int:=if ix (fun k=>l.getD k true=false) l.length=l.length then -1 else (ix (fun k=>l.getD k true=false) l.length:Nat)
theorem aH9{B:aN}(l:L Bool)(f:l.length<=1000000):EV G (Tb B) 52 [vl (l.map bo1),vb false] []=some (vi (ixB l),[]):=by
 refine aA rfl ?_;simp (disch:=omega) only[go_sem,h52c,aY9];unfold ixB;have e:∀k (a:k<l.length),(l.map bo1)[k]?=some (bo1 l[k]):=fun k a=>by rw[aZj,aZi a];rfl
 have c:∀k (a:k<l.length),l.getD k true=l[k]:=fun k a=>by simp[a]
 rw[dP (fun k=>⟨(vl (l.map bo1)::vb false::jk 5 (vi l.length::vi k::jk 10 [])),[]⟩) (fun k=>l.getD k true=false) l.length ?_ ?_]
 rotate_left
 rfl;intro k a d;have h3:=d k (aZe _);rw[c k a] at h3;have h4:l[k]=true:=by simpa using h3
 have q:=e k a;rw[h4] at q;simp (disch:=omega) only[go_sem,h52l0,aY9,q];obtain⟨a,hp,d⟩:=bI (fun k=>l.getD k true=false) l.length
 generalize ix (fun k=>l.getD k true=false) l.length=k at *
 rcases hp with rfl|⟨b,hp⟩;rw[if_pos rfl];simp (disch:=omega) only[go_sem,h52l0,aY9];rw[if_neg (by omega)];rw[c k b] at hp;have q:=e k b;rw[hp] at q;simp (disch:=omega) only[go_sem,h52l0,aY9,q]
noncomputable def frV(s:L Int):Int×Int:=if (usV s).2≠0 then (0,(usV s).2) else if ixB ((usV s).1.drop 16)<0 then (0,16) else (16+ixB ((usV s).1.drop 16),0)
theorem aRi{s:L Int}(c:aH s)(h:(usV s).2=0):16<=(usV s).1.length:=by
 unfold usV at h ⊢;by_cases a:nX s=0;rw[if_neg (not_not_intro a)] at h ⊢;obtain⟨i,j,d⟩:=jJ c a;split;show _<=(X3 _ _ _ _).length;rw[Hp];exact d.ln.1;rename_i b;rw[if_neg b] at h;unfold usI qO at b;unfold usI at h;obtain⟨f,hp,g⟩:=bI (fun k=>¬ (Qu s (aX s).1 (iZ s) k).2.2=0) ((iZ s).length / 2)
 generalize ix (fun k=>¬ (Qu s (aX s).1 (iZ s) k).2.2=0) ((iZ s).length / 2)=K at *
 dsimp only at h hp;generalize (Qu s (aX s).1 (iZ s) K).2.2=e at *;rcases hp with hp|⟨_,hp⟩
 exact absurd hp b;exact absurd h hp;rw[if_pos a] at h;exact absurd h a
theorem aRj(l:L Bool):-1<=ixB l/\ixB l<=l.length:=by
 unfold ixB;obtain⟨a,_⟩:=bI (fun k=>l.getD k true=false) l.length
 split<;>omega
theorem U8(g:G9 G)(s:L Int)(f:aH s)(i:s.length<=200000):EV G (Tb (dX G bb)) 16 [sv s] []=some (.tup [tI (frV s).1,tE (frV s).2],[]):=by
 have o:=aRh (bb:=bb) g s f i;have j:=aMJ s f;have b:=aRi (s:=s) f;unfold frV;generalize usV s=V at *;obtain⟨l,e⟩:=V;dsimp only at j o b ⊢;by_cases h:e=0;rw[if_neg (not_not_intro h)];have b:=b h;subst h;have q:=aH9 (G:=G) (B:=dX G bb) (l.drop 16) (by rw[aZh];omega);have k:=aRj (l.drop 16);rw[aZh] at k;rw[bAu] at q;generalize ixB (l.drop 16)=I at *;have a:((l.map bo1).all fun e=>decide (e.length=1))=true:=by simp
 have c:(16:Int).toNat=16:=rfl;refine aA rfl ?_;by_cases d:I<0;rw[if_pos d];simp (maxSteps:=2000000) (disch:=omega) only[go_sem,h16c,o,q,d,aY9,a,if_true,c];rw[if_neg d];simp (maxSteps:=2000000) (disch:=omega) only[go_sem,h16c,o,q,d,aY9,a,if_true,c];rw[if_pos h];refine aA rfl ?_;simp (maxSteps:=2000000) (disch:=omega) only[go_sem,h16c,o,h]
