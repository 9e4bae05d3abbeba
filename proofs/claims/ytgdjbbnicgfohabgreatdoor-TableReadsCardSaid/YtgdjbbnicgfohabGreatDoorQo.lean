/- Part. Conditions: none. -/
import Derived.Test.YtgdjbbnicgfohabGreatDoorPp
import Derived.Test.YtgdjbbnicgfohabGreatDoorPq
import Derived.Test.YtgdjbbnicgfohabGreatDoorPa
import Derived.Test.YtgdjbbnicgfohabGreatDoorSu
import Derived.Test.YtgdjbbnicgfohabGreatDoorTy
import Derived.Test.YtgdjbbnicgfohabGreatDoorPt
import Derived.Test.YtgdjbbnicgfohabGreatDoorSg
namespace Go.Proofs.YtgdjbbnicgfohabGreatDoor
set_option maxHeartbeats 32000000
set_option linter.unusedSimpArgs false
set_option linter.unusedVariables false
set_option maxRecDepth 4000
section
variable {G:aF}{B:aO}
def qF(l b:L Int)(a c:Nat):L Int:=iZ (iZ l (a*256) (b.take 256)) (c*256) (b.drop 256)
def aM6(l b:L Int)(a c:Nat):Nat->L Int
 |0=>l
 |1=>iZ l (a*256) (b.take 256)
 |_=>qF l b a c
theorem Vy(l b:L Int)(N a c:Nat)(d:l.length=N)(i:b.length=512)(h:aI b)(q:a*256+256<=N)(r:c*256+256<=N)(j:N<=200000):EV G (Tb B) 43 [.one (.bls 0 0 N 1),sv b,.agg [.dc (ci a),.dc (ci c)]] [yb l]=some (.tup [],[yb (qF l b a c)]):=by
 have s:=Qx (G:=G) (B:=B) l N a d q j;have m:(iZ l (a*256) (b.take 256)).length=N:=by rw[cY (by rw[aZF];omega),d]
 have t:=Qx (G:=G) (B:=B) (iZ l (a*256) (b.take 256)) N c m r j;have n:aI (b.take 256):=fun x e=>h x (aZ0 e)
 have o:aI (b.drop 256):=fun x e=>h x (bAb e)
 have g:=pL l (b.take 256) (a*256) 256 n (by rw[aZF];omega);rw[bAp,List.take_take,Nat.min_self] at g;have p:=pL (iZ l (a*256) (b.take 256)) (b.drop 256) (c*256) 256 o (by rw[aZL];omega);have f:b.take 512=b:=bAc (by omega);have u:(256:Int).toNat=256:=rfl;refine aB rfl ?_;simp (maxSteps:=2000000) (disch:=omega) only[go_sem,h43c];rw[aR (fun k=>⟨(.one (.bls 0 0 N 1)::sv b::jk 6 (.agg [.dc (ci (a:Nat)),.dc (ci (c:Nat))]::vi k::jk 12 [])),[yb (aM6 l b a c k),.box [.dc (ci (a:Nat)),.dc (ci (c:Nat))]]⟩) 2 ?_ ?_]
 simp (maxSteps:=2000000) (disch:=omega) only[go_sem,h43l0,aM6];rfl;intro k v;rcases (show k=0\/k=1 by omega) with rfl|rfl
 simp (maxSteps:=2000000) (disch:=omega) only[go_sem,h43l0,aM6,nV,qY,s,aC,i,aZA,d,Int.zero_mul,Int.reduceMul,Int.reduceAdd,f,g,kT];simp (maxSteps:=2000000) (disch:=omega) only[go_sem,h43l0,aM6,qF,nV,sZ,t,aC,i,aZA,d,m,Int.zero_mul,Int.reduceMul,Int.reduceAdd,f,u,p,kT]
end
section
variable {G:aF}{B:aO}
def He(s:L Int)(n:Nat):L Int:=(s.drop (n*256)).take 256
def Bc(s:L Int)(a b:Nat):L Int:=He s a++He s b
abbrev pr2(a b:Nat):AV:=.agg [.dc (ci (a:Nat)),.dc (ci (b:Nat))]
theorem Vz{s:L Int}(h:aI s)(n:Nat):aI (He s n):=fun x a=>h x (bAb (aZ0 a))
theorem kD{s:L Int}(h:aI s)(a b:Nat):aI (Bc s a b):=fun x c=>by
 rcases bAV.1 c with q|q;exact Vz h a x q;exact Vz h b x q
theorem Be{s:L Int}{n:Nat}(h:n*256+256<=s.length):(He s n).length=256:=by
 rw[He,aZF,aZL];omega
theorem Bf{s:L Int}{a b:Nat}(h:a*256+256<=s.length)(c:b*256+256<=s.length):(Bc s a b).length=512:=by
 rw[Bc,aZB,Be h,Be c]
theorem aBq(s:L Int)(n:Nat):List.take 256 (List.drop (n*256) (s.map yC))=(He s n).map yC:=by rw[He,bAp,bAR]
def bkH(s:L Int)(a b:Nat):Nat->L Int
 |0=>[]
 |1=>He s a
 |_=>Bc s a b
theorem V0(x:Bt)(d e f:DC)(s:L Int)(q:aI s)(N a b:Nat)(c:s.length=N)(j:a*256+256<=N)(l:b*256+256<=N)(g:N<=200000):EV G (Tb B) 80 [.one (.ptr 0 0),pr2 a b] [Cp x d e N f,yb s]=some (sv (Bc s a b),[Cp x d e N f,yb s]):=by
 have o:=Qx (G:=G) (B:=B) s N a c j g;have p:=Qx (G:=G) (B:=B) s N b c l g;have h:jO (List.take 256 (List.drop (a*256) (s.map yC)))=some ((He s a).map u8):=by rw[aBq,lM]
 have i:jO (List.take 256 (List.drop (b*256) (s.map yC)))=some ((He s b).map u8):=by rw[aBq,lM]
 have t:=Be (s:=s) (n:=a) (by omega);have u:=Be (s:=s) (n:=b) (by omega);have m:dO ([]:L Int)=⟨#[]⟩:=rfl;refine aB rfl ?_;simp (maxSteps:=2000000) (disch:=omega) only[go_sem,h80c,<- m];rw[aR (fun k=>⟨(.one (.ptr 0 0)::jk 4 (sv (bkH s a b k)::jk 2 (pr2 a b::vi k::jk 13 []))),[Cp x d e N f,yb s,.box [.dc (ci (a:Nat)),.dc (ci (b:Nat))]]⟩) 2 ?_ ?_]
 simp (maxSteps:=2000000) (disch:=omega) only[go_sem,h80l0,bkH];simp (maxSteps:=2000000) (disch:=omega) only[go_sem,bkH];intro k r;rcases (show k=0\/k=1 by omega) with rfl|rfl
 simp (maxSteps:=2000000) (disch:=first|omega|(simp only[aZB,aZC,aZD,aZA,aA,aZI,aZF,aZL,aC,aS]<;>omega)|fail) only[go_sem,h80l0,bkH,nV,qY,o,c,h,Tp,aZP,Int.reduceAdd]
 simp (maxSteps:=2000000) (disch:=first|omega|(simp only[aZB,aZC,aZD,aZA,aA,aZI,aZF,aZL,aC,aS]<;>omega)|fail) only[go_sem,h80l0,bkH,Bc,nV,sZ,p,c,i,Tp,Int.reduceAdd]
theorem aV5{α:Type}(a b:α):[[a],[b]].flatten=[a,b]:=rfl
abbrev prI(a b:Int):AV:=.agg [.dc (ci a),.dc (ci b)]
theorem aIr(a:L Int)(n:Nat)(h:n+2<=a.length):a.drop n=a.getD n 0::a.getD (n+1) 0::a.drop (n+2):=by
 rw[bAv (by omega),bAv (by omega)];simp[show n<a.length by omega,show n+1<a.length by omega]
theorem aIs(x:Bt)(c d:DC)(N:Nat)(a:L Int)(s:L Int)(n:Nat)(h:2*n+2<=a.length)(i:a.length<=1000000):EV G (Tb B) 45 [.one (.ptr 0 0),vi n] [Cp x c d N (.slc (a.map fun n=>[ci n])),yb s]=some (prI (a.getD (2*n) 0) (a.getD (2*n+1) 0),[Cp x c d N (.slc (a.map fun n=>[ci n])),yb s]):=by
 have e:=aIr a (2*n) h;have w:(2:Int)*(n:Int)=((2*n:Nat):Int):=by omega
 have g:(a.map fun n=>[ci n]).length=a.length:=by rw[aZA]
 have f:List.drop (2*n) (a.map fun n=>[ci n])=[ci (a.getD (2*n) 0)]::[ci (a.getD (2*n+1) 0)]::(a.drop (2*n+2)).map fun n=>[ci n]:=by rw[<- bAR,e];rfl
 have b:((a.map fun n=>[DC.raw (Value.int .i64 n)]).all fun e=>decide (e.length=1))=true:=by simp
 generalize j:2*n=m at *;generalize a.getD m 0=A at *;generalize a.getD (m+1) 0=C at *;generalize (a.drop (m+2)).map (fun n=>[ci n])=R at *
 refine aB rfl ?_;simp (maxSteps:=2000000) (disch:=omega) only[go_sem,h45c,w,g,bAd,f,b,if_true,aBO,aV5]
theorem V2(x:Bt)(a b c:DC)(N:Nat)(s:L Int)(n:Nat)(h:n<=1000)(d:0<=x.mi/\x.mi<=1000):EV G (Tb B) 47 [.one (.ptr 0 0),vi n] [Cp x a b N c,yb s]=some (prI (x.mi+2*n) (x.mi+2*n+1),[Cp x a b N c,yb s]):=by
 have q:=Lb (G:=G) (B:=B) (x.mi+2*n) (by omega);refine aB rfl ?_;simp (maxSteps:=2000000) (disch:=omega) only[go_sem,h47c,q]
end
section
variable {G:aF}{bb:Bool}
end
section
variable {G:aF}{bb:Bool}
theorem aYd(l:L aJ)(k:Nat)(a:k<l.length):((l.take (k+1)).map gY).flatten=((l.take k).map gY).flatten++gY l[k]:=by
 rw[bAA a,bAh,List.flatten_append];simp
abbrev bkv(p:L Int×Int):AV:=.tup [.one (.dc (.raw (.string (dO p.1)))),.one (.dc (ci p.2))]
abbrev cK.u(r:cK)(u:Int):AV:=.agg (r.c++[.dc (ci u)])
theorem aIt(F:G9 G)(r:cK)(g:r.W)(u:Int):EV G (Tb (lA bb)) 99 [r.u u] []=some (bkv (Gm r u),[]):=by
 refine aB rfl ?_;have x:=Ah (G:=G) (bb:=bb) r g;have w:=rW (G:=G) (bb:=bb) u 1 65535;have h:=rY (G:=G) (bb:=bb);have y:=Vg (G:=G) (bb:=bb);unfold Gm aMq;by_cases c:aT [gJ r,un (decide (1<=u/\u<=65535)) 2]=0
 rw[if_neg (not_not_intro c)];obtain⟨M,N⟩:=aMr c;have J:1<=u/\u<=65535:=of_decide_eq_true (aHN (by decide) N);have i:=A4 M;have I:=i.ln;have l:=U7 i;have d:aI (kC r):=N7 fun p hp=>by
  obtain⟨a,v,rfl⟩:=List.mem_map.1 hp;exact (Qn (g.at' a v) (i.errs.1 a v)).1
 generalize gJ r=A at *;have P:(dO []:ByteArray)=⟨#[]⟩:=rfl;have z:=up (aBj (G:=G) (bb:=bb) F r (kC r) i.n9 (by omega) d);have f:=A5 r (68+((kC r).length:Int)) (kC r) (by omega);have m:=Eb r (68+((kC r).length:Int)) (kC r) d;have K:((iN r (68+((kC r).length:Int)) (kC r)).drop 40).take 18=zl 18:=by
  refine Fj (by rw[aZF,aZL,f,aS];decide) (fun j H=>?_)
  rw[aZF,aZL,f] at H;rw[Fk _ _ _ _ (by omega),aBd,aHO _ _ _ _ (by omega) (by omega)]
 have L:=up (aDz (G:=G) (bb:=bb) _ u f m K J);unfold oQ;generalize iN r (68+((kC r).length:Int)) (kC r)=b at *;generalize nC b u 8=p at *;have t:kC r=(r.ats.map gY).flatten:=rfl;rw[t] at z;clear t l d;simp (disch:=omega) only[go_sem,h99c,x,w,h,y,eq_true c,aZA];rw[aR (fun k=>⟨(jk 1 (.one (.ptr 0 0)::jk 3 (sv ((r.ats.take k).map gY).flatten::jk 18 (vl (r.ats.map aJ.e)::vi r.ats.length::vi k::jk 21 [])))),[.box (r.c++[.dc (ci u)]),.arr 0 1 [[ci A],[ci (un (decide (1<=u/\u<=65535)) 2)]]]⟩) r.ats.length ?_ ?_]
 simp (disch:=omega) only[go_sem,h99l0,bAj,z,L,aZT,aZP];rfl;intro k n;have q:=up (Nl (G:=G) (bb:=bb) r.ats[k] (g.at' _ (aZK n)));rw[aYd r.ats k n];have o:=K2 (r.ats.take k) (aHV g.at' k);have C:=N6 (r.ats.take k);have D:=rR (g.at' _ (aZK n));rw[aZF] at o;have O:(((r.ats.take k).map gY).flatten.length:Int)+(gY r.ats[k]).length<=9223372036854775807:=by omega
 clear o C D;generalize ((r.ats.take k).map gY).flatten=s at *;have E:fX .add (sv s) (sv (gY r.ats[k]))=some (sv (s++gY r.ats[k])):=by
  rw[Dj (by rw[aC,aC];omega),Hv]
 simp (disch:=omega) only[go_sem,h99l0,aZA,ixA,aJ.e,q,E,aZT,aZP];rw[if_pos c];generalize gJ r=A at *;simp (disch:=omega) only[go_sem,h99c,x,w,h,y,c];rfl
end
section
variable {G:aF}{bb:Bool}
abbrev Y7(p:cK×Int×Int):AV:=.tup [.agg (p.1.c++[.dc (ci p.2.1)]),.one (.dc (ci p.2.2))]
end
section
variable {G:aF}{bb:Bool}
theorem Lc:∀a:L (L Int),(∀p∈a,(bL p).2=0)->iJ a=(a.map fun p=>(bL p).1,0)
 |[],_=>rfl
 | p::t,h=>by
  have b:=h p aZV;have d:=Lc t (fun q c=>h q (aZ2 _ c))
  rw[iJ,if_neg (not_not_intro b),d];simp
theorem Ld:∀(a:L (L Int)) (k:Nat),k<a.length->(∀j,j<k->(bL (a.getD j [])).2=0)->(bL (a.getD k [])).2≠0->iJ a=([],(bL (a.getD k [])).2)
 |[],k,c,_,_=>by simp at c
 | p::t,0,_,_,h=>by
  have b:(bL p).2≠0:=h;rw[iJ,if_pos b];rfl
 | p::t,k+1,c,d,h=>by
  have e:(bL p).2=0:=d 0 (by omega);have g:=Ld t k (by simpa using c) (fun j f=>d (j+1) (by omega)) h
  have b:(bL (t.getD k [])).2≠0:=h;rw[iJ,if_neg (not_not_intro e),g,if_pos b];rfl
theorem Br{l:L Int}(b:aI l)(a k:Nat)(h:a+k<=l.length)(c:k<=4):0<=gL l a k/\gL l a k<=4294967295:=by
 have d:=kV b a k c;have:(256:Int) ^ k<=256 ^ 4:=by
  rcases k with _|_|_|_|_|k<;>first|decide|omega
 omega
theorem aRE{o:L Int}(d:o.length=512)(a:aI o)(l:L aJ):aQ6 (dX o l):=by
 have b:=Br a 16 2 (by omega) (by omega);have c:=Br a 18 2 (by omega) (by omega);have h3:=Br a 22 2 (by omega) (by omega);have h4:=Br a 32 4 (by omega) (by omega);have h5:=Br a 36 2 (by omega) (by omega);have h6:=Br a 38 2 (by omega) (by omega);have h7:=Br a 8 4 (by omega) (by omega);refine⟨?_,?_,?_,?_,?_,?_,?_⟩<;>simp only[dX]<;>omega
abbrev r9(o:L Int):L aU:=[.dc (ci (gL o 16 2)),.dc (ci (gL o 18 2)),.dc (ci (gL o 22 2)),.dc (ci (gL o 32 4)),.dc (ci (gL o 36 2)),.dc (ci (gL o 38 2)),.dc (ci (gL o 8 4))]
abbrev z9:L aU:=[.dc (ci 0),.dc (ci 0),.dc (ci 0),.dc (ci 0),.dc (ci 0),.dc (ci 0),.dc (ci 0),.dc (.raw (.slice none 0 0)),.dc (ci 0)]
noncomputable def V3(o:L Int)(u:Int)(d:L aJ×Int):cK×Int×Int:=if d.2≠0 then (.nil,0,d.2) else if gJ (dX o d.1)≠0 then (.nil,0,gJ (dX o d.1)) else (dX o d.1,u,0)
def Qz:HC:=sB (sB (sB (sB (sB (sB (sB (sB h79c)))))))
abbrev aRF(e:Int):AV:=.tup [.agg [.dc (ci 0),.dc (ci 0),.dc (ci 0),.dc (ci 0),.dc (ci 0),.dc (ci 0),.dc (ci 0),.dc (.slc []),.dc (ci 0)],.one (.dc (ci e))]
theorem qZ(e:Int):Y7 (.nil,0,e)=aRF e:=rfl
theorem aRG(o:List Int)(u:Int)(a:List (List Int))(K:a.length<=1000)(b:∀k (g:k<a.length),EV G (Tb (lP G bb)) 120 [sv a[k]] []=some (rtv (bL a[k]),[])) (l:EV G (Tb (lP G bb)) 104 [(dX o (iJ a).1).v] []=some (vi (gJ (dX o (iJ a).1)),[])) {st:AS} (y:st=⟨(jk 2 (.one (.ptr 0 0)::jk 2 (vi u::jk 1 (.one (.ptr 1 0)::jk 63 (vl (a.map pV)::vi a.length::vi (0:Nat)::jk 28 []))))),[.box z9,.box (r9 o++[.bld 2 0]),.arr 0 11 []]⟩):qC false [.cell 2 true 9,.tmp 3] 0 (sqK (EV G (Tb (lP G bb))) G Qz (Bk 0 (EL (EV G (Tb (lP G bb))) G h79l0 [2,2,1,63,0,0] 3 st)))=some (Y7 (V3 o u (iJ a)),[]):=by
 have h:∀k (g:k<a.length),(a.map pV)[k]?=some (pV a[k]):=fun k g=>by rw[aZH,aZJ g];rfl
 have q:∀k (g:k<a.length),a.getD k []=a[k]:=fun k g=>by simp[List.getD,g]
 rw[dE (fun k=>⟨(jk 2 (.one (.ptr 0 0)::jk 2 (vi u::jk 1 (.one (.ptr 1 0)::jk 63 (vl (a.map pV)::vi a.length::vi k::jk 28 []))))),[.box z9,.box (r9 o++[.bld 2 ((a.take k).map fun p=>(bL p).1.e).length]),.arr 0 11 ((a.take k).map fun p=>(bL p).1.e)]⟩) (fun k=>(bL (a.getD k [])).2≠0) a.length ?_ ?_]
 rotate_left
 rw[y];rfl;intro k g n;have E:=Classical.not_not.1 (n k (aZE _));rw[q k g] at E;have t:=b k g;have e:=h k g;have N:((a.take k).map fun p=>(bL p).1.e).length<=1000:=by rw[aZA,aZF];omega
 have s:gG 11 ((a.take k).map fun p=>(bL p).1.e)=true:=jG (f:=fun p=>(bL p).1.e) (fun _=>rfl) _
 have H:(a.take (k+1)).map (fun p=>(bL p).1.e)=(a.take k).map (fun p=>(bL p).1.e)++[(bL a[k]).1.e]:=by
  rw[bAA g,bAh,aZM,aZN]
 rw[H];clear l b h q y n H;have D:((a.take k).map fun p=>(bL p).1.e).take ((a.take k).map fun p=>(bL p).1.e).length=(a.take k).map fun p=>(bL p).1.e:=bAj
 generalize (a.take k).map (fun p=>(bL p).1.e)=C at *
 generalize bL a[k]=d at *;obtain⟨x,z⟩:=d;dsimp only at E t ⊢;subst E;generalize a[k]=p at *;rw[aZB];simp (disch:=omega) only[go_sem,h79l0,aZA,e,t,aJ.e,s,D,aZC,aZD,aZE,aZT,aZP,bAn];obtain⟨g,hp,n⟩:=bD (fun k=>(bL (a.getD k [])).2≠0) a.length
 generalize ix (fun k=>(bL (a.getD k [])).2≠0) a.length=k at *
 rcases hp with rfl|⟨i,hp⟩
 have r:=Lc a (fun p hp=>by
  obtain⟨j,A,rfl⟩:=List.mem_iff_getElem.1 hp;have:=Classical.not_not.1 (n j A);rwa[q j A] at this)
 have F:(a.take a.length).map (fun p=>(bL p).1.e)=(a.map fun p=>(bL p).1).map aJ.e:=by rw[bAj,aZ4];rfl
 have m:((a.map fun p=>(bL p).1).map aJ.e).length=a.length:=by simp
 have I:((a.map fun p=>(bL p).1).map aJ.e).take a.length=(a.map fun p=>(bL p).1).map aJ.e:=bAc (by omega)
 rw[F,m];rw[r] at l ⊢;unfold V3;rw[if_neg (not_not_intro rfl)];dsimp only at l ⊢;clear b h q y r F n;generalize (a.map fun p=>(bL p).1)=L at *
 by_cases w:gJ (dX o L)=0;rw[if_neg (not_not_intro w)];rw[w] at l;simp only[dX,cK.v,cK.c] at l;generalize J:L.map aJ.e=M at *;simp (disch:=omega) only[go_sem,Qz,sB,h79c,h79l0,aZA,l,m,I,aZE,aZT,aZP];simp only[Y7,dX,cK.c,J,aZT,aZP];rw[if_pos w,qZ];generalize gJ (dX o L)=O at *;simp only[dX,cK.v,cK.c] at l;generalize L.map aJ.e=M at *;simp (disch:=omega) only[go_sem,Qz,sB,h79c,h79l0,aZA,l,w,m,I,aZE,aZT,aZP];have r:=Ld a k i (fun j A=>Classical.not_not.1 (n j A)) hp
 rw[q k i] at hp r;rw[r];unfold V3;dsimp only;rw[if_pos hp,qZ];have t:=b k i;have e:=h k i;clear b h q y r n l;generalize (a.take k).map (fun p=>(bL p).1.e)=C at *
 generalize bL a[k]=d at *;obtain⟨x,z⟩:=d;dsimp only at hp t ⊢;generalize a[k]=p at *;simp (disch:=omega) only[go_sem,Qz,sB,h79c,h79l0,aZA,e,t,aJ.e,hp,aZT,aZP]
end
section
variable {G:aF}{bb:Bool}
theorem V4(e:G9 G)(s:L Int)(p:aI s)(Z:s.length<=9223372036854775807):EV G (Tb (lP G bb)) 79 [sv s] []=some (Y7 (dQ s),[]):=by
 refine aB rfl ?_;unfold dQ;by_cases d:s.length=512;rw[if_neg (not_not_intro d)];have g:=Fn (up (aQ1 (G:=G) (bb:=bb) s d p));by_cases h:jP s;rw[if_neg (not_not_intro h)];rw[if_pos h] at g;have N:¬ gS s=0:=h.1;have S:=qK d;have a:=Kz d p;have t:EV G (Tb (lP G bb)) 116 [Mb 16 2,sv (eU s)] []=some (vi (gL (eU s) 16 2),[]):=Fn (up (Ae (G:=G) (bb:=bb) (eU s) a 16 2 (by omega) (by omega) (by omega)));have w:EV G (Tb (lP G bb)) 116 [Mb 18 2,sv (eU s)] []=some (vi (gL (eU s) 18 2),[]):=Fn (up (Ae (G:=G) (bb:=bb) (eU s) a 18 2 (by omega) (by omega) (by omega)));have x:EV G (Tb (lP G bb)) 116 [Mb 22 2,sv (eU s)] []=some (vi (gL (eU s) 22 2),[]):=Fn (up (Ae (G:=G) (bb:=bb) (eU s) a 22 2 (by omega) (by omega) (by omega)));have y:EV G (Tb (lP G bb)) 116 [Mb 32 4,sv (eU s)] []=some (vi (gL (eU s) 32 4),[]):=Fn (up (Ae (G:=G) (bb:=bb) (eU s) a 32 4 (by omega) (by omega) (by omega)));have z:EV G (Tb (lP G bb)) 116 [Mb 36 2,sv (eU s)] []=some (vi (gL (eU s) 36 2),[]):=Fn (up (Ae (G:=G) (bb:=bb) (eU s) a 36 2 (by omega) (by omega) (by omega)));have A:EV G (Tb (lP G bb)) 116 [Mb 38 2,sv (eU s)] []=some (vi (gL (eU s) 38 2),[]):=Fn (up (Ae (G:=G) (bb:=bb) (eU s) a 38 2 (by omega) (by omega) (by omega)));have C:EV G (Tb (lP G bb)) 116 [Mb 8 4,sv (eU s)] []=some (vi (gL (eU s) 8 4),[]):=Fn (up (Ae (G:=G) (bb:=bb) (eU s) a 8 4 (by omega) (by omega) (by omega)));have n:=Fn (up (Y1 (G:=G) (bb:=bb) (eU s) S a));have D:=e.sq;have E:=e.li;have F:=e.fl;have H:=e.ba;have I:=e.bo;have J:=e.nx;have K:=e.ls;cases m:Ad ((eU s).drop 64) with
 |none=>
  rw[m] at n;generalize gS s=u at *;simp (maxSteps:=2000000) (disch:=omega) only[go_sem,h79c,aC,d,g,N,D,E,F,H,I,J,K,t,w,x,y,z,A,C,n,cK.nil];all_goals rfl
 |some b=>
  rw[m] at n;obtain⟨P,Q,h3,h4⟩:=Yz d p m;have T:=aMD (G:=G) (bb:=bb) b (by omega) (by omega);have q:=Fn (up (aBj (G:=G) (bb:=bb) e (dX (eU s) []) b.flatten (aRE S a []) Q h4));have o:=cR (Eb (dX (eU s) []) (68+(b.flatten.length:Int)) b.flatten h4) a;have l:=aQ7 d p m;have O:U5 s b=if iN (dX (eU s) []) (68+(b.flatten.length:Int)) b.flatten≠eU s then (.nil,0,3) else V3 (eU s) (gS s) (iJ b):=rfl
  dsimp only;rw[O];clear O;by_cases f:iN (dX (eU s) []) (68+(b.flatten.length:Int)) b.flatten=eU s;rw[if_neg (not_not_intro f)];rw[eq_true f] at o;have W:=f;have M:b.length<=1000:=by omega
  have j:∀ k (R:k < b.length),EV G (Tb (lP G bb)) 120 [sv b[k]] []=some (rtv (bL b[k]),[]):=fun k R=>by
   obtain⟨U,V,_⟩:=P _ (aZK R);exact Fn (up (aDu (G:=G) (bb:=bb) b[k] U V))
  have X:=Fn (Ah (G:=G) (bb:=bb) (dX (eU s) (iJ b).1) l);clear P Q h3 h4 l f m;generalize b.flatten=i at *;generalize iN (dX (eU s) []) (68+(i.length:Int)) i=Y at *;simp only[dX,cK.v,cK.c,aZN] at q;generalize gS s=u at *;simp (maxSteps:=2000000) (disch:=omega) only[go_sem,h79c,aC,d,g,N,D,E,F,H,I,J,K,t,w,x,y,z,A,C,n,T,q,o,Js,aZA];exact aRG (eU s) u b M j X rfl
  ·rw[if_pos f];rw[eq_false f] at o;generalize b.flatten=i at *;generalize iN (dX (eU s) []) (68+(i.length:Int)) i=Y at *;simp only[dX,cK.v,cK.c,aZN] at q;generalize gS s=u at *;simp (maxSteps:=2000000) (disch:=omega) only[go_sem,h79c,aC,d,g,N,D,E,F,H,I,J,K,t,w,x,y,z,A,C,n,T,q,o,Js,cK.nil];all_goals rfl
 ·rw[if_pos h];rw[if_neg h] at g;simp (maxSteps:=2000000) (disch:=omega) only[go_sem,h79c,aC,d,g,cK.nil];all_goals rfl
 ·rw[if_pos d];have r:¬ (s.length:Int)=512:=by omega
  simp (maxSteps:=2000000) (disch:=omega) only[go_sem,h79c,aC,r,cK.nil];all_goals rfl
end
section
variable {G:aF}{bb:Bool}
noncomputable def Rh(p q:L Int):cK×Int×Int:=if (dQ p).2.2=0 then dQ p else if (dQ q).2.2=0 then dQ q else dQ p
theorem Le(n:G9 G)(x:Bt)(h i j:DC)(s:L Int)(k:aI s)(N a b c d:Nat)(o:s.length=N)(w:a*256+256<=N)(y:b*256+256<=N)(z:c*256+256<=N)(h3:d*256+256<=N)(p:N<=200000):EV G (Tb (eL G bb)) 48 [.one (.ptr 0 0),pr2 a b,pr2 c d] [Cp x h i N j,yb s]=some (Y7 (Rh (Bc s a b) (Bc s c d)),[Cp x h i N j,yb s]):=by
 have l:=V0 (G:=G) (B:=eL G bb) x h i j s k N a b o w y p;have q:=V0 (G:=G) (B:=eL G bb) x h i j s k N c d o z h3 p;have m:=upT (V4 (bb:=bb) n (Bc s a b) (kD k a b) (by rw[Bf (by omega) (by omega)];omega));have t:=upT (V4 (bb:=bb) n (Bc s c d) (kD k c d) (by rw[Bf (by omega) (by omega)];omega));unfold Rh;generalize Bc s a b=P at *;generalize Bc s c d=Q at *;generalize dQ P=X at *;generalize dQ Q=Y at *;obtain⟨r,u,e⟩:=X;obtain⟨A,C,v⟩:=Y;refine aB rfl ?_;by_cases f:e=0;rw[if_pos f];simp (maxSteps:=2000000) (disch:=omega) only[go_sem,h48c,l,m,f];rfl;rw[if_neg f];by_cases g:v=0;rw[if_pos g];simp (maxSteps:=2000000) (disch:=omega) only[go_sem,h48c,l,m,q,t,f,g];rfl;rw[if_neg g];simp (maxSteps:=2000000) (disch:=omega) only[go_sem,h48c,l,m,q,t,f,g];rfl
end
section
variable {G:aF}{B:aO}
theorem aRH(c:Nat)(p:aJ->Bool)(l:L aJ)(h:l.length<=1000000)(g:∀a∈l,EV G (Tb B) c [a.v] []=some (vb (p a),[])):EV G (Tb B) 73 [vl (l.map aJ.e),.one (.fn c [])] []=some (vi (jA p l),[]):=by
 refine aB rfl ?_;simp (disch:=omega) only[go_sem,h73c,aZA];unfold jA;rw[dE (fun k=>⟨(vl (l.map aJ.e)::.one (.fn c [])::jk 5 (vi l.length::vi k::jk 10 [])),[]⟩) (fun k=>p (l.getD k aJ.nil)=true) l.length ?_ ?_]
 rotate_left
 rfl;intro k d f;have h3:=f k (aZE _);rw[fJ l k d] at h3;have h4:p l[k]=false:=by simpa using h3
 have q:=g l[k] (aZK d);rw[h4] at q;simp (disch:=omega) only[go_sem,h73l0,aZA,ixA,aJ.e,q];obtain⟨d,hp,f⟩:=bD (fun k=>p (l.getD k aJ.nil)=true) l.length
 generalize ix (fun k=>p (l.getD k aJ.nil)=true) l.length=k at *
 rcases hp with rfl|⟨b,hp⟩;rw[if_pos rfl];simp (disch:=omega) only[go_sem,h73l0,aZA];rw[if_neg (by omega)];rw[fJ l k b] at hp;have q:=g l[k] (aZK b);rw[hp] at q;simp (disch:=omega) only[go_sem,h73l0,aZA,ixA,aJ.e,q]
noncomputable def Y8(p:aW->Bool)(l:L aW):Int:=if ix (fun k=>p (l.getD k ⟨0,0⟩)=true) l.length=l.length then -1 else (ix (fun k=>p (l.getD k ⟨0,0⟩)=true) l.length:Nat)
theorem V5(p:aW->Bool)(l:L aW):decide (0<=Y8 p l)=l.any p:=by
 unfold Y8;obtain⟨e,hp,c⟩:=bD (fun k=>p (l.getD k ⟨0,0⟩)=true) l.length
 generalize ix (fun k=>p (l.getD k ⟨0,0⟩)=true) l.length=k at *
 rcases hp with rfl|⟨a,hp⟩;rw[if_pos rfl]
 symm
 rw[show decide ((0:Int)<=-1)=false from rfl,bAM]
 intro x d;obtain⟨j,b,rfl⟩:=List.getElem_of_mem d;have:=c j b;rw[jT l j b] at this;exact this;rw[if_neg (by omega),decide_eq_true (by omega)];rw[jT l k a] at hp;exact (List.any_eq_true.2 ⟨_,aZK a,hp⟩).symm
theorem aM7(a:Nat)(p:aW->Bool)(l:L aW)(b:l.length<=1000000)(c:∀r:aW,EV G (Tb B) a [r.v] []=some (vb (p r),[])):EV G (Tb B) 77 [cQ l,.one (.fn a [])] []=some (vb (l.any p),[]):=by
 have q:EV G (Tb B) 113 [cQ l,.one (.fn a [])] []=some (vi (Y8 p l),[]):=Ue (G:=G) (B:=B) p a c l b;rw[<- V5];generalize Y8 p l=I at *;refine aB rfl ?_;simp (disch:=omega) only[go_sem,h77c,q,ge_iff_le]
theorem aRI(c:Nat)(a:L DC)(p:aW->Bool)(l:L aW)(h:l.length<=1000000)(g:∀r∈l,EV G (Tb B) c [r.v,.one (.ptr 0 0)] [.box (a.map aU.dc)]=some (vb (p r),[.box (a.map aU.dc)])):EV G (Tb B) 113 [cQ l,.one (.fn c [.ptr 0 0])] [.box (a.map aU.dc)]=some (vi (Y8 p l),[.box (a.map aU.dc)]):=by
 refine aB rfl ?_;simp (disch:=omega) only[go_sem,h113c,aZA,pQ,pR,pS,pT,mF];unfold Y8;rw[dE (fun k=>⟨(cQ l::.one (.fn c [.ptr 0 0])::jk 5 (vi l.length::vi k::jk 10 [])),[.box (a.map aU.dc)]⟩) (fun k=>p (l.getD k ⟨0,0⟩)=true) l.length ?_ ?_]
 rotate_left
 rfl;intro k d f;have h3:=f k (aZE _);rw[jT l k d] at h3;have h4:p l[k]=false:=by simpa using h3
 have q:=g l[k] (aZK d);rw[h4] at q;simp (disch:=omega) only[go_sem,h113l0,aZA,aW.e,q,pQ,pR,pS,pT,mF];obtain⟨d,hp,f⟩:=bD (fun k=>p (l.getD k ⟨0,0⟩)=true) l.length
 generalize ix (fun k=>p (l.getD k ⟨0,0⟩)=true) l.length=k at *
 rcases hp with rfl|⟨b,hp⟩;rw[if_pos rfl];simp (disch:=omega) only[go_sem,h113l0,aZA,pQ,pR,pS,pT,mF];rw[if_neg (by omega)];rw[jT l k b] at hp;have q:=g l[k] (aZK b);rw[hp] at q;simp (disch:=omega) only[go_sem,h113l0,aZA,aW.e,q,pQ,pR,pS,pT,mF]
theorem aM8(b:Nat)(a:L DC)(p:aW->Bool)(l:L aW)(c:l.length<=1000000)(d:∀r∈l,EV G (Tb B) b [r.v,.one (.ptr 0 0)] [.box (a.map aU.dc)]=some (vb (p r),[.box (a.map aU.dc)])):EV G (Tb B) 77 [cQ l,.one (.fn b [.ptr 0 0])] [.box (a.map aU.dc)]=some (vb (l.any p),[.box (a.map aU.dc)]):=by
 have q:=aRI (G:=G) (B:=B) b a p l c d;rw[<- V5];generalize Y8 p l=I at *;refine aB rfl ?_;simp (disch:=omega) only[go_sem,h77c,q,ge_iff_le,pQ,pR,pS,pT,mF]
def jC(a:aJ):Bool:=decide (a.ty=128)&&decide (a.nm=[])
theorem aIu(a:aJ):EV G (Tb B) 74 [a.v] []=some (vb (jC a),[]):=by
 have e:=La a.nm;unfold jC;refine aB rfl ?_;by_cases c:a.ty=128;simp (disch:=omega) only[go_sem,h74c,eq_true c,e,decide_true,aZ8];simp (disch:=omega) only[go_sem,h74c,c,decide_false,bAi]
theorem aRJ(r:aW):EV G (Tb B) 75 [r.v] []=some (vb (decide (r.s=-1)),[]):=by
 refine aB rfl ?_;simp (disch:=omega) only[go_sem,h75c]
theorem aIv(r:aW)(x:Bt)(h:-1000000<=r.s/\r.s<=1000000)(a:-1000000<=r.n/\r.n<=1000000):EV G (Tb B) 76 [r.v,.one (.ptr 0 0)] [x.o]=some (vb (decide (r.s+r.n > x.cl)),[x.o]):=by
 have q:=pX (G:=G) (B:=B) r.s r.n h a;refine aB rfl ?_;simp (disch:=omega) only[go_sem,h76c,q]
theorem Y9(l:L aJ)(b:l.length<=1000000):EV G (Tb B) 73 [vl (l.map aJ.e),.one (.fn 74 [])] []=some (vi (jA jC l),[]):=aRH _ _ l b (fun a _=>aIu a)
theorem aBr(l:L aW)(a:l.length<=1000000):EV G (Tb B) 77 [cQ l,.one (.fn 75 [])] []=some (vb (l.any fun r=>decide (r.s=-1)),[]):=aM7 _ _ l a aRJ
abbrev Bt.d(x:Bt):L DC:=[ci x.cl,ci x.tb,ci x.mi,ci x.lg,ci x.lc,ci x.se]
theorem aBs(l:L aW)(x:Bt)(b:l.length<=1000000)(h:∀r∈l,(-1000000<=r.s/\r.s<=1000000)/\(-1000000<=r.n/\r.n<=1000000)):EV G (Tb B) 77 [cQ l,.one (.fn 76 [.ptr 0 0])] [x.o]=some (vb (l.any fun r=>decide (r.s+r.n > x.cl)),[x.o]):=
 aM8 _ x.d _ l b (fun r a=>aIv r x (h r a).1 (h r a).2)
end
section
variable {G:aF}{bb:Bool}
abbrev tE(e:Int):TV:=.one (.dc (ci e))
abbrev ptN:TV:=.one (.dc (.raw (.pointer none)))
theorem aIw{a b:Nat}{x y:Int}(h:(a:Int)=x)(c:(b:Int)=y):pr2 a b=prI x y:=by subst h;subst c;rfl
theorem aM9(s:L Int)(b:aI s)(c:s.length<=200000)(h:(bB s).2.2≠0):EV G (Tb (eL G bb)) 46 [sv s] []=some (.tup [ptN,tE (bB s).2.2],[]):=by
 have q:=Vt (G:=G) (B:=eL G bb) Ei s b c;generalize bB s=V at *;obtain⟨x,a,e⟩:=V;refine aB rfl ?_;simp (maxSteps:=2000000) (disch:=omega) only[go_sem,h46c,q,h,Bt.cs]
structure Pre (G:aF) (bb:Bool) (s:List Int) (x:Bt) (r:cK) (u e:Int):Prop where
 hB:aI s
 pos:0<s.length
 len:s.length<=200000
 q:∃a,EV G (Tb (eL G bb)) 72 [sv s] []=some (.tup [.agg x.cs,tI a,tI 0],[])
 nT:EV G (Tb (eL G bb)) 44 [vi x.tb] []=some (prI x.tb (x.tb+1),[])
 nM:EV G (Tb (eL G bb)) 44 [vi x.mi] []=some (prI x.mi (x.mi+1),[])
 ei:EV G (Tb (eL G bb)) 48 [.one (.ptr 0 0),prI x.tb (x.tb+1),prI x.mi (x.mi+1)] [Cp x (.raw (.slice none 0 0)) (.raw (.int .i64 0)) s.length (.raw (.slice none 0 0)),yb s]=some (Y7 (r,u,e),[Cp x (.raw (.slice none 0 0)) (.raw (.int .i64 0)) s.length (.raw (.slice none 0 0)),yb s])
def Mg(s:L Int)(x:Bt):L Int:=Bc s x.tb.toNat (x.tb.toNat+1)
def Q1(s:L Int)(x:Bt):L Int:=Bc s x.mi.toNat (x.mi.toNat+1)
theorem aIx(i:G9 G)(s:L Int)(b:aI s)(c:s.length<=200000)(h:(bB s).2.2=0)(j:(0<=(bB s).1.tb/\(bB s).1.tb*256+512<=s.length)/\(0<=(bB s).1.mi/\(bB s).1.mi*256+512<=s.length)):Pre G bb s (bB s).1 (Rh (Mg s (bB s).1) (Q1 s (bB s).1)).1 (Rh (Mg s (bB s).1) (Q1 s (bB s).1)).2.1 (Rh (Mg s (bB s).1) (Q1 s (bB s).1)).2.2:=by
 have q:=Vt (G:=G) (B:=eL G bb) Ei s b c;generalize bB s=V at *;obtain⟨x,a,e⟩:=V;simp only at h j q ⊢;subst h;obtain⟨T,l⟩:∃T:Nat,x.tb=T:=⟨x.tb.toNat,by omega⟩;obtain⟨M,k⟩:∃M:Nat,x.mi=M:=⟨x.mi.toNat,by omega⟩;have g:x.tb.toNat=T:=by omega
 have f:x.mi.toNat=M:=by omega
 have d:=Le (G:=G) (bb:=bb) i x (.raw (.slice none 0 0)) (.raw (.int .i64 0)) (.raw (.slice none 0 0)) s b s.length T (T+1) M (M+1) rfl (by omega) (by omega) (by omega) (by omega) c;rw[aIw (x:=x.tb) (y:=x.tb+1) (by omega) (by omega),aIw (x:=x.mi) (y:=x.mi+1) (by omega) (by omega),<- g,<- f] at d;exact⟨b,by omega,c,⟨a,q⟩,Lb _ (by omega),Lb _ (by omega),d⟩
theorem aNa{s:L Int}{x:Bt}{r:cK}{u e:Int}(hp:Pre G bb s x r u e)(i:e≠0):EV G (Tb (eL G bb)) 46 [sv s] []=some (.tup [ptN,tE e],[]):=by
 obtain⟨g,c,m,⟨a,q⟩,l,k,f⟩:=hp;have h:=nP s g;have d:=N5 (b:=s) rfl c;have j:=Co s;refine aB rfl ?_;simp (maxSteps:=2000000) (disch:=omega) only[go_sem,h46c,q,Bt.cs,h,d,j,aC,aZA,l,k,f,i]
theorem aNb{s:L Int}{x:Bt}{r:cK}{u:Int}(hp:Pre G bb s x r u 0)(e:r.ats.length<=1000000)(j:jA jC r.ats<0):EV G (Tb (eL G bb)) 46 [sv s] []=some (.tup [ptN,tE 6],[]):=by
 obtain⟨g,c,n,⟨a,q⟩,l,k,f⟩:=hp;have h:=nP s g;have d:=N5 (b:=s) rfl c;have i:=Co s;have m:=Y9 (G:=G) (B:=eL G bb) r.ats e;generalize jA jC r.ats=I at *;refine aB rfl ?_;simp (maxSteps:=2000000) (disch:=omega) only[go_sem,h46c,q,Bt.cs,h,d,i,aC,aZA,l,k,f,m,j]
def Ej(x:Bt)(a:aJ):Int:=aT [qB (!a.res&&decide (a.fi=0)) 15,qB (!a.rs.any fun r=>decide (r.s=-1)) 14,qB (!a.rs.any fun r=>decide (r.s+r.n > x.cl)) 37]
theorem Lf{B:aO}(a b c:Int):EV G (Tb B) 22 [vl [[ci a],[ci b],[ci c]]] []=some (vi (aT [a,b,c]),[]):=Vn [a,b,c] (by simp)
theorem aNc{s:L Int}{x:Bt}{r:cK}{u:Int}(hp:Pre G bb s x r u 0)(C:r.ats.length<=1000000)(K:Nat)(J:K<r.ats.length)(I:jA jC r.ats=K)(i:r.ats[K].rs.length<=1000000)(N:∀q∈r.ats[K].rs,(-1000000<=q.s/\q.s<=1000000)/\(-1000000<=q.n/\q.n<=1000000)) (g:Ej x r.ats[K]≠0):EV G (Tb (eL G bb)) 46 [sv s] []=some (.tup [ptN,tE (Ej x r.ats[K])],[]):=by
 obtain⟨H,j,O,⟨a,q⟩,F,E,t⟩:=hp;have y:=nP s H;have h:=N5 (b:=s) rfl j;have z:=Co s;have k:=Y9 (G:=G) (B:=eL G bb) r.ats C;rw[I] at k;have w:=jB (G:=G) (B:=eL G bb);have v:=Lf (G:=G) (B:=eL G bb);have D:=ixA r.ats K J;unfold Ej at g ⊢;generalize r.ats[K]=A at *;have o:=aBr (G:=G) (B:=eL G bb) A.rs i;have p:=aBs (G:=G) (B:=eL G bb) A.rs x i N;generalize (A.rs.any fun r=>decide (r.s=-1))=l at *
 generalize (A.rs.any fun r=>decide (r.s+r.n > x.cl))=m at *
 have M:(0:Int)<=(K:Int):=by omega
 refine aB rfl ?_;cases c:A.res;rw[c] at g;by_cases f:A.fi=0;rw[decide_eq_true f] at g ⊢;have d:¬ aT [qB true 15,qB (!l) 14,qB (!m) 37]=0:=g;simp (maxSteps:=2000000) (disch:=omega) only[go_sem,h46c,q,Bt.cs,y,h,z,aC,aZA,F,E,t,k,D,aJ.e,c,f,o,p,w,v,d,aZ6,aZ5,aZ8,bAi];rw[decide_eq_false f] at g ⊢;have d:¬ aT [qB false 15,qB (!l) 14,qB (!m) 37]=0:=g;simp (maxSteps:=2000000) (disch:=omega) only[go_sem,h46c,q,Bt.cs,y,h,z,aC,aZA,F,E,t,k,D,aJ.e,c,f,o,p,w,v,d,aZ6,aZ5,aZ8,bAi,Bool.and_false];rw[c] at g;have d:¬ aT [qB false 15,qB (!l) 14,qB (!m) 37]=0:=g;simp (maxSteps:=2000000) (disch:=omega) only[go_sem,h46c,q,Bt.cs,y,h,z,aC,aZA,F,E,t,k,D,aJ.e,c,o,p,w,v,d,aZ6,aZ5,aZ8,bAi]
end
section
variable {G:aF}{bb:Bool}
theorem aRL(x:Bt)(b c:DC)(N:Nat)(a:L Int)(s:L Int)(e:(-1000000<=x.mi/\x.mi<=1000000)/\2<=x.cl/\x.cl<=1000000)(d:a.length<=1000000):EV G (Tb (eL G bb)) 78 [.one (.ptr 0 0)] [Cp x b c N (.slc (el a)),yb s]=some (vb (tV x a),[Cp x b c N (.slc (el a)),yb s]):=aV2 x b c N a s e d
theorem Ek{B:aO}(x:Bt)(b c:DC)(N:Nat)(a:L Int)(s:L Int)(n:Nat)(h:2*n+2<=a.length)(d:a.length<=1000000):EV G (Tb B) 45 [.one (.ptr 0 0),vi n] [Cp x b c N (.slc (el a)),yb s]=some (prI (a.getD (2*n) 0) (a.getD (2*n+1) 0),[Cp x b c N (.slc (el a)),yb s]):=aIs x b c N a s n h d
def clE(x:Bt)(a:L Int):Int:=aT [qB (!tV x a) 13,qB (decide (a.length % 2=0)&&decide (16<=a.length / 2/\a.length / 2<=96)) 2,qB (decide (2<=a.length)&&decide (a.getD 0 0=x.tb/\a.getD 1 0=x.tb+1)) 9]
abbrev rc9(r:cK)(u:Int):L aU:=[.dc (ci r.sq),.dc (ci r.li),.dc (ci r.fl),.dc (ci r.br),.dc (ci r.bq),.dc (ci r.nx),.dc (ci r.ls),.dc (.slc (r.ats.map aJ.e)),.dc (ci u)]
abbrev opH(x:Bt)(r:cK)(u:Int)(s:L Int)(b:L aW)(a:L Int):L aD:=[x.o,yb s,Cp x (.slc (b.map aW.e)) (ci (a.length / 2:Nat)) s.length (.slc (el a)),.box (rc9 r u),.dead]
abbrev opB(x:Bt)(N:Nat)(a:L aW)(n:Nat):aD:=.box [.dc (ci x.cl),.dc (ci x.tb),.dc (ci x.mi),.dc (ci x.lg),.dc (ci x.lc),.dc (ci x.se),.dc (.slc (a.map aW.e)),.dc (ci 0),.bls 1 0 N 1,.bld 4 n]
theorem aV7(q:aW)(h:q.s≠-1)(n:Nat):At q (n+1)=At q n++[q.s+n]:=by rw[Tm,if_neg h]
theorem aYe(x:Bt)(r:cK)(u:Int)(s:L Int)(a:L aW)(k:Nat)(q:aW)(g:-1<=q.s/\q.s<=1000)(D:L Int)(c:D.length<=1000000)(j:Nat)(d:j<q.n.toNat)(f:q.n<=100000000):Ls [4,2,6,93,0,0,4,0] 6 (EC (EV G (Tb (eL G bb))) G h46l0 ⟨(jk 4 (.one (.ptr 0 0)::jk 2 (.one (.ptr 2 0)::jk 6 (.one (.ptr 5 0)::jk 93 (cQ a::vi a.length::vi k::jk 4 (vi q.n::vi j::jk 59 [])))))),[x.o,yb s,opB x s.length a D.length,.box (rc9 r u),.arr 0 1 (el D),.box [.dc (ci q.s),.dc (ci q.n)]]⟩)= some ⟨(jk 4 (.one (.ptr 0 0)::jk 2 (.one (.ptr 2 0)::jk 6 (.one (.ptr 5 0)::jk 93 (cQ a::vi a.length::vi k::jk 4 (vi q.n::vi (j+1:Nat)::jk 59 [])))))),[x.o,yb s,opB x s.length a (D++[q.s+j]).length,.box (rc9 r u),.arr 0 1 (el (D++[q.s+j])),.box [.dc (ci q.s),.dc (ci q.n)]]⟩:=by
 have b:(j:Int)<q.n:=by omega
 have e:List.take D.length (List.map tL D)=List.map tL D:=bAc (by rw[aZA];exact aZE _);simp (maxSteps:=2000000) (disch:=omega) only[go_sem,h46l0,aZA,b,aAW,aZB,kT,pK,e]
theorem aV8(x:Bt)(r:cK)(u:Int)(s:L Int)(a:L aW)(hf:sO a)(f:∀q∈a,q.s≠-1)(i:cC a<=100000)(k:Nat)(b:k<a.length):Ls [4,2,100,0,0] 5 (EC (EV G (Tb (eL G bb))) G h46l1 ⟨(jk 4 (.one (.ptr 0 0)::jk 2 (.one (.ptr 2 0)::jk 100 (cQ a::vi a.length::vi k::jk 65 [])))),[x.o,yb s,opB x s.length a (tO (a.take k)).length,.box (rc9 r u),.arr 0 1 (el (tO (a.take k)))]⟩)= some ⟨(jk 4 (.one (.ptr 0 0)::jk 2 (.one (.ptr 2 0)::jk 100 (cQ a::vi a.length::vi (k+1:Nat)::jk 65 [])))),[x.o,yb s,opB x s.length a (tO (a.take (k+1))).length,.box (rc9 r u),.arr 0 1 (el (tO (a.take (k+1))))]⟩:=by
 have p:=hf.el _ (aZK b);have t:=hf.n_le (aZK b);have h3:=Au (a.take k) (fun r c=>(hf.el r (aZ0 c)).2.2)
 have h4:=iG a k (fun r c=>(hf.el r c).2.2)
 have l:=f _ (aZK b);have h:=hf.len;have h6:=As a k b;have h7:=iG a (k+1) (fun r c=>(hf.el r c).2.2)
 rw[Tn a k b];generalize tO (a.take k)=C at *;simp (maxSteps:=2000000) (disch:=omega) only[go_sem,h46l1,aZA,kT,pK,aW.e];rw[aR (fun j=>⟨(jk 4 (.one (.ptr 0 0)::jk 2 (.one (.ptr 2 0)::jk 6 (.one (.ptr 5 0)::jk 93 (cQ a::vi a.length::vi k::jk 4 (vi a[k].n::vi j::jk 59 [])))))),[x.o,yb s,opB x s.length a (C++At a[k] j).length,.box (rc9 r u),.arr 0 1 (el (C++At a[k] j)),.box [.dc (ci a[k].s),.dc (ci a[k].n)]]⟩) a[k].n.toNat ?_ ?_]
 have m:((a[k].n.toNat:Nat):Int)=a[k].n:=by omega
 simp (maxSteps:=2000000) (disch:=omega) only[go_sem,h46l0,aZA,aW.e,m,kT,pK];simp[At,jk];intro j g;have d:(C++At a[k] j).length=C.length+j:=by simp[At]
 rw[aV7 a[k] l,<- aZS];exact aYe x r u s a k a[k] (by omega) (C++At a[k] j) (by omega) j g (by omega)
theorem aRM{s:L Int}{x:Bt}{r:cK}{u:Int}(hp:Pre G bb s x r u 0)(R:r.ats.length<=1000000)(K:Nat)(hK:K<r.ats.length)(hI:jA jC r.ats=K)(hf:sO r.ats[K].rs)(hx:(0<=x.mi/\x.mi<=1000)/\2<=x.cl/\x.cl<=1000)(P:cC r.ats[K].rs<=100000)(Q:∀q∈r.ats[K].rs,q.n<=100000) (p:Ej x r.ats[K]=0):EV G (Tb (eL G bb)) 46 [sv s] []=some (.tup [.one (.ptr 2 0),tE (clE x (tO r.ats[K].rs))],opH x r u s r.ats[K].rs (tO r.ats[K].rs)):=by
 obtain⟨hB,E,hl,⟨a,q⟩,t,nM,X⟩:=hp;have Z:=nP s hB;have z:=N5 (b:=s) rfl E;have hF:=Co s;have S:=Y9 (G:=G) (B:=eL G bb) r.ats R;rw[hI] at S;have w:=jB (G:=G) (B:=eL G bb);have j:=Lf (G:=G) (B:=eL G bb);have H:=ixA r.ats K hK;unfold Ej at p;generalize r.ats[K]=A at *;have D:A.rs.length<=1000000:=by have:=hf.len;omega
 have M:=aBr (G:=G) (B:=eL G bb) A.rs D;have N:=aBs (G:=G) (B:=eL G bb) A.rs x D (fun q J=>by have:=hf.el q J;have:=Q q J;omega)
 have hp0:(0:Int)<=(K:Int):=by omega
 have e1:A.res=false/\A.fi=0/\(A.rs.any fun r=>decide (r.s=-1))=false/\(A.rs.any fun r=>decide (r.s+r.n > x.cl))=false:=by
  cases h5:A.res
  ·by_cases h6:A.fi=0
   ·rw[h5,decide_eq_true h6] at p;refine⟨rfl,h6, ?_⟩;revert p;cases (A.rs.any fun r=>decide (r.s=-1))<;>cases (A.rs.any fun r=>decide (r.s+r.n > x.cl))<;>simp[qB,aT]
   ·rw[h5,decide_eq_false h6] at p;revert p;cases (A.rs.any fun r=>decide (r.s=-1))<;>cases (A.rs.any fun r=>decide (r.s+r.n > x.cl))<;>simp[qB,aT]
  ·rw[h5] at p;revert p;cases (A.rs.any fun r=>decide (r.s=-1))<;>cases (A.rs.any fun r=>decide (r.s+r.n > x.cl))<;>simp[qB,aT]
 obtain⟨F,O,h3,h4⟩:=e1;rw[h3] at M;rw[h4] at N;have V:aT [qB true 15,qB true 14,qB true 37]=0:=rfl;refine aB rfl ?_;simp (maxSteps:=2000000) (disch:=omega) only[go_sem,h46c,q,Bt.cs,Z,z,hF,aC,aZA,t,nM,X,S,H,aJ.e,F,O,M,N,w,j,V,aZ6,aZ5,aZ8,bAi];rw[aR (fun k=>⟨(jk 4 (.one (.ptr 0 0)::jk 2 (.one (.ptr 2 0)::jk 100 (cQ A.rs::vi A.rs.length::vi k::jk 65 [])))),[x.o,yb s,opB x s.length A.rs (tO (A.rs.take k)).length,.box (rc9 r u),.arr 0 1 (el (tO (A.rs.take k)))]⟩) A.rs.length ?_ ?_]
 rotate_left
 rfl
 exact fun k hk=>aV8 x r u s A.rs hf (fun q J e=>by
  have:=bAM.1 h3 q J;simp[e] at this) P k hk
 clear q Z z hF S X M N H V j;have j:=Lf (G:=G) (B:=eL G bb);have lc:=Au A.rs (fun r Q=>(hf.el r Q).2.2)
 rw[bAj];generalize tO A.rs=C at *;have i:=aRL (G:=G) (bb:=bb) x (.slc (A.rs.map aW.e)) (ci (C.length / 2:Nat)) s.length C s (by omega) (by omega);unfold clE;generalize tV x C=CB at *;have d:(C.length:Int).tmod 2=((C.length % 2:Nat):Int):=Fs C.length 2;have c:(C.length:Int).tdiv 2=((C.length / 2:Nat):Int):=Qw C.length 2;have I:=kJ (G:=G) (B:=eL G bb) (C.length / 2:Nat) 16 96;have eW:decide ((16:Int)<=(C.length / 2:Nat)/\((C.length / 2:Nat):Int)<=96)=decide (16<=C.length / 2/\C.length / 2<=96):=by rw[decide_eq_decide];omega
 rw[eW] at I;generalize decide (16<=C.length / 2/\C.length / 2<=96)=W at *;by_cases Y:C.length % 2=0;have g:((C.length % 2:Nat):Int)=0:=by omega
 rw[decide_eq_true Y,aZ8];by_cases y:2<=C.length;have f:(C.length:Int)≥2:=by omega
 rw[decide_eq_true y,aZ8];have v:EV G (Tb (eL G bb)) 45 [.one (.ptr 0 0),vi 0] [Cp x (.slc (A.rs.map aW.e)) (ci (C.length / 2:Nat)) s.length (.slc (el C)),yb s]=some (prI (C.getD 0 0) (C.getD 1 0),[Cp x (.slc (A.rs.map aW.e)) (ci (C.length / 2:Nat)) s.length (.slc (el C)),yb s]):=Ek x _ _ _ C s 0 (by omega) (by omega);generalize C.getD 0 0=T at *;generalize C.getD 1 0=U at *;by_cases l:T=x.tb;by_cases m:U=x.tb+1;rw[decide_eq_true (And.intro l m)];simp (maxSteps:=2000000) (disch:=omega) only[go_sem,h46l1,aZA,kT,pK,d,c,g,eq_true f,i,v,t,w,I,j,eq_true l,eq_true m];rw[decide_eq_false (fun h=>m h.2)]
 simp (maxSteps:=2000000) (disch:=omega) only[go_sem,h46l1,aZA,kT,pK,d,c,g,eq_true f,i,v,t,w,I,j,eq_true l,m];rw[decide_eq_false (fun h=>l h.1)]
 simp (maxSteps:=2000000) (disch:=omega) only[go_sem,h46l1,aZA,kT,pK,d,c,g,eq_true f,i,v,t,w,I,j,l];have f:¬ (C.length:Int)≥2:=by omega
 rw[decide_eq_false y,bAi];simp (maxSteps:=2000000) (disch:=omega) only[go_sem,h46l1,aZA,kT,pK,d,c,g,f,i,w,I,j];have g:¬ ((C.length % 2:Nat):Int)=0:=by omega
 rw[decide_eq_false Y,bAi];by_cases y:2<=C.length;have f:(C.length:Int)≥2:=by omega
 rw[decide_eq_true y,aZ8];have v:EV G (Tb (eL G bb)) 45 [.one (.ptr 0 0),vi 0] [Cp x (.slc (A.rs.map aW.e)) (ci (C.length / 2:Nat)) s.length (.slc (el C)),yb s]=some (prI (C.getD 0 0) (C.getD 1 0),[Cp x (.slc (A.rs.map aW.e)) (ci (C.length / 2:Nat)) s.length (.slc (el C)),yb s]):=Ek x _ _ _ C s 0 (by omega) (by omega);generalize C.getD 0 0=T at *;generalize C.getD 1 0=U at *;by_cases l:T=x.tb;by_cases m:U=x.tb+1;rw[decide_eq_true (And.intro l m)];simp (maxSteps:=2000000) (disch:=omega) only[go_sem,h46l1,aZA,kT,pK,d,c,g,eq_true f,i,v,t,w,j,eq_true l,eq_true m];rw[decide_eq_false (fun h=>m h.2)]
 simp (maxSteps:=2000000) (disch:=omega) only[go_sem,h46l1,aZA,kT,pK,d,c,g,eq_true f,i,v,t,w,j,eq_true l,m];rw[decide_eq_false (fun h=>l h.1)]
 simp (maxSteps:=2000000) (disch:=omega) only[go_sem,h46l1,aZA,kT,pK,d,c,g,eq_true f,i,v,t,w,j,l];have f:¬ (C.length:Int)≥2:=by omega
 rw[decide_eq_false y,bAi];simp (maxSteps:=2000000) (disch:=omega) only[go_sem,h46l1,aZA,kT,pK,d,c,g,f,i,w,j]
end
section
variable {G:aF}{bb:Bool}
theorem qO{a:aJ}(b:a.W)(h:gI a=0):(mT a.rs).2=0:=by
 have h4:=(nA b h).e;unfold tQ at h4;split at h4;rename_i c;unfold L4 at h4;split at h4;rename_i q;rw[q.1];rfl;cases h4;exact (Fa h4).2.2.2.1
theorem Bg{l:L aW}(h:(mT l).2=0):sO l/\cC l<=4096/\∀q∈l,(-1<=q.s/\q.s<=1000)/\(0<=q.n/\q.n<=4096):=by
 have a:=Dr h;have d:=aVa h;refine⟨a,d.2,fun q c=>?_⟩
 have h3:=a.el q c;obtain⟨i,e,rfl⟩:=List.mem_iff_getElem.1 c;have h4:=As l i e;have h5:=iG l (i+1) (fun r b=>(a.el r b).2.2)
 have h6:=iF (l.take i) (fun r b=>(a.el r (aZ0 b)).2.2)
 omega
noncomputable def mN(s:L Int):cK×Int×Int:=Rh (Mg s (bB s).1) (Q1 s (bB s).1)
noncomputable def mW(s:L Int):aJ:=(mN s).1.ats.getD (jA jC (mN s).1.ats).toNat aJ.nil
noncomputable def nQ(s:L Int):Int:=if (bB s).2.2≠0 then (bB s).2.2 else if (mN s).2.2≠0 then (mN s).2.2 else if jA jC (mN s).1.ats<0 then 6 else Ej (bB s).1 (mW s)
noncomputable def jU(s:L Int):L Int:=tO (mW s).rs
noncomputable def Q2(s:L Int):Int:=clE (bB s).1 (jU s)
noncomputable def nW(s:L Int):Int:=if nQ s≠0 then nQ s else Q2 s
theorem aRN{s:L Int}(h:(bB s).2.2=0):Lt s.length=0/\jQ (bB s).1=0/\(bB s).1.cl=(s.length / 256:Nat):=by
 unfold bB at h ⊢;by_cases e:Lt s.length=0;rw[if_pos e] at h ⊢;have f:∀l:L Int,(fU l).2=0->jQ (fU l).1=0:=by
  intro l d;unfold fU at d ⊢;split at d;split at d;split at d;rename_i a b c;rw[if_pos a,if_pos b,if_pos c];exact c;rename_i c;exact absurd d c;cases d;cases d
 unfold Al at h ⊢;by_cases g:(fU (s.take 64)).2=0/\(fU (s.take 64)).1.cl=(s.length / 256:Nat);rw[if_pos g];exact⟨e,f _ g.1,g.2⟩;rw[if_neg g] at h ⊢;by_cases h3:(fU (s.drop (s.length-64))).2=0/\(fU (s.drop (s.length-64))).1.cl=(s.length / 256:Nat);rw[if_pos h3];exact⟨e,f _ h3.1,h3.2⟩;rw[if_neg h3] at h;cases h;rw[if_neg e] at h;exact absurd h e
structure Bok (x:Bt) (N:Nat):Prop where
 cl:x.cl=(N / 256:Nat)
 n:N % 256=0/\64<=N / 256/\N / 256<=512
 tb:1<=x.tb/\x.tb<=x.cl-2
 mi:1<=x.mi/\x.mi+8<x.cl
 lg:1<=x.lg/\x.lg+x.lc<x.cl
 lc:8<=x.lc/\x.lc<=64
theorem Ib{s:L Int}(h:(bB s).2.2=0):Bok (bB s).1 s.length:=by
 obtain⟨e,g,h3⟩:=aRN h;obtain⟨a,b,c,d⟩:=aMT g;obtain⟨m,n,l,o⟩:=mG.1 a;obtain⟨i,j,k⟩:=qN.1 b;have f:=Ef.1 c;exact⟨h3,dk0 e,i,⟨j.1,f.1⟩,⟨k.1,f.2⟩,l⟩
theorem aIy(p q:L Int)(hp:aI p)(a:aI q):(Rh p q).1.W/\((Rh p q).2.2=0->gJ (Rh p q).1=0):=by
 have k:∀ p:L Int,aI p->(dQ p).1.W/\((dQ p).2.2=0->gJ (dQ p).1=0):=fun p hp=>⟨aVM hp,fun h=>by
  rcases aQ8 hp with q | q
  ·exact absurd h q.1
  ·exact q.2.1⟩
 unfold Rh;split;exact k p hp;split;exact k q a;exact k p hp
theorem Q3(s:L Int)(a:aI s):(mN s).1.W/\((mN s).2.2=0->gJ (mN s).1=0):=aIy _ _ (kD a _ _) (kD a _ _)
theorem V6{s:L Int}(h:¬ jA jC (mN s).1.ats<0):∃K:Nat,∃d:K<(mN s).1.ats.length,jA jC (mN s).1.ats=K/\mW s=(mN s).1.ats[K]/\jC (mN s).1.ats[K]=true/\∀j,j<K->jC ((mN s).1.ats.getD j aJ.nil)=false:=by
 unfold mW;generalize (mN s).1.ats=l at *;unfold jA at h ⊢;obtain⟨e,hp,c⟩:=bD (fun k=>jC (l.getD k aJ.nil)=true) l.length
 generalize ix (fun k=>jC (l.getD k aJ.nil)=true) l.length=k at *
 rcases hp with rfl|⟨a,hp⟩;rw[if_pos rfl] at h;exact absurd (by decide) h
 rw[if_neg (by omega)];refine⟨k,a,rfl,?_,by rw[<- fJ l k a];exact hp,fun j b=>by simpa using c j b⟩
 rw[bAd,fJ l k a]
theorem Lg{s:L Int}(d:aI s)(b:(mN s).2.2=0)(c:¬ jA jC (mN s).1.ats<0):(mW s).W/\gI (mW s)=0:=by
 obtain⟨K,a,_,h3,_⟩:=V6 c;obtain⟨h4,h5⟩:=Q3 s d;rw[h3];exact⟨h4.at' _ (aZK a),(A4 (h5 b)).errs.1 _ (aZK a)⟩
theorem V7(l:G9 G)(s:L Int)(e:aI s)(j:s.length<=200000)(h:nQ s≠0):EV G (Tb (eL G bb)) 46 [sv s] []=some (.tup [ptN,tE (nQ s)],[]):=by
 unfold nQ at h ⊢;by_cases a:(bB s).2.2=0;rw[if_neg (not_not_intro a)] at h ⊢;have b:=Ib a;have t:=b.cl;have u:=b.n;have v:=b.tb;have w:=b.mi;have hp:=aIx (bb:=bb) l s e j a ⟨⟨by omega,by omega⟩,⟨by omega,by omega⟩⟩;change Pre G bb s (bB s).1 (mN s).1 (mN s).2.1 (mN s).2.2 at hp;by_cases c:(mN s).2.2=0;rw[if_neg (not_not_intro c)] at h ⊢;rw[c] at hp;have x:=(Q3 s e).1.ln;by_cases h3:jA jC (mN s).1.ats<0;rw[if_pos h3];exact aNb hp (by omega) h3;rw[if_neg h3] at h ⊢;obtain⟨i,d⟩:=Lg e c h3;obtain⟨K,m,p,r,_⟩:=V6 h3;obtain⟨f,k,g⟩:=Bg (qO i d);rw[r] at h i d f k g ⊢;exact aNc hp (by omega) K m p (by have:=f.len;omega) (fun q o=>by have:=g q o;omega) h
 rw[if_pos c];exact aNa hp c;rw[if_pos a];exact aM9 s e j a
theorem Za{s:L Int}(h:nQ s=0):(bB s).2.2=0/\(mN s).2.2=0/\¬ jA jC (mN s).1.ats<0/\Ej (bB s).1 (mW s)=0:=by
 unfold nQ at h;by_cases a:(bB s).2.2=0;rw[if_neg (not_not_intro a)] at h;by_cases b:(mN s).2.2=0;rw[if_neg (not_not_intro b)] at h;by_cases h3:jA jC (mN s).1.ats<0;rw[if_pos h3] at h;cases h;rw[if_neg h3] at h;exact⟨a,b,h3,h⟩;rw[if_pos b] at h;exact absurd h b;rw[if_pos a] at h;exact absurd h a
theorem Ic(k:G9 G)(s:L Int)(c:aI s)(m:s.length<=200000)(h:nQ s=0):EV G (Tb (eL G bb)) 46 [sv s] []=some (.tup [.one (.ptr 2 0),tE (Q2 s)],opH (bB s).1 (mN s).1 (mN s).2.1 s (mW s).rs (jU s)):=by
 obtain⟨f,g,h3,h4⟩:=Za h;have b:=Ib f;have t:=b.cl;have u:=b.n;have v:=b.tb;have w:=b.mi;have hp:=aIx (bb:=bb) k s c m f ⟨⟨by omega,by omega⟩,⟨by omega,by omega⟩⟩;change Pre G bb s (bB s).1 (mN s).1 (mN s).2.1 (mN s).2.2 at hp;rw[g] at hp;have x:=(Q3 s c).1.ln;obtain⟨i,a⟩:=Lg c g h3;obtain⟨K,l,p,r,_⟩:=V6 h3;obtain⟨d,j,e⟩:=Bg (qO i a);unfold Q2 jU;rw[r] at h4 i a d j e ⊢;exact aRM hp (by omega) K l p d ⟨by omega,by omega⟩ (by omega) (fun q o=>by have:=e q o;omega) h4
end
section
variable {G:aF}{bb:Bool}
structure Tok (x:Bt) (N:Nat) (C:List Int):Prop where
 b:Bok x N
 rg:∀c∈C,1<=c/\c<=x.cl-2
 mi:∀c∈C,¬ (x.mi<=c/\c<=x.mi+7)
 nd:C.Nodup
 ev:C.length % 2=0
 ln:16<=C.length / 2/\C.length / 2<=96
 h0:C.getD 0 0=x.tb/\C.getD 1 0=x.tb+1
theorem aNd{l:L aW}(e:∀q∈l,q.s≠-1){c:Int}(h:c∈tO l):∃q∈l,q.s<=c/\c<q.s+q.n:=by
 obtain⟨q,d,a⟩:=List.mem_flatMap.1 h;refine⟨q,d,?_⟩;unfold At at a;obtain⟨k,b,rfl⟩:=List.mem_map.1 a;have b:=List.mem_range.1 b;rw[if_neg (e q d)];omega
theorem Lh{b:Bool}{e:Int}(a:e≠0)(h:qB b e=0):b=true:=by
 unfold qB at h;split at h
 assumption
 exact absurd h a
theorem aRO{x:Bt}{a:aJ}(h:Ej x a=0):a.res=false/\a.fi=0/\(∀q∈a.rs,q.s≠-1)/\∀q∈a.rs,q.s+q.n<=x.cl:=by
 obtain⟨b,c,h3⟩:=A3 h;have b:=Lh (by decide) b;have c:=Lh (by decide) c;have h3:=Lh (by decide) h3;simp only[aZQ,bAC,decide_eq_true_eq,bAM] at b c h3;exact⟨b.1,b.2,fun q d e=>c q d e,fun q d=>by have:=h3 q d;omega⟩
theorem aNe{x:Bt}{C:L Int}(h:tV x C=false):∀k (a:k<C.length),C[k]≠0/\C[k]≠x.cl-1/\¬ C[k]∈C.take k/\¬ (x.mi<=C[k]/\C[k]<=x.mi+7):=by
 intro k a;have h:=of_decide_eq_false h;have e:C.getD k 0=C[k]:=by simp[a]
 refine⟨fun q=>h ⟨k,a,.inl ?_⟩,fun q=>h ⟨k,a,.inl ?_⟩,fun q=>h ⟨k,a,.inl ?_⟩,fun q=>h ⟨k,a,.inr ?_⟩⟩
 rw[e,q];simp;rw[e,q];simp;rw[e];simp[q];rw[e];omega
theorem kX{s:L Int}(D:aI s)(h:nW s=0):nQ s=0/\Q2 s=0/\Tok (bB s).1 s.length (jU s):=by
 have l:nQ s=0:=by
  unfold nW at h;by_cases q:nQ s=0;exact q;rw[if_pos q] at h;exact absurd h q
 have m:Q2 s=0:=by
  unfold nW at h;rw[if_neg (not_not_intro l)] at h;exact h
 obtain⟨x,y,z,A⟩:=Za l;have b:=Ib x;obtain⟨C,n⟩:=Lg D y z;obtain⟨I,J,v⟩:=Bg (qO C n);obtain⟨K,M,u,w⟩:=aRO A;refine⟨l,m, ?_⟩;unfold Q2 clE at m;obtain⟨f,d,g⟩:=A3 m;have f:=Lh (by decide) f;have d:=Lh (by decide) d;have g:=Lh (by decide) g;simp only[aZQ,bAC,decide_eq_true_eq] at f d g;have t:=aNe f;have H:∀ c∈jU s,0<=c/\c < (bB s).1.cl:=fun c a=>by
  obtain⟨q,p,l,m⟩:=aNd u a;have:=w q p;have:=v q p;have:=u q p;omega
 refine⟨b,fun c a=>?_,fun c a=>?_,?_,d.1,d.2,g.2⟩
 have r:=H c a;obtain⟨k,o,rfl⟩:=List.mem_iff_getElem.1 a;have:=t k o;omega;obtain⟨k,o,rfl⟩:=List.mem_iff_getElem.1 a;exact (t k o).2.2.2;rw[List.nodup_iff_pairwise_ne,bBe];intro i j N F E e;refine (t j F).2.2.1 ?_;rw[<- e];exact List.mem_take_iff_getElem.2 ⟨i,by omega,rfl⟩
noncomputable def Gp(s:L Int)(x:Bt)(C:L Int)(n:Nat):cK×Int×Int:=
 Rh (Bc s (C.getD (2*n) 0).toNat (C.getD (2*n+1) 0).toNat) (if n<4 then Bc s (x.mi.toNat+2*n) (x.mi.toNat+2*n+1) else Bc s (C.getD (2*n) 0).toNat (C.getD (2*n+1) 0).toNat)
theorem Tok.at{x:Bt}{N:Nat}{C:L Int}(h:Tok x N C){k:Nat}(a:k<C.length):∃c:Nat,C.getD k 0=c/\c*256+256<=N/\1<=c/\c*256+512<=N:=by
 have e:C.getD k 0=C[k]:=by simp[a]
 have:=h.rg _ (aZK a);have:=h.b.cl;have:=h.b.n;exact⟨C[k].toNat,by omega,by omega,by omega,by omega⟩
theorem aBt(m:G9 G)(x:Bt)(f g:DC)(s:L Int)(l:aI s)(o:s.length<=200000)(C:L Int)(i:Tok x s.length C)(n:Nat)(J:n<C.length / 2):EV G (Tb (eL G bb)) 21 [.one (.ptr 0 0),vi n] [Cp x f g s.length (.slc (el C)),yb s]=some (Y7 (Gp s x C n),[Cp x f g s.length (.slc (el C)),yb s]):=by
 have t:=i.ln;have j:=Ek (G:=G) (B:=eL G bb) x f g s.length C s n (by omega) (by omega);obtain⟨a,p,w,z,_⟩:=i.at (k:=2*n) (by omega);obtain⟨c,q,H,I,_⟩:=i.at (k:=2*n+1) (by omega);obtain⟨b,_,_,_,_,_⟩:=i;have A:=b.cl;have D:=b.n;have F:=b.mi;unfold Gp;rw[p,q] at j ⊢;rw[bAd,bAd];by_cases h4:n<4
 ·rw[if_pos h4];have v:=V2 (G:=G) (B:=eL G bb) x f g (.slc (el C)) s.length s n (by omega) (by omega);have h:=Le (G:=G) (bb:=bb) m x f g (.slc (el C)) s l s.length a c (x.mi.toNat+2*n) (x.mi.toNat+2*n+1) rfl (by omega) (by omega) (by omega) (by omega) o;rw[aIw (a:=x.mi.toNat+2*n) (x:=x.mi+2*n) (y:=x.mi+2*n+1) (by omega) (by omega)] at h;have d:(n:Int)<4:=by omega
  generalize Rh _ _=E at *;obtain⟨r,u,e⟩:=E;refine aB rfl ?_;simp (maxSteps:=2000000) (disch:=omega) only[go_sem,h21c,j,v,h,d,aZA];try rfl
 ·rw[if_neg h4];have h:=Le (G:=G) (bb:=bb) m x f g (.slc (el C)) s l s.length a c a c rfl (by omega) (by omega) (by omega) (by omega) o;have d:¬ (n:Int)<4:=by omega
  generalize Rh _ _=E at *;obtain⟨r,u,e⟩:=E;refine aB rfl ?_;simp (maxSteps:=2000000) (disch:=omega) only[go_sem,h21c,j,h,d,aZA];try rfl
end
section
variable {G:aF}{bb:Bool}
noncomputable def oT(s:L Int):Nat:=(jU s).length / 2
theorem aIz{s:L Int}(h:nW s≠0):(nQ s≠0/\nQ s=nW s)\/(nQ s=0/\Q2 s=nW s):=by
 unfold nW at h ⊢;by_cases q:nQ s=0;rw[if_neg (not_not_intro q)];exact .inr ⟨q,rfl⟩;rw[if_pos q];exact .inl ⟨q,rfl⟩
theorem Li(b:G9 G)(s:L Int)(a:aI s)(c:s.length<=200000)(n:Int)(h:nW s≠0):EV G (Tb (eL G bb)) 20 [sv s,vi n] []=some (.tup [ptN,tE (nW s)],[]):=by
 rcases aIz h with⟨q,e⟩|⟨q,e⟩;have o:=V7 (bb:=bb) b s a c q;rw[e] at o;refine aB rfl ?_;simp (maxSteps:=2000000) (disch:=omega) only[go_sem,h20c,o,h];have o:=Ic (bb:=bb) b s a c q;rw[e] at o;generalize jU s=C at *;refine aB rfl ?_;simp (maxSteps:=2000000) (disch:=omega) only[go_sem,h20c,o,h,aZM,aZN,eQ,B7]
theorem Bh(b:G9 G)(s:L Int)(a:aI s)(d:s.length<=200000)(n:Int)(h:nW s=0):EV G (Tb (eL G bb)) 20 [sv s,vi n] []=some (.tup [.one (.ptr 2 0),tE (qB (decide (0<=n/\n<=(oT s:Int)-1)) 6)],opH (bB s).1 (mN s).1 (mN s).2.1 s (mW s).rs (jU s)):=by
 obtain⟨f,g,c⟩:=kX a h;have o:=Ic (bb:=bb) b s a d f;rw[g] at o;have e:=c.ln;have w:=kJ (G:=G) (B:=eL G bb) n 0 ((oT s:Int)-1);have u:=jB (G:=G) (B:=eL G bb);unfold oT at w ⊢;change _=some (_,opH (bB s).1 (mN s).1 (mN s).2.1 s (mW s).rs (jU s));generalize jU s=C at *;generalize (bB s).1=x at *;generalize (mN s).1=r at *;generalize (mN s).2.1=j at *;generalize (mW s).rs=i at *;refine aB rfl ?_;simp (maxSteps:=2000000) (disch:=omega) only[go_sem,h20c,o,w,u,aZM,aZN,eQ,B7]
noncomputable def Q4(s:L Int)(n:Int):Int:=if nW s≠0 then nW s else qB (decide (0<=n/\n<=(oT s:Int)-1)) 6
theorem aIA{s:L Int}{n:Int}(h:Q4 s n=0):nW s=0/\0<=n/\n.toNat<oT s:=by
 unfold Q4 at h;by_cases q:nW s=0;rw[if_neg (not_not_intro q)] at h;have:=of_decide_eq_true (Lh (by decide) h);exact⟨q,this.1,by omega⟩;rw[if_pos q] at h;exact absurd h q
theorem aOg{s:L Int}{n:Int}(h:Q4 s n≠0):nW s≠0/\Q4 s n=nW s\/nW s=0/\Q4 s n=6/\qB (decide (0<=n/\n<=(oT s:Int)-1)) 6=6:=by
 unfold Q4 at h ⊢;by_cases q:nW s=0;rw[if_neg (not_not_intro q)] at h ⊢;unfold qB at h ⊢;split;rename_i r;rw[if_pos r] at h;exact absurd rfl h;exact .inr ⟨q,rfl,rfl⟩;rw[if_pos q];exact .inl ⟨q,rfl⟩
theorem aDQ(d:G9 G)(s:L Int)(c:aI s)(f:s.length<=200000)(n:Int):EV G (Tb (eL G bb)) 19 [sv s,vi n] []=some (.tup [tI (if Q4 s n=0 then (jU s).getD (2*n.toNat) 0 else 0),tE (Q4 s n)],[]):=by
 by_cases h:Q4 s n=0;rw[if_pos h,h];obtain⟨a,b,h3⟩:=aIA h;have o:=Bh (bb:=bb) d s c f n a;obtain⟨_,_,j⟩:=kX c a;have k:=j.ln;have e:qB (decide (0<=n/\n<=(oT s:Int)-1)) 6=0:=by rw[decide_eq_true (by omega)];rfl
 rw[e] at o;have i:n=(n.toNat:Int):=by omega
 unfold oT at h3;have g:=Ek (G:=G) (B:=eL G bb) (bB s).1 (.slc ((mW s).rs.map aW.e)) (ci ((jU s).length / 2:Nat)) s.length (jU s) s n.toNat (by omega) (by omega);rw[<- i] at g;generalize (jU s).getD (2*n.toNat) 0=p at *;generalize (jU s).getD (2*n.toNat+1) 0=q at *;generalize jU s=C at *;generalize (bB s).1=x at *;generalize (mN s).1=r at *;generalize (mN s).2.1=m at *;generalize (mW s).rs=l at *;refine aB rfl ?_;simp (maxSteps:=2000000) (disch:=omega) only[go_sem,h19c,o,g,aZM,aZN,eQ,B7,qY,nV];rw[if_neg h];rcases aOg h with⟨a,b⟩|⟨a,b,h3⟩
 have o:=Li (bb:=bb) d s c f n a;rw[b];refine aB rfl ?_;simp (maxSteps:=2000000) (disch:=omega) only[go_sem,h19c,o,a];have o:=Bh (bb:=bb) d s c f n a;rw[h3] at o;rw[b];generalize jU s=C at *;generalize (bB s).1=x at *;generalize (mN s).1=r at *;generalize (mN s).2.1=m at *;generalize (mW s).rs=l at *;refine aB rfl ?_;simp (maxSteps:=2000000) (disch:=omega) only[go_sem,h19c,o,aZM,aZN,eQ,B7]
noncomputable def Q5(s:L Int)(n:Int):cK×Int×Int:=if Q4 s n=0 then Gp s (bB s).1 (jU s) n.toNat else (.nil,0,Q4 s n)
theorem Oj(d:G9 G)(s:L Int)(b:aI s)(f:s.length<=200000)(n:Int):EV G (Tb (eL G bb)) 6 [sv s,vi n] []=some (Y7 (Q5 s n),[]):=by
 unfold Q5;by_cases h:Q4 s n=0
 ·rw[if_pos h];obtain⟨a,c,h3⟩:=aIA h;have o:=Bh (bb:=bb) d s b f n a;obtain⟨_,_,j⟩:=kX b a;have e:qB (decide (0<=n/\n<=(oT s:Int)-1)) 6=0:=by rw[decide_eq_true (by omega)];rfl
  rw[e] at o;have i:n=(n.toNat:Int):=by omega
  unfold oT at h3;have g:=aBt (bb:=bb) d (bB s).1 (.slc ((mW s).rs.map aW.e)) (ci ((jU s).length / 2:Nat)) s b f (jU s) j n.toNat h3;rw[<- i] at g;generalize Gp s (bB s).1 (jU s) n.toNat=E at *;generalize jU s=C at *;generalize (bB s).1=x at *;generalize (mN s).1=r at *;generalize (mN s).2.1=l at *;generalize (mW s).rs=k at *;obtain⟨p,q,m⟩:=E;refine aB rfl ?_;simp (maxSteps:=2000000) (disch:=omega) only[go_sem,h6c,o,g,aZM,aZN,eQ,B7];try rfl
 rw[if_neg h];rcases aOg h with⟨a,c⟩|⟨a,c,h3⟩
 ·have o:=Li (bb:=bb) d s b f n a;rw[c];refine aB rfl ?_;simp (maxSteps:=2000000) (disch:=omega) only[go_sem,h6c,o,a];try rfl
 ·have o:=Bh (bb:=bb) d s b f n a;rw[h3] at o;rw[c];generalize jU s=C at *;generalize (bB s).1=x at *;generalize (mN s).1=r at *;generalize (mN s).2.1=l at *;generalize (mW s).rs=k at *;refine aB rfl ?_;simp (maxSteps:=2000000) (disch:=omega) only[go_sem,h6c,o,aZM,aZN,eQ,B7];try rfl
