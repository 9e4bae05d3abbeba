/- Part. Conditions: none. -/
import Derived.Test.YtalhnjjchkmfeabGreatDoorVo
import Derived.Test.YtalhnjjchkmfeabGreatDoorTf
import Derived.Test.YtalhnjjchkmfeabGreatDoorTu
namespace Go.Proofs.YtalhnjjchkmfeabGreatDoor
set_option maxHeartbeats 8000000
set_option linter.unusedSimpArgs false
set_option linter.unusedVariables false
set_option maxRecDepth 4000
section
variable {G:aE}{bb:Bool}
theorem aG5(a:aK)(b:a.rs.length<=1000000):EV G (Tb (bs bb)) 200 [a.v] []=some (a.v,[]):=by
 refine aA rfl ?_;have q:=aAg (G:=G) (bb:=bb) a.rs b;simp (disch:=omega) only[go_sem,h200c,q,aK.v,aY9]
abbrev lev(l:L aK)(e:Int):AV:=.tup [.one (.dc (.slc (l.map aK.e))),.one (.dc (ci e))]
theorem aG6(l:L aK)(c:∀a∈l,a.W)(f:l.length<=1000):EV G (Tb (bs bb)) 36 [vl (l.map aK.e),vl (l.map aK.e)] []=some (vb true,[]):=by
 refine aA rfl ?_;simp (disch:=omega) only[go_sem,h36c,aY9];rw[aQ (fun k=>⟨(vl (l.map aK.e)::vl (l.map aK.e)::jk 3 (vi k::jk 21 [])),[]⟩) l.length ?_ ?_]
 simp (disch:=omega) only[go_sem,h36l0,aY9];rfl;intro k d;have b:=c _ (aZk d);have q:=aLD (G:=G) (bb:=bb) l[k] l[k] b b;rw[(aCJ _ _).2 rfl] at q;simp (disch:=omega) only[go_sem,h36l0,aY9,ixA,aK.e,q]
end
section
variable {G:aE}{bb:Bool}
theorem aQo(a:aK)(h:a.Dc)(b:a.res=true):EV G (Tb (bs bb)) 71 [a.v] []=some (sv (gR a),[]):=by
 refine aA rfl ?_;obtain⟨s,u,w,x,y,z,B,C,D,g,i,j,k⟩:=h.bd;have E:=h.ty;have F:=h.nl;have H:=h.id;have I:=h.fl;obtain⟨P,Q,S,T,U⟩:=h.t b;have V:=h.vl;have c:tH a=24:=by simp[tH,b]
 have K:24+a.nm.length<=cZ a/\cZ a<=2000:=by simp only[cZ,c];omega
 have e:=mG (G:=G) (bb:=bb) (24+a.nm.length) (by omega);have n:(8:Int)*(((24+a.nm.length+7) / 8:Nat):Int)=((cZ a:Nat):Int):=by simp only[cZ,c];omega
 rw[aZ3,show ((24:Nat):Int)=24 from rfl] at e
 have L:fA a<=4000/\8<=fA a/\fA a % 8=0:=by
  have:rG a=a.va:=by simp[rG,b]
  simp only[fA,this];omega
 have M:(Ab a).length=fA a-8:=by
  have J:=tJ a;rw[Ab,Aa,Ad h];simp only[aZa,aZg];simp only[fA];have:cZ a % 8=0:=by unfold cZ;omega
  omega
 have r:=mI (G:=G) (bb:=bb) (cZ a-24-a.nm.length) (by omega);have l:((cZ a:Nat):Int)-24-(a.nm.length:Int)=((cZ a-24-a.nm.length:Nat):Int):=by omega
 have p:Lj a=Bh a++bJ a.va.length 4++bJ (cZ a) 4:=by rw[Lj,if_pos b]
 have O:(Bh a).length=8:=by simp only[Bh,aZa,aB]
 have q:Ab a=Aa (Bh a++bJ a.va.length 4++bJ (cZ a) 4++a.nm++List.replicate (cZ a-24-a.nm.length) 0++a.va):=by rw[Ab,p,c,Ti,if_pos b]
 have o:Bh a=bJ 0 1++bJ a.nm.length 1++bJ 24 2++bJ a.fl 2++bJ a.id 2:=by rw[Bh,if_pos b,c];rfl
 have d:=Dv (G:=G) (bb:=bb) (Bh a++bJ a.va.length 4++bJ (cZ a) 4++a.nm++List.replicate (cZ a-24-a.nm.length) 0++a.va) (by simp only[aZa,aB,aZg];omega);rw[<- q] at d;have f:=mG (G:=G) (bb:=bb) ((Ab a).length+8) (by omega);rw[aZ3,show ((8:Nat):Int)=8 from rfl] at f
 have m:(8:Int)*((((Ab a).length+8+7) / 8:Nat):Int)=((fA a:Nat):Int):=by omega
 rw[o] at d;unfold gR;generalize Ab a=R at *;generalize cZ a=A at *;generalize fA a=N at *;simp (disch:=first|omega|(simp only[aZa,aZb,aZc,aY9,aB,aZg]<;>omega)) only[go_sem,h71c,b,aG,aAe,e,n,Hg,mH,qT,r,l,d,f,m,aZ9,aZg]
theorem aQp(a:aK)(h:a.Dc)(d:a.res=false):EV G (Tb (bs bb)) 71 [a.v] []=some (sv (gR a),[]):=by
 refine aA rfl ?_;obtain⟨E,F,H,I,J,K,L,M,O,l,m,n,o⟩:=h.bd;have b:¬ a.res=true:=by rw[d];decide
 have T:=h.ty;have U:=h.nl;have V:=h.id;have W:=h.fl;obtain⟨r2,g,r3,r5,r6,r7⟩:=h.f d;obtain⟨P,Q,S⟩:=Jr g;have c:tH a=40:=by simp[tH,d]
 have s:=Ad h;have i:Ti a=(jR a.rs).1++[0]:=by rw[Ti,if_neg b]
 have Z:=Js g;have x:(rG a).length=(jR a.rs).1.length+1:=by rw[<- s,i];simp
 have Y:40+a.nm.length<=cZ a/\cZ a<=2000:=by simp only[cZ,c];omega
 have j:=mG (G:=G) (bb:=bb) (40+a.nm.length) (by omega);have r:(8:Int)*(((40+a.nm.length+7) / 8:Nat):Int)=((cZ a:Nat):Int):=by simp only[cZ,c];omega
 rw[aZ3,show ((40:Nat):Int)=40 from rfl] at j
 have hs:fA a<=4000/\8<=fA a/\fA a % 8=0:=by
  simp only[fA];omega
 have hz:(Ab a).length=fA a-8:=by
  have X:=tJ a;rw[Ab,Aa,Ad h];simp only[aZa,aZg];simp only[fA];have:cZ a % 8=0:=by unfold cZ;omega
  omega
 have y:=mI (G:=G) (bb:=bb) (cZ a-40-a.nm.length) (by omega);have p:((cZ a:Nat):Int)-40-(a.nm.length:Int)=((cZ a-40-a.nm.length:Nat):Int):=by omega
 have z:=Mq (G:=G) (B:=bs bb) a.rs g;have C:=rZ (G:=G) (B:=bs bb) a.rs (by omega);have D:=Mp (G:=G) (B:=bs bb) (a.fi+gP a.rs-1) 4294967296 (by omega);have l1:(Bh a).length=8:=by simp only[Bh,aZa,aB]
 have t:Bh a=bJ 1 1++bJ a.nm.length 1++bJ 40 2++bJ a.fl 2++bJ a.id 2:=by rw[Bh,if_neg b,c];rfl
 have u:Lj a=Bh a++bJ a.fi 4++bJ ((a.fi+gP a.rs-1) % 4294967296) 4++bJ (cZ a) 2++[0,0]++bJ a.al 4++bJ a.sz 4++bJ a.vd 4:=by rw[Lj,if_neg b];rfl
 have l2:=tJ a;have w:Ab a=Aa (Lj a++a.nm++List.replicate (cZ a-40-a.nm.length) 0++((jR a.rs).1++[0])):=by rw[Ab,c,i]
 have e:=Dv (G:=G) (bb:=bb) (Lj a++a.nm++List.replicate (cZ a-40-a.nm.length) 0++((jR a.rs).1++[0])) (by simp only[aZa,aZg,List.length_singleton];omega);rw[<- w] at e;have k:=mG (G:=G) (bb:=bb) ((Ab a).length+8) (by omega);rw[aZ3,show ((8:Nat):Int)=8 from rfl] at k
 have q:(8:Int)*((((Ab a).length+8+7) / 8:Nat):Int)=((fA a:Nat):Int):=by omega
 rw[u,t] at e;unfold gR;generalize Ab a=R at *;generalize cZ a=A at *;generalize fA a=N at *;have hm:0<=(a.fi+gP a.rs-1) % 4294967296/\(a.fi+gP a.rs-1) % 4294967296<=4294967296:=by omega
 simp (disch:=first|omega|(simp only[aZa,aZb,aZc,aY9,aB,aZg]<;>omega)) only[go_sem,h71c,d,aG,aAe,j,r,Hg,mH,qT,Tj,y,p,e,k,q,z,C,D,aZ9,aZg]
theorem aG7(a:aK)(h:a.Dc):EV G (Tb (bs bb)) 71 [a.v] []=some (sv (gR a),[]):=by
 cases b:a.res with
 |true=>exact aQo a h b
 |false=>exact aQp a h b
end
section
variable {G:aE}{bb:Bool}
def Em(s:L Int):Nat->Nat
 |0=>0
 |k+1=>Em s k+1+(s.getD (Em s k) 0 % 16+s.getD (Em s k) 0 / 16).toNat
noncomputable def raE(s:L Int):Nat:=ix (fun k=>s.length<=Em s k\/s.getD (Em s k) 0=0) (s.length+1)
noncomputable def raV(s:L Int):L Int:=if Em s (raE s)<s.length then s.take (Em s (raE s)+1) else s
theorem Xf(s:L Int):∀k,k<=Em s k
 |0=>aZe _
 |k+1=>by have:=Xf s k;rw[Em];omega
theorem aG9(s:L Int):(s.length<=Em s (raE s)\/s.getD (Em s (raE s)) 0=0)/\∀j,j<raE s->Em s j<s.length/\s.getD (Em s j) 0≠0:=by
 obtain⟨c,a,h3⟩:=bI (fun k=>s.length<=Em s k\/s.getD (Em s k) 0=0) (s.length+1)
 refine⟨?_,fun j b=>?_⟩
 rcases a with a|a;have:=Xf s (raE s);exact .inl (by unfold raE at *;omega)
 exact a.2;have:=h3 j b;exact⟨by omega,fun h=>this (.inr h)⟩
theorem aHa(s:L Int)(i:aH s)(o:s.length<=1000000):EV G (Tb (bs bb)) 221 [sv s] []=some (sv (raV s),[]):=by
 refine aA rfl ?_;simp (disch:=first|omega|(simp only[aZa,aZb,aZc,aY9,aB];omega)) only[go_sem,h221c]
 obtain⟨f,g⟩:=aG9 s;rw[aQ (fun k=>⟨(sv s::jk 2 (vi (Em s k)::jk 24 [])),[]⟩) (raE s) ?_ ?_]
 rotate_left
 rfl;intro k n;obtain⟨b,a⟩:=g k n;have e:=i _ (aZk b);rw[bW s _ b] at a;have m:(Em s (k+1):Int)=Em s k+(1+s[Em s k] % 16+s[Em s k] / 16):=by
  rw[Em,bW s _ b];omega
 have d:=iB _ e;rw[m];generalize hp:Em s k=p at *;have j:=aNF (s[p]'b) e;simp (disch:=first|omega|(simp only[aZa,aZb,aZc,aY9,aB];omega)) only[go_sem,h221l0,aZu,d,a,j,Int.reduceToNat,Int.reducePow,E8]
 unfold raV;generalize Em s (raE s)=p at *;by_cases c:p<s.length;rw[if_pos c];have a:s.getD p 0=0:=f.elim (fun h=>absurd h (by omega)) id
 have e:=i _ (aZk c);rw[bW s _ c] at a;have d:=iB _ e;rw[a] at d;simp (disch:=first|omega|(simp only[aZa,aZb,aZc,aY9,aB];omega)) only[go_sem,h221l0,aZu,d,a]
 rw[if_neg c];have l:¬ (p:Int)<(s.length:Int):=by omega
 simp (disch:=first|omega|(simp only[aZa,aZb,aZc,aY9,aB];omega)) only[go_sem,h221l0,l]
theorem aHb{s:L Int}(h:aH s):aH (raV s):=by
 unfold raV;split;exact fun b a=>h b (aZA a)
 exact h
def Cg(s:L Int):Bool:=decide (s.getD 8 0=0)
def M4(s:L Int):Nat:=if Cg s=true then 24 else 40
def rI(s:L Int):Nat:=(gL s 9 1).toNat
def eY(s:L Int):Nat:=(M4 s+rI s+7) / 8*8
def Pv(s:L Int):L Int:=(s.take (M4 s+rI s)).drop (M4 s)
def Qs(s:L Int):Nat:=(gL s 16 4).toNat
def dT(s:L Int):aK:=⟨gL s 0 4,Pv s,gL s 14 2,gL s 12 2,true,(s.take (eY s+Qs s)).drop (eY s),0,[],0,0,0⟩
noncomputable def dF(s:L Int)(a:L aV):aK:=⟨gL s 0 4,Pv s,gL s 14 2,gL s 12 2,false,[],gL s 16 4,a,gL s 28 4,gL s 32 4,gL s 36 4⟩
noncomputable def rJ(s:L Int):aK×Bool:=if s.length<24 then (aK.nil,false) else if s.length<eY s then (aK.nil,false) else
 if Cg s=true then (if s.length<eY s+Qs s then (aK.nil,false) else (dT s,true)) else (dF s (nV (raV (s.drop (eY s)))).1,decide ((nV (raV (s.drop (eY s)))).2=0))
theorem aCN(s:L Int)(e:aH s)(N:s.length<=1000):EV G (Tb (bs bb)) 168 [sv s] []=some (.tup [(rJ s).1.t,.one (bC (rJ s).2)],[]):=by
 refine aA rfl ?_;unfold rJ;by_cases C:s.length<24;rw[if_pos C];have c:(s.length:Int)<24:=by omega
 simp only[aK.nil];simp (disch:=first|omega|(simp only[aZa,aZb,aZc,aY9,aB];omega)) only[go_sem,h168c,eq_true c,aG,bC,aZm]
 rfl;rw[if_neg C];have c:¬ (s.length:Int)<24:=by omega
 have q:EV G (Tb (bs bb)) 217 [sv s,vi 0,vi 4] []=some (vi (gL s 0 4),[]):=Gb s e 0 4 (by omega) (by omega) (by omega);have g:EV G (Tb (bs bb)) 217 [sv s,vi 14,vi 2] []=some (vi (gL s 14 2),[]):=Gb s e 14 2 (by omega) (by omega) (by omega);have f:EV G (Tb (bs bb)) 217 [sv s,vi 12,vi 2] []=some (vi (gL s 12 2),[]):=Gb s e 12 2 (by omega) (by omega) (by omega);have m:EV G (Tb (bs bb)) 217 [sv s,vi 9,vi 1] []=some (vi (gL s 9 1),[]):=Gb s e 9 1 (by omega) (by omega) (by omega);have h:EV G (Tb (bs bb)) 217 [sv s,vi 16,vi 4] []=some (vi (gL s 16 4),[]):=Gb s e 16 4 (by omega) (by omega) (by omega);have A:=Pt e 9;have r:=lC e 16 4 (by omega);have J:=e _ (aZk (show 8<s.length by omega));have n:=iB _ J;have E:s.getD 8 0=s[8]:=bW s 8 (by omega);cases i:Cg s with
 |true=>
  have d:s[8]=0:=by unfold Cg at i;rw[E] at i;simpa using i
  rw[d] at n;have p:M4 s=24:=by unfold M4;rw[i];rfl
  have v:gL s 9 1=(rI s:Int):=by unfold rI;omega
  have u:gL s 16 4=(Qs s:Int):=by unfold Qs;omega
  have H:eY s=(24+rI s+7) / 8*8:=by unfold eY;rw[p]
  have j:=A1 (G:=G) (bb:=bb) (24+(rI s:Int)) (by omega);have l:al8 (24+(rI s:Int))=(eY s:Int):=by unfold al8;omega
  rw[l] at j;rw[v] at m A;by_cases o:s.length<eY s;rw[if_pos o];have a:(s.length:Int)<(eY s:Int):=by omega
  simp only[aK.nil];simp (disch:=first|omega|(simp only[aZa,aZb,aZc,aY9,aB];omega)) only[go_sem,h168c,c,aG,bC,aZm,Int.reduceToNat,q,g,f,m,aZu,n,d,Cb,j,eq_true a]
  rfl;rw[if_neg o];have a:¬ (s.length:Int)<(eY s:Int):=by omega
  rw[u] at h r;by_cases D:s.length<eY s+Qs s;rw[if_pos D];have k:(s.length:Int)-(eY s:Int)<(Qs s:Int):=by omega
  simp only[aK.nil];simp (disch:=first|omega|(simp only[aZa,aZb,aZc,aY9,aB];omega)) only[go_sem,h168c,c,aG,bC,aZm,Int.reduceToNat,q,g,f,m,aZu,n,d,Cb,j,a,h,eq_true k]
  rfl;rw[if_neg D];have k:¬ (s.length:Int)-(eY s:Int)<(Qs s:Int):=by omega
  simp (disch:=first|omega|(simp only[aZa,aZb,aZc,aY9,aB];omega)) only[go_sem,h168c,c,aG,bC,aZm,Int.reduceToNat,q,g,f,m,aZu,n,d,Cb,j,a,h,k]
  have w:(24+(rI s:Int)).toNat=24+rI s:=by omega
  rw[w];unfold dT Pv;rw[p];rfl
 |false=>
  have d:¬ s[8]=0:=by unfold Cg at i;rw[E] at i;simpa using i
  have p:M4 s=40:=by unfold M4;rw[i];rfl
  have v:gL s 9 1=(rI s:Int):=by unfold rI;omega
  have H:eY s=(40+rI s+7) / 8*8:=by unfold eY;rw[p]
  have j:=A1 (G:=G) (bb:=bb) (40+(rI s:Int)) (by omega);have l:al8 (40+(rI s:Int))=(eY s:Int):=by unfold al8;omega
  rw[l] at j;rw[v] at m A;by_cases o:s.length<eY s;rw[if_pos o];have a:(s.length:Int)<(eY s:Int):=by omega
  simp only[aK.nil];simp (disch:=first|omega|(simp only[aZa,aZb,aZc,aY9,aB];omega)) only[go_sem,h168c,c,aG,bC,aZm,Int.reduceToNat,q,g,f,m,aZu,n,d,Cb,j,eq_true a]
  rfl;rw[if_neg o];have a:¬ (s.length:Int)<(eY s:Int):=by omega
  have x:EV G (Tb (bs bb)) 217 [sv s,vi 28,vi 4] []=some (vi (gL s 28 4),[]):=Gb s e 28 4 (by omega) (by omega) (by omega);have y:EV G (Tb (bs bb)) 217 [sv s,vi 32,vi 4] []=some (vi (gL s 32 4),[]):=Gb s e 32 4 (by omega) (by omega) (by omega);have z:EV G (Tb (bs bb)) 217 [sv s,vi 36,vi 4] []=some (vi (gL s 36 4),[]):=Gb s e 36 4 (by omega) (by omega) (by omega);have F:aH (s.drop (eY s)):=fun b I=>e b (aZM I)
  have K:=aHa (G:=G) (bb:=bb) (s.drop (eY s)) F (by rw[aZh];omega);have M:=aGu (G:=G) (B:=bs bb) (raV (s.drop (eY s))) (aHb F);simp (disch:=first|omega|(simp only[aZa,aZb,aZc,aY9,aB];omega)) only[go_sem,h168c,c,aG,bC,aZm,Int.reduceToNat,q,g,f,m,aZu,n,d,Cb,j,a,h,x,y,z,K,M]
  have w:(40+(rI s:Int)).toNat=40+rI s:=by omega
  rw[w];unfold dF Pv;rw[p]
theorem J1{s:L Int}(h:(nV s).2=0):(nC (nV s).1).2=0:=by
 unfold nV at h ⊢;split at h;exact absurd h (by decide);rename_i c;rw[if_neg c];unfold qM at h ⊢;split at h;exact absurd h (by decide);rename_i b;rw[if_neg b];split at h;rename_i a;exact absurd h a;rename_i a;rw[if_neg a];exact Classical.not_not.1 a
theorem Pw{s:L Int}(a:aH s)(q:s.length<=1000)(h:(rJ s).2=true):(rJ s).1.Dc:=by
 unfold rJ at h ⊢;split at h;cases h;rename_i l;rw[if_neg l];split at h;cases h;rename_i m;rw[if_neg m];have p:=Pt a 9;have k:=lC a 0 4 (by omega);have d:=Cf a 14;have c:=Cf a 12;have f:aH (Pv s):=fun b i=>a b (aZA (aZM i))
 have e:(Pv s).length<=255:=by
  unfold Pv;rw[aZh,aZd];unfold rI;omega
 split at h;rename_i j;rw[if_pos j];split at h;cases h
 rename_i n;rw[if_neg n];exact⟨k,f,e,d,c,fun b i=>a b (aZA (aZM i)),by
  show ((s.take (eY s+Qs s)).drop (eY s)).length<=1000;rw[aZh,aZd];omega,fun _=>⟨rfl,rfl,rfl,rfl,rfl⟩,fun g=>(by cases g)⟩
 rename_i j;rw[if_neg j];have o:=J1 (by simpa using h);exact⟨k,f,e,d,c,jV,aZx _,fun g=>(by cases g),fun _=>⟨rfl,o,lC a 16 4 (by omega),lC a 28 4 (by omega),lC a 32 4 (by omega),lC a 36 4 (by omega)⟩⟩
theorem bT{a b:L Int}(c:aH a)(d:aH b):aH (a++b):=fun x e=>(bAB.1 e).elim (c x) (d x)
theorem J2(n:Nat):aH (List.replicate n 0):=fun x a=>by rw[List.eq_of_mem_replicate a];omega
theorem M5:∀(l:L aV)(a:Int),aH (dQ a l)
 |[],_=>jV
 | r::l,a=>by
  have c:=Ac r.n;have d:=Ac (r.s - a);rw[dQ,tL];refine bT (fun x b=>?_) (M5 l _)
  rcases bAl.1 b with rfl | b
  ·unfold uG;split<;>omega
  ·unfold D3 at b;split at b
   ·exact cW _ _ x b
   ·exact bT (cW _ _) (cW _ _) x b
theorem D4{a:aK}(h:a.Dc):aH (gR a):=by
 have d:aH (Ti a):=by
  unfold Ti;split;exact h.va;exact bT (by rw[Fb];exact M5 _ _) (Jn _ (by decide))
 have b:aH (Bh a):=by unfold Bh;exact bT (bT (bT (bT (cW _ _) (cW _ _)) (cW _ _)) (cW _ _)) (cW _ _)
 have c:aH (Lj a):=by
  unfold Lj;split;exact bT (bT b (cW _ _)) (cW _ _);exact bT (bT (bT (bT (bT (bT (bT b (cW _ _)) (cW _ _)) (cW _ _)) (J2 _)) (cW _ _)) (cW _ _)) (cW _ _)
 unfold gR Ab Aa;exact bT (bT (cW _ _) (cW _ _)) (bT (bT (bT (bT c h.nm) (J2 _)) d) (J2 _))
theorem aK.Dc.w{a:aK}(h:a.Dc):a.W:=by
 have c:=h.nl;have d:=h.vl;refine⟨h.nm,h.va,by omega,by omega,?_⟩;cases b:a.res with
 |true=>rw[(h.t b).1];simp
 |false=>have:=oW (h.f b).2.1;omega
noncomputable def bO(s:L Int):aK×Int:=if s.length > 440 then (aK.nil,8) else
 if (rJ s).2=false\/uE (rJ s).1≠s then (aK.nil,3) else if iL (rJ s).1≠0 then (aK.nil,iL (rJ s).1) else ((rJ s).1,0)
theorem aCO(s:L Int)(k:aH s)(n:s.length<=1000):EV G (Tb (bs bb)) 114 [sv s] []=some (rtv (bO s),[]):=by
 refine aA rfl ?_;unfold bO;by_cases m:s.length > 440;rw[if_pos m];have c:440<(s.length:Int):=by omega
 simp only[aK.nil];simp (disch:=first|omega|(simp only[aZa,aZb,aZc,aY9,aB];omega)) only[go_sem,h114c,eq_true c,aG,aZm]
 rfl;rw[if_neg m];have c:¬ 440<(s.length:Int):=by omega
 have q:=aCN (G:=G) (bb:=bb) s k n;have f:=Pw k n;generalize rJ s=d at q f ⊢;obtain⟨a,b⟩:=d;cases b with
 |false=>
  rw[if_pos (.inl rfl)];simp only[aK.nil];simp (disch:=first|omega|(simp only[aZa,aZb,aZc,aY9,aB];omega)) only[go_sem,h114c,c,aG,aZm,q,bC]
  rfl
 |true=>
  have h:=f rfl;simp only at h;have l:=E6 (G:=G) (bb:=bb) a h.bd;have o:=Du (G:=G) (bb:=bb) a h.w;have e:=dA (a:=uE a) (b:=s) (by rw[Ae h];exact D4 h) k;by_cases i:uE a=s;rw[if_neg (fun g=>g.elim (fun g=>by cases g) (fun g=>g i))]
  rw[eq_true i] at e;by_cases j:iL a=0;rw[if_neg (fun g=>g j)]
  simp (disch:=first|omega|(simp only[aZa,aZb,aZc,aY9,aB];omega)) only[go_sem,h114c,c,aG,q,bC,l,e,o,j]
  rw[if_pos j];simp only[aK.nil];simp (disch:=first|omega|(simp only[aZa,aZb,aZc,aY9,aB];omega)) only[go_sem,h114c,c,aG,aZm,q,bC,l,e,o,j]
  rfl;rw[if_pos (.inr i)];rw[eq_false i] at e;simp only[aK.nil];simp (disch:=first|omega|(simp only[aZa,aZb,aZc,aY9,aB];omega)) only[go_sem,h114c,c,aG,aZm,q,bC,l,e]
  rfl
end
section
variable {G:aE}{bb:Bool}
noncomputable def Ch(s:L Int):Nat:=ix (fun j=>(nV ((s.take (eY s+j)).drop (eY s))).2=0) (s.length-eY s+1)
noncomputable def rsR(s:L Int):L aV:=(nV ((s.take (eY s+Ch s)).drop (eY s))).1
def Tx(a:aK)(s:L Int):aK×Int:=if gR a≠s then (aK.nil,3) else if iL a≠0 then (aK.nil,iL a) else (a,0)
def aCP(s:L Int):Prop:=s.length<24\/1<s.getD 8 0\/(s.getD 8 0=1/\s.length<40)
open Classical in
noncomputable def J3(s:L Int):aK×Int:=if s.length > 440 then (aK.nil,8) else if aCP s then (aK.nil,3) else
 if s.length<M4 s+rI s then (aK.nil,3) else if s.length<eY s then (aK.nil,3) else
 if Cg s=true then (if s.length<eY s+Qs s then (aK.nil,3) else Tx (dT s) s) else if Ch s=s.length-eY s+1 then (aK.nil,3) else Tx (dF s (rsR s)) s
def dFc(s:L Int)(x:aU):L aU:=[.dc (ci (gL s 0 4)),.dc (.raw (.string (fF (Pv s)))),.dc (ci (gL s 14 2)),.dc (ci (gL s 12 2)),.dc (.raw (.bool false)),.dc (.raw (.string (fF []))),.dc (ci (gL s 16 4)),x,.dc (ci (gL s 28 4)),.dc (ci (gL s 32 4)),.dc (ci (gL s 36 4))]
theorem Px{s:L Int}(a:aH s):aH (Pv s)/\(Pv s).length<=255:=by
 have d:=Pt a 9;refine⟨fun b c=>a b (aZA (aZM c)),?_⟩
 unfold Pv;rw[aZh,aZd];unfold rI;omega
theorem aNJ{s:L Int}(a:aH s)(d:s.length<=1000):(dT s).Dc:=
 ⟨lC a 0 4 (by omega),(Px a).1,(Px a).2,Cf a 14,Cf a 12,fun b c=>a b (aZA (aZM c)),by
  show ((s.take (eY s+Qs s)).drop (eY s)).length<=1000;rw[aZh,aZd];omega,fun _=>⟨rfl,rfl,rfl,rfl,rfl⟩,fun g=>(by cases g)⟩
theorem aNK{s:L Int}(a:aH s){b:L aV}(h:(nC b).2=0):(dF s b).Dc:=
 ⟨lC a 0 4 (by omega),(Px a).1,(Px a).2,Cf a 14,Cf a 12,jV,aZx _,fun g=>(by cases g),fun _=>⟨rfl,h,lC a 16 4 (by omega),lC a 28 4 (by omega),lC a 32 4 (by omega),lC a 36 4 (by omega)⟩⟩
theorem Tz{s:L Int}(a:aH s)(k:Nat):aH ((s.take (eY s+k)).drop (eY s)):=fun b c=>a b (aZA (aZM c))
theorem aAr{s:L Int}(b:aH s)(g:s.length<=1000)(k:Nat)(f:k<s.length-eY s+1)(d:¬ s.length<eY s)(a:¬ (nV ((s.take (eY s+k)).drop (eY s))).2=0):K7 [0,1,1,0,1,1,0] 2 (EC (EV G (Tb (bs bb))) G h69l0 ⟨(sv s::jk 1 (.one (.ptr 0 0)::jk 1 (vi 3::.one (.ptr 1 0)::jk 1 (vi (eY s)::jk 1 (vb false::vi ((eY s:Int)+k)::jk 143 []))))),[.box Pg,.box (dFc s (cN (.slice none 0 0)))]⟩)=some ⟨(sv s::jk 1 (.one (.ptr 0 0)::jk 1 (vi 3::.one (.ptr 1 0)::jk 1 (vi (eY s)::jk 1 (vb false::vi ((eY s:Int)+(k+1:Nat))::jk 143 []))))),[.box Pg,.box (dFc s (cN (.slice none 0 0)))]⟩:=by
 have q:=My (G:=G) (B:=bs bb) _ (Tz b k);generalize nV ((s.take (eY s+k)).drop (eY s))=r at q a;obtain⟨h,e⟩:=r;simp only at a q;have c:(eY s:Int)+(k:Int)<=(s.length:Int):=by omega
 unfold dFc;simp (disch:=first|omega|(simp only[aZa,aZb,aZc,aY9,aB];omega)) only[go_sem,h69l0,eq_true c,q,a]
theorem aU7{s:L Int}(c:aH s)(e:s.length<=1000)(a:¬ s.length<eY s)(g:Ch s=s.length-eY s+1){st:AS}(b:st=⟨(sv s::jk 1 (.one (.ptr 0 0)::jk 1 (vi 3::.one (.ptr 1 0)::jk 1 (vi (eY s)::jk 1 (vb false::vi ((eY s:Int)+(0:Nat))::jk 143 []))))),[.box Pg,.box (dFc s (cN (.slice none 0 0)))]⟩):EL (EV G (Tb (bs bb))) G h69l0 [0,1,1,0,1,1,0] 2 st=fnK (EV G (Tb (bs bb))) G h69l0 [0,1,1,0,1,1,0] 2 (EC (EV G (Tb (bs bb))) G h69l0 ⟨(sv s::jk 1 (.one (.ptr 0 0)::jk 1 (vi 3::.one (.ptr 1 0)::jk 1 (vi (eY s)::jk 1 (vb false::vi ((eY s:Int)+((s.length-eY s+1:Nat):Int))::jk 143 []))))),[.box Pg,.box (dFc s (cN (.slice none 0 0)))]⟩):=by
 obtain⟨h,i,f⟩:=bI (fun j=>(nV ((s.take (eY s+j)).drop (eY s))).2=0) (s.length-eY s+1)
 exact aQ (fun k=>⟨(sv s::jk 1 (.one (.ptr 0 0)::jk 1 (vi 3::.one (.ptr 1 0)::jk 1 (vi (eY s)::jk 1 (vb false::vi ((eY s:Int)+(k:Int))::jk 143 []))))),[.box Pg,.box (dFc s (cN (.slice none 0 0)))]⟩) (s.length-eY s+1) b (fun k d=>aAr c e k d a (f k (by unfold Ch at g;omega)))
theorem aU8{s:List Int}(d:aH s)(p:s.length<=1000)(l:¬ s.length<eY s)(u:¬ Ch s=s.length-eY s+1){st:AS}(o:st=⟨(sv s::jk 1 (.one (.ptr 0 0)::jk 1 (vi 3::.one (.ptr 1 0)::jk 1 (vi (eY s)::jk 1 (vb false::vi ((eY s:Int)+(0:Nat))::jk 143 []))))),[.box Pg,.box (dFc s (cN (.slice none 0 0)))]⟩):EL (EV G (Tb (bs bb))) G h69l0 [0,1,1,0,1,1,0] 2 st=fnK (EV G (Tb (bs bb))) G h69l0 [0,1,1,0,1,1,0] 2 (EC (EV G (Tb (bs bb))) G h69l0 ⟨(sv s::jk 1 (.one (.ptr 0 0)::jk 1 (vi 3::.one (.ptr 1 0)::jk 1 (vi (eY s)::jk 1 (vb true::vi ((eY s:Int)+((Ch s+1:Nat):Int))::jk 143 []))))),[.box Pg,.box (dFc s (.dc (.slc ((rsR s).map aV.e))))]⟩):=by
 obtain⟨w,r,t⟩:=bI (fun j=>(nV ((s.take (eY s+j)).drop (eY s))).2=0) (s.length-eY s+1)
 have f:Ch s<s.length-eY s+1/\(nV ((s.take (eY s+Ch s)).drop (eY s))).2=0:=r.elim (fun h=>absurd h u) id
 have g:∀ j,j < Ch s->¬ (nV ((s.take (eY s+j)).drop (eY s))).2=0:=t;have b:(nV ((s.take (eY s+Ch s)).drop (eY s))).1=rsR s:=rfl;generalize Ch s=J at f g b ⊢;have e:=aQ (call:=EV G (Tb (bs bb))) (G:=G) (a:=h69l0) (L:=[0,1,1,0,1,1,0]) (m:=2) (fun k=>if k<=J then ⟨(sv s::jk 1 (.one (.ptr 0 0)::jk 1 (vi 3::.one (.ptr 1 0)::jk 1 (vi (eY s)::jk 1 (vb false::vi ((eY s:Int)+(k:Int))::jk 143 []))))),[.box Pg,.box (dFc s (cN (.slice none 0 0)))]⟩ else ⟨(sv s::jk 1 (.one (.ptr 0 0)::jk 1 (vi 3::.one (.ptr 1 0)::jk 1 (vi (eY s)::jk 1 (vb true::vi ((eY s:Int)+(k:Int))::jk 143 []))))),[.box Pg,.box (dFc s (.dc (.slc ((rsR s).map aV.e))))]⟩) (J+1) (o.trans (if_pos (aZx _)).symm) (fun k v=>by
  by_cases c:k < J
  ·rw[if_pos (by omega),if_pos (by omega)];exact aAr d p k (by omega) l (g k c)
  ·have n:k=J:=by omega
   subst n;rw[if_pos (aZe _),if_neg (by omega)];have q:=My (G:=G) (B:=bs bb) _ (Tz d k);rw[f.2,b] at q;have i:(eY s:Int)+(k:Int)<=(s.length:Int):=by omega
   unfold dFc;simp (disch:=first | omega | (simp only[aZa,aZb,aZc,aY9,aB];omega)) only[go_sem,h69l0,eq_true i,q])
 rw[if_neg (by omega)] at e;exact e
end
section
variable {G:aE}{bb:Bool}
theorem D5:∀(a b:L aV)(c:Int),dQ c (a++b)=dQ c a++dQ (a.foldl Hi c) b
 |[],_,_=>rfl
 |r::a,b,c=>by rw[aZp,dQ,D5 a b,dQ,aZr];rfl
theorem aHc(a:Int)(r:aV):(uG a r % 16+uG a r / 16).toNat=(D3 a r).length:=by
 have b:=Ac r.n;have c:=Ac (r.s-a);unfold uG D3;split;rw[aB];omega;rw[aZa,aB,aB];omega
theorem M6(p L:List Int):(p++L).getD p.length 0=L.getD 0 0:=by
 rw[aZo,aZo,aZD (aZe _),aZ1]
theorem Py(l:L aV)(a:L Int):∀k,k<=l.length->Em (dQ 0 l++([0]++a)) k=(dQ 0 (l.take k)).length/\∀j,j<k->(dQ 0 l++([0]++a)).getD (Em (dQ 0 l++([0]++a)) j) 0≠0
 |0,_=>⟨rfl,fun j i=>by omega⟩
 | k+1,m=>by
  obtain⟨e,h⟩:=Py l a k (by omega);have b:k < l.length:=by omega
  have f:l=l.take k++(l[k]::l.drop (k+1)):=by rw[<- aZ4 b,bAc]
  have g:dQ 0 l=dQ 0 (l.take k)++(uG ((l.take k).foldl Hi 0) l[k]::(D3 ((l.take k).foldl Hi 0) l[k]++dQ (Hi ((l.take k).foldl Hi 0) l[k]) (l.drop (k+1)))):=by
   conv=>lhs;rw[f]
   rw[D5,dQ,tL];rfl
  have d:(dQ 0 l++([0]++a)).getD (Em (dQ 0 l++([0]++a)) k) 0=uG ((l.take k).foldl Hi 0) l[k]:=by
   rw[e]
   conv=>lhs;rw[g]
   rw[aZr,M6];rfl
  refine⟨?_,fun j i=>?_⟩
  ·rw[Em,d,aHc,e,aZ5 b,D5,aZa];show _=_+(dQ _ [l[k]]).length;simp only[dQ,tL,aZ9,aZb];omega
  ·by_cases c:j < k
   ·exact h j c
   ·have:j=k:=by omega
    subst this;rw[d];exact Pp _ _
theorem aLN(l:L aV)(a:L Int):raV ((jR l).1++[0]++a)=(jR l).1++[0]:=by
 rw[Fb,aZr];obtain⟨b,f⟩:=Py l a l.length (aZe _);rw[aZO] at b;have k:=Xf (dQ 0 l++([0]++a)) l.length;have d:(dQ 0 l++([0]++a)).length=(dQ 0 l).length+1+a.length:=by simp only[aZa,aZb,aZc];omega
 have i:(dQ 0 l++([0]++a)).getD (dQ 0 l).length 0=0:=by rw[M6];rfl
 have e:∀ j,j<=l.length->Em (dQ 0 l++([0]++a)) j < (dQ 0 l++([0]++a)).length:=fun j c=>by
  have h3:=(Py l a j c).1;have:(dQ 0 (l.take j)).length<=(dQ 0 l).length:=by
   conv=>rhs;rw[<- bAc j l,D5,aZa]
   omega
  omega
 have h:raE (dQ 0 l++([0]++a))=l.length:=by
  unfold raE;refine aAn (by omega) (.inr (by rw[b];exact i)) (fun j c g=>?_)
  rcases g with g|g;have:=e j (by omega);omega
  exact f j c g
 unfold raV;rw[h,if_pos (e _ (aZe _)),b];rw[<- aZr,bAo (by simp)]
theorem pH(p L:List Int)(k:Nat)(h:p.length<=k):(p++L).drop k=L.drop (k-p.length):=by
 rw[List.drop_append,List.drop_of_length_le h,aZn]
theorem Hj(L:List Int)(k:Nat)(h:k=0):L.drop k=L:=by subst h;rfl
theorem aAs(s:L Int)(k:Nat)(h:k<s.length):s.getD k 0=gL s k 1:=by
 rw[bW s k h];unfold gL;rw[aZ4 h,bAt,bAg];show s[k]=s[k]+256*0;omega
theorem pY(z L:List Int)(a k:Nat)(b:a=0)(h:z.length=k):gL (z++L) a k=gv z:=by subst b;exact Pu z L k h
theorem shT{a:aK}(h:a.Dc)(c:a.res=true):gR a=bJ a.ty 4++(bJ (fA a) 4++(bJ 0 1++(bJ a.nm.length 1++(bJ 24 2++(bJ a.fl 2++(bJ a.id 2++(bJ a.va.length 4++(bJ (cZ a) 4++(a.nm++(List.replicate (cZ a-24-a.nm.length) 0++(a.va++List.replicate (fA a-cZ a-a.va.length) 0))))))))))):=by
 obtain⟨l,g,i,j,k⟩:=Ga a;have d:tH a=24:=by simp[tH,c]
 have b:rG a=a.va:=by simp[rG,c]
 have f:=Ad h;rw[d] at g;rw[b] at i k;unfold gR Ab Lj Bh Aa;rw[if_pos c,if_pos c,d,f,b];simp only[aZr];simp only[aZa,aB,aZg];have e:=aG3 (1+(1+(2+(2+(2+(4+(4+(a.nm.length+((cZ a-24-a.nm.length)+a.va.length))))))))) (fA a) (fA a-cZ a-a.va.length) (by omega) j (by omega);rw[e];rfl
theorem shF{a:aK}(h:a.Dc)(e:a.res=false):gR a=bJ a.ty 4++(bJ (fA a) 4++(bJ 1 1++(bJ a.nm.length 1++(bJ 40 2++(bJ a.fl 2++(bJ a.id 2++(bJ a.fi 4++(bJ (a.fi+gP a.rs-1) 4++(bJ (cZ a) 2++(List.replicate 2 0++(bJ a.al 4++(bJ a.sz 4++(bJ a.vd 4++(a.nm++(List.replicate (cZ a-40-a.nm.length) 0++(((jR a.rs).1++[0])++List.replicate (fA a-cZ a-(rG a).length) 0)))))))))))))))):=by
 obtain⟨m,k,f,l,g⟩:=Ga a;have b:¬ a.res=true:=by rw[e];decide
 have d:tH a=40:=by simp[tH,e]
 have j:=Ad h;have c:Ti a=(jR a.rs).1++[0]:=by rw[Ti,if_neg b]
 rw[<- j,c] at f g ⊢;rw[d] at k;unfold gR Ab Lj Bh Aa;rw[if_neg b,if_neg b,d,c,aAo];simp only[aZr];simp only[aZa,aB,aZg] at f g ⊢;have i:=aG3 (1+(1+(2+(2+(2+(4+(4+(2+(2+(4+(4+(4+(a.nm.length+((cZ a-40-a.nm.length)+((jR a.rs).1.length+[(0:Int)].length))))))))))))))) (fA a) (fA a-cZ a-((jR a.rs).1.length+[(0:Int)].length)) (by omega) l (by omega);rw[i];rfl
theorem aU9{a:aK}(h:a.Dc)(d:a.res=true):Cg (gR a)=true/\eY (gR a)=cZ a/\rI (gR a)=a.nm.length/\Qs (gR a)=a.va.length/\(gR a).getD 8 0=0/\dT (gR a)=a/\(gR a).length=fA a/\24+a.nm.length<=cZ a/\cZ a+a.va.length<=fA a:=by
 obtain⟨I,w,x,J,D⟩:=Ga a;have u:tH a=24:=by simp[tH,d]
 have i:rG a=a.va:=by simp[rG,d]
 rw[u] at w;rw[i] at x D;have f:(gR a).length=fA a:=by rw[<- Ae h,nU a h.bd]
 have l:=h.ty;have B:=h.nl;have k:=h.id;have j:=h.fl;have C:=h.vl;have c:=shT h d;have H:gL (gR a) 8 1=0:=by
  rw[c];simp (disch:=first|omega|(simp only[aB]<;>omega)|fail) only[iM,pY,aB,Nat.reduceSub]
  rfl
 have r9:gL (gR a) 9 1=a.nm.length:=by
  rw[c];simp (disch:=first|omega|(simp only[aB]<;>omega)|fail) only[iM,pY,aB,Nat.reduceSub]
  exact gv1 _ (by omega)
 have E:gL (gR a) 0 4=a.ty:=by
  rw[c];simp (disch:=first|omega|(simp only[aB]<;>omega)|fail) only[iM,pY,aB,Nat.reduceSub]
  exact gv4 _ l
 have m:gL (gR a) 12 2=a.fl:=by
  rw[c];simp (disch:=first|omega|(simp only[aB]<;>omega)|fail) only[iM,pY,aB,Nat.reduceSub]
  exact gv2 _ j
 have n:gL (gR a) 14 2=a.id:=by
  rw[c];simp (disch:=first|omega|(simp only[aB]<;>omega)|fail) only[iM,pY,aB,Nat.reduceSub]
  exact gv2 _ k
 have F:gL (gR a) 16 4=a.va.length:=by
  rw[c];simp (disch:=first|omega|(simp only[aB]<;>omega)|fail) only[iM,pY,aB,Nat.reduceSub]
  exact gv4 _ (by omega)
 have b:(gR a).drop 24=a.nm++(List.replicate (cZ a-24-a.nm.length) 0++(a.va++List.replicate (fA a-cZ a-a.va.length) 0)):=by
  rw[c];simp (disch:=first|omega|(simp only[aB]<;>omega)|fail) only[pH,Hj,aB,Nat.reduceSub]
 have o:(gR a).drop (cZ a)=a.va++List.replicate (fA a-cZ a-a.va.length) 0:=by
  have e:(gR a).drop (cZ a)=((gR a).drop 24).drop (cZ a-24):=by rw[aZ6];congr 1;omega
  rw[e,b,pH _ _ _ (by omega),pH _ _ _ (by rw[aZg];omega),Hj _ _ (by rw[aZg];omega)]
 have v:(gR a).getD 8 0=0:=by rw[aAs _ _ (by omega),H]
 have r:Cg (gR a)=true:=by unfold Cg;rw[v];rfl
 have q:M4 (gR a)=24:=by unfold M4;rw[r];rfl
 have g:rI (gR a)=a.nm.length:=by unfold rI;omega
 have p:eY (gR a)=cZ a:=by unfold eY;rw[q,g];unfold cZ;rw[u]
 have s:Qs (gR a)=a.va.length:=by unfold Qs;omega
 have A:Pv (gR a)=a.nm:=by unfold Pv;rw[q,g,bAn,b,show 24+a.nm.length-24=a.nm.length by omega,bAo];rfl
 refine⟨r,p,g,s,v,?_,f,w,x⟩;obtain⟨t1,y,t3,z,t5⟩:=h.t d;unfold dT;rw[A,p,s,E,m,n,bAn,o,show cZ a+a.va.length-cZ a=a.va.length by omega,bAo rfl];cases a;simp only at d t1 y t3 z t5;subst d;subst t1;subst y;subst t3;subst z;subst t5;rfl
theorem aVa{a:aK}(h:a.Dc)(d:a.res=false):Cg (gR a)=false/\eY (gR a)=cZ a/\rI (gR a)=a.nm.length/\(gR a).getD 8 0=1/\dF (gR a) a.rs=a/\(gR a).drop (cZ a)=((jR a.rs).1++[0])++List.replicate (fA a-cZ a-(rG a).length) 0/\ (gR a).length=fA a/\40+a.nm.length<=cZ a/\cZ a+((jR a.rs).1.length+1)<=fA a:=by
 obtain⟨N,y,O,P,Q⟩:=Ga a;have v:tH a=40:=by simp[tH,d]
 have H:=Ad h;have B:Ti a=(jR a.rs).1++[0]:=by rw[Ti,if_neg (by rw[d];decide)]
 have I:(rG a).length=(jR a.rs).1.length+1:=by rw[<- H,B];simp
 rw[v] at y;have g:(gR a).length=fA a:=by rw[<- Ae h,nU a h.bd]
 have l:=h.ty;have J:=h.nl;have k:=h.id;have j:=h.fl;obtain⟨w,M,C,D,E,F⟩:=h.f d;have b:=shF h d;have L:gL (gR a) 8 1=1:=by
  rw[b];simp (disch:=first|omega|(simp only[aB,aZg]<;>omega)|fail) only[iM,pY,aB,aZg,Nat.reduceSub]
  rfl
 have r9:gL (gR a) 9 1=a.nm.length:=by
  rw[b];simp (disch:=first|omega|(simp only[aB,aZg]<;>omega)|fail) only[iM,pY,aB,aZg,Nat.reduceSub]
  exact gv1 _ (by omega)
 have K:gL (gR a) 0 4=a.ty:=by
  rw[b];simp (disch:=first|omega|(simp only[aB,aZg]<;>omega)|fail) only[iM,pY,aB,aZg,Nat.reduceSub]
  exact gv4 _ l
 have m:gL (gR a) 12 2=a.fl:=by
  rw[b];simp (disch:=first|omega|(simp only[aB,aZg]<;>omega)|fail) only[iM,pY,aB,aZg,Nat.reduceSub]
  exact gv2 _ j
 have n:gL (gR a) 14 2=a.id:=by
  rw[b];simp (disch:=first|omega|(simp only[aB,aZg]<;>omega)|fail) only[iM,pY,aB,aZg,Nat.reduceSub]
  exact gv2 _ k
 have o:gL (gR a) 16 4=a.fi:=by
  rw[b];simp (disch:=first|omega|(simp only[aB,aZg]<;>omega)|fail) only[iM,pY,aB,aZg,Nat.reduceSub]
  exact gv4 _ C
 have p:gL (gR a) 28 4=a.al:=by
  rw[b];simp (disch:=first|omega|(simp only[aB,aZg]<;>omega)|fail) only[iM,pY,aB,aZg,Nat.reduceSub]
  exact gv4 _ D
 have q:gL (gR a) 32 4=a.sz:=by
  rw[b];simp (disch:=first|omega|(simp only[aB,aZg]<;>omega)|fail) only[iM,pY,aB,aZg,Nat.reduceSub]
  exact gv4 _ E
 have r:gL (gR a) 36 4=a.vd:=by
  rw[b];simp (disch:=first|omega|(simp only[aB,aZg]<;>omega)|fail) only[iM,pY,aB,aZg,Nat.reduceSub]
  exact gv4 _ F
 have c:(gR a).drop 40=a.nm++(List.replicate (cZ a-40-a.nm.length) 0++(((jR a.rs).1++[0])++List.replicate (fA a-cZ a-(rG a).length) 0)):=by
  rw[b];simp (disch:=first|omega|(simp only[aB,aZg]<;>omega)|fail) only[pH,Hj,aB,aZg,Nat.reduceSub]
 have s:(gR a).drop (cZ a)=((jR a.rs).1++[0])++List.replicate (fA a-cZ a-(rG a).length) 0:=by
  have e:(gR a).drop (cZ a)=((gR a).drop 40).drop (cZ a-40):=by rw[aZ6];congr 1;omega
  rw[e,c,pH _ _ _ (by omega),pH _ _ _ (by rw[aZg];omega),Hj _ _ (by rw[aZg];omega)]
 have x:(gR a).getD 8 0=1:=by rw[aAs _ _ (by omega),L]
 have u:Cg (gR a)=false:=by unfold Cg;rw[x];rfl
 have t:M4 (gR a)=40:=by unfold M4;rw[u];rfl
 have i:rI (gR a)=a.nm.length:=by unfold rI;omega
 have z:eY (gR a)=cZ a:=by unfold eY;rw[t,i];unfold cZ;rw[v]
 have A:Pv (gR a)=a.nm:=by unfold Pv;rw[t,i,bAn,c,show 40+a.nm.length-40=a.nm.length by omega,bAo];rfl
 refine⟨u,z,i,x,?_,s,g,y,by omega⟩;unfold dF;rw[A,K,m,n,o,p,q,r];cases a;simp only at d w;subst d;subst w;rfl
theorem T0{a:aK}(h:a.Dc):rJ (gR a)=(a,true):=by
 cases e:a.res with
 |true=>
  obtain⟨b,c,j,g,i,d,k,l,m⟩:=aU9 h e;unfold rJ;rw[if_neg (by omega),c,if_neg (by omega),if_pos b,g,if_neg (by omega),d]
 |false=>
  obtain⟨b,c,j,g,i,d,k,l,m⟩:=aVa h e;have n:=(h.f e).2.1;unfold rJ;rw[if_neg (by omega),c,if_neg (by omega),if_neg (by rw[b];decide),d,aLN,Pq n,i];rfl
theorem aHd{a:aK}(h:a.Dc)(x:(gR a).length<=440):J3 (gR a)=Tx a (gR a):=by
 unfold J3;rw[if_neg (by omega)];cases q:a.res with
 |true=>
  obtain⟨d,e,i,k,l,m,t,u,v⟩:=aU9 h q;have n:M4 (gR a)=24:=by unfold M4;rw[d];rfl
  have r:¬ aCP (gR a):=by
   unfold aCP;rw[l];omega
  rw[if_neg r,n,i,if_neg (by omega),e,if_neg (by omega),if_pos d,k,if_neg (by omega),m]
 |false=>
  obtain⟨d,e,i,k,l,m,t,u,v⟩:=aVa h q;have p:=(h.f q).2.1;have n:M4 (gR a)=40:=by unfold M4;rw[d];rfl
  have r:¬ aCP (gR a):=by
   unfold aCP;rw[k];omega
  have b:∀ j,((gR a).take (eY (gR a)+j)).drop (eY (gR a))=(((jR a.rs).1++[0])++List.replicate (fA a - cZ a - (rG a).length) 0).take j:=fun j=>by
   rw[bAn,e,m];congr 1;omega
  have c:(((jR a.rs).1++[0])++List.replicate (fA a-cZ a-(rG a).length) 0).take ((jR a.rs).1.length+1)=(jR a.rs).1++[0]:=bAo (by simp);have s:Ch (gR a)=(jR a.rs).1.length+1:=by
   unfold Ch;refine aAn (by rw[e];omega) ?_ (fun j w g=>?_)
   rw[b,c,Pq p];rw[b,bAs (by simp;omega)] at g;exact aQn p j w g
  have o:rsR (gR a)=a.rs:=by
   unfold rsR;rw[s,b,c,Pq p]
  rw[if_neg r,n,i,if_neg (by omega),e,if_neg (by omega),if_neg (by rw[d];decide),s,if_neg (by omega),o,l]
theorem aQq{s:L Int}(f:aH s)(n:s.length<=1000):bO s=J3 s:=by
 by_cases b:s.length > 440;unfold bO J3;rw[if_pos b,if_pos b];by_cases a:(rJ s).2=true/\uE (rJ s).1=s;have m:=Pw f n a.1;have d:=Ae m;have l:=aHd m (by rw[<- d,a.2];omega);rw[<- d,a.2] at l;rw[l];unfold bO Tx;rw[if_neg b,if_neg (fun g=>g.elim (fun g=>by rw[a.1] at g;cases g) (fun g=>g a.2)),if_neg (show ¬ gR (rJ s).1≠s from fun g=>g (by rw[<- d];exact a.2))]
 have o:bO s=(aK.nil,3):=by
  unfold bO;rw[if_neg b,if_pos];by_cases k:(rJ s).2=true;exact .inr (fun g=>a ⟨k,g⟩)
  exact .inl (by simpa using k)
 have c:∀ x:aK,x.Dc->Tx x s=(aK.nil,3):=fun x c=>by
  unfold Tx;rw[if_pos];intro g;have e:=T0 c;rw[g] at e;exact a ⟨by rw[e],by rw[e];show uE x=s;rw[Ae c,g]⟩
 rw[o];unfold J3;rw[if_neg b];split;rfl;split;rfl;split;rfl;split;split;rfl;exact (c _ (aNJ f n)).symm;split;rfl;rename_i q;have i:(nC (rsR s)).2=0:=by
  obtain⟨r,p,t⟩:=bI (fun j=>(nV ((s.take (eY s+j)).drop (eY s))).2=0) (s.length-eY s+1)
  exact J1 (p.elim (fun h=>absurd h q) (fun h=>h.2))
 exact (c _ (aNK f i)).symm
end
section
variable {G:aE}{bb:Bool}
theorem Xg(s:L Int)(n:aH s)(hl:s.length<=1000):EV G (Tb (bs bb)) 69 [sv s] []=some (rtv (J3 s),[]):=by
 refine aA rfl ?_;unfold J3;by_cases c0:s.length > 440;rw[if_pos c0];have a:440<(s.length:Int):=by omega
 simp only[aK.nil];simp (disch:=first|omega|(simp only[aZa,aZb,aZc,aY9,aB];omega)) only[go_sem,h69c,eq_true a,aG,aZm]
 rfl;rw[if_neg c0];have a:¬ 440<(s.length:Int):=by omega
 by_cases c1:s.length<24;rw[if_pos (.inl c1)];have d:(s.length:Int)<24:=by omega
 simp only[aK.nil];simp (disch:=first|omega|(simp only[aZa,aZb,aZc,aY9,aB];omega)) only[go_sem,h69c,a,eq_true d,aG,aZm]
 rfl;have d:¬ (s.length:Int)<24:=by omega
 have hx:=n _ (aZk (show 8<s.length by omega));have q:=iB _ hx;have N:s.getD 8 0=s[8]:=bW s 8 (by omega);have P:=n _ (aZk (show 9<s.length by omega));have i:=iB _ P;have b9:=Pt n 9;have A:s[9]=(rI s:Int):=by
  have:gL s 9 1=s[9]:=by
   unfold gL;rw[aZ4 (by omega),bAt,bAg];show s[9]+256*0=s[9];omega
  unfold rI;omega
 rw[A] at i P;by_cases T:1<s[8];rw[if_pos (.inr (.inl (by rw[N];exact T)))];simp only[aK.nil];simp (disch:=first|omega|(simp only[aZa,aZb,aZc,aY9,aB];omega)) only[go_sem,h69c,a,d,aG,aZm,Int.reduceToNat,aZu,q,eq_true T]
 rfl;by_cases J:s[8]=1/\s.length<40;rw[if_pos (.inr (.inr (by rw[N];exact J)))];obtain⟨J,c4⟩:=J;have U:(s.length:Int)<40:=by omega
 rw[J] at q;simp only[aK.nil];simp (disch:=first|omega|(simp only[aZa,aZb,aZc,aY9,aB];omega)) only[go_sem,h69c,a,d,aG,aZm,Int.reduceToNat,aZu,q,J,eq_true U,Int.lt_irrefl]
 rfl;have nb:¬ aCP s:=by
  intro h;rcases h with h|h|h
  exact c1 h;rw[N] at h;exact T h;rw[N] at h;exact J h
 rw[if_neg nb];have F:EV G (Tb (bs bb)) 67 [sv s,vi 0,vi 4] []=some (vi (gL s 0 4),[]):=cY s n 0 4 (by omega) (by omega) (by omega);have l:EV G (Tb (bs bb)) 67 [sv s,vi 14,vi 2] []=some (vi (gL s 14 2),[]):=cY s n 14 2 (by omega) (by omega) (by omega);have k:EV G (Tb (bs bb)) 67 [sv s,vi 12,vi 2] []=some (vi (gL s 12 2),[]):=cY s n 12 2 (by omega) (by omega) (by omega);have t:EV G (Tb (bs bb)) 67 [sv s,vi 16,vi 4] []=some (vi (gL s 16 4),[]):=cY s n 16 4 (by omega) (by omega) (by omega);have S:=lC n 16 4 (by omega);cases I:Cg s with
 |true=>
  have e:s[8]=0:=by unfold Cg at I;rw[N] at I;simpa using I
  rw[e] at q;have D:M4 s=24:=by unfold M4;rw[I];rfl
  have V:gL s 16 4=(Qs s:Int):=by unfold Qs;omega
  have eA:eY s=(24+rI s+7) / 8*8:=by unfold eY;rw[D]
  have B:=mG (G:=G) (bb:=bb) (24+rI s) (by omega);rw[aZ3,show ((24:Nat):Int)=24 from rfl] at B
  have m:(8:Int)*(((24+rI s+7) / 8:Nat):Int)=((eY s:Nat):Int):=by omega
  rw[D];rw[V] at t S;by_cases O:s.length<24+rI s;rw[if_pos O];have f:(s.length:Int)<24+(rI s:Int):=by omega
  simp only[aK.nil];simp (disch:=first|omega|(simp only[aZa,aZb,aZc,aY9,aB];omega)) only[go_sem,h69c,a,d,aG,aZm,Int.reduceToNat,aZu,q,e,A,i,F,l,k,eq_true f,Int.reduceLT]
  rfl;rw[if_neg O];have f:¬ (s.length:Int)<24+(rI s:Int):=by omega
  have H:(24+(rI s:Int)).toNat=24+rI s:=by omega
  by_cases K:s.length<eY s;rw[if_pos K];have g:(s.length:Int)<(eY s:Int):=by omega
  simp only[aK.nil];simp (disch:=first|omega|(simp only[aZa,aZb,aZc,aY9,aB];omega)) only[go_sem,h69c,a,d,aG,aZm,Int.reduceToNat,aZu,q,e,A,i,F,l,k,f,Int.reduceLT,B,m,eq_true g,H]
  rfl;rw[if_neg K];have g:¬ (s.length:Int)<(eY s:Int):=by omega
  rw[if_pos rfl];by_cases d3:s.length<eY s+Qs s;rw[if_pos d3];have u:(s.length:Int)<(eY s:Int)+(Qs s:Int):=by omega
  simp only[aK.nil];simp (disch:=first|omega|(simp only[aZa,aZb,aZc,aY9,aB];omega)) only[go_sem,h69c,a,d,aG,aZm,Int.reduceToNat,aZu,q,e,A,i,F,l,k,f,Int.reduceLT,B,m,g,H,t,eq_true u]
  rfl;rw[if_neg d3];have u:¬ (s.length:Int)<(eY s:Int)+(Qs s:Int):=by omega
  have p:=aNJ n hl;have r:=aG7 (G:=G) (bb:=bb) (dT s) p;have z:=W5 (G:=G) (bb:=bb) (dT s) p.w;have o:=dA (D4 p) n;unfold Tx;generalize gR (dT s)=R at r o ⊢;generalize iL (dT s)=E at z ⊢;simp only[dT,Pv,D,aK.v,aK.c,aZm] at r z;by_cases C:R=s;rw[if_neg (fun h=>h C)]
  rw[eq_true C] at o;by_cases x:E=0;rw[if_neg (fun h=>h x)]
  simp (disch:=first|omega|(simp only[aZa,aZb,aZc,aY9,aB];omega)) only[go_sem,h69c,a,d,aG,aZm,Int.reduceToNat,aZu,q,e,A,i,F,l,k,f,Int.reduceLT,B,m,g,H,t,u,r,o,z,x]
  unfold dT Pv;rw[D];rfl;rw[if_pos x];simp only[aK.nil];simp (disch:=first|omega|(simp only[aZa,aZb,aZc,aY9,aB];omega)) only[go_sem,h69c,a,d,aG,aZm,Int.reduceToNat,aZu,q,e,A,i,F,l,k,f,Int.reduceLT,B,m,g,H,t,u,r,o,z,x]
  rfl;rw[if_pos C];rw[eq_false C] at o;simp only[aK.nil];simp (disch:=first|omega|(simp only[aZa,aZb,aZc,aY9,aB];omega)) only[go_sem,h69c,a,d,aG,aZm,Int.reduceToNat,aZu,q,e,A,i,F,l,k,f,Int.reduceLT,B,m,g,H,t,u,r,o]
  rfl
 |false=>
  have hr8':¬ s[8]=0:=by unfold Cg at I;rw[N] at I;simpa using I
  have e:s[8]=1:=by omega
  have h40:¬ s.length<40:=fun h=>J ⟨e,h⟩
  have y:¬ (s.length:Int)<40:=by omega
  rw[e] at q;have D:M4 s=40:=by unfold M4;rw[I];rfl
  have eA:eY s=(40+rI s+7) / 8*8:=by unfold eY;rw[D]
  have B:=mG (G:=G) (bb:=bb) (40+rI s) (by omega);rw[aZ3,show ((40:Nat):Int)=40 from rfl] at B
  have m:(8:Int)*(((40+rI s+7) / 8:Nat):Int)=((eY s:Nat):Int):=by omega
  rw[D];by_cases O:s.length<40+rI s;rw[if_pos O];have f:(s.length:Int)<40+(rI s:Int):=by omega
  simp only[aK.nil];simp (disch:=first|omega|(simp only[aZa,aZb,aZc,aY9,aB];omega)) only[go_sem,h69c,a,d,aG,aZm,Int.reduceToNat,aZu,q,e,A,i,F,l,k,y,eq_true f,Int.reduceLT]
  rfl;rw[if_neg O];have f:¬ (s.length:Int)<40+(rI s:Int):=by omega
  have H:(40+(rI s:Int)).toNat=40+rI s:=by omega
  by_cases K:s.length<eY s;rw[if_pos K];have g:(s.length:Int)<(eY s:Int):=by omega
  simp only[aK.nil];simp (disch:=first|omega|(simp only[aZa,aZb,aZc,aY9,aB];omega)) only[go_sem,h69c,a,d,aG,aZm,Int.reduceToNat,aZu,q,e,A,i,F,l,k,y,f,Int.reduceLT,B,m,eq_true g,H]
  rfl;rw[if_neg K];have g:¬ (s.length:Int)<(eY s:Int):=by omega
  rw[if_neg (by decide)];have W:EV G (Tb (bs bb)) 67 [sv s,vi 28,vi 4] []=some (vi (gL s 28 4),[]):=cY s n 28 4 (by omega) (by omega) (by omega);have X:EV G (Tb (bs bb)) 67 [sv s,vi 32,vi 4] []=some (vi (gL s 32 4),[]):=cY s n 32 4 (by omega) (by omega) (by omega);have Y:EV G (Tb (bs bb)) 67 [sv s,vi 36,vi 4] []=some (vi (gL s 36 4),[]):=cY s n 36 4 (by omega) (by omega) (by omega);simp (disch:=first|omega|(simp only[aZa,aZb,aZc,aY9,aB];omega)) only[go_sem,h69c,a,d,aG,aZm,Int.reduceToNat,aZu,q,e,A,i,F,l,k,y,f,Int.reduceLT,B,m,g,H,t,W,X,Y]
  by_cases Q:Ch s=s.length-eY s+1
  ·rw[if_pos Q,aU7 n hl K Q ?_]
   rotate_left
   unfold dFc Pv;rw[D];simp only[bAD,Int.add_zero];rfl;have c:¬ (eY s:Int)+((s.length-eY s+1:Nat):Int)<=(s.length:Int):=by omega
   generalize ((s.length-eY s+1:Nat):Int)=w at c;simp only[aK.nil];simp (disch:=first|omega|(simp only[aZa,aZb,aZc,aY9,aB];omega)) only[go_sem,h69l0,c]
   rfl
  ·rw[if_neg Q,aU8 n hl K Q ?_]
   rotate_left
   unfold dFc Pv;rw[D];simp only[bAD,Int.add_zero];rfl;have Z:(nC (rsR s)).2=0:=by
    obtain⟨j1,j2,j3⟩:=bI (fun j=>(nV ((s.take (eY s+j)).drop (eY s))).2=0) (s.length-eY s+1)
    exact J1 (j2.elim (fun h=>absurd h Q) (fun h=>h.2))
   have p:=aNK n Z;have r:=aG7 (G:=G) (bb:=bb) (dF s (rsR s)) p;have z:=W5 (G:=G) (bb:=bb) (dF s (rsR s)) p.w;have o:=dA (D4 p) n;unfold Tx;generalize gR (dF s (rsR s))=R at r o ⊢;generalize iL (dF s (rsR s))=E at z ⊢;generalize ((Ch s+1:Nat):Int)=w;simp only[dF,aK.v,aK.c] at r z;unfold dFc;have cw:∀b:Bool,(b&&false)=false:=fun b=>by cases b<;>rfl
   by_cases M:(eY s:Int)+w<=(s.length:Int);all_goals
    by_cases C:R=s;rw[if_neg (fun h=>h C)]
    rw[eq_true C] at o;by_cases x:E=0;rw[if_neg (fun h=>h x)]
    first
     |(simp (disch:=first|omega|(simp only[aZa,aZb,aZc,aY9,aB];omega)) only[go_sem,h69l0,eq_true M,r,o,z,x];rfl)
     |(simp (disch:=first|omega|(simp only[aZa,aZb,aZc,aY9,aB];omega)) only[go_sem,h69l0,M,r,o,z,x];rfl)
    rw[if_pos x];simp only[aK.nil];first
     |(simp (disch:=first|omega|(simp only[aZa,aZb,aZc,aY9,aB];omega)) only[go_sem,h69l0,eq_true M,r,o,z,x];rfl)
     |(simp (disch:=first|omega|(simp only[aZa,aZb,aZc,aY9,aB];omega)) only[go_sem,h69l0,M,r,o,z,x];rfl)
    rw[if_pos C];rw[eq_false C] at o;simp only[aK.nil];first
     |(simp (disch:=first|omega|(simp only[aZa,aZb,aZc,aY9,aB];omega)) only[go_sem,h69l0,eq_true M,r,o];rfl)
     |(simp (disch:=first|omega|(simp only[aZa,aZb,aZc,aY9,aB];omega)) only[go_sem,h69l0,M,r,o];rfl)
