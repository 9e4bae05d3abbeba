/- Part. Conditions: none. -/
import Derived.Test.YtgdjbbnicgfohabGreatDoorVo
import Derived.Test.YtgdjbbnicgfohabGreatDoorTf
import Derived.Test.YtgdjbbnicgfohabGreatDoorTu
namespace Go.Proofs.YtgdjbbnicgfohabGreatDoor
set_option maxHeartbeats 8000000
set_option linter.unusedSimpArgs false
set_option linter.unusedVariables false
set_option maxRecDepth 4000
section
variable {G:aF}{bb:Bool}
theorem aHx(a:aJ)(b:a.rs.length<=1000000):EV G (Tb (bs bb)) 160 [a.v] []=some (a.v,[]):=by
 refine aB rfl ?_;have q:=aAV (G:=G) (bb:=bb) a.rs b;simp (disch:=omega) only[go_sem,h160c,q,aJ.v,aZA]
abbrev lev(l:L aJ)(e:Int):AV:=.tup [.one (.dc (.slc (l.map aJ.e))),.one (.dc (ci e))]
theorem aHy(l:L aJ)(o:∀a∈l,a.W)(p:l.length<=1000):EV G (Tb (lA bb)) 109 [vl (l.map aJ.e)] []=some (lev (if Ul l=0 then fK l else []) (Ul l),[]):=by
 refine aB rfl ?_;unfold Ul;by_cases t:l.length > 32;rw[if_pos t];have i:32<(l.length:Int):=by omega
 simp (disch:=omega) only[go_sem,h109c,aZA,eq_true i];rfl;rw[if_neg t];have i:¬ 32<(l.length:Int):=by omega
 simp (disch:=omega) only[go_sem,h109c,aZA,i];rw[dE (fun k=>⟨(vl (l.map aJ.e)::jk 3 (.one (.bld 0 ((l.take k).map aJ.e).length)::jk 6 (vl (l.map aJ.e)::vi l.length::vi k::jk 19 []))),[.arr 0 11 ((l.take k).map aJ.e)]⟩) (fun k=>kU l k≠0) l.length ?_ ?_]
 rotate_left
 rfl;intro k g r;have h:=Classical.not_not.1 (r k (aZE _));have q:=up (D5 (G:=G) (bb:=bb) l o p k g);rw[h] at q;have E:=up (aHx (G:=G) (bb:=bb) l[k] (by have:=(o _ (aZK g)).rl;omega));have z:((l.take k).map aJ.e).length<=1000:=by rw[aZA,aZF];omega
 have c:=aAX (l.take k);rw[aVs l k g];generalize (l.take k).map aJ.e=C at z c ⊢;simp (disch:=omega) only[go_sem,h109l0,aZA,ixA,aJ.e,q,E,c];rw[aZB];rfl;obtain⟨g,hp,r⟩:=bD (fun k=>kU l k≠0) l.length
 generalize ix (fun k=>kU l k≠0) l.length=k at *
 rcases hp with rfl|⟨d,h⟩;rw[if_neg (Nat.lt_irrefl _),if_pos rfl,bAj];have D:(l.map aJ.id).Nodup:=((Az l).1 (fun j B=>Classical.not_not.1 (r j B))).2
 by_cases m:l=[]
 ·subst m;have q:=aMa (G:=G) (b:=bb);simp (disch:=omega) only[go_sem,h109l0,aZD,aZN,List.isEmpty_nil,q];first|done|rfl
 have f:0<l.length:=List.length_pos_iff.2 m;have q:=aL9 (G:=G) (b:=bb) l D p f;have x:(l.map aJ.e).isEmpty=false:=by cases l with|nil=>exact absurd rfl m|cons _ _=>rfl
 have y:=uX l;obtain⟨u,v,w⟩:=aL8 (s:=11) (n:=l.length) (es:=(fK l).map aJ.e) (fun e A=>by obtain⟨a,_,rfl⟩:=List.mem_map.1 A;rfl) (by rw[aZA,y])
 unfold lev;generalize (fK l).map aJ.e=M at *;simp (disch:=omega) only[go_sem,h109l0,aZA,q,x,u,v,w,Pu,Nat.zero_mul,bAr];rw[if_pos d,if_neg h];have q:=up (D5 (G:=G) (bb:=bb) l o p k d);simp (disch:=omega) only[go_sem,h109l0,aZA,ixA,aJ.e,q,h];rfl
theorem aHz(l:L aJ)(c:∀a∈l,a.W)(f:l.length<=1000):EV G (Tb (bs bb)) 30 [vl (l.map aJ.e),vl (l.map aJ.e)] []=some (vb true,[]):=by
 refine aB rfl ?_;simp (disch:=omega) only[go_sem,h30c,aZA];rw[aR (fun k=>⟨(vl (l.map aJ.e)::vl (l.map aJ.e)::jk 3 (vi k::jk 21 [])),[]⟩) l.length ?_ ?_]
 simp (disch:=omega) only[go_sem,h30l0,aZA];rfl;intro k d;have b:=c _ (aZK d);have q:=aL1 (G:=G) (bb:=bb) l[k] l[k] b b;rw[(aDm _ _).2 rfl] at q;simp (disch:=omega) only[go_sem,h30l0,aZA,ixA,aJ.e,q]
end
section
variable {G:aF}{bb:Bool}
theorem aQV(a:aJ)(h:a.Dc)(b:a.res=true):EV G (Tb (bs bb)) 130 [a.v] []=some (sv (gR a),[]):=by
 refine aB rfl ?_;obtain⟨s,u,w,x,y,z,B,C,D,g,i,j,k⟩:=h.bd;have E:=h.ty;have F:=h.nl;have H:=h.id;have I:=h.fl;obtain⟨P,Q,S,T,U⟩:=h.t b;have V:=h.vl;have c:sS a=24:=by simp[sS,b]
 have K:24+a.nm.length<=cX a/\cX a<=2000:=by simp only[cX,c];omega
 have e:=mB (G:=G) (bb:=bb) (24+a.nm.length) (by omega);have n:(8:Int)*(((24+a.nm.length+7) / 8:Nat):Int)=((cX a:Nat):Int):=by simp only[cX,c];omega
 rw[bAu,show ((24:Nat):Int)=24 from rfl] at e
 have L:fA a<=4000/\8<=fA a/\fA a % 8=0:=by
  have:qU a=a.va:=by simp[qU,b]
  simp only[fA,this];omega
 have M:(uV a).length=fA a-8:=by
  have J:=sU a;rw[uV,uU,uZ h];simp only[aZB,aZI];simp only[fA];have:cX a % 8=0:=by unfold cX;omega
  omega
 have r:=mD (G:=G) (bb:=bb) (cX a-24-a.nm.length) (by omega);have l:((cX a:Nat):Int)-24-(a.nm.length:Int)=((cX a-24-a.nm.length:Nat):Int):=by omega
 have p:L5 a=Bl a++bI a.va.length 4++bI (cX a) 4:=by rw[L5,if_pos b]
 have O:(Bl a).length=8:=by simp only[Bl,aZB,aA]
 have q:uV a=uU (Bl a++bI a.va.length 4++bI (cX a) 4++a.nm++List.replicate (cX a-24-a.nm.length) 0++a.va):=by rw[uV,p,c,T6,if_pos b]
 have o:Bl a=bI 0 1++bI a.nm.length 1++bI 24 2++bI a.fl 2++bI a.id 2:=by rw[Bl,if_pos b,c];rfl
 have d:=Dy (G:=G) (bb:=bb) (Bl a++bI a.va.length 4++bI (cX a) 4++a.nm++List.replicate (cX a-24-a.nm.length) 0++a.va) (by simp only[aZB,aA,aZI];omega);rw[<- q] at d;have f:=mB (G:=G) (bb:=bb) ((uV a).length+8) (by omega);rw[bAu,show ((8:Nat):Int)=8 from rfl] at f
 have m:(8:Int)*((((uV a).length+8+7) / 8:Nat):Int)=((fA a:Nat):Int):=by omega
 rw[o] at d;unfold gR;generalize uV a=R at *;generalize cX a=A at *;generalize fA a=N at *;simp (disch:=first|omega|(simp only[aZB,aZC,aZD,aZA,aA,aZI]<;>omega)) only[go_sem,h130c,b,aG,aAT,e,n,H0,mC,qJ,r,l,d,f,m,bAx,aZI]
theorem aQW(a:aJ)(h:a.Dc)(d:a.res=false):EV G (Tb (bs bb)) 130 [a.v] []=some (sv (gR a),[]):=by
 refine aB rfl ?_;obtain⟨E,F,H,I,J,K,L,M,O,l,m,n,o⟩:=h.bd;have b:¬ a.res=true:=by rw[d];decide
 have T:=h.ty;have U:=h.nl;have V:=h.id;have W:=h.fl;obtain⟨r2,g,r3,r5,r6,r7⟩:=h.f d;obtain⟨P,Q,S⟩:=Kb g;have c:sS a=40:=by simp[sS,d]
 have s:=uZ h;have i:T6 a=(jH a.rs).1++[0]:=by rw[T6,if_neg b]
 have Z:=Kc g;have x:(qU a).length=(jH a.rs).1.length+1:=by rw[<- s,i];simp
 have Y:40+a.nm.length<=cX a/\cX a<=2000:=by simp only[cX,c];omega
 have j:=mB (G:=G) (bb:=bb) (40+a.nm.length) (by omega);have r:(8:Int)*(((40+a.nm.length+7) / 8:Nat):Int)=((cX a:Nat):Int):=by simp only[cX,c];omega
 rw[bAu,show ((40:Nat):Int)=40 from rfl] at j
 have hs:fA a<=4000/\8<=fA a/\fA a % 8=0:=by
  simp only[fA];omega
 have hz:(uV a).length=fA a-8:=by
  have X:=sU a;rw[uV,uU,uZ h];simp only[aZB,aZI];simp only[fA];have:cX a % 8=0:=by unfold cX;omega
  omega
 have y:=mD (G:=G) (bb:=bb) (cX a-40-a.nm.length) (by omega);have p:((cX a:Nat):Int)-40-(a.nm.length:Int)=((cX a-40-a.nm.length:Nat):Int):=by omega
 have z:=Nh (G:=G) (B:=bs bb) a.rs g;have C:=rM (G:=G) (B:=bs bb) a.rs (by omega);have D:=Ng (G:=G) (B:=bs bb) (a.fi+gQ a.rs-1) 4294967296 (by omega);have l1:(Bl a).length=8:=by simp only[Bl,aZB,aA]
 have t:Bl a=bI 1 1++bI a.nm.length 1++bI 40 2++bI a.fl 2++bI a.id 2:=by rw[Bl,if_neg b,c];rfl
 have u:L5 a=Bl a++bI a.fi 4++bI ((a.fi+gQ a.rs-1) % 4294967296) 4++bI (cX a) 2++[0,0]++bI a.al 4++bI a.sz 4++bI a.vd 4:=by rw[L5,if_neg b];rfl
 have l2:=sU a;have w:uV a=uU (L5 a++a.nm++List.replicate (cX a-40-a.nm.length) 0++((jH a.rs).1++[0])):=by rw[uV,c,i]
 have e:=Dy (G:=G) (bb:=bb) (L5 a++a.nm++List.replicate (cX a-40-a.nm.length) 0++((jH a.rs).1++[0])) (by simp only[aZB,aZI,bBb];omega);rw[<- w] at e;have k:=mB (G:=G) (bb:=bb) ((uV a).length+8) (by omega);rw[bAu,show ((8:Nat):Int)=8 from rfl] at k
 have q:(8:Int)*((((uV a).length+8+7) / 8:Nat):Int)=((fA a:Nat):Int):=by omega
 rw[u,t] at e;unfold gR;generalize uV a=R at *;generalize cX a=A at *;generalize fA a=N at *;have hm:0<=(a.fi+gQ a.rs-1) % 4294967296/\(a.fi+gQ a.rs-1) % 4294967296<=4294967296:=by omega
 simp (disch:=first|omega|(simp only[aZB,aZC,aZD,aZA,aA,aZI]<;>omega)) only[go_sem,h130c,d,aG,aAT,j,r,H0,mC,qJ,T7,y,p,e,k,q,z,C,D,bAx,aZI]
theorem aHA(a:aJ)(h:a.Dc):EV G (Tb (bs bb)) 130 [a.v] []=some (sv (gR a),[]):=by
 cases b:a.res with
 |true=>exact aQV a h b
 |false=>exact aQW a h b
end
section
variable {G:aF}{bb:Bool}
def Ep(s:L Int):Nat->Nat
 |0=>0
 |k+1=>Ep s k+1+(s.getD (Ep s k) 0 % 16+s.getD (Ep s k) 0 / 16).toNat
noncomputable def raE(s:L Int):Nat:=ix (fun k=>s.length<=Ep s k\/s.getD (Ep s k) 0=0) (s.length+1)
noncomputable def raV(s:L Int):L Int:=if Ep s (raE s)<s.length then s.take (Ep s (raE s)+1) else s
theorem Yo(s:L Int):∀k,k<=Ep s k
 |0=>aZE _
 |k+1=>by have:=Yo s k;rw[Ep];omega
theorem aHC(s:L Int):(s.length<=Ep s (raE s)\/s.getD (Ep s (raE s)) 0=0)/\∀j,j<raE s->Ep s j<s.length/\s.getD (Ep s j) 0≠0:=by
 obtain⟨c,a,h3⟩:=bD (fun k=>s.length<=Ep s k\/s.getD (Ep s k) 0=0) (s.length+1)
 refine⟨?_,fun j b=>?_⟩
 rcases a with a|a;have:=Yo s (raE s);exact .inl (by unfold raE at *;omega)
 exact a.2;have:=h3 j b;exact⟨by omega,fun h=>this (.inr h)⟩
theorem aHD(s:L Int)(i:aI s)(o:s.length<=1000000):EV G (Tb (bs bb)) 221 [sv s] []=some (sv (raV s),[]):=by
 refine aB rfl ?_;simp (disch:=first|omega|(simp only[aZB,aZC,aZD,aZA,aA];omega)) only[go_sem,h221c]
 obtain⟨f,g⟩:=aHC s;rw[aR (fun k=>⟨(sv s::jk 2 (vi (Ep s k)::jk 24 [])),[]⟩) (raE s) ?_ ?_]
 rotate_left
 rfl;intro k n;obtain⟨b,a⟩:=g k n;have e:=i _ (aZK b);rw[cE s _ b] at a;have m:(Ep s (k+1):Int)=Ep s k+(1+s[Ep s k] % 16+s[Ep s k] / 16):=by
  rw[Ep,cE s _ b];omega
 have d:=iA _ e;rw[m];generalize hp:Ep s k=p at *;have j:=aN6 (s[p]'b) e;simp (disch:=first|omega|(simp only[aZB,aZC,aZD,aZA,aA];omega)) only[go_sem,h221l0,aZU,d,a,j,Int.reduceToNat,Int.reducePow,Fb]
 unfold raV;generalize Ep s (raE s)=p at *;by_cases c:p<s.length;rw[if_pos c];have a:s.getD p 0=0:=f.elim (fun h=>absurd h (by omega)) id
 have e:=i _ (aZK c);rw[cE s _ c] at a;have d:=iA _ e;rw[a] at d;simp (disch:=first|omega|(simp only[aZB,aZC,aZD,aZA,aA];omega)) only[go_sem,h221l0,aZU,d,a]
 rw[if_neg c];have l:¬ (p:Int)<(s.length:Int):=by omega
 simp (disch:=first|omega|(simp only[aZB,aZC,aZD,aZA,aA];omega)) only[go_sem,h221l0,l]
theorem aHE{s:L Int}(h:aI s):aI (raV s):=by
 unfold raV;split;exact fun b a=>h b (aZ0 a)
 exact h
def Cl(s:L Int):Bool:=decide (s.getD 8 0=0)
def Nx(s:L Int):Nat:=if Cl s=true then 24 else 40
def qV(s:L Int):Nat:=(gL s 9 1).toNat
def eY(s:L Int):Nat:=(Nx s+qV s+7) / 8*8
def Qi(s:L Int):L Int:=(s.take (Nx s+qV s)).drop (Nx s)
def Rg(s:L Int):Nat:=(gL s 16 4).toNat
def dT(s:L Int):aJ:=⟨gL s 0 4,Qi s,gL s 14 2,gL s 12 2,true,(s.take (eY s+Rg s)).drop (eY s),0,[],0,0,0⟩
noncomputable def dF(s:L Int)(a:L aW):aJ:=⟨gL s 0 4,Qi s,gL s 14 2,gL s 12 2,false,[],gL s 16 4,a,gL s 28 4,gL s 32 4,gL s 36 4⟩
noncomputable def qW(s:L Int):aJ×Bool:=if s.length<24 then (aJ.nil,false) else if s.length<eY s then (aJ.nil,false) else
 if Cl s=true then (if s.length<eY s+Rg s then (aJ.nil,false) else (dT s,true)) else (dF s (nN (raV (s.drop (eY s)))).1,decide ((nN (raV (s.drop (eY s)))).2=0))
theorem aDt(s:L Int)(e:aI s)(N:s.length<=1000):EV G (Tb (bs bb)) 174 [sv s] []=some (.tup [(qW s).1.t,.one (bC (qW s).2)],[]):=by
 refine aB rfl ?_;unfold qW;by_cases C:s.length<24;rw[if_pos C];have c:(s.length:Int)<24:=by omega
 simp only[aJ.nil];simp (disch:=first|omega|(simp only[aZB,aZC,aZD,aZA,aA];omega)) only[go_sem,h174c,eq_true c,aG,bC,aZN]
 rfl;rw[if_neg C];have c:¬ (s.length:Int)<24:=by omega
 have q:EV G (Tb (bs bb)) 219 [sv s,vi 0,vi 4] []=some (vi (gL s 0 4),[]):=Gl s e 0 4 (by omega) (by omega) (by omega);have g:EV G (Tb (bs bb)) 219 [sv s,vi 14,vi 2] []=some (vi (gL s 14 2),[]):=Gl s e 14 2 (by omega) (by omega) (by omega);have f:EV G (Tb (bs bb)) 219 [sv s,vi 12,vi 2] []=some (vi (gL s 12 2),[]):=Gl s e 12 2 (by omega) (by omega) (by omega);have m:EV G (Tb (bs bb)) 219 [sv s,vi 9,vi 1] []=some (vi (gL s 9 1),[]):=Gl s e 9 1 (by omega) (by omega) (by omega);have h:EV G (Tb (bs bb)) 219 [sv s,vi 16,vi 4] []=some (vi (gL s 16 4),[]):=Gl s e 16 4 (by omega) (by omega) (by omega);have A:=Qg e 9;have r:=kV e 16 4 (by omega);have J:=e _ (aZK (show 8<s.length by omega));have n:=iA _ J;have E:s.getD 8 0=s[8]:=cE s 8 (by omega);cases i:Cl s with
 |true=>
  have d:s[8]=0:=by unfold Cl at i;rw[E] at i;simpa using i
  rw[d] at n;have p:Nx s=24:=by unfold Nx;rw[i];rfl
  have v:gL s 9 1=(qV s:Int):=by unfold qV;omega
  have u:gL s 16 4=(Rg s:Int):=by unfold Rg;omega
  have H:eY s=(24+qV s+7) / 8*8:=by unfold eY;rw[p]
  have j:=Ay (G:=G) (bb:=bb) (24+(qV s:Int)) (by omega);have l:al8 (24+(qV s:Int))=(eY s:Int):=by unfold al8;omega
  rw[l] at j;rw[v] at m A;by_cases o:s.length<eY s;rw[if_pos o];have a:(s.length:Int)<(eY s:Int):=by omega
  simp only[aJ.nil];simp (disch:=first|omega|(simp only[aZB,aZC,aZD,aZA,aA];omega)) only[go_sem,h174c,c,aG,bC,aZN,Int.reduceToNat,q,g,f,m,aZU,n,d,Ci,j,eq_true a]
  rfl;rw[if_neg o];have a:¬ (s.length:Int)<(eY s:Int):=by omega
  rw[u] at h r;by_cases D:s.length<eY s+Rg s;rw[if_pos D];have k:(s.length:Int)-(eY s:Int)<(Rg s:Int):=by omega
  simp only[aJ.nil];simp (disch:=first|omega|(simp only[aZB,aZC,aZD,aZA,aA];omega)) only[go_sem,h174c,c,aG,bC,aZN,Int.reduceToNat,q,g,f,m,aZU,n,d,Ci,j,a,h,eq_true k]
  rfl;rw[if_neg D];have k:¬ (s.length:Int)-(eY s:Int)<(Rg s:Int):=by omega
  simp (disch:=first|omega|(simp only[aZB,aZC,aZD,aZA,aA];omega)) only[go_sem,h174c,c,aG,bC,aZN,Int.reduceToNat,q,g,f,m,aZU,n,d,Ci,j,a,h,k]
  have w:(24+(qV s:Int)).toNat=24+qV s:=by omega
  rw[w];unfold dT Qi;rw[p];rfl
 |false=>
  have d:¬ s[8]=0:=by unfold Cl at i;rw[E] at i;simpa using i
  have p:Nx s=40:=by unfold Nx;rw[i];rfl
  have v:gL s 9 1=(qV s:Int):=by unfold qV;omega
  have H:eY s=(40+qV s+7) / 8*8:=by unfold eY;rw[p]
  have j:=Ay (G:=G) (bb:=bb) (40+(qV s:Int)) (by omega);have l:al8 (40+(qV s:Int))=(eY s:Int):=by unfold al8;omega
  rw[l] at j;rw[v] at m A;by_cases o:s.length<eY s;rw[if_pos o];have a:(s.length:Int)<(eY s:Int):=by omega
  simp only[aJ.nil];simp (disch:=first|omega|(simp only[aZB,aZC,aZD,aZA,aA];omega)) only[go_sem,h174c,c,aG,bC,aZN,Int.reduceToNat,q,g,f,m,aZU,n,d,Ci,j,eq_true a]
  rfl;rw[if_neg o];have a:¬ (s.length:Int)<(eY s:Int):=by omega
  have x:EV G (Tb (bs bb)) 219 [sv s,vi 28,vi 4] []=some (vi (gL s 28 4),[]):=Gl s e 28 4 (by omega) (by omega) (by omega);have y:EV G (Tb (bs bb)) 219 [sv s,vi 32,vi 4] []=some (vi (gL s 32 4),[]):=Gl s e 32 4 (by omega) (by omega) (by omega);have z:EV G (Tb (bs bb)) 219 [sv s,vi 36,vi 4] []=some (vi (gL s 36 4),[]):=Gl s e 36 4 (by omega) (by omega) (by omega);have F:aI (s.drop (eY s)):=fun b I=>e b (bAb I)
  have K:=aHD (G:=G) (bb:=bb) (s.drop (eY s)) F (by rw[aZL];omega);have M:=aG3 (G:=G) (B:=bs bb) (raV (s.drop (eY s))) (aHE F);simp (disch:=first|omega|(simp only[aZB,aZC,aZD,aZA,aA];omega)) only[go_sem,h174c,c,aG,bC,aZN,Int.reduceToNat,q,g,f,m,aZU,n,d,Ci,j,a,h,x,y,z,K,M]
  have w:(40+(qV s:Int)).toNat=40+qV s:=by omega
  rw[w];unfold dF Qi;rw[p]
theorem Kt{s:L Int}(h:(nN s).2=0):(mT (nN s).1).2=0:=by
 unfold nN at h ⊢;split at h;exact absurd h (by decide);rename_i c;rw[if_neg c];unfold qD at h ⊢;split at h;exact absurd h (by decide);rename_i b;rw[if_neg b];split at h;rename_i a;exact absurd h a;rename_i a;rw[if_neg a];exact Classical.not_not.1 a
theorem Qj{s:L Int}(a:aI s)(q:s.length<=1000)(h:(qW s).2=true):(qW s).1.Dc:=by
 unfold qW at h ⊢;split at h;cases h;rename_i l;rw[if_neg l];split at h;cases h;rename_i m;rw[if_neg m];have p:=Qg a 9;have k:=kV a 0 4 (by omega);have d:=Ck a 14;have c:=Ck a 12;have f:aI (Qi s):=fun b i=>a b (aZ0 (bAb i))
 have e:(Qi s).length<=255:=by
  unfold Qi;rw[aZL,aZF];unfold qV;omega
 split at h;rename_i j;rw[if_pos j];split at h;cases h
 rename_i n;rw[if_neg n];exact⟨k,f,e,d,c,fun b i=>a b (aZ0 (bAb i)),by
  show ((s.take (eY s+Rg s)).drop (eY s)).length<=1000;rw[aZL,aZF];omega,fun _=>⟨rfl,rfl,rfl,rfl,rfl⟩,fun g=>(by cases g)⟩
 rename_i j;rw[if_neg j];have o:=Kt (by simpa using h);exact⟨k,f,e,d,c,jL,aZX _,fun g=>(by cases g),fun _=>⟨rfl,o,kV a 16 4 (by omega),kV a 28 4 (by omega),kV a 32 4 (by omega),kV a 36 4 (by omega)⟩⟩
theorem bP{a b:L Int}(c:aI a)(d:aI b):aI (a++b):=fun x e=>(bAV.1 e).elim (c x) (d x)
theorem Ku(n:Nat):aI (List.replicate n 0):=fun x a=>by rw[List.eq_of_mem_replicate a];omega
theorem Ny:∀(l:L aW)(a:Int),aI (dR a l)
 |[],_=>jL
 | r::l,a=>by
  have c:=uY r.n;have d:=uY (r.s - a);rw[dR,sW];refine bP (fun x b=>?_) (Ny l _)
  rcases bAL.1 b with rfl | b
  ·unfold tR;split<;>omega
  ·unfold D7 at b;split at b
   ·exact cU _ _ x b
   ·exact bP (cU _ _) (cU _ _) x b
theorem D8{a:aJ}(h:a.Dc):aI (gR a):=by
 have d:aI (T6 a):=by
  unfold T6;split;exact h.va;exact bP (by rw[Fh];exact Ny _ _) (J7 _ (by decide))
 have b:aI (Bl a):=by unfold Bl;exact bP (bP (bP (bP (cU _ _) (cU _ _)) (cU _ _)) (cU _ _)) (cU _ _)
 have c:aI (L5 a):=by
  unfold L5;split;exact bP (bP b (cU _ _)) (cU _ _);exact bP (bP (bP (bP (bP (bP (bP b (cU _ _)) (cU _ _)) (cU _ _)) (Ku _)) (cU _ _)) (cU _ _)) (cU _ _)
 unfold gR uV uU;exact bP (bP (cU _ _) (cU _ _)) (bP (bP (bP (bP c h.nm) (Ku _)) d) (Ku _))
theorem aJ.Dc.w{a:aJ}(h:a.Dc):a.W:=by
 have c:=h.nl;have d:=h.vl;refine⟨h.nm,h.va,by omega,by omega,?_⟩;cases b:a.res with
 |true=>rw[(h.t b).1];simp
 |false=>have:=oH (h.f b).2.1;omega
noncomputable def bL(s:L Int):aJ×Int:=if s.length > 440 then (aJ.nil,8) else
 if (qW s).2=false\/tP (qW s).1≠s then (aJ.nil,3) else if gI (qW s).1≠0 then (aJ.nil,gI (qW s).1) else ((qW s).1,0)
theorem aDu(s:L Int)(k:aI s)(n:s.length<=1000):EV G (Tb (bs bb)) 120 [sv s] []=some (rtv (bL s),[]):=by
 refine aB rfl ?_;unfold bL;by_cases m:s.length > 440;rw[if_pos m];have c:440<(s.length:Int):=by omega
 simp only[aJ.nil];simp (disch:=first|omega|(simp only[aZB,aZC,aZD,aZA,aA];omega)) only[go_sem,h120c,eq_true c,aG,aZN]
 rfl;rw[if_neg m];have c:¬ 440<(s.length:Int):=by omega
 have q:=aDt (G:=G) (bb:=bb) s k n;have f:=Qj k n;generalize qW s=d at q f ⊢;obtain⟨a,b⟩:=d;cases b with
 |false=>
  rw[if_pos (.inl rfl)];simp only[aJ.nil];simp (disch:=first|omega|(simp only[aZB,aZC,aZD,aZA,aA];omega)) only[go_sem,h120c,c,aG,aZN,q,bC]
  rfl
 |true=>
  have h:=f rfl;simp only at h;have l:=E9 (G:=G) (bb:=bb) a h.bd;have o:=Dx (G:=G) (bb:=bb) a h.w;have e:=cR (a:=tP a) (b:=s) (by rw[Aa h];exact D8 h) k;by_cases i:tP a=s;rw[if_neg (fun g=>g.elim (fun g=>by cases g) (fun g=>g i))]
  rw[eq_true i] at e;by_cases j:gI a=0;rw[if_neg (fun g=>g j)]
  simp (disch:=first|omega|(simp only[aZB,aZC,aZD,aZA,aA];omega)) only[go_sem,h120c,c,aG,q,bC,l,e,o,j]
  rw[if_pos j];simp only[aJ.nil];simp (disch:=first|omega|(simp only[aZB,aZC,aZD,aZA,aA];omega)) only[go_sem,h120c,c,aG,aZN,q,bC,l,e,o,j]
  rfl;rw[if_pos (.inr i)];rw[eq_false i] at e;simp only[aJ.nil];simp (disch:=first|omega|(simp only[aZB,aZC,aZD,aZA,aA];omega)) only[go_sem,h120c,c,aG,aZN,q,bC,l,e]
  rfl
end
section
variable {G:aF}{bb:Bool}
noncomputable def Cn(s:L Int):Nat:=ix (fun j=>(nN ((s.take (eY s+j)).drop (eY s))).2=0) (s.length-eY s+1)
noncomputable def rsR(s:L Int):L aW:=(nN ((s.take (eY s+Cn s)).drop (eY s))).1
def Uu(a:aJ)(s:L Int):aJ×Int:=if gR a≠s then (aJ.nil,3) else if gI a≠0 then (aJ.nil,gI a) else (a,0)
def aDv(s:L Int):Prop:=s.length<24\/1<s.getD 8 0\/(s.getD 8 0=1/\s.length<40)
open Classical in
noncomputable def Kv(s:L Int):aJ×Int:=if s.length > 440 then (aJ.nil,8) else if aDv s then (aJ.nil,3) else
 if s.length<Nx s+qV s then (aJ.nil,3) else if s.length<eY s then (aJ.nil,3) else
 if Cl s=true then (if s.length<eY s+Rg s then (aJ.nil,3) else Uu (dT s) s) else if Cn s=s.length-eY s+1 then (aJ.nil,3) else Uu (dF s (rsR s)) s
def dFc(s:L Int)(x:aU):L aU:=[.dc (ci (gL s 0 4)),.dc (.raw (.string (dO (Qi s)))),.dc (ci (gL s 14 2)),.dc (ci (gL s 12 2)),.dc (.raw (.bool false)),.dc (.raw (.string (dO []))),.dc (ci (gL s 16 4)),x,.dc (ci (gL s 28 4)),.dc (ci (gL s 32 4)),.dc (ci (gL s 36 4))]
theorem Qk{s:L Int}(a:aI s):aI (Qi s)/\(Qi s).length<=255:=by
 have d:=Qg a 9;refine⟨fun b c=>a b (aZ0 (bAb c)),?_⟩
 unfold Qi;rw[aZL,aZF];unfold qV;omega
theorem aN8{s:L Int}(a:aI s)(d:s.length<=1000):(dT s).Dc:=
 ⟨kV a 0 4 (by omega),(Qk a).1,(Qk a).2,Ck a 14,Ck a 12,fun b c=>a b (aZ0 (bAb c)),by
  show ((s.take (eY s+Rg s)).drop (eY s)).length<=1000;rw[aZL,aZF];omega,fun _=>⟨rfl,rfl,rfl,rfl,rfl⟩,fun g=>(by cases g)⟩
theorem aN9{s:L Int}(a:aI s){b:L aW}(h:(mT b).2=0):(dF s b).Dc:=
 ⟨kV a 0 4 (by omega),(Qk a).1,(Qk a).2,Ck a 14,Ck a 12,jL,aZX _,fun g=>(by cases g),fun _=>⟨rfl,h,kV a 16 4 (by omega),kV a 28 4 (by omega),kV a 32 4 (by omega),kV a 36 4 (by omega)⟩⟩
theorem Uv{s:L Int}(a:aI s)(k:Nat):aI ((s.take (eY s+k)).drop (eY s)):=fun b c=>a b (aZ0 (bAb c))
theorem aBb{s:L Int}(b:aI s)(g:s.length<=1000)(k:Nat)(f:k<s.length-eY s+1)(d:¬ s.length<eY s)(a:¬ (nN ((s.take (eY s+k)).drop (eY s))).2=0):Ls [0,1,1,0,1,1,0] 2 (EC (EV G (Tb (bs bb))) G h87l0 ⟨(sv s::jk 1 (.one (.ptr 0 0)::jk 1 (vi 3::.one (.ptr 1 0)::jk 1 (vi (eY s)::jk 1 (vb false::vi ((eY s:Int)+k)::jk 143 []))))),[.box P6,.box (dFc s (cI (.slice none 0 0)))]⟩)=some ⟨(sv s::jk 1 (.one (.ptr 0 0)::jk 1 (vi 3::.one (.ptr 1 0)::jk 1 (vi (eY s)::jk 1 (vb false::vi ((eY s:Int)+(k+1:Nat))::jk 143 []))))),[.box P6,.box (dFc s (cI (.slice none 0 0)))]⟩:=by
 have q:=Nu (G:=G) (B:=bs bb) _ (Uv b k);generalize nN ((s.take (eY s+k)).drop (eY s))=r at q a;obtain⟨h,e⟩:=r;simp only at a q;have c:(eY s:Int)+(k:Int)<=(s.length:Int):=by omega
 unfold dFc;simp (disch:=first|omega|(simp only[aZB,aZC,aZD,aZA,aA];omega)) only[go_sem,h87l0,eq_true c,q,a]
theorem aVD{s:L Int}(c:aI s)(e:s.length<=1000)(a:¬ s.length<eY s)(g:Cn s=s.length-eY s+1){st:AS}(b:st=⟨(sv s::jk 1 (.one (.ptr 0 0)::jk 1 (vi 3::.one (.ptr 1 0)::jk 1 (vi (eY s)::jk 1 (vb false::vi ((eY s:Int)+(0:Nat))::jk 143 []))))),[.box P6,.box (dFc s (cI (.slice none 0 0)))]⟩):EL (EV G (Tb (bs bb))) G h87l0 [0,1,1,0,1,1,0] 2 st=fnK (EV G (Tb (bs bb))) G h87l0 [0,1,1,0,1,1,0] 2 (EC (EV G (Tb (bs bb))) G h87l0 ⟨(sv s::jk 1 (.one (.ptr 0 0)::jk 1 (vi 3::.one (.ptr 1 0)::jk 1 (vi (eY s)::jk 1 (vb false::vi ((eY s:Int)+((s.length-eY s+1:Nat):Int))::jk 143 []))))),[.box P6,.box (dFc s (cI (.slice none 0 0)))]⟩):=by
 obtain⟨h,i,f⟩:=bD (fun j=>(nN ((s.take (eY s+j)).drop (eY s))).2=0) (s.length-eY s+1)
 exact aR (fun k=>⟨(sv s::jk 1 (.one (.ptr 0 0)::jk 1 (vi 3::.one (.ptr 1 0)::jk 1 (vi (eY s)::jk 1 (vb false::vi ((eY s:Int)+(k:Int))::jk 143 []))))),[.box P6,.box (dFc s (cI (.slice none 0 0)))]⟩) (s.length-eY s+1) b (fun k d=>aBb c e k d a (f k (by unfold Cn at g;omega)))
theorem aVE{s:List Int}(d:aI s)(p:s.length<=1000)(l:¬ s.length<eY s)(u:¬ Cn s=s.length-eY s+1){st:AS}(o:st=⟨(sv s::jk 1 (.one (.ptr 0 0)::jk 1 (vi 3::.one (.ptr 1 0)::jk 1 (vi (eY s)::jk 1 (vb false::vi ((eY s:Int)+(0:Nat))::jk 143 []))))),[.box P6,.box (dFc s (cI (.slice none 0 0)))]⟩):EL (EV G (Tb (bs bb))) G h87l0 [0,1,1,0,1,1,0] 2 st=fnK (EV G (Tb (bs bb))) G h87l0 [0,1,1,0,1,1,0] 2 (EC (EV G (Tb (bs bb))) G h87l0 ⟨(sv s::jk 1 (.one (.ptr 0 0)::jk 1 (vi 3::.one (.ptr 1 0)::jk 1 (vi (eY s)::jk 1 (vb true::vi ((eY s:Int)+((Cn s+1:Nat):Int))::jk 143 []))))),[.box P6,.box (dFc s (.dc (.slc ((rsR s).map aW.e))))]⟩):=by
 obtain⟨w,r,t⟩:=bD (fun j=>(nN ((s.take (eY s+j)).drop (eY s))).2=0) (s.length-eY s+1)
 have f:Cn s<s.length-eY s+1/\(nN ((s.take (eY s+Cn s)).drop (eY s))).2=0:=r.elim (fun h=>absurd h u) id
 have g:∀ j,j < Cn s->¬ (nN ((s.take (eY s+j)).drop (eY s))).2=0:=t;have b:(nN ((s.take (eY s+Cn s)).drop (eY s))).1=rsR s:=rfl;generalize Cn s=J at f g b ⊢;have e:=aR (call:=EV G (Tb (bs bb))) (G:=G) (a:=h87l0) (L:=[0,1,1,0,1,1,0]) (m:=2) (fun k=>if k<=J then ⟨(sv s::jk 1 (.one (.ptr 0 0)::jk 1 (vi 3::.one (.ptr 1 0)::jk 1 (vi (eY s)::jk 1 (vb false::vi ((eY s:Int)+(k:Int))::jk 143 []))))),[.box P6,.box (dFc s (cI (.slice none 0 0)))]⟩ else ⟨(sv s::jk 1 (.one (.ptr 0 0)::jk 1 (vi 3::.one (.ptr 1 0)::jk 1 (vi (eY s)::jk 1 (vb true::vi ((eY s:Int)+(k:Int))::jk 143 []))))),[.box P6,.box (dFc s (.dc (.slc ((rsR s).map aW.e))))]⟩) (J+1) (o.trans (if_pos (aZX _)).symm) (fun k v=>by
  by_cases c:k < J
  ·rw[if_pos (by omega),if_pos (by omega)];exact aBb d p k (by omega) l (g k c)
  ·have n:k=J:=by omega
   subst n;rw[if_pos (aZE _),if_neg (by omega)];have q:=Nu (G:=G) (B:=bs bb) _ (Uv d k);rw[f.2,b] at q;have i:(eY s:Int)+(k:Int)<=(s.length:Int):=by omega
   unfold dFc;simp (disch:=first | omega | (simp only[aZB,aZC,aZD,aZA,aA];omega)) only[go_sem,h87l0,eq_true i,q])
 rw[if_neg (by omega)] at e;exact e
end
section
variable {G:aF}{bb:Bool}
theorem D9:∀(a b:L aW)(c:Int),dR c (a++b)=dR c a++dR (a.foldl H4 c) b
 |[],_,_=>rfl
 |r::a,b,c=>by rw[aZT,dR,D9 a b,dR,aZS];rfl
theorem aHF(a:Int)(r:aW):(tR a r % 16+tR a r / 16).toNat=(D7 a r).length:=by
 have b:=uY r.n;have c:=uY (r.s-a);unfold tR D7;split;rw[aA];omega;rw[aZB,aA,aA];omega
theorem Nz(p L:List Int):(p++L).getD p.length 0=L.getD 0 0:=by
 rw[aZO,aZO,aZ1 (aZE _),bAs]
theorem Ql(l:L aW)(a:L Int):∀k,k<=l.length->Ep (dR 0 l++([0]++a)) k=(dR 0 (l.take k)).length/\∀j,j<k->(dR 0 l++([0]++a)).getD (Ep (dR 0 l++([0]++a)) j) 0≠0
 |0,_=>⟨rfl,fun j i=>by omega⟩
 | k+1,m=>by
  obtain⟨e,h⟩:=Ql l a k (by omega);have b:k < l.length:=by omega
  have f:l=l.take k++(l[k]::l.drop (k+1)):=by rw[<- bAv b,bAX]
  have g:dR 0 l=dR 0 (l.take k)++(tR ((l.take k).foldl H4 0) l[k]::(D7 ((l.take k).foldl H4 0) l[k]++dR (H4 ((l.take k).foldl H4 0) l[k]) (l.drop (k+1)))):=by
   conv=>lhs;rw[f]
   rw[D9,dR,sW];rfl
  have d:(dR 0 l++([0]++a)).getD (Ep (dR 0 l++([0]++a)) k) 0=tR ((l.take k).foldl H4 0) l[k]:=by
   rw[e]
   conv=>lhs;rw[g]
   rw[aZS,Nz];rfl
  refine⟨?_,fun j i=>?_⟩
  ·rw[Ep,d,aHF,e,bAA b,D9,aZB];show _=_+(dR _ [l[k]]).length;simp only[dR,sW,bAx,aZC];omega
  ·by_cases c:j < k
   ·exact h j c
   ·have:j=k:=by omega
    subst this;rw[d];exact Qb _ _
theorem aMe(l:L aW)(a:L Int):raV ((jH l).1++[0]++a)=(jH l).1++[0]:=by
 rw[Fh,aZS];obtain⟨b,f⟩:=Ql l a l.length (aZE _);rw[bAj] at b;have k:=Yo (dR 0 l++([0]++a)) l.length;have d:(dR 0 l++([0]++a)).length=(dR 0 l).length+1+a.length:=by simp only[aZB,aZC,aZD];omega
 have i:(dR 0 l++([0]++a)).getD (dR 0 l).length 0=0:=by rw[Nz];rfl
 have e:∀ j,j<=l.length->Ep (dR 0 l++([0]++a)) j < (dR 0 l++([0]++a)).length:=fun j c=>by
  have h3:=(Ql l a j c).1;have:(dR 0 (l.take j)).length<=(dR 0 l).length:=by
   conv=>rhs;rw[<- bAX j l,D9,aZB]
   omega
  omega
 have h:raE (dR 0 l++([0]++a))=l.length:=by
  unfold raE;refine aA7 (by omega) (.inr (by rw[b];exact i)) (fun j c g=>?_)
  rcases g with g|g;have:=e j (by omega);omega
  exact f j c g
 unfold raV;rw[h,if_pos (e _ (aZE _)),b];rw[<- aZS,bAT (by simp)]
theorem pA(p L:List Int)(k:Nat)(h:p.length<=k):(p++L).drop k=L.drop (k-p.length):=by
 rw[List.drop_append,List.drop_of_length_le h,aZP]
theorem H5(L:List Int)(k:Nat)(h:k=0):L.drop k=L:=by subst h;rfl
theorem aBc(s:L Int)(k:Nat)(h:k<s.length):s.getD k 0=gL s k 1:=by
 rw[cE s k h];unfold gL;rw[bAv h,bA4,bAQ];show s[k]=s[k]+256*0;omega
theorem pN(z L:List Int)(a k:Nat)(b:a=0)(h:z.length=k):gL (z++L) a k=gv z:=by subst b;exact Qh z L k h
theorem shT{a:aJ}(h:a.Dc)(c:a.res=true):gR a=bI a.ty 4++(bI (fA a) 4++(bI 0 1++(bI a.nm.length 1++(bI 24 2++(bI a.fl 2++(bI a.id 2++(bI a.va.length 4++(bI (cX a) 4++(a.nm++(List.replicate (cX a-24-a.nm.length) 0++(a.va++List.replicate (fA a-cX a-a.va.length) 0))))))))))):=by
 obtain⟨l,g,i,j,k⟩:=Gk a;have d:sS a=24:=by simp[sS,c]
 have b:qU a=a.va:=by simp[qU,c]
 have f:=uZ h;rw[d] at g;rw[b] at i k;unfold gR uV L5 Bl uU;rw[if_pos c,if_pos c,d,f,b];simp only[aZS];simp only[aZB,aA,aZI];have e:=aHv (1+(1+(2+(2+(2+(4+(4+(a.nm.length+((cX a-24-a.nm.length)+a.va.length))))))))) (fA a) (fA a-cX a-a.va.length) (by omega) j (by omega);rw[e];rfl
theorem shF{a:aJ}(h:a.Dc)(e:a.res=false):gR a=bI a.ty 4++(bI (fA a) 4++(bI 1 1++(bI a.nm.length 1++(bI 40 2++(bI a.fl 2++(bI a.id 2++(bI a.fi 4++(bI (a.fi+gQ a.rs-1) 4++(bI (cX a) 2++(List.replicate 2 0++(bI a.al 4++(bI a.sz 4++(bI a.vd 4++(a.nm++(List.replicate (cX a-40-a.nm.length) 0++(((jH a.rs).1++[0])++List.replicate (fA a-cX a-(qU a).length) 0)))))))))))))))):=by
 obtain⟨m,k,f,l,g⟩:=Gk a;have b:¬ a.res=true:=by rw[e];decide
 have d:sS a=40:=by simp[sS,e]
 have j:=uZ h;have c:T6 a=(jH a.rs).1++[0]:=by rw[T6,if_neg b]
 rw[<- j,c] at f g ⊢;rw[d] at k;unfold gR uV L5 Bl uU;rw[if_neg b,if_neg b,d,c,aA8];simp only[aZS];simp only[aZB,aA,aZI] at f g ⊢;have i:=aHv (1+(1+(2+(2+(2+(4+(4+(2+(2+(4+(4+(4+(a.nm.length+((cX a-40-a.nm.length)+((jH a.rs).1.length+[(0:Int)].length))))))))))))))) (fA a) (fA a-cX a-((jH a.rs).1.length+[(0:Int)].length)) (by omega) l (by omega);rw[i];rfl
theorem aVF{a:aJ}(h:a.Dc)(d:a.res=true):Cl (gR a)=true/\eY (gR a)=cX a/\qV (gR a)=a.nm.length/\Rg (gR a)=a.va.length/\(gR a).getD 8 0=0/\dT (gR a)=a/\(gR a).length=fA a/\24+a.nm.length<=cX a/\cX a+a.va.length<=fA a:=by
 obtain⟨I,w,x,J,D⟩:=Gk a;have u:sS a=24:=by simp[sS,d]
 have i:qU a=a.va:=by simp[qU,d]
 rw[u] at w;rw[i] at x D;have f:(gR a).length=fA a:=by rw[<- Aa h,nL a h.bd]
 have l:=h.ty;have B:=h.nl;have k:=h.id;have j:=h.fl;have C:=h.vl;have c:=shT h d;have H:gL (gR a) 8 1=0:=by
  rw[c];simp (disch:=first|omega|(simp only[aA]<;>omega)|fail) only[iI,pN,aA,Nat.reduceSub]
  rfl
 have r9:gL (gR a) 9 1=a.nm.length:=by
  rw[c];simp (disch:=first|omega|(simp only[aA]<;>omega)|fail) only[iI,pN,aA,Nat.reduceSub]
  exact gv1 _ (by omega)
 have E:gL (gR a) 0 4=a.ty:=by
  rw[c];simp (disch:=first|omega|(simp only[aA]<;>omega)|fail) only[iI,pN,aA,Nat.reduceSub]
  exact gv4 _ l
 have m:gL (gR a) 12 2=a.fl:=by
  rw[c];simp (disch:=first|omega|(simp only[aA]<;>omega)|fail) only[iI,pN,aA,Nat.reduceSub]
  exact gv2 _ j
 have n:gL (gR a) 14 2=a.id:=by
  rw[c];simp (disch:=first|omega|(simp only[aA]<;>omega)|fail) only[iI,pN,aA,Nat.reduceSub]
  exact gv2 _ k
 have F:gL (gR a) 16 4=a.va.length:=by
  rw[c];simp (disch:=first|omega|(simp only[aA]<;>omega)|fail) only[iI,pN,aA,Nat.reduceSub]
  exact gv4 _ (by omega)
 have b:(gR a).drop 24=a.nm++(List.replicate (cX a-24-a.nm.length) 0++(a.va++List.replicate (fA a-cX a-a.va.length) 0)):=by
  rw[c];simp (disch:=first|omega|(simp only[aA]<;>omega)|fail) only[pA,H5,aA,Nat.reduceSub]
 have o:(gR a).drop (cX a)=a.va++List.replicate (fA a-cX a-a.va.length) 0:=by
  have e:(gR a).drop (cX a)=((gR a).drop 24).drop (cX a-24):=by rw[bAE];congr 1;omega
  rw[e,b,pA _ _ _ (by omega),pA _ _ _ (by rw[aZI];omega),H5 _ _ (by rw[aZI];omega)]
 have v:(gR a).getD 8 0=0:=by rw[aBc _ _ (by omega),H]
 have r:Cl (gR a)=true:=by unfold Cl;rw[v];rfl
 have q:Nx (gR a)=24:=by unfold Nx;rw[r];rfl
 have g:qV (gR a)=a.nm.length:=by unfold qV;omega
 have p:eY (gR a)=cX a:=by unfold eY;rw[q,g];unfold cX;rw[u]
 have s:Rg (gR a)=a.va.length:=by unfold Rg;omega
 have A:Qi (gR a)=a.nm:=by unfold Qi;rw[q,g,bAS,b,show 24+a.nm.length-24=a.nm.length by omega,bAT];rfl
 refine⟨r,p,g,s,v,?_,f,w,x⟩;obtain⟨t1,y,t3,z,t5⟩:=h.t d;unfold dT;rw[A,p,s,E,m,n,bAS,o,show cX a+a.va.length-cX a=a.va.length by omega,bAT rfl];cases a;simp only at d t1 y t3 z t5;subst d;subst t1;subst y;subst t3;subst z;subst t5;rfl
theorem aVG{a:aJ}(h:a.Dc)(d:a.res=false):Cl (gR a)=false/\eY (gR a)=cX a/\qV (gR a)=a.nm.length/\(gR a).getD 8 0=1/\dF (gR a) a.rs=a/\(gR a).drop (cX a)=((jH a.rs).1++[0])++List.replicate (fA a-cX a-(qU a).length) 0/\ (gR a).length=fA a/\40+a.nm.length<=cX a/\cX a+((jH a.rs).1.length+1)<=fA a:=by
 obtain⟨N,y,O,P,Q⟩:=Gk a;have v:sS a=40:=by simp[sS,d]
 have H:=uZ h;have B:T6 a=(jH a.rs).1++[0]:=by rw[T6,if_neg (by rw[d];decide)]
 have I:(qU a).length=(jH a.rs).1.length+1:=by rw[<- H,B];simp
 rw[v] at y;have g:(gR a).length=fA a:=by rw[<- Aa h,nL a h.bd]
 have l:=h.ty;have J:=h.nl;have k:=h.id;have j:=h.fl;obtain⟨w,M,C,D,E,F⟩:=h.f d;have b:=shF h d;have L:gL (gR a) 8 1=1:=by
  rw[b];simp (disch:=first|omega|(simp only[aA,aZI]<;>omega)|fail) only[iI,pN,aA,aZI,Nat.reduceSub]
  rfl
 have r9:gL (gR a) 9 1=a.nm.length:=by
  rw[b];simp (disch:=first|omega|(simp only[aA,aZI]<;>omega)|fail) only[iI,pN,aA,aZI,Nat.reduceSub]
  exact gv1 _ (by omega)
 have K:gL (gR a) 0 4=a.ty:=by
  rw[b];simp (disch:=first|omega|(simp only[aA,aZI]<;>omega)|fail) only[iI,pN,aA,aZI,Nat.reduceSub]
  exact gv4 _ l
 have m:gL (gR a) 12 2=a.fl:=by
  rw[b];simp (disch:=first|omega|(simp only[aA,aZI]<;>omega)|fail) only[iI,pN,aA,aZI,Nat.reduceSub]
  exact gv2 _ j
 have n:gL (gR a) 14 2=a.id:=by
  rw[b];simp (disch:=first|omega|(simp only[aA,aZI]<;>omega)|fail) only[iI,pN,aA,aZI,Nat.reduceSub]
  exact gv2 _ k
 have o:gL (gR a) 16 4=a.fi:=by
  rw[b];simp (disch:=first|omega|(simp only[aA,aZI]<;>omega)|fail) only[iI,pN,aA,aZI,Nat.reduceSub]
  exact gv4 _ C
 have p:gL (gR a) 28 4=a.al:=by
  rw[b];simp (disch:=first|omega|(simp only[aA,aZI]<;>omega)|fail) only[iI,pN,aA,aZI,Nat.reduceSub]
  exact gv4 _ D
 have q:gL (gR a) 32 4=a.sz:=by
  rw[b];simp (disch:=first|omega|(simp only[aA,aZI]<;>omega)|fail) only[iI,pN,aA,aZI,Nat.reduceSub]
  exact gv4 _ E
 have r:gL (gR a) 36 4=a.vd:=by
  rw[b];simp (disch:=first|omega|(simp only[aA,aZI]<;>omega)|fail) only[iI,pN,aA,aZI,Nat.reduceSub]
  exact gv4 _ F
 have c:(gR a).drop 40=a.nm++(List.replicate (cX a-40-a.nm.length) 0++(((jH a.rs).1++[0])++List.replicate (fA a-cX a-(qU a).length) 0)):=by
  rw[b];simp (disch:=first|omega|(simp only[aA,aZI]<;>omega)|fail) only[pA,H5,aA,aZI,Nat.reduceSub]
 have s:(gR a).drop (cX a)=((jH a.rs).1++[0])++List.replicate (fA a-cX a-(qU a).length) 0:=by
  have e:(gR a).drop (cX a)=((gR a).drop 40).drop (cX a-40):=by rw[bAE];congr 1;omega
  rw[e,c,pA _ _ _ (by omega),pA _ _ _ (by rw[aZI];omega),H5 _ _ (by rw[aZI];omega)]
 have x:(gR a).getD 8 0=1:=by rw[aBc _ _ (by omega),L]
 have u:Cl (gR a)=false:=by unfold Cl;rw[x];rfl
 have t:Nx (gR a)=40:=by unfold Nx;rw[u];rfl
 have i:qV (gR a)=a.nm.length:=by unfold qV;omega
 have z:eY (gR a)=cX a:=by unfold eY;rw[t,i];unfold cX;rw[v]
 have A:Qi (gR a)=a.nm:=by unfold Qi;rw[t,i,bAS,c,show 40+a.nm.length-40=a.nm.length by omega,bAT];rfl
 refine⟨u,z,i,x,?_,s,g,y,by omega⟩;unfold dF;rw[A,K,m,n,o,p,q,r];cases a;simp only at d w;subst d;subst w;rfl
theorem Uw{a:aJ}(h:a.Dc):qW (gR a)=(a,true):=by
 cases e:a.res with
 |true=>
  obtain⟨b,c,j,g,i,d,k,l,m⟩:=aVF h e;unfold qW;rw[if_neg (by omega),c,if_neg (by omega),if_pos b,g,if_neg (by omega),d]
 |false=>
  obtain⟨b,c,j,g,i,d,k,l,m⟩:=aVG h e;have n:=(h.f e).2.1;unfold qW;rw[if_neg (by omega),c,if_neg (by omega),if_neg (by rw[b];decide),d,aMe,Qd n,i];rfl
theorem aHG{a:aJ}(h:a.Dc)(x:(gR a).length<=440):Kv (gR a)=Uu a (gR a):=by
 unfold Kv;rw[if_neg (by omega)];cases q:a.res with
 |true=>
  obtain⟨d,e,i,k,l,m,t,u,v⟩:=aVF h q;have n:Nx (gR a)=24:=by unfold Nx;rw[d];rfl
  have r:¬ aDv (gR a):=by
   unfold aDv;rw[l];omega
  rw[if_neg r,n,i,if_neg (by omega),e,if_neg (by omega),if_pos d,k,if_neg (by omega),m]
 |false=>
  obtain⟨d,e,i,k,l,m,t,u,v⟩:=aVG h q;have p:=(h.f q).2.1;have n:Nx (gR a)=40:=by unfold Nx;rw[d];rfl
  have r:¬ aDv (gR a):=by
   unfold aDv;rw[k];omega
  have b:∀ j,((gR a).take (eY (gR a)+j)).drop (eY (gR a))=(((jH a.rs).1++[0])++List.replicate (fA a - cX a - (qU a).length) 0).take j:=fun j=>by
   rw[bAS,e,m];congr 1;omega
  have c:(((jH a.rs).1++[0])++List.replicate (fA a-cX a-(qU a).length) 0).take ((jH a.rs).1.length+1)=(jH a.rs).1++[0]:=bAT (by simp);have s:Cn (gR a)=(jH a.rs).1.length+1:=by
   unfold Cn;refine aA7 (by rw[e];omega) ?_ (fun j w g=>?_)
   rw[b,c,Qd p];rw[b,bAZ (by simp;omega)] at g;exact aQU p j w g
  have o:rsR (gR a)=a.rs:=by
   unfold rsR;rw[s,b,c,Qd p]
  rw[if_neg r,n,i,if_neg (by omega),e,if_neg (by omega),if_neg (by rw[d];decide),s,if_neg (by omega),o,l]
theorem aQX{s:L Int}(f:aI s)(n:s.length<=1000):bL s=Kv s:=by
 by_cases b:s.length > 440;unfold bL Kv;rw[if_pos b,if_pos b];by_cases a:(qW s).2=true/\tP (qW s).1=s;have m:=Qj f n a.1;have d:=Aa m;have l:=aHG m (by rw[<- d,a.2];omega);rw[<- d,a.2] at l;rw[l];unfold bL Uu;rw[if_neg b,if_neg (fun g=>g.elim (fun g=>by rw[a.1] at g;cases g) (fun g=>g a.2)),if_neg (show ¬ gR (qW s).1≠s from fun g=>g (by rw[<- d];exact a.2))]
 have o:bL s=(aJ.nil,3):=by
  unfold bL;rw[if_neg b,if_pos];by_cases k:(qW s).2=true;exact .inr (fun g=>a ⟨k,g⟩)
  exact .inl (by simpa using k)
 have c:∀ x:aJ,x.Dc->Uu x s=(aJ.nil,3):=fun x c=>by
  unfold Uu;rw[if_pos];intro g;have e:=Uw c;rw[g] at e;exact a ⟨by rw[e],by rw[e];show tP x=s;rw[Aa c,g]⟩
 rw[o];unfold Kv;rw[if_neg b];split;rfl;split;rfl;split;rfl;split;split;rfl;exact (c _ (aN8 f n)).symm;split;rfl;rename_i q;have i:(mT (rsR s)).2=0:=by
  obtain⟨r,p,t⟩:=bD (fun j=>(nN ((s.take (eY s+j)).drop (eY s))).2=0) (s.length-eY s+1)
  exact Kt (p.elim (fun h=>absurd h q) (fun h=>h.2))
 exact (c _ (aN9 f i)).symm
end
section
variable {G:aF}{bb:Bool}
theorem Yp(s:L Int)(n:aI s)(hl:s.length<=1000):EV G (Tb (bs bb)) 87 [sv s] []=some (rtv (Kv s),[]):=by
 refine aB rfl ?_;unfold Kv;by_cases c0:s.length > 440;rw[if_pos c0];have a:440<(s.length:Int):=by omega
 simp only[aJ.nil];simp (disch:=first|omega|(simp only[aZB,aZC,aZD,aZA,aA];omega)) only[go_sem,h87c,eq_true a,aG,aZN]
 rfl;rw[if_neg c0];have a:¬ 440<(s.length:Int):=by omega
 by_cases c1:s.length<24;rw[if_pos (.inl c1)];have d:(s.length:Int)<24:=by omega
 simp only[aJ.nil];simp (disch:=first|omega|(simp only[aZB,aZC,aZD,aZA,aA];omega)) only[go_sem,h87c,a,eq_true d,aG,aZN]
 rfl;have d:¬ (s.length:Int)<24:=by omega
 have hx:=n _ (aZK (show 8<s.length by omega));have q:=iA _ hx;have N:s.getD 8 0=s[8]:=cE s 8 (by omega);have P:=n _ (aZK (show 9<s.length by omega));have i:=iA _ P;have b9:=Qg n 9;have A:s[9]=(qV s:Int):=by
  have:gL s 9 1=s[9]:=by
   unfold gL;rw[bAv (by omega),bA4,bAQ];show s[9]+256*0=s[9];omega
  unfold qV;omega
 rw[A] at i P;by_cases T:1<s[8];rw[if_pos (.inr (.inl (by rw[N];exact T)))];simp only[aJ.nil];simp (disch:=first|omega|(simp only[aZB,aZC,aZD,aZA,aA];omega)) only[go_sem,h87c,a,d,aG,aZN,Int.reduceToNat,aZU,q,eq_true T]
 rfl;by_cases J:s[8]=1/\s.length<40;rw[if_pos (.inr (.inr (by rw[N];exact J)))];obtain⟨J,c4⟩:=J;have U:(s.length:Int)<40:=by omega
 rw[J] at q;simp only[aJ.nil];simp (disch:=first|omega|(simp only[aZB,aZC,aZD,aZA,aA];omega)) only[go_sem,h87c,a,d,aG,aZN,Int.reduceToNat,aZU,q,J,eq_true U,Int.lt_irrefl]
 rfl;have nb:¬ aDv s:=by
  intro h;rcases h with h|h|h
  exact c1 h;rw[N] at h;exact T h;rw[N] at h;exact J h
 rw[if_neg nb];have F:EV G (Tb (bs bb)) 85 [sv s,vi 0,vi 4] []=some (vi (gL s 0 4),[]):=cW s n 0 4 (by omega) (by omega) (by omega);have l:EV G (Tb (bs bb)) 85 [sv s,vi 14,vi 2] []=some (vi (gL s 14 2),[]):=cW s n 14 2 (by omega) (by omega) (by omega);have k:EV G (Tb (bs bb)) 85 [sv s,vi 12,vi 2] []=some (vi (gL s 12 2),[]):=cW s n 12 2 (by omega) (by omega) (by omega);have t:EV G (Tb (bs bb)) 85 [sv s,vi 16,vi 4] []=some (vi (gL s 16 4),[]):=cW s n 16 4 (by omega) (by omega) (by omega);have S:=kV n 16 4 (by omega);cases I:Cl s with
 |true=>
  have e:s[8]=0:=by unfold Cl at I;rw[N] at I;simpa using I
  rw[e] at q;have D:Nx s=24:=by unfold Nx;rw[I];rfl
  have V:gL s 16 4=(Rg s:Int):=by unfold Rg;omega
  have eA:eY s=(24+qV s+7) / 8*8:=by unfold eY;rw[D]
  have B:=mB (G:=G) (bb:=bb) (24+qV s) (by omega);rw[bAu,show ((24:Nat):Int)=24 from rfl] at B
  have m:(8:Int)*(((24+qV s+7) / 8:Nat):Int)=((eY s:Nat):Int):=by omega
  rw[D];rw[V] at t S;by_cases O:s.length<24+qV s;rw[if_pos O];have f:(s.length:Int)<24+(qV s:Int):=by omega
  simp only[aJ.nil];simp (disch:=first|omega|(simp only[aZB,aZC,aZD,aZA,aA];omega)) only[go_sem,h87c,a,d,aG,aZN,Int.reduceToNat,aZU,q,e,A,i,F,l,k,eq_true f,Int.reduceLT]
  rfl;rw[if_neg O];have f:¬ (s.length:Int)<24+(qV s:Int):=by omega
  have H:(24+(qV s:Int)).toNat=24+qV s:=by omega
  by_cases K:s.length<eY s;rw[if_pos K];have g:(s.length:Int)<(eY s:Int):=by omega
  simp only[aJ.nil];simp (disch:=first|omega|(simp only[aZB,aZC,aZD,aZA,aA];omega)) only[go_sem,h87c,a,d,aG,aZN,Int.reduceToNat,aZU,q,e,A,i,F,l,k,f,Int.reduceLT,B,m,eq_true g,H]
  rfl;rw[if_neg K];have g:¬ (s.length:Int)<(eY s:Int):=by omega
  rw[if_pos rfl];by_cases d3:s.length<eY s+Rg s;rw[if_pos d3];have u:(s.length:Int)<(eY s:Int)+(Rg s:Int):=by omega
  simp only[aJ.nil];simp (disch:=first|omega|(simp only[aZB,aZC,aZD,aZA,aA];omega)) only[go_sem,h87c,a,d,aG,aZN,Int.reduceToNat,aZU,q,e,A,i,F,l,k,f,Int.reduceLT,B,m,g,H,t,eq_true u]
  rfl;rw[if_neg d3];have u:¬ (s.length:Int)<(eY s:Int)+(Rg s:Int):=by omega
  have p:=aN8 n hl;have r:=aHA (G:=G) (bb:=bb) (dT s) p;have z:=X7 (G:=G) (bb:=bb) (dT s) p.w;have o:=cR (D8 p) n;unfold Uu;generalize gR (dT s)=R at r o ⊢;generalize gI (dT s)=E at z ⊢;simp only[dT,Qi,D,aJ.v,aJ.c,aZN] at r z;by_cases C:R=s;rw[if_neg (fun h=>h C)]
  rw[eq_true C] at o;by_cases x:E=0;rw[if_neg (fun h=>h x)]
  simp (disch:=first|omega|(simp only[aZB,aZC,aZD,aZA,aA];omega)) only[go_sem,h87c,a,d,aG,aZN,Int.reduceToNat,aZU,q,e,A,i,F,l,k,f,Int.reduceLT,B,m,g,H,t,u,r,o,z,x]
  unfold dT Qi;rw[D];rfl;rw[if_pos x];simp only[aJ.nil];simp (disch:=first|omega|(simp only[aZB,aZC,aZD,aZA,aA];omega)) only[go_sem,h87c,a,d,aG,aZN,Int.reduceToNat,aZU,q,e,A,i,F,l,k,f,Int.reduceLT,B,m,g,H,t,u,r,o,z,x]
  rfl;rw[if_pos C];rw[eq_false C] at o;simp only[aJ.nil];simp (disch:=first|omega|(simp only[aZB,aZC,aZD,aZA,aA];omega)) only[go_sem,h87c,a,d,aG,aZN,Int.reduceToNat,aZU,q,e,A,i,F,l,k,f,Int.reduceLT,B,m,g,H,t,u,r,o]
  rfl
 |false=>
  have hr8':¬ s[8]=0:=by unfold Cl at I;rw[N] at I;simpa using I
  have e:s[8]=1:=by omega
  have h40:¬ s.length<40:=fun h=>J ⟨e,h⟩
  have y:¬ (s.length:Int)<40:=by omega
  rw[e] at q;have D:Nx s=40:=by unfold Nx;rw[I];rfl
  have eA:eY s=(40+qV s+7) / 8*8:=by unfold eY;rw[D]
  have B:=mB (G:=G) (bb:=bb) (40+qV s) (by omega);rw[bAu,show ((40:Nat):Int)=40 from rfl] at B
  have m:(8:Int)*(((40+qV s+7) / 8:Nat):Int)=((eY s:Nat):Int):=by omega
  rw[D];by_cases O:s.length<40+qV s;rw[if_pos O];have f:(s.length:Int)<40+(qV s:Int):=by omega
  simp only[aJ.nil];simp (disch:=first|omega|(simp only[aZB,aZC,aZD,aZA,aA];omega)) only[go_sem,h87c,a,d,aG,aZN,Int.reduceToNat,aZU,q,e,A,i,F,l,k,y,eq_true f,Int.reduceLT]
  rfl;rw[if_neg O];have f:¬ (s.length:Int)<40+(qV s:Int):=by omega
  have H:(40+(qV s:Int)).toNat=40+qV s:=by omega
  by_cases K:s.length<eY s;rw[if_pos K];have g:(s.length:Int)<(eY s:Int):=by omega
  simp only[aJ.nil];simp (disch:=first|omega|(simp only[aZB,aZC,aZD,aZA,aA];omega)) only[go_sem,h87c,a,d,aG,aZN,Int.reduceToNat,aZU,q,e,A,i,F,l,k,y,f,Int.reduceLT,B,m,eq_true g,H]
  rfl;rw[if_neg K];have g:¬ (s.length:Int)<(eY s:Int):=by omega
  rw[if_neg (by decide)];have W:EV G (Tb (bs bb)) 85 [sv s,vi 28,vi 4] []=some (vi (gL s 28 4),[]):=cW s n 28 4 (by omega) (by omega) (by omega);have X:EV G (Tb (bs bb)) 85 [sv s,vi 32,vi 4] []=some (vi (gL s 32 4),[]):=cW s n 32 4 (by omega) (by omega) (by omega);have Y:EV G (Tb (bs bb)) 85 [sv s,vi 36,vi 4] []=some (vi (gL s 36 4),[]):=cW s n 36 4 (by omega) (by omega) (by omega);simp (disch:=first|omega|(simp only[aZB,aZC,aZD,aZA,aA];omega)) only[go_sem,h87c,a,d,aG,aZN,Int.reduceToNat,aZU,q,e,A,i,F,l,k,y,f,Int.reduceLT,B,m,g,H,t,W,X,Y]
  by_cases Q:Cn s=s.length-eY s+1
  ·rw[if_pos Q,aVD n hl K Q ?_]
   rotate_left
   unfold dFc Qi;rw[D];simp only[bA5,Int.add_zero];rfl;have c:¬ (eY s:Int)+((s.length-eY s+1:Nat):Int)<=(s.length:Int):=by omega
   generalize ((s.length-eY s+1:Nat):Int)=w at c;simp only[aJ.nil];simp (disch:=first|omega|(simp only[aZB,aZC,aZD,aZA,aA];omega)) only[go_sem,h87l0,c]
   rfl
  ·rw[if_neg Q,aVE n hl K Q ?_]
   rotate_left
   unfold dFc Qi;rw[D];simp only[bA5,Int.add_zero];rfl;have Z:(mT (rsR s)).2=0:=by
    obtain⟨j1,j2,j3⟩:=bD (fun j=>(nN ((s.take (eY s+j)).drop (eY s))).2=0) (s.length-eY s+1)
    exact Kt (j2.elim (fun h=>absurd h Q) (fun h=>h.2))
   have p:=aN9 n Z;have r:=aHA (G:=G) (bb:=bb) (dF s (rsR s)) p;have z:=X7 (G:=G) (bb:=bb) (dF s (rsR s)) p.w;have o:=cR (D8 p) n;unfold Uu;generalize gR (dF s (rsR s))=R at r o ⊢;generalize gI (dF s (rsR s))=E at z ⊢;generalize ((Cn s+1:Nat):Int)=w;simp only[dF,aJ.v,aJ.c] at r z;unfold dFc;have cw:∀b:Bool,(b&&false)=false:=fun b=>by cases b<;>rfl
   by_cases M:(eY s:Int)+w<=(s.length:Int);all_goals
    by_cases C:R=s;rw[if_neg (fun h=>h C)]
    rw[eq_true C] at o;by_cases x:E=0;rw[if_neg (fun h=>h x)]
    first
     |(simp (disch:=first|omega|(simp only[aZB,aZC,aZD,aZA,aA];omega)) only[go_sem,h87l0,eq_true M,r,o,z,x];rfl)
     |(simp (disch:=first|omega|(simp only[aZB,aZC,aZD,aZA,aA];omega)) only[go_sem,h87l0,M,r,o,z,x];rfl)
    rw[if_pos x];simp only[aJ.nil];first
     |(simp (disch:=first|omega|(simp only[aZB,aZC,aZD,aZA,aA];omega)) only[go_sem,h87l0,eq_true M,r,o,z,x];rfl)
     |(simp (disch:=first|omega|(simp only[aZB,aZC,aZD,aZA,aA];omega)) only[go_sem,h87l0,M,r,o,z,x];rfl)
    rw[if_pos C];rw[eq_false C] at o;simp only[aJ.nil];first
     |(simp (disch:=first|omega|(simp only[aZB,aZC,aZD,aZA,aA];omega)) only[go_sem,h87l0,eq_true M,r,o];rfl)
     |(simp (disch:=first|omega|(simp only[aZB,aZC,aZD,aZA,aA];omega)) only[go_sem,h87l0,M,r,o];rfl)
