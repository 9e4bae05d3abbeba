/- Part. Conditions: none. -/
import Derived.Test.YtalhnjjchkmfeaaGreatDoorVo
import Derived.Test.YtalhnjjchkmfeaaGreatDoorTf
import Derived.Test.YtalhnjjchkmfeaaGreatDoorTu
namespace Go.Proofs.YtalhnjjchkmfeaaGreatDoor
set_option maxHeartbeats 8000000
set_option linter.unusedSimpArgs false
set_option linter.unusedVariables false
set_option maxRecDepth 4000
section
variable {G:aF}{bb:Bool}
theorem aHC(a:aI)(b:a.rs.length<=1000000):EV G (Tb (bs bb)) 173 [a.v] []=some (a.v,[]):=by
 refine aB rfl ?_;have q:=aAU (G:=G) (bb:=bb) a.rs b;simp (disch:=omega) only[go_sem,h173c,q,aI.v,aZz]
abbrev lev(l:L aI)(e:Int):AV:=.tup [.one (.dc (.slc (l.map aI.e))),.one (.dc (ci e))]
theorem aHD(l:L aI)(o:∀a∈l,a.W)(p:l.length<=1000):EV G (Tb (lA bb)) 121 [vl (l.map aI.e)] []=some (lev (if Ui l=0 then fJ l else []) (Ui l),[]):=by
 refine aB rfl ?_;unfold Ui;by_cases t:l.length > 32;rw[if_pos t];have i:32<(l.length:Int):=by omega
 simp (disch:=omega) only[go_sem,h121c,aZz,eq_true i];rfl;rw[if_neg t];have i:¬ 32<(l.length:Int):=by omega
 simp (disch:=omega) only[go_sem,h121c,aZz,i];rw[dQ (fun k=>⟨(vl (l.map aI.e)::jk 3 (.one (.bld 0 ((l.take k).map aI.e).length)::jk 6 (vl (l.map aI.e)::vi l.length::vi k::jk 19 []))),[.arr 0 11 ((l.take k).map aI.e)]⟩) (fun k=>kT l k≠0) l.length ?_ ?_]
 rotate_left
 rfl;intro k g r;have h:=Classical.not_not.1 (r k (aZE _));have q:=up (D9 (G:=G) (bb:=bb) l o p k g);rw[h] at q;have E:=up (aHC (G:=G) (bb:=bb) l[k] (by have:=(o _ (aZG g)).rl;omega));have z:((l.take k).map aI.e).length<=1000:=by rw[aZz,aZD];omega
 have c:=aAV (l.take k);rw[aVo l k g];generalize (l.take k).map aI.e=C at z c ⊢;simp (disch:=omega) only[go_sem,h121l0,aZz,ixA,aI.e,q,E,c];rw[aZA];rfl;obtain⟨g,hp,r⟩:=bF (fun k=>kT l k≠0) l.length
 generalize ix (fun k=>kT l k≠0) l.length=k at *
 rcases hp with rfl|⟨d,h⟩;rw[if_neg (Nat.lt_irrefl _),if_pos rfl,bAi];have D:(l.map aI.id).Nodup:=((A7 l).1 (fun j B=>Classical.not_not.1 (r j B))).2
 by_cases m:l=[]
 ·subst m;have q:=aMe (G:=G) (b:=bb);simp (disch:=omega) only[go_sem,h121l0,aZC,aZM,List.isEmpty_nil,q];first|done|rfl
 have f:0<l.length:=List.length_pos_iff.2 m;have q:=aMd (G:=G) (b:=bb) l D p f;have x:(l.map aI.e).isEmpty=false:=by cases l with|nil=>exact absurd rfl m|cons _ _=>rfl
 have y:=Ad l;obtain⟨u,v,w⟩:=aMc (s:=11) (n:=l.length) (es:=(fJ l).map aI.e) (fun e A=>by obtain⟨a,_,rfl⟩:=List.mem_map.1 A;rfl) (by rw[aZz,y])
 unfold lev;generalize (fJ l).map aI.e=M at *;simp (disch:=omega) only[go_sem,h121l0,aZz,q,x,u,v,w,Px,Nat.zero_mul,bAq];rw[if_pos d,if_neg h];have q:=up (D9 (G:=G) (bb:=bb) l o p k d);simp (disch:=omega) only[go_sem,h121l0,aZz,ixA,aI.e,q,h];rfl
theorem aHE(l:L aI)(c:∀a∈l,a.W)(f:l.length<=1000):EV G (Tb (bs bb)) 35 [vl (l.map aI.e),vl (l.map aI.e)] []=some (vb true,[]):=by
 refine aB rfl ?_;simp (disch:=omega) only[go_sem,h35c,aZz];rw[aT (fun k=>⟨(vl (l.map aI.e)::vl (l.map aI.e)::jk 3 (vi k::jk 21 [])),[]⟩) l.length ?_ ?_]
 simp (disch:=omega) only[go_sem,h35l0,aZz];rfl;intro k d;have b:=c _ (aZG d);have q:=aL5 (G:=G) (bb:=bb) l[k] l[k] b b;rw[(aDm _ _).2 rfl] at q;simp (disch:=omega) only[go_sem,h35l0,aZz,ixA,aI.e,q]
end
section
variable {G:aF}{bb:Bool}
theorem aQU(a:aI)(h:a.Dc)(b:a.res=true):EV G (Tb (bs bb)) 126 [a.v] []=some (sv (gQ a),[]):=by
 refine aB rfl ?_;obtain⟨s,u,w,x,y,z,B,C,D,g,i,j,k⟩:=h.bd;have E:=h.ty;have F:=h.nl;have H:=h.id;have I:=h.fl;obtain⟨P,Q,S,T,U⟩:=h.t b;have V:=h.vl;have c:sU a=24:=by simp[sU,b]
 have K:24+a.nm.length<=cZ a/\cZ a<=2000:=by simp only[cZ,c];omega
 have e:=mB (G:=G) (bb:=bb) (24+a.nm.length) (by omega);have n:(8:Int)*(((24+a.nm.length+7) / 8:Nat):Int)=((cZ a:Nat):Int):=by simp only[cZ,c];omega
 rw[bAu,show ((24:Nat):Int)=24 from rfl] at e
 have L:eY a<=4000/\8<=eY a/\eY a % 8=0:=by
  have:qU a=a.va:=by simp[qU,b]
  simp only[eY,this];omega
 have M:(Ab a).length=eY a-8:=by
  have J:=sV a;rw[Ab,Aa,Af h];simp only[aZA,aZH];simp only[eY];have:cZ a % 8=0:=by unfold cZ;omega
  omega
 have r:=mD (G:=G) (bb:=bb) (cZ a-24-a.nm.length) (by omega);have l:((cZ a:Nat):Int)-24-(a.nm.length:Int)=((cZ a-24-a.nm.length:Nat):Int):=by omega
 have p:L6 a=Bo a++bJ a.va.length 4++bJ (cZ a) 4:=by rw[L6,if_pos b]
 have O:(Bo a).length=8:=by simp only[Bo,aZA,aA]
 have q:Ab a=Aa (Bo a++bJ a.va.length 4++bJ (cZ a) 4++a.nm++List.replicate (cZ a-24-a.nm.length) 0++a.va):=by rw[Ab,p,c,T2,if_pos b]
 have o:Bo a=bJ 0 1++bJ a.nm.length 1++bJ 24 2++bJ a.fl 2++bJ a.id 2:=by rw[Bo,if_pos b,c];rfl
 have d:=D4 (G:=G) (bb:=bb) (Bo a++bJ a.va.length 4++bJ (cZ a) 4++a.nm++List.replicate (cZ a-24-a.nm.length) 0++a.va) (by simp only[aZA,aA,aZH];omega);rw[<- q] at d;have f:=mB (G:=G) (bb:=bb) ((Ab a).length+8) (by omega);rw[bAu,show ((8:Nat):Int)=8 from rfl] at f
 have m:(8:Int)*((((Ab a).length+8+7) / 8:Nat):Int)=((eY a:Nat):Int):=by omega
 rw[o] at d;unfold gQ;generalize Ab a=R at *;generalize cZ a=A at *;generalize eY a=N at *;simp (disch:=first|omega|(simp only[aZA,aZB,aZC,aZz,aA,aZH]<;>omega)) only[go_sem,h126c,b,aG,aAS,e,n,H4,mC,qJ,r,l,d,f,m,bAy,aZH]
theorem aQV(a:aI)(h:a.Dc)(d:a.res=false):EV G (Tb (bs bb)) 126 [a.v] []=some (sv (gQ a),[]):=by
 refine aB rfl ?_;obtain⟨E,F,H,I,J,K,L,M,O,l,m,n,o⟩:=h.bd;have b:¬ a.res=true:=by rw[d];decide
 have T:=h.ty;have U:=h.nl;have V:=h.id;have W:=h.fl;obtain⟨r2,g,r3,r5,r6,r7⟩:=h.f d;obtain⟨P,Q,S⟩:=Ka g;have c:sU a=40:=by simp[sU,d]
 have s:=Af h;have i:T2 a=(jI a.rs).1++[0]:=by rw[T2,if_neg b]
 have Z:=Kb g;have x:(qU a).length=(jI a.rs).1.length+1:=by rw[<- s,i];simp
 have Y:40+a.nm.length<=cZ a/\cZ a<=2000:=by simp only[cZ,c];omega
 have j:=mB (G:=G) (bb:=bb) (40+a.nm.length) (by omega);have r:(8:Int)*(((40+a.nm.length+7) / 8:Nat):Int)=((cZ a:Nat):Int):=by simp only[cZ,c];omega
 rw[bAu,show ((40:Nat):Int)=40 from rfl] at j
 have hs:eY a<=4000/\8<=eY a/\eY a % 8=0:=by
  simp only[eY];omega
 have hz:(Ab a).length=eY a-8:=by
  have X:=sV a;rw[Ab,Aa,Af h];simp only[aZA,aZH];simp only[eY];have:cZ a % 8=0:=by unfold cZ;omega
  omega
 have y:=mD (G:=G) (bb:=bb) (cZ a-40-a.nm.length) (by omega);have p:((cZ a:Nat):Int)-40-(a.nm.length:Int)=((cZ a-40-a.nm.length:Nat):Int):=by omega
 have z:=Ni (G:=G) (B:=bs bb) a.rs g;have C:=rM (G:=G) (B:=bs bb) a.rs (by omega);have D:=Gm (G:=G) (B:=bs bb) (a.fi+gP a.rs-1) 4294967296 (by omega);have l1:(Bo a).length=8:=by simp only[Bo,aZA,aA]
 have t:Bo a=bJ 1 1++bJ a.nm.length 1++bJ 40 2++bJ a.fl 2++bJ a.id 2:=by rw[Bo,if_neg b,c];rfl
 have u:L6 a=Bo a++bJ a.fi 4++bJ ((a.fi+gP a.rs-1) % 4294967296) 4++bJ (cZ a) 2++[0,0]++bJ a.al 4++bJ a.sz 4++bJ a.vd 4:=by rw[L6,if_neg b];rfl
 have l2:=sV a;have w:Ab a=Aa (L6 a++a.nm++List.replicate (cZ a-40-a.nm.length) 0++((jI a.rs).1++[0])):=by rw[Ab,c,i]
 have e:=D4 (G:=G) (bb:=bb) (L6 a++a.nm++List.replicate (cZ a-40-a.nm.length) 0++((jI a.rs).1++[0])) (by simp only[aZA,aZH,bBe];omega);rw[<- w] at e;have k:=mB (G:=G) (bb:=bb) ((Ab a).length+8) (by omega);rw[bAu,show ((8:Nat):Int)=8 from rfl] at k
 have q:(8:Int)*((((Ab a).length+8+7) / 8:Nat):Int)=((eY a:Nat):Int):=by omega
 rw[u,t] at e;unfold gQ;generalize Ab a=R at *;generalize cZ a=A at *;generalize eY a=N at *;have hm:0<=(a.fi+gP a.rs-1) % 4294967296/\(a.fi+gP a.rs-1) % 4294967296<=4294967296:=by omega
 simp (disch:=first|omega|(simp only[aZA,aZB,aZC,aZz,aA,aZH]<;>omega)) only[go_sem,h126c,d,aG,aAS,j,r,H4,mC,qJ,T4,y,p,e,k,q,z,C,D,bAy,aZH]
theorem aHF(a:aI)(h:a.Dc):EV G (Tb (bs bb)) 126 [a.v] []=some (sv (gQ a),[]):=by
 cases b:a.res with
 |true=>exact aQU a h b
 |false=>exact aQV a h b
end
section
variable {G:aF}{bb:Bool}
def Eu(s:L Int):Nat->Nat
 |0=>0
 |k+1=>Eu s k+1+(s.getD (Eu s k) 0 % 16+s.getD (Eu s k) 0 / 16).toNat
noncomputable def raE(s:L Int):Nat:=ix (fun k=>s.length<=Eu s k\/s.getD (Eu s k) 0=0) (s.length+1)
noncomputable def raV(s:L Int):L Int:=if Eu s (raE s)<s.length then s.take (Eu s (raE s)+1) else s
theorem Yo(s:L Int):∀k,k<=Eu s k
 |0=>aZE _
 |k+1=>by have:=Yo s k;rw[Eu];omega
theorem aHH(s:L Int):(s.length<=Eu s (raE s)\/s.getD (Eu s (raE s)) 0=0)/\∀j,j<raE s->Eu s j<s.length/\s.getD (Eu s j) 0≠0:=by
 obtain⟨c,a,h3⟩:=bF (fun k=>s.length<=Eu s k\/s.getD (Eu s k) 0=0) (s.length+1)
 refine⟨?_,fun j b=>?_⟩
 rcases a with a|a;have:=Yo s (raE s);exact .inl (by unfold raE at *;omega)
 exact a.2;have:=h3 j b;exact⟨by omega,fun h=>this (.inr h)⟩
theorem aHI(s:L Int)(i:aJ s)(o:s.length<=1000000):EV G (Tb (bs bb)) 236 [sv s] []=some (sv (raV s),[]):=by
 refine aB rfl ?_;simp (disch:=first|omega|(simp only[aZA,aZB,aZC,aZz,aA];omega)) only[go_sem,h236c]
 obtain⟨f,g⟩:=aHH s;rw[aT (fun k=>⟨(sv s::jk 2 (vi (Eu s k)::jk 24 [])),[]⟩) (raE s) ?_ ?_]
 rotate_left
 rfl;intro k n;obtain⟨b,a⟩:=g k n;have e:=i _ (aZG b);rw[bU s _ b] at a;have m:(Eu s (k+1):Int)=Eu s k+(1+s[Eu s k] % 16+s[Eu s k] / 16):=by
  rw[Eu,bU s _ b];omega
 have d:=iB _ e;rw[m];generalize hp:Eu s k=p at *;have j:=aN9 (s[p]'b) e;simp (disch:=first|omega|(simp only[aZA,aZB,aZC,aZz,aA];omega)) only[go_sem,h236l0,aZS,d,a,j,Int.reduceToNat,Int.reducePow,Fi]
 unfold raV;generalize Eu s (raE s)=p at *;by_cases c:p<s.length;rw[if_pos c];have a:s.getD p 0=0:=f.elim (fun h=>absurd h (by omega)) id
 have e:=i _ (aZG c);rw[bU s _ c] at a;have d:=iB _ e;rw[a] at d;simp (disch:=first|omega|(simp only[aZA,aZB,aZC,aZz,aA];omega)) only[go_sem,h236l0,aZS,d,a]
 rw[if_neg c];have l:¬ (p:Int)<(s.length:Int):=by omega
 simp (disch:=first|omega|(simp only[aZA,aZB,aZC,aZz,aA];omega)) only[go_sem,h236l0,l]
theorem aHJ{s:L Int}(h:aJ s):aJ (raV s):=by
 unfold raV;split;exact fun b a=>h b (aZZ a)
 exact h
def Cn(s:L Int):Bool:=decide (s.getD 8 0=0)
def Ny(s:L Int):Nat:=if Cn s=true then 24 else 40
def qV(s:L Int):Nat:=(gL s 9 1).toNat
def eU(s:L Int):Nat:=(Ny s+qV s+7) / 8*8
def Ql(s:L Int):L Int:=(s.take (Ny s+qV s)).drop (Ny s)
def Re(s:L Int):Nat:=(gL s 16 4).toNat
def dT(s:L Int):aI:=⟨gL s 0 4,Ql s,gL s 14 2,gL s 12 2,true,(s.take (eU s+Re s)).drop (eU s),0,[],0,0,0⟩
noncomputable def dF(s:L Int)(a:L aX):aI:=⟨gL s 0 4,Ql s,gL s 14 2,gL s 12 2,false,[],gL s 16 4,a,gL s 28 4,gL s 32 4,gL s 36 4⟩
noncomputable def qW(s:L Int):aI×Bool:=if s.length<24 then (aI.nil,false) else if s.length<eU s then (aI.nil,false) else
 if Cn s=true then (if s.length<eU s+Re s then (aI.nil,false) else (dT s,true)) else (dF s (nO (raV (s.drop (eU s)))).1,decide ((nO (raV (s.drop (eU s)))).2=0))
theorem aDt(s:L Int)(e:aJ s)(N:s.length<=1000):EV G (Tb (bs bb)) 198 [sv s] []=some (.tup [(qW s).1.t,.one (bC (qW s).2)],[]):=by
 refine aB rfl ?_;unfold qW;by_cases C:s.length<24;rw[if_pos C];have c:(s.length:Int)<24:=by omega
 simp only[aI.nil];simp (disch:=first|omega|(simp only[aZA,aZB,aZC,aZz,aA];omega)) only[go_sem,h198c,eq_true c,aG,bC,aZM]
 rfl;rw[if_neg C];have c:¬ (s.length:Int)<24:=by omega
 have q:EV G (Tb (bs bb)) 234 [sv s,vi 0,vi 4] []=some (vi (gL s 0 4),[]):=Gr s e 0 4 (by omega) (by omega) (by omega);have g:EV G (Tb (bs bb)) 234 [sv s,vi 14,vi 2] []=some (vi (gL s 14 2),[]):=Gr s e 14 2 (by omega) (by omega) (by omega);have f:EV G (Tb (bs bb)) 234 [sv s,vi 12,vi 2] []=some (vi (gL s 12 2),[]):=Gr s e 12 2 (by omega) (by omega) (by omega);have m:EV G (Tb (bs bb)) 234 [sv s,vi 9,vi 1] []=some (vi (gL s 9 1),[]):=Gr s e 9 1 (by omega) (by omega) (by omega);have h:EV G (Tb (bs bb)) 234 [sv s,vi 16,vi 4] []=some (vi (gL s 16 4),[]):=Gr s e 16 4 (by omega) (by omega) (by omega);have A:=Qj e 9;have r:=kU e 16 4 (by omega);have J:=e _ (aZG (show 8<s.length by omega));have n:=iB _ J;have E:s.getD 8 0=s[8]:=bU s 8 (by omega);cases i:Cn s with
 |true=>
  have d:s[8]=0:=by unfold Cn at i;rw[E] at i;simpa using i
  rw[d] at n;have p:Ny s=24:=by unfold Ny;rw[i];rfl
  have v:gL s 9 1=(qV s:Int):=by unfold qV;omega
  have u:gL s 16 4=(Re s:Int):=by unfold Re;omega
  have H:eU s=(24+qV s+7) / 8*8:=by unfold eU;rw[p]
  have j:=A6 (G:=G) (bb:=bb) (24+(qV s:Int)) (by omega);have l:al8 (24+(qV s:Int))=(eU s:Int):=by unfold al8;omega
  rw[l] at j;rw[v] at m A;by_cases o:s.length<eU s;rw[if_pos o];have a:(s.length:Int)<(eU s:Int):=by omega
  simp only[aI.nil];simp (disch:=first|omega|(simp only[aZA,aZB,aZC,aZz,aA];omega)) only[go_sem,h198c,c,aG,bC,aZM,Int.reduceToNat,q,g,f,m,aZS,n,d,Ck,j,eq_true a]
  rfl;rw[if_neg o];have a:¬ (s.length:Int)<(eU s:Int):=by omega
  rw[u] at h r;by_cases D:s.length<eU s+Re s;rw[if_pos D];have k:(s.length:Int)-(eU s:Int)<(Re s:Int):=by omega
  simp only[aI.nil];simp (disch:=first|omega|(simp only[aZA,aZB,aZC,aZz,aA];omega)) only[go_sem,h198c,c,aG,bC,aZM,Int.reduceToNat,q,g,f,m,aZS,n,d,Ck,j,a,h,eq_true k]
  rfl;rw[if_neg D];have k:¬ (s.length:Int)-(eU s:Int)<(Re s:Int):=by omega
  simp (disch:=first|omega|(simp only[aZA,aZB,aZC,aZz,aA];omega)) only[go_sem,h198c,c,aG,bC,aZM,Int.reduceToNat,q,g,f,m,aZS,n,d,Ck,j,a,h,k]
  have w:(24+(qV s:Int)).toNat=24+qV s:=by omega
  rw[w];unfold dT Ql;rw[p];rfl
 |false=>
  have d:¬ s[8]=0:=by unfold Cn at i;rw[E] at i;simpa using i
  have p:Ny s=40:=by unfold Ny;rw[i];rfl
  have v:gL s 9 1=(qV s:Int):=by unfold qV;omega
  have H:eU s=(40+qV s+7) / 8*8:=by unfold eU;rw[p]
  have j:=A6 (G:=G) (bb:=bb) (40+(qV s:Int)) (by omega);have l:al8 (40+(qV s:Int))=(eU s:Int):=by unfold al8;omega
  rw[l] at j;rw[v] at m A;by_cases o:s.length<eU s;rw[if_pos o];have a:(s.length:Int)<(eU s:Int):=by omega
  simp only[aI.nil];simp (disch:=first|omega|(simp only[aZA,aZB,aZC,aZz,aA];omega)) only[go_sem,h198c,c,aG,bC,aZM,Int.reduceToNat,q,g,f,m,aZS,n,d,Ck,j,eq_true a]
  rfl;rw[if_neg o];have a:¬ (s.length:Int)<(eU s:Int):=by omega
  have x:EV G (Tb (bs bb)) 234 [sv s,vi 28,vi 4] []=some (vi (gL s 28 4),[]):=Gr s e 28 4 (by omega) (by omega) (by omega);have y:EV G (Tb (bs bb)) 234 [sv s,vi 32,vi 4] []=some (vi (gL s 32 4),[]):=Gr s e 32 4 (by omega) (by omega) (by omega);have z:EV G (Tb (bs bb)) 234 [sv s,vi 36,vi 4] []=some (vi (gL s 36 4),[]):=Gr s e 36 4 (by omega) (by omega) (by omega);have F:aJ (s.drop (eU s)):=fun b I=>e b (bAa I)
  have K:=aHI (G:=G) (bb:=bb) (s.drop (eU s)) F (by rw[aZK];omega);have M:=aG8 (G:=G) (B:=bs bb) (raV (s.drop (eU s))) (aHJ F);simp (disch:=first|omega|(simp only[aZA,aZB,aZC,aZz,aA];omega)) only[go_sem,h198c,c,aG,bC,aZM,Int.reduceToNat,q,g,f,m,aZS,n,d,Ck,j,a,h,x,y,z,K,M]
  have w:(40+(qV s:Int)).toNat=40+qV s:=by omega
  rw[w];unfold dF Ql;rw[p]
theorem Ks{s:L Int}(h:(nO s).2=0):(mU (nO s).1).2=0:=by
 unfold nO at h ⊢;split at h;exact absurd h (by decide);rename_i c;rw[if_neg c];unfold qD at h ⊢;split at h;exact absurd h (by decide);rename_i b;rw[if_neg b];split at h;rename_i a;exact absurd h a;rename_i a;rw[if_neg a];exact Classical.not_not.1 a
theorem Qm{s:L Int}(a:aJ s)(q:s.length<=1000)(h:(qW s).2=true):(qW s).1.Dc:=by
 unfold qW at h ⊢;split at h;cases h;rename_i l;rw[if_neg l];split at h;cases h;rename_i m;rw[if_neg m];have p:=Qj a 9;have k:=kU a 0 4 (by omega);have d:=Ai a 14;have c:=Ai a 12;have f:aJ (Ql s):=fun b i=>a b (aZZ (bAa i))
 have e:(Ql s).length<=255:=by
  unfold Ql;rw[aZK,aZD];unfold qV;omega
 split at h;rename_i j;rw[if_pos j];split at h;cases h
 rename_i n;rw[if_neg n];exact⟨k,f,e,d,c,fun b i=>a b (aZZ (bAa i)),by
  show ((s.take (eU s+Re s)).drop (eU s)).length<=1000;rw[aZK,aZD];omega,fun _=>⟨rfl,rfl,rfl,rfl,rfl⟩,fun g=>(by cases g)⟩
 rename_i j;rw[if_neg j];have o:=Ks (by simpa using h);exact⟨k,f,e,d,c,jM,aZV _,fun g=>(by cases g),fun _=>⟨rfl,o,kU a 16 4 (by omega),kU a 28 4 (by omega),kU a 32 4 (by omega),kU a 36 4 (by omega)⟩⟩
theorem bQ{a b:L Int}(c:aJ a)(d:aJ b):aJ (a++b):=fun x e=>(bAY.1 e).elim (c x) (d x)
theorem Kt(n:Nat):aJ (List.replicate n 0):=fun x a=>by rw[List.eq_of_mem_replicate a];omega
theorem Nz:∀(l:L aX)(a:Int),aJ (dS a l)
 |[],_=>jM
 | r::l,a=>by
  have c:=Ae r.n;have d:=Ae (r.s - a);rw[dS,sX];refine bQ (fun x b=>?_) (Nz l _)
  rcases bAQ.1 b with rfl | b
  ·unfold tX;split<;>omega
  ·unfold Eb at b;split at b
   ·exact cV _ _ x b
   ·exact bQ (cV _ _) (cV _ _) x b
theorem Ec{a:aI}(h:a.Dc):aJ (gQ a):=by
 have d:aJ (T2 a):=by
  unfold T2;split;exact h.va;exact bQ (by rw[Fo];exact Nz _ _) (J6 _ (by decide))
 have b:aJ (Bo a):=by unfold Bo;exact bQ (bQ (bQ (bQ (cV _ _) (cV _ _)) (cV _ _)) (cV _ _)) (cV _ _)
 have c:aJ (L6 a):=by
  unfold L6;split;exact bQ (bQ b (cV _ _)) (cV _ _);exact bQ (bQ (bQ (bQ (bQ (bQ (bQ b (cV _ _)) (cV _ _)) (cV _ _)) (Kt _)) (cV _ _)) (cV _ _)) (cV _ _)
 unfold gQ Ab Aa;exact bQ (bQ (cV _ _) (cV _ _)) (bQ (bQ (bQ (bQ c h.nm) (Kt _)) d) (Kt _))
theorem aI.Dc.w{a:aI}(h:a.Dc):a.W:=by
 have c:=h.nl;have d:=h.vl;refine⟨h.nm,h.va,by omega,by omega,?_⟩;cases b:a.res with
 |true=>rw[(h.t b).1];simp
 |false=>have:=oH (h.f b).2.1;omega
noncomputable def bN(s:L Int):aI×Int:=if s.length > 440 then (aI.nil,8) else
 if (qW s).2=false\/tV (qW s).1≠s then (aI.nil,3) else if gI (qW s).1≠0 then (aI.nil,gI (qW s).1) else ((qW s).1,0)
theorem aDu(s:L Int)(k:aJ s)(n:s.length<=1000):EV G (Tb (bs bb)) 136 [sv s] []=some (rtv (bN s),[]):=by
 refine aB rfl ?_;unfold bN;by_cases m:s.length > 440;rw[if_pos m];have c:440<(s.length:Int):=by omega
 simp only[aI.nil];simp (disch:=first|omega|(simp only[aZA,aZB,aZC,aZz,aA];omega)) only[go_sem,h136c,eq_true c,aG,aZM]
 rfl;rw[if_neg m];have c:¬ 440<(s.length:Int):=by omega
 have q:=aDt (G:=G) (bb:=bb) s k n;have f:=Qm k n;generalize qW s=d at q f ⊢;obtain⟨a,b⟩:=d;cases b with
 |false=>
  rw[if_pos (.inl rfl)];simp only[aI.nil];simp (disch:=first|omega|(simp only[aZA,aZB,aZC,aZz,aA];omega)) only[go_sem,h136c,c,aG,aZM,q,bC]
  rfl
 |true=>
  have h:=f rfl;simp only at h;have l:=Fg (G:=G) (bb:=bb) a h.bd;have o:=D3 (G:=G) (bb:=bb) a h.w;have e:=cR (a:=tV a) (b:=s) (by rw[Ag h];exact Ec h) k;by_cases i:tV a=s;rw[if_neg (fun g=>g.elim (fun g=>by cases g) (fun g=>g i))]
  rw[eq_true i] at e;by_cases j:gI a=0;rw[if_neg (fun g=>g j)]
  simp (disch:=first|omega|(simp only[aZA,aZB,aZC,aZz,aA];omega)) only[go_sem,h136c,c,aG,q,bC,l,e,o,j]
  rw[if_pos j];simp only[aI.nil];simp (disch:=first|omega|(simp only[aZA,aZB,aZC,aZz,aA];omega)) only[go_sem,h136c,c,aG,aZM,q,bC,l,e,o,j]
  rfl;rw[if_pos (.inr i)];rw[eq_false i] at e;simp only[aI.nil];simp (disch:=first|omega|(simp only[aZA,aZB,aZC,aZz,aA];omega)) only[go_sem,h136c,c,aG,aZM,q,bC,l,e]
  rfl
end
section
variable {G:aF}{bb:Bool}
noncomputable def Co(s:L Int):Nat:=ix (fun j=>(nO ((s.take (eU s+j)).drop (eU s))).2=0) (s.length-eU s+1)
noncomputable def rsR(s:L Int):L aX:=(nO ((s.take (eU s+Co s)).drop (eU s))).1
def Us(a:aI)(s:L Int):aI×Int:=if gQ a≠s then (aI.nil,3) else if gI a≠0 then (aI.nil,gI a) else (a,0)
def aDv(s:L Int):Prop:=s.length<24\/1<s.getD 8 0\/(s.getD 8 0=1/\s.length<40)
open Classical in
noncomputable def Ku(s:L Int):aI×Int:=if s.length > 440 then (aI.nil,8) else if aDv s then (aI.nil,3) else
 if s.length<Ny s+qV s then (aI.nil,3) else if s.length<eU s then (aI.nil,3) else
 if Cn s=true then (if s.length<eU s+Re s then (aI.nil,3) else Us (dT s) s) else if Co s=s.length-eU s+1 then (aI.nil,3) else Us (dF s (rsR s)) s
def dFc(s:L Int)(x:aV):L aV:=[.dc (ci (gL s 0 4)),.dc (.raw (.string (dI (Ql s)))),.dc (ci (gL s 14 2)),.dc (ci (gL s 12 2)),.dc (.raw (.bool false)),.dc (.raw (.string (dI []))),.dc (ci (gL s 16 4)),x,.dc (ci (gL s 28 4)),.dc (ci (gL s 32 4)),.dc (ci (gL s 36 4))]
theorem Qn{s:L Int}(a:aJ s):aJ (Ql s)/\(Ql s).length<=255:=by
 have d:=Qj a 9;refine⟨fun b c=>a b (aZZ (bAa c)),?_⟩
 unfold Ql;rw[aZK,aZD];unfold qV;omega
theorem aOb{s:L Int}(a:aJ s)(d:s.length<=1000):(dT s).Dc:=
 ⟨kU a 0 4 (by omega),(Qn a).1,(Qn a).2,Ai a 14,Ai a 12,fun b c=>a b (aZZ (bAa c)),by
  show ((s.take (eU s+Re s)).drop (eU s)).length<=1000;rw[aZK,aZD];omega,fun _=>⟨rfl,rfl,rfl,rfl,rfl⟩,fun g=>(by cases g)⟩
theorem aOc{s:L Int}(a:aJ s){b:L aX}(h:(mU b).2=0):(dF s b).Dc:=
 ⟨kU a 0 4 (by omega),(Qn a).1,(Qn a).2,Ai a 14,Ai a 12,jM,aZV _,fun g=>(by cases g),fun _=>⟨rfl,h,kU a 16 4 (by omega),kU a 28 4 (by omega),kU a 32 4 (by omega),kU a 36 4 (by omega)⟩⟩
theorem Ut{s:L Int}(a:aJ s)(k:Nat):aJ ((s.take (eU s+k)).drop (eU s)):=fun b c=>a b (aZZ (bAa c))
theorem aA9{s:L Int}(b:aJ s)(g:s.length<=1000)(k:Nat)(f:k<s.length-eU s+1)(d:¬ s.length<eU s)(a:¬ (nO ((s.take (eU s+k)).drop (eU s))).2=0):Lt [0,1,1,0,1,1,0] 2 (EC (EV G (Tb (bs bb))) G h85l0 ⟨(sv s::jk 1 (.one (.ptr 0 0)::jk 1 (vi 3::.one (.ptr 1 0)::jk 1 (vi (eU s)::jk 1 (vb false::vi ((eU s:Int)+k)::jk 143 []))))),[.box P9,.box (dFc s (cK (.slice none 0 0)))]⟩)=some ⟨(sv s::jk 1 (.one (.ptr 0 0)::jk 1 (vi 3::.one (.ptr 1 0)::jk 1 (vi (eU s)::jk 1 (vb false::vi ((eU s:Int)+(k+1:Nat))::jk 143 []))))),[.box P9,.box (dFc s (cK (.slice none 0 0)))]⟩:=by
 have q:=Nv (G:=G) (B:=bs bb) _ (Ut b k);generalize nO ((s.take (eU s+k)).drop (eU s))=r at q a;obtain⟨h,e⟩:=r;simp only at a q;have c:(eU s:Int)+(k:Int)<=(s.length:Int):=by omega
 unfold dFc;simp (disch:=first|omega|(simp only[aZA,aZB,aZC,aZz,aA];omega)) only[go_sem,h85l0,eq_true c,q,a]
theorem aVz{s:L Int}(c:aJ s)(e:s.length<=1000)(a:¬ s.length<eU s)(g:Co s=s.length-eU s+1){st:AS}(b:st=⟨(sv s::jk 1 (.one (.ptr 0 0)::jk 1 (vi 3::.one (.ptr 1 0)::jk 1 (vi (eU s)::jk 1 (vb false::vi ((eU s:Int)+(0:Nat))::jk 143 []))))),[.box P9,.box (dFc s (cK (.slice none 0 0)))]⟩):EL (EV G (Tb (bs bb))) G h85l0 [0,1,1,0,1,1,0] 2 st=fnK (EV G (Tb (bs bb))) G h85l0 [0,1,1,0,1,1,0] 2 (EC (EV G (Tb (bs bb))) G h85l0 ⟨(sv s::jk 1 (.one (.ptr 0 0)::jk 1 (vi 3::.one (.ptr 1 0)::jk 1 (vi (eU s)::jk 1 (vb false::vi ((eU s:Int)+((s.length-eU s+1:Nat):Int))::jk 143 []))))),[.box P9,.box (dFc s (cK (.slice none 0 0)))]⟩):=by
 obtain⟨h,i,f⟩:=bF (fun j=>(nO ((s.take (eU s+j)).drop (eU s))).2=0) (s.length-eU s+1)
 exact aT (fun k=>⟨(sv s::jk 1 (.one (.ptr 0 0)::jk 1 (vi 3::.one (.ptr 1 0)::jk 1 (vi (eU s)::jk 1 (vb false::vi ((eU s:Int)+(k:Int))::jk 143 []))))),[.box P9,.box (dFc s (cK (.slice none 0 0)))]⟩) (s.length-eU s+1) b (fun k d=>aA9 c e k d a (f k (by unfold Co at g;omega)))
theorem aVA{s:List Int}(d:aJ s)(p:s.length<=1000)(l:¬ s.length<eU s)(u:¬ Co s=s.length-eU s+1){st:AS}(o:st=⟨(sv s::jk 1 (.one (.ptr 0 0)::jk 1 (vi 3::.one (.ptr 1 0)::jk 1 (vi (eU s)::jk 1 (vb false::vi ((eU s:Int)+(0:Nat))::jk 143 []))))),[.box P9,.box (dFc s (cK (.slice none 0 0)))]⟩):EL (EV G (Tb (bs bb))) G h85l0 [0,1,1,0,1,1,0] 2 st=fnK (EV G (Tb (bs bb))) G h85l0 [0,1,1,0,1,1,0] 2 (EC (EV G (Tb (bs bb))) G h85l0 ⟨(sv s::jk 1 (.one (.ptr 0 0)::jk 1 (vi 3::.one (.ptr 1 0)::jk 1 (vi (eU s)::jk 1 (vb true::vi ((eU s:Int)+((Co s+1:Nat):Int))::jk 143 []))))),[.box P9,.box (dFc s (.dc (.slc ((rsR s).map aX.e))))]⟩):=by
 obtain⟨w,r,t⟩:=bF (fun j=>(nO ((s.take (eU s+j)).drop (eU s))).2=0) (s.length-eU s+1)
 have f:Co s<s.length-eU s+1/\(nO ((s.take (eU s+Co s)).drop (eU s))).2=0:=r.elim (fun h=>absurd h u) id
 have g:∀ j,j < Co s->¬ (nO ((s.take (eU s+j)).drop (eU s))).2=0:=t;have b:(nO ((s.take (eU s+Co s)).drop (eU s))).1=rsR s:=rfl;generalize Co s=J at f g b ⊢;have e:=aT (call:=EV G (Tb (bs bb))) (G:=G) (a:=h85l0) (L:=[0,1,1,0,1,1,0]) (m:=2) (fun k=>if k<=J then ⟨(sv s::jk 1 (.one (.ptr 0 0)::jk 1 (vi 3::.one (.ptr 1 0)::jk 1 (vi (eU s)::jk 1 (vb false::vi ((eU s:Int)+(k:Int))::jk 143 []))))),[.box P9,.box (dFc s (cK (.slice none 0 0)))]⟩ else ⟨(sv s::jk 1 (.one (.ptr 0 0)::jk 1 (vi 3::.one (.ptr 1 0)::jk 1 (vi (eU s)::jk 1 (vb true::vi ((eU s:Int)+(k:Int))::jk 143 []))))),[.box P9,.box (dFc s (.dc (.slc ((rsR s).map aX.e))))]⟩) (J+1) (o.trans (if_pos (aZV _)).symm) (fun k v=>by
  by_cases c:k < J
  ·rw[if_pos (by omega),if_pos (by omega)];exact aA9 d p k (by omega) l (g k c)
  ·have n:k=J:=by omega
   subst n;rw[if_pos (aZE _),if_neg (by omega)];have q:=Nv (G:=G) (B:=bs bb) _ (Ut d k);rw[f.2,b] at q;have i:(eU s:Int)+(k:Int)<=(s.length:Int):=by omega
   unfold dFc;simp (disch:=first | omega | (simp only[aZA,aZB,aZC,aZz,aA];omega)) only[go_sem,h85l0,eq_true i,q])
 rw[if_neg (by omega)] at e;exact e
end
section
variable {G:aF}{bb:Bool}
theorem Ed:∀(a b:L aX)(c:Int),dS c (a++b)=dS c a++dS (a.foldl H6 c) b
 |[],_,_=>rfl
 |r::a,b,c=>by rw[aZW,dS,Ed a b,dS,aZP];rfl
theorem aHK(a:Int)(r:aX):(tX a r % 16+tX a r / 16).toNat=(Eb a r).length:=by
 have b:=Ae r.n;have c:=Ae (r.s-a);unfold tX Eb;split;rw[aA];omega;rw[aZA,aA,aA];omega
theorem N0(p L:List Int):(p++L).getD p.length 0=L.getD 0 0:=by
 rw[aZN,aZN,aZ0 (aZE _),bAr]
theorem Qp(l:L aX)(a:L Int):∀k,k<=l.length->Eu (dS 0 l++([0]++a)) k=(dS 0 (l.take k)).length/\∀j,j<k->(dS 0 l++([0]++a)).getD (Eu (dS 0 l++([0]++a)) j) 0≠0
 |0,_=>⟨rfl,fun j i=>by omega⟩
 | k+1,m=>by
  obtain⟨e,h⟩:=Qp l a k (by omega);have b:k < l.length:=by omega
  have f:l=l.take k++(l[k]::l.drop (k+1)):=by rw[<- bAv b,bAH]
  have g:dS 0 l=dS 0 (l.take k)++(tX ((l.take k).foldl H6 0) l[k]::(Eb ((l.take k).foldl H6 0) l[k]++dS (H6 ((l.take k).foldl H6 0) l[k]) (l.drop (k+1)))):=by
   conv=>lhs;rw[f]
   rw[Ed,dS,sX];rfl
  have d:(dS 0 l++([0]++a)).getD (Eu (dS 0 l++([0]++a)) k) 0=tX ((l.take k).foldl H6 0) l[k]:=by
   rw[e]
   conv=>lhs;rw[g]
   rw[aZP,N0];rfl
  refine⟨?_,fun j i=>?_⟩
  ·rw[Eu,d,aHK,e,bAB b,Ed,aZA];show _=_+(dS _ [l[k]]).length;simp only[dS,sX,bAy,aZB];omega
  ·by_cases c:j < k
   ·exact h j c
   ·have:j=k:=by omega
    subst this;rw[d];exact Qg _ _
theorem aMi(l:L aX)(a:L Int):raV ((jI l).1++[0]++a)=(jI l).1++[0]:=by
 rw[Fo,aZP];obtain⟨b,f⟩:=Qp l a l.length (aZE _);rw[bAi] at b;have k:=Yo (dS 0 l++([0]++a)) l.length;have d:(dS 0 l++([0]++a)).length=(dS 0 l).length+1+a.length:=by simp only[aZA,aZB,aZC];omega
 have i:(dS 0 l++([0]++a)).getD (dS 0 l).length 0=0:=by rw[N0];rfl
 have e:∀ j,j<=l.length->Eu (dS 0 l++([0]++a)) j < (dS 0 l++([0]++a)).length:=fun j c=>by
  have h3:=(Qp l a j c).1;have:(dS 0 (l.take j)).length<=(dS 0 l).length:=by
   conv=>rhs;rw[<- bAH j l,Ed,aZA]
   omega
  omega
 have h:raE (dS 0 l++([0]++a))=l.length:=by
  unfold raE;refine aA5 (by omega) (.inr (by rw[b];exact i)) (fun j c g=>?_)
  rcases g with g|g;have:=e j (by omega);omega
  exact f j c g
 unfold raV;rw[h,if_pos (e _ (aZE _)),b];rw[<- aZP,bAW (by simp)]
theorem oZ(p L:List Int)(k:Nat)(h:p.length<=k):(p++L).drop k=L.drop (k-p.length):=by
 rw[bA9,bBd h,aZR]
theorem H7(L:List Int)(k:Nat)(h:k=0):L.drop k=L:=by subst h;rfl
theorem aBa(s:L Int)(k:Nat)(h:k<s.length):s.getD k 0=gL s k 1:=by
 rw[bU s k h];unfold gL;rw[bAv h,bAP,bAO];show s[k]=s[k]+256*0;omega
theorem pM(z L:List Int)(a k:Nat)(b:a=0)(h:z.length=k):gL (z++L) a k=gv z:=by subst b;exact Qk z L k h
theorem shT{a:aI}(h:a.Dc)(c:a.res=true):gQ a=bJ a.ty 4++(bJ (eY a) 4++(bJ 0 1++(bJ a.nm.length 1++(bJ 24 2++(bJ a.fl 2++(bJ a.id 2++(bJ a.va.length 4++(bJ (cZ a) 4++(a.nm++(List.replicate (cZ a-24-a.nm.length) 0++(a.va++List.replicate (eY a-cZ a-a.va.length) 0))))))))))):=by
 obtain⟨l,g,i,j,k⟩:=Gq a;have d:sU a=24:=by simp[sU,c]
 have b:qU a=a.va:=by simp[qU,c]
 have f:=Af h;rw[d] at g;rw[b] at i k;unfold gQ Ab L6 Bo Aa;rw[if_pos c,if_pos c,d,f,b];simp only[aZP];simp only[aZA,aA,aZH];have e:=aHB (1+(1+(2+(2+(2+(4+(4+(a.nm.length+((cZ a-24-a.nm.length)+a.va.length))))))))) (eY a) (eY a-cZ a-a.va.length) (by omega) j (by omega);rw[e];rfl
theorem shF{a:aI}(h:a.Dc)(e:a.res=false):gQ a=bJ a.ty 4++(bJ (eY a) 4++(bJ 1 1++(bJ a.nm.length 1++(bJ 40 2++(bJ a.fl 2++(bJ a.id 2++(bJ a.fi 4++(bJ (a.fi+gP a.rs-1) 4++(bJ (cZ a) 2++(List.replicate 2 0++(bJ a.al 4++(bJ a.sz 4++(bJ a.vd 4++(a.nm++(List.replicate (cZ a-40-a.nm.length) 0++(((jI a.rs).1++[0])++List.replicate (eY a-cZ a-(qU a).length) 0)))))))))))))))):=by
 obtain⟨m,k,f,l,g⟩:=Gq a;have b:¬ a.res=true:=by rw[e];decide
 have d:sU a=40:=by simp[sU,e]
 have j:=Af h;have c:T2 a=(jI a.rs).1++[0]:=by rw[T2,if_neg b]
 rw[<- j,c] at f g ⊢;rw[d] at k;unfold gQ Ab L6 Bo Aa;rw[if_neg b,if_neg b,d,c,aA6];simp only[aZP];simp only[aZA,aA,aZH] at f g ⊢;have i:=aHB (1+(1+(2+(2+(2+(4+(4+(2+(2+(4+(4+(4+(a.nm.length+((cZ a-40-a.nm.length)+((jI a.rs).1.length+[(0:Int)].length))))))))))))))) (eY a) (eY a-cZ a-((jI a.rs).1.length+[(0:Int)].length)) (by omega) l (by omega);rw[i];rfl
theorem aVB{a:aI}(h:a.Dc)(d:a.res=true):Cn (gQ a)=true/\eU (gQ a)=cZ a/\qV (gQ a)=a.nm.length/\Re (gQ a)=a.va.length/\(gQ a).getD 8 0=0/\dT (gQ a)=a/\(gQ a).length=eY a/\24+a.nm.length<=cZ a/\cZ a+a.va.length<=eY a:=by
 obtain⟨I,w,x,J,D⟩:=Gq a;have u:sU a=24:=by simp[sU,d]
 have i:qU a=a.va:=by simp[qU,d]
 rw[u] at w;rw[i] at x D;have f:(gQ a).length=eY a:=by rw[<- Ag h,nN a h.bd]
 have l:=h.ty;have B:=h.nl;have k:=h.id;have j:=h.fl;have C:=h.vl;have c:=shT h d;have H:gL (gQ a) 8 1=0:=by
  rw[c];simp (disch:=first|omega|(simp only[aA]<;>omega)|fail) only[iJ,pM,aA,Nat.reduceSub]
  rfl
 have r9:gL (gQ a) 9 1=a.nm.length:=by
  rw[c];simp (disch:=first|omega|(simp only[aA]<;>omega)|fail) only[iJ,pM,aA,Nat.reduceSub]
  exact gv1 _ (by omega)
 have E:gL (gQ a) 0 4=a.ty:=by
  rw[c];simp (disch:=first|omega|(simp only[aA]<;>omega)|fail) only[iJ,pM,aA,Nat.reduceSub]
  exact gv4 _ l
 have m:gL (gQ a) 12 2=a.fl:=by
  rw[c];simp (disch:=first|omega|(simp only[aA]<;>omega)|fail) only[iJ,pM,aA,Nat.reduceSub]
  exact gv2 _ j
 have n:gL (gQ a) 14 2=a.id:=by
  rw[c];simp (disch:=first|omega|(simp only[aA]<;>omega)|fail) only[iJ,pM,aA,Nat.reduceSub]
  exact gv2 _ k
 have F:gL (gQ a) 16 4=a.va.length:=by
  rw[c];simp (disch:=first|omega|(simp only[aA]<;>omega)|fail) only[iJ,pM,aA,Nat.reduceSub]
  exact gv4 _ (by omega)
 have b:(gQ a).drop 24=a.nm++(List.replicate (cZ a-24-a.nm.length) 0++(a.va++List.replicate (eY a-cZ a-a.va.length) 0)):=by
  rw[c];simp (disch:=first|omega|(simp only[aA]<;>omega)|fail) only[oZ,H7,aA,Nat.reduceSub]
 have o:(gQ a).drop (cZ a)=a.va++List.replicate (eY a-cZ a-a.va.length) 0:=by
  have e:(gQ a).drop (cZ a)=((gQ a).drop 24).drop (cZ a-24):=by rw[bAw];congr 1;omega
  rw[e,b,oZ _ _ _ (by omega),oZ _ _ _ (by rw[aZH];omega),H7 _ _ (by rw[aZH];omega)]
 have v:(gQ a).getD 8 0=0:=by rw[aBa _ _ (by omega),H]
 have r:Cn (gQ a)=true:=by unfold Cn;rw[v];rfl
 have q:Ny (gQ a)=24:=by unfold Ny;rw[r];rfl
 have g:qV (gQ a)=a.nm.length:=by unfold qV;omega
 have p:eU (gQ a)=cZ a:=by unfold eU;rw[q,g];unfold cZ;rw[u]
 have s:Re (gQ a)=a.va.length:=by unfold Re;omega
 have A:Ql (gQ a)=a.nm:=by unfold Ql;rw[q,g,bAJ,b,show 24+a.nm.length-24=a.nm.length by omega,bAW];rfl
 refine⟨r,p,g,s,v,?_,f,w,x⟩;obtain⟨t1,y,t3,z,t5⟩:=h.t d;unfold dT;rw[A,p,s,E,m,n,bAJ,o,show cZ a+a.va.length-cZ a=a.va.length by omega,bAW rfl];cases a;simp only at d t1 y t3 z t5;subst d;subst t1;subst y;subst t3;subst z;subst t5;rfl
theorem aVC{a:aI}(h:a.Dc)(d:a.res=false):Cn (gQ a)=false/\eU (gQ a)=cZ a/\qV (gQ a)=a.nm.length/\(gQ a).getD 8 0=1/\dF (gQ a) a.rs=a/\(gQ a).drop (cZ a)=((jI a.rs).1++[0])++List.replicate (eY a-cZ a-(qU a).length) 0/\ (gQ a).length=eY a/\40+a.nm.length<=cZ a/\cZ a+((jI a.rs).1.length+1)<=eY a:=by
 obtain⟨N,y,O,P,Q⟩:=Gq a;have v:sU a=40:=by simp[sU,d]
 have H:=Af h;have B:T2 a=(jI a.rs).1++[0]:=by rw[T2,if_neg (by rw[d];decide)]
 have I:(qU a).length=(jI a.rs).1.length+1:=by rw[<- H,B];simp
 rw[v] at y;have g:(gQ a).length=eY a:=by rw[<- Ag h,nN a h.bd]
 have l:=h.ty;have J:=h.nl;have k:=h.id;have j:=h.fl;obtain⟨w,M,C,D,E,F⟩:=h.f d;have b:=shF h d;have L:gL (gQ a) 8 1=1:=by
  rw[b];simp (disch:=first|omega|(simp only[aA,aZH]<;>omega)|fail) only[iJ,pM,aA,aZH,Nat.reduceSub]
  rfl
 have r9:gL (gQ a) 9 1=a.nm.length:=by
  rw[b];simp (disch:=first|omega|(simp only[aA,aZH]<;>omega)|fail) only[iJ,pM,aA,aZH,Nat.reduceSub]
  exact gv1 _ (by omega)
 have K:gL (gQ a) 0 4=a.ty:=by
  rw[b];simp (disch:=first|omega|(simp only[aA,aZH]<;>omega)|fail) only[iJ,pM,aA,aZH,Nat.reduceSub]
  exact gv4 _ l
 have m:gL (gQ a) 12 2=a.fl:=by
  rw[b];simp (disch:=first|omega|(simp only[aA,aZH]<;>omega)|fail) only[iJ,pM,aA,aZH,Nat.reduceSub]
  exact gv2 _ j
 have n:gL (gQ a) 14 2=a.id:=by
  rw[b];simp (disch:=first|omega|(simp only[aA,aZH]<;>omega)|fail) only[iJ,pM,aA,aZH,Nat.reduceSub]
  exact gv2 _ k
 have o:gL (gQ a) 16 4=a.fi:=by
  rw[b];simp (disch:=first|omega|(simp only[aA,aZH]<;>omega)|fail) only[iJ,pM,aA,aZH,Nat.reduceSub]
  exact gv4 _ C
 have p:gL (gQ a) 28 4=a.al:=by
  rw[b];simp (disch:=first|omega|(simp only[aA,aZH]<;>omega)|fail) only[iJ,pM,aA,aZH,Nat.reduceSub]
  exact gv4 _ D
 have q:gL (gQ a) 32 4=a.sz:=by
  rw[b];simp (disch:=first|omega|(simp only[aA,aZH]<;>omega)|fail) only[iJ,pM,aA,aZH,Nat.reduceSub]
  exact gv4 _ E
 have r:gL (gQ a) 36 4=a.vd:=by
  rw[b];simp (disch:=first|omega|(simp only[aA,aZH]<;>omega)|fail) only[iJ,pM,aA,aZH,Nat.reduceSub]
  exact gv4 _ F
 have c:(gQ a).drop 40=a.nm++(List.replicate (cZ a-40-a.nm.length) 0++(((jI a.rs).1++[0])++List.replicate (eY a-cZ a-(qU a).length) 0)):=by
  rw[b];simp (disch:=first|omega|(simp only[aA,aZH]<;>omega)|fail) only[oZ,H7,aA,aZH,Nat.reduceSub]
 have s:(gQ a).drop (cZ a)=((jI a.rs).1++[0])++List.replicate (eY a-cZ a-(qU a).length) 0:=by
  have e:(gQ a).drop (cZ a)=((gQ a).drop 40).drop (cZ a-40):=by rw[bAw];congr 1;omega
  rw[e,c,oZ _ _ _ (by omega),oZ _ _ _ (by rw[aZH];omega),H7 _ _ (by rw[aZH];omega)]
 have x:(gQ a).getD 8 0=1:=by rw[aBa _ _ (by omega),L]
 have u:Cn (gQ a)=false:=by unfold Cn;rw[x];rfl
 have t:Ny (gQ a)=40:=by unfold Ny;rw[u];rfl
 have i:qV (gQ a)=a.nm.length:=by unfold qV;omega
 have z:eU (gQ a)=cZ a:=by unfold eU;rw[t,i];unfold cZ;rw[v]
 have A:Ql (gQ a)=a.nm:=by unfold Ql;rw[t,i,bAJ,c,show 40+a.nm.length-40=a.nm.length by omega,bAW];rfl
 refine⟨u,z,i,x,?_,s,g,y,by omega⟩;unfold dF;rw[A,K,m,n,o,p,q,r];cases a;simp only at d w;subst d;subst w;rfl
theorem Uu{a:aI}(h:a.Dc):qW (gQ a)=(a,true):=by
 cases e:a.res with
 |true=>
  obtain⟨b,c,j,g,i,d,k,l,m⟩:=aVB h e;unfold qW;rw[if_neg (by omega),c,if_neg (by omega),if_pos b,g,if_neg (by omega),d]
 |false=>
  obtain⟨b,c,j,g,i,d,k,l,m⟩:=aVC h e;have n:=(h.f e).2.1;unfold qW;rw[if_neg (by omega),c,if_neg (by omega),if_neg (by rw[b];decide),d,aMi,Qh n,i];rfl
theorem aHL{a:aI}(h:a.Dc)(x:(gQ a).length<=440):Ku (gQ a)=Us a (gQ a):=by
 unfold Ku;rw[if_neg (by omega)];cases q:a.res with
 |true=>
  obtain⟨d,e,i,k,l,m,t,u,v⟩:=aVB h q;have n:Ny (gQ a)=24:=by unfold Ny;rw[d];rfl
  have r:¬ aDv (gQ a):=by
   unfold aDv;rw[l];omega
  rw[if_neg r,n,i,if_neg (by omega),e,if_neg (by omega),if_pos d,k,if_neg (by omega),m]
 |false=>
  obtain⟨d,e,i,k,l,m,t,u,v⟩:=aVC h q;have p:=(h.f q).2.1;have n:Ny (gQ a)=40:=by unfold Ny;rw[d];rfl
  have r:¬ aDv (gQ a):=by
   unfold aDv;rw[k];omega
  have b:∀ j,((gQ a).take (eU (gQ a)+j)).drop (eU (gQ a))=(((jI a.rs).1++[0])++List.replicate (eY a - cZ a - (qU a).length) 0).take j:=fun j=>by
   rw[bAJ,e,m];congr 1;omega
  have c:(((jI a.rs).1++[0])++List.replicate (eY a-cZ a-(qU a).length) 0).take ((jI a.rs).1.length+1)=(jI a.rs).1++[0]:=bAW (by simp);have s:Co (gQ a)=(jI a.rs).1.length+1:=by
   unfold Co;refine aA5 (by rw[e];omega) ?_ (fun j w g=>?_)
   rw[b,c,Qh p];rw[b,bAS (by simp;omega)] at g;exact aQT p j w g
  have o:rsR (gQ a)=a.rs:=by
   unfold rsR;rw[s,b,c,Qh p]
  rw[if_neg r,n,i,if_neg (by omega),e,if_neg (by omega),if_neg (by rw[d];decide),s,if_neg (by omega),o,l]
theorem aQW{s:L Int}(f:aJ s)(n:s.length<=1000):bN s=Ku s:=by
 by_cases b:s.length > 440;unfold bN Ku;rw[if_pos b,if_pos b];by_cases a:(qW s).2=true/\tV (qW s).1=s;have m:=Qm f n a.1;have d:=Ag m;have l:=aHL m (by rw[<- d,a.2];omega);rw[<- d,a.2] at l;rw[l];unfold bN Us;rw[if_neg b,if_neg (fun g=>g.elim (fun g=>by rw[a.1] at g;cases g) (fun g=>g a.2)),if_neg (show ¬ gQ (qW s).1≠s from fun g=>g (by rw[<- d];exact a.2))]
 have o:bN s=(aI.nil,3):=by
  unfold bN;rw[if_neg b,if_pos];by_cases k:(qW s).2=true;exact .inr (fun g=>a ⟨k,g⟩)
  exact .inl (by simpa using k)
 have c:∀ x:aI,x.Dc->Us x s=(aI.nil,3):=fun x c=>by
  unfold Us;rw[if_pos];intro g;have e:=Uu c;rw[g] at e;exact a ⟨by rw[e],by rw[e];show tV x=s;rw[Ag c,g]⟩
 rw[o];unfold Ku;rw[if_neg b];split;rfl;split;rfl;split;rfl;split;split;rfl;exact (c _ (aOb f n)).symm;split;rfl;rename_i q;have i:(mU (rsR s)).2=0:=by
  obtain⟨r,p,t⟩:=bF (fun j=>(nO ((s.take (eU s+j)).drop (eU s))).2=0) (s.length-eU s+1)
  exact Ks (p.elim (fun h=>absurd h q) (fun h=>h.2))
 exact (c _ (aOc f i)).symm
end
section
variable {G:aF}{bb:Bool}
theorem Yp(s:L Int)(n:aJ s)(hl:s.length<=1000):EV G (Tb (bs bb)) 85 [sv s] []=some (rtv (Ku s),[]):=by
 refine aB rfl ?_;unfold Ku;by_cases c0:s.length > 440;rw[if_pos c0];have a:440<(s.length:Int):=by omega
 simp only[aI.nil];simp (disch:=first|omega|(simp only[aZA,aZB,aZC,aZz,aA];omega)) only[go_sem,h85c,eq_true a,aG,aZM]
 rfl;rw[if_neg c0];have a:¬ 440<(s.length:Int):=by omega
 by_cases c1:s.length<24;rw[if_pos (.inl c1)];have d:(s.length:Int)<24:=by omega
 simp only[aI.nil];simp (disch:=first|omega|(simp only[aZA,aZB,aZC,aZz,aA];omega)) only[go_sem,h85c,a,eq_true d,aG,aZM]
 rfl;have d:¬ (s.length:Int)<24:=by omega
 have hx:=n _ (aZG (show 8<s.length by omega));have q:=iB _ hx;have N:s.getD 8 0=s[8]:=bU s 8 (by omega);have P:=n _ (aZG (show 9<s.length by omega));have i:=iB _ P;have b9:=Qj n 9;have A:s[9]=(qV s:Int):=by
  have:gL s 9 1=s[9]:=by
   unfold gL;rw[bAv (by omega),bAP,bAO];show s[9]+256*0=s[9];omega
  unfold qV;omega
 rw[A] at i P;by_cases T:1<s[8];rw[if_pos (.inr (.inl (by rw[N];exact T)))];simp only[aI.nil];simp (disch:=first|omega|(simp only[aZA,aZB,aZC,aZz,aA];omega)) only[go_sem,h85c,a,d,aG,aZM,Int.reduceToNat,aZS,q,eq_true T]
 rfl;by_cases J:s[8]=1/\s.length<40;rw[if_pos (.inr (.inr (by rw[N];exact J)))];obtain⟨J,c4⟩:=J;have U:(s.length:Int)<40:=by omega
 rw[J] at q;simp only[aI.nil];simp (disch:=first|omega|(simp only[aZA,aZB,aZC,aZz,aA];omega)) only[go_sem,h85c,a,d,aG,aZM,Int.reduceToNat,aZS,q,J,eq_true U,Int.lt_irrefl]
 rfl;have nb:¬ aDv s:=by
  intro h;rcases h with h|h|h
  exact c1 h;rw[N] at h;exact T h;rw[N] at h;exact J h
 rw[if_neg nb];have F:EV G (Tb (bs bb)) 15 [sv s,vi 0,vi 4] []=some (vi (gL s 0 4),[]):=cY s n 0 4 (by omega) (by omega) (by omega);have l:EV G (Tb (bs bb)) 15 [sv s,vi 14,vi 2] []=some (vi (gL s 14 2),[]):=cY s n 14 2 (by omega) (by omega) (by omega);have k:EV G (Tb (bs bb)) 15 [sv s,vi 12,vi 2] []=some (vi (gL s 12 2),[]):=cY s n 12 2 (by omega) (by omega) (by omega);have t:EV G (Tb (bs bb)) 15 [sv s,vi 16,vi 4] []=some (vi (gL s 16 4),[]):=cY s n 16 4 (by omega) (by omega) (by omega);have S:=kU n 16 4 (by omega);cases I:Cn s with
 |true=>
  have e:s[8]=0:=by unfold Cn at I;rw[N] at I;simpa using I
  rw[e] at q;have D:Ny s=24:=by unfold Ny;rw[I];rfl
  have V:gL s 16 4=(Re s:Int):=by unfold Re;omega
  have eA:eU s=(24+qV s+7) / 8*8:=by unfold eU;rw[D]
  have B:=mB (G:=G) (bb:=bb) (24+qV s) (by omega);rw[bAu,show ((24:Nat):Int)=24 from rfl] at B
  have m:(8:Int)*(((24+qV s+7) / 8:Nat):Int)=((eU s:Nat):Int):=by omega
  rw[D];rw[V] at t S;by_cases O:s.length<24+qV s;rw[if_pos O];have f:(s.length:Int)<24+(qV s:Int):=by omega
  simp only[aI.nil];simp (disch:=first|omega|(simp only[aZA,aZB,aZC,aZz,aA];omega)) only[go_sem,h85c,a,d,aG,aZM,Int.reduceToNat,aZS,q,e,A,i,F,l,k,eq_true f,Int.reduceLT]
  rfl;rw[if_neg O];have f:¬ (s.length:Int)<24+(qV s:Int):=by omega
  have H:(24+(qV s:Int)).toNat=24+qV s:=by omega
  by_cases K:s.length<eU s;rw[if_pos K];have g:(s.length:Int)<(eU s:Int):=by omega
  simp only[aI.nil];simp (disch:=first|omega|(simp only[aZA,aZB,aZC,aZz,aA];omega)) only[go_sem,h85c,a,d,aG,aZM,Int.reduceToNat,aZS,q,e,A,i,F,l,k,f,Int.reduceLT,B,m,eq_true g,H]
  rfl;rw[if_neg K];have g:¬ (s.length:Int)<(eU s:Int):=by omega
  rw[if_pos rfl];by_cases d3:s.length<eU s+Re s;rw[if_pos d3];have u:(s.length:Int)<(eU s:Int)+(Re s:Int):=by omega
  simp only[aI.nil];simp (disch:=first|omega|(simp only[aZA,aZB,aZC,aZz,aA];omega)) only[go_sem,h85c,a,d,aG,aZM,Int.reduceToNat,aZS,q,e,A,i,F,l,k,f,Int.reduceLT,B,m,g,H,t,eq_true u]
  rfl;rw[if_neg d3];have u:¬ (s.length:Int)<(eU s:Int)+(Re s:Int):=by omega
  have p:=aOb n hl;have r:=aHF (G:=G) (bb:=bb) (dT s) p;have z:=X6 (G:=G) (bb:=bb) (dT s) p.w;have o:=cR (Ec p) n;unfold Us;generalize gQ (dT s)=R at r o ⊢;generalize gI (dT s)=E at z ⊢;simp only[dT,Ql,D,aI.v,aI.c,aZM] at r z;by_cases C:R=s;rw[if_neg (fun h=>h C)]
  rw[eq_true C] at o;by_cases x:E=0;rw[if_neg (fun h=>h x)]
  simp (disch:=first|omega|(simp only[aZA,aZB,aZC,aZz,aA];omega)) only[go_sem,h85c,a,d,aG,aZM,Int.reduceToNat,aZS,q,e,A,i,F,l,k,f,Int.reduceLT,B,m,g,H,t,u,r,o,z,x]
  unfold dT Ql;rw[D];rfl;rw[if_pos x];simp only[aI.nil];simp (disch:=first|omega|(simp only[aZA,aZB,aZC,aZz,aA];omega)) only[go_sem,h85c,a,d,aG,aZM,Int.reduceToNat,aZS,q,e,A,i,F,l,k,f,Int.reduceLT,B,m,g,H,t,u,r,o,z,x]
  rfl;rw[if_pos C];rw[eq_false C] at o;simp only[aI.nil];simp (disch:=first|omega|(simp only[aZA,aZB,aZC,aZz,aA];omega)) only[go_sem,h85c,a,d,aG,aZM,Int.reduceToNat,aZS,q,e,A,i,F,l,k,f,Int.reduceLT,B,m,g,H,t,u,r,o]
  rfl
 |false=>
  have hr8':¬ s[8]=0:=by unfold Cn at I;rw[N] at I;simpa using I
  have e:s[8]=1:=by omega
  have h40:¬ s.length<40:=fun h=>J ⟨e,h⟩
  have y:¬ (s.length:Int)<40:=by omega
  rw[e] at q;have D:Ny s=40:=by unfold Ny;rw[I];rfl
  have eA:eU s=(40+qV s+7) / 8*8:=by unfold eU;rw[D]
  have B:=mB (G:=G) (bb:=bb) (40+qV s) (by omega);rw[bAu,show ((40:Nat):Int)=40 from rfl] at B
  have m:(8:Int)*(((40+qV s+7) / 8:Nat):Int)=((eU s:Nat):Int):=by omega
  rw[D];by_cases O:s.length<40+qV s;rw[if_pos O];have f:(s.length:Int)<40+(qV s:Int):=by omega
  simp only[aI.nil];simp (disch:=first|omega|(simp only[aZA,aZB,aZC,aZz,aA];omega)) only[go_sem,h85c,a,d,aG,aZM,Int.reduceToNat,aZS,q,e,A,i,F,l,k,y,eq_true f,Int.reduceLT]
  rfl;rw[if_neg O];have f:¬ (s.length:Int)<40+(qV s:Int):=by omega
  have H:(40+(qV s:Int)).toNat=40+qV s:=by omega
  by_cases K:s.length<eU s;rw[if_pos K];have g:(s.length:Int)<(eU s:Int):=by omega
  simp only[aI.nil];simp (disch:=first|omega|(simp only[aZA,aZB,aZC,aZz,aA];omega)) only[go_sem,h85c,a,d,aG,aZM,Int.reduceToNat,aZS,q,e,A,i,F,l,k,y,f,Int.reduceLT,B,m,eq_true g,H]
  rfl;rw[if_neg K];have g:¬ (s.length:Int)<(eU s:Int):=by omega
  rw[if_neg (by decide)];have W:EV G (Tb (bs bb)) 15 [sv s,vi 28,vi 4] []=some (vi (gL s 28 4),[]):=cY s n 28 4 (by omega) (by omega) (by omega);have X:EV G (Tb (bs bb)) 15 [sv s,vi 32,vi 4] []=some (vi (gL s 32 4),[]):=cY s n 32 4 (by omega) (by omega) (by omega);have Y:EV G (Tb (bs bb)) 15 [sv s,vi 36,vi 4] []=some (vi (gL s 36 4),[]):=cY s n 36 4 (by omega) (by omega) (by omega);simp (disch:=first|omega|(simp only[aZA,aZB,aZC,aZz,aA];omega)) only[go_sem,h85c,a,d,aG,aZM,Int.reduceToNat,aZS,q,e,A,i,F,l,k,y,f,Int.reduceLT,B,m,g,H,t,W,X,Y]
  by_cases Q:Co s=s.length-eU s+1
  ·rw[if_pos Q,aVz n hl K Q ?_]
   rotate_left
   unfold dFc Ql;rw[D];simp only[bA7,Int.add_zero];rfl;have c:¬ (eU s:Int)+((s.length-eU s+1:Nat):Int)<=(s.length:Int):=by omega
   generalize ((s.length-eU s+1:Nat):Int)=w at c;simp only[aI.nil];simp (disch:=first|omega|(simp only[aZA,aZB,aZC,aZz,aA];omega)) only[go_sem,h85l0,c]
   rfl
  ·rw[if_neg Q,aVA n hl K Q ?_]
   rotate_left
   unfold dFc Ql;rw[D];simp only[bA7,Int.add_zero];rfl;have Z:(mU (rsR s)).2=0:=by
    obtain⟨j1,j2,j3⟩:=bF (fun j=>(nO ((s.take (eU s+j)).drop (eU s))).2=0) (s.length-eU s+1)
    exact Ks (j2.elim (fun h=>absurd h Q) (fun h=>h.2))
   have p:=aOc n Z;have r:=aHF (G:=G) (bb:=bb) (dF s (rsR s)) p;have z:=X6 (G:=G) (bb:=bb) (dF s (rsR s)) p.w;have o:=cR (Ec p) n;unfold Us;generalize gQ (dF s (rsR s))=R at r o ⊢;generalize gI (dF s (rsR s))=E at z ⊢;generalize ((Co s+1:Nat):Int)=w;simp only[dF,aI.v,aI.c] at r z;unfold dFc;have cw:∀b:Bool,(b&&false)=false:=fun b=>by cases b<;>rfl
   by_cases M:(eU s:Int)+w<=(s.length:Int);all_goals
    by_cases C:R=s;rw[if_neg (fun h=>h C)]
    rw[eq_true C] at o;by_cases x:E=0;rw[if_neg (fun h=>h x)]
    first
     |(simp (disch:=first|omega|(simp only[aZA,aZB,aZC,aZz,aA];omega)) only[go_sem,h85l0,eq_true M,r,o,z,x];rfl)
     |(simp (disch:=first|omega|(simp only[aZA,aZB,aZC,aZz,aA];omega)) only[go_sem,h85l0,M,r,o,z,x];rfl)
    rw[if_pos x];simp only[aI.nil];first
     |(simp (disch:=first|omega|(simp only[aZA,aZB,aZC,aZz,aA];omega)) only[go_sem,h85l0,eq_true M,r,o,z,x];rfl)
     |(simp (disch:=first|omega|(simp only[aZA,aZB,aZC,aZz,aA];omega)) only[go_sem,h85l0,M,r,o,z,x];rfl)
    rw[if_pos C];rw[eq_false C] at o;simp only[aI.nil];first
     |(simp (disch:=first|omega|(simp only[aZA,aZB,aZC,aZz,aA];omega)) only[go_sem,h85l0,eq_true M,r,o];rfl)
     |(simp (disch:=first|omega|(simp only[aZA,aZB,aZC,aZz,aA];omega)) only[go_sem,h85l0,M,r,o];rfl)
