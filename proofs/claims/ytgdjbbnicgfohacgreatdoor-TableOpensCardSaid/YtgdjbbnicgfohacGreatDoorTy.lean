/- Part. Conditions: none. -/
import Derived.Test.YtgdjbbnicgfohacGreatDoorUw
import Derived.Test.YtgdjbbnicgfohacGreatDoorTf
import Derived.Test.YtgdjbbnicgfohacGreatDoorTu
import Derived.Test.YtgdjbbnicgfohacGreatDoorUj
namespace Go.Proofs.YtgdjbbnicgfohacGreatDoor
set_option maxHeartbeats 8000000
set_option linter.unusedSimpArgs false
set_option linter.unusedVariables false
set_option maxRecDepth 4000
section
variable {G:aF}{bb:Bool}
theorem aHp(a:aJ)(b:a.rs.length<=1000000):EV G (Tb (bs bb)) 176 [a.v] []=some (a.v,[]):=by
 refine aB rfl ?_;have q:=aAL (G:=G) (bb:=bb) a.rs b;simp (disch:=omega) only[go_sem,h176c,q,aJ.v,aZa]
abbrev lev(l:L aJ)(e:Int):AV:=.tup [.one (.dc (.slc (l.map aJ.e))),.one (.dc (ci e))]
theorem aHq(l:L aJ)(m:∀a∈l,a.W)(o:l.length<=1000):EV G (Tb (lJ bb)) 120 [vl (l.map aJ.e)] []=some (lev (if Ua l=0 then fA l else []) (Ua l),[]):=by
 refine aB rfl ?_;unfold Ua;by_cases r:l.length > 32;rw[if_pos r];have i:32<(l.length:Int):=by omega
 simp (disch:=omega) only[go_sem,h120c,aZa,eq_true i];rfl;rw[if_neg r];have i:¬ 32<(l.length:Int):=by omega
 simp (disch:=omega) only[go_sem,h120c,aZa,i];rw[dN (fun k=>⟨(vl (l.map aJ.e)::jk 3 (.one (.bld 0 ((l.take k).map aJ.e).length)::jk 6 (vl (l.map aJ.e)::vi l.length::vi k::jk 19 []))),[.arr 0 11 ((l.take k).map aJ.e)]⟩) (fun k=>kR l k≠0) l.length ?_ ?_]
 rotate_left
 rfl;intro k g p;have h:=Classical.not_not.1 (p k (aZe _));have q:=up (D0 (G:=G) (bb:=bb) l m o k g);rw[h] at q;have D:=up (aHp (G:=G) (bb:=bb) l[k] (by have:=(m _ (aZk g)).rl;omega));have y:((l.take k).map aJ.e).length<=1000:=by rw[aZa,aZf];omega
 have c:=aAN (l.take k);rw[aVb l k g];generalize (l.take k).map aJ.e=C at y c ⊢;simp (disch:=omega) only[go_sem,h120l0,aZa,ixA,aJ.e,q,D,c];rw[aZb];rfl;obtain⟨g,hp,p⟩:=bE (fun k=>kR l k≠0) l.length
 generalize ix (fun k=>kR l k≠0) l.length=k at *
 rcases hp with rfl|⟨d,h⟩;rw[if_neg (Nat.lt_irrefl _),if_pos rfl,aZT];have B:(l.map aJ.id).Nodup:=((A1 l).1 (fun j A=>Classical.not_not.1 (p j A))).2
 by_cases h0:l=[]
 ·subst h0;have q:=aLW (G:=G) (b:=bb);simp (disch:=omega) only[go_sem,h120l0,aZd,aZm,List.isEmpty_nil,q];first|done|rfl
 have f:0<l.length:=List.length_pos_iff.2 h0;have q:=aLV (G:=G) (b:=bb) l B o f;have w:(l.map aJ.e).isEmpty=false:=by cases l with|nil=>exact absurd rfl h0|cons _ _=>rfl
 have x:=uZ l;obtain⟨t,u,v⟩:=aLU (s:=11) (n:=l.length) (es:=(fA l).map aJ.e) (fun e z=>by obtain⟨a,_,rfl⟩:=List.mem_map.1 z;rfl) (by rw[aZa,x])
 unfold lev;generalize (fA l).map aJ.e=M at *;simp (disch:=omega) only[go_sem,h120l0,aZa,q,w,t,u,v,Pg,Nat.zero_mul,aZ1];rw[if_pos d,if_neg h];have q:=up (D0 (G:=G) (bb:=bb) l m o k d);simp (disch:=omega) only[go_sem,h120l0,aZa,ixA,aJ.e,q,h];rfl
end
section
variable {G:aF}{bb:Bool}
theorem aQw(a:aJ)(h:a.Dc)(b:a.res=true):EV G (Tb (bs bb)) 100 [a.v] []=some (sv (gJ a),[]):=by
 refine aB rfl ?_;obtain⟨r,s,u,w,x,y,z,B,C,g,i,j,k⟩:=h.bd;have D:=h.ty;have E:=h.nl;have F:=h.id;have H:=h.fl;obtain⟨O,P,Q,S,T⟩:=h.t b;have U:=h.vl;have c:sN a=24:=by simp[sN,b]
 have J:24+a.nm.length<=cW a/\cW a<=2000:=by simp only[cW,c];omega
 have e:=lZ (G:=G) (bb:=bb) (24+a.nm.length) (by omega);have n:(8:Int)*(((24+a.nm.length+7) / 8:Nat):Int)=((cW a:Nat):Int):=by simp only[cW,c];omega
 rw[aZ4,show ((24:Nat):Int)=24 from rfl] at e
 have K:eO a<=4000/\8<=eO a/\eO a % 8=0:=by
  have:qQ a=a.va:=by simp[qQ,b]
  simp only[eO,this];omega
 have L:(uT a).length=eO a-8:=by
  have I:=sO a;rw[uT,uS,uV h];simp only[aZb,aZh];simp only[eO];have:cW a % 8=0:=by unfold cW;omega
  omega
 have q:=mB (G:=G) (bb:=bb) (cW a-24-a.nm.length) (by omega);have l:((cW a:Nat):Int)-24-(a.nm.length:Int)=((cW a-24-a.nm.length:Nat):Int):=by omega
 have o:Lr a=Bg a++bI a.va.length 4++bI (cW a) 4:=by rw[Lr,if_pos b]
 have M:(Bg a).length=8:=by simp only[Bg,aZb,aA]
 have p:uT a=uS (Bg a++bI a.va.length 4++bI (cW a) 4++a.nm++List.replicate (cW a-24-a.nm.length) 0++a.va):=by rw[uT,o,c,Tk,if_pos b]
 have f0:Bg a=bI 0 1++bI a.nm.length 1++bI 24 2++bI a.fl 2++bI a.id 2:=by rw[Bg,if_pos b,c];rfl
 have d:=Dt (G:=G) (bb:=bb) (Bg a++bI a.va.length 4++bI (cW a) 4++a.nm++List.replicate (cW a-24-a.nm.length) 0++a.va) (by simp only[aZb,aA,aZh];omega);rw[<- p] at d;have f:=lZ (G:=G) (bb:=bb) ((uT a).length+8) (by omega);rw[aZ4,show ((8:Nat):Int)=8 from rfl] at f
 have m:(8:Int)*((((uT a).length+8+7) / 8:Nat):Int)=((eO a:Nat):Int):=by omega
 rw[f0] at d;unfold gJ;generalize uT a=R at *;generalize cW a=A at *;generalize eO a=N at *;simp (disch:=first|omega|(simp only[aZb,aZc,aZd,aZa,aA,aZh]<;>omega)) only[go_sem,h100c,b,aG,aAA,e,n,Ht,mA,qE,q,l,d,f,m,aZ7,aZh]
theorem aQx(a:aJ)(h:a.Dc)(d:a.res=false):EV G (Tb (bs bb)) 100 [a.v] []=some (sv (gJ a),[]):=by
 refine aB rfl ?_;obtain⟨D,E,F,H,I,J,K,L,M,l,m,n,o⟩:=h.bd;have b:¬ a.res=true:=by rw[d];decide
 have S:=h.ty;have T:=h.nl;have U:=h.id;have V:=h.fl;obtain⟨r2,g,r3,r5,r6,r7⟩:=h.f d;obtain⟨O,P,Q⟩:=J3 g;have c:sN a=40:=by simp[sN,d]
 have s:=uV h;have i:Tk a=(jE a.rs).1++[0]:=by rw[Tk,if_neg b]
 have Y:=J4 g;have w:(qQ a).length=(jE a.rs).1.length+1:=by rw[<- s,i];simp
 have X:40+a.nm.length<=cW a/\cW a<=2000:=by simp only[cW,c];omega
 have j:=lZ (G:=G) (bb:=bb) (40+a.nm.length) (by omega);have r:(8:Int)*(((40+a.nm.length+7) / 8:Nat):Int)=((cW a:Nat):Int):=by simp only[cW,c];omega
 rw[aZ4,show ((40:Nat):Int)=40 from rfl] at j
 have hs:eO a<=4000/\8<=eO a/\eO a % 8=0:=by
  simp only[eO];omega
 have hz:(uT a).length=eO a-8:=by
  have W:=sO a;rw[uT,uS,uV h];simp only[aZb,aZh];simp only[eO];have:cW a % 8=0:=by unfold cW;omega
  omega
 have x:=mB (G:=G) (bb:=bb) (cW a-40-a.nm.length) (by omega);have p:((cW a:Nat):Int)-40-(a.nm.length:Int)=((cW a-40-a.nm.length:Nat):Int):=by omega
 have y:=M5 (G:=G) (B:=bs bb) a.rs g;have z:=rI (G:=G) (B:=bs bb) a.rs (by omega);have C:=M4 (G:=G) (B:=bs bb) (a.fi+gI a.rs-1) 4294967296 (by omega);have l1:(Bg a).length=8:=by simp only[Bg,aZb,aA]
 have f0:Bg a=bI 1 1++bI a.nm.length 1++bI 40 2++bI a.fl 2++bI a.id 2:=by rw[Bg,if_neg b,c];rfl
 have t:Lr a=Bg a++bI a.fi 4++bI ((a.fi+gI a.rs-1) % 4294967296) 4++bI (cW a) 2++[0,0]++bI a.al 4++bI a.sz 4++bI a.vd 4:=by rw[Lr,if_neg b];rfl
 have l2:=sO a;have u:uT a=uS (Lr a++a.nm++List.replicate (cW a-40-a.nm.length) 0++((jE a.rs).1++[0])):=by rw[uT,c,i]
 have e:=Dt (G:=G) (bb:=bb) (Lr a++a.nm++List.replicate (cW a-40-a.nm.length) 0++((jE a.rs).1++[0])) (by simp only[aZb,aZh,bAL];omega);rw[<- u] at e;have k:=lZ (G:=G) (bb:=bb) ((uT a).length+8) (by omega);rw[aZ4,show ((8:Nat):Int)=8 from rfl] at k
 have q:(8:Int)*((((uT a).length+8+7) / 8:Nat):Int)=((eO a:Nat):Int):=by omega
 rw[t,f0] at e;unfold gJ;generalize uT a=R at *;generalize cW a=A at *;generalize eO a=N at *;have Z:0<=(a.fi+gI a.rs-1) % 4294967296/\(a.fi+gI a.rs-1) % 4294967296<=4294967296:=by omega
 simp (disch:=first|omega|(simp only[aZb,aZc,aZd,aZa,aA,aZh]<;>omega)) only[go_sem,h100c,d,aG,aAA,j,r,Ht,mA,qE,Tl,x,p,e,k,q,y,z,C,aZ7,aZh]
theorem aHr(a:aJ)(h:a.Dc):EV G (Tb (bs bb)) 100 [a.v] []=some (sv (gJ a),[]):=by
 cases b:a.res with
 |true=>exact aQw a h b
 |false=>exact aQx a h b
end
section
variable {G:aF}{bb:Bool}
def El(s:L Int):Nat->Nat
 |0=>0
 |k+1=>El s k+1+(s.getD (El s k) 0 % 16+s.getD (El s k) 0 / 16).toNat
noncomputable def raE(s:L Int):Nat:=ix (fun k=>s.length<=El s k\/s.getD (El s k) 0=0) (s.length+1)
noncomputable def raV(s:L Int):L Int:=if El s (raE s)<s.length then s.take (El s (raE s)+1) else s
theorem X8(s:L Int):∀k,k<=El s k
 |0=>aZe _
 |k+1=>by have:=X8 s k;rw[El];omega
theorem aHt(s:L Int):(s.length<=El s (raE s)\/s.getD (El s (raE s)) 0=0)/\∀j,j<raE s->El s j<s.length/\s.getD (El s j) 0≠0:=by
 obtain⟨c,a,h3⟩:=bE (fun k=>s.length<=El s k\/s.getD (El s k) 0=0) (s.length+1)
 refine⟨?_,fun j b=>?_⟩
 rcases a with a|a;have:=X8 s (raE s);exact .inl (by unfold raE at *;omega)
 exact a.2;have:=h3 j b;exact⟨by omega,fun h=>this (.inr h)⟩
theorem aHu(s:L Int)(i:aK s)(o:s.length<=1000000):EV G (Tb (bs bb)) 235 [sv s] []=some (sv (raV s),[]):=by
 refine aB rfl ?_;simp (disch:=first|omega|(simp only[aZb,aZc,aZd,aZa,aA];omega)) only[go_sem,h235c]
 obtain⟨f,g⟩:=aHt s;rw[aR (fun k=>⟨(sv s::jk 2 (vi (El s k)::jk 24 [])),[]⟩) (raE s) ?_ ?_]
 rotate_left
 rfl;intro k n;obtain⟨b,a⟩:=g k n;have e:=i _ (aZk b);rw[cD s _ b] at a;have m:(El s (k+1):Int)=El s k+(1+s[El s k] % 16+s[El s k] / 16):=by
  rw[El,cD s _ b];omega
 have d:=gY _ e;rw[m];generalize hp:El s k=p at *;have j:=aNG (s[p]'b) e;simp (disch:=first|omega|(simp only[aZb,aZc,aZd,aZa,aA];omega)) only[go_sem,h235l0,aZt,d,a,j,Int.reduceToNat,Int.reducePow,E7]
 unfold raV;generalize El s (raE s)=p at *;by_cases c:p<s.length;rw[if_pos c];have a:s.getD p 0=0:=f.elim (fun h=>absurd h (by omega)) id
 have e:=i _ (aZk c);rw[cD s _ c] at a;have d:=gY _ e;rw[a] at d;simp (disch:=first|omega|(simp only[aZb,aZc,aZd,aZa,aA];omega)) only[go_sem,h235l0,aZt,d,a]
 rw[if_neg c];have l:¬ (p:Int)<(s.length:Int):=by omega
 simp (disch:=first|omega|(simp only[aZb,aZc,aZd,aZa,aA];omega)) only[go_sem,h235l0,l]
theorem aHv{s:L Int}(h:aK s):aK (raV s):=by
 unfold raV;split;exact fun b a=>h b (aZA a)
 exact h
def Ch(s:L Int):Bool:=decide (s.getD 8 0=0)
def Nq(s:L Int):Nat:=if Ch s=true then 24 else 40
def qS(s:L Int):Nat:=(gL s 9 1).toNat
def eL(s:L Int):Nat:=(Nq s+qS s+7) / 8*8
def P5(s:L Int):L Int:=(s.take (Nq s+qS s)).drop (Nq s)
def Qz(s:L Int):Nat:=(gL s 16 4).toNat
def dT(s:L Int):aJ:=⟨gL s 0 4,P5 s,gL s 14 2,gL s 12 2,true,(s.take (eL s+Qz s)).drop (eL s),0,[],0,0,0⟩
noncomputable def dF(s:L Int)(a:L aV):aJ:=⟨gL s 0 4,P5 s,gL s 14 2,gL s 12 2,false,[],gL s 16 4,a,gL s 28 4,gL s 32 4,gL s 36 4⟩
noncomputable def qT(s:L Int):aJ×Bool:=if s.length<24 then (aJ.nil,false) else if s.length<eL s then (aJ.nil,false) else
 if Ch s=true then (if s.length<eL s+Qz s then (aJ.nil,false) else (dT s,true)) else (dF s (nK (raV (s.drop (eL s)))).1,decide ((nK (raV (s.drop (eL s)))).2=0))
theorem aDg(s:L Int)(e:aK s)(N:s.length<=1000):EV G (Tb (bs bb)) 191 [sv s] []=some (.tup [(qT s).1.t,.one (bC (qT s).2)],[]):=by
 refine aB rfl ?_;unfold qT;by_cases C:s.length<24;rw[if_pos C];have c:(s.length:Int)<24:=by omega
 simp only[aJ.nil];simp (disch:=first|omega|(simp only[aZb,aZc,aZd,aZa,aA];omega)) only[go_sem,h191c,eq_true c,aG,bC,aZm]
 rfl;rw[if_neg C];have c:¬ (s.length:Int)<24:=by omega
 have q:EV G (Tb (bs bb)) 233 [sv s,vi 0,vi 4] []=some (vi (gL s 0 4),[]):=Gc s e 0 4 (by omega) (by omega) (by omega);have g:EV G (Tb (bs bb)) 233 [sv s,vi 14,vi 2] []=some (vi (gL s 14 2),[]):=Gc s e 14 2 (by omega) (by omega) (by omega);have f:EV G (Tb (bs bb)) 233 [sv s,vi 12,vi 2] []=some (vi (gL s 12 2),[]):=Gc s e 12 2 (by omega) (by omega) (by omega);have m:EV G (Tb (bs bb)) 233 [sv s,vi 9,vi 1] []=some (vi (gL s 9 1),[]):=Gc s e 9 1 (by omega) (by omega) (by omega);have h:EV G (Tb (bs bb)) 233 [sv s,vi 16,vi 4] []=some (vi (gL s 16 4),[]):=Gc s e 16 4 (by omega) (by omega) (by omega);have A:=Pz e 9;have r:=kP e 16 4 (by omega);have J:=e _ (aZk (show 8<s.length by omega));have n:=gY _ J;have E:s.getD 8 0=s[8]:=cD s 8 (by omega);cases i:Ch s with
 |true=>
  have d:s[8]=0:=by unfold Ch at i;rw[E] at i;simpa using i
  rw[d] at n;have p:Nq s=24:=by unfold Nq;rw[i];rfl
  have v:gL s 9 1=(qS s:Int):=by unfold qS;omega
  have u:gL s 16 4=(Qz s:Int):=by unfold Qz;omega
  have H:eL s=(24+qS s+7) / 8*8:=by unfold eL;rw[p]
  have j:=Ax (G:=G) (bb:=bb) (24+(qS s:Int)) (by omega);have l:al8 (24+(qS s:Int))=(eL s:Int):=by unfold al8;omega
  rw[l] at j;rw[v] at m A;by_cases o:s.length<eL s;rw[if_pos o];have a:(s.length:Int)<(eL s:Int):=by omega
  simp only[aJ.nil];simp (disch:=first|omega|(simp only[aZb,aZc,aZd,aZa,aA];omega)) only[go_sem,h191c,c,aG,bC,aZm,Int.reduceToNat,q,g,f,m,aZt,n,d,Cc,j,eq_true a]
  rfl;rw[if_neg o];have a:¬ (s.length:Int)<(eL s:Int):=by omega
  rw[u] at h r;by_cases D:s.length<eL s+Qz s;rw[if_pos D];have k:(s.length:Int)-(eL s:Int)<(Qz s:Int):=by omega
  simp only[aJ.nil];simp (disch:=first|omega|(simp only[aZb,aZc,aZd,aZa,aA];omega)) only[go_sem,h191c,c,aG,bC,aZm,Int.reduceToNat,q,g,f,m,aZt,n,d,Cc,j,a,h,eq_true k]
  rfl;rw[if_neg D];have k:¬ (s.length:Int)-(eL s:Int)<(Qz s:Int):=by omega
  simp (disch:=first|omega|(simp only[aZb,aZc,aZd,aZa,aA];omega)) only[go_sem,h191c,c,aG,bC,aZm,Int.reduceToNat,q,g,f,m,aZt,n,d,Cc,j,a,h,k]
  have w:(24+(qS s:Int)).toNat=24+qS s:=by omega
  rw[w];unfold dT P5;rw[p];rfl
 |false=>
  have d:¬ s[8]=0:=by unfold Ch at i;rw[E] at i;simpa using i
  have p:Nq s=40:=by unfold Nq;rw[i];rfl
  have v:gL s 9 1=(qS s:Int):=by unfold qS;omega
  have H:eL s=(40+qS s+7) / 8*8:=by unfold eL;rw[p]
  have j:=Ax (G:=G) (bb:=bb) (40+(qS s:Int)) (by omega);have l:al8 (40+(qS s:Int))=(eL s:Int):=by unfold al8;omega
  rw[l] at j;rw[v] at m A;by_cases o:s.length<eL s;rw[if_pos o];have a:(s.length:Int)<(eL s:Int):=by omega
  simp only[aJ.nil];simp (disch:=first|omega|(simp only[aZb,aZc,aZd,aZa,aA];omega)) only[go_sem,h191c,c,aG,bC,aZm,Int.reduceToNat,q,g,f,m,aZt,n,d,Cc,j,eq_true a]
  rfl;rw[if_neg o];have a:¬ (s.length:Int)<(eL s:Int):=by omega
  have x:EV G (Tb (bs bb)) 233 [sv s,vi 28,vi 4] []=some (vi (gL s 28 4),[]):=Gc s e 28 4 (by omega) (by omega) (by omega);have y:EV G (Tb (bs bb)) 233 [sv s,vi 32,vi 4] []=some (vi (gL s 32 4),[]):=Gc s e 32 4 (by omega) (by omega) (by omega);have z:EV G (Tb (bs bb)) 233 [sv s,vi 36,vi 4] []=some (vi (gL s 36 4),[]):=Gc s e 36 4 (by omega) (by omega) (by omega);have F:aK (s.drop (eL s)):=fun b I=>e b (aZL I)
  have K:=aHu (G:=G) (bb:=bb) (s.drop (eL s)) F (by rw[aZn];omega);have M:=aGP (G:=G) (B:=bs bb) (raV (s.drop (eL s))) (aHv F);simp (disch:=first|omega|(simp only[aZb,aZc,aZd,aZa,aA];omega)) only[go_sem,h191c,c,aG,bC,aZm,Int.reduceToNat,q,g,f,m,aZt,n,d,Cc,j,a,h,x,y,z,K,M]
  have w:(40+(qS s:Int)).toNat=40+qS s:=by omega
  rw[w];unfold dF P5;rw[p]
theorem Km{s:L Int}(h:(nK s).2=0):(mS (nK s).1).2=0:=by
 unfold nK at h ⊢;split at h;exact absurd h (by decide);rename_i c;rw[if_neg c];unfold pY at h ⊢;split at h;exact absurd h (by decide);rename_i b;rw[if_neg b];split at h;rename_i a;exact absurd h a;rename_i a;rw[if_neg a];exact Classical.not_not.1 a
theorem P6{s:L Int}(a:aK s)(q:s.length<=1000)(h:(qT s).2=true):(qT s).1.Dc:=by
 unfold qT at h ⊢;split at h;cases h;rename_i l;rw[if_neg l];split at h;cases h;rename_i m;rw[if_neg m];have p:=Pz a 9;have k:=kP a 0 4 (by omega);have d:=Ce a 14;have c:=Ce a 12;have f:aK (P5 s):=fun b i=>a b (aZA (aZL i))
 have e:(P5 s).length<=255:=by
  unfold P5;rw[aZn,aZf];unfold qS;omega
 split at h;rename_i j;rw[if_pos j];split at h;cases h
 rename_i n;rw[if_neg n];exact⟨k,f,e,d,c,fun b i=>a b (aZA (aZL i)),by
  show ((s.take (eL s+Qz s)).drop (eL s)).length<=1000;rw[aZn,aZf];omega,fun _=>⟨rfl,rfl,rfl,rfl,rfl⟩,fun g=>(by cases g)⟩
 rename_i j;rw[if_neg j];have o:=Km (by simpa using h);exact⟨k,f,e,d,c,jI,aZv _,fun g=>(by cases g),fun _=>⟨rfl,o,kP a 16 4 (by omega),kP a 28 4 (by omega),kP a 32 4 (by omega),kP a 36 4 (by omega)⟩⟩
theorem bP{a b:L Int}(c:aK a)(d:aK b):aK (a++b):=fun x e=>(bAv.1 e).elim (c x) (d x)
theorem Kn(n:Nat):aK (List.replicate n 0):=fun x a=>by rw[List.eq_of_mem_replicate a];omega
theorem Nr:∀(l:L aV)(a:Int),aK (dO a l)
 |[],_=>jI
 | r::l,a=>by
  have c:=uU r.n;have d:=uU (r.s - a);rw[dO,sS];refine bP (fun x b=>?_) (Nr l _)
  rcases bAl.1 b with rfl | b
  ·unfold tO;split<;>omega
  ·unfold Dx at b;split at b
   ·exact cR _ _ x b
   ·exact bP (cR _ _) (cR _ _) x b
theorem D4{a:aJ}(h:a.Dc):aK (gJ a):=by
 have d:aK (Tk a):=by
  unfold Tk;split;exact h.va;exact bP (by rw[E8];exact Nr _ _) (Jz _ (by decide))
 have b:aK (Bg a):=by unfold Bg;exact bP (bP (bP (bP (cR _ _) (cR _ _)) (cR _ _)) (cR _ _)) (cR _ _)
 have c:aK (Lr a):=by
  unfold Lr;split;exact bP (bP b (cR _ _)) (cR _ _);exact bP (bP (bP (bP (bP (bP (bP b (cR _ _)) (cR _ _)) (cR _ _)) (Kn _)) (cR _ _)) (cR _ _)) (cR _ _)
 unfold gJ uT uS;exact bP (bP (cR _ _) (cR _ _)) (bP (bP (bP (bP c h.nm) (Kn _)) d) (Kn _))
theorem aJ.Dc.w{a:aJ}(h:a.Dc):a.W:=by
 have c:=h.nl;have d:=h.vl;refine⟨h.nm,h.va,by omega,by omega,?_⟩;cases b:a.res with
 |true=>rw[(h.t b).1];simp
 |false=>have:=nZ (h.f b).2.1;omega
noncomputable def bL(s:L Int):aJ×Int:=if s.length > 440 then (aJ.nil,8) else
 if (qT s).2=false\/tL (qT s).1≠s then (aJ.nil,3) else if gE (qT s).1≠0 then (aJ.nil,gE (qT s).1) else ((qT s).1,0)
theorem aDh(s:L Int)(k:aK s)(n:s.length<=1000):EV G (Tb (bs bb)) 130 [sv s] []=some (rtv (bL s),[]):=by
 refine aB rfl ?_;unfold bL;by_cases m:s.length > 440;rw[if_pos m];have c:440<(s.length:Int):=by omega
 simp only[aJ.nil];simp (disch:=first|omega|(simp only[aZb,aZc,aZd,aZa,aA];omega)) only[go_sem,h130c,eq_true c,aG,aZm]
 rfl;rw[if_neg m];have c:¬ 440<(s.length:Int):=by omega
 have q:=aDg (G:=G) (bb:=bb) s k n;have f:=P6 k n;generalize qT s=d at q f ⊢;obtain⟨a,b⟩:=d;cases b with
 |false=>
  rw[if_pos (.inl rfl)];simp only[aJ.nil];simp (disch:=first|omega|(simp only[aZb,aZc,aZd,aZa,aA];omega)) only[go_sem,h130c,c,aG,aZm,q,bC]
  rfl
 |true=>
  have h:=f rfl;simp only at h;have l:=E5 (G:=G) (bb:=bb) a h.bd;have o:=Ds (G:=G) (bb:=bb) a h.w;have e:=cQ (a:=tL a) (b:=s) (by rw[uW h];exact D4 h) k;by_cases i:tL a=s;rw[if_neg (fun g=>g.elim (fun g=>by cases g) (fun g=>g i))]
  rw[eq_true i] at e;by_cases j:gE a=0;rw[if_neg (fun g=>g j)]
  simp (disch:=first|omega|(simp only[aZb,aZc,aZd,aZa,aA];omega)) only[go_sem,h130c,c,aG,q,bC,l,e,o,j]
  rw[if_pos j];simp only[aJ.nil];simp (disch:=first|omega|(simp only[aZb,aZc,aZd,aZa,aA];omega)) only[go_sem,h130c,c,aG,aZm,q,bC,l,e,o,j]
  rfl;rw[if_pos (.inr i)];rw[eq_false i] at e;simp only[aJ.nil];simp (disch:=first|omega|(simp only[aZb,aZc,aZd,aZa,aA];omega)) only[go_sem,h130c,c,aG,aZm,q,bC,l,e]
  rfl
end
section
variable {G:aF}{bb:Bool}
noncomputable def Ci(s:L Int):Nat:=ix (fun j=>(nK ((s.take (eL s+j)).drop (eL s))).2=0) (s.length-eL s+1)
noncomputable def rsR(s:L Int):L aV:=(nK ((s.take (eL s+Ci s)).drop (eL s))).1
def Uf(a:aJ)(s:L Int):aJ×Int:=if gJ a≠s then (aJ.nil,3) else if gE a≠0 then (aJ.nil,gE a) else (a,0)
def aDi(s:L Int):Prop:=s.length<24\/1<s.getD 8 0\/(s.getD 8 0=1/\s.length<40)
open Classical in
noncomputable def Ko(s:L Int):aJ×Int:=if s.length > 440 then (aJ.nil,8) else if aDi s then (aJ.nil,3) else
 if s.length<Nq s+qS s then (aJ.nil,3) else if s.length<eL s then (aJ.nil,3) else
 if Ch s=true then (if s.length<eL s+Qz s then (aJ.nil,3) else Uf (dT s) s) else if Ci s=s.length-eL s+1 then (aJ.nil,3) else Uf (dF s (rsR s)) s
def dFc(s:L Int)(x:aU):L aU:=[.dc (ci (gL s 0 4)),.dc (.raw (.string (dB (P5 s)))),.dc (ci (gL s 14 2)),.dc (ci (gL s 12 2)),.dc (.raw (.bool false)),.dc (.raw (.string (dB []))),.dc (ci (gL s 16 4)),x,.dc (ci (gL s 28 4)),.dc (ci (gL s 32 4)),.dc (ci (gL s 36 4))]
theorem P7{s:L Int}(a:aK s):aK (P5 s)/\(P5 s).length<=255:=by
 have d:=Pz a 9;refine⟨fun b c=>a b (aZA (aZL c)),?_⟩
 unfold P5;rw[aZn,aZf];unfold qS;omega
theorem aNK{s:L Int}(a:aK s)(d:s.length<=1000):(dT s).Dc:=
 ⟨kP a 0 4 (by omega),(P7 a).1,(P7 a).2,Ce a 14,Ce a 12,fun b c=>a b (aZA (aZL c)),by
  show ((s.take (eL s+Qz s)).drop (eL s)).length<=1000;rw[aZn,aZf];omega,fun _=>⟨rfl,rfl,rfl,rfl,rfl⟩,fun g=>(by cases g)⟩
theorem aNL{s:L Int}(a:aK s){b:L aV}(h:(mS b).2=0):(dF s b).Dc:=
 ⟨kP a 0 4 (by omega),(P7 a).1,(P7 a).2,Ce a 14,Ce a 12,jI,aZv _,fun g=>(by cases g),fun _=>⟨rfl,h,kP a 16 4 (by omega),kP a 28 4 (by omega),kP a 32 4 (by omega),kP a 36 4 (by omega)⟩⟩
theorem Ug{s:L Int}(a:aK s)(k:Nat):aK ((s.take (eL s+k)).drop (eL s)):=fun b c=>a b (aZA (aZL c))
theorem aAV{s:L Int}(b:aK s)(g:s.length<=1000)(k:Nat)(f:k<s.length-eL s+1)(d:¬ s.length<eL s)(a:¬ (nK ((s.take (eL s+k)).drop (eL s))).2=0):Lf [0,1,1,0,1,1,0] 2 (EC (EV G (Tb (bs bb))) G h70l0 ⟨(sv s::jk 1 (.one (.ptr 0 0)::jk 1 (vi 3::.one (.ptr 1 0)::jk 1 (vi (eL s)::jk 1 (vb false::vi ((eL s:Int)+k)::jk 143 []))))),[.box P2,.box (dFc s (cI (.slice none 0 0)))]⟩)=some ⟨(sv s::jk 1 (.one (.ptr 0 0)::jk 1 (vi 3::.one (.ptr 1 0)::jk 1 (vi (eL s)::jk 1 (vb false::vi ((eL s:Int)+(k+1:Nat))::jk 143 []))))),[.box P2,.box (dFc s (cI (.slice none 0 0)))]⟩:=by
 have q:=M9 (G:=G) (B:=bs bb) _ (Ug b k);generalize nK ((s.take (eL s+k)).drop (eL s))=r at q a;obtain⟨h,e⟩:=r;simp only at a q;have c:(eL s:Int)+(k:Int)<=(s.length:Int):=by omega
 unfold dFc;simp (disch:=first|omega|(simp only[aZb,aZc,aZd,aZa,aA];omega)) only[go_sem,h70l0,eq_true c,q,a]
theorem aVi{s:L Int}(b:aK s)(d:s.length<=1000)(a:¬ s.length<eL s)(f:Ci s=s.length-eL s+1){st:AS}(h0:st=⟨(sv s::jk 1 (.one (.ptr 0 0)::jk 1 (vi 3::.one (.ptr 1 0)::jk 1 (vi (eL s)::jk 1 (vb false::vi ((eL s:Int)+(0:Nat))::jk 143 []))))),[.box P2,.box (dFc s (cI (.slice none 0 0)))]⟩):EL (EV G (Tb (bs bb))) G h70l0 [0,1,1,0,1,1,0] 2 st=fnK (EV G (Tb (bs bb))) G h70l0 [0,1,1,0,1,1,0] 2 (EC (EV G (Tb (bs bb))) G h70l0 ⟨(sv s::jk 1 (.one (.ptr 0 0)::jk 1 (vi 3::.one (.ptr 1 0)::jk 1 (vi (eL s)::jk 1 (vb false::vi ((eL s:Int)+((s.length-eL s+1:Nat):Int))::jk 143 []))))),[.box P2,.box (dFc s (cI (.slice none 0 0)))]⟩):=by
 obtain⟨g,h,e⟩:=bE (fun j=>(nK ((s.take (eL s+j)).drop (eL s))).2=0) (s.length-eL s+1)
 exact aR (fun k=>⟨(sv s::jk 1 (.one (.ptr 0 0)::jk 1 (vi 3::.one (.ptr 1 0)::jk 1 (vi (eL s)::jk 1 (vb false::vi ((eL s:Int)+(k:Int))::jk 143 []))))),[.box P2,.box (dFc s (cI (.slice none 0 0)))]⟩) (s.length-eL s+1) h0 (fun k c=>aAV b d k c a (e k (by unfold Ci at f;omega)))
theorem aVj{s:List Int}(d:aK s)(o:s.length<=1000)(l:¬ s.length<eL s)(t:¬ Ci s=s.length-eL s+1){st:AS}(h0:st=⟨(sv s::jk 1 (.one (.ptr 0 0)::jk 1 (vi 3::.one (.ptr 1 0)::jk 1 (vi (eL s)::jk 1 (vb false::vi ((eL s:Int)+(0:Nat))::jk 143 []))))),[.box P2,.box (dFc s (cI (.slice none 0 0)))]⟩):EL (EV G (Tb (bs bb))) G h70l0 [0,1,1,0,1,1,0] 2 st=fnK (EV G (Tb (bs bb))) G h70l0 [0,1,1,0,1,1,0] 2 (EC (EV G (Tb (bs bb))) G h70l0 ⟨(sv s::jk 1 (.one (.ptr 0 0)::jk 1 (vi 3::.one (.ptr 1 0)::jk 1 (vi (eL s)::jk 1 (vb true::vi ((eL s:Int)+((Ci s+1:Nat):Int))::jk 143 []))))),[.box P2,.box (dFc s (.dc (.slc ((rsR s).map aV.e))))]⟩):=by
 obtain⟨v,p,r⟩:=bE (fun j=>(nK ((s.take (eL s+j)).drop (eL s))).2=0) (s.length-eL s+1)
 have f:Ci s<s.length-eL s+1/\(nK ((s.take (eL s+Ci s)).drop (eL s))).2=0:=p.elim (fun h=>absurd h t) id
 have g:∀ j,j < Ci s->¬ (nK ((s.take (eL s+j)).drop (eL s))).2=0:=r;have b:(nK ((s.take (eL s+Ci s)).drop (eL s))).1=rsR s:=rfl;generalize Ci s=J at f g b ⊢;have e:=aR (call:=EV G (Tb (bs bb))) (G:=G) (a:=h70l0) (L:=[0,1,1,0,1,1,0]) (m:=2) (fun k=>if k<=J then ⟨(sv s::jk 1 (.one (.ptr 0 0)::jk 1 (vi 3::.one (.ptr 1 0)::jk 1 (vi (eL s)::jk 1 (vb false::vi ((eL s:Int)+(k:Int))::jk 143 []))))),[.box P2,.box (dFc s (cI (.slice none 0 0)))]⟩ else ⟨(sv s::jk 1 (.one (.ptr 0 0)::jk 1 (vi 3::.one (.ptr 1 0)::jk 1 (vi (eL s)::jk 1 (vb true::vi ((eL s:Int)+(k:Int))::jk 143 []))))),[.box P2,.box (dFc s (.dc (.slc ((rsR s).map aV.e))))]⟩) (J+1) (h0.trans (if_pos (aZv _)).symm) (fun k u=>by
  by_cases c:k < J
  ·rw[if_pos (by omega),if_pos (by omega)];exact aAV d o k (by omega) l (g k c)
  ·have n:k=J:=by omega
   subst n;rw[if_pos (aZe _),if_neg (by omega)];have q:=M9 (G:=G) (B:=bs bb) _ (Ug d k);rw[f.2,b] at q;have i:(eL s:Int)+(k:Int)<=(s.length:Int):=by omega
   unfold dFc;simp (disch:=first | omega | (simp only[aZb,aZc,aZd,aZa,aA];omega)) only[go_sem,h70l0,eq_true i,q])
 rw[if_neg (by omega)] at e;exact e
end
section
variable {G:aF}{bb:Bool}
theorem D5:∀(a b:L aV)(c:Int),dO c (a++b)=dO c a++dO (a.foldl Hu c) b
 |[],_,_=>rfl
 |r::a,b,c=>by rw[aZx,dO,D5 a b,dO,aZr];rfl
theorem aHw(a:Int)(r:aV):(tO a r % 16+tO a r / 16).toNat=(Dx a r).length:=by
 have b:=uU r.n;have c:=uU (r.s-a);unfold tO Dx;split;rw[aA];omega;rw[aZb,aA,aA];omega
theorem Ns(p L:List Int):(p++L).getD p.length 0=L.getD 0 0:=by
 rw[aZo,aZo,aZB (aZe _),aZ2]
theorem P8(l:L aV)(a:L Int):∀k,k<=l.length->El (dO 0 l++([0]++a)) k=(dO 0 (l.take k)).length/\∀j,j<k->(dO 0 l++([0]++a)).getD (El (dO 0 l++([0]++a)) j) 0≠0
 |0,_=>⟨rfl,fun j i=>by omega⟩
 | k+1,m=>by
  obtain⟨e,h⟩:=P8 l a k (by omega);have b:k < l.length:=by omega
  have f:l=l.take k++(l[k]::l.drop (k+1)):=by rw[<- aZ5 b,bAx]
  have g:dO 0 l=dO 0 (l.take k)++(tO ((l.take k).foldl Hu 0) l[k]::(Dx ((l.take k).foldl Hu 0) l[k]++dO (Hu ((l.take k).foldl Hu 0) l[k]) (l.drop (k+1)))):=by
   conv=>lhs;rw[f]
   rw[D5,dO,sS];rfl
  have d:(dO 0 l++([0]++a)).getD (El (dO 0 l++([0]++a)) k) 0=tO ((l.take k).foldl Hu 0) l[k]:=by
   rw[e]
   conv=>lhs;rw[g]
   rw[aZr,Ns];rfl
  refine⟨?_,fun j i=>?_⟩
  ·rw[El,d,aHw,e,bAa b,D5,aZb];show _=_+(dO _ [l[k]]).length;simp only[dO,sS,aZ7,aZc];omega
  ·by_cases c:j < k
   ·exact h j c
   ·have:j=k:=by omega
    subst this;rw[d];exact Pw _ _
theorem aLY(l:L aV)(a:L Int):raV ((jE l).1++[0]++a)=(jE l).1++[0]:=by
 rw[E8,aZr];obtain⟨b,f⟩:=P8 l a l.length (aZe _);rw[aZT] at b;have k:=X8 (dO 0 l++([0]++a)) l.length;have d:(dO 0 l++([0]++a)).length=(dO 0 l).length+1+a.length:=by simp only[aZb,aZc,aZd];omega
 have i:(dO 0 l++([0]++a)).getD (dO 0 l).length 0=0:=by rw[Ns];rfl
 have e:∀ j,j<=l.length->El (dO 0 l++([0]++a)) j < (dO 0 l++([0]++a)).length:=fun j c=>by
  have h3:=(P8 l a j c).1;have:(dO 0 (l.take j)).length<=(dO 0 l).length:=by
   conv=>rhs;rw[<- bAx j l,D5,aZb]
   omega
  omega
 have h:raE (dO 0 l++([0]++a))=l.length:=by
  unfold raE;refine aAF (by omega) (.inr (by rw[b];exact i)) (fun j c g=>?_)
  rcases g with g|g;have:=e j (by omega);omega
  exact f j c g
 unfold raV;rw[h,if_pos (e _ (aZe _)),b];rw[<- aZr,bAs (by simp)]
theorem oW(p L:List Int)(k:Nat)(h:p.length<=k):(p++L).drop k=L.drop (k-p.length):=by
 rw[List.drop_append,List.drop_of_length_le h,aZs]
theorem Hw(L:List Int)(k:Nat)(h:k=0):L.drop k=L:=by subst h;rfl
theorem aAW(s:L Int)(k:Nat)(h:k<s.length):s.getD k 0=gL s k 1:=by
 rw[cD s k h];unfold gL;rw[aZ5 h,bAE,bAp];show s[k]=s[k]+256*0;omega
theorem pI(z L:List Int)(a k:Nat)(b:a=0)(h:z.length=k):gL (z++L) a k=gv z:=by subst b;exact P0 z L k h
theorem shT{a:aJ}(h:a.Dc)(c:a.res=true):gJ a=bI a.ty 4++(bI (eO a) 4++(bI 0 1++(bI a.nm.length 1++(bI 24 2++(bI a.fl 2++(bI a.id 2++(bI a.va.length 4++(bI (cW a) 4++(a.nm++(List.replicate (cW a-24-a.nm.length) 0++(a.va++List.replicate (eO a-cW a-a.va.length) 0))))))))))):=by
 obtain⟨l,g,i,j,k⟩:=Gb a;have d:sN a=24:=by simp[sN,c]
 have b:qQ a=a.va:=by simp[qQ,c]
 have f:=uV h;rw[d] at g;rw[b] at i k;unfold gJ uT Lr Bg uS;rw[if_pos c,if_pos c,d,f,b];simp only[aZr];simp only[aZb,aA,aZh];have e:=aGZ (1+(1+(2+(2+(2+(4+(4+(a.nm.length+((cW a-24-a.nm.length)+a.va.length))))))))) (eO a) (eO a-cW a-a.va.length) (by omega) j (by omega);rw[e];rfl
theorem shF{a:aJ}(h:a.Dc)(e:a.res=false):gJ a=bI a.ty 4++(bI (eO a) 4++(bI 1 1++(bI a.nm.length 1++(bI 40 2++(bI a.fl 2++(bI a.id 2++(bI a.fi 4++(bI (a.fi+gI a.rs-1) 4++(bI (cW a) 2++(List.replicate 2 0++(bI a.al 4++(bI a.sz 4++(bI a.vd 4++(a.nm++(List.replicate (cW a-40-a.nm.length) 0++(((jE a.rs).1++[0])++List.replicate (eO a-cW a-(qQ a).length) 0)))))))))))))))):=by
 obtain⟨m,k,f,l,g⟩:=Gb a;have b:¬ a.res=true:=by rw[e];decide
 have d:sN a=40:=by simp[sN,e]
 have j:=uV h;have c:Tk a=(jE a.rs).1++[0]:=by rw[Tk,if_neg b]
 rw[<- j,c] at f g ⊢;rw[d] at k;unfold gJ uT Lr Bg uS;rw[if_neg b,if_neg b,d,c,aAG];simp only[aZr];simp only[aZb,aA,aZh] at f g ⊢;have i:=aGZ (1+(1+(2+(2+(2+(4+(4+(2+(2+(4+(4+(4+(a.nm.length+((cW a-40-a.nm.length)+((jE a.rs).1.length+[(0:Int)].length))))))))))))))) (eO a) (eO a-cW a-((jE a.rs).1.length+[(0:Int)].length)) (by omega) l (by omega);rw[i];rfl
theorem aVk{a:aJ}(h:a.Dc)(d:a.res=true):Ch (gJ a)=true/\eL (gJ a)=cW a/\qS (gJ a)=a.nm.length/\Qz (gJ a)=a.va.length/\(gJ a).getD 8 0=0/\dT (gJ a)=a/\(gJ a).length=eO a/\24+a.nm.length<=cW a/\cW a+a.va.length<=eO a:=by
 obtain⟨I,w,x,J,D⟩:=Gb a;have u:sN a=24:=by simp[sN,d]
 have i:qQ a=a.va:=by simp[qQ,d]
 rw[u] at w;rw[i] at x D;have f:(gJ a).length=eO a:=by rw[<- uW h,nJ a h.bd]
 have l:=h.ty;have B:=h.nl;have k:=h.id;have j:=h.fl;have C:=h.vl;have c:=shT h d;have H:gL (gJ a) 8 1=0:=by
  rw[c];simp (disch:=first|omega|(simp only[aA]<;>omega)|fail) only[iF,pI,aA,Nat.reduceSub]
  rfl
 have r9:gL (gJ a) 9 1=a.nm.length:=by
  rw[c];simp (disch:=first|omega|(simp only[aA]<;>omega)|fail) only[iF,pI,aA,Nat.reduceSub]
  exact gv1 _ (by omega)
 have E:gL (gJ a) 0 4=a.ty:=by
  rw[c];simp (disch:=first|omega|(simp only[aA]<;>omega)|fail) only[iF,pI,aA,Nat.reduceSub]
  exact gv4 _ l
 have m:gL (gJ a) 12 2=a.fl:=by
  rw[c];simp (disch:=first|omega|(simp only[aA]<;>omega)|fail) only[iF,pI,aA,Nat.reduceSub]
  exact gv2 _ j
 have n:gL (gJ a) 14 2=a.id:=by
  rw[c];simp (disch:=first|omega|(simp only[aA]<;>omega)|fail) only[iF,pI,aA,Nat.reduceSub]
  exact gv2 _ k
 have F:gL (gJ a) 16 4=a.va.length:=by
  rw[c];simp (disch:=first|omega|(simp only[aA]<;>omega)|fail) only[iF,pI,aA,Nat.reduceSub]
  exact gv4 _ (by omega)
 have b:(gJ a).drop 24=a.nm++(List.replicate (cW a-24-a.nm.length) 0++(a.va++List.replicate (eO a-cW a-a.va.length) 0)):=by
  rw[c];simp (disch:=first|omega|(simp only[aA]<;>omega)|fail) only[oW,Hw,aA,Nat.reduceSub]
 have o:(gJ a).drop (cW a)=a.va++List.replicate (eO a-cW a-a.va.length) 0:=by
  have e:(gJ a).drop (cW a)=((gJ a).drop 24).drop (cW a-24):=by rw[bAe];congr 1;omega
  rw[e,b,oW _ _ _ (by omega),oW _ _ _ (by rw[aZh];omega),Hw _ _ (by rw[aZh];omega)]
 have v:(gJ a).getD 8 0=0:=by rw[aAW _ _ (by omega),H]
 have r:Ch (gJ a)=true:=by unfold Ch;rw[v];rfl
 have q:Nq (gJ a)=24:=by unfold Nq;rw[r];rfl
 have g:qS (gJ a)=a.nm.length:=by unfold qS;omega
 have p:eL (gJ a)=cW a:=by unfold eL;rw[q,g];unfold cW;rw[u]
 have s:Qz (gJ a)=a.va.length:=by unfold Qz;omega
 have A:P5 (gJ a)=a.nm:=by unfold P5;rw[q,g,bAr,b,show 24+a.nm.length-24=a.nm.length by omega,bAs];rfl
 refine⟨r,p,g,s,v,?_,f,w,x⟩;obtain⟨t1,y,t3,z,t5⟩:=h.t d;unfold dT;rw[A,p,s,E,m,n,bAr,o,show cW a+a.va.length-cW a=a.va.length by omega,bAs rfl];cases a;simp only at d t1 y t3 z t5;subst d;subst t1;subst y;subst t3;subst z;subst t5;rfl
theorem aVl{a:aJ}(h:a.Dc)(d:a.res=false):Ch (gJ a)=false/\eL (gJ a)=cW a/\qS (gJ a)=a.nm.length/\(gJ a).getD 8 0=1/\dF (gJ a) a.rs=a/\(gJ a).drop (cW a)=((jE a.rs).1++[0])++List.replicate (eO a-cW a-(qQ a).length) 0/\(gJ a).length=eO a/\40+a.nm.length<=cW a/\cW a+((jE a.rs).1.length+1)<=eO a:=by
 obtain⟨N,y,O,P,Q⟩:=Gb a;have v:sN a=40:=by simp[sN,d]
 have H:=uV h;have B:Tk a=(jE a.rs).1++[0]:=by rw[Tk,if_neg (by rw[d];decide)]
 have I:(qQ a).length=(jE a.rs).1.length+1:=by rw[<- H,B];simp
 rw[v] at y;have g:(gJ a).length=eO a:=by rw[<- uW h,nJ a h.bd]
 have l:=h.ty;have J:=h.nl;have k:=h.id;have j:=h.fl;obtain⟨w,M,C,D,E,F⟩:=h.f d;have b:=shF h d;have L:gL (gJ a) 8 1=1:=by
  rw[b];simp (disch:=first|omega|(simp only[aA,aZh]<;>omega)|fail) only[iF,pI,aA,aZh,Nat.reduceSub]
  rfl
 have r9:gL (gJ a) 9 1=a.nm.length:=by
  rw[b];simp (disch:=first|omega|(simp only[aA,aZh]<;>omega)|fail) only[iF,pI,aA,aZh,Nat.reduceSub]
  exact gv1 _ (by omega)
 have K:gL (gJ a) 0 4=a.ty:=by
  rw[b];simp (disch:=first|omega|(simp only[aA,aZh]<;>omega)|fail) only[iF,pI,aA,aZh,Nat.reduceSub]
  exact gv4 _ l
 have m:gL (gJ a) 12 2=a.fl:=by
  rw[b];simp (disch:=first|omega|(simp only[aA,aZh]<;>omega)|fail) only[iF,pI,aA,aZh,Nat.reduceSub]
  exact gv2 _ j
 have n:gL (gJ a) 14 2=a.id:=by
  rw[b];simp (disch:=first|omega|(simp only[aA,aZh]<;>omega)|fail) only[iF,pI,aA,aZh,Nat.reduceSub]
  exact gv2 _ k
 have o:gL (gJ a) 16 4=a.fi:=by
  rw[b];simp (disch:=first|omega|(simp only[aA,aZh]<;>omega)|fail) only[iF,pI,aA,aZh,Nat.reduceSub]
  exact gv4 _ C
 have p:gL (gJ a) 28 4=a.al:=by
  rw[b];simp (disch:=first|omega|(simp only[aA,aZh]<;>omega)|fail) only[iF,pI,aA,aZh,Nat.reduceSub]
  exact gv4 _ D
 have q:gL (gJ a) 32 4=a.sz:=by
  rw[b];simp (disch:=first|omega|(simp only[aA,aZh]<;>omega)|fail) only[iF,pI,aA,aZh,Nat.reduceSub]
  exact gv4 _ E
 have r:gL (gJ a) 36 4=a.vd:=by
  rw[b];simp (disch:=first|omega|(simp only[aA,aZh]<;>omega)|fail) only[iF,pI,aA,aZh,Nat.reduceSub]
  exact gv4 _ F
 have c:(gJ a).drop 40=a.nm++(List.replicate (cW a-40-a.nm.length) 0++(((jE a.rs).1++[0])++List.replicate (eO a-cW a-(qQ a).length) 0)):=by
  rw[b];simp (disch:=first|omega|(simp only[aA,aZh]<;>omega)|fail) only[oW,Hw,aA,aZh,Nat.reduceSub]
 have s:(gJ a).drop (cW a)=((jE a.rs).1++[0])++List.replicate (eO a-cW a-(qQ a).length) 0:=by
  have e:(gJ a).drop (cW a)=((gJ a).drop 40).drop (cW a-40):=by rw[bAe];congr 1;omega
  rw[e,c,oW _ _ _ (by omega),oW _ _ _ (by rw[aZh];omega),Hw _ _ (by rw[aZh];omega)]
 have x:(gJ a).getD 8 0=1:=by rw[aAW _ _ (by omega),L]
 have u:Ch (gJ a)=false:=by unfold Ch;rw[x];rfl
 have t:Nq (gJ a)=40:=by unfold Nq;rw[u];rfl
 have i:qS (gJ a)=a.nm.length:=by unfold qS;omega
 have z:eL (gJ a)=cW a:=by unfold eL;rw[t,i];unfold cW;rw[v]
 have A:P5 (gJ a)=a.nm:=by unfold P5;rw[t,i,bAr,c,show 40+a.nm.length-40=a.nm.length by omega,bAs];rfl
 refine⟨u,z,i,x,?_,s,g,y,by omega⟩;unfold dF;rw[A,K,m,n,o,p,q,r];cases a;simp only at d w;subst d;subst w;rfl
theorem Uh{a:aJ}(h:a.Dc):qT (gJ a)=(a,true):=by
 cases e:a.res with
 |true=>
  obtain⟨b,c,j,g,i,d,k,l,m⟩:=aVk h e;unfold qT;rw[if_neg (by omega),c,if_neg (by omega),if_pos b,g,if_neg (by omega),d]
 |false=>
  obtain⟨b,c,j,g,i,d,k,l,m⟩:=aVl h e;have n:=(h.f e).2.1;unfold qT;rw[if_neg (by omega),c,if_neg (by omega),if_neg (by rw[b];decide),d,aLY,Px n,i];rfl
theorem aHx{a:aJ}(h:a.Dc)(x:(gJ a).length<=440):Ko (gJ a)=Uf a (gJ a):=by
 unfold Ko;rw[if_neg (by omega)];cases q:a.res with
 |true=>
  obtain⟨d,e,i,k,l,m,t,u,v⟩:=aVk h q;have n:Nq (gJ a)=24:=by unfold Nq;rw[d];rfl
  have r:¬ aDi (gJ a):=by
   unfold aDi;rw[l];omega
  rw[if_neg r,n,i,if_neg (by omega),e,if_neg (by omega),if_pos d,k,if_neg (by omega),m]
 |false=>
  obtain⟨d,e,i,k,l,m,t,u,v⟩:=aVl h q;have p:=(h.f q).2.1;have n:Nq (gJ a)=40:=by unfold Nq;rw[d];rfl
  have r:¬ aDi (gJ a):=by
   unfold aDi;rw[k];omega
  have b:∀ j,((gJ a).take (eL (gJ a)+j)).drop (eL (gJ a))=(((jE a.rs).1++[0])++List.replicate (eO a - cW a - (qQ a).length) 0).take j:=fun j=>by
   rw[bAr,e,m];congr 1;omega
  have c:(((jE a.rs).1++[0])++List.replicate (eO a-cW a-(qQ a).length) 0).take ((jE a.rs).1.length+1)=(jE a.rs).1++[0]:=bAs (by simp);have s:Ci (gJ a)=(jE a.rs).1.length+1:=by
   unfold Ci;refine aAF (by rw[e];omega) ?_ (fun j w g=>?_)
   rw[b,c,Px p];rw[b,bAz (by simp;omega)] at g;exact aQf p j w g
  have o:rsR (gJ a)=a.rs:=by
   unfold rsR;rw[s,b,c,Px p]
  rw[if_neg r,n,i,if_neg (by omega),e,if_neg (by omega),if_neg (by rw[d];decide),s,if_neg (by omega),o,l]
theorem aQy{s:L Int}(f:aK s)(n:s.length<=1000):bL s=Ko s:=by
 by_cases b:s.length > 440;unfold bL Ko;rw[if_pos b,if_pos b];by_cases a:(qT s).2=true/\tL (qT s).1=s;have m:=P6 f n a.1;have d:=uW m;have l:=aHx m (by rw[<- d,a.2];omega);rw[<- d,a.2] at l;rw[l];unfold bL Uf;rw[if_neg b,if_neg (fun g=>g.elim (fun g=>by rw[a.1] at g;cases g) (fun g=>g a.2)),if_neg (show ¬ gJ (qT s).1≠s from fun g=>g (by rw[<- d];exact a.2))]
 have o:bL s=(aJ.nil,3):=by
  unfold bL;rw[if_neg b,if_pos];by_cases k:(qT s).2=true;exact .inr (fun g=>a ⟨k,g⟩)
  exact .inl (by simpa using k)
 have c:∀ x:aJ,x.Dc->Uf x s=(aJ.nil,3):=fun x c=>by
  unfold Uf;rw[if_pos];intro g;have e:=Uh c;rw[g] at e;exact a ⟨by rw[e],by rw[e];show tL x=s;rw[uW c,g]⟩
 rw[o];unfold Ko;rw[if_neg b];split;rfl;split;rfl;split;rfl;split;split;rfl;exact (c _ (aNK f n)).symm;split;rfl;rename_i q;have i:(mS (rsR s)).2=0:=by
  obtain⟨r,p,t⟩:=bE (fun j=>(nK ((s.take (eL s+j)).drop (eL s))).2=0) (s.length-eL s+1)
  exact Km (p.elim (fun h=>absurd h q) (fun h=>h.2))
 exact (c _ (aNL f i)).symm
end
section
variable {G:aF}{bb:Bool}
theorem X9(s:L Int)(n:aK s)(hl:s.length<=1000):EV G (Tb (bs bb)) 70 [sv s] []=some (rtv (Ko s),[]):=by
 refine aB rfl ?_;unfold Ko;by_cases c0:s.length > 440;rw[if_pos c0];have a:440<(s.length:Int):=by omega
 simp only[aJ.nil];simp (disch:=first|omega|(simp only[aZb,aZc,aZd,aZa,aA];omega)) only[go_sem,h70c,eq_true a,aG,aZm]
 rfl;rw[if_neg c0];have a:¬ 440<(s.length:Int):=by omega
 by_cases c1:s.length<24;rw[if_pos (.inl c1)];have d:(s.length:Int)<24:=by omega
 simp only[aJ.nil];simp (disch:=first|omega|(simp only[aZb,aZc,aZd,aZa,aA];omega)) only[go_sem,h70c,a,eq_true d,aG,aZm]
 rfl;have d:¬ (s.length:Int)<24:=by omega
 have hx:=n _ (aZk (show 8<s.length by omega));have q:=gY _ hx;have N:s.getD 8 0=s[8]:=cD s 8 (by omega);have P:=n _ (aZk (show 9<s.length by omega));have i:=gY _ P;have b9:=Pz n 9;have A:s[9]=(qS s:Int):=by
  have:gL s 9 1=s[9]:=by
   unfold gL;rw[aZ5 (by omega),bAE,bAp];show s[9]+256*0=s[9];omega
  unfold qS;omega
 rw[A] at i P;by_cases T:1<s[8];rw[if_pos (.inr (.inl (by rw[N];exact T)))];simp only[aJ.nil];simp (disch:=first|omega|(simp only[aZb,aZc,aZd,aZa,aA];omega)) only[go_sem,h70c,a,d,aG,aZm,Int.reduceToNat,aZt,q,eq_true T]
 rfl;by_cases J:s[8]=1/\s.length<40;rw[if_pos (.inr (.inr (by rw[N];exact J)))];obtain⟨J,c4⟩:=J;have U:(s.length:Int)<40:=by omega
 rw[J] at q;simp only[aJ.nil];simp (disch:=first|omega|(simp only[aZb,aZc,aZd,aZa,aA];omega)) only[go_sem,h70c,a,d,aG,aZm,Int.reduceToNat,aZt,q,J,eq_true U,Int.lt_irrefl]
 rfl;have nb:¬ aDi s:=by
  intro h;rcases h with h|h|h
  exact c1 h;rw[N] at h;exact T h;rw[N] at h;exact J h
 rw[if_neg nb];have F:EV G (Tb (bs bb)) 68 [sv s,vi 0,vi 4] []=some (vi (gL s 0 4),[]):=cV s n 0 4 (by omega) (by omega) (by omega);have l:EV G (Tb (bs bb)) 68 [sv s,vi 14,vi 2] []=some (vi (gL s 14 2),[]):=cV s n 14 2 (by omega) (by omega) (by omega);have k:EV G (Tb (bs bb)) 68 [sv s,vi 12,vi 2] []=some (vi (gL s 12 2),[]):=cV s n 12 2 (by omega) (by omega) (by omega);have t:EV G (Tb (bs bb)) 68 [sv s,vi 16,vi 4] []=some (vi (gL s 16 4),[]):=cV s n 16 4 (by omega) (by omega) (by omega);have S:=kP n 16 4 (by omega);cases I:Ch s with
 |true=>
  have e:s[8]=0:=by unfold Ch at I;rw[N] at I;simpa using I
  rw[e] at q;have D:Nq s=24:=by unfold Nq;rw[I];rfl
  have V:gL s 16 4=(Qz s:Int):=by unfold Qz;omega
  have eA:eL s=(24+qS s+7) / 8*8:=by unfold eL;rw[D]
  have B:=lZ (G:=G) (bb:=bb) (24+qS s) (by omega);rw[aZ4,show ((24:Nat):Int)=24 from rfl] at B
  have m:(8:Int)*(((24+qS s+7) / 8:Nat):Int)=((eL s:Nat):Int):=by omega
  rw[D];rw[V] at t S;by_cases O:s.length<24+qS s;rw[if_pos O];have f:(s.length:Int)<24+(qS s:Int):=by omega
  simp only[aJ.nil];simp (disch:=first|omega|(simp only[aZb,aZc,aZd,aZa,aA];omega)) only[go_sem,h70c,a,d,aG,aZm,Int.reduceToNat,aZt,q,e,A,i,F,l,k,eq_true f,Int.reduceLT]
  rfl;rw[if_neg O];have f:¬ (s.length:Int)<24+(qS s:Int):=by omega
  have H:(24+(qS s:Int)).toNat=24+qS s:=by omega
  by_cases K:s.length<eL s;rw[if_pos K];have g:(s.length:Int)<(eL s:Int):=by omega
  simp only[aJ.nil];simp (disch:=first|omega|(simp only[aZb,aZc,aZd,aZa,aA];omega)) only[go_sem,h70c,a,d,aG,aZm,Int.reduceToNat,aZt,q,e,A,i,F,l,k,f,Int.reduceLT,B,m,eq_true g,H]
  rfl;rw[if_neg K];have g:¬ (s.length:Int)<(eL s:Int):=by omega
  rw[if_pos rfl];by_cases d3:s.length<eL s+Qz s;rw[if_pos d3];have u:(s.length:Int)<(eL s:Int)+(Qz s:Int):=by omega
  simp only[aJ.nil];simp (disch:=first|omega|(simp only[aZb,aZc,aZd,aZa,aA];omega)) only[go_sem,h70c,a,d,aG,aZm,Int.reduceToNat,aZt,q,e,A,i,F,l,k,f,Int.reduceLT,B,m,g,H,t,eq_true u]
  rfl;rw[if_neg d3];have u:¬ (s.length:Int)<(eL s:Int)+(Qz s:Int):=by omega
  have p:=aNK n hl;have r:=aHr (G:=G) (bb:=bb) (dT s) p;have z:=Xj (G:=G) (bb:=bb) (dT s) p.w;have o:=cQ (D4 p) n;unfold Uf;generalize gJ (dT s)=R at r o ⊢;generalize gE (dT s)=E at z ⊢;simp only[dT,P5,D,aJ.v,aJ.c,aZm] at r z;by_cases C:R=s;rw[if_neg (fun h=>h C)]
  rw[eq_true C] at o;by_cases x:E=0;rw[if_neg (fun h=>h x)]
  simp (disch:=first|omega|(simp only[aZb,aZc,aZd,aZa,aA];omega)) only[go_sem,h70c,a,d,aG,aZm,Int.reduceToNat,aZt,q,e,A,i,F,l,k,f,Int.reduceLT,B,m,g,H,t,u,r,o,z,x]
  unfold dT P5;rw[D];rfl;rw[if_pos x];simp only[aJ.nil];simp (disch:=first|omega|(simp only[aZb,aZc,aZd,aZa,aA];omega)) only[go_sem,h70c,a,d,aG,aZm,Int.reduceToNat,aZt,q,e,A,i,F,l,k,f,Int.reduceLT,B,m,g,H,t,u,r,o,z,x]
  rfl;rw[if_pos C];rw[eq_false C] at o;simp only[aJ.nil];simp (disch:=first|omega|(simp only[aZb,aZc,aZd,aZa,aA];omega)) only[go_sem,h70c,a,d,aG,aZm,Int.reduceToNat,aZt,q,e,A,i,F,l,k,f,Int.reduceLT,B,m,g,H,t,u,r,o]
  rfl
 |false=>
  have hr8':¬ s[8]=0:=by unfold Ch at I;rw[N] at I;simpa using I
  have e:s[8]=1:=by omega
  have h40:¬ s.length<40:=fun h=>J ⟨e,h⟩
  have y:¬ (s.length:Int)<40:=by omega
  rw[e] at q;have D:Nq s=40:=by unfold Nq;rw[I];rfl
  have eA:eL s=(40+qS s+7) / 8*8:=by unfold eL;rw[D]
  have B:=lZ (G:=G) (bb:=bb) (40+qS s) (by omega);rw[aZ4,show ((40:Nat):Int)=40 from rfl] at B
  have m:(8:Int)*(((40+qS s+7) / 8:Nat):Int)=((eL s:Nat):Int):=by omega
  rw[D];by_cases O:s.length<40+qS s;rw[if_pos O];have f:(s.length:Int)<40+(qS s:Int):=by omega
  simp only[aJ.nil];simp (disch:=first|omega|(simp only[aZb,aZc,aZd,aZa,aA];omega)) only[go_sem,h70c,a,d,aG,aZm,Int.reduceToNat,aZt,q,e,A,i,F,l,k,y,eq_true f,Int.reduceLT]
  rfl;rw[if_neg O];have f:¬ (s.length:Int)<40+(qS s:Int):=by omega
  have H:(40+(qS s:Int)).toNat=40+qS s:=by omega
  by_cases K:s.length<eL s;rw[if_pos K];have g:(s.length:Int)<(eL s:Int):=by omega
  simp only[aJ.nil];simp (disch:=first|omega|(simp only[aZb,aZc,aZd,aZa,aA];omega)) only[go_sem,h70c,a,d,aG,aZm,Int.reduceToNat,aZt,q,e,A,i,F,l,k,y,f,Int.reduceLT,B,m,eq_true g,H]
  rfl;rw[if_neg K];have g:¬ (s.length:Int)<(eL s:Int):=by omega
  rw[if_neg (by decide)];have W:EV G (Tb (bs bb)) 68 [sv s,vi 28,vi 4] []=some (vi (gL s 28 4),[]):=cV s n 28 4 (by omega) (by omega) (by omega);have X:EV G (Tb (bs bb)) 68 [sv s,vi 32,vi 4] []=some (vi (gL s 32 4),[]):=cV s n 32 4 (by omega) (by omega) (by omega);have Y:EV G (Tb (bs bb)) 68 [sv s,vi 36,vi 4] []=some (vi (gL s 36 4),[]):=cV s n 36 4 (by omega) (by omega) (by omega);simp (disch:=first|omega|(simp only[aZb,aZc,aZd,aZa,aA];omega)) only[go_sem,h70c,a,d,aG,aZm,Int.reduceToNat,aZt,q,e,A,i,F,l,k,y,f,Int.reduceLT,B,m,g,H,t,W,X,Y]
  by_cases Q:Ci s=s.length-eL s+1
  ·rw[if_pos Q,aVi n hl K Q ?_]
   rotate_left
   unfold dFc P5;rw[D];simp only[bAF,Int.add_zero];rfl;have c:¬ (eL s:Int)+((s.length-eL s+1:Nat):Int)<=(s.length:Int):=by omega
   generalize ((s.length-eL s+1:Nat):Int)=w at c;simp only[aJ.nil];simp (disch:=first|omega|(simp only[aZb,aZc,aZd,aZa,aA];omega)) only[go_sem,h70l0,c]
   rfl
  ·rw[if_neg Q,aVj n hl K Q ?_]
   rotate_left
   unfold dFc P5;rw[D];simp only[bAF,Int.add_zero];rfl;have Z:(mS (rsR s)).2=0:=by
    obtain⟨j1,j2,j3⟩:=bE (fun j=>(nK ((s.take (eL s+j)).drop (eL s))).2=0) (s.length-eL s+1)
    exact Km (j2.elim (fun h=>absurd h Q) (fun h=>h.2))
   have p:=aNL n Z;have r:=aHr (G:=G) (bb:=bb) (dF s (rsR s)) p;have z:=Xj (G:=G) (bb:=bb) (dF s (rsR s)) p.w;have o:=cQ (D4 p) n;unfold Uf;generalize gJ (dF s (rsR s))=R at r o ⊢;generalize gE (dF s (rsR s))=E at z ⊢;generalize ((Ci s+1:Nat):Int)=w;simp only[dF,aJ.v,aJ.c] at r z;unfold dFc;have cw:∀b:Bool,(b&&false)=false:=fun b=>by cases b<;>rfl
   by_cases M:(eL s:Int)+w<=(s.length:Int);all_goals
    by_cases C:R=s;rw[if_neg (fun h=>h C)]
    rw[eq_true C] at o;by_cases x:E=0;rw[if_neg (fun h=>h x)]
    first
     |(simp (disch:=first|omega|(simp only[aZb,aZc,aZd,aZa,aA];omega)) only[go_sem,h70l0,eq_true M,r,o,z,x];rfl)
     |(simp (disch:=first|omega|(simp only[aZb,aZc,aZd,aZa,aA];omega)) only[go_sem,h70l0,M,r,o,z,x];rfl)
    rw[if_pos x];simp only[aJ.nil];first
     |(simp (disch:=first|omega|(simp only[aZb,aZc,aZd,aZa,aA];omega)) only[go_sem,h70l0,eq_true M,r,o,z,x];rfl)
     |(simp (disch:=first|omega|(simp only[aZb,aZc,aZd,aZa,aA];omega)) only[go_sem,h70l0,M,r,o,z,x];rfl)
    rw[if_pos C];rw[eq_false C] at o;simp only[aJ.nil];first
     |(simp (disch:=first|omega|(simp only[aZb,aZc,aZd,aZa,aA];omega)) only[go_sem,h70l0,eq_true M,r,o];rfl)
     |(simp (disch:=first|omega|(simp only[aZb,aZc,aZd,aZa,aA];omega)) only[go_sem,h70l0,M,r,o];rfl)
