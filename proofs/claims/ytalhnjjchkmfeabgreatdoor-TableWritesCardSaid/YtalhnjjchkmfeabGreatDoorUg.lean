/- Part. Conditions: none. -/
import Derived.Test.YtalhnjjchkmfeabGreatDoorUc
namespace Go.Proofs.YtalhnjjchkmfeabGreatDoor
set_option maxHeartbeats 4000000
set_option linter.unusedSimpArgs false
set_option linter.unusedVariables false
set_option maxRecDepth 4000
section
variable {G:aE}{bb:Bool}
theorem Tg(l:L Int)(n:Nat)(h:l.length<=n):jN ((l.map yC).take n)=some (l.map u8):=by rw[Dt l n h,kN]
theorem Jo(a:aK):(Te a).length=fA a:=by simp only[Te,dI,aP]
theorem aCB(a:aK)(h:a.Bd)(d:a.res=true):EV G (Tb (bs bb)) 169 [a.v] []=some (sv (uE a),[]):=by
 refine aA rfl ?_;obtain⟨l,m,x,D,y,B,u,t,r,q,z,C,w⟩:=h;have f:tH a=24:=by simp[tH,d]
 have e:rG a=a.va:=by simp[rG,d]
 have o:al8 (24+(a.nm.length:Int))=((cZ a:Nat):Int):=by simp only[al8,cZ,f];omega
 have p:al8 (((cZ a:Nat):Int)+(a.va.length:Int))=((fA a:Nat):Int):=by simp only[al8,fA,e];omega
 have E:24+a.nm.length<=cZ a/\cZ a<=2000:=by simp only[cZ,f];omega
 have F:cZ a+a.va.length<=fA a/\fA a<=4000:=by simp only[fA,e];omega
 unfold uE Tf;rw[if_pos d];have h6:=Jo a;unfold Te at h6 ⊢;rw[f,e] at *;generalize cZ a=A at *;generalize fA a=N at *;have g:=pW (aY (aY (aY (aY (aY (aY (aY (aY (zl N) 0 a.ty 4) 4 N 4) 9 a.nm.length 1) 10 24 2) 12 a.fl 2) 14 a.id 2) 16 a.va.length 4) 20 A 4) a.nm 24 (N-24) l (by omega);have i:=pW (gI (aY (aY (aY (aY (aY (aY (aY (aY (zl N) 0 a.ty 4) 4 N 4) 9 a.nm.length 1) 10 24 2) 12 a.fl 2) 14 a.id 2) 16 a.va.length 4) 20 A 4) 24 a.nm) a.va A (N-A) m (by omega);have c:(gI (aY (aY (aY (aY (aY (aY (aY (aY (zl N) 0 a.ty 4) 4 N 4) 9 a.nm.length 1) 10 24 2) 12 a.fl 2) 14 a.id 2) 16 a.va.length 4) 20 A 4) 24 a.nm).length=N:=by
  rw[cR (by simp only[dI,aP];omega)];simp only[dI,aP]
 have j:=cR (b:=gI (aY (aY (aY (aY (aY (aY (aY (aY (zl N) 0 a.ty 4) 4 N 4) 9 a.nm.length 1) 10 24 2) 12 a.fl 2) 14 a.id 2) 16 a.va.length 4) 20 A 4) 24 a.nm) (k:=A) (s:=a.va) (by omega);rw[c] at j;have n:(A+(N-A)<=N)=True:=eq_true (by omega);simp (disch:=first|omega|(simp only[aY9,dI,aP]<;>omega)) only[go_sem,h169c,d,Cb,A1,o,p,Pb,aY9,aNB,aNE,aND,aNC,Int.reduceToNat,aZy,dI,aP,g,i,c,n,if_true,Tg,aZW,Option.toList_some,Option.toList_none,aZp,aZn]
theorem aCC(a:aK)(h:a.Bd)(e:a.res=false):EV G (Tb (bs bb)) 169 [a.v] []=some (sv (uE a),[]):=by
 refine aA rfl ?_;obtain⟨n,J,E,L,F,I,z,y,x,u,H,K,D⟩:=h;have o:¬ a.res=true:=by rw[e];decide
 have g:tH a=40:=by simp[tH,e]
 have f:rG a=(Ca a.rs).1:=by simp[rG,e]
 obtain⟨i,w⟩:=Ms a.rs;have M:=aGi (G:=G) (B:=bs bb) a.rs;have p:=F9 (G:=G) (bb:=bb) a (by omega);simp only[aK.v,aK.c,e] at p;have r:al8 (40+(a.nm.length:Int))=((cZ a:Nat):Int):=by simp only[al8,cZ,g];omega
 have t:al8 (((cZ a:Nat):Int)+((Ca a.rs).1.length:Int))=((fA a:Nat):Int):=by simp only[al8,fA,f];omega
 have O:40+a.nm.length<=cZ a/\cZ a<=2000:=by simp only[cZ,g];omega
 have P:cZ a+(Ca a.rs).1.length<=fA a/\fA a<=4000:=by simp only[fA,f];omega
 unfold uE Tf;rw[if_neg o];have h6:=Jo a;unfold Te at h6 ⊢;rw[g,f] at *;generalize cZ a=A at *;generalize fA a=N at *;generalize (Ca a.rs).1=C at *;have j:=pW (aY (aY (aY (aY (aY (aY (aY (aY (aY (aY (aY (aY (aY (zl N) 0 a.ty 4) 4 N 4) 9 a.nm.length 1) 10 40 2) 12 a.fl 2) 14 a.id 2) 8 1 1) 16 a.fi 4) 20 (a.fi+gP a.rs-1) 4) 24 A 2) 28 a.al 4) 32 a.sz 4) 36 a.vd 4) a.nm 40 (N-40) n (by omega);have d:(gI (aY (aY (aY (aY (aY (aY (aY (aY (aY (aY (aY (aY (aY (zl N) 0 a.ty 4) 4 N 4) 9 a.nm.length 1) 10 40 2) 12 a.fl 2) 14 a.id 2) 8 1 1) 16 a.fi 4) 20 (a.fi+gP a.rs-1) 4) 24 A 2) 28 a.al 4) 32 a.sz 4) 36 a.vd 4) 40 a.nm).length=N:=by
  rw[cR (by simp only[dI,aP];omega)];simp only[dI,aP]
 have l:=pW (gI (aY (aY (aY (aY (aY (aY (aY (aY (aY (aY (aY (aY (aY (zl N) 0 a.ty 4) 4 N 4) 9 a.nm.length 1) 10 40 2) 12 a.fl 2) 14 a.id 2) 8 1 1) 16 a.fi 4) 20 (a.fi+gP a.rs-1) 4) 24 A 2) 28 a.al 4) 32 a.sz 4) 36 a.vd 4) 40 a.nm) C A (N-A) i (by omega);have m:=cR (b:=gI (aY (aY (aY (aY (aY (aY (aY (aY (aY (aY (aY (aY (aY (zl N) 0 a.ty 4) 4 N 4) 9 a.nm.length 1) 10 40 2) 12 a.fl 2) 14 a.id 2) 8 1 1) 16 a.fi 4) 20 (a.fi+gP a.rs-1) 4) 24 A 2) 28 a.al 4) 32 a.sz 4) 36 a.vd 4) 40 a.nm) (k:=A) (s:=C) (by omega);rw[d] at m;have q:(A+(N-A)<=N)=True:=eq_true (by omega);simp (disch:=first|omega|(simp only[aY9,dI,aP]<;>omega)) only[go_sem,h169c,e,Cb,A1,r,t,M,p,Pb,aY9,aNB,aNE,aND,aNC,Int.reduceToNat,aZy,dI,aP,j,l,d,q,if_true,Tg,aZW,Option.toList_some,Option.toList_none,aZp,aZn]
theorem E6(a:aK)(h:a.Bd):EV G (Tb (bs bb)) 169 [a.v] []=some (sv (uE a),[]):=by
 cases b:a.res with
 |true=>exact aCB a h b
 |false=>exact aCC a h b
theorem nU(a:aK)(h:a.Bd):(uE a).length=fA a:=by
 have b:(rG a).length<=1000:=by
  unfold rG;split;exact h.vl;have:=(Ms a.rs).2;omega
 have h7:(Tf a).length=fA a:=by
  unfold Tf;split<;>simp only[dI,Jo]
 have c:tH a+a.nm.length<=cZ a:=by unfold cZ;omega
 have d:cZ a+(rG a).length<=fA a:=by unfold fA;omega
 have h8:(gI (Tf a) (tH a) a.nm).length=fA a:=by rw[cR (by omega),h7]
 rw[uE,cR (by omega),h8]
end
section
variable {G:aE}{bb:Bool}
def Li(a:aK):Int:=if a.rs=[]/\a.fi=0/\a.al=0/\a.sz=0/\a.vd=0 then (if a.va.length > 400 then 8 else 0) else 3
def Jp(a:aK):Int:=
 if a.ty∈Gu then 20 else if a.va≠[] then 3 else if ¬(0<=a.fi/\a.fi<=4096) then 2 else if (nC a.rs).2≠0 then (nC a.rs).2
 else if a.fi > 0/\a.rs=[] then 17 else if a.fi+gP a.rs > 4096 then 8 else if a.fi > 0/\(a.al≠0\/a.sz≠0\/a.vd≠0) then 3
 else if ¬((0<=a.al/\a.al<=1048576)/\(0<=a.sz/\a.sz<=1048576)/\(0<=a.vd/\a.vd<=1048576)) then 2 else if a.vd > a.sz then 9 else 0
def uF(a:aK):Int:=if a.res=true then Li a else Jp a
def iL(a:aK):Int:=
 if a.ty∉Mr then 15 else if O9 a.nm=false then 4 else if ¬((0<=a.id/\a.id<=65535)/\(0<=a.fl/\a.fl<=7)) then 2
 else if uF a≠0 then uF a else if fA a > 440 then 16 else 0
structure aK.W (a:aK):Prop where
 nm:aH a.nm
 va:aH a.va
 nl:a.nm.length<=100000
 vl:a.va.length<=100000
 rl:a.rs.length<=100000
theorem rs0(l:L aV):((l.length:Int)=0)=(l=[]):=by
 apply propext;rw[<- List.length_eq_zero_iff];omega
theorem aGp(a:aK):EV G (Tb (bs bb)) 194 [a.v] []=some (vi (Li a),[]):=by
 refine aA rfl ?_;unfold Li;have i:((a.va.length:Int)<=400)=(a.va.length<=400):=by apply propext;omega
 by_cases b:a.rs=[];by_cases c:a.fi=0;by_cases d:a.al=0;by_cases e:a.sz=0;by_cases f:a.vd=0;rw[if_pos ⟨b,c,d,e,f⟩];by_cases g:a.va.length<=400;rw[if_neg (by omega)];simp (disch:=omega) only[go_sem,h194c,aY9,rs0,eq_true b,c,d,e,f,iC,nR,eq_true g];rfl;rw[if_pos (by omega)];simp (disch:=omega) only[go_sem,h194c,aY9,rs0,eq_true b,c,d,e,f,iC,nR,i,g];rfl;rw[if_neg (fun h=>f h.2.2.2.2)]
 simp (disch:=omega) only[go_sem,h194c,aY9,rs0,eq_true b,c,d,e,f,iC,nR];simp[aT];rw[if_neg (fun h=>e h.2.2.2.1)]
 simp (disch:=omega) only[go_sem,h194c,aY9,rs0,eq_true b,c,d,e,iC,nR];simp[aT];rw[if_neg (fun h=>d h.2.2.1)]
 simp (disch:=omega) only[go_sem,h194c,aY9,rs0,eq_true b,c,d,iC,nR];simp[aT];rw[if_neg (fun h=>c h.2.1)]
 simp (disch:=omega) only[go_sem,h194c,aY9,rs0,eq_true b,c,iC,nR];simp[aT];rw[if_neg (fun h=>b h.1)]
 simp (disch:=omega) only[go_sem,h194c,aY9,rs0,b,iC,nR];simp[aT]
theorem bD(l:L Int):aT (0::l)=aT l:=rfl
theorem bA(e:Int)(l:L Int)(h:e≠0):aT (e::l)=e:=by rw[aT,if_neg h]
theorem bP:aT []=0:=rfl
def un(b:Bool)(e:Int):Int:=if b=true then 0 else e
theorem gA(e:Int):un true e=0:=rfl
theorem gQ(e:Int):un false e=e:=rfl
theorem aZ(b:Bool)(e:Int):EV G (Tb (bs bb)) 151 [vb b,vi e] []=some (vi (un b e),[]):=iC b e
theorem nY(l:L aV):(0<(l.length:Int))=(l≠[]):=by
 apply propext;have:=@List.length_eq_zero_iff _ l;constructor;intro h e;rw[this.2 e] at h;omega;intro h;have:l.length≠0:=fun e=>h (this.1 e);omega
def aLw(a:aK):Int:=aT [un (!decide (a.fi > 0)||decide (a.rs≠[])) 17,un (decide (a.fi+gP a.rs<=4096)) 8,un (!decide (a.fi > 0)||!(decide (a.al≠0)||(decide (a.sz≠0)||decide (a.vd≠0)))) 3,
 un (decide (0<=a.al/\a.al<=1048576)&&(decide (0<=a.sz/\a.sz<=1048576)&&decide (0<=a.vd/\a.vd<=1048576))) 2,un (decide (a.vd<=a.sz)) 9]
theorem Jq{b:Bool}{p:Prop}[Decidable p]{e:Int}(h:p↔¬ b=true):un b e=if p then e else 0:=by
 unfold un;by_cases a:b=true;rw[if_pos a,if_neg (fun hp=>h.1 hp a)]
 rw[if_neg a,if_pos (h.2 a)]
theorem sG{p:Prop}[Decidable p]{e:Int}{l:L Int}(a:e≠0):aT ((if p then e else 0)::l)=if p then e else aT l:=by
 by_cases h:p;rw[if_pos h,if_pos h,bA e l a];rw[if_neg h,if_neg h,bD]
theorem aLx(a:aK):aLw a=if a.fi > 0/\a.rs=[] then 17 else if a.fi+gP a.rs > 4096 then 8 else if a.fi > 0/\(a.al≠0\/a.sz≠0\/a.vd≠0) then 3 else if ¬((0<=a.al/\a.al<=1048576)/\(0<=a.sz/\a.sz<=1048576)/\(0<=a.vd/\a.vd<=1048576)) then 2 else if a.vd > a.sz then 9 else 0:=by
 unfold aLw;rw[Jq (p:=a.fi > 0/\a.rs=[]) (by simp),Jq (p:=a.fi+gP a.rs > 4096) (by simp),Jq (p:=a.fi > 0/\(a.al≠0\/a.sz≠0\/a.vd≠0)) (by simp only[Bool.or_eq_true,bAb,Bool.or_eq_false_iff,decide_eq_true_eq,decide_eq_false_iff_not];omega),
  Jq (p:=¬((0<=a.al/\a.al<=1048576)/\(0<=a.sz/\a.sz<=1048576)/\(0<=a.vd/\a.vd<=1048576))) (by simp only[aZq,decide_eq_true_eq]),Jq (p:=a.vd > a.sz) (by simp)]
 rw[sG (by decide),sG (by decide),sG (by decide),sG (by decide),sG (by decide),bP]
theorem aLy(a:aK):Jp a=if a.ty∈Gu then 20 else if a.va≠[] then 3 else if ¬(0<=a.fi/\a.fi<=4096) then 2 else if (nC a.rs).2≠0 then (nC a.rs).2 else aLw a:=by
 rw[aLx];rfl
theorem aGq(a:aK)(x:a.W)(z:a.ty∈Mr):EV G (Tb (bs bb)) 195 [a.v] []=some (vi (Jp a),[]):=by
 refine aA rfl ?_;rw[aLy];have k:=S9 a.ty;rw[if_pos z] at k;have m:=dA x.va jV;have n:=O5 (G:=G) (B:=bs bb) a.rs;have o:=F9 (G:=G) (bb:=bb) a (by have:=x.rl;omega);by_cases p:a.ty∈Gu;rw[if_pos p];rw[decide_eq_true p] at k;simp (disch:=omega) only[go_sem,h195c,gX,k,aG,m,aZ,gA,gQ,bD,bA,bP,cC,cD];rw[if_neg p];rw[decide_eq_false p] at k;by_cases i:a.va=[];rw[if_neg (by simpa using i)];replace i:=eq_true i;by_cases q:0<=a.fi/\a.fi<=4096;rw[if_neg (fun h=>h q)]
 have f:=eq_true q;by_cases l:(nC a.rs).2=0;rw[if_neg (fun h=>h l)]
 have s:=Do l;have y:=Dn a.rs (fun r w=>(s.el r w).2.2) (by have:=s.sum;omega)
 have t:=iI a.rs (fun r w=>(s.el r w).2.2)
 have u:=s.sum;rw[<- y] at t u;have g:∀ L,L=[un (!decide (a.fi > 0)||decide (a.rs≠[])) 17,un (decide (a.fi+gP a.rs<=4096)) 8,un (!decide (a.fi > 0)||!(decide (a.al≠0)||(decide (a.sz≠0)||decide (a.vd≠0)))) 3,
   un (decide (0<=a.al/\a.al<=1048576)&&(decide (0<=a.sz/\a.sz<=1048576)&&decide (0<=a.vd/\a.vd<=1048576))) 2,un (decide (a.vd<=a.sz)) 9]->aT L=aLw a:=fun L h=>by rw[h];rfl
 by_cases d:a.fi > 0;by_cases c:a.al=0;have b:0<=a.al/\a.al<=1048576:=by omega
 by_cases j:a.sz=0;have e:0<=a.sz/\a.sz<=1048576:=by omega
 simp (disch:=omega) only[go_sem,h195c,gX,k,aG,m,aZ,gA,gQ,bD,bA,bP,cC,cD,i,f,n,l,eq_true d,eq_true c,eq_true b,eq_true j,eq_true e,aY9,nY];simp (disch:=omega) only[go_sem,o,aZ,jU,nY,gA,gQ,eq_true d,eq_true c,eq_true b,eq_true j,eq_true e];rw[g _ (by simp[un,d,c,b,j,e])];by_cases e:0<=a.sz/\a.sz<=1048576;simp (disch:=omega) only[go_sem,h195c,gX,k,aG,m,aZ,gA,gQ,bD,bA,bP,cC,cD,i,f,n,l,eq_true d,eq_true c,eq_true b,j,eq_true e,aY9,nY];simp (disch:=omega) only[go_sem,o,aZ,jU,nY,gA,gQ,eq_true d,eq_true c,eq_true b,j,eq_true e];rw[g _ (by simp[un,d,c,b,j,e])];simp (disch:=omega) only[go_sem,h195c,gX,k,aG,m,aZ,gA,gQ,bD,bA,bP,cC,cD,i,f,n,l,eq_true d,eq_true c,eq_true b,j,e,aY9,nY];simp (disch:=omega) only[go_sem,o,aZ,jU,nY,gA,gQ,eq_true d,eq_true c,eq_true b,j,e];rw[g _ (by simp[un,d,c,b,j,e])];by_cases b:0<=a.al/\a.al<=1048576;by_cases e:0<=a.sz/\a.sz<=1048576;simp (disch:=omega) only[go_sem,h195c,gX,k,aG,m,aZ,gA,gQ,bD,bA,bP,cC,cD,i,f,n,l,eq_true d,c,eq_true b,eq_true e,aY9,nY];simp (disch:=omega) only[go_sem,o,aZ,jU,nY,gA,gQ,eq_true d,c,eq_true b,eq_true e];rw[g _ (by simp[un,d,c,b,e])];simp (disch:=omega) only[go_sem,h195c,gX,k,aG,m,aZ,gA,gQ,bD,bA,bP,cC,cD,i,f,n,l,eq_true d,c,eq_true b,e,aY9,nY];simp (disch:=omega) only[go_sem,o,aZ,jU,nY,gA,gQ,eq_true d,c,eq_true b,e];rw[g _ (by simp[un,d,c,b,e])];simp (disch:=omega) only[go_sem,h195c,gX,k,aG,m,aZ,gA,gQ,bD,bA,bP,cC,cD,i,f,n,l,eq_true d,c,b,aY9,nY];simp (disch:=omega) only[go_sem,o,aZ,jU,nY,gA,gQ,eq_true d,c,b];rw[g _ (by simp[un,d,c,b])];by_cases c:a.al=0;have b:0<=a.al/\a.al<=1048576:=by omega
 by_cases j:a.sz=0;have e:0<=a.sz/\a.sz<=1048576:=by omega
 simp (disch:=omega) only[go_sem,h195c,gX,k,aG,m,aZ,gA,gQ,bD,bA,bP,cC,cD,i,f,n,l,d,eq_true c,eq_true b,eq_true j,eq_true e,aY9,nY];simp (disch:=omega) only[go_sem,o,aZ,jU,nY,gA,gQ,d,eq_true c,eq_true b,eq_true j,eq_true e];rw[g _ (by simp[un,d,c,b,j,e])];by_cases e:0<=a.sz/\a.sz<=1048576;simp (disch:=omega) only[go_sem,h195c,gX,k,aG,m,aZ,gA,gQ,bD,bA,bP,cC,cD,i,f,n,l,d,eq_true c,eq_true b,j,eq_true e,aY9,nY];simp (disch:=omega) only[go_sem,o,aZ,jU,nY,gA,gQ,d,eq_true c,eq_true b,j,eq_true e];rw[g _ (by simp[un,d,c,b,j,e])];simp (disch:=omega) only[go_sem,h195c,gX,k,aG,m,aZ,gA,gQ,bD,bA,bP,cC,cD,i,f,n,l,d,eq_true c,eq_true b,j,e,aY9,nY];simp (disch:=omega) only[go_sem,o,aZ,jU,nY,gA,gQ,d,eq_true c,eq_true b,j,e];rw[g _ (by simp[un,d,c,b,j,e])];by_cases b:0<=a.al/\a.al<=1048576;by_cases e:0<=a.sz/\a.sz<=1048576;simp (disch:=omega) only[go_sem,h195c,gX,k,aG,m,aZ,gA,gQ,bD,bA,bP,cC,cD,i,f,n,l,d,c,eq_true b,eq_true e,aY9,nY];simp (disch:=omega) only[go_sem,o,aZ,jU,nY,gA,gQ,d,c,eq_true b,eq_true e];rw[g _ (by simp[un,d,c,b,e])];simp (disch:=omega) only[go_sem,h195c,gX,k,aG,m,aZ,gA,gQ,bD,bA,bP,cC,cD,i,f,n,l,d,c,eq_true b,e,aY9,nY];simp (disch:=omega) only[go_sem,o,aZ,jU,nY,gA,gQ,d,c,eq_true b,e];rw[g _ (by simp[un,d,c,b,e])];simp (disch:=omega) only[go_sem,h195c,gX,k,aG,m,aZ,gA,gQ,bD,bA,bP,cC,cD,i,f,n,l,d,c,b,aY9,nY];simp (disch:=omega) only[go_sem,o,aZ,jU,nY,gA,gQ,d,c,b];rw[g _ (by simp[un,d,c,b])];rw[if_pos l];simp (disch:=omega) only[go_sem,h195c,gX,k,aG,m,aZ,gA,gQ,bD,bA,bP,cC,cD,i,f,n,l];rw[if_pos q];simp (disch:=omega) only[go_sem,h195c,gX,k,aG,m,aZ,gA,gQ,bD,bA,bP,cC,cD,i,q];rw[if_pos i];simp (disch:=omega) only[go_sem,h195c,gX,k,aG,m,aZ,gA,gQ,bD,bA,bP,cC,cD,i]
end
section
variable {G:aE}{bb:Bool}
theorem Pc{n:Int}(h:n∈Mr):0<=n/\n<=200:=by
 simp only[Mr,bAl,bAF,or_false] at h;omega
theorem Hf{l:L Int}(h:O9 l=true):l.length<=32:=by
 unfold O9 at h;rcases of_decide_eq_true h with h|h
 subst h;simp;exact h.2.1
theorem Jr{l:L aV}(h:(nC l).2=0):l.length<=64/\0<=gP l/\gP l<=100000000:=by
 have a:=Do h;have e:=Dn l (fun r b=>(a.el r b).2.2) (by have:=a.sum;omega)
 have c:=iI l (fun r b=>(a.el r b).2.2)
 have d:=a.sum;exact⟨oW h,by omega,by omega⟩
theorem E7{a:aK}(h:Jp a=0):a.ty∉Gu/\a.va=[]/\(0<=a.fi/\a.fi<=4096)/\(nC a.rs).2=0/\¬(a.fi > 0/\a.rs=[])/\a.fi+gP a.rs<=4096/\¬(a.fi > 0/\(a.al≠0\/a.sz≠0\/a.vd≠0))/\ ((0<=a.al/\a.al<=1048576)/\(0<=a.sz/\a.sz<=1048576)/\(0<=a.vd/\a.vd<=1048576))/\a.vd<=a.sz:=by
 unfold Jp at h;split at h;omega;rename_i b;split at h;omega;rename_i c;split at h;omega;rename_i h3;split at h;rename_i h4;exact absurd h h4;rename_i h4;split at h;omega;rename_i h5;split at h;omega;rename_i h6;split at h;omega;rename_i h7;split at h;omega;rename_i h8;split at h;omega;rename_i h9;exact⟨b,Classical.not_not.1 c,Classical.not_not.1 h3,Classical.not_not.1 h4,h5,by omega,h7,Classical.not_not.1 h8,by omega⟩
theorem Pd{a:aK}(h:Li a=0):a.rs=[]/\a.fi=0/\a.al=0/\a.sz=0/\a.vd=0/\a.va.length<=400:=by
 unfold Li at h;split at h;rename_i b;split at h;omega;obtain⟨b,c,h3,h4,h5⟩:=b;exact⟨b,c,h3,h4,h5,by omega⟩;omega
theorem aK.bd{a:aK}(b:a.W)(f:a.ty∈Mr)(g:O9 a.nm=true)(h3:(0<=a.id/\a.id<=65535)/\(0<=a.fl/\a.fl<=7))(h4:uF a=0):a.Bd:=by
 have n:=Pc f;have o:=Hf g;unfold uF at h4;split at h4;obtain⟨c,d,h,e,i,j⟩:=Pd h4;have:gP a.rs=0:=by rw[c];rfl
 exact⟨b.nm,b.va,by omega,by omega,by rw[c];simp,by omega,by omega,by omega,by omega,by omega,by omega,by omega,by omega⟩;obtain⟨c,d,h,e,i,j,p,q,r⟩:=E7 h4;obtain⟨k,l,m⟩:=Jr e;exact⟨b.nm,b.va,by omega,by rw[d];simp,by omega,by omega,by omega,by omega,by omega,by omega,by omega,by omega,by omega⟩
theorem Du(a:aK)(o:a.W):EV G (Tb (bs bb)) 140 [a.v] []=some (vi (iL a),[]):=by
 refine aA rfl ?_;have e:=aGk (G:=G) (bb:=bb) a.ty;have f:=aCA (G:=G) (bb:=bb) a.nm o.nm (by have:=o.nl;omega);unfold iL;by_cases k:a.ty∈Mr;rw[if_neg (fun h=>h k)]
 rw[decide_eq_true k] at e;cases p:O9 a.nm with
 |false=>
  rw[p] at f;rw[if_pos rfl];by_cases d:0<=a.id/\a.id<=65535;simp (disch:=omega) only[go_sem,h140c,e,f,aZ,gA,gQ,bD,bA,bP,cC,cD,eq_true d];simp (disch:=omega) only[go_sem,h140c,e,f,aZ,gA,gQ,bD,bA,bP,cC,cD,d]
 |true=>
  rw[p] at f;rw[if_neg (by decide)];by_cases d:0<=a.id/\a.id<=65535;by_cases i:0<=a.fl/\a.fl<=7;rw[if_neg (fun h=>h ⟨d,i⟩)]
  have n:=fun h=>aK.bd o k p ⟨d,i⟩ h
  have q5 (h):=E6 (G:=G) (bb:=bb) a (n h);have q6 (h):=nU a (n h);cases g:a.res with
  |true=>
   have j:=aGp (G:=G) (bb:=bb) a;simp only[uF,g,if_true] at q5 q6 ⊢;simp only[aK.v,aK.c,g] at j q5;by_cases b:Li a=0;have m:((fA a:Int)<=440)=(fA a<=440):=by apply propext;omega
   by_cases l:fA a<=440;rw[if_neg (fun h=>h b),if_neg (by omega)]
   simp (disch:=omega) only[go_sem,h140c,e,f,aZ,gA,gQ,bD,bA,bP,cC,cD,eq_true d,eq_true i,j,b,q5 b,q6 b,g,eq_true l,m];rw[if_neg (fun h=>h b),if_pos (by omega)]
   simp (disch:=omega) only[go_sem,h140c,e,f,aZ,gA,gQ,bD,bA,bP,cC,cD,eq_true d,eq_true i,j,b,q5 b,q6 b,g,l,m];rw[if_pos b];simp (disch:=omega) only[go_sem,h140c,e,f,aZ,gA,gQ,bD,bA,bP,cC,cD,eq_true d,eq_true i,j,b,g]
  |false=>
   have j:=aGq (G:=G) (bb:=bb) a o k;simp only[uF,g,if_false,bAq] at q5 q6 ⊢;simp only[aK.v,aK.c,g] at j q5;by_cases b:Jp a=0;have m:((fA a:Int)<=440)=(fA a<=440):=by apply propext;omega
   by_cases l:fA a<=440;rw[if_neg (fun h=>h b),if_neg (by omega)]
   simp (disch:=omega) only[go_sem,h140c,e,f,aZ,gA,gQ,bD,bA,bP,cC,cD,eq_true d,eq_true i,j,b,q5 b,q6 b,g,eq_true l,m];rw[if_neg (fun h=>h b),if_pos (by omega)]
   simp (disch:=omega) only[go_sem,h140c,e,f,aZ,gA,gQ,bD,bA,bP,cC,cD,eq_true d,eq_true i,j,b,q5 b,q6 b,g,l,m];rw[if_pos b];simp (disch:=omega) only[go_sem,h140c,e,f,aZ,gA,gQ,bD,bA,bP,cC,cD,eq_true d,eq_true i,j,b,g]
  rw[if_pos (fun h=>i h.2)]
  simp (disch:=omega) only[go_sem,h140c,e,f,aZ,gA,gQ,bD,bA,bP,cC,cD,eq_true d,i];rw[if_pos (fun h=>d h.1)]
  simp (disch:=omega) only[go_sem,h140c,e,f,aZ,gA,gQ,bD,bA,bP,cC,cD,d]
 rw[if_pos k];rw[decide_eq_false k] at e;by_cases d:0<=a.id/\a.id<=65535;simp (disch:=omega) only[go_sem,h140c,e,f,aZ,gA,gQ,bD,bA,bP,cC,cD,eq_true d];simp (disch:=omega) only[go_sem,h140c,e,f,aZ,gA,gQ,bD,bA,bP,cC,cD,d]
end
section
variable {G:aE}{bb:Bool}
theorem aUP(call:aN)(n:Int):mU call G ⟨[vi n,.junk,vb false,.junk,.junk,.junk],[]⟩ [Oo 4 (.mov (.t 0)),Oo 5 (.call 76 [(.t 3),(.t 4)]),Oo 2 (.mov (.t 5))] (some 3) (.bslc 1 11 [Zi 0] [(0,(Ki 16)),(1,(Ki 32)),(2,(Ki 48)),(3,(Ki 64)),(4,(Ki 96)),(5,(Ki 112)),(6,(Ki 128)),(7,(Ki 144)),(8,(Ki 160)),(9,(Ki 176)),(10,(Ki 192))])= some ⟨[vi n,.junk,vb false,vl (el Mr),.junk,.junk],[]⟩:=rfl
theorem aCD(n:Int):EV G (Tb (bs bb)) 177 [vi n] []=some (vb (decide (n∈Mr)),[]):=by
 refine aA rfl ?_;have q:=aAa (G:=G) (B:=bs bb) Mr n (by simp[Mr]);simp (disch:=omega) only[go_sem,h177c,↓aUP,q]
theorem Th(n:Int):EV G (Tb (bs bb)) 230 [vi n] []=some (vb (decide (n∈Gu)),[]):=by
 refine aA rfl ?_;have q:=aAa (G:=G) (B:=bs bb) Gu n (by simp[Gu]);have e:el Gu=[[ci 16],[ci 48],[ci 96],[ci 112],[ci 144]]:=rfl;rw[e] at q;simp (disch:=omega) only[go_sem,h230c,q]
theorem W4(l:L aV):((l.length:Int) > 0)=(l≠[]):=nY l
theorem aCE(a:aK):EV G (Tb (bs bb)) 180 [a.v] []=some (vi (Li a),[]):=by
 refine aA rfl ?_;unfold Li;by_cases g:a.rs=[];have b:¬ (a.rs≠[]):=fun h=>h g
 by_cases c:a.fi=0;by_cases d:a.al=0;by_cases e:a.sz=0;by_cases f:a.vd=0;rw[if_pos ⟨g,c,d,e,f⟩];have j:((a.va.length:Int) > 400)=(a.va.length > 400):=by apply propext;omega
 by_cases i:a.va.length > 400;rw[if_pos i];simp (disch:=omega) only[go_sem,h180c,aY9,W4,b,c,d,e,f,j,eq_true i];rw[if_neg i];simp (disch:=omega) only[go_sem,h180c,aY9,W4,b,c,d,e,f,j,i];rw[if_neg (fun h=>f h.2.2.2.2)]
 simp (disch:=omega) only[go_sem,h180c,aY9,W4,b,c,d,e,f];rw[if_neg (fun h=>e h.2.2.2.1)]
 simp (disch:=omega) only[go_sem,h180c,aY9,W4,b,c,d,e];rw[if_neg (fun h=>d h.2.2.1)]
 simp (disch:=omega) only[go_sem,h180c,aY9,W4,b,c,d];rw[if_neg (fun h=>c h.2.1)]
 simp (disch:=omega) only[go_sem,h180c,aY9,W4,b,c];rw[if_neg (fun h=>g h.1)]
 have b:(a.rs≠[])=True:=eq_true g;simp (disch:=omega) only[go_sem,h180c,aY9,W4,b]
theorem aCF(a:aK)(x:a.W):EV G (Tb (bs bb)) 179 [a.v] []=some (vi (Jp a),[]):=by
 refine aA rfl ?_;have e:=Th (G:=G) (bb:=bb) a.ty;have g:=dA x.va jV;have j:=aGd (G:=G) (B:=bs bb) a.rs;have k:=rZ (G:=G) (B:=bs bb) a.rs (by have:=x.rl;omega);unfold Jp;by_cases s:a.ty∈Gu;rw[if_pos s];rw[decide_eq_true s] at e;simp (disch:=omega) only[go_sem,h179c,e];rw[if_neg s];rw[decide_eq_false s] at e;by_cases d:a.va=[];rw[if_neg (by simpa using d)];replace d:=eq_true d;by_cases t:0<=a.fi/\a.fi<=4096;rw[if_neg (fun h=>h t)]
 have b:=eq_true t;by_cases f:(nC a.rs).2=0;rw[if_neg (fun h=>h f)]
 obtain⟨y,z,A⟩:=Jr f;by_cases o:a.fi > 0/\a.rs=[];rw[if_pos o];have c:=o.1;simp (disch:=omega) only[go_sem,h179c,e,aG,g,d,bQ,b,j,f,eq_true c,aY9,rs0,eq_true o.2];rw[if_neg o];by_cases i:a.fi+gP a.rs > 4096;rw[if_pos i];by_cases c:a.fi > 0;have p:¬ a.rs=[]:=fun h=>o ⟨c,h⟩
 simp (disch:=omega) only[go_sem,h179c,e,aG,g,d,bQ,b,j,f,eq_true c,aY9,rs0,p,k,eq_true i];simp (disch:=omega) only[go_sem,h179c,e,aG,g,d,bQ,b,j,f,c,k,eq_true i];rw[if_neg i];by_cases c:a.fi > 0;have p:¬ a.rs=[]:=fun h=>o ⟨c,h⟩
 by_cases r:a.al=0;by_cases u:a.sz=0;by_cases w:a.vd=0;rw[if_neg (fun h=>by obtain⟨_,h⟩:=h;omega),if_neg (fun h=>h (by omega)),if_neg (by omega)]
 have l:=eq_true (show 0<=a.al/\a.al<=1048576 by omega);have m:=eq_true (show 0<=a.sz/\a.sz<=1048576 by omega);have n:=eq_true (show 0<=a.vd/\a.vd<=1048576 by omega);have q:¬ a.vd > a.sz:=by omega
 simp (disch:=omega) only[go_sem,h179c,e,aG,g,d,bQ,b,j,f,eq_true c,aY9,rs0,p,k,i,eq_true r,eq_true u,eq_true w,l,m,n,q];rw[if_pos ⟨c,.inr (.inr w)⟩];simp (disch:=omega) only[go_sem,h179c,e,aG,g,d,bQ,b,j,f,eq_true c,aY9,rs0,p,k,i,eq_true r,eq_true u,w];rw[if_pos ⟨c,.inr (.inl u)⟩];simp (disch:=omega) only[go_sem,h179c,e,aG,g,d,bQ,b,j,f,eq_true c,aY9,rs0,p,k,i,eq_true r,u];rw[if_pos ⟨c,.inl r⟩];simp (disch:=omega) only[go_sem,h179c,e,aG,g,d,bQ,b,j,f,eq_true c,aY9,rs0,p,k,i,r];rw[if_neg (fun h=>c h.1)]
 by_cases l:0<=a.al/\a.al<=1048576;by_cases m:0<=a.sz/\a.sz<=1048576;by_cases n:0<=a.vd/\a.vd<=1048576;rw[if_neg (fun h=>h ⟨l,m,n⟩)]
 by_cases q:a.vd > a.sz;rw[if_pos q];simp (disch:=omega) only[go_sem,h179c,e,aG,g,d,bQ,b,j,f,c,k,i,eq_true l,eq_true m,eq_true n,eq_true q];rw[if_neg q];simp (disch:=omega) only[go_sem,h179c,e,aG,g,d,bQ,b,j,f,c,k,i,eq_true l,eq_true m,eq_true n,q];rw[if_pos (fun h=>n h.2.2)]
 simp (disch:=omega) only[go_sem,h179c,e,aG,g,d,bQ,b,j,f,c,k,i,eq_true l,eq_true m,n];rw[if_pos (fun h=>m h.2.1)]
 simp (disch:=omega) only[go_sem,h179c,e,aG,g,d,bQ,b,j,f,c,k,i,eq_true l,m];rw[if_pos (fun h=>l h.1)]
 simp (disch:=omega) only[go_sem,h179c,e,aG,g,d,bQ,b,j,f,c,k,i,l];rw[if_pos f];simp (disch:=omega) only[go_sem,h179c,e,aG,g,d,bQ,b,j,f];rw[if_pos t];simp (disch:=omega) only[go_sem,h179c,e,aG,g,d,bQ,t];rw[if_pos d];simp (disch:=omega) only[go_sem,h179c,e,aG,g,d]
theorem aLz(n m:Int)(e:0<m/\m<=4611686018427387904)(k:-4611686018427387904<=n/\n<=4611686018427387904):EV G (Tb (bs bb)) 174 [vi n,vi m] []=some (vi (n / m),[]):=by
 refine aA rfl ?_;have b:n.tdiv m=n / m+(if n.tmod m<0 then 1 else 0):=by
  have g:=Int.tmod_add_mul_tdiv n m;have h:=Int.emod_add_mul_ediv n m;have f:=aUJ n m e.1;have i:m*(n.tdiv m-n / m)=n % m-n.tmod m:=by rw[Int.mul_sub];omega
  split at f;rename_i d;rw[if_pos d];have:m*(n.tdiv m-n / m)=m*1:=by omega
  have:=Int.eq_of_mul_eq_mul_left (by omega) this;omega;rename_i d;rw[if_neg d];have:m*(n.tdiv m-n / m)=m*0:=by omega
  have:=Int.eq_of_mul_eq_mul_left (by omega) this;omega
 have j:-4611686018427387904<=n / m/\n / m<=4611686018427387904:=by
  constructor;by_cases a:0<=n;have:=Int.ediv_nonneg a (show 0<=m by omega);omega;have h3:n*m<=n:=by
   have:=Int.mul_nonpos_of_nonpos_of_nonneg (show n<=0 by omega) (show 0<=m-1 by omega);rw[Int.mul_sub,Int.mul_one] at this;omega
  have:=Int.le_ediv_of_mul_le e.1 h3;omega;by_cases a:0<=n;have:=Int.ediv_le_self m a;omega;have:=Int.ediv_neg_of_neg_of_pos (by omega:n<0) e.1;omega
 by_cases c:n.tmod m<0;rw[if_pos c] at b;have h3:n.tdiv m-1=n / m:=by omega
 simp (disch:=omega) only[go_sem,h174c,b,c];simp;rw[if_neg c] at b;have h3:n.tdiv m=n / m:=by omega
 simp (disch:=omega) only[go_sem,h174c,h3,c]
theorem aQc(n m:Int)(a:0<m/\m<=4611686018427387904)(c:-4611686018427387904<=n/\n<=4611686018427387904)(b:-4611686018427387904<=-n / m/\-n / m<=4611686018427387904):EV G (Tb (bs bb)) 122 [vi n,vi m] []=some (vi (-(-n / m)),[]):=by
 refine aA rfl ?_;have q:=aLz (G:=G) (bb:=bb) (-n) m a (by omega);rw[show -n=0-n by omega] at q b ⊢;have e:0-(0-n) / m=-((0-n) / m):=by omega
 simp (disch:=omega) only[go_sem,h122c,q,e]
