/- Part. Conditions: none. -/
import Derived.Test.YtgdjbbnicgfohacGreatDoorUc
namespace Go.Proofs.YtgdjbbnicgfohacGreatDoor
set_option maxHeartbeats 4000000
set_option linter.unusedSimpArgs false
set_option linter.unusedVariables false
set_option maxRecDepth 4000
section
variable {G:aF}{bb:Bool}
theorem Ti(l:L Int)(n:Nat)(h:l.length<=n):jM ((l.map yC).take n)=some (l.map u8):=by rw[Dr l n h,lI]
theorem J0(a:aJ):(Tg a).length=eO a:=by simp only[Tg,dG,aS]
theorem aCY(a:aJ)(h:a.Bd)(d:a.res=true):EV G (Tb (bs bb)) 170 [a.v] []=some (sv (tL a),[]):=by
 refine aB rfl ?_;obtain⟨l,m,x,D,y,B,u,t,r,q,z,C,w⟩:=h;have f:sN a=24:=by simp[sN,d]
 have e:qQ a=a.va:=by simp[qQ,d]
 have o:al8 (24+(a.nm.length:Int))=((cW a:Nat):Int):=by simp only[al8,cW,f];omega
 have p:al8 (((cW a:Nat):Int)+(a.va.length:Int))=((eO a:Nat):Int):=by simp only[al8,eO,e];omega
 have E:24+a.nm.length<=cW a/\cW a<=2000:=by simp only[cW,f];omega
 have F:cW a+a.va.length<=eO a/\eO a<=4000:=by simp only[eO,e];omega
 unfold tL Th;rw[if_pos d];have h6:=J0 a;unfold Tg at h6 ⊢;rw[f,e] at *;generalize cW a=A at *;generalize eO a=N at *;have g:=pH (bA (bA (bA (bA (bA (bA (bA (bA (zl N) 0 a.ty 4) 4 N 4) 9 a.nm.length 1) 10 24 2) 12 a.fl 2) 14 a.id 2) 16 a.va.length 4) 20 A 4) a.nm 24 (N-24) l (by omega);have i:=pH (iW (bA (bA (bA (bA (bA (bA (bA (bA (zl N) 0 a.ty 4) 4 N 4) 9 a.nm.length 1) 10 24 2) 12 a.fl 2) 14 a.id 2) 16 a.va.length 4) 20 A 4) 24 a.nm) a.va A (N-A) m (by omega);have c:(iW (bA (bA (bA (bA (bA (bA (bA (bA (zl N) 0 a.ty 4) 4 N 4) 9 a.nm.length 1) 10 24 2) 12 a.fl 2) 14 a.id 2) 16 a.va.length 4) 20 A 4) 24 a.nm).length=N:=by
  rw[cX (by simp only[dG,aS];omega)];simp only[dG,aS]
 have j:=cX (b:=iW (bA (bA (bA (bA (bA (bA (bA (bA (zl N) 0 a.ty 4) 4 N 4) 9 a.nm.length 1) 10 24 2) 12 a.fl 2) 14 a.id 2) 16 a.va.length 4) 20 A 4) 24 a.nm) (k:=A) (s:=a.va) (by omega);rw[c] at j;have n:(A+(N-A)<=N)=True:=eq_true (by omega);simp (disch:=first|omega|(simp only[aZa,dG,aS]<;>omega)) only[go_sem,h170c,d,Cc,Ax,o,p,Pp,aZa,aNC,aNF,aNE,aND,Int.reduceToNat,aZN,dG,aS,g,i,c,n,if_true,Ti,aZ1,Option.toList_some,Option.toList_none,aZx,aZs]
theorem aCZ(a:aJ)(h:a.Bd)(e:a.res=false):EV G (Tb (bs bb)) 170 [a.v] []=some (sv (tL a),[]):=by
 refine aB rfl ?_;obtain⟨n,J,E,L,F,I,z,y,x,u,H,K,D⟩:=h;have o:¬ a.res=true:=by rw[e];decide
 have g:sN a=40:=by simp[sN,e]
 have f:qQ a=(Cb a.rs).1:=by simp[qQ,e]
 obtain⟨i,w⟩:=M7 a.rs;have M:=aGD (G:=G) (B:=bs bb) a.rs;have p:=Ga (G:=G) (bb:=bb) a (by omega);simp only[aJ.v,aJ.c,e] at p;have r:al8 (40+(a.nm.length:Int))=((cW a:Nat):Int):=by simp only[al8,cW,g];omega
 have t:al8 (((cW a:Nat):Int)+((Cb a.rs).1.length:Int))=((eO a:Nat):Int):=by simp only[al8,eO,f];omega
 have O:40+a.nm.length<=cW a/\cW a<=2000:=by simp only[cW,g];omega
 have P:cW a+(Cb a.rs).1.length<=eO a/\eO a<=4000:=by simp only[eO,f];omega
 unfold tL Th;rw[if_neg o];have h6:=J0 a;unfold Tg at h6 ⊢;rw[g,f] at *;generalize cW a=A at *;generalize eO a=N at *;generalize (Cb a.rs).1=C at *;have j:=pH (bA (bA (bA (bA (bA (bA (bA (bA (bA (bA (bA (bA (bA (zl N) 0 a.ty 4) 4 N 4) 9 a.nm.length 1) 10 40 2) 12 a.fl 2) 14 a.id 2) 8 1 1) 16 a.fi 4) 20 (a.fi+gI a.rs-1) 4) 24 A 2) 28 a.al 4) 32 a.sz 4) 36 a.vd 4) a.nm 40 (N-40) n (by omega);have d:(iW (bA (bA (bA (bA (bA (bA (bA (bA (bA (bA (bA (bA (bA (zl N) 0 a.ty 4) 4 N 4) 9 a.nm.length 1) 10 40 2) 12 a.fl 2) 14 a.id 2) 8 1 1) 16 a.fi 4) 20 (a.fi+gI a.rs-1) 4) 24 A 2) 28 a.al 4) 32 a.sz 4) 36 a.vd 4) 40 a.nm).length=N:=by
  rw[cX (by simp only[dG,aS];omega)];simp only[dG,aS]
 have l:=pH (iW (bA (bA (bA (bA (bA (bA (bA (bA (bA (bA (bA (bA (bA (zl N) 0 a.ty 4) 4 N 4) 9 a.nm.length 1) 10 40 2) 12 a.fl 2) 14 a.id 2) 8 1 1) 16 a.fi 4) 20 (a.fi+gI a.rs-1) 4) 24 A 2) 28 a.al 4) 32 a.sz 4) 36 a.vd 4) 40 a.nm) C A (N-A) i (by omega);have m:=cX (b:=iW (bA (bA (bA (bA (bA (bA (bA (bA (bA (bA (bA (bA (bA (zl N) 0 a.ty 4) 4 N 4) 9 a.nm.length 1) 10 40 2) 12 a.fl 2) 14 a.id 2) 8 1 1) 16 a.fi 4) 20 (a.fi+gI a.rs-1) 4) 24 A 2) 28 a.al 4) 32 a.sz 4) 36 a.vd 4) 40 a.nm) (k:=A) (s:=C) (by omega);rw[d] at m;have q:(A+(N-A)<=N)=True:=eq_true (by omega);simp (disch:=first|omega|(simp only[aZa,dG,aS]<;>omega)) only[go_sem,h170c,e,Cc,Ax,r,t,M,p,Pp,aZa,aNC,aNF,aNE,aND,Int.reduceToNat,aZN,dG,aS,j,l,d,q,if_true,Ti,aZ1,Option.toList_some,Option.toList_none,aZx,aZs]
theorem E5(a:aJ)(h:a.Bd):EV G (Tb (bs bb)) 170 [a.v] []=some (sv (tL a),[]):=by
 cases b:a.res with
 |true=>exact aCY a h b
 |false=>exact aCZ a h b
theorem nJ(a:aJ)(h:a.Bd):(tL a).length=eO a:=by
 have b:(qQ a).length<=1000:=by
  unfold qQ;split;exact h.vl;have:=(M7 a.rs).2;omega
 have h7:(Th a).length=eO a:=by
  unfold Th;split<;>simp only[dG,J0]
 have c:sN a+a.nm.length<=cW a:=by unfold cW;omega
 have d:cW a+(qQ a).length<=eO a:=by unfold eO;omega
 have h8:(iW (Th a) (sN a) a.nm).length=eO a:=by rw[cX (by omega),h7]
 rw[tL,cX (by omega),h8]
end
section
variable {G:aF}{bb:Bool}
def Lq(a:aJ):Int:=if a.rs=[]/\a.fi=0/\a.al=0/\a.sz=0/\a.vd=0 then (if a.va.length > 400 then 8 else 0) else 3
def J1(a:aJ):Int:=
 if a.ty∈G0 then 20 else if a.va≠[] then 3 else if ¬(0<=a.fi/\a.fi<=4096) then 2 else if (mS a.rs).2≠0 then (mS a.rs).2
 else if a.fi > 0/\a.rs=[] then 17 else if a.fi+gI a.rs > 4096 then 8 else if a.fi > 0/\(a.al≠0\/a.sz≠0\/a.vd≠0) then 3
 else if ¬((0<=a.al/\a.al<=1048576)/\(0<=a.sz/\a.sz<=1048576)/\(0<=a.vd/\a.vd<=1048576)) then 2 else if a.vd > a.sz then 9 else 0
def tN(a:aJ):Int:=if a.res=true then Lq a else J1 a
def gE(a:aJ):Int:=
 if a.ty∉M6 then 15 else if Pn a.nm=false then 4 else if ¬((0<=a.id/\a.id<=65535)/\(0<=a.fl/\a.fl<=7)) then 2
 else if tN a≠0 then tN a else if eO a > 440 then 16 else 0
structure aJ.W (a:aJ):Prop where
 nm:aK a.nm
 va:aK a.va
 nl:a.nm.length<=100000
 vl:a.va.length<=100000
 rl:a.rs.length<=100000
theorem rs0(l:L aV):((l.length:Int)=0)=(l=[]):=by
 apply propext;rw[<- List.length_eq_zero_iff];omega
theorem aGK(a:aJ):EV G (Tb (bs bb)) 168 [a.v] []=some (vi (Lq a),[]):=by
 refine aB rfl ?_;unfold Lq;have i:((a.va.length:Int)<=400)=(a.va.length<=400):=by apply propext;omega
 by_cases b:a.rs=[];by_cases c:a.fi=0;by_cases d:a.al=0;by_cases e:a.sz=0;by_cases f:a.vd=0;rw[if_pos ⟨b,c,d,e,f⟩];by_cases g:a.va.length<=400;rw[if_neg (by omega)];simp (disch:=omega) only[go_sem,h168c,aZa,rs0,eq_true b,c,d,e,f,gZ,nH,eq_true g];rfl;rw[if_pos (by omega)];simp (disch:=omega) only[go_sem,h168c,aZa,rs0,eq_true b,c,d,e,f,gZ,nH,i,g];rfl;rw[if_neg (fun h=>f h.2.2.2.2)]
 simp (disch:=omega) only[go_sem,h168c,aZa,rs0,eq_true b,c,d,e,f,gZ,nH];simp[aT];rw[if_neg (fun h=>e h.2.2.2.1)]
 simp (disch:=omega) only[go_sem,h168c,aZa,rs0,eq_true b,c,d,e,gZ,nH];simp[aT];rw[if_neg (fun h=>d h.2.2.1)]
 simp (disch:=omega) only[go_sem,h168c,aZa,rs0,eq_true b,c,d,gZ,nH];simp[aT];rw[if_neg (fun h=>c h.2.1)]
 simp (disch:=omega) only[go_sem,h168c,aZa,rs0,eq_true b,c,gZ,nH];simp[aT];rw[if_neg (fun h=>b h.1)]
 simp (disch:=omega) only[go_sem,h168c,aZa,rs0,b,gZ,nH];simp[aT]
theorem aX(l:L Int):aT (0::l)=aT l:=rfl
theorem aZ(e:Int)(l:L Int)(h:e≠0):aT (e::l)=e:=by rw[aT,if_neg h]
theorem bM:aT []=0:=rfl
def un(b:Bool)(e:Int):Int:=if b=true then 0 else e
theorem gA(e:Int):un true e=0:=rfl
theorem gT(e:Int):un false e=e:=rfl
theorem bB(b:Bool)(e:Int):EV G (Tb (bs bb)) 164 [vb b,vi e] []=some (vi (un b e),[]):=gZ b e
theorem nP(l:L aV):(0<(l.length:Int))=(l≠[]):=by
 apply propext;have:=@List.length_eq_zero_iff _ l;constructor;intro h e;rw[this.2 e] at h;omega;intro h;have:l.length≠0:=fun e=>h (this.1 e);omega
def aLy(a:aJ):Int:=aT [un (!decide (a.fi > 0)||decide (a.rs≠[])) 17,un (decide (a.fi+gI a.rs<=4096)) 8,un (!decide (a.fi > 0)||!(decide (a.al≠0)||(decide (a.sz≠0)||decide (a.vd≠0)))) 3,
 un (decide (0<=a.al/\a.al<=1048576)&&(decide (0<=a.sz/\a.sz<=1048576)&&decide (0<=a.vd/\a.vd<=1048576))) 2,un (decide (a.vd<=a.sz)) 9]
theorem J2{b:Bool}{p:Prop}[Decidable p]{e:Int}(h:p↔¬ b=true):un b e=if p then e else 0:=by
 unfold un;by_cases a:b=true;rw[if_pos a,if_neg (fun hp=>h.1 hp a)]
 rw[if_neg a,if_pos (h.2 a)]
theorem rM{p:Prop}[Decidable p]{e:Int}{l:L Int}(a:e≠0):aT ((if p then e else 0)::l)=if p then e else aT l:=by
 by_cases h:p;rw[if_pos h,if_pos h,aZ e l a];rw[if_neg h,if_neg h,aX]
theorem aLz(a:aJ):aLy a=if a.fi > 0/\a.rs=[] then 17 else if a.fi+gI a.rs > 4096 then 8 else if a.fi > 0/\(a.al≠0\/a.sz≠0\/a.vd≠0) then 3 else if ¬((0<=a.al/\a.al<=1048576)/\(0<=a.sz/\a.sz<=1048576)/\(0<=a.vd/\a.vd<=1048576)) then 2 else if a.vd > a.sz then 9 else 0:=by
 unfold aLy;rw[J2 (p:=a.fi > 0/\a.rs=[]) (by simp),J2 (p:=a.fi+gI a.rs > 4096) (by simp),J2 (p:=a.fi > 0/\(a.al≠0\/a.sz≠0\/a.vd≠0)) (by simp only[Bool.or_eq_true,bAc,Bool.or_eq_false_iff,decide_eq_true_eq,decide_eq_false_iff_not];omega),
  J2 (p:=¬((0<=a.al/\a.al<=1048576)/\(0<=a.sz/\a.sz<=1048576)/\(0<=a.vd/\a.vd<=1048576))) (by simp only[aZp,decide_eq_true_eq]),J2 (p:=a.vd > a.sz) (by simp)]
 rw[rM (by decide),rM (by decide),rM (by decide),rM (by decide),rM (by decide),bM]
theorem aLA(a:aJ):J1 a=if a.ty∈G0 then 20 else if a.va≠[] then 3 else if ¬(0<=a.fi/\a.fi<=4096) then 2 else if (mS a.rs).2≠0 then (mS a.rs).2 else aLy a:=by
 rw[aLz];rfl
theorem aGL(a:aJ)(x:a.W)(z:a.ty∈M6):EV G (Tb (bs bb)) 169 [a.v] []=some (vi (J1 a),[]):=by
 refine aB rfl ?_;rw[aLA];have k:=Tc a.ty;rw[if_pos z] at k;have m:=cQ x.va jI;have n:=Pj (G:=G) (B:=bs bb) a.rs;have o:=Ga (G:=G) (bb:=bb) a (by have:=x.rl;omega);by_cases p:a.ty∈G0;rw[if_pos p];rw[decide_eq_true p] at k;simp (disch:=omega) only[go_sem,h169c,gS,k,aG,m,bB,gA,gT,aX,aZ,bM,bZ,cB];rw[if_neg p];rw[decide_eq_false p] at k;by_cases i:a.va=[];rw[if_neg (by simpa using i)];replace i:=eq_true i;by_cases q:0<=a.fi/\a.fi<=4096;rw[if_neg (fun h=>h q)]
 have f:=eq_true q;by_cases l:(mS a.rs).2=0;rw[if_neg (fun h=>h l)]
 have s:=Dm l;have y:=Dl a.rs (fun r w=>(s.el r w).2.2) (by have:=s.sum;omega)
 have t:=iB a.rs (fun r w=>(s.el r w).2.2)
 have u:=s.sum;rw[<- y] at t u;have g:∀ L,L=[un (!decide (a.fi > 0)||decide (a.rs≠[])) 17,un (decide (a.fi+gI a.rs<=4096)) 8,un (!decide (a.fi > 0)||!(decide (a.al≠0)||(decide (a.sz≠0)||decide (a.vd≠0)))) 3,
   un (decide (0<=a.al/\a.al<=1048576)&&(decide (0<=a.sz/\a.sz<=1048576)&&decide (0<=a.vd/\a.vd<=1048576))) 2,un (decide (a.vd<=a.sz)) 9]->aT L=aLy a:=fun L h=>by rw[h];rfl
 by_cases d:a.fi > 0;by_cases c:a.al=0;have b:0<=a.al/\a.al<=1048576:=by omega
 by_cases j:a.sz=0;have e:0<=a.sz/\a.sz<=1048576:=by omega
 simp (disch:=omega) only[go_sem,h169c,gS,k,aG,m,bB,gA,gT,aX,aZ,bM,bZ,cB,i,f,n,l,eq_true d,eq_true c,eq_true b,eq_true j,eq_true e,aZa,nP];simp (disch:=omega) only[go_sem,o,bB,jH,nP,gA,gT,eq_true d,eq_true c,eq_true b,eq_true j,eq_true e];rw[g _ (by simp[un,d,c,b,j,e])];by_cases e:0<=a.sz/\a.sz<=1048576;simp (disch:=omega) only[go_sem,h169c,gS,k,aG,m,bB,gA,gT,aX,aZ,bM,bZ,cB,i,f,n,l,eq_true d,eq_true c,eq_true b,j,eq_true e,aZa,nP];simp (disch:=omega) only[go_sem,o,bB,jH,nP,gA,gT,eq_true d,eq_true c,eq_true b,j,eq_true e];rw[g _ (by simp[un,d,c,b,j,e])];simp (disch:=omega) only[go_sem,h169c,gS,k,aG,m,bB,gA,gT,aX,aZ,bM,bZ,cB,i,f,n,l,eq_true d,eq_true c,eq_true b,j,e,aZa,nP];simp (disch:=omega) only[go_sem,o,bB,jH,nP,gA,gT,eq_true d,eq_true c,eq_true b,j,e];rw[g _ (by simp[un,d,c,b,j,e])];by_cases b:0<=a.al/\a.al<=1048576;by_cases e:0<=a.sz/\a.sz<=1048576;simp (disch:=omega) only[go_sem,h169c,gS,k,aG,m,bB,gA,gT,aX,aZ,bM,bZ,cB,i,f,n,l,eq_true d,c,eq_true b,eq_true e,aZa,nP];simp (disch:=omega) only[go_sem,o,bB,jH,nP,gA,gT,eq_true d,c,eq_true b,eq_true e];rw[g _ (by simp[un,d,c,b,e])];simp (disch:=omega) only[go_sem,h169c,gS,k,aG,m,bB,gA,gT,aX,aZ,bM,bZ,cB,i,f,n,l,eq_true d,c,eq_true b,e,aZa,nP];simp (disch:=omega) only[go_sem,o,bB,jH,nP,gA,gT,eq_true d,c,eq_true b,e];rw[g _ (by simp[un,d,c,b,e])];simp (disch:=omega) only[go_sem,h169c,gS,k,aG,m,bB,gA,gT,aX,aZ,bM,bZ,cB,i,f,n,l,eq_true d,c,b,aZa,nP];simp (disch:=omega) only[go_sem,o,bB,jH,nP,gA,gT,eq_true d,c,b];rw[g _ (by simp[un,d,c,b])];by_cases c:a.al=0;have b:0<=a.al/\a.al<=1048576:=by omega
 by_cases j:a.sz=0;have e:0<=a.sz/\a.sz<=1048576:=by omega
 simp (disch:=omega) only[go_sem,h169c,gS,k,aG,m,bB,gA,gT,aX,aZ,bM,bZ,cB,i,f,n,l,d,eq_true c,eq_true b,eq_true j,eq_true e,aZa,nP];simp (disch:=omega) only[go_sem,o,bB,jH,nP,gA,gT,d,eq_true c,eq_true b,eq_true j,eq_true e];rw[g _ (by simp[un,d,c,b,j,e])];by_cases e:0<=a.sz/\a.sz<=1048576;simp (disch:=omega) only[go_sem,h169c,gS,k,aG,m,bB,gA,gT,aX,aZ,bM,bZ,cB,i,f,n,l,d,eq_true c,eq_true b,j,eq_true e,aZa,nP];simp (disch:=omega) only[go_sem,o,bB,jH,nP,gA,gT,d,eq_true c,eq_true b,j,eq_true e];rw[g _ (by simp[un,d,c,b,j,e])];simp (disch:=omega) only[go_sem,h169c,gS,k,aG,m,bB,gA,gT,aX,aZ,bM,bZ,cB,i,f,n,l,d,eq_true c,eq_true b,j,e,aZa,nP];simp (disch:=omega) only[go_sem,o,bB,jH,nP,gA,gT,d,eq_true c,eq_true b,j,e];rw[g _ (by simp[un,d,c,b,j,e])];by_cases b:0<=a.al/\a.al<=1048576;by_cases e:0<=a.sz/\a.sz<=1048576;simp (disch:=omega) only[go_sem,h169c,gS,k,aG,m,bB,gA,gT,aX,aZ,bM,bZ,cB,i,f,n,l,d,c,eq_true b,eq_true e,aZa,nP];simp (disch:=omega) only[go_sem,o,bB,jH,nP,gA,gT,d,c,eq_true b,eq_true e];rw[g _ (by simp[un,d,c,b,e])];simp (disch:=omega) only[go_sem,h169c,gS,k,aG,m,bB,gA,gT,aX,aZ,bM,bZ,cB,i,f,n,l,d,c,eq_true b,e,aZa,nP];simp (disch:=omega) only[go_sem,o,bB,jH,nP,gA,gT,d,c,eq_true b,e];rw[g _ (by simp[un,d,c,b,e])];simp (disch:=omega) only[go_sem,h169c,gS,k,aG,m,bB,gA,gT,aX,aZ,bM,bZ,cB,i,f,n,l,d,c,b,aZa,nP];simp (disch:=omega) only[go_sem,o,bB,jH,nP,gA,gT,d,c,b];rw[g _ (by simp[un,d,c,b])];rw[if_pos l];simp (disch:=omega) only[go_sem,h169c,gS,k,aG,m,bB,gA,gT,aX,aZ,bM,bZ,cB,i,f,n,l];rw[if_pos q];simp (disch:=omega) only[go_sem,h169c,gS,k,aG,m,bB,gA,gT,aX,aZ,bM,bZ,cB,i,q];rw[if_pos i];simp (disch:=omega) only[go_sem,h169c,gS,k,aG,m,bB,gA,gT,aX,aZ,bM,bZ,cB,i]
end
section
variable {G:aF}{bb:Bool}
theorem Pq{n:Int}(h:n∈M6):0<=n/\n<=200:=by
 simp only[M6,bAl,bAG,or_false] at h;omega
theorem Hs{l:L Int}(h:Pn l=true):l.length<=32:=by
 unfold Pn at h;rcases of_decide_eq_true h with h|h
 subst h;simp;exact h.2.1
theorem J3{l:L aV}(h:(mS l).2=0):l.length<=64/\0<=gI l/\gI l<=100000000:=by
 have a:=Dm h;have e:=Dl l (fun r b=>(a.el r b).2.2) (by have:=a.sum;omega)
 have c:=iB l (fun r b=>(a.el r b).2.2)
 have d:=a.sum;exact⟨nZ h,by omega,by omega⟩
theorem E6{a:aJ}(h:J1 a=0):a.ty∉G0/\a.va=[]/\(0<=a.fi/\a.fi<=4096)/\(mS a.rs).2=0/\¬(a.fi > 0/\a.rs=[])/\a.fi+gI a.rs<=4096/\¬(a.fi > 0/\(a.al≠0\/a.sz≠0\/a.vd≠0))/\((0<=a.al/\a.al<=1048576)/\(0<=a.sz/\a.sz<=1048576)/\(0<=a.vd/\a.vd<=1048576))/\a.vd<=a.sz:=by
 unfold J1 at h;split at h;omega;rename_i b;split at h;omega;rename_i c;split at h;omega;rename_i h3;split at h;rename_i h4;exact absurd h h4;rename_i h4;split at h;omega;rename_i h5;split at h;omega;rename_i h6;split at h;omega;rename_i h7;split at h;omega;rename_i h8;split at h;omega;rename_i h9;exact⟨b,Classical.not_not.1 c,Classical.not_not.1 h3,Classical.not_not.1 h4,h5,by omega,h7,Classical.not_not.1 h8,by omega⟩
theorem Ps{a:aJ}(h:Lq a=0):a.rs=[]/\a.fi=0/\a.al=0/\a.sz=0/\a.vd=0/\a.va.length<=400:=by
 unfold Lq at h;split at h;rename_i b;split at h;omega;obtain⟨b,c,h3,h4,h5⟩:=b;exact⟨b,c,h3,h4,h5,by omega⟩;omega
theorem aJ.bd{a:aJ}(b:a.W)(f:a.ty∈M6)(g:Pn a.nm=true)(h3:(0<=a.id/\a.id<=65535)/\(0<=a.fl/\a.fl<=7))(h4:tN a=0):a.Bd:=by
 have n:=Pq f;have o:=Hs g;unfold tN at h4;split at h4;obtain⟨c,d,h,e,i,j⟩:=Ps h4;have:gI a.rs=0:=by rw[c];rfl
 exact⟨b.nm,b.va,by omega,by omega,by rw[c];simp,by omega,by omega,by omega,by omega,by omega,by omega,by omega,by omega⟩;obtain⟨c,d,h,e,i,j,p,q,r⟩:=E6 h4;obtain⟨k,l,m⟩:=J3 e;exact⟨b.nm,b.va,by omega,by rw[d];simp,by omega,by omega,by omega,by omega,by omega,by omega,by omega,by omega,by omega⟩
theorem Ds(a:aJ)(o:a.W):EV G (Tb (bs bb)) 117 [a.v] []=some (vi (gE a),[]):=by
 refine aB rfl ?_;have e:=aGF (G:=G) (bb:=bb) a.ty;have f:=aCX (G:=G) (bb:=bb) a.nm o.nm (by have:=o.nl;omega);unfold gE;by_cases k:a.ty∈M6;rw[if_neg (fun h=>h k)]
 rw[decide_eq_true k] at e;cases p:Pn a.nm with
 |false=>
  rw[p] at f;rw[if_pos rfl];by_cases d:0<=a.id/\a.id<=65535;simp (disch:=omega) only[go_sem,h117c,e,f,bB,gA,gT,aX,aZ,bM,bZ,cB,eq_true d];simp (disch:=omega) only[go_sem,h117c,e,f,bB,gA,gT,aX,aZ,bM,bZ,cB,d]
 |true=>
  rw[p] at f;rw[if_neg (by decide)];by_cases d:0<=a.id/\a.id<=65535;by_cases i:0<=a.fl/\a.fl<=7;rw[if_neg (fun h=>h ⟨d,i⟩)]
  have n:=fun h=>aJ.bd o k p ⟨d,i⟩ h
  have q5 (h):=E5 (G:=G) (bb:=bb) a (n h);have q6 (h):=nJ a (n h);cases g:a.res with
  |true=>
   have j:=aGK (G:=G) (bb:=bb) a;simp only[tN,g,if_true] at q5 q6 ⊢;simp only[aJ.v,aJ.c,g] at j q5;by_cases b:Lq a=0;have m:((eO a:Int)<=440)=(eO a<=440):=by apply propext;omega
   by_cases l:eO a<=440;rw[if_neg (fun h=>h b),if_neg (by omega)]
   simp (disch:=omega) only[go_sem,h117c,e,f,bB,gA,gT,aX,aZ,bM,bZ,cB,eq_true d,eq_true i,j,b,q5 b,q6 b,g,eq_true l,m];rw[if_neg (fun h=>h b),if_pos (by omega)]
   simp (disch:=omega) only[go_sem,h117c,e,f,bB,gA,gT,aX,aZ,bM,bZ,cB,eq_true d,eq_true i,j,b,q5 b,q6 b,g,l,m];rw[if_pos b];simp (disch:=omega) only[go_sem,h117c,e,f,bB,gA,gT,aX,aZ,bM,bZ,cB,eq_true d,eq_true i,j,b,g]
  |false=>
   have j:=aGL (G:=G) (bb:=bb) a o k;simp only[tN,g,if_false,bAo] at q5 q6 ⊢;simp only[aJ.v,aJ.c,g] at j q5;by_cases b:J1 a=0;have m:((eO a:Int)<=440)=(eO a<=440):=by apply propext;omega
   by_cases l:eO a<=440;rw[if_neg (fun h=>h b),if_neg (by omega)]
   simp (disch:=omega) only[go_sem,h117c,e,f,bB,gA,gT,aX,aZ,bM,bZ,cB,eq_true d,eq_true i,j,b,q5 b,q6 b,g,eq_true l,m];rw[if_neg (fun h=>h b),if_pos (by omega)]
   simp (disch:=omega) only[go_sem,h117c,e,f,bB,gA,gT,aX,aZ,bM,bZ,cB,eq_true d,eq_true i,j,b,q5 b,q6 b,g,l,m];rw[if_pos b];simp (disch:=omega) only[go_sem,h117c,e,f,bB,gA,gT,aX,aZ,bM,bZ,cB,eq_true d,eq_true i,j,b,g]
  rw[if_pos (fun h=>i h.2)]
  simp (disch:=omega) only[go_sem,h117c,e,f,bB,gA,gT,aX,aZ,bM,bZ,cB,eq_true d,i];rw[if_pos (fun h=>d h.1)]
  simp (disch:=omega) only[go_sem,h117c,e,f,bB,gA,gT,aX,aZ,bM,bZ,cB,d]
 rw[if_pos k];rw[decide_eq_false k] at e;by_cases d:0<=a.id/\a.id<=65535;simp (disch:=omega) only[go_sem,h117c,e,f,bB,gA,gT,aX,aZ,bM,bZ,cB,eq_true d];simp (disch:=omega) only[go_sem,h117c,e,f,bB,gA,gT,aX,aZ,bM,bZ,cB,d]
end
section
variable {G:aF}{bb:Bool}
theorem aUX(call:aO)(n:Int):mK call G ⟨[vi n,.junk,vb false,.junk,.junk,.junk],[]⟩ [Oo 4 (.mov (.t 0)),Oo 5 (.call 72 [(.t 3),(.t 4)]),Oo 2 (.mov (.t 5))] (some 3) (.bslc 1 11 [Zi 0] [(0,(Ki 16)),(1,(Ki 32)),(2,(Ki 48)),(3,(Ki 64)),(4,(Ki 96)),(5,(Ki 112)),(6,(Ki 128)),(7,(Ki 144)),(8,(Ki 160)),(9,(Ki 176)),(10,(Ki 192))])= some ⟨[vi n,.junk,vb false,vl (el M6),.junk,.junk],[]⟩:=rfl
theorem aC0(n:Int):EV G (Tb (bs bb)) 141 [vi n] []=some (vb (decide (n∈M6)),[]):=by
 refine aB rfl ?_;have q:=aAw (G:=G) (B:=bs bb) M6 n (by simp[M6]);simp (disch:=omega) only[go_sem,h141c,↓aUX,q]
theorem Tj(n:Int):EV G (Tb (bs bb)) 196 [vi n] []=some (vb (decide (n∈G0)),[]):=by
 refine aB rfl ?_;have q:=aAw (G:=G) (B:=bs bb) G0 n (by simp[G0]);have e:el G0=[[ci 16],[ci 48],[ci 96],[ci 112],[ci 144]]:=rfl;rw[e] at q;simp (disch:=omega) only[go_sem,h196c,q]
theorem Xi(l:L aV):((l.length:Int) > 0)=(l≠[]):=nP l
theorem aC1(a:aJ):EV G (Tb (bs bb)) 144 [a.v] []=some (vi (Lq a),[]):=by
 refine aB rfl ?_;unfold Lq;by_cases g:a.rs=[];have b:¬ (a.rs≠[]):=fun h=>h g
 by_cases c:a.fi=0;by_cases d:a.al=0;by_cases e:a.sz=0;by_cases f:a.vd=0;rw[if_pos ⟨g,c,d,e,f⟩];have j:((a.va.length:Int) > 400)=(a.va.length > 400):=by apply propext;omega
 by_cases i:a.va.length > 400;rw[if_pos i];simp (disch:=omega) only[go_sem,h144c,aZa,Xi,b,c,d,e,f,j,eq_true i];rw[if_neg i];simp (disch:=omega) only[go_sem,h144c,aZa,Xi,b,c,d,e,f,j,i];rw[if_neg (fun h=>f h.2.2.2.2)]
 simp (disch:=omega) only[go_sem,h144c,aZa,Xi,b,c,d,e,f];rw[if_neg (fun h=>e h.2.2.2.1)]
 simp (disch:=omega) only[go_sem,h144c,aZa,Xi,b,c,d,e];rw[if_neg (fun h=>d h.2.2.1)]
 simp (disch:=omega) only[go_sem,h144c,aZa,Xi,b,c,d];rw[if_neg (fun h=>c h.2.1)]
 simp (disch:=omega) only[go_sem,h144c,aZa,Xi,b,c];rw[if_neg (fun h=>g h.1)]
 have b:(a.rs≠[])=True:=eq_true g;simp (disch:=omega) only[go_sem,h144c,aZa,Xi,b]
theorem aC2(a:aJ)(x:a.W):EV G (Tb (bs bb)) 143 [a.v] []=some (vi (J1 a),[]):=by
 refine aB rfl ?_;have e:=Tj (G:=G) (bb:=bb) a.ty;have g:=cQ x.va jI;have j:=aGy (G:=G) (B:=bs bb) a.rs;have k:=rI (G:=G) (B:=bs bb) a.rs (by have:=x.rl;omega);unfold J1;by_cases s:a.ty∈G0;rw[if_pos s];rw[decide_eq_true s] at e;simp (disch:=omega) only[go_sem,h143c,e];rw[if_neg s];rw[decide_eq_false s] at e;by_cases d:a.va=[];rw[if_neg (by simpa using d)];replace d:=eq_true d;by_cases t:0<=a.fi/\a.fi<=4096;rw[if_neg (fun h=>h t)]
 have b:=eq_true t;by_cases f:(mS a.rs).2=0;rw[if_neg (fun h=>h f)]
 obtain⟨y,z,A⟩:=J3 f;by_cases o:a.fi > 0/\a.rs=[];rw[if_pos o];have c:=o.1;simp (disch:=omega) only[go_sem,h143c,e,aG,g,d,bN,b,j,f,eq_true c,aZa,rs0,eq_true o.2];rw[if_neg o];by_cases i:a.fi+gI a.rs > 4096;rw[if_pos i];by_cases c:a.fi > 0;have p:¬ a.rs=[]:=fun h=>o ⟨c,h⟩
 simp (disch:=omega) only[go_sem,h143c,e,aG,g,d,bN,b,j,f,eq_true c,aZa,rs0,p,k,eq_true i];simp (disch:=omega) only[go_sem,h143c,e,aG,g,d,bN,b,j,f,c,k,eq_true i];rw[if_neg i];by_cases c:a.fi > 0;have p:¬ a.rs=[]:=fun h=>o ⟨c,h⟩
 by_cases r:a.al=0;by_cases u:a.sz=0;by_cases w:a.vd=0;rw[if_neg (fun h=>by obtain⟨_,h⟩:=h;omega),if_neg (fun h=>h (by omega)),if_neg (by omega)]
 have l:=eq_true (show 0<=a.al/\a.al<=1048576 by omega);have m:=eq_true (show 0<=a.sz/\a.sz<=1048576 by omega);have n:=eq_true (show 0<=a.vd/\a.vd<=1048576 by omega);have q:¬ a.vd > a.sz:=by omega
 simp (disch:=omega) only[go_sem,h143c,e,aG,g,d,bN,b,j,f,eq_true c,aZa,rs0,p,k,i,eq_true r,eq_true u,eq_true w,l,m,n,q];rw[if_pos ⟨c,.inr (.inr w)⟩];simp (disch:=omega) only[go_sem,h143c,e,aG,g,d,bN,b,j,f,eq_true c,aZa,rs0,p,k,i,eq_true r,eq_true u,w];rw[if_pos ⟨c,.inr (.inl u)⟩];simp (disch:=omega) only[go_sem,h143c,e,aG,g,d,bN,b,j,f,eq_true c,aZa,rs0,p,k,i,eq_true r,u];rw[if_pos ⟨c,.inl r⟩];simp (disch:=omega) only[go_sem,h143c,e,aG,g,d,bN,b,j,f,eq_true c,aZa,rs0,p,k,i,r];rw[if_neg (fun h=>c h.1)]
 by_cases l:0<=a.al/\a.al<=1048576;by_cases m:0<=a.sz/\a.sz<=1048576;by_cases n:0<=a.vd/\a.vd<=1048576;rw[if_neg (fun h=>h ⟨l,m,n⟩)]
 by_cases q:a.vd > a.sz;rw[if_pos q];simp (disch:=omega) only[go_sem,h143c,e,aG,g,d,bN,b,j,f,c,k,i,eq_true l,eq_true m,eq_true n,eq_true q];rw[if_neg q];simp (disch:=omega) only[go_sem,h143c,e,aG,g,d,bN,b,j,f,c,k,i,eq_true l,eq_true m,eq_true n,q];rw[if_pos (fun h=>n h.2.2)]
 simp (disch:=omega) only[go_sem,h143c,e,aG,g,d,bN,b,j,f,c,k,i,eq_true l,eq_true m,n];rw[if_pos (fun h=>m h.2.1)]
 simp (disch:=omega) only[go_sem,h143c,e,aG,g,d,bN,b,j,f,c,k,i,eq_true l,m];rw[if_pos (fun h=>l h.1)]
 simp (disch:=omega) only[go_sem,h143c,e,aG,g,d,bN,b,j,f,c,k,i,l];rw[if_pos f];simp (disch:=omega) only[go_sem,h143c,e,aG,g,d,bN,b,j,f];rw[if_pos t];simp (disch:=omega) only[go_sem,h143c,e,aG,g,d,bN,t];rw[if_pos d];simp (disch:=omega) only[go_sem,h143c,e,aG,g,d]
theorem aLB(n m:Int)(d:0<m/\m<=4611686018427387904)(j:-4611686018427387904<=n/\n<=4611686018427387904):EV G (Tb (bs bb)) 134 [vi n,vi m] []=some (vi (n / m),[]):=by
 refine aB rfl ?_;have a:n.tdiv m=n / m+(if n.tmod m<0 then 1 else 0):=by
  have f:=Int.tmod_add_mul_tdiv n m;have g:=Int.emod_add_mul_ediv n m;have e:=aUR n m d.1;have h:m*(n.tdiv m-n / m)=n % m-n.tmod m:=by rw[Int.mul_sub];omega
  split at e;rename_i b;rw[if_pos b];have:m*(n.tdiv m-n / m)=m*1:=by omega
  have:=Int.eq_of_mul_eq_mul_left (by omega) this;omega;rename_i b;rw[if_neg b];have:m*(n.tdiv m-n / m)=m*0:=by omega
  have:=Int.eq_of_mul_eq_mul_left (by omega) this;omega
 have i:-4611686018427387904<=n / m/\n / m<=4611686018427387904:=by
  constructor;by_cases h0:0<=n;have:=Int.ediv_nonneg h0 (show 0<=m by omega);omega;have h3:n*m<=n:=by
   have:=Int.mul_nonpos_of_nonpos_of_nonneg (show n<=0 by omega) (show 0<=m-1 by omega);rw[Int.mul_sub,Int.mul_one] at this;omega
  have:=Int.le_ediv_of_mul_le d.1 h3;omega;by_cases h0:0<=n;have:=Int.ediv_le_self m h0;omega;have:=Int.ediv_neg_of_neg_of_pos (by omega:n<0) d.1;omega
 by_cases c:n.tmod m<0;rw[if_pos c] at a;have h3:n.tdiv m-1=n / m:=by omega
 simp (disch:=omega) only[go_sem,h134c,a,c];simp;rw[if_neg c] at a;have h3:n.tdiv m=n / m:=by omega
 simp (disch:=omega) only[go_sem,h134c,h3,c]
theorem aQc(n m:Int)(a:0<m/\m<=4611686018427387904)(c:-4611686018427387904<=n/\n<=4611686018427387904)(b:-4611686018427387904<=-n / m/\-n / m<=4611686018427387904):EV G (Tb (bs bb)) 98 [vi n,vi m] []=some (vi (-(-n / m)),[]):=by
 refine aB rfl ?_;have q:=aLB (G:=G) (bb:=bb) (-n) m a (by omega);rw[show -n=0-n by omega] at q b ⊢;have e:0-(0-n) / m=-((0-n) / m):=by omega
 simp (disch:=omega) only[go_sem,h98c,q,e]
