/- The errors of attributes, by the reference. Conditions: none. -/
import Derived.Test.YthepfneloomngaaGreatDoorUd
namespace Go.Proofs.YthepfneloomngaaGreatDoor
set_option linter.unusedSimpArgs false
set_option linter.unusedVariables false
set_option maxRecDepth 4000
section
variable {G:aE}{bb:Bool}
def J0(a:aJ):Int:=if a.rs=[]/\a.fi=0/\a.al=0/\a.sz=0/\a.vd=0 then (if a.va.length > 400 then 8 else 0) else 3
def Ig(a:aJ):Int:=
 if a.ty∈E7 then 20 else if a.va≠[] then 3 else if ¬(0<=a.fi/\a.fi<=4096) then 2 else if (nA a.rs).2≠0 then (nA a.rs).2
 else if a.fi > 0/\a.rs=[] then 17 else if a.fi+iF a.rs > 4096 then 8 else if a.fi > 0/\(a.al≠0\/a.sz≠0\/a.vd≠0) then 3
 else if ¬((0<=a.al/\a.al<=1048576)/\(0<=a.sz/\a.sz<=1048576)/\(0<=a.vd/\a.vd<=1048576)) then 2 else if a.vd > a.sz then 9 else 0
def rZ(a:aJ):Int:=if a.res=true then J0 a else Ig a
def fK(a:aJ):Int:=
 if a.ty∉Lb then 15 else if Nd a.nm=false then 4 else if ¬((0<=a.id/\a.id<=65535)/\(0<=a.fl/\a.fl<=7)) then 2
 else if rZ a≠0 then rZ a else if fQ a > 440 then 16 else 0
structure aJ.W (a:aJ):Prop where
 nm:aM a.nm
 va:aM a.va
 nl:a.nm.length<=100000
 vl:a.va.length<=100000
 rl:a.rs.length<=100000
theorem rs0(l:List aY):((l.length:Int)=0)=(l=[]):=by
 apply propext;rw[<- List.length_eq_zero_iff];omega
theorem aE0(a:aJ):EV G (Tb (bs bb)) 236 [a.v] []=some (vi (J0 a),[]):=by
 refine aA rfl ?_;unfold J0;have e4:((a.va.length:Int)<=400)=(a.va.length<=400):=by apply propext;omega
 by_cases c1:a.rs=[];by_cases c2:a.fi=0;by_cases c3:a.al=0;by_cases c4:a.sz=0;by_cases c5:a.vd=0;rw[if_pos ⟨c1,c2,c3,c4,c5⟩];by_cases c6:a.va.length<=400;rw[if_neg (by omega)];simp (disch:=omega) only[go_sem,h236c,aXC,rs0,eq_true c1,c2,c3,c4,c5,gH,mG,eq_true c6];rfl;rw[if_pos (by omega)];simp (disch:=omega) only[go_sem,h236c,aXC,rs0,eq_true c1,c2,c3,c4,c5,gH,mG,e4,c6];rfl;rw[if_neg (fun h=>c5 h.2.2.2.2)]
 simp (disch:=omega) only[go_sem,h236c,aXC,rs0,eq_true c1,c2,c3,c4,c5,gH,mG];simp[aS];rw[if_neg (fun h=>c4 h.2.2.2.1)]
 simp (disch:=omega) only[go_sem,h236c,aXC,rs0,eq_true c1,c2,c3,c4,gH,mG];simp[aS];rw[if_neg (fun h=>c3 h.2.2.1)]
 simp (disch:=omega) only[go_sem,h236c,aXC,rs0,eq_true c1,c2,c3,gH,mG];simp[aS];rw[if_neg (fun h=>c2 h.2.1)]
 simp (disch:=omega) only[go_sem,h236c,aXC,rs0,eq_true c1,c2,gH,mG];simp[aS];rw[if_neg (fun h=>c1 h.1)]
 simp (disch:=omega) only[go_sem,h236c,aXC,rs0,c1,gH,mG];simp[aS]
theorem aV(l:List Int):aS (0::l)=aS l:=rfl
theorem aX(e:Int)(l:List Int)(h:e≠0):aS (e::l)=e:=by rw[aS,if_neg h]
theorem bJ:aS []=0:=rfl
def un(b:Bool)(e:Int):Int:=if b=true then 0 else e
theorem fR(e:Int):un true e=0:=rfl
theorem gC(e:Int):un false e=e:=rfl
theorem aZ(b:Bool)(e:Int):EV G (Tb (bs bb)) 232 [vb b,vi e] []=some (vi (un b e),[]):=gH b e
theorem mQ(l:List aY):(0<(l.length:Int))=(l≠[]):=by
 apply propext;have:=@List.length_eq_zero_iff _ l;constructor;intro h e;rw[this.2 e] at h;omega;intro h;have:l.length≠0:=fun e=>h (this.1 e);omega
def aJN(a:aJ):Int:=aS [un (!decide (a.fi > 0)||decide (a.rs≠[])) 17,un (decide (a.fi+iF a.rs<=4096)) 8,un (!decide (a.fi > 0)||!(decide (a.al≠0)||(decide (a.sz≠0)||decide (a.vd≠0)))) 3,
 un (decide (0<=a.al/\a.al<=1048576)&&(decide (0<=a.sz/\a.sz<=1048576)&&decide (0<=a.vd/\a.vd<=1048576))) 2,un (decide (a.vd<=a.sz)) 9]
theorem Ih{b:Bool}{p:Prop}[Decidable p]{e:Int}(h:p↔¬ b=true):un b e=if p then e else 0:=by
 unfold un;by_cases hb:b=true;rw[if_pos hb,if_neg (fun hp=>h.1 hp hb)]
 rw[if_neg hb,if_pos (h.2 hb)]
theorem qD{p:Prop}[Decidable p]{e:Int}{l:List Int}(he:e≠0):aS ((if p then e else 0)::l)=if p then e else aS l:=by
 by_cases h:p;rw[if_pos h,if_pos h,aX e l he];rw[if_neg h,if_neg h,aV]
theorem aJO(a:aJ):aJN a=if a.fi > 0/\a.rs=[] then 17 else if a.fi+iF a.rs > 4096 then 8 else if a.fi > 0/\(a.al≠0\/a.sz≠0\/a.vd≠0) then 3
 else if ¬((0<=a.al/\a.al<=1048576)/\(0<=a.sz/\a.sz<=1048576)/\(0<=a.vd/\a.vd<=1048576)) then 2 else if a.vd > a.sz then 9 else 0:=by
 unfold aJN;rw[Ih (p:=a.fi > 0/\a.rs=[]) (by simp),Ih (p:=a.fi+iF a.rs > 4096) (by simp),Ih (p:=a.fi > 0/\(a.al≠0\/a.sz≠0\/a.vd≠0)) (by simp only[Bool.or_eq_true,aYC,Bool.or_eq_false_iff,decide_eq_true_eq,decide_eq_false_iff_not];omega),
  Ih (p:=¬((0<=a.al/\a.al<=1048576)/\(0<=a.sz/\a.sz<=1048576)/\(0<=a.vd/\a.vd<=1048576))) (by simp only[aXQ,decide_eq_true_eq]),Ih (p:=a.vd > a.sz) (by simp)]
 rw[qD (by decide),qD (by decide),qD (by decide),qD (by decide),qD (by decide),bJ]
theorem aJP(a:aJ):Ig a=if a.ty∈E7 then 20 else if a.va≠[] then 3 else if ¬(0<=a.fi/\a.fi<=4096) then 2 else if (nA a.rs).2≠0 then (nA a.rs).2 else aJN a:=by
 rw[aJO];rfl
set_option maxHeartbeats 2000000 in
theorem aE1(a:aJ)(hW:a.W)(ht:a.ty∈Lb):EV G (Tb (bs bb)) 237 [a.v] []=some (vi (Ig a),[]):=by
 refine aA rfl ?_;rw[aJP];have em:=Q7 a.ty;rw[if_pos ht] at em;have ev:=dR hW.va jI;have q1:=Na (G:=G) (B:=bs bb) a.rs;have q2:=Eg (G:=G) (bb:=bb) a (by have:=hW.rl;omega);by_cases c1:a.ty∈E7;rw[if_pos c1];rw[decide_eq_true c1] at em;simp (disch:=omega) only[go_sem,h237c,gB,em,aL,ev,aZ,fR,gC,aV,aX,bJ,bX,bY];rw[if_neg c1];rw[decide_eq_false c1] at em;by_cases c2:a.va=[];rw[if_neg (by simpa using c2)];replace c2:=eq_true c2;by_cases c3:0<=a.fi/\a.fi<=4096;rw[if_neg (fun h=>h c3)]
 have c3':=eq_true c3;by_cases c4:(nA a.rs).2=0;rw[if_neg (fun h=>h c4)]
 have hF:=Bv c4;have hl:=Bs a.rs (fun r hr=>(hF.el r hr).2.2) (by have:=hF.sum;omega)
 have hl2:=gQ a.rs (fun r hr=>(hF.el r hr).2.2)
 have hl3:=hF.sum;rw[<- hl] at hl2 hl3;have fin:∀ L,L=[un (!decide (a.fi > 0)||decide (a.rs≠[])) 17,un (decide (a.fi+iF a.rs<=4096)) 8,un (!decide (a.fi > 0)||!(decide (a.al≠0)||(decide (a.sz≠0)||decide (a.vd≠0)))) 3,
   un (decide (0<=a.al/\a.al<=1048576)&&(decide (0<=a.sz/\a.sz<=1048576)&&decide (0<=a.vd/\a.vd<=1048576))) 2,un (decide (a.vd<=a.sz)) 9]->aS L=aJN a:=fun L h=>by rw[h];rfl
 by_cases c5:a.fi > 0;by_cases c6:a.al=0;have c8:0<=a.al/\a.al<=1048576:=by omega
 by_cases c7:a.sz=0;have c9:0<=a.sz/\a.sz<=1048576:=by omega
 simp (disch:=omega) only[go_sem,h237c,gB,em,aL,ev,aZ,fR,gC,aV,aX,bJ,bX,bY,c2,c3',q1,c4,eq_true c5,eq_true c6,eq_true c8,eq_true c7,eq_true c9,aXC,mQ];simp (disch:=omega) only[go_sem,q2,aZ,iO,mQ,fR,gC,eq_true c5,eq_true c6,eq_true c8,eq_true c7,eq_true c9];rw[fin _ (by simp[un,c5,c6,c8,c7,c9])];by_cases c9:0<=a.sz/\a.sz<=1048576;simp (disch:=omega) only[go_sem,h237c,gB,em,aL,ev,aZ,fR,gC,aV,aX,bJ,bX,bY,c2,c3',q1,c4,eq_true c5,eq_true c6,eq_true c8,c7,eq_true c9,aXC,mQ];simp (disch:=omega) only[go_sem,q2,aZ,iO,mQ,fR,gC,eq_true c5,eq_true c6,eq_true c8,c7,eq_true c9];rw[fin _ (by simp[un,c5,c6,c8,c7,c9])];simp (disch:=omega) only[go_sem,h237c,gB,em,aL,ev,aZ,fR,gC,aV,aX,bJ,bX,bY,c2,c3',q1,c4,eq_true c5,eq_true c6,eq_true c8,c7,c9,aXC,mQ];simp (disch:=omega) only[go_sem,q2,aZ,iO,mQ,fR,gC,eq_true c5,eq_true c6,eq_true c8,c7,c9];rw[fin _ (by simp[un,c5,c6,c8,c7,c9])];by_cases c8:0<=a.al/\a.al<=1048576;by_cases c9:0<=a.sz/\a.sz<=1048576;simp (disch:=omega) only[go_sem,h237c,gB,em,aL,ev,aZ,fR,gC,aV,aX,bJ,bX,bY,c2,c3',q1,c4,eq_true c5,c6,eq_true c8,eq_true c9,aXC,mQ];simp (disch:=omega) only[go_sem,q2,aZ,iO,mQ,fR,gC,eq_true c5,c6,eq_true c8,eq_true c9];rw[fin _ (by simp[un,c5,c6,c8,c9])];simp (disch:=omega) only[go_sem,h237c,gB,em,aL,ev,aZ,fR,gC,aV,aX,bJ,bX,bY,c2,c3',q1,c4,eq_true c5,c6,eq_true c8,c9,aXC,mQ];simp (disch:=omega) only[go_sem,q2,aZ,iO,mQ,fR,gC,eq_true c5,c6,eq_true c8,c9];rw[fin _ (by simp[un,c5,c6,c8,c9])];simp (disch:=omega) only[go_sem,h237c,gB,em,aL,ev,aZ,fR,gC,aV,aX,bJ,bX,bY,c2,c3',q1,c4,eq_true c5,c6,c8,aXC,mQ];simp (disch:=omega) only[go_sem,q2,aZ,iO,mQ,fR,gC,eq_true c5,c6,c8];rw[fin _ (by simp[un,c5,c6,c8])];by_cases c6:a.al=0;have c8:0<=a.al/\a.al<=1048576:=by omega
 by_cases c7:a.sz=0;have c9:0<=a.sz/\a.sz<=1048576:=by omega
 simp (disch:=omega) only[go_sem,h237c,gB,em,aL,ev,aZ,fR,gC,aV,aX,bJ,bX,bY,c2,c3',q1,c4,c5,eq_true c6,eq_true c8,eq_true c7,eq_true c9,aXC,mQ];simp (disch:=omega) only[go_sem,q2,aZ,iO,mQ,fR,gC,c5,eq_true c6,eq_true c8,eq_true c7,eq_true c9];rw[fin _ (by simp[un,c5,c6,c8,c7,c9])];by_cases c9:0<=a.sz/\a.sz<=1048576;simp (disch:=omega) only[go_sem,h237c,gB,em,aL,ev,aZ,fR,gC,aV,aX,bJ,bX,bY,c2,c3',q1,c4,c5,eq_true c6,eq_true c8,c7,eq_true c9,aXC,mQ];simp (disch:=omega) only[go_sem,q2,aZ,iO,mQ,fR,gC,c5,eq_true c6,eq_true c8,c7,eq_true c9];rw[fin _ (by simp[un,c5,c6,c8,c7,c9])];simp (disch:=omega) only[go_sem,h237c,gB,em,aL,ev,aZ,fR,gC,aV,aX,bJ,bX,bY,c2,c3',q1,c4,c5,eq_true c6,eq_true c8,c7,c9,aXC,mQ];simp (disch:=omega) only[go_sem,q2,aZ,iO,mQ,fR,gC,c5,eq_true c6,eq_true c8,c7,c9];rw[fin _ (by simp[un,c5,c6,c8,c7,c9])];by_cases c8:0<=a.al/\a.al<=1048576;by_cases c9:0<=a.sz/\a.sz<=1048576;simp (disch:=omega) only[go_sem,h237c,gB,em,aL,ev,aZ,fR,gC,aV,aX,bJ,bX,bY,c2,c3',q1,c4,c5,c6,eq_true c8,eq_true c9,aXC,mQ];simp (disch:=omega) only[go_sem,q2,aZ,iO,mQ,fR,gC,c5,c6,eq_true c8,eq_true c9];rw[fin _ (by simp[un,c5,c6,c8,c9])];simp (disch:=omega) only[go_sem,h237c,gB,em,aL,ev,aZ,fR,gC,aV,aX,bJ,bX,bY,c2,c3',q1,c4,c5,c6,eq_true c8,c9,aXC,mQ];simp (disch:=omega) only[go_sem,q2,aZ,iO,mQ,fR,gC,c5,c6,eq_true c8,c9];rw[fin _ (by simp[un,c5,c6,c8,c9])];simp (disch:=omega) only[go_sem,h237c,gB,em,aL,ev,aZ,fR,gC,aV,aX,bJ,bX,bY,c2,c3',q1,c4,c5,c6,c8,aXC,mQ];simp (disch:=omega) only[go_sem,q2,aZ,iO,mQ,fR,gC,c5,c6,c8];rw[fin _ (by simp[un,c5,c6,c8])];rw[if_pos c4];simp (disch:=omega) only[go_sem,h237c,gB,em,aL,ev,aZ,fR,gC,aV,aX,bJ,bX,bY,c2,c3',q1,c4];rw[if_pos c3];simp (disch:=omega) only[go_sem,h237c,gB,em,aL,ev,aZ,fR,gC,aV,aX,bJ,bX,bY,c2,c3];rw[if_pos c2];simp (disch:=omega) only[go_sem,h237c,gB,em,aL,ev,aZ,fR,gC,aV,aX,bJ,bX,bY,c2]
end
section
variable {G:aE}{bb:Bool}
theorem Nh{n:Int}(h:n∈Lb):0<=n/\n<=200:=by
 simp only[Lb,aYR,List.not_mem_nil,or_false] at h;omega
theorem F3{l:List Int}(h:Nd l=true):l.length<=32:=by
 unfold Nd at h;rcases of_decide_eq_true h with h|h
 subst h;simp;exact h.2.1
theorem Ni{l:List aY}(h:(nA l).2=0):l.length<=64/\0<=iF l/\iF l<=100000000:=by
 have hF:=Bv h;have hl:=Bs l (fun r hr=>(hF.el r hr).2.2) (by have:=hF.sum;omega)
 have hl2:=gQ l (fun r hr=>(hF.el r hr).2.2)
 have hl3:=hF.sum;exact⟨nC h,by omega,by omega⟩
theorem Dh{a:aJ}(h:Ig a=0):a.ty∉E7/\a.va=[]/\(0<=a.fi/\a.fi<=4096)/\(nA a.rs).2=0/\¬(a.fi > 0/\a.rs=[])/\a.fi+iF a.rs<=4096/\¬(a.fi > 0/\(a.al≠0\/a.sz≠0\/a.vd≠0))/\
  ((0<=a.al/\a.al<=1048576)/\(0<=a.sz/\a.sz<=1048576)/\(0<=a.vd/\a.vd<=1048576))/\a.vd<=a.sz:=by
 unfold Ig at h;split at h;omega;rename_i h1;split at h;omega;rename_i h2;split at h;omega;rename_i h3;split at h;rename_i h4;exact absurd h h4;rename_i h4;split at h;omega;rename_i h5;split at h;omega;rename_i h6;split at h;omega;rename_i h7;split at h;omega;rename_i h8;split at h;omega;rename_i h9;exact⟨h1,Classical.not_not.1 h2,Classical.not_not.1 h3,Classical.not_not.1 h4,h5,by omega,h7,Classical.not_not.1 h8,by omega⟩
theorem Nj{a:aJ}(h:J0 a=0):a.rs=[]/\a.fi=0/\a.al=0/\a.sz=0/\a.vd=0/\a.va.length<=400:=by
 unfold J0 at h;split at h;rename_i h1;split at h;omega;obtain⟨h1,h2,h3,h4,h5⟩:=h1;exact⟨h1,h2,h3,h4,h5,by omega⟩;omega
theorem aJ.bd{a:aJ}(hW:a.W)(h1:a.ty∈Lb)(h2:Nd a.nm=true)(h3:(0<=a.id/\a.id<=65535)/\(0<=a.fl/\a.fl<=7))(h4:rZ a=0):a.Bd:=by
 have g1:=Nh h1;have g2:=F3 h2;unfold rZ at h4;split at h4;obtain⟨q1,q2,q3,q4,q5,q6⟩:=Nj h4;have:iF a.rs=0:=by rw[q1];rfl
 exact⟨hW.nm,hW.va,by omega,by omega,by rw[q1];simp,by omega,by omega,by omega,by omega,by omega,by omega,by omega,by omega⟩;obtain⟨q1,q2,q3,q4,q5,q6,q7,q8,q9⟩:=Dh h4;obtain⟨c1,c2,c3⟩:=Ni q4;exact⟨hW.nm,hW.va,by omega,by rw[q2];simp,by omega,by omega,by omega,by omega,by omega,by omega,by omega,by omega,by omega⟩
theorem B4(a:aJ)(hW:a.W):EV G (Tb (bs bb)) 188 [a.v] []=some (vi (fK a),[]):=by
 refine aA rfl ?_;have q1:=aEV (G:=G) (bb:=bb) a.ty;have q2:=aBk (G:=G) (bb:=bb) a.nm hW.nm (by have:=hW.nl;omega);unfold fK;by_cases c1:a.ty∈Lb;rw[if_neg (fun h=>h c1)]
 rw[decide_eq_true c1] at q1;cases c2:Nd a.nm with
 |false=>
  rw[c2] at q2;rw[if_pos rfl];by_cases d1:0<=a.id/\a.id<=65535;simp (disch:=omega) only[go_sem,h188c,q1,q2,aZ,fR,gC,aV,aX,bJ,bX,bY,eq_true d1];simp (disch:=omega) only[go_sem,h188c,q1,q2,aZ,fR,gC,aV,aX,bJ,bX,bY,d1]
 |true=>
  rw[c2] at q2;rw[if_neg (by decide)];by_cases d1:0<=a.id/\a.id<=65535;by_cases d2:0<=a.fl/\a.fl<=7;rw[if_neg (fun h=>h ⟨d1,d2⟩)]
  have hbd:=fun h=>aJ.bd hW c1 c2 ⟨d1,d2⟩ h
  have q5 (h):=Dg (G:=G) (bb:=bb) a (hbd h);have q6 (h):=mI a (hbd h);cases c3:a.res with
  |true=>
   have q4:=aE0 (G:=G) (bb:=bb) a;simp only[rZ,c3,if_true] at q5 q6 ⊢;simp only[aJ.v,aJ.c,c3] at q4 q5;by_cases c4:J0 a=0;have e6:((fQ a:Int)<=440)=(fQ a<=440):=by apply propext;omega
   by_cases c5:fQ a<=440;rw[if_neg (fun h=>h c4),if_neg (by omega)]
   simp (disch:=omega) only[go_sem,h188c,q1,q2,aZ,fR,gC,aV,aX,bJ,bX,bY,eq_true d1,eq_true d2,q4,c4,q5 c4,q6 c4,c3,eq_true c5,e6];rw[if_neg (fun h=>h c4),if_pos (by omega)]
   simp (disch:=omega) only[go_sem,h188c,q1,q2,aZ,fR,gC,aV,aX,bJ,bX,bY,eq_true d1,eq_true d2,q4,c4,q5 c4,q6 c4,c3,c5,e6];rw[if_pos c4];simp (disch:=omega) only[go_sem,h188c,q1,q2,aZ,fR,gC,aV,aX,bJ,bX,bY,eq_true d1,eq_true d2,q4,c4,c3]
  |false=>
   have q4:=aE1 (G:=G) (bb:=bb) a hW c1;simp only[rZ,c3,if_false,aYP] at q5 q6 ⊢;simp only[aJ.v,aJ.c,c3] at q4 q5;by_cases c4:Ig a=0;have e6:((fQ a:Int)<=440)=(fQ a<=440):=by apply propext;omega
   by_cases c5:fQ a<=440;rw[if_neg (fun h=>h c4),if_neg (by omega)]
   simp (disch:=omega) only[go_sem,h188c,q1,q2,aZ,fR,gC,aV,aX,bJ,bX,bY,eq_true d1,eq_true d2,q4,c4,q5 c4,q6 c4,c3,eq_true c5,e6];rw[if_neg (fun h=>h c4),if_pos (by omega)]
   simp (disch:=omega) only[go_sem,h188c,q1,q2,aZ,fR,gC,aV,aX,bJ,bX,bY,eq_true d1,eq_true d2,q4,c4,q5 c4,q6 c4,c3,c5,e6];rw[if_pos c4];simp (disch:=omega) only[go_sem,h188c,q1,q2,aZ,fR,gC,aV,aX,bJ,bX,bY,eq_true d1,eq_true d2,q4,c4,c3]
  rw[if_pos (fun h=>d2 h.2)]
  simp (disch:=omega) only[go_sem,h188c,q1,q2,aZ,fR,gC,aV,aX,bJ,bX,bY,eq_true d1,d2];rw[if_pos (fun h=>d1 h.1)]
  simp (disch:=omega) only[go_sem,h188c,q1,q2,aZ,fR,gC,aV,aX,bJ,bX,bY,d1]
 rw[if_pos c1];rw[decide_eq_false c1] at q1;by_cases d1:0<=a.id/\a.id<=65535;simp (disch:=omega) only[go_sem,h188c,q1,q2,aZ,fR,gC,aV,aX,bJ,bX,bY,eq_true d1];simp (disch:=omega) only[go_sem,h188c,q1,q2,aZ,fR,gC,aV,aX,bJ,bX,bY,d1]
end
section
variable {G:aE}{bb:Bool}
theorem aTn(call:aO)(n:Int):lK call G ⟨[vi n,.junk,vb false,.junk,.junk,.junk],[]⟩ [Oo 4 (.mov (.t 0)),Oo 5 (.call 94 [(.t 3),(.t 4)]),Oo 2 (.mov (.t 5))] (some 3) (.bslc 1 11 [Zi 0] [(0,(Ki 16)),(1,(Ki 32)),(2,(Ki 48)),(3,(Ki 64)),(4,(Ki 96)),(5,(Ki 112)),(6,(Ki 128)),(7,(Ki 144)),(8,(Ki 160)),(9,(Ki 176)),(10,(Ki 192))])=
 some ⟨[vi n,.junk,vb false,vl (el Lb),.junk,.junk],[]⟩:=rfl
theorem aBn(n:Int):EV G (Tb (bs bb)) 247 [vi n] []=some (vb (decide (n∈Lb)),[]):=by
 refine aA rfl ?_;have q:=aLZ (G:=G) (B:=bs bb) Lb n (by simp[Lb]);simp (disch:=omega) only[go_sem,h247c,↓aTn,q]
theorem Re(n:Int):EV G (Tb (bs bb)) 295 [vi n] []=some (vb (decide (n∈E7)),[]):=by
 refine aA rfl ?_;have q:=aLZ (G:=G) (B:=bs bb) E7 n (by simp[E7]);have e:el E7=[[ci 16],[ci 48],[ci 96],[ci 112],[ci 144]]:=rfl;rw[e] at q;simp (disch:=omega) only[go_sem,h295c,q]
theorem Uu(l:List aY):((l.length:Int) > 0)=(l≠[]):=mQ l
theorem aBo(a:aJ):EV G (Tb (bs bb)) 250 [a.v] []=some (vi (J0 a),[]):=by
 refine aA rfl ?_;unfold J0;by_cases c1:a.rs=[];have c1':¬ (a.rs≠[]):=fun h=>h c1
 by_cases c2:a.fi=0;by_cases c3:a.al=0;by_cases c4:a.sz=0;by_cases c5:a.vd=0;rw[if_pos ⟨c1,c2,c3,c4,c5⟩];have e4:((a.va.length:Int) > 400)=(a.va.length > 400):=by apply propext;omega
 by_cases c6:a.va.length > 400;rw[if_pos c6];simp (disch:=omega) only[go_sem,h250c,aXC,Uu,c1',c2,c3,c4,c5,e4,eq_true c6];rw[if_neg c6];simp (disch:=omega) only[go_sem,h250c,aXC,Uu,c1',c2,c3,c4,c5,e4,c6];rw[if_neg (fun h=>c5 h.2.2.2.2)]
 simp (disch:=omega) only[go_sem,h250c,aXC,Uu,c1',c2,c3,c4,c5];rw[if_neg (fun h=>c4 h.2.2.2.1)]
 simp (disch:=omega) only[go_sem,h250c,aXC,Uu,c1',c2,c3,c4];rw[if_neg (fun h=>c3 h.2.2.1)]
 simp (disch:=omega) only[go_sem,h250c,aXC,Uu,c1',c2,c3];rw[if_neg (fun h=>c2 h.2.1)]
 simp (disch:=omega) only[go_sem,h250c,aXC,Uu,c1',c2];rw[if_neg (fun h=>c1 h.1)]
 have c1':(a.rs≠[])=True:=eq_true c1;simp (disch:=omega) only[go_sem,h250c,aXC,Uu,c1']
set_option maxHeartbeats 2000000 in
theorem aBp(a:aJ)(hW:a.W):EV G (Tb (bs bb)) 249 [a.v] []=some (vi (Ig a),[]):=by
 refine aA rfl ?_;have q0:=Re (G:=G) (bb:=bb) a.ty;have ev:=dR hW.va jI;have q1:=aTf (G:=G) (B:=bs bb) a.rs;have q2:=H5 (G:=G) (B:=bs bb) a.rs (by have:=hW.rl;omega);unfold Ig;by_cases c1:a.ty∈E7;rw[if_pos c1];rw[decide_eq_true c1] at q0;simp (disch:=omega) only[go_sem,h249c,q0];rw[if_neg c1];rw[decide_eq_false c1] at q0;by_cases c2:a.va=[];rw[if_neg (by simpa using c2)];replace c2:=eq_true c2;by_cases c3:0<=a.fi/\a.fi<=4096;rw[if_neg (fun h=>h c3)]
 have c3':=eq_true c3;by_cases c4:(nA a.rs).2=0;rw[if_neg (fun h=>h c4)]
 obtain⟨g1,g2,g3⟩:=Ni c4;by_cases c5:a.fi > 0/\a.rs=[];rw[if_pos c5];have d1:=c5.1;simp (disch:=omega) only[go_sem,h249c,q0,aL,ev,c2,cB,c3',q1,c4,eq_true d1,aXC,rs0,eq_true c5.2];rw[if_neg c5];by_cases c6:a.fi+iF a.rs > 4096;rw[if_pos c6];by_cases d1:a.fi > 0;have d2:¬ a.rs=[]:=fun h=>c5 ⟨d1,h⟩
 simp (disch:=omega) only[go_sem,h249c,q0,aL,ev,c2,cB,c3',q1,c4,eq_true d1,aXC,rs0,d2,q2,eq_true c6];simp (disch:=omega) only[go_sem,h249c,q0,aL,ev,c2,cB,c3',q1,c4,d1,q2,eq_true c6];rw[if_neg c6];by_cases d1:a.fi > 0;have d2:¬ a.rs=[]:=fun h=>c5 ⟨d1,h⟩
 by_cases c7:a.al=0;by_cases c8:a.sz=0;by_cases c9:a.vd=0;rw[if_neg (fun h=>by obtain⟨_,h⟩:=h;omega),if_neg (fun h=>h (by omega)),if_neg (by omega)]
 have d3:=eq_true (show 0<=a.al/\a.al<=1048576 by omega);have d4:=eq_true (show 0<=a.sz/\a.sz<=1048576 by omega);have d5:=eq_true (show 0<=a.vd/\a.vd<=1048576 by omega);have d6:¬ a.vd > a.sz:=by omega
 simp (disch:=omega) only[go_sem,h249c,q0,aL,ev,c2,cB,c3',q1,c4,eq_true d1,aXC,rs0,d2,q2,c6,eq_true c7,eq_true c8,eq_true c9,d3,d4,d5,d6];rw[if_pos ⟨d1,.inr (.inr c9)⟩];simp (disch:=omega) only[go_sem,h249c,q0,aL,ev,c2,cB,c3',q1,c4,eq_true d1,aXC,rs0,d2,q2,c6,eq_true c7,eq_true c8,c9];rw[if_pos ⟨d1,.inr (.inl c8)⟩];simp (disch:=omega) only[go_sem,h249c,q0,aL,ev,c2,cB,c3',q1,c4,eq_true d1,aXC,rs0,d2,q2,c6,eq_true c7,c8];rw[if_pos ⟨d1,.inl c7⟩];simp (disch:=omega) only[go_sem,h249c,q0,aL,ev,c2,cB,c3',q1,c4,eq_true d1,aXC,rs0,d2,q2,c6,c7];rw[if_neg (fun h=>d1 h.1)]
 by_cases d3:0<=a.al/\a.al<=1048576;by_cases d4:0<=a.sz/\a.sz<=1048576;by_cases d5:0<=a.vd/\a.vd<=1048576;rw[if_neg (fun h=>h ⟨d3,d4,d5⟩)]
 by_cases d6:a.vd > a.sz;rw[if_pos d6];simp (disch:=omega) only[go_sem,h249c,q0,aL,ev,c2,cB,c3',q1,c4,d1,q2,c6,eq_true d3,eq_true d4,eq_true d5,eq_true d6];rw[if_neg d6];simp (disch:=omega) only[go_sem,h249c,q0,aL,ev,c2,cB,c3',q1,c4,d1,q2,c6,eq_true d3,eq_true d4,eq_true d5,d6];rw[if_pos (fun h=>d5 h.2.2)]
 simp (disch:=omega) only[go_sem,h249c,q0,aL,ev,c2,cB,c3',q1,c4,d1,q2,c6,eq_true d3,eq_true d4,d5];rw[if_pos (fun h=>d4 h.2.1)]
 simp (disch:=omega) only[go_sem,h249c,q0,aL,ev,c2,cB,c3',q1,c4,d1,q2,c6,eq_true d3,d4];rw[if_pos (fun h=>d3 h.1)]
 simp (disch:=omega) only[go_sem,h249c,q0,aL,ev,c2,cB,c3',q1,c4,d1,q2,c6,d3];rw[if_pos c4];simp (disch:=omega) only[go_sem,h249c,q0,aL,ev,c2,cB,c3',q1,c4];rw[if_pos c3];simp (disch:=omega) only[go_sem,h249c,q0,aL,ev,c2,cB,c3];rw[if_pos c2];simp (disch:=omega) only[go_sem,h249c,q0,aL,ev,c2]
theorem aJQ(n m:Int)(hm:0<m/\m<=4611686018427387904)(hn:-4611686018427387904<=n/\n<=4611686018427387904):EV G (Tb (bs bb)) 253 [vi n,vi m] []=some (vi (n / m),[]):=by
 refine aA rfl ?_;have h1:n.tdiv m=n / m+(if n.tmod m<0 then 1 else 0):=by
  have e1:=Int.tmod_add_mul_tdiv n m;have e2:=Int.emod_add_mul_ediv n m;have e3:=aTh n m hm.1;have e4:m*(n.tdiv m-n / m)=n % m-n.tmod m:=by rw[Int.mul_sub];omega
  split at e3;rename_i hc;rw[if_pos hc];have:m*(n.tdiv m-n / m)=m*1:=by omega
  have:=Int.eq_of_mul_eq_mul_left (by omega) this;omega;rename_i hc;rw[if_neg hc];have:m*(n.tdiv m-n / m)=m*0:=by omega
  have:=Int.eq_of_mul_eq_mul_left (by omega) this;omega
 have h2:-4611686018427387904<=n / m/\n / m<=4611686018427387904:=by
  constructor;by_cases h0:0<=n;have:=Int.ediv_nonneg h0 (show 0<=m by omega);omega;have h3:n*m<=n:=by
   have:=Int.mul_nonpos_of_nonpos_of_nonneg (show n<=0 by omega) (show 0<=m-1 by omega);rw[Int.mul_sub,Int.mul_one] at this;omega
  have:=Int.le_ediv_of_mul_le hm.1 h3;omega;by_cases h0:0<=n;have:=Int.ediv_le_self m h0;omega;have:=Int.ediv_neg_of_neg_of_pos (by omega:n<0) hm.1;omega
 by_cases c:n.tmod m<0;rw[if_pos c] at h1;have h3:n.tdiv m-1=n / m:=by omega
 simp (disch:=omega) only[go_sem,h253c,h1,c];simp;rw[if_neg c] at h1;have h3:n.tdiv m=n / m:=by omega
 simp (disch:=omega) only[go_sem,h253c,h3,c]
theorem aOO(n m:Int)(hm:0<m/\m<=4611686018427387904)(hn:-4611686018427387904<=n/\n<=4611686018427387904)(hq:-4611686018427387904<=-n / m/\-n / m<=4611686018427387904):EV G (Tb (bs bb)) 199 [vi n,vi m] []=some (vi (-(-n / m)),[]):=by
 refine aA rfl ?_;have q:=aJQ (G:=G) (bb:=bb) (-n) m hm (by omega);rw[show -n=0-n by omega] at q hq ⊢;have e:0-(0-n) / m=-((0-n) / m):=by omega
 simp (disch:=omega) only[go_sem,h199c,q,e]
end
end Go.Proofs.YthepfneloomngaaGreatDoor
