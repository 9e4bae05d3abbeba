/- The errors of attributes, by the reference. Conditions: none. -/
import Derived.Test.YtcplecjhmnblpaaGreatDoorUc
namespace Go.Proofs.YtcplecjhmnblpaaGreatDoor
set_option linter.unusedSimpArgs false
set_option linter.unusedVariables false
set_option maxRecDepth 4000
section
variable {G:aH} {bb:Bool}
theorem Kq(l:List Int)(n:Nat)(h:l.length<=n):jT ((l.map yC).take n)=some (l.map u8):=by rw[vY l n h,pG]
theorem B7(a:aE):(Ko a).length=dX a:=by simp only[Ko,cR,bD]
set_option maxHeartbeats 4000000 in
theorem U7(a:aE)(h:a.Bd)(hr:a.res=true):EV G (Tb (bs bb)) 129 [a.v] []=some (sv (qO a),[]):=by
 refine aB rfl ?_;obtain⟨hnm,hva,hnl,hvl,hrl,hty,hid,hfl,hfi,hal,hsz,hvd,hlw⟩:=h;have eh:qN a=24:=by simp[qN,hr]
 have eb:pH a=a.va:=by simp[pH,hr]
 have eA:Q4 (24+(a.nm.length:Int))=((cM a:Nat):Int):=by simp only[Q4,cM,eh];omega
 have eN:Q4 (((cM a:Nat):Int)+(a.va.length:Int))=((dX a:Nat):Int):=by simp only[Q4,dX,eb];omega
 have hA:24+a.nm.length<=cM a/\cM a<=2000:=by simp only[cM,eh];omega
 have hN:cM a+a.va.length<=dX a/\dX a<=4000:=by simp only[dX,eb];omega
 unfold qO Kp;rw[if_pos hr];have h6:=B7 a;unfold Ko at h6 ⊢;rw[eh,eb] at *;generalize cM a=A at *;generalize dX a=N at *;have hc1:=uB (aT (aT (aT (aT (aT (aT (aT (aT (zl N) 0 a.ty 4) 4 N 4) 9 a.nm.length 1) 10 24 2) 12 a.fl 2) 14 a.id 2) 16 a.va.length 4) 20 A 4) a.nm 24 (N - 24) hnm (by omega);have hc2:=uB (kH (aT (aT (aT (aT (aT (aT (aT (aT (zl N) 0 a.ty 4) 4 N 4) 9 a.nm.length 1) 10 24 2) 12 a.fl 2) 14 a.id 2) 16 a.va.length 4) 20 A 4) 24 a.nm) a.va A (N - A) hva (by omega);have hl1:(kH (aT (aT (aT (aT (aT (aT (aT (aT (zl N) 0 a.ty 4) 4 N 4) 9 a.nm.length 1) 10 24 2) 12 a.fl 2) 14 a.id 2) 16 a.va.length 4) 20 A 4) 24 a.nm).length=N:=by
  rw[fK (by simp only[cR,bD];omega)];simp only[cR,bD]
 have hl2:=fK (b:=kH (aT (aT (aT (aT (aT (aT (aT (aT (zl N) 0 a.ty 4) 4 N 4) 9 a.nm.length 1) 10 24 2) 12 a.fl 2) 14 a.id 2) 16 a.va.length 4) 20 A 4) 24 a.nm) (k:=A) (s:=a.va) (by omega);rw[hl1] at hl2;have e3:(A+(N - A)<=N)=True:=eq_true (by omega);simp (disch:=first | omega | (simp only[aQb,cR,bD]<;>omega)) only[go_sem,h129c,hr,uA,sP,eA,eN,G0,aQb,aGD,aGG,aGF,aGE,Int.reduceToNat,aQN,cR,bD,hc1,hc2,hl1,e3,if_true,Kq,aQ9,Option.toList_some,Option.toList_none,aQy,aQv]
set_option maxHeartbeats 4000000 in
theorem U8(a:aE)(h:a.Bd)(hr:a.res=false):EV G (Tb (bs bb)) 129 [a.v] []=some (sv (qO a),[]):=by
 refine aB rfl ?_;obtain⟨hnm,hva,hnl,hvl,hrl,hty,hid,hfl,hfi,hal,hsz,hvd,hlw⟩:=h;have hr':¬ a.res=true:=by rw[hr];decide
 have eh:qN a=40:=by simp[qN,hr]
 have eb:pH a=(xI a.rs).1:=by simp[pH,hr]
 obtain⟨hby,hbl⟩:=E0 a.rs;have q1:=aAF (G:=G) (B:=bs bb) a.rs;have q2:=yO (G:=G) (bb:=bb) a (by omega);simp only[aE.v,aE.c,hr] at q2;have eA:Q4 (40+(a.nm.length:Int))=((cM a:Nat):Int):=by simp only[Q4,cM,eh];omega
 have eN:Q4 (((cM a:Nat):Int)+((xI a.rs).1.length:Int))=((dX a:Nat):Int):=by simp only[Q4,dX,eb];omega
 have hA:40+a.nm.length<=cM a/\cM a<=2000:=by simp only[cM,eh];omega
 have hN:cM a+(xI a.rs).1.length<=dX a/\dX a<=4000:=by simp only[dX,eb];omega
 unfold qO Kp;rw[if_neg hr'];have h6:=B7 a;unfold Ko at h6 ⊢;rw[eh,eb] at *;generalize cM a=A at *;generalize dX a=N at *;generalize (xI a.rs).1=C at *;have hc1:=uB (aT (aT (aT (aT (aT (aT (aT (aT (aT (aT (aT (aT (aT (zl N) 0 a.ty 4) 4 N 4) 9 a.nm.length 1) 10 40 2) 12 a.fl 2) 14 a.id 2) 8 1 1) 16 a.fi 4) 20 (a.fi+gZ a.rs - 1) 4) 24 A 2) 28 a.al 4) 32 a.sz 4) 36 a.vd 4) a.nm 40 (N - 40) hnm (by omega);have hl1:(kH (aT (aT (aT (aT (aT (aT (aT (aT (aT (aT (aT (aT (aT (zl N) 0 a.ty 4) 4 N 4) 9 a.nm.length 1) 10 40 2) 12 a.fl 2) 14 a.id 2) 8 1 1) 16 a.fi 4) 20 (a.fi+gZ a.rs - 1) 4) 24 A 2) 28 a.al 4) 32 a.sz 4) 36 a.vd 4) 40 a.nm).length=N:=by
  rw[fK (by simp only[cR,bD];omega)];simp only[cR,bD]
 have hc2:=uB (kH (aT (aT (aT (aT (aT (aT (aT (aT (aT (aT (aT (aT (aT (zl N) 0 a.ty 4) 4 N 4) 9 a.nm.length 1) 10 40 2) 12 a.fl 2) 14 a.id 2) 8 1 1) 16 a.fi 4) 20 (a.fi+gZ a.rs - 1) 4) 24 A 2) 28 a.al 4) 32 a.sz 4) 36 a.vd 4) 40 a.nm) C A (N - A) hby (by omega);have hl2:=fK (b:=kH (aT (aT (aT (aT (aT (aT (aT (aT (aT (aT (aT (aT (aT (zl N) 0 a.ty 4) 4 N 4) 9 a.nm.length 1) 10 40 2) 12 a.fl 2) 14 a.id 2) 8 1 1) 16 a.fi 4) 20 (a.fi+gZ a.rs - 1) 4) 24 A 2) 28 a.al 4) 32 a.sz 4) 36 a.vd 4) 40 a.nm) (k:=A) (s:=C) (by omega);rw[hl1] at hl2;have e3:(A+(N - A)<=N)=True:=eq_true (by omega);simp (disch:=first | omega | (simp only[aQb,cR,bD]<;>omega)) only[go_sem,h129c,hr,uA,sP,eA,eN,q1,q2,G0,aQb,aGD,aGG,aGF,aGE,Int.reduceToNat,aQN,cR,bD,hc1,hc2,hl1,e3,if_true,Kq,aQ9,Option.toList_some,Option.toList_none,aQy,aQv]
theorem xK(a:aE)(h:a.Bd):EV G (Tb (bs bb)) 129 [a.v] []=some (sv (qO a),[]):=by
 cases hr:a.res with
 | true=>exact U7 a h hr
 | false=>exact U8 a h hr
theorem pI(a:aE)(h:a.Bd):(qO a).length=dX a:=by
 have hbl:(pH a).length<=1000:=by
  unfold pH;split
  ·exact h.vl
  ·have:=(E0 a.rs).2;omega
 have h7:(Kp a).length=dX a:=by
  unfold Kp;split<;>simp only[cR,B7]
 have hA:qN a+a.nm.length<=cM a:=by unfold cM;omega
 have hN:cM a+(pH a).length<=dX a:=by unfold dX;omega
 have h8:(kH (Kp a) (qN a) a.nm).length=dX a:=by rw[fK (by omega),h7]
 rw[qO,fK (by omega),h8]
end
section
variable {G:aH} {bb:Bool}
def G1(a:aE):Int:=if a.rs=[]/\a.fi=0/\a.al=0/\a.sz=0/\a.vd=0 then (if a.va.length > 400 then 8 else 0) else 3
def G2(a:aE):Int:=
 if a.ty∈B4 then 20 else if a.va≠[] then 3 else if ¬(0<=a.fi/\a.fi<=4096) then 2 else if (mU a.rs).2≠0 then (mU a.rs).2
 else if a.fi > 0/\a.rs=[] then 17 else if a.fi+gZ a.rs > 4096 then 8 else if a.fi > 0/\(a.al≠0\/a.sz≠0\/a.vd≠0) then 3
 else if ¬((0<=a.al/\a.al<=1048576)/\(0<=a.sz/\a.sz<=1048576)/\(0<=a.vd/\a.vd<=1048576)) then 2 else if a.vd > a.sz then 9 else 0
def uC(a:aE):Int:=if a.res=true then G1 a else G2 a
def hZ(a:aE):Int:=
 if a.ty∉H3 then 15 else if Nr a.nm=false then 4 else if ¬((0<=a.id/\a.id<=65535)/\(0<=a.fl/\a.fl<=7)) then 2
 else if uC a≠0 then uC a else if dX a > 440 then 16 else 0
structure aE.W (a:aE):Prop where
 nm:aM a.nm
 va:aM a.va
 nl:a.nm.length<=100000
 vl:a.va.length<=100000
 rl:a.rs.length<=100000
theorem rs0(l:List bI):((l.length:Int)=0)=(l=[]):=by
 apply propext;rw[<- List.length_eq_zero_iff];omega
theorem aAM(a:aE):EV G (Tb (bs bb)) 127 [a.v] []=some (vi (G1 a),[]):=by
 refine aB rfl ?_;unfold G1;have e4:((a.va.length:Int)<=400)=(a.va.length<=400):=by apply propext;omega
 by_cases c1:a.rs=[]
 ·by_cases c2:a.fi=0
  ·by_cases c3:a.al=0
   ·by_cases c4:a.sz=0
    ·by_cases c5:a.vd=0
     ·rw[if_pos ⟨c1,c2,c3,c4,c5⟩];by_cases c6:a.va.length<=400
      ·rw[if_neg (by omega)];simp (disch:=omega) only[go_sem,h127c,aQb,rs0,eq_true c1,c2,c3,c4,c5,gF,lW,eq_true c6];rfl
      ·rw[if_pos (by omega)];simp (disch:=omega) only[go_sem,h127c,aQb,rs0,eq_true c1,c2,c3,c4,c5,gF,lW,e4,c6];rfl
     ·rw[if_neg (fun h=>c5 h.2.2.2.2)]
      simp (disch:=omega) only[go_sem,h127c,aQb,rs0,eq_true c1,c2,c3,c4,c5,gF,lW];simp[aS]
    ·rw[if_neg (fun h=>c4 h.2.2.2.1)]
     simp (disch:=omega) only[go_sem,h127c,aQb,rs0,eq_true c1,c2,c3,c4,gF,lW];simp[aS]
   ·rw[if_neg (fun h=>c3 h.2.2.1)]
    simp (disch:=omega) only[go_sem,h127c,aQb,rs0,eq_true c1,c2,c3,gF,lW];simp[aS]
  ·rw[if_neg (fun h=>c2 h.2.1)]
   simp (disch:=omega) only[go_sem,h127c,aQb,rs0,eq_true c1,c2,gF,lW];simp[aS]
 ·rw[if_neg (fun h=>c1 h.1)]
  simp (disch:=omega) only[go_sem,h127c,aQb,rs0,c1,gF,lW];simp[aS]
theorem aP(l:List Int):aS (0::l)=aS l:=rfl
theorem aQ(e:Int)(l:List Int)(h:e≠0):aS (e::l)=e:=by rw[aS,if_neg h]
theorem bJ:aS []=0:=rfl
def un(b:Bool)(e:Int):Int:=if b=true then 0 else e
theorem eI(e:Int):un true e=0:=rfl
theorem fU(e:Int):un false e=e:=rfl
theorem aU(b:Bool)(e:Int):EV G (Tb (bs bb)) 118 [vb b,vi e] []=some (vi (un b e),[]):=gF b e
theorem mA(l:List bI):(0 < (l.length:Int))=(l≠[]):=by
 apply propext;have:=@List.length_eq_zero_iff _ l;constructor
 ·intro h e;rw[this.2 e] at h;omega
 ·intro h;have:l.length≠0:=fun e=>h (this.1 e);omega
def aEX(a:aE):Int:=aS [un (!decide (a.fi > 0)||decide (a.rs≠[])) 17,un (decide (a.fi+gZ a.rs<=4096)) 8,un (!decide (a.fi > 0)||!(decide (a.al≠0)||(decide (a.sz≠0)||decide (a.vd≠0)))) 3,
 un (decide (0<=a.al/\a.al<=1048576)&&(decide (0<=a.sz/\a.sz<=1048576)&&decide (0<=a.vd/\a.vd<=1048576))) 2,un (decide (a.vd<=a.sz)) 9]
theorem B8{b:Bool}{p:Prop}[Decidable p]{e:Int}(h:p↔¬ b=true):un b e=if p then e else 0:=by
 unfold un;by_cases hb:b=true
 ·rw[if_pos hb,if_neg (fun hp=>h.1 hp hb)]
 ·rw[if_neg hb,if_pos (h.2 hb)]
theorem pJ{p:Prop}[Decidable p]{e:Int}{l:List Int}(he:e≠0):aS ((if p then e else 0)::l)=if p then e else aS l:=by
 by_cases h:p
 ·rw[if_pos h,if_pos h,aQ e l he]
 ·rw[if_neg h,if_neg h,aP]
theorem aEY(a:aE):aEX a=if a.fi > 0/\a.rs=[] then 17 else if a.fi+gZ a.rs > 4096 then 8 else if a.fi > 0/\(a.al≠0\/a.sz≠0\/a.vd≠0) then 3
 else if ¬((0<=a.al/\a.al<=1048576)/\(0<=a.sz/\a.sz<=1048576)/\(0<=a.vd/\a.vd<=1048576)) then 2 else if a.vd > a.sz then 9 else 0:=by
 unfold aEX;rw[B8 (p:=a.fi > 0/\a.rs=[]) (by simp),B8 (p:=a.fi+gZ a.rs > 4096) (by simp),B8 (p:=a.fi > 0/\(a.al≠0\/a.sz≠0\/a.vd≠0)) (by simp only[Bool.or_eq_true,aRh,Bool.or_eq_false_iff,decide_eq_true_eq,decide_eq_false_iff_not];omega),
  B8 (p:=¬((0<=a.al/\a.al<=1048576)/\(0<=a.sz/\a.sz<=1048576)/\(0<=a.vd/\a.vd<=1048576))) (by simp only[aQp,decide_eq_true_eq]),B8 (p:=a.vd > a.sz) (by simp)]
 rw[pJ (by decide),pJ (by decide),pJ (by decide),pJ (by decide),pJ (by decide),bJ]
theorem aEZ(a:aE):G2 a=if a.ty∈B4 then 20 else if a.va≠[] then 3 else if ¬(0<=a.fi/\a.fi<=4096) then 2 else if (mU a.rs).2≠0 then (mU a.rs).2 else aEX a:=by
 rw[aEY];rfl
set_option maxHeartbeats 2000000 in
theorem aAN(a:aE)(hW:a.W)(ht:a.ty∈H3):EV G (Tb (bs bb)) 128 [a.v] []=some (vi (G2 a),[]):=by
 refine aB rfl ?_;rw[aEZ];have em:=Kk a.ty;rw[if_pos ht] at em;have ev:=cW hW.va iL;have q1:=Gv (G:=G) (B:=bs bb) a.rs;have q2:=yO (G:=G) (bb:=bb) a (by have:=hW.rl;omega);by_cases c1:a.ty∈B4
 ·rw[if_pos c1];rw[decide_eq_true c1] at em;simp (disch:=omega) only[go_sem,h128c,gB,em,aF,ev,aU,eI,fU,aP,aQ,bJ,bV,bX]
 ·rw[if_neg c1];rw[decide_eq_false c1] at em;by_cases c2:a.va=[]
  ·rw[if_neg (by simpa using c2)];replace c2:=eq_true c2;by_cases c3:0<=a.fi/\a.fi<=4096
   ·rw[if_neg (fun h=>h c3)]
    have c3':=eq_true c3;by_cases c4:(mU a.rs).2=0
    ·rw[if_neg (fun h=>h c4)]
     have hF:=Kd c4;have hl:=zX a.rs (fun r hr=>(hF.el r hr).2.2) (by have:=hF.sum;omega)
     have hl2:=kE a.rs (fun r hr=>(hF.el r hr).2.2)
     have hl3:=hF.sum;rw[<- hl] at hl2 hl3;have fin:∀ L,L=[un (!decide (a.fi > 0)||decide (a.rs≠[])) 17,un (decide (a.fi+gZ a.rs<=4096)) 8,un (!decide (a.fi > 0)||!(decide (a.al≠0)||(decide (a.sz≠0)||decide (a.vd≠0)))) 3,
       un (decide (0<=a.al/\a.al<=1048576)&&(decide (0<=a.sz/\a.sz<=1048576)&&decide (0<=a.vd/\a.vd<=1048576))) 2,un (decide (a.vd<=a.sz)) 9]->aS L=aEX a:=fun L h=>by rw[h];rfl
     by_cases c5:a.fi > 0
     ·by_cases c6:a.al=0
      ·have c8:0<=a.al/\a.al<=1048576:=by omega
       by_cases c7:a.sz=0
       ·have c9:0<=a.sz/\a.sz<=1048576:=by omega
        simp (disch:=omega) only[go_sem,h128c,gB,em,aF,ev,aU,eI,fU,aP,aQ,bJ,bV,bX,c2,c3',q1,c4,eq_true c5,eq_true c6,eq_true c8,eq_true c7,eq_true c9,aQb,mA];simp (disch:=omega) only[go_sem,q2,aU,iK,mA,eI,fU,eq_true c5,eq_true c6,eq_true c8,eq_true c7,eq_true c9];rw[fin _ (by simp[un,c5,c6,c8,c7,c9])]
       ·by_cases c9:0<=a.sz/\a.sz<=1048576
        ·simp (disch:=omega) only[go_sem,h128c,gB,em,aF,ev,aU,eI,fU,aP,aQ,bJ,bV,bX,c2,c3',q1,c4,eq_true c5,eq_true c6,eq_true c8,c7,eq_true c9,aQb,mA];simp (disch:=omega) only[go_sem,q2,aU,iK,mA,eI,fU,eq_true c5,eq_true c6,eq_true c8,c7,eq_true c9];rw[fin _ (by simp[un,c5,c6,c8,c7,c9])]
        ·simp (disch:=omega) only[go_sem,h128c,gB,em,aF,ev,aU,eI,fU,aP,aQ,bJ,bV,bX,c2,c3',q1,c4,eq_true c5,eq_true c6,eq_true c8,c7,c9,aQb,mA];simp (disch:=omega) only[go_sem,q2,aU,iK,mA,eI,fU,eq_true c5,eq_true c6,eq_true c8,c7,c9];rw[fin _ (by simp[un,c5,c6,c8,c7,c9])]
      ·by_cases c8:0<=a.al/\a.al<=1048576
       ·by_cases c9:0<=a.sz/\a.sz<=1048576
        ·simp (disch:=omega) only[go_sem,h128c,gB,em,aF,ev,aU,eI,fU,aP,aQ,bJ,bV,bX,c2,c3',q1,c4,eq_true c5,c6,eq_true c8,eq_true c9,aQb,mA];simp (disch:=omega) only[go_sem,q2,aU,iK,mA,eI,fU,eq_true c5,c6,eq_true c8,eq_true c9];rw[fin _ (by simp[un,c5,c6,c8,c9])]
        ·simp (disch:=omega) only[go_sem,h128c,gB,em,aF,ev,aU,eI,fU,aP,aQ,bJ,bV,bX,c2,c3',q1,c4,eq_true c5,c6,eq_true c8,c9,aQb,mA];simp (disch:=omega) only[go_sem,q2,aU,iK,mA,eI,fU,eq_true c5,c6,eq_true c8,c9];rw[fin _ (by simp[un,c5,c6,c8,c9])]
       ·simp (disch:=omega) only[go_sem,h128c,gB,em,aF,ev,aU,eI,fU,aP,aQ,bJ,bV,bX,c2,c3',q1,c4,eq_true c5,c6,c8,aQb,mA];simp (disch:=omega) only[go_sem,q2,aU,iK,mA,eI,fU,eq_true c5,c6,c8];rw[fin _ (by simp[un,c5,c6,c8])]
     ·by_cases c6:a.al=0
      ·have c8:0<=a.al/\a.al<=1048576:=by omega
       by_cases c7:a.sz=0
       ·have c9:0<=a.sz/\a.sz<=1048576:=by omega
        simp (disch:=omega) only[go_sem,h128c,gB,em,aF,ev,aU,eI,fU,aP,aQ,bJ,bV,bX,c2,c3',q1,c4,c5,eq_true c6,eq_true c8,eq_true c7,eq_true c9,aQb,mA];simp (disch:=omega) only[go_sem,q2,aU,iK,mA,eI,fU,c5,eq_true c6,eq_true c8,eq_true c7,eq_true c9];rw[fin _ (by simp[un,c5,c6,c8,c7,c9])]
       ·by_cases c9:0<=a.sz/\a.sz<=1048576
        ·simp (disch:=omega) only[go_sem,h128c,gB,em,aF,ev,aU,eI,fU,aP,aQ,bJ,bV,bX,c2,c3',q1,c4,c5,eq_true c6,eq_true c8,c7,eq_true c9,aQb,mA];simp (disch:=omega) only[go_sem,q2,aU,iK,mA,eI,fU,c5,eq_true c6,eq_true c8,c7,eq_true c9];rw[fin _ (by simp[un,c5,c6,c8,c7,c9])]
        ·simp (disch:=omega) only[go_sem,h128c,gB,em,aF,ev,aU,eI,fU,aP,aQ,bJ,bV,bX,c2,c3',q1,c4,c5,eq_true c6,eq_true c8,c7,c9,aQb,mA];simp (disch:=omega) only[go_sem,q2,aU,iK,mA,eI,fU,c5,eq_true c6,eq_true c8,c7,c9];rw[fin _ (by simp[un,c5,c6,c8,c7,c9])]
      ·by_cases c8:0<=a.al/\a.al<=1048576
       ·by_cases c9:0<=a.sz/\a.sz<=1048576
        ·simp (disch:=omega) only[go_sem,h128c,gB,em,aF,ev,aU,eI,fU,aP,aQ,bJ,bV,bX,c2,c3',q1,c4,c5,c6,eq_true c8,eq_true c9,aQb,mA];simp (disch:=omega) only[go_sem,q2,aU,iK,mA,eI,fU,c5,c6,eq_true c8,eq_true c9];rw[fin _ (by simp[un,c5,c6,c8,c9])]
        ·simp (disch:=omega) only[go_sem,h128c,gB,em,aF,ev,aU,eI,fU,aP,aQ,bJ,bV,bX,c2,c3',q1,c4,c5,c6,eq_true c8,c9,aQb,mA];simp (disch:=omega) only[go_sem,q2,aU,iK,mA,eI,fU,c5,c6,eq_true c8,c9];rw[fin _ (by simp[un,c5,c6,c8,c9])]
       ·simp (disch:=omega) only[go_sem,h128c,gB,em,aF,ev,aU,eI,fU,aP,aQ,bJ,bV,bX,c2,c3',q1,c4,c5,c6,c8,aQb,mA];simp (disch:=omega) only[go_sem,q2,aU,iK,mA,eI,fU,c5,c6,c8];rw[fin _ (by simp[un,c5,c6,c8])]
    ·rw[if_pos c4];simp (disch:=omega) only[go_sem,h128c,gB,em,aF,ev,aU,eI,fU,aP,aQ,bJ,bV,bX,c2,c3',q1,c4]
   ·rw[if_pos c3];simp (disch:=omega) only[go_sem,h128c,gB,em,aF,ev,aU,eI,fU,aP,aQ,bJ,bV,bX,c2,c3]
  ·rw[if_pos c2];simp (disch:=omega) only[go_sem,h128c,gB,em,aF,ev,aU,eI,fU,aP,aQ,bJ,bV,bX,c2]
end
section
variable {G:aH} {bb:Bool}
theorem G3{n:Int}(h:n∈H3):0<=n/\n<=200:=by
 simp only[H3,List.mem_cons,List.not_mem_nil,or_false] at h;omega
theorem Ac{l:List Int}(h:Nr l=true):l.length<=32:=by
 unfold Nr at h;rcases of_decide_eq_true h with h | h
 ·subst h;simp
 ·exact h.2.1
theorem B9{l:List bI}(h:(mU l).2=0):l.length<=64/\0<=gZ l/\gZ l<=100000000:=by
 have hF:=Kd h;have hl:=zX l (fun r hr=>(hF.el r hr).2.2) (by have:=hF.sum;omega)
 have hl2:=kE l (fun r hr=>(hF.el r hr).2.2)
 have hl3:=hF.sum;exact⟨mL h,by omega,by omega⟩
theorem Ca{a:aE}(h:G2 a=0):a.ty∉B4/\a.va=[]/\(0<=a.fi/\a.fi<=4096)/\(mU a.rs).2=0/\¬(a.fi > 0/\a.rs=[])/\a.fi+gZ a.rs<=4096/\¬(a.fi > 0/\(a.al≠0\/a.sz≠0\/a.vd≠0))/\
  ((0<=a.al/\a.al<=1048576)/\(0<=a.sz/\a.sz<=1048576)/\(0<=a.vd/\a.vd<=1048576))/\a.vd<=a.sz:=by
 unfold G2 at h;split at h
 ·omega
 rename_i h1;split at h
 ·omega
 rename_i h2;split at h
 ·omega
 rename_i h3;split at h
 ·rename_i h4;exact absurd h h4
 rename_i h4;split at h
 ·omega
 rename_i h5;split at h
 ·omega
 rename_i h6;split at h
 ·omega
 rename_i h7;split at h
 ·omega
 rename_i h8;split at h
 ·omega
 rename_i h9;exact⟨h1,Classical.not_not.1 h2,Classical.not_not.1 h3,Classical.not_not.1 h4,h5,by omega,h7,Classical.not_not.1 h8,by omega⟩
theorem G4{a:aE}(h:G1 a=0):a.rs=[]/\a.fi=0/\a.al=0/\a.sz=0/\a.vd=0/\a.va.length<=400:=by
 unfold G1 at h;split at h
 ·rename_i h1;split at h
  ·omega
  ·obtain⟨h1,h2,h3,h4,h5⟩:=h1;exact⟨h1,h2,h3,h4,h5,by omega⟩
 ·omega
theorem aE.bd{a:aE}(hW:a.W)(h1:a.ty∈H3)(h2:Nr a.nm=true)(h3:(0<=a.id/\a.id<=65535)/\(0<=a.fl/\a.fl<=7))(h4:uC a=0):a.Bd:=by
 have g1:=G3 h1;have g2:=Ac h2;unfold uC at h4;split at h4
 ·obtain⟨q1,q2,q3,q4,q5,q6⟩:=G4 h4;have:gZ a.rs=0:=by rw[q1];rfl
  exact⟨hW.nm,hW.va,by omega,by omega,by rw[q1];simp,by omega,by omega,by omega,by omega,by omega,by omega,by omega,by omega⟩
 ·obtain⟨q1,q2,q3,q4,q5,q6,q7,q8,q9⟩:=Ca h4;obtain⟨c1,c2,c3⟩:=B9 q4;exact⟨hW.nm,hW.va,by omega,by rw[q2];simp,by omega,by omega,by omega,by omega,by omega,by omega,by omega,by omega,by omega⟩
theorem vZ(a:aE)(hW:a.W):EV G (Tb (bs bb)) 72 [a.v] []=some (vi (hZ a),[]):=by
 refine aB rfl ?_;have q1:=aAH (G:=G) (bb:=bb) a.ty;have q2:=U6 (G:=G) (bb:=bb) a.nm hW.nm (by have:=hW.nl;omega);unfold hZ;by_cases c1:a.ty∈H3
 ·rw[if_neg (fun h=>h c1)]
  rw[decide_eq_true c1] at q1;cases c2:Nr a.nm with
  | false=>
   rw[c2] at q2;rw[if_pos rfl];by_cases d1:0<=a.id/\a.id<=65535
   ·simp (disch:=omega) only[go_sem,h72c,q1,q2,aU,eI,fU,aP,aQ,bJ,bV,bX,eq_true d1]
   ·simp (disch:=omega) only[go_sem,h72c,q1,q2,aU,eI,fU,aP,aQ,bJ,bV,bX,d1]
  | true=>
   rw[c2] at q2;rw[if_neg (by decide)];by_cases d1:0<=a.id/\a.id<=65535
   ·by_cases d2:0<=a.fl/\a.fl<=7
    ·rw[if_neg (fun h=>h ⟨d1,d2⟩)]
     have hbd:=fun h=>aE.bd hW c1 c2 ⟨d1,d2⟩ h
     have q5 (h):=xK (G:=G) (bb:=bb) a (hbd h);have q6 (h):=pI a (hbd h);cases c3:a.res with
     | true=>
      have q4:=aAM (G:=G) (bb:=bb) a;simp only[uC,c3,if_true] at q5 q6 ⊢;simp only[aE.v,aE.c,c3] at q4 q5;by_cases c4:G1 a=0
      ·have e6:((dX a:Int)<=440)=(dX a<=440):=by apply propext;omega
       by_cases c5:dX a<=440
       ·rw[if_neg (fun h=>h c4),if_neg (by omega)]
        simp (disch:=omega) only[go_sem,h72c,q1,q2,aU,eI,fU,aP,aQ,bJ,bV,bX,eq_true d1,eq_true d2,q4,c4,q5 c4,q6 c4,c3,eq_true c5,e6]
       ·rw[if_neg (fun h=>h c4),if_pos (by omega)]
        simp (disch:=omega) only[go_sem,h72c,q1,q2,aU,eI,fU,aP,aQ,bJ,bV,bX,eq_true d1,eq_true d2,q4,c4,q5 c4,q6 c4,c3,c5,e6]
      ·rw[if_pos c4];simp (disch:=omega) only[go_sem,h72c,q1,q2,aU,eI,fU,aP,aQ,bJ,bV,bX,eq_true d1,eq_true d2,q4,c4,c3]
     | false=>
      have q4:=aAN (G:=G) (bb:=bb) a hW c1;simp only[uC,c3,if_false,aRd] at q5 q6 ⊢;simp only[aE.v,aE.c,c3] at q4 q5;by_cases c4:G2 a=0
      ·have e6:((dX a:Int)<=440)=(dX a<=440):=by apply propext;omega
       by_cases c5:dX a<=440
       ·rw[if_neg (fun h=>h c4),if_neg (by omega)]
        simp (disch:=omega) only[go_sem,h72c,q1,q2,aU,eI,fU,aP,aQ,bJ,bV,bX,eq_true d1,eq_true d2,q4,c4,q5 c4,q6 c4,c3,eq_true c5,e6]
       ·rw[if_neg (fun h=>h c4),if_pos (by omega)]
        simp (disch:=omega) only[go_sem,h72c,q1,q2,aU,eI,fU,aP,aQ,bJ,bV,bX,eq_true d1,eq_true d2,q4,c4,q5 c4,q6 c4,c3,c5,e6]
      ·rw[if_pos c4];simp (disch:=omega) only[go_sem,h72c,q1,q2,aU,eI,fU,aP,aQ,bJ,bV,bX,eq_true d1,eq_true d2,q4,c4,c3]
    ·rw[if_pos (fun h=>d2 h.2)]
     simp (disch:=omega) only[go_sem,h72c,q1,q2,aU,eI,fU,aP,aQ,bJ,bV,bX,eq_true d1,d2]
   ·rw[if_pos (fun h=>d1 h.1)]
    simp (disch:=omega) only[go_sem,h72c,q1,q2,aU,eI,fU,aP,aQ,bJ,bV,bX,d1]
 ·rw[if_pos c1];rw[decide_eq_false c1] at q1;by_cases d1:0<=a.id/\a.id<=65535
  ·simp (disch:=omega) only[go_sem,h72c,q1,q2,aU,eI,fU,aP,aQ,bJ,bV,bX,eq_true d1]
  ·simp (disch:=omega) only[go_sem,h72c,q1,q2,aU,eI,fU,aP,aQ,bJ,bV,bX,d1]
end
section
variable {G:aH} {bb:Bool}
theorem aMD(call:aW)(n:Int):lP call G ⟨[vi n,.junk,vb false,.junk,.junk,.junk],[]⟩ [Oo 4 (.mov (.t 0)),Oo 5 (.call 136 [(.t 3),(.t 4)]),Oo 2 (.mov (.t 5))] (some 3) (.bslc 1 11 [Zi 0] [(0,(Ki 16)),(1,(Ki 32)),(2,(Ki 48)),(3,(Ki 64)),(4,(Ki 96)),(5,(Ki 112)),(6,(Ki 128)),(7,(Ki 144)),(8,(Ki 160)),(9,(Ki 176)),(10,(Ki 192))])=
  some ⟨[vi n,.junk,vb false,vl (el H3),.junk,.junk],[]⟩:=rfl
theorem U9(n:Int):EV G (Tb (bs bb)) 84 [vi n] []=some (vb (decide (n∈H3)),[]):=by
 refine aB rfl ?_;have q:=aGB (G:=G) (B:=bs bb) H3 n (by simp[H3]);simp (disch:=omega) only[go_sem,h84c,↓aMD,q]
theorem Kr(n:Int):EV G (Tb (bs bb)) 138 [vi n] []=some (vb (decide (n∈B4)),[]):=by
 refine aB rfl ?_;have q:=aGB (G:=G) (B:=bs bb) B4 n (by simp[B4]);have e:el B4=[[ci 16],[ci 48],[ci 96],[ci 112],[ci 144]]:=rfl;rw[e] at q;simp (disch:=omega) only[go_sem,h138c,q]
theorem Ns(l:List bI):((l.length:Int) > 0)=(l≠[]):=mA l
theorem Va(a:aE):EV G (Tb (bs bb)) 87 [a.v] []=some (vi (G1 a),[]):=by
 refine aB rfl ?_;unfold G1;by_cases c1:a.rs=[]
 ·have c1':¬ (a.rs≠[]):=fun h=>h c1
  by_cases c2:a.fi=0
  ·by_cases c3:a.al=0
   ·by_cases c4:a.sz=0
    ·by_cases c5:a.vd=0
     ·rw[if_pos ⟨c1,c2,c3,c4,c5⟩];have e4:((a.va.length:Int) > 400)=(a.va.length > 400):=by apply propext;omega
      by_cases c6:a.va.length > 400
      ·rw[if_pos c6];simp (disch:=omega) only[go_sem,h87c,aQb,Ns,c1',c2,c3,c4,c5,e4,eq_true c6]
      ·rw[if_neg c6];simp (disch:=omega) only[go_sem,h87c,aQb,Ns,c1',c2,c3,c4,c5,e4,c6]
     ·rw[if_neg (fun h=>c5 h.2.2.2.2)]
      simp (disch:=omega) only[go_sem,h87c,aQb,Ns,c1',c2,c3,c4,c5]
    ·rw[if_neg (fun h=>c4 h.2.2.2.1)]
     simp (disch:=omega) only[go_sem,h87c,aQb,Ns,c1',c2,c3,c4]
   ·rw[if_neg (fun h=>c3 h.2.2.1)]
    simp (disch:=omega) only[go_sem,h87c,aQb,Ns,c1',c2,c3]
  ·rw[if_neg (fun h=>c2 h.2.1)]
   simp (disch:=omega) only[go_sem,h87c,aQb,Ns,c1',c2]
 ·rw[if_neg (fun h=>c1 h.1)]
  have c1':(a.rs≠[])=True:=eq_true c1;simp (disch:=omega) only[go_sem,h87c,aQb,Ns,c1']
set_option maxHeartbeats 2000000 in
theorem Vb(a:aE)(hW:a.W):EV G (Tb (bs bb)) 86 [a.v] []=some (vi (G2 a),[]):=by
 refine aB rfl ?_;have q0:=Kr (G:=G) (bb:=bb) a.ty;have ev:=cW hW.va iL;have q1:=aAy (G:=G) (B:=bs bb) a.rs;have q2:=vV (G:=G) (B:=bs bb) a.rs (by have:=hW.rl;omega);unfold G2;by_cases c1:a.ty∈B4
 ·rw[if_pos c1];rw[decide_eq_true c1] at q0;simp (disch:=omega) only[go_sem,h86c,q0]
 ·rw[if_neg c1];rw[decide_eq_false c1] at q0;by_cases c2:a.va=[]
  ·rw[if_neg (by simpa using c2)];replace c2:=eq_true c2;by_cases c3:0<=a.fi/\a.fi<=4096
   ·rw[if_neg (fun h=>h c3)]
    have c3':=eq_true c3;by_cases c4:(mU a.rs).2=0
    ·rw[if_neg (fun h=>h c4)]
     obtain⟨g1,g2,g3⟩:=B9 c4;by_cases c5:a.fi > 0/\a.rs=[]
     ·rw[if_pos c5];have d1:=c5.1;simp (disch:=omega) only[go_sem,h86c,q0,aF,ev,c2,bQ,c3',q1,c4,eq_true d1,aQb,rs0,eq_true c5.2]
     ·rw[if_neg c5];by_cases c6:a.fi+gZ a.rs > 4096
      ·rw[if_pos c6];by_cases d1:a.fi > 0
       ·have d2:¬ a.rs=[]:=fun h=>c5 ⟨d1,h⟩
        simp (disch:=omega) only[go_sem,h86c,q0,aF,ev,c2,bQ,c3',q1,c4,eq_true d1,aQb,rs0,d2,q2,eq_true c6]
       ·simp (disch:=omega) only[go_sem,h86c,q0,aF,ev,c2,bQ,c3',q1,c4,d1,q2,eq_true c6]
      ·rw[if_neg c6];by_cases d1:a.fi > 0
       ·have d2:¬ a.rs=[]:=fun h=>c5 ⟨d1,h⟩
        by_cases c7:a.al=0
        ·by_cases c8:a.sz=0
         ·by_cases c9:a.vd=0
          ·rw[if_neg (fun h=>by obtain⟨_,h⟩:=h;omega),if_neg (fun h=>h (by omega)),if_neg (by omega)]
           have d3:=eq_true (show 0<=a.al/\a.al<=1048576 by omega);have d4:=eq_true (show 0<=a.sz/\a.sz<=1048576 by omega);have d5:=eq_true (show 0<=a.vd/\a.vd<=1048576 by omega);have d6:¬ a.vd > a.sz:=by omega
           simp (disch:=omega) only[go_sem,h86c,q0,aF,ev,c2,bQ,c3',q1,c4,eq_true d1,aQb,rs0,d2,q2,c6,eq_true c7,eq_true c8,eq_true c9,d3,d4,d5,d6]
          ·rw[if_pos ⟨d1,.inr (.inr c9)⟩];simp (disch:=omega) only[go_sem,h86c,q0,aF,ev,c2,bQ,c3',q1,c4,eq_true d1,aQb,rs0,d2,q2,c6,eq_true c7,eq_true c8,c9]
         ·rw[if_pos ⟨d1,.inr (.inl c8)⟩];simp (disch:=omega) only[go_sem,h86c,q0,aF,ev,c2,bQ,c3',q1,c4,eq_true d1,aQb,rs0,d2,q2,c6,eq_true c7,c8]
        ·rw[if_pos ⟨d1,.inl c7⟩];simp (disch:=omega) only[go_sem,h86c,q0,aF,ev,c2,bQ,c3',q1,c4,eq_true d1,aQb,rs0,d2,q2,c6,c7]
       ·rw[if_neg (fun h=>d1 h.1)]
        by_cases d3:0<=a.al/\a.al<=1048576
        ·by_cases d4:0<=a.sz/\a.sz<=1048576
         ·by_cases d5:0<=a.vd/\a.vd<=1048576
          ·rw[if_neg (fun h=>h ⟨d3,d4,d5⟩)]
           by_cases d6:a.vd > a.sz
           ·rw[if_pos d6];simp (disch:=omega) only[go_sem,h86c,q0,aF,ev,c2,bQ,c3',q1,c4,d1,q2,c6,eq_true d3,eq_true d4,eq_true d5,eq_true d6]
           ·rw[if_neg d6];simp (disch:=omega) only[go_sem,h86c,q0,aF,ev,c2,bQ,c3',q1,c4,d1,q2,c6,eq_true d3,eq_true d4,eq_true d5,d6]
          ·rw[if_pos (fun h=>d5 h.2.2)]
           simp (disch:=omega) only[go_sem,h86c,q0,aF,ev,c2,bQ,c3',q1,c4,d1,q2,c6,eq_true d3,eq_true d4,d5]
         ·rw[if_pos (fun h=>d4 h.2.1)]
          simp (disch:=omega) only[go_sem,h86c,q0,aF,ev,c2,bQ,c3',q1,c4,d1,q2,c6,eq_true d3,d4]
        ·rw[if_pos (fun h=>d3 h.1)]
         simp (disch:=omega) only[go_sem,h86c,q0,aF,ev,c2,bQ,c3',q1,c4,d1,q2,c6,d3]
    ·rw[if_pos c4];simp (disch:=omega) only[go_sem,h86c,q0,aF,ev,c2,bQ,c3',q1,c4]
   ·rw[if_pos c3];simp (disch:=omega) only[go_sem,h86c,q0,aF,ev,c2,bQ,c3]
  ·rw[if_pos c2];simp (disch:=omega) only[go_sem,h86c,q0,aF,ev,c2]
theorem aE0(n m:Int)(hm:0 < m/\m<=4611686018427387904)(hn:-4611686018427387904<=n/\n<=4611686018427387904):EV G (Tb (bs bb)) 141 [vi n,vi m] []=some (vi (n / m),[]):=by
 refine aB rfl ?_;have h1:n.tdiv m=n / m+(if n.tmod m < 0 then 1 else 0):=by
  have e1:=Int.tmod_add_mul_tdiv n m;have e2:=Int.emod_add_mul_ediv n m;have e3:=aMv n m hm.1;have e4:m * (n.tdiv m - n / m)=n % m - n.tmod m:=by rw[Int.mul_sub];omega
  split at e3
  ·rename_i hc;rw[if_pos hc];have:m * (n.tdiv m - n / m)=m * 1:=by omega
   have:=Int.eq_of_mul_eq_mul_left (by omega) this;omega
  ·rename_i hc;rw[if_neg hc];have:m * (n.tdiv m - n / m)=m * 0:=by omega
   have:=Int.eq_of_mul_eq_mul_left (by omega) this;omega
 have h2:-4611686018427387904<=n / m/\n / m<=4611686018427387904:=by
  constructor
  ·by_cases h0:0<=n
   ·have:=Int.ediv_nonneg h0 (show 0<=m by omega);omega
   ·have h3:n * m<=n:=by
     have:=Int.mul_nonpos_of_nonpos_of_nonneg (show n<=0 by omega) (show 0<=m - 1 by omega);rw[Int.mul_sub,Int.mul_one] at this;omega
    have:=Int.le_ediv_of_mul_le hm.1 h3;omega
  ·by_cases h0:0<=n
   ·have:=Int.ediv_le_self m h0;omega
   ·have:=Int.ediv_neg_of_neg_of_pos (by omega:n < 0) hm.1;omega
 by_cases c:n.tmod m < 0
 ·rw[if_pos c] at h1;have h3:n.tdiv m - 1=n / m:=by omega
  simp (disch:=omega) only[go_sem,h141c,h1,c];simp
 ·rw[if_neg c] at h1;have h3:n.tdiv m=n / m:=by omega
  simp (disch:=omega) only[go_sem,h141c,h3,c]
theorem aI5(n m:Int)(hm:0 < m/\m<=4611686018427387904)(hn:-4611686018427387904<=n/\n<=4611686018427387904)(hq:-4611686018427387904<=-n / m/\-n / m<=4611686018427387904):EV G (Tb (bs bb)) 89 [vi n,vi m] []=some (vi (-(-n / m)),[]):=by
 refine aB rfl ?_;have q:=aE0 (G:=G) (bb:=bb) (-n) m hm (by omega);rw[show -n=0 - n by omega] at q hq ⊢;have e:0 - (0 - n) / m=-((0 - n) / m):=by omega
 simp (disch:=omega) only[go_sem,h89c,q,e]
end
end Go.Proofs.YtcplecjhmnblpaaGreatDoor
