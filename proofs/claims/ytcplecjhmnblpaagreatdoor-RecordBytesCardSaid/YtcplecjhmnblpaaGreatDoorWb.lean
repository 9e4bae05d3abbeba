/- Where a key is; AttributeOrder returns true, by its contract. Conditions: none. -/
import Derived.Test.YtcplecjhmnblpaaGreatDoorTx
import Derived.Test.YtcplecjhmnblpaaGreatDoorUy
import Derived.Test.YtcplecjhmnblpaaGreatDoorUw
namespace Go.Proofs.YtcplecjhmnblpaaGreatDoor
set_option linter.unusedSimpArgs false
set_option linter.unusedVariables false
set_option maxRecDepth 4000
section
variable {G:aH} {bb:Bool}
theorem wK:∀ (a b:List bI) (last:Int),dE last (a++b)=dE last a++dE (a.foldl Ah last) b
 | [],_,_=>rfl
 | r::a,b,last=>by rw[aQy,dE,wK a b,dE,aQs];rfl
theorem aBt(last:Int)(r:bI):(qP last r % 16+qP last r / 16).toNat=(wI last r).length:=by
 have s1:=rW r.n;have s2:=rW (r.s - last);unfold qP wI;split
 ·rw[aA];omega
 ·rw[aQc,aA,aA];omega
theorem Fd(p L:List Int):(p++L).getD p.length 0=L.getD 0 0:=by
 rw[aQl,aQl,aQA (aQf _),aQZ]
theorem Hm(l:List bI)(rest:List Int):∀ k,k<=l.length->wV (dE 0 l++([0]++rest)) k=(dE 0 (l.take k)).length/\∀ j,j < k->(dE 0 l++([0]++rest)).getD (wV (dE 0 l++([0]++rest)) j) 0≠0
 | 0,_=>⟨rfl,fun j hj=>by omega⟩
 | k+1,hk=>by
  obtain⟨h1,h2⟩:=Hm l rest k (by omega);have hkl:k < l.length:=by omega
  have e1:l=l.take k++(l[k]::l.drop (k+1)):=by rw[<- aQ1 hkl,aRy]
  have e2:dE 0 l=dE 0 (l.take k)++(qP ((l.take k).foldl Ah 0) l[k]::(wI ((l.take k).foldl Ah 0) l[k]++dE (Ah ((l.take k).foldl Ah 0) l[k]) (l.drop (k+1)))):=by
   conv=>lhs;rw[e1]
   rw[wK,dE,qG];rfl
  have e3:(dE 0 l++([0]++rest)).getD (wV (dE 0 l++([0]++rest)) k) 0=qP ((l.take k).foldl Ah 0) l[k]:=by
   rw[h1]
   conv=>lhs;rw[e2]
   rw[aQs,Fd];rfl
  refine⟨?_,fun j hj=>?_⟩
  ·rw[wV,e3,aBt,h1,aRb hkl,wK,aQc];show _=_+(dE _ [l[k]]).length;simp only[dE,qG,aQ6,aQd];omega
  ·by_cases c:j < k
   ·exact h2 j c
   ·have:j=k:=by omega
    subst this;rw[e3];exact He _ _
theorem aFk(l:List bI)(rest:List Int):raV ((iJ l).1++[0]++rest)=(iJ l).1++[0]:=by
 rw[Ct,aQs];obtain⟨h1,h2⟩:=Hm l rest l.length (aQf _);rw[aQR] at h1;have hg:=Od (dE 0 l++([0]++rest)) l.length;have hlen:(dE 0 l++([0]++rest)).length=(dE 0 l).length+1+rest.length:=by simp only[aQc,aQd,aQe];omega
 have hz:(dE 0 l++([0]++rest)).getD (dE 0 l).length 0=0:=by rw[Fd];rfl
 have hm:∀ j,j<=l.length->wV (dE 0 l++([0]++rest)) j < (dE 0 l++([0]++rest)).length:=fun j hj=>by
  have h3:=(Hm l rest j hj).1;have:(dE 0 (l.take j)).length<=(dE 0 l).length:=by
   conv=>rhs;rw[<- aRy j l,wK,aQc]
   omega
  omega
 have hE:raE (dE 0 l++([0]++rest))=l.length:=by
  unfold raE;refine Rm (by omega) (.inr (by rw[h1];exact hz)) (fun j hj g=>?_)
  rcases g with g | g
  ·have:=hm j (by omega);omega
  ·exact h2 j hj g
 unfold raV;rw[hE,if_pos (hm _ (aQf _)),h1];rw[<- aQs,aRo (by simp)]
theorem mX(p L:List Int)(k:Nat)(h:p.length<=k):(p++L).drop k=L.drop (k - p.length):=by
 rw[List.drop_append,List.drop_of_length_le h,aQv]
theorem Ai(L:List Int)(k:Nat)(h:k=0):L.drop k=L:=by subst h;rfl
theorem Rr(s:List Int)(k:Nat)(h:k < s.length):s.getD k 0=gL s k 1:=by
 rw[eY s k h];unfold gL;rw[aQ1 h,aRx,aRq];show s[k]=s[k]+256 * 0;omega
theorem nM(z L:List Int)(a k:Nat)(ha:a=0)(h:z.length=k):gL (z++L) a k=gv z:=by subst ha;exact Hi z L k h
theorem shT{a:aE}(h:a.Dc)(hr:a.res=true):fW a=bU a.ty 4++(bU (dX a) 4++(bU 0 1++(bU a.nm.length 1++(bU 24 2++(bU a.fl 2++(bU a.id 2++(bU a.va.length 4++(bU (cM a) 4++(a.nm++(List.replicate (cM a - 24 - a.nm.length) 0++(a.va++List.replicate (dX a - cM a - a.va.length) 0))))))))))):=by
 obtain⟨o1,o2,o3,o4,o5⟩:=yQ a;have eh:qN a=24:=by simp[qN,hr]
 have ebd:pH a=a.va:=by simp[pH,hr]
 have hb:=rY h;rw[eh] at o2;rw[ebd] at o3 o5;unfold fW rV Dw tB rU;rw[if_pos hr,if_pos hr,eh,hb,ebd];simp only[aQs];simp only[aQc,aA,aQk];have e3:=aBn (1+(1+(2+(2+(2+(4+(4+(a.nm.length+((cM a - 24 - a.nm.length)+a.va.length))))))))) (dX a) (dX a - cM a - a.va.length) (by omega) o4 (by omega);rw[e3];rfl
theorem shF{a:aE}(h:a.Dc)(hr:a.res=false):fW a=bU a.ty 4++(bU (dX a) 4++(bU 1 1++(bU a.nm.length 1++(bU 40 2++(bU a.fl 2++(bU a.id 2++(bU a.fi 4++(bU (a.fi+gZ a.rs - 1) 4++(bU (cM a) 2++(List.replicate 2 0++(bU a.al 4++(bU a.sz 4++(bU a.vd 4++(a.nm++(List.replicate (cM a - 40 - a.nm.length) 0++(((iJ a.rs).1++[0])++List.replicate (dX a - cM a - (pH a).length) 0)))))))))))))))):=by
 obtain⟨o1,o2,o3,o4,o5⟩:=yQ a;have hr':¬ a.res=true:=by rw[hr];decide
 have eh:qN a=40:=by simp[qN,hr]
 have hb:=rY h;have ef:Ks a=(iJ a.rs).1++[0]:=by rw[Ks,if_neg hr']
 rw[<- hb,ef] at o3 o5 ⊢;rw[eh] at o2;unfold fW rV Dw tB rU;rw[if_neg hr',if_neg hr',eh,ef,Rn];simp only[aQs];simp only[aQc,aA,aQk] at o3 o5 ⊢;have e3:=aBn (1+(1+(2+(2+(2+(4+(4+(2+(2+(4+(4+(4+(a.nm.length+((cM a - 40 - a.nm.length)+((iJ a.rs).1.length+[(0:Int)].length))))))))))))))) (dX a) (dX a - cM a - ((iJ a.rs).1.length+[(0:Int)].length)) (by omega) o4 (by omega);rw[e3];rfl
theorem aMX{a:aE}(h:a.Dc)(hr:a.res=true):uF (fW a)=true/\dO (fW a)=cM a/\oQ (fW a)=a.nm.length/\H4 (fW a)=a.va.length/\(fW a).getD 8 0=0/\dT (fW a)=a/\(fW a).length=dX a/\24+a.nm.length<=cM a/\cM a+a.va.length<=dX a:=by
 obtain⟨o1,o2,o3,o4,o5⟩:=yQ a;have eh:qN a=24:=by simp[qN,hr]
 have ebd:pH a=a.va:=by simp[pH,hr]
 rw[eh] at o2;rw[ebd] at o3 o5;have hlen:(fW a).length=dX a:=by rw[<- rZ h,pI a h.bd]
 have hty:=h.ty;have hnl:=h.nl;have hid:=h.id;have hfl:=h.fl;have hvl:=h.vl;have hS:=shT h hr;have r8:gL (fW a) 8 1=0:=by
  rw[hS];simp (disch:=first | omega | (simp only[aA]<;>omega) | fail) only[gJ,nM,aA,Nat.reduceSub]
  rfl
 have r9:gL (fW a) 9 1=a.nm.length:=by
  rw[hS];simp (disch:=first | omega | (simp only[aA]<;>omega) | fail) only[gJ,nM,aA,Nat.reduceSub]
  exact gv1 _ (by omega)
 have r0:gL (fW a) 0 4=a.ty:=by
  rw[hS];simp (disch:=first | omega | (simp only[aA]<;>omega) | fail) only[gJ,nM,aA,Nat.reduceSub]
  exact Wf _ hty
 have r12:gL (fW a) 12 2=a.fl:=by
  rw[hS];simp (disch:=first | omega | (simp only[aA]<;>omega) | fail) only[gJ,nM,aA,Nat.reduceSub]
  exact gv2 _ hfl
 have r14:gL (fW a) 14 2=a.id:=by
  rw[hS];simp (disch:=first | omega | (simp only[aA]<;>omega) | fail) only[gJ,nM,aA,Nat.reduceSub]
  exact gv2 _ hid
 have r16:gL (fW a) 16 4=a.va.length:=by
  rw[hS];simp (disch:=first | omega | (simp only[aA]<;>omega) | fail) only[gJ,nM,aA,Nat.reduceSub]
  exact Wf _ (by omega)
 have rd24:(fW a).drop 24=a.nm++(List.replicate (cM a - 24 - a.nm.length) 0++(a.va++List.replicate (dX a - cM a - a.va.length) 0)):=by
  rw[hS];simp (disch:=first | omega | (simp only[aA]<;>omega) | fail) only[mX,Ai,aA,Nat.reduceSub]
 have rda:(fW a).drop (cM a)=a.va++List.replicate (dX a - cM a - a.va.length) 0:=by
  have e:(fW a).drop (cM a)=((fW a).drop 24).drop (cM a - 24):=by rw[aRt];congr 1;omega
  rw[e,rd24,mX _ _ _ (by omega),mX _ _ _ (by rw[aQk];omega),Ai _ _ (by rw[aQk];omega)]
 have g8:(fW a).getD 8 0=0:=by rw[Rr _ _ (by omega),r8]
 have eR:uF (fW a)=true:=by unfold uF;rw[g8];rfl
 have eH:Fb (fW a)=24:=by unfold Fb;rw[eR];rfl
 have eS:oQ (fW a)=a.nm.length:=by unfold oQ;omega
 have eA:dO (fW a)=cM a:=by unfold dO;rw[eH,eS];unfold cM;rw[eh]
 have eV:H4 (fW a)=a.va.length:=by unfold H4;omega
 have eN:Hj (fW a)=a.nm:=by unfold Hj;rw[eH,eS,List.drop_take,rd24,show 24+a.nm.length - 24=a.nm.length by omega,aRo];rfl
 refine⟨eR,eA,eS,eV,g8, ?_,hlen,o2,o3⟩;obtain⟨t1,t2,t3,t4,t5⟩:=h.t hr;unfold dT;rw[eN,eA,eV,r0,r12,r14,List.drop_take,rda,show cM a+a.va.length - cM a=a.va.length by omega,aRo rfl];cases a;simp only at hr t1 t2 t3 t4 t5;subst hr;subst t1;subst t2;subst t3;subst t4;subst t5;rfl
theorem aMY{a:aE}(h:a.Dc)(hr:a.res=false):uF (fW a)=false/\dO (fW a)=cM a/\oQ (fW a)=a.nm.length/\(fW a).getD 8 0=1/\dF (fW a) a.rs=a/\(fW a).drop (cM a)=((iJ a.rs).1++[0])++List.replicate (dX a - cM a - (pH a).length) 0/\
  (fW a).length=dX a/\40+a.nm.length<=cM a/\cM a+((iJ a.rs).1.length+1)<=dX a:=by
 obtain⟨o1,o2,o3,o4,o5⟩:=yQ a;have eh:qN a=40:=by simp[qN,hr]
 have hb:=rY h;have ef:Ks a=(iJ a.rs).1++[0]:=by rw[Ks,if_neg (by rw[hr];decide)]
 have hbl:(pH a).length=(iJ a.rs).1.length+1:=by rw[<- hb,ef];simp
 rw[eh] at o2;have hlen:(fW a).length=dX a:=by rw[<- rZ h,pI a h.bd]
 have hty:=h.ty;have hnl:=h.nl;have hid:=h.id;have hfl:=h.fl;obtain⟨f1,f2,f3,f4,f5,f6⟩:=h.f hr;have hS:=shF h hr;have r8:gL (fW a) 8 1=1:=by
  rw[hS];simp (disch:=first | omega | (simp only[aA,aQk]<;>omega) | fail) only[gJ,nM,aA,aQk,Nat.reduceSub]
  rfl
 have r9:gL (fW a) 9 1=a.nm.length:=by
  rw[hS];simp (disch:=first | omega | (simp only[aA,aQk]<;>omega) | fail) only[gJ,nM,aA,aQk,Nat.reduceSub]
  exact gv1 _ (by omega)
 have r0:gL (fW a) 0 4=a.ty:=by
  rw[hS];simp (disch:=first | omega | (simp only[aA,aQk]<;>omega) | fail) only[gJ,nM,aA,aQk,Nat.reduceSub]
  exact Wf _ hty
 have r12:gL (fW a) 12 2=a.fl:=by
  rw[hS];simp (disch:=first | omega | (simp only[aA,aQk]<;>omega) | fail) only[gJ,nM,aA,aQk,Nat.reduceSub]
  exact gv2 _ hfl
 have r14:gL (fW a) 14 2=a.id:=by
  rw[hS];simp (disch:=first | omega | (simp only[aA,aQk]<;>omega) | fail) only[gJ,nM,aA,aQk,Nat.reduceSub]
  exact gv2 _ hid
 have r16:gL (fW a) 16 4=a.fi:=by
  rw[hS];simp (disch:=first | omega | (simp only[aA,aQk]<;>omega) | fail) only[gJ,nM,aA,aQk,Nat.reduceSub]
  exact Wf _ f3
 have r28:gL (fW a) 28 4=a.al:=by
  rw[hS];simp (disch:=first | omega | (simp only[aA,aQk]<;>omega) | fail) only[gJ,nM,aA,aQk,Nat.reduceSub]
  exact Wf _ f4
 have r32:gL (fW a) 32 4=a.sz:=by
  rw[hS];simp (disch:=first | omega | (simp only[aA,aQk]<;>omega) | fail) only[gJ,nM,aA,aQk,Nat.reduceSub]
  exact Wf _ f5
 have r36:gL (fW a) 36 4=a.vd:=by
  rw[hS];simp (disch:=first | omega | (simp only[aA,aQk]<;>omega) | fail) only[gJ,nM,aA,aQk,Nat.reduceSub]
  exact Wf _ f6
 have rd40:(fW a).drop 40=a.nm++(List.replicate (cM a - 40 - a.nm.length) 0++(((iJ a.rs).1++[0])++List.replicate (dX a - cM a - (pH a).length) 0)):=by
  rw[hS];simp (disch:=first | omega | (simp only[aA,aQk]<;>omega) | fail) only[mX,Ai,aA,aQk,Nat.reduceSub]
 have rda:(fW a).drop (cM a)=((iJ a.rs).1++[0])++List.replicate (dX a - cM a - (pH a).length) 0:=by
  have e:(fW a).drop (cM a)=((fW a).drop 40).drop (cM a - 40):=by rw[aRt];congr 1;omega
  rw[e,rd40,mX _ _ _ (by omega),mX _ _ _ (by rw[aQk];omega),Ai _ _ (by rw[aQk];omega)]
 have g8:(fW a).getD 8 0=1:=by rw[Rr _ _ (by omega),r8]
 have eR:uF (fW a)=false:=by unfold uF;rw[g8];rfl
 have eH:Fb (fW a)=40:=by unfold Fb;rw[eR];rfl
 have eS:oQ (fW a)=a.nm.length:=by unfold oQ;omega
 have eA:dO (fW a)=cM a:=by unfold dO;rw[eH,eS];unfold cM;rw[eh]
 have eN:Hj (fW a)=a.nm:=by unfold Hj;rw[eH,eS,List.drop_take,rd40,show 40+a.nm.length - 40=a.nm.length by omega,aRo];rfl
 refine⟨eR,eA,eS,g8, ?_,rda,hlen,o2,by omega⟩;unfold dF;rw[eN,r0,r12,r14,r16,r28,r32,r36];cases a;simp only at hr f1;subst hr;subst f1;rfl
theorem Le{a:aE}(h:a.Dc):oR (fW a)=(a,true):=by
 cases hr:a.res with
 | true=>
  obtain⟨e1,e2,e3,e4,e5,e6,e7,e8,e9⟩:=aMX h hr;unfold oR;rw[if_neg (by omega),e2,if_neg (by omega),if_pos e1,e4,if_neg (by omega),e6]
 | false=>
  obtain⟨e1,e2,e3,e4,e5,e6,e7,e8,e9⟩:=aMY h hr;have hc:=(h.f hr).2.1;unfold oR;rw[if_neg (by omega),e2,if_neg (by omega),if_neg (by rw[e1];decide),e6,aFk,Hf hc,e5];rfl
theorem aBu{a:aE}(h:a.Dc)(hl:(fW a).length<=440):Cy (fW a)=Lc a (fW a):=by
 unfold Cy;rw[if_neg (by omega)];cases hr:a.res with
 | true=>
  obtain⟨e1,e2,e3,e4,e5,e6,e7,e8,e9⟩:=aMX h hr;have eH:Fb (fW a)=24:=by unfold Fb;rw[e1];rfl
  have nb:¬ Vn (fW a):=by
   unfold Vn;rw[e5];omega
  rw[if_neg nb,eH,e3,if_neg (by omega),e2,if_neg (by omega),if_pos e1,e4,if_neg (by omega),e6]
 | false=>
  obtain⟨e1,e2,e3,e4,e5,e6,e7,e8,e9⟩:=aMY h hr;have hc:=(h.f hr).2.1;have eH:Fb (fW a)=40:=by unfold Fb;rw[e1];rfl
  have nb:¬ Vn (fW a):=by
   unfold Vn;rw[e4];omega
  have hcut:∀ j,((fW a).take (dO (fW a)+j)).drop (dO (fW a))=(((iJ a.rs).1++[0])++List.replicate (dX a - cM a - (pH a).length) 0).take j:=fun j=>by
   rw[List.drop_take,e2,e6];congr 1;omega
  have hfull:(((iJ a.rs).1++[0])++List.replicate (dX a - cM a - (pH a).length) 0).take ((iJ a.rs).1.length+1)=(iJ a.rs).1++[0]:=aRo (by simp);have eJ:uG (fW a)=(iJ a.rs).1.length+1:=by
   unfold uG;refine Rm (by rw[e2];omega) ?_ (fun j hj g=>?_)
   ·rw[hcut,hfull,Hf hc]
   ·rw[hcut,aRK (by simp;omega)] at g;exact aJk hc j hj g
  have eRs:Wg (fW a)=a.rs:=by
   unfold Wg;rw[eJ,hcut,hfull,Hf hc]
  rw[if_neg nb,eH,e3,if_neg (by omega),e2,if_neg (by omega),if_neg (by rw[e1];decide),eJ,if_neg (by omega),eRs,e5]
theorem aJo{s:List Int}(hB:aM s)(hl:s.length<=1000):bH s=Cy s:=by
 by_cases c0:s.length > 440
 ·unfold bH Cy;rw[if_pos c0,if_pos c0]
 by_cases cA:(oR s).2=true/\qO (oR s).1=s
 ·have hd:=Hk hB hl cA.1;have e1:=rZ hd;have e2:=aBu hd (by rw[<- e1,cA.2];omega);rw[<- e1,cA.2] at e2;rw[e2];unfold bH Lc;rw[if_neg c0,if_neg (fun g=>g.elim (fun g=>by rw[cA.1] at g;cases g) (fun g=>g cA.2)),if_neg (show ¬ fW (oR s).1≠s from fun g=>g (by rw[<- e1];exact cA.2))]
 ·have hP:bH s=(aE.nil,3):=by
   unfold bH;rw[if_neg c0,if_pos];by_cases c1:(oR s).2=true
   ·exact .inr (fun g=>cA ⟨c1,g⟩)
   ·exact .inl (by simpa using c1)
  have hx:∀ x:aE,x.Dc->Lc x s=(aE.nil,3):=fun x hx=>by
   unfold Lc;rw[if_pos];intro g;have e:=Le hx;rw[g] at e;exact cA ⟨by rw[e],by rw[e];show qO x=s;rw[rZ hx,g]⟩
  rw[hP];unfold Cy;rw[if_neg c0];split
  ·rfl
  ·split
   ·rfl
   ·split
    ·rfl
    ·split
     ·split
      ·rfl
      ·exact (hx _ (aGM hB hl)).symm
     ·split
      ·rfl
      ·rename_i jn;have hch:(mU (Wg s)).2=0:=by
        obtain⟨j1,j2,j3⟩:=bW (fun j=>(lY ((s.take (dO s+j)).drop (dO s))).2=0) (s.length - dO s+1)
        exact Cw (j2.elim (fun h=>absurd h jn) (fun h=>h.2))
       exact (hx _ (aGN hB hch)).symm
end
section
variable {G:aH} {bb:Bool}
set_option maxHeartbeats 8000000 in
theorem Oe(s:List Int)(hB:aM s)(hl:s.length<=1000):EV G (Tb (bs bb)) 108 [sv s] []=some (rtv (Cy s),[]):=by
 refine aB rfl ?_;unfold Cy;by_cases c0:s.length > 440
 ·rw[if_pos c0];have c0':440 < (s.length:Int):=by omega
  simp only[aE.nil];simp (disch:=first | omega | (simp only[aQc,aQd,aQe,aQb,aA];omega)) only[go_sem,h108c,eq_true c0',aF,aQn]
  rfl
 rw[if_neg c0];have c0':¬ 440 < (s.length:Int):=by omega
 by_cases c1:s.length < 24
 ·rw[if_pos (.inl c1)];have c1':(s.length:Int) < 24:=by omega
  simp only[aE.nil];simp (disch:=first | omega | (simp only[aQc,aQd,aQe,aQb,aA];omega)) only[go_sem,h108c,c0',eq_true c1',aF,aQn]
  rfl
 have c1':¬ (s.length:Int) < 24:=by omega
 have hx:=hB _ (aQm (show 8 < s.length by omega));have hu:=jJ _ hx;have e8:s.getD 8 0=s[8]:=eY s 8 (by omega);have hx9:=hB _ (aQm (show 9 < s.length by omega));have hu9:=jJ _ hx9;have b9:=Hh hB 9;have e9:s[9]=(oQ s:Int):=by
  have:gL s 9 1=s[9]:=by
   unfold gL;rw[aQ1 (by omega),aRx,aRq];show s[9]+256 * 0=s[9];omega
  unfold oQ;omega
 rw[e9] at hu9 hx9;by_cases c2:1 < s[8]
 ·rw[if_pos (.inr (.inl (by rw[e8];exact c2)))];simp only[aE.nil];simp (disch:=first | omega | (simp only[aQc,aQd,aQe,aQb,aA];omega)) only[go_sem,h108c,c0',c1',aF,aQn,Int.reduceToNat,aQw,hu,eq_true c2]
  rfl
 by_cases c3:s[8]=1/\s.length < 40
 ·rw[if_pos (.inr (.inr (by rw[e8];exact c3)))];obtain⟨c3,c4⟩:=c3;have c4':(s.length:Int) < 40:=by omega
  rw[c3] at hu;simp only[aE.nil];simp (disch:=first | omega | (simp only[aQc,aQd,aQe,aQb,aA];omega)) only[go_sem,h108c,c0',c1',aF,aQn,Int.reduceToNat,aQw,hu,c3,eq_true c4',Int.lt_irrefl]
  rfl
 have nb:¬ Vn s:=by
  intro h;rcases h with h | h | h
  ·exact c1 h
  ·rw[e8] at h;exact c2 h
  ·rw[e8] at h;exact c3 h
 rw[if_neg nb];have g0:EV G (Tb (bs bb)) 57 [sv s,vi 0,vi 4] []=some (vi (gL s 0 4),[]):=cK s hB 0 4 (by omega) (by omega) (by omega);have g14:EV G (Tb (bs bb)) 57 [sv s,vi 14,vi 2] []=some (vi (gL s 14 2),[]):=cK s hB 14 2 (by omega) (by omega) (by omega);have g12:EV G (Tb (bs bb)) 57 [sv s,vi 12,vi 2] []=some (vi (gL s 12 2),[]):=cK s hB 12 2 (by omega) (by omega) (by omega);have g16:EV G (Tb (bs bb)) 57 [sv s,vi 16,vi 4] []=some (vi (gL s 16 4),[]):=cK s hB 16 4 (by omega) (by omega) (by omega);have b16:=lE hB 16 4 (by omega);cases hr:uF s with
 | true=>
  have hr8:s[8]=0:=by unfold uF at hr;rw[e8] at hr;simpa using hr
  rw[hr8] at hu;have eh:Fb s=24:=by unfold Fb;rw[hr];rfl
  have e16:gL s 16 4=(H4 s:Int):=by unfold H4;omega
  have eA:dO s=(24+oQ s+7) / 8 * 8:=by unfold dO;rw[eh]
  have q1:=kS (G:=G) (bb:=bb) (24+oQ s) (by omega);rw[aQ0,show ((24:Nat):Int)=24 from rfl] at q1
  have eA':(8:Int) * (((24+oQ s+7) / 8:Nat):Int)=((dO s:Nat):Int):=by omega
  rw[eh];rw[e16] at g16 b16;by_cases d1:s.length < 24+oQ s
  ·rw[if_pos d1];have d1':(s.length:Int) < 24+(oQ s:Int):=by omega
   simp only[aE.nil];simp (disch:=first | omega | (simp only[aQc,aQd,aQe,aQb,aA];omega)) only[go_sem,h108c,c0',c1',aF,aQn,Int.reduceToNat,aQw,hu,hr8,e9,hu9,g0,g14,g12,eq_true d1',Int.reduceLT]
   rfl
  rw[if_neg d1];have d1':¬ (s.length:Int) < 24+(oQ s:Int):=by omega
  have eT:(24+(oQ s:Int)).toNat=24+oQ s:=by omega
  by_cases d2:s.length < dO s
  ·rw[if_pos d2];have d2':(s.length:Int) < (dO s:Int):=by omega
   simp only[aE.nil];simp (disch:=first | omega | (simp only[aQc,aQd,aQe,aQb,aA];omega)) only[go_sem,h108c,c0',c1',aF,aQn,Int.reduceToNat,aQw,hu,hr8,e9,hu9,g0,g14,g12,d1',Int.reduceLT,q1,eA',eq_true d2',eT]
   rfl
  rw[if_neg d2];have d2':¬ (s.length:Int) < (dO s:Int):=by omega
  rw[if_pos rfl];by_cases d3:s.length < dO s+H4 s
  ·rw[if_pos d3];have d3':(s.length:Int) < (dO s:Int)+(H4 s:Int):=by omega
   simp only[aE.nil];simp (disch:=first | omega | (simp only[aQc,aQd,aQe,aQb,aA];omega)) only[go_sem,h108c,c0',c1',aF,aQn,Int.reduceToNat,aQw,hu,hr8,e9,hu9,g0,g14,g12,d1',Int.reduceLT,q1,eA',d2',eT,g16,eq_true d3']
   rfl
  rw[if_neg d3];have d3':¬ (s.length:Int) < (dO s:Int)+(H4 s:Int):=by omega
  have hdc:=aGM hB hl;have q2:=aBo (G:=G) (bb:=bb) (dT s) hdc;have q3:=Nt (G:=G) (bb:=bb) (dT s) hdc.w;have eS:=cW (wJ hdc) hB;unfold Lc;generalize fW (dT s)=R at q2 eS ⊢;generalize hZ (dT s)=E at q3 ⊢;simp only[dT,Hj,eh,aE.v,aE.c,aQn] at q2 q3;by_cases d4:R=s
  ·rw[if_neg (fun h=>h d4)]
   rw[eq_true d4] at eS;by_cases d5:E=0
   ·rw[if_neg (fun h=>h d5)]
    simp (disch:=first | omega | (simp only[aQc,aQd,aQe,aQb,aA];omega)) only[go_sem,h108c,c0',c1',aF,aQn,Int.reduceToNat,aQw,hu,hr8,e9,hu9,g0,g14,g12,d1',Int.reduceLT,q1,eA',d2',eT,g16,d3',q2,eS,q3,d5]
    unfold dT Hj;rw[eh];rfl
   ·rw[if_pos d5];simp only[aE.nil];simp (disch:=first | omega | (simp only[aQc,aQd,aQe,aQb,aA];omega)) only[go_sem,h108c,c0',c1',aF,aQn,Int.reduceToNat,aQw,hu,hr8,e9,hu9,g0,g14,g12,d1',Int.reduceLT,q1,eA',d2',eT,g16,d3',q2,eS,q3,d5]
    rfl
  ·rw[if_pos d4];rw[eq_false d4] at eS;simp only[aE.nil];simp (disch:=first | omega | (simp only[aQc,aQd,aQe,aQb,aA];omega)) only[go_sem,h108c,c0',c1',aF,aQn,Int.reduceToNat,aQw,hu,hr8,e9,hu9,g0,g14,g12,d1',Int.reduceLT,q1,eA',d2',eT,g16,d3',q2,eS]
   rfl
 | false=>
  have hr8':¬ s[8]=0:=by unfold uF at hr;rw[e8] at hr;simpa using hr
  have hr8:s[8]=1:=by omega
  have h40:¬ s.length < 40:=fun h=>c3 ⟨hr8,h⟩
  have h40':¬ (s.length:Int) < 40:=by omega
  rw[hr8] at hu;have eh:Fb s=40:=by unfold Fb;rw[hr];rfl
  have eA:dO s=(40+oQ s+7) / 8 * 8:=by unfold dO;rw[eh]
  have q1:=kS (G:=G) (bb:=bb) (40+oQ s) (by omega);rw[aQ0,show ((40:Nat):Int)=40 from rfl] at q1
  have eA':(8:Int) * (((40+oQ s+7) / 8:Nat):Int)=((dO s:Nat):Int):=by omega
  rw[eh];by_cases d1:s.length < 40+oQ s
  ·rw[if_pos d1];have d1':(s.length:Int) < 40+(oQ s:Int):=by omega
   simp only[aE.nil];simp (disch:=first | omega | (simp only[aQc,aQd,aQe,aQb,aA];omega)) only[go_sem,h108c,c0',c1',aF,aQn,Int.reduceToNat,aQw,hu,hr8,e9,hu9,g0,g14,g12,h40',eq_true d1',Int.reduceLT]
   rfl
  rw[if_neg d1];have d1':¬ (s.length:Int) < 40+(oQ s:Int):=by omega
  have eT:(40+(oQ s:Int)).toNat=40+oQ s:=by omega
  by_cases d2:s.length < dO s
  ·rw[if_pos d2];have d2':(s.length:Int) < (dO s:Int):=by omega
   simp only[aE.nil];simp (disch:=first | omega | (simp only[aQc,aQd,aQe,aQb,aA];omega)) only[go_sem,h108c,c0',c1',aF,aQn,Int.reduceToNat,aQw,hu,hr8,e9,hu9,g0,g14,g12,h40',d1',Int.reduceLT,q1,eA',eq_true d2',eT]
   rfl
  rw[if_neg d2];have d2':¬ (s.length:Int) < (dO s:Int):=by omega
  rw[if_neg (by decide)];have g28:EV G (Tb (bs bb)) 57 [sv s,vi 28,vi 4] []=some (vi (gL s 28 4),[]):=cK s hB 28 4 (by omega) (by omega) (by omega);have g32:EV G (Tb (bs bb)) 57 [sv s,vi 32,vi 4] []=some (vi (gL s 32 4),[]):=cK s hB 32 4 (by omega) (by omega) (by omega);have g36:EV G (Tb (bs bb)) 57 [sv s,vi 36,vi 4] []=some (vi (gL s 36 4),[]):=cK s hB 36 4 (by omega) (by omega) (by omega);simp (disch:=first | omega | (simp only[aQc,aQd,aQe,aQb,aA];omega)) only[go_sem,h108c,c0',c1',aF,aQn,Int.reduceToNat,aQw,hu,hr8,e9,hu9,g0,g14,g12,h40',d1',Int.reduceLT,q1,eA',d2',eT,g16,g28,g32,g36]
  by_cases jn:uG s=s.length - dO s+1
  ·rw[if_pos jn,aMV hB hl d2 jn ?_]
   rotate_left
   ·unfold Rp Hj;rw[eh];simp only[aRr,Int.add_zero];rfl
   have c:¬ (dO s:Int)+((s.length - dO s+1:Nat):Int)<=(s.length:Int):=by omega
   generalize ((s.length - dO s+1:Nat):Int)=w at c;simp only[aE.nil];simp (disch:=first | omega | (simp only[aQc,aQd,aQe,aQb,aA];omega)) only[go_sem,h108l0,c]
   rfl
  ·rw[if_neg jn,aMW hB hl d2 jn ?_]
   rotate_left
   ·unfold Rp Hj;rw[eh];simp only[aRr,Int.add_zero];rfl
   have hch:(mU (Wg s)).2=0:=by
    obtain⟨j1,j2,j3⟩:=bW (fun j=>(lY ((s.take (dO s+j)).drop (dO s))).2=0) (s.length - dO s+1)
    exact Cw (j2.elim (fun h=>absurd h jn) (fun h=>h.2))
   have hdc:=aGN hB hch;have q2:=aBo (G:=G) (bb:=bb) (dF s (Wg s)) hdc;have q3:=Nt (G:=G) (bb:=bb) (dF s (Wg s)) hdc.w;have eS:=cW (wJ hdc) hB;unfold Lc;generalize fW (dF s (Wg s))=R at q2 eS ⊢;generalize hZ (dF s (Wg s))=E at q3 ⊢;generalize ((uG s+1:Nat):Int)=w;simp only[dF,aE.v,aE.c] at q2 q3;unfold Rp;have cw:∀ b:Bool,(b&&false)=false:=fun b=>by cases b<;>rfl
   by_cases cl:(dO s:Int)+w<=(s.length:Int)
   all_goals
    by_cases d4:R=s
    ·rw[if_neg (fun h=>h d4)]
     rw[eq_true d4] at eS;by_cases d5:E=0
     ·rw[if_neg (fun h=>h d5)]
      first
       | (simp (disch:=first | omega | (simp only[aQc,aQd,aQe,aQb,aA];omega)) only[go_sem,h108l0,eq_true cl,q2,eS,q3,d5];rfl)
       | (simp (disch:=first | omega | (simp only[aQc,aQd,aQe,aQb,aA];omega)) only[go_sem,h108l0,cl,q2,eS,q3,d5];rfl)
     ·rw[if_pos d5];simp only[aE.nil]
      first
       | (simp (disch:=first | omega | (simp only[aQc,aQd,aQe,aQb,aA];omega)) only[go_sem,h108l0,eq_true cl,q2,eS,q3,d5];rfl)
       | (simp (disch:=first | omega | (simp only[aQc,aQd,aQe,aQb,aA];omega)) only[go_sem,h108l0,cl,q2,eS,q3,d5];rfl)
    ·rw[if_pos d4];rw[eq_false d4] at eS;simp only[aE.nil]
     first
      | (simp (disch:=first | omega | (simp only[aQc,aQd,aQe,aQb,aA];omega)) only[go_sem,h108l0,eq_true cl,q2,eS];rfl)
      | (simp (disch:=first | omega | (simp only[aQc,aQd,aQe,aQb,aA];omega)) only[go_sem,h108l0,cl,q2,eS];rfl)
end
section
variable {G:aH} {bb:Bool}
end
section
variable {G:aH} {bb:Bool}
theorem aFl{s:List Int}(hB:aM s)(hl:s.length<=1000):(bH s).1.W/\((bH s).2=0\/(bH s).1=aE.nil):=by
 unfold bH;split
 ·exact⟨aE.nil_W,.inr rfl⟩
 ·split
  ·exact⟨aE.nil_W,.inr rfl⟩
  ·rename_i c;split
   ·exact⟨aE.nil_W,.inr rfl⟩
   ·have h:(oR s).2=true:=by
     cases h:(oR s).2 with
     | true=>rfl
     | false=>exact absurd (.inl h) c
    exact⟨(Hk hB hl h).w,.inl rfl⟩
theorem wL{a:aE}(hW:a.W)(h:hZ a=0):eQ a=fW a/\(fW a).length=dX a/\dX a<=440/\dX a % 8=0:=by
 have hO:=nX hW h;have hd:=hO.dc;refine⟨by unfold eQ;rw[if_pos h,rZ hd],by rw[<- rZ hd,pI a hd.bd], ?_,(yQ a).2.2.2.1⟩;have:=pK hW;unfold eQ at this;rw[if_pos h,pI a hd.bd] at this;exact this
theorem Vo{a:aE}(hW:a.W)(h:hZ a=0):bH (fW a)=(a,0):=by
 obtain⟨e1,e2,e3,e4⟩:=wL hW h;have hd:=(nX hW h).dc;have e:=Le hd;unfold bH;rw[if_neg (by omega),e];simp only;rw[if_neg (fun g=>g.elim (fun g=>by cases g) (fun g=>g (rZ hd))),if_neg (fun g=>g h)]
theorem aFm{s:List Int}(hB:aM s)(hl:s.length<=1000)(h:(bH s).2=0):hZ (bH s).1=0/\eQ (bH s).1=s:=by
 unfold bH at h ⊢;split at h
 ·exact absurd h (by decide)
 ·rename_i c0;rw[if_neg c0];split at h
  ·exact absurd h (by decide)
  ·rename_i c1;rw[if_neg c1];split at h
   ·rename_i c2;exact absurd h c2
   ·rename_i c2;rw[if_neg c2];have c3:=Classical.not_not.1 c2;refine⟨c3, ?_⟩;unfold eQ;rw[if_pos c3];exact Classical.byContradiction (fun g=>c1 (.inr g))
end
section
variable {G:aH} {bb:Bool}
end
end Go.Proofs.YtcplecjhmnblpaaGreatDoor
