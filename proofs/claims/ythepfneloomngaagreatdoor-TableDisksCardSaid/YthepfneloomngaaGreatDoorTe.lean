/- The reference's order of attributes: sorted by insertion. Conditions: none. -/
import Derived.Test.YthepfneloomngaaGreatDoorUw
import Derived.Test.YthepfneloomngaaGreatDoorTg
namespace Go.Proofs.YthepfneloomngaaGreatDoor
set_option linter.unusedSimpArgs false
set_option linter.unusedVariables false
set_option maxRecDepth 4000
variable {G:aF} {bb:Bool}
def aNC:HF:={ h116 with own:=true }
def tbR:FuncId->Option HF:=fun f=>if f=196 then some h196 else if f=116 then some aNC else none
noncomputable def TR(G:aF)(bb:Bool):HT:=⟨tbR,EV G (Tb (bs bb))⟩
theorem aRZ{G:aF}{bb:Bool}:Zn Tryz.prog (TR G bb):=by
 intro f h hf
 change tbR f=some h at hf
 unfold tbR at hf;split at hf
 ·rename_i e;subst e;injection hf with hf;subst hf;exact⟨by kernel_rfl,_,Tryz.func196,Tryz.ntmps196,h196_ok,aG6⟩
 ·split at hf
  ·rename_i e;subst e;injection hf with hf;subst hf;exact⟨by kernel_rfl,_,Tryz.func116,Tryz.ntmps116,h116_ok,aG5⟩
  ·cases hf
theorem tr{f:FuncId}{args:List AV}{hp:List aD}{r:AV × List aD}(h:EV G (Tb (bs bb)) f args hp=some r)(h1:f≠196:=by decide)(h2:f≠116:=by decide):EV G (TR G bb) f args hp=some r:=
 iI (by show tbR f=none;unfold tbR;rw[if_neg h1,if_neg h2]) h
theorem aIW(l:List aK)(hl:l.length<=1000)(hr:∀ a∈l,a.rs.length<=1000000):EV G (TR G bb) 116 [vl (l.map aK.e)] []=some (.one (.bld 0 l.length),[.arr 0 11 (l.map aK.e)]):=by
 refine aA (h:=aNC) rfl ?_;simp only[aNC];simp (disch:=omega) only[go_sem,h116c];rw[aU (fun k=>⟨(vl (l.map aK.e)::jk 2 (.one (.bld 0 ((l.take k).map aK.e).length)::vi k::jk 15 [])),[.arr 0 11 ((l.take k).map aK.e)]⟩) l.length ?_ ?_]
 ·simp (disch:=omega) only[go_sem,h116l0,aWf,aWY]
 ·rfl
 ·intro k hk;have q:=tr (aIP (G:=G) (bb:=bb) l[k] (hr _ (aWq hk)));have hb:((l.take k).map aK.e).length<=1000:=by rw[aWf,aWm];omega
  have hall:=Lr (l.take k);rw[aKO l k hk];generalize (l.take k).map aK.e=C at hb hall ⊢;simp (disch:=omega) only[go_sem,h116l0,aWf,ixA,aK.e,q,hall];rw[aWg];rfl
def Hc(p:List aK)(x:aK)(r:List aK)(k:Nat):List aK:=p.take k++x::(p.drop k++r)
theorem Ww(p:List aK)(x:aK)(r:List aK)(k:Nat):(Hc p x r k).length=p.length+1+r.length:=by
 have:=congrArg List.length (aXs k p);rw[aWg] at this;unfold Hc;rw[aWg,aWh,aWg];omega
theorem aKP{p:List aK}{x:aK}{r:List aK}{k:Nat}(h:k<=p.length):(Hc p x r k)[k]?=some x:=by
 unfold Hc;rw[aWB (by rw[aWm];omega),aWm,aXD h,aW3];rfl
theorem aKQ{p:List aK}{x:aK}{r:List aK}{k:Nat}(h:k < p.length):(Hc p x r (k+1))[k]?=some p[k]:=by
 unfold Hc;rw[aWx (by rw[aWm];omega),aXQ (by omega),aWo h]
theorem aIX{p:List aK}{x:aK}{r:List aK}{k:Nat}(h:k < p.length):((Hc p x r (k+1)).set k x).set (k+1) p[k]=Hc p x r k:=by
 unfold Hc;have e1:p.take (k+1)=p.take k++[p[k]]:=aXe h;have e2:p.drop k=p[k]::p.drop (k+1):=aXo h;have hl:(p.take k).length=k:=by rw[aWm];omega
 rw[e1,e2,aWv,List.set_append_right _ _ (by omega),hl,aW3];simp only[List.singleton_append,List.set_cons_zero];rw[List.set_append_right _ _ (by omega),hl,show k+1 - k=1 by omega];rfl
theorem aR0(p:List aK)(x:aK)(r:List aK):Hc p x r p.length=p++x::r:=by
 unfold Hc;rw[aWY,List.drop_length];rfl
theorem aIY(p:List aK)(x:aK)(r:List aK):Hc p x r (qK iQ p x p.length)=tW iQ p x++r:=by
 unfold Hc tW;rw[aWv];rfl
abbrev rwA(l:List aK):List (List DC):=l.map aK.e
theorem Eo{l:List aK}{k:Nat}{a:aK}(h:l[k]?=some a):(rwA l)[k]?=some a.e:=by
 rw[aWl,h];rfl
theorem aAy(l:List aK)(i:Nat)(hi:i < l.length):pR iQ (l.take (i+1))=tW iQ (pR iQ (l.take i)) l[i]:=by
 unfold pR;rw[aXe hi,List.foldl_append];rfl
set_option maxHeartbeats 2000000 in
theorem Pv(l:List aK)(hl:l.length<=1000)(hr:∀ a∈l,a.rs.length<=1000000):EV G (TR G bb) 196 [vl (l.map aK.e)] []=some (vl ((dL l).map aK.e),[]):=by
 refine aA (h:=h196) rfl ?_;have q0:=aIW (G:=G) (bb:=bb) l hl hr;simp (disch:=omega) only[go_sem,h196c,q0];rw[aU (fun i=>⟨(jk 3 (.one (.bld 0 l.length)::vi i::jk 44 [])),[.arr 0 11 (rwA (pR iQ (l.take i)++l.drop i))]⟩) l.length ?_ ?_]
 ·have hL:(rwA (pR iQ (l.take l.length)++l.drop l.length))=(dL l).map aK.e:=by
   rw[aWY,List.drop_length,aXr];rfl
  rw[hL];have hn:=pT l;have ht:((dL l).map aK.e).take l.length=(dL l).map aK.e:=aWP (by rw[aWf];omega);simp (disch:=omega) only[go_sem,h196l1,aWf,ht]
 ·rfl
 ·intro i hi;rw[aAy l i hi,aXo hi];have hp:(pR iQ (l.take i)).length=i:=by
   have:=(B9 iQ (l.take i)).length_eq;rw[this,aWm];omega
  have hr1:(l.drop (i+1)).length=l.length - (i+1):=aWt ..;generalize pR iQ (l.take i)=p at *;generalize l.drop (i+1)=r at *;generalize l[i]=x at *;rw[<- aR0,<- aIY];obtain⟨k1,k2⟩:=Lw iQ p x p.length (aWj _);have kl:=Lv iQ p x p.length;generalize qK iQ p x p.length=z at *;rw[hp];simp (disch:=omega) only[go_sem,h196l1];rw[aU (fun j=>⟨(jk 3 (.one (.bld 0 l.length)::vi i::vi (i - j:Nat)::jk 43 [])),[.arr 0 11 (rwA (Hc p x r (i - j)))]⟩) (i - z) ?_ ?_]
  ·rw[show i - (i - z)=z by omega];by_cases z0:z=0
   ·subst z0;simp (disch:=omega) only[go_sem,h196l0,Int.natCast_zero,Int.lt_irrefl,decide_false]
   ·obtain⟨y,rfl⟩:∃ y,z=y+1:=⟨z - 1,by omega⟩;have g1:=Eo (aKP (p:=p) (x:=x) (r:=r) (k:=y+1) (by omega));have g0:=Eo (aKQ (p:=p) (x:=x) (r:=r) (k:=y) (by omega));have hy:y < p.length:=by omega
    have h2:iQ p[y] x<=0:=k2 (by omega) (by omega);have q:=tr (G4 (G:=G) (bb:=bb) p[y] x);have d1:(y:Int)+1 - 1=(y:Int):=by omega
    have t1:((y:Int)+1).toNat=y+1:=by omega
    have d0:(0:Int) < (y:Int)+1:=by omega
    have d2:¬ 0 < iQ p[y] x:=by omega
    have hL:(rwA (Hc p x r (y+1))).length=l.length:=by rw[aWf,Ww];omega
    generalize rwA (Hc p x r (y+1))=L at *;simp (disch:=omega) only[go_sem,h196l0,d1,t1,eq_true d0,g1,g0,aK.e,q,d2,hL]
  ·rfl
  ·intro j hj;obtain⟨y,hy⟩:∃ y,i - j=y+1:=⟨i - j - 1,by omega⟩;have hy1:i - (j+1)=y:=by omega
   rw[hy,hy1];have g1:=Eo (aKP (p:=p) (x:=x) (r:=r) (k:=y+1) (by omega));have g0:=Eo (aKQ (p:=p) (x:=x) (r:=r) (k:=y) (by omega));have hy:y < p.length:=by omega
   have h2:iQ p[y] x > 0:=k1 y hy (by omega) (by omega);have q:=tr (G4 (G:=G) (bb:=bb) p[y] x);have d1:(y:Int)+1 - 1=(y:Int):=by omega
   have t1:((y:Int)+1).toNat=y+1:=by omega
   have d0:(0:Int) < (y:Int)+1:=by omega
   have d2:0 < iQ p[y] x:=by omega
   have hL:(rwA (Hc p x r (y+1))).length=l.length:=by rw[aWf,Ww];omega
   have hs:((rwA (Hc p x r (y+1))).set y x.e).set (y+1) p[y].e=rwA (Hc p x r y):=by
    rw[<- aIX hy];show _=(((Hc p x r (y+1)).set y x).set (y+1) p[y]).map aK.e;rw[aWM,aWM]
   have g2:((rwA (Hc p x r (y+1))).set y x.e)[y+1]?=some x.e:=by
    rw[aWz (by omega)];exact g1
   generalize rwA (Hc p x r (y+1))=L at *;generalize rwA (Hc p x r y)=L' at *;simp (disch:=omega) only[go_sem,h196l0,d1,t1,eq_true d0,g1,g0,g2,aK.e,q,eq_true d2,hL,List.length_set];rw[<- hs]
end Go.Proofs.YthepfneloomngaaGreatDoor
