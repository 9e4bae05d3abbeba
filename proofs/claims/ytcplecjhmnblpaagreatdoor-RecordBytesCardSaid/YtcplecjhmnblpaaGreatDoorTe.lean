/- The reference's order of attributes: sorted by insertion. Conditions: none. -/
import Derived.Test.YtcplecjhmnblpaaGreatDoorUw
import Derived.Test.YtcplecjhmnblpaaGreatDoorTg
namespace Go.Proofs.YtcplecjhmnblpaaGreatDoor
set_option linter.unusedSimpArgs false
set_option linter.unusedVariables false
set_option maxRecDepth 4000
variable {G:aH} {bb:Bool}
def aJi:HF:={ h67 with own:=true }
def tbR:FuncId->Option HF:=fun f=>if f=81 then some h81 else if f=67 then some aJi else none
noncomputable def TR(G:aH)(bb:Bool):HT:=⟨tbR,EV G (Tb (bs bb))⟩
theorem aMP{G:aH}{bb:Bool}:T8 Tryz.prog (TR G bb):=by
 intro f h hf
 change tbR f=some h at hf
 unfold tbR at hf;split at hf
 ·rename_i e;subst e;injection hf with hf;subst hf;exact⟨by kernel_rfl,_,Tryz.func81,Tryz.ntmps81,h81_ok,aHO⟩
 ·split at hf
  ·rename_i e;subst e;injection hf with hf;subst hf;exact⟨by kernel_rfl,_,Tryz.func67,Tryz.ntmps67,h67_ok,Y3⟩
  ·cases hf
theorem tr{f:FuncId}{args:List AV}{hp:List aC}{r:AV × List aC}(h:EV G (Tb (bs bb)) f args hp=some r)(h1:f≠81:=by decide)(h2:f≠67:=by decide):EV G (TR G bb) f args hp=some r:=
 jE (by show tbR f=none;unfold tbR;rw[if_neg h1,if_neg h2]) h
theorem aE9(l:List aE)(hl:l.length<=1000)(hr:∀ a∈l,a.rs.length<=1000000):EV G (TR G bb) 67 [vl (l.map aE.e)] []=some (.one (.bld 0 l.length),[.arr 0 11 (l.map aE.e)]):=by
 refine aB (h:=aJi) rfl ?_;simp only[aJi];simp (disch:=omega) only[go_sem,h67c];rw[bG (fun k=>⟨(vl (l.map aE.e)::jk 2 (.one (.bld 0 ((l.take k).map aE.e).length)::vi k::jk 15 [])),[.arr 0 11 ((l.take k).map aE.e)]⟩) l.length ?_ ?_]
 ·simp (disch:=omega) only[go_sem,h67l0,aQb,aQR]
 ·rfl
 ·intro k hk;have q:=tr (Ra (G:=G) (bb:=bb) l[k] (hr _ (aQm hk)));have hb:((l.take k).map aE.e).length<=1000:=by rw[aQb,aQj];omega
  have hall:=Ae (l.take k);rw[aAR l k hk];generalize (l.take k).map aE.e=C at hb hall ⊢;simp (disch:=omega) only[go_sem,h67l0,aQb,ixA,aE.e,q,hall];rw[aQc];rfl
def Cn(p:List aE)(x:aE)(r:List aE)(k:Nat):List aE:=p.take k++x::(p.drop k++r)
theorem Rg(p:List aE)(x:aE)(r:List aE)(k:Nat):(Cn p x r k).length=p.length+1+r.length:=by
 have:=congrArg List.length (aRy k p);rw[aQc] at this;unfold Cn;rw[aQc,aQd,aQc];omega
theorem aGH{p:List aE}{x:aE}{r:List aE}{k:Nat}(h:k<=p.length):(Cn p x r k)[k]?=some x:=by
 unfold Cn;rw[aQA (by rw[aQj];omega),aQj,Nat.min_eq_left h,aQZ];rfl
theorem aGI{p:List aE}{x:aE}{r:List aE}{k:Nat}(h:k < p.length):(Cn p x r (k+1))[k]?=some p[k]:=by
 unfold Cn;rw[aQu (by rw[aQj];omega),aRI (by omega),aQi h]
theorem aFa{p:List aE}{x:aE}{r:List aE}{k:Nat}(h:k < p.length):((Cn p x r (k+1)).set k x).set (k+1) p[k]=Cn p x r k:=by
 unfold Cn;have e1:p.take (k+1)=p.take k++[p[k]]:=aRb h;have e2:p.drop k=p[k]::p.drop (k+1):=aQ1 h;have hl:(p.take k).length=k:=by rw[aQj];omega
 rw[e1,e2,aQs,List.set_append_right _ _ (by omega),hl,aQZ];simp only[List.singleton_append,List.set_cons_zero];rw[List.set_append_right _ _ (by omega),hl,show k+1 - k=1 by omega];rfl
theorem aMQ(p:List aE)(x:aE)(r:List aE):Cn p x r p.length=p++x::r:=by
 unfold Cn;rw[aQR,List.drop_length];rfl
theorem aFb(p:List aE)(x:aE)(r:List aE):Cn p x r (qE iF p x p.length)=tD iF p x++r:=by
 unfold Cn tD;rw[aQs];rfl
abbrev We(l:List aE):List (List DC):=l.map aE.e
theorem Ag{l:List aE}{k:Nat}{a:aE}(h:l[k]?=some a):(We l)[k]?=some a.e:=by
 rw[aQh,h];rfl
theorem Vg(l:List aE)(i:Nat)(hi:i < l.length):pM iF (l.take (i+1))=tD iF (pM iF (l.take i)) l[i]:=by
 unfold pM;rw[aRb hi,List.foldl_append];rfl
set_option maxHeartbeats 2000000 in
theorem K0(l:List aE)(hl:l.length<=1000)(hr:∀ a∈l,a.rs.length<=1000000):EV G (TR G bb) 81 [vl (l.map aE.e)] []=some (vl ((dL l).map aE.e),[]):=by
 refine aB (h:=h81) rfl ?_;have q0:=aE9 (G:=G) (bb:=bb) l hl hr;simp (disch:=omega) only[go_sem,h81c,q0];rw[bG (fun i=>⟨(jk 3 (.one (.bld 0 l.length)::vi i::jk 44 [])),[.arr 0 11 (We (pM iF (l.take i)++l.drop i))]⟩) l.length ?_ ?_]
 ·have hL:(We (pM iF (l.take l.length)++l.drop l.length))=(dL l).map aE.e:=by
   rw[aQR,List.drop_length,aQ6];rfl
  rw[hL];have hn:=wE l;have ht:((dL l).map aE.e).take l.length=(dL l).map aE.e:=aQM (by rw[aQb];omega);simp (disch:=omega) only[go_sem,h81l1,aQb,ht]
 ·rfl
 ·intro i hi;rw[Vg l i hi,aQ1 hi];have hp:(pM iF (l.take i)).length=i:=by
   have:=(xP iF (l.take i)).length_eq;rw[this,aQj];omega
  have hr1:(l.drop (i+1)).length=l.length - (i+1):=aQr ..;generalize pM iF (l.take i)=p at *;generalize l.drop (i+1)=r at *;generalize l[i]=x at *;rw[<- aMQ,<- aFb];obtain⟨k1,k2⟩:=Ha iF p x p.length (aQf _);have kl:=G8 iF p x p.length;generalize qE iF p x p.length=z at *;rw[hp];simp (disch:=omega) only[go_sem,h81l1];rw[bG (fun j=>⟨(jk 3 (.one (.bld 0 l.length)::vi i::vi (i - j:Nat)::jk 43 [])),[.arr 0 11 (We (Cn p x r (i - j)))]⟩) (i - z) ?_ ?_]
  ·rw[show i - (i - z)=z by omega];by_cases z0:z=0
   ·subst z0;simp (disch:=omega) only[go_sem,h81l0,aRr,Int.lt_irrefl,decide_false]
   ·obtain⟨y,rfl⟩:∃ y,z=y+1:=⟨z - 1,by omega⟩;have g1:=Ag (aGH (p:=p) (x:=x) (r:=r) (k:=y+1) (by omega));have g0:=Ag (aGI (p:=p) (x:=x) (r:=r) (k:=y) (by omega));have hy:y < p.length:=by omega
    have h2:iF p[y] x<=0:=k2 (by omega) (by omega);have q:=tr (qD (G:=G) (bb:=bb) p[y] x);have d1:(y:Int)+1 - 1=(y:Int):=by omega
    have t1:((y:Int)+1).toNat=y+1:=by omega
    have d0:(0:Int) < (y:Int)+1:=by omega
    have d2:¬ 0 < iF p[y] x:=by omega
    have hL:(We (Cn p x r (y+1))).length=l.length:=by rw[aQb,Rg];omega
    generalize We (Cn p x r (y+1))=L at *;simp (disch:=omega) only[go_sem,h81l0,d1,t1,eq_true d0,g1,g0,aE.e,q,d2,hL]
  ·rfl
  ·intro j hj;obtain⟨y,hy⟩:∃ y,i - j=y+1:=⟨i - j - 1,by omega⟩;have hy1:i - (j+1)=y:=by omega
   rw[hy,hy1];have g1:=Ag (aGH (p:=p) (x:=x) (r:=r) (k:=y+1) (by omega));have g0:=Ag (aGI (p:=p) (x:=x) (r:=r) (k:=y) (by omega));have hy:y < p.length:=by omega
   have h2:iF p[y] x > 0:=k1 y hy (by omega) (by omega);have q:=tr (qD (G:=G) (bb:=bb) p[y] x);have d1:(y:Int)+1 - 1=(y:Int):=by omega
   have t1:((y:Int)+1).toNat=y+1:=by omega
   have d0:(0:Int) < (y:Int)+1:=by omega
   have d2:0 < iF p[y] x:=by omega
   have hL:(We (Cn p x r (y+1))).length=l.length:=by rw[aQb,Rg];omega
   have hs:((We (Cn p x r (y+1))).set y x.e).set (y+1) p[y].e=We (Cn p x r y):=by
    rw[<- aFa hy];show _=(((Cn p x r (y+1)).set y x).set (y+1) p[y]).map aE.e;rw[aQH,aQH]
   have g2:((We (Cn p x r (y+1))).set y x.e)[y+1]?=some x.e:=by
    rw[aQx (by omega)];exact g1
   generalize We (Cn p x r (y+1))=L at *;generalize We (Cn p x r y)=L' at *;simp (disch:=omega) only[go_sem,h81l0,d1,t1,eq_true d0,g1,g0,g2,aE.e,q,eq_true d2,hL,List.length_set];rw[<- hs]
end Go.Proofs.YtcplecjhmnblpaaGreatDoor
