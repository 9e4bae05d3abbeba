/- The reference's order of attributes: sorted by insertion. Conditions: none. -/
import Derived.Test.YthepfneloomngaaGreatDoorUw
import Derived.Test.YthepfneloomngaaGreatDoorTg
namespace Go.Proofs.YthepfneloomngaaGreatDoor
set_option linter.unusedSimpArgs false
set_option linter.unusedVariables false
set_option maxRecDepth 4000
variable {G:aE}{bb:Bool}
def aBD:HF:={ h116 with own:=true }
def tbR:FuncId->Option HF:=fun f=>if f=196 then some h196 else if f=116 then some aBD else none
noncomputable def TR(G:aE)(bb:Bool):HT:=⟨tbR,EV G (Tb (bs bb))⟩
theorem aTI{G:aE}{bb:Bool}:Ud Tryz.prog (TR G bb):=by
 intro f h hf;change tbR f=some h at hf;unfold tbR at hf;split at hf;rename_i e;subst e;injection hf with hf;subst hf;exact⟨by kernel_rfl,_,Tryz.func196,Tryz.ntmps196,h196_ok,aIf⟩
 split at hf;rename_i e;subst e;injection hf with hf;subst hf;exact⟨by kernel_rfl,_,Tryz.func116,Tryz.ntmps116,h116_ok,Xr⟩
 cases hf
theorem tr{f:FuncId}{args:List AV}{hp:List aC}{r:AV×List aC}(h:EV G (Tb (bs bb)) f args hp=some r)(h1:f≠196:=by decide)(h2:f≠116:=by decide):EV G (TR G bb) f args hp=some r:=
 gP (by show tbR f=none;unfold tbR;rw[if_neg h1,if_neg h2]) h
theorem aJ9(l:List aJ)(hl:l.length<=1000)(hr:∀a∈l,a.rs.length<=1000000):EV G (TR G bb) 116 [vl (l.map aJ.e)] []=some (.one (.bld 0 l.length),[.arr 0 11 (l.map aJ.e)]):=by
 refine aA (h:=aBD) rfl ?_;simp only[aBD];simp (disch:=omega) only[go_sem,h116c];rw[aR (fun k=>⟨(vl (l.map aJ.e)::jk 2 (.one (.bld 0 ((l.take k).map aJ.e).length)::vi k::jk 15 [])),[.arr 0 11 ((l.take k).map aJ.e)]⟩) l.length ?_ ?_]
 simp (disch:=omega) only[go_sem,h116l0,aXC,aYh];rfl;intro k hk;have q:=tr (Nt (G:=G) (bb:=bb) l[k] (hr _ (aXM hk)));have hb:((l.take k).map aJ.e).length<=1000:=by rw[aXC,aXK];omega
 have hall:=F6 (l.take k);rw[aFn l k hk];generalize (l.take k).map aJ.e=C at hb hall ⊢;simp (disch:=omega) only[go_sem,h116l0,aXC,ixA,aJ.e,q,hall];rw[aXD];rfl
def Iz(p:List aJ)(x:aJ)(r:List aJ)(k:Nat):List aJ:=p.take k++x::(p.drop k++r)
theorem Yn(p:List aJ)(x:aJ)(r:List aJ)(k:Nat):(Iz p x r k).length=p.length+1+r.length:=by
 have:=congrArg List.length (aYI k p);rw[aXD] at this;unfold Iz;rw[aXD,aXE,aXD];omega
theorem aMe{p:List aJ}{x:aJ}{r:List aJ}{k:Nat}(h:k<=p.length):(Iz p x r k)[k]?=some x:=by
 unfold Iz;rw[aXY (by rw[aXK];omega),aXK,aY1 h,aYs];rfl
theorem aMf{p:List aJ}{x:aJ}{r:List aJ}{k:Nat}(h:k<p.length):(Iz p x r (k+1))[k]?=some p[k]:=by
 unfold Iz;rw[aXU (by rw[aXK];omega),aZd (by omega),aXJ h]
theorem aKa{p:List aJ}{x:aJ}{r:List aJ}{k:Nat}(h:k<p.length):((Iz p x r (k+1)).set k x).set (k+1) p[k]=Iz p x r k:=by
 unfold Iz;have e1:p.take (k+1)=p.take k++[p[k]]:=aYx h;have e2:p.drop k=p[k]::p.drop (k+1):=aYF h;have hl:(p.take k).length=k:=by rw[aXK];omega
 rw[e1,e2,aXR,List.set_append_right _ _ (by omega),hl,aYs];simp only[List.singleton_append,List.set_cons_zero];rw[List.set_append_right _ _ (by omega),hl,show k+1-k=1 by omega];rfl
theorem aTJ(p:List aJ)(x:aJ)(r:List aJ):Iz p x r p.length=p++x::r:=by
 unfold Iz;rw[aYh,List.drop_length];rfl
theorem aKb(p:List aJ)(x:aJ)(r:List aJ):Iz p x r (rF jK p x p.length)=zJ jK p x++r:=by
 unfold Iz zJ;rw[aXR];rfl
abbrev rwA(l:List aJ):List (List DC):=l.map aJ.e
theorem F8{l:List aJ}{k:Nat}{a:aJ}(h:l[k]?=some a):(rwA l)[k]?=some a.e:=by
 rw[aXI,h];rfl
theorem aBE(l:List aJ)(i:Nat)(hi:i<l.length):qJ jK (l.take (i+1))=zJ jK (qJ jK (l.take i)) l[i]:=by
 unfold qJ;rw[aYx hi,List.foldl_append];rfl
set_option maxHeartbeats 2000000 in
theorem R0(l:List aJ)(hl:l.length<=1000)(hr:∀a∈l,a.rs.length<=1000000):EV G (TR G bb) 196 [vl (l.map aJ.e)] []=some (vl ((dD l).map aJ.e),[]):=by
 refine aA (h:=h196) rfl ?_;have q0:=aJ9 (G:=G) (bb:=bb) l hl hr;simp (disch:=omega) only[go_sem,h196c,q0];rw[aR (fun i=>⟨(jk 3 (.one (.bld 0 l.length)::vi i::jk 44 [])),[.arr 0 11 (rwA (qJ jK (l.take i)++l.drop i))]⟩) l.length ?_ ?_]
 have hL:(rwA (qJ jK (l.take l.length)++l.drop l.length))=(dD l).map aJ.e:=by
  rw[aYh,List.drop_length,aYE];rfl
 rw[hL];have hn:=oR l;have ht:((dD l).map aJ.e).take l.length=(dD l).map aJ.e:=aYe (by rw[aXC];omega);simp (disch:=omega) only[go_sem,h196l1,aXC,ht];rfl;intro i hi;rw[aBE l i hi,aYF hi];have hp:(qJ jK (l.take i)).length=i:=by
  have:=(Dq jK (l.take i)).length_eq;rw[this,aXK];omega
 have hr1:(l.drop (i+1)).length=l.length-(i+1):=aXS ..;generalize qJ jK (l.take i)=p at *;generalize l.drop (i+1)=r at *;generalize l[i]=x at *;rw[<- aTJ,<- aKb];obtain⟨k1,k2⟩:=Nx jK p x p.length (aXF _);have kl:=Nw jK p x p.length;generalize rF jK p x p.length=z at *;rw[hp];simp (disch:=omega) only[go_sem,h196l1];rw[aR (fun j=>⟨(jk 3 (.one (.bld 0 l.length)::vi i::vi (i-j:Nat)::jk 43 [])),[.arr 0 11 (rwA (Iz p x r (i-j)))]⟩) (i-z) ?_ ?_]
 rw[show i-(i-z)=z by omega];by_cases z0:z=0;subst z0;simp (disch:=omega) only[go_sem,h196l0,Int.natCast_zero,Int.lt_irrefl,decide_false];obtain⟨y,rfl⟩:∃y,z=y+1:=⟨z-1,by omega⟩;have g1:=F8 (aMe (p:=p) (x:=x) (r:=r) (k:=y+1) (by omega));have g0:=F8 (aMf (p:=p) (x:=x) (r:=r) (k:=y) (by omega));have hy:y<p.length:=by omega
 have h2:jK p[y] x<=0:=k2 (by omega) (by omega);have q:=tr (It (G:=G) (bb:=bb) p[y] x);have d1:(y:Int)+1-1=(y:Int):=by omega
 have t1:((y:Int)+1).toNat=y+1:=by omega
 have d0:(0:Int)<(y:Int)+1:=by omega
 have d2:¬ 0<jK p[y] x:=by omega
 have hL:(rwA (Iz p x r (y+1))).length=l.length:=by rw[aXC,Yn];omega
 generalize rwA (Iz p x r (y+1))=L at *;simp (disch:=omega) only[go_sem,h196l0,d1,t1,eq_true d0,g1,g0,aJ.e,q,d2,hL];rfl;intro j hj;obtain⟨y,hy⟩:∃y,i-j=y+1:=⟨i-j-1,by omega⟩;have hy1:i-(j+1)=y:=by omega
 rw[hy,hy1];have g1:=F8 (aMe (p:=p) (x:=x) (r:=r) (k:=y+1) (by omega));have g0:=F8 (aMf (p:=p) (x:=x) (r:=r) (k:=y) (by omega));have hy:y<p.length:=by omega
 have h2:jK p[y] x > 0:=k1 y hy (by omega) (by omega);have q:=tr (It (G:=G) (bb:=bb) p[y] x);have d1:(y:Int)+1-1=(y:Int):=by omega
 have t1:((y:Int)+1).toNat=y+1:=by omega
 have d0:(0:Int)<(y:Int)+1:=by omega
 have d2:0<jK p[y] x:=by omega
 have hL:(rwA (Iz p x r (y+1))).length=l.length:=by rw[aXC,Yn];omega
 have hs:((rwA (Iz p x r (y+1))).set y x.e).set (y+1) p[y].e=rwA (Iz p x r y):=by
  rw[<- aKa hy];show _=(((Iz p x r (y+1)).set y x).set (y+1) p[y]).map aJ.e;rw[aYa,aYa]
 have g2:((rwA (Iz p x r (y+1))).set y x.e)[y+1]?=some x.e:=by
  rw[aXW (by omega)];exact g1
 generalize rwA (Iz p x r (y+1))=L at *;generalize rwA (Iz p x r y)=L' at *;simp (disch:=omega) only[go_sem,h196l0,d1,t1,eq_true d0,g1,g0,g2,aJ.e,q,eq_true d2,hL,List.length_set];rw[<- hs]
end Go.Proofs.YthepfneloomngaaGreatDoor
