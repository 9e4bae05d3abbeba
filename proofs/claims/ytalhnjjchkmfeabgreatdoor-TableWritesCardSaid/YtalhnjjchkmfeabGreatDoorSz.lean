/- Part. Conditions: none. -/
import Derived.Test.YtalhnjjchkmfeabGreatDoorSu
namespace Go.Proofs.YtalhnjjchkmfeabGreatDoor
set_option linter.unusedSimpArgs false
set_option linter.unusedVariables false
set_option maxRecDepth 4000
section
variable {G:aE}{bb:Bool}
theorem aQF(s:L Int)(g:aH s)(j:s.length<=1000000):EV G (Tb (bs bb)) 163 [sv s,.one (.dc (.raw (.string ⟨#[255,255,255,255]⟩)))] []=some (vb (decide (s.take 4=sL)),[]):=by
 have e:EV G (Tb (bs bb)) 214 [sv s,.one (.dc (.raw (.string ⟨#[255,255,255,255]⟩)))] []=some (vb (decide (s.take 4=sL)),[]):=by
  refine aA rfl ?_;have b:(((#[255,255,255,255]:Array UInt8).size:Nat):Int)=4:=rfl;by_cases c:4<=s.length;have a:(4:Int)<=(s.length:Int):=by omega
  have f:(fF (s.take 4)=⟨#[255,255,255,255]⟩)=(s.take 4=sL):=dA (fun x i=>g x (aZA i)) Hk
  simp (disch:=omega) only[go_sem,h214c,aC,b,eq_true a,f,Int.reduceToNat];have a:¬ (4:Int)<=(s.length:Int):=by omega
  have d:¬ s.take 4=sL:=fun h=>by
   have:=congrArg List.length h;rw[aZd] at this;have e:sL.length=4:=rfl;omega
  simp (disch:=omega) only[go_sem,h214c,aC,b,a,d,Int.reduceToNat,decide_false]
 refine aA rfl ?_;simp (disch:=omega) only[go_sem,h163c,e]
theorem aHt{call:aN}{a:HC}{L:List Nat}{m:Nat}{r:Option (Exit×AS)}{s:AS}(h:K7 L m r=some s):fnK call G a L m r=EL call G a L m s:=by
 unfold K7 at h;split at h;injection h with h;rw[<- h];rfl
 cases h
abbrev qF(p:L Int):L DC:=[.raw (.string (fF p))]
abbrev sgv(p:Option (L (L Int))):AV:=match p with
 |some a=>.tup [.one (.dc (.slc (a.map qF))),.one (.dc (.raw (.bool true)))]
 |none=>.tup [.one (.dc (.slc [])),.one (.dc (.raw (.bool false)))]
theorem Ul:∀(k:Nat)(s:L Int)(a:L (L Int)),s.length<k->a.length+s.length<=1000->aH s-> qL false [.tmp 2,.tmp 3] 0 (sqK (EV G (Tb (bs bb))) G (.seq (.region [Oo 42 (.mov (.t 4)),Oo 2 (.mov (.t 42)),Oo 3 (.mov (.k (.bool true)))]) .ret) (Bg 0 (EL (EV G (Tb (bs bb))) G h111l0 [0,3,0] 2 ⟨(sv s::jk 3 (.one (.bld 0 a.length)::.one (.ptr 1 0)::jk 37 [])),[.arr 0 1 (a.map qF),.box [.dc (ci 4),.dc (ci 4)]]⟩)))= some (sgv ((sM k s).map (a++·)),[])
 |0,s,a,h,_,_=>by omega
 | k+1,s,a,h,A,q=>by
  have d:=aQF (G:=G) (bb:=bb) s q (by omega);have j:gG 1 (a.map qF)=true:=jP (f:=qF) (fun _=>rfl) _
  have l:(a.map qF).take a.length=a.map qF:=aZI (by rw[aY9];exact aZe _);rw[zY,sM];by_cases o:s.take 4=sL
  ·rw[if_pos o];rw[decide_eq_true o] at d;simp (disch:=omega) only[go_sem,h111l0,d,aY9,l,aZe]
  rw[if_neg o];rw[decide_eq_false o] at d;by_cases r:s.length < 24
  ·rw[if_pos r];have i:(s.length:Int) < 24:=by omega
   simp (disch:=omega) only[go_sem,h111l0,d,aC,eq_true i]
  rw[if_neg r];have i:¬ (s.length:Int) < 24:=by omega
  have m:EV G (Tb (bs bb)) 110 [Lo 4 4,sv s] []=some (vi (gL s 4 4),[]):=Ai (G:=G) (bb:=bb) s q 4 4 (by omega) (by omega) (by omega);have B:=lC q 4 4 (by omega);have w:gL s 4 4=(pZ s:Int):=by unfold pZ;omega
  rw[w] at m;by_cases p:Ff s
  ·rw[if_pos p];unfold Ff at p;generalize pZ s=n at *;have e:((n:Int).tmod 8)=((n % 8:Nat):Int):=rfl;by_cases z:n % 8=0
   ·have b:(n:Int).tmod 8=0:=by rw[e,z];rfl
    clear e;by_cases C:n < 24
    ·have c:(n:Int) < 24:=by omega
     simp (disch:=omega) only[go_sem,h111l0,d,m,aC,i,eq_true b,eq_true c]
    ·have c:¬ (n:Int) < 24:=by omega
     have g:(s.length:Int) - 4 < (n:Int):=by omega
     simp (disch:=omega) only[go_sem,h111l0,d,m,aC,i,eq_true b,c,eq_true g]
   ·have b:¬ (n:Int).tmod 8=0:=by rw[e];omega
    clear e;simp (disch:=omega) only[go_sem,h111l0,d,m,aC,i,b]
  ·rw[if_neg p];unfold Ff at p;generalize pZ s=n at *;have e:((n:Int).tmod 8)=((n % 8:Nat):Int):=rfl;have b:(n:Int).tmod 8=0:=by rw[e];omega
   clear e;have c:¬ (n:Int) < 24:=by omega
   have g:¬ (s.length:Int) - 4 < (n:Int):=by omega
   have v:(s.drop n).length < k:=by rw[aZh];omega
   have u:=Ul k (s.drop n) (a++[s.take n]) v (by rw[aZa,aZh];simp;omega) (fun x y=>q x (aZM y))
   have es:(sM k (s.drop n)).map (a++[s.take n]++·)=((sM k (s.drop n)).map (s.take n::·)).map (a++·):=by
    rw[Option.map_map];congr 1;funext x;simp
   rw[es] at u;rw[<- u];refine congrArg (fun x=>qL false [.tmp 2,.tmp 3] 0 (sqK (EV G (Tb (bs bb))) G (.seq (.region [Oo 42 (.mov (.t 4)),Oo 2 (.mov (.t 42)),Oo 3 (.mov (.k (.bool true)))]) .ret) (Bg 0 x))) (aHt ?_)
   rw[aZa,aZQ];simp (disch:=omega) only[go_sem,h111l0,d,m,aC,i,eq_true b,c,g,aY9,j,l,aZe,aZl,aZm,aZb,aZc]
theorem Xs(o:L Int)(a:o.length=512)(b:aH o):EV G (Tb (bs bb)) 111 [sv o] []=some (sgv (Ah (o.drop 64)),[]):=by
 refine aA rfl ?_;have c:(o.drop 64).length=448:=by rw[aZh,a]
 have q:=Ul (G:=G) (bb:=bb) ((o.drop 64).length+1) (o.drop 64) [] (by omega) (by rw[c];decide) (fun x f=>b x (aZM f))
 have e:((sM ((o.drop 64).length+1) (o.drop 64)).map (([]:L (L Int))++·))=Ah (o.drop 64):=by
  unfold Ah;cases sM ((o.drop 64).length+1) (o.drop 64)<;>simp
 rw[e] at q;rw[<- q];clear q e;have d:List.take 512 o=o:=aZI (by omega);simp (disch:=omega) only[go_sem,h111c,aC,a,Int.reduceToNat,d]
end
section
variable {G:aE}{bb:Bool}
