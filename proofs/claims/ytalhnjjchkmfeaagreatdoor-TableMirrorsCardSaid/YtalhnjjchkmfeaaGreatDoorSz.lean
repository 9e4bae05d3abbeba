/- Part. Conditions: none. -/
import Derived.Test.YtalhnjjchkmfeaaGreatDoorSu
namespace Go.Proofs.YtalhnjjchkmfeaaGreatDoor
set_option linter.unusedSimpArgs false
set_option linter.unusedVariables false
set_option maxRecDepth 4000
section
variable {G:aF}{bb:Bool}
theorem aRe(s:L Int)(g:aJ s)(j:s.length<=1000000):EV G (Tb (bs bb)) 103 [sv s,.one (.dc (.raw (.string ⟨#[255,255,255,255]⟩)))] []=some (vb (decide (s.take 4=rV)),[]):=by
 have e:EV G (Tb (bs bb)) 146 [sv s,.one (.dc (.raw (.string ⟨#[255,255,255,255]⟩)))] []=some (vb (decide (s.take 4=rV)),[]):=by
  refine aB rfl ?_;have b:(((#[255,255,255,255]:Array UInt8).size:Nat):Int)=4:=rfl;by_cases c:4<=s.length;have a:(4:Int)<=(s.length:Int):=by omega
  have f:(dI (s.take 4)=⟨#[255,255,255,255]⟩)=(s.take 4=rV):=cR (fun x i=>g x (aZZ i)) H9
  simp (disch:=omega) only[go_sem,h146c,aC,b,eq_true a,f,Int.reduceToNat];have a:¬ (4:Int)<=(s.length:Int):=by omega
  have d:¬ s.take 4=rV:=fun h=>by
   have:=congrArg List.length h;rw[aZD] at this;have e:rV.length=4:=rfl;omega
  simp (disch:=omega) only[go_sem,h146c,aC,b,a,d,Int.reduceToNat,decide_false]
 refine aB rfl ?_;simp (disch:=omega) only[go_sem,h103c,e]
theorem aH3{call:aO}{a:HC}{L:List Nat}{m:Nat}{r:Option (Exit×AS)}{s:AS}(h:Lt L m r=some s):fnK call G a L m r=EL call G a L m s:=by
 unfold Lt at h;split at h;injection h with h;rw[<- h];rfl
 cases h
abbrev pU(p:L Int):L DC:=[.raw (.string (dI p))]
abbrev sgv(p:Option (L (L Int))):AV:=match p with
 |some a=>.tup [.one (.dc (.slc (a.map pU))),.one (.dc (.raw (.bool true)))]
 |none=>.tup [.one (.dc (.slc [])),.one (.dc (.raw (.bool false)))]
theorem Vi:∀(k:Nat)(s:L Int)(a:L (L Int)),s.length<k->a.length+s.length<=1000->aJ s-> qC false [.tmp 2,.tmp 3] 0 (sqK (EV G (Tb (bs bb))) G (.seq (.region [Oo 42 (.mov (.t 4)),Oo 2 (.mov (.t 42)),Oo 3 (.mov (.k (.bool true)))]) .ret) (Bn 0 (EL (EV G (Tb (bs bb))) G h133l0 [0,3,0] 2 ⟨(sv s::jk 3 (.one (.bld 0 a.length)::.one (.ptr 1 0)::jk 37 [])),[.arr 0 1 (a.map pU),.box [.dc (ci 4),.dc (ci 4)]]⟩)))= some (sgv ((rW k s).map (a++·)),[])
 |0,s,a,h,_,_=>by omega
 | k+1,s,a,h,A,q=>by
  have d:=aRe (G:=G) (bb:=bb) s q (by omega);have j:gG 1 (a.map pU)=true:=jH (f:=pU) (fun _=>rfl) _
  have l:(a.map pU).take a.length=a.map pU:=aZ6 (by rw[aZz];exact aZE _);rw[Ps,rW];by_cases o:s.take 4=rV
  ·rw[if_pos o];rw[decide_eq_true o] at d;simp (disch:=omega) only[go_sem,h133l0,d,aZz,l,aZE]
  rw[if_neg o];rw[decide_eq_false o] at d;by_cases r:s.length < 24
  ·rw[if_pos r];have i:(s.length:Int) < 24:=by omega
   simp (disch:=omega) only[go_sem,h133l0,d,aC,eq_true i]
  rw[if_neg r];have i:¬ (s.length:Int) < 24:=by omega
  have m:EV G (Tb (bs bb)) 132 [Mc 4 4,sv s] []=some (vi (gL s 4 4),[]):=Al (G:=G) (bb:=bb) s q 4 4 (by omega) (by omega) (by omega);have B:=kU q 4 4 (by omega);have w:gL s 4 4=(pO s:Int):=by unfold pO;omega
  rw[w] at m;by_cases p:Ft s
  ·rw[if_pos p];unfold Ft at p;generalize pO s=n at *;have e:((n:Int).tmod 8)=((n % 8:Nat):Int):=rfl;by_cases z:n % 8=0
   ·have b:(n:Int).tmod 8=0:=by rw[e,z];rfl
    clear e;by_cases C:n < 24
    ·have c:(n:Int) < 24:=by omega
     simp (disch:=omega) only[go_sem,h133l0,d,m,aC,i,eq_true b,eq_true c]
    ·have c:¬ (n:Int) < 24:=by omega
     have g:(s.length:Int) - 4 < (n:Int):=by omega
     simp (disch:=omega) only[go_sem,h133l0,d,m,aC,i,eq_true b,c,eq_true g]
   ·have b:¬ (n:Int).tmod 8=0:=by rw[e];omega
    clear e;simp (disch:=omega) only[go_sem,h133l0,d,m,aC,i,b]
  ·rw[if_neg p];unfold Ft at p;generalize pO s=n at *;have e:((n:Int).tmod 8)=((n % 8:Nat):Int):=rfl;have b:(n:Int).tmod 8=0:=by rw[e];omega
   clear e;have c:¬ (n:Int) < 24:=by omega
   have g:¬ (s.length:Int) - 4 < (n:Int):=by omega
   have v:(s.drop n).length < k:=by rw[aZK];omega
   have u:=Vi k (s.drop n) (a++[s.take n]) v (by rw[aZA,aZK];simp;omega) (fun x y=>q x (bAa y))
   have es:(rW k (s.drop n)).map (a++[s.take n]++·)=((rW k (s.drop n)).map (s.take n::·)).map (a++·):=by
    rw[Option.map_map];congr 1;funext x;simp
   rw[es] at u;rw[<- u];refine congrArg (fun x=>qC false [.tmp 2,.tmp 3] 0 (sqK (EV G (Tb (bs bb))) G (.seq (.region [Oo 42 (.mov (.t 4)),Oo 2 (.mov (.t 42)),Oo 3 (.mov (.k (.bool true)))]) .ret) (Bn 0 x))) (aH3 ?_)
   rw[aZA,bAg];simp (disch:=omega) only[go_sem,h133l0,d,m,aC,i,eq_true b,c,g,aZz,j,l,aZE,aZL,aZM,aZB,aZC]
theorem Y1(o:L Int)(a:o.length=512)(b:aJ o):EV G (Tb (bs bb)) 133 [sv o] []=some (sgv (Ak (o.drop 64)),[]):=by
 refine aB rfl ?_;have c:(o.drop 64).length=448:=by rw[aZK,a]
 have q:=Vi (G:=G) (bb:=bb) ((o.drop 64).length+1) (o.drop 64) [] (by omega) (by rw[c];decide) (fun x f=>b x (bAa f))
 have e:((rW ((o.drop 64).length+1) (o.drop 64)).map (([]:L (L Int))++·))=Ak (o.drop 64):=by
  unfold Ak;cases rW ((o.drop 64).length+1) (o.drop 64)<;>simp
 rw[e] at q;rw[<- q];clear q e;have d:List.take 512 o=o:=aZ6 (by omega);simp (disch:=omega) only[go_sem,h133c,aC,a,Int.reduceToNat,d]
end
section
variable {G:aF}{bb:Bool}
