/- Part. Conditions: none. -/
import Derived.Test.YtgdjbbnicgfohabGreatDoorSu
namespace Go.Proofs.YtgdjbbnicgfohabGreatDoor
set_option linter.unusedSimpArgs false
set_option linter.unusedVariables false
set_option maxRecDepth 4000
section
variable {G:aF}{bb:Bool}
theorem aRf(s:L Int)(g:aI s)(j:s.length<=1000000):EV G (Tb (bs bb)) 138 [sv s,.one (.dc (.raw (.string ⟨#[255,255,255,255]⟩)))] []=some (vb (decide (s.take 4=rU)),[]):=by
 have e:EV G (Tb (bs bb)) 194 [sv s,.one (.dc (.raw (.string ⟨#[255,255,255,255]⟩)))] []=some (vb (decide (s.take 4=rU)),[]):=by
  refine aB rfl ?_;have b:(((#[255,255,255,255]:Array UInt8).size:Nat):Int)=4:=rfl;by_cases c:4<=s.length;have a:(4:Int)<=(s.length:Int):=by omega
  have f:(dO (s.take 4)=⟨#[255,255,255,255]⟩)=(s.take 4=rU):=cR (fun x i=>g x (aZ0 i)) H7
  simp (disch:=omega) only[go_sem,h194c,aC,b,eq_true a,f,Int.reduceToNat];have a:¬ (4:Int)<=(s.length:Int):=by omega
  have d:¬ s.take 4=rU:=fun h=>by
   have:=congrArg List.length h;rw[aZF] at this;have e:rU.length=4:=rfl;omega
  simp (disch:=omega) only[go_sem,h194c,aC,b,a,d,Int.reduceToNat,decide_false]
 refine aB rfl ?_;simp (disch:=omega) only[go_sem,h138c,e]
theorem aHY{call:aO}{a:HC}{L:List Nat}{m:Nat}{r:Option (Exit×AS)}{s:AS}(h:Ls L m r=some s):fnK call G a L m r=EL call G a L m s:=by
 unfold Ls at h;split at h;injection h with h;rw[<- h];rfl
 cases h
abbrev pV(p:L Int):L DC:=[.raw (.string (dO p))]
abbrev sgv(p:Option (L (L Int))):AV:=match p with
 |some a=>.tup [.one (.dc (.slc (a.map pV))),.one (.dc (.raw (.bool true)))]
 |none=>.tup [.one (.dc (.slc [])),.one (.dc (.raw (.bool false)))]
theorem Vk:∀(k:Nat)(s:L Int)(a:L (L Int)),s.length<k->a.length+s.length<=1000->aI s-> qC false [.tmp 2,.tmp 3] 0 (sqK (EV G (Tb (bs bb))) G (.seq (.region [Oo 42 (.mov (.t 4)),Oo 2 (.mov (.t 42)),Oo 3 (.mov (.k (.bool true)))]) .ret) (Bk 0 (EL (EV G (Tb (bs bb))) G h117l0 [0,3,0] 2 ⟨(sv s::jk 3 (.one (.bld 0 a.length)::.one (.ptr 1 0)::jk 37 [])),[.arr 0 1 (a.map pV),.box [.dc (ci 4),.dc (ci 4)]]⟩)))= some (sgv ((rV k s).map (a++·)),[])
 |0,s,a,h,_,_=>by omega
 | k+1,s,a,h,A,q=>by
  have d:=aRf (G:=G) (bb:=bb) s q (by omega);have j:gG 1 (a.map pV)=true:=jG (f:=pV) (fun _=>rfl) _
  have l:(a.map pV).take a.length=a.map pV:=bAc (by rw[aZA];exact aZE _);rw[Po,rV];by_cases o:s.take 4=rU
  ·rw[if_pos o];rw[decide_eq_true o] at d;simp (disch:=omega) only[go_sem,h117l0,d,aZA,l,aZE]
  rw[if_neg o];rw[decide_eq_false o] at d;by_cases r:s.length < 24
  ·rw[if_pos r];have i:(s.length:Int) < 24:=by omega
   simp (disch:=omega) only[go_sem,h117l0,d,aC,eq_true i]
  rw[if_neg r];have i:¬ (s.length:Int) < 24:=by omega
  have m:EV G (Tb (bs bb)) 116 [Mb 4 4,sv s] []=some (vi (gL s 4 4),[]):=Ae (G:=G) (bb:=bb) s q 4 4 (by omega) (by omega) (by omega);have B:=kV q 4 4 (by omega);have w:gL s 4 4=(pP s:Int):=by unfold pP;omega
  rw[w] at m;by_cases p:Fm s
  ·rw[if_pos p];unfold Fm at p;generalize pP s=n at *;have e:((n:Int).tmod 8)=((n % 8:Nat):Int):=rfl;by_cases z:n % 8=0
   ·have b:(n:Int).tmod 8=0:=by rw[e,z];rfl
    clear e;by_cases C:n < 24
    ·have c:(n:Int) < 24:=by omega
     simp (disch:=omega) only[go_sem,h117l0,d,m,aC,i,eq_true b,eq_true c]
    ·have c:¬ (n:Int) < 24:=by omega
     have g:(s.length:Int) - 4 < (n:Int):=by omega
     simp (disch:=omega) only[go_sem,h117l0,d,m,aC,i,eq_true b,c,eq_true g]
   ·have b:¬ (n:Int).tmod 8=0:=by rw[e];omega
    clear e;simp (disch:=omega) only[go_sem,h117l0,d,m,aC,i,b]
  ·rw[if_neg p];unfold Fm at p;generalize pP s=n at *;have e:((n:Int).tmod 8)=((n % 8:Nat):Int):=rfl;have b:(n:Int).tmod 8=0:=by rw[e];omega
   clear e;have c:¬ (n:Int) < 24:=by omega
   have g:¬ (s.length:Int) - 4 < (n:Int):=by omega
   have v:(s.drop n).length < k:=by rw[aZL];omega
   have u:=Vk k (s.drop n) (a++[s.take n]) v (by rw[aZB,aZL];simp;omega) (fun x y=>q x (bAb y))
   have es:(rV k (s.drop n)).map (a++[s.take n]++·)=((rV k (s.drop n)).map (s.take n::·)).map (a++·):=by
    rw[Option.map_map];congr 1;funext x;simp
   rw[es] at u;rw[<- u];refine congrArg (fun x=>qC false [.tmp 2,.tmp 3] 0 (sqK (EV G (Tb (bs bb))) G (.seq (.region [Oo 42 (.mov (.t 4)),Oo 2 (.mov (.t 42)),Oo 3 (.mov (.k (.bool true)))]) .ret) (Bk 0 x))) (aHY ?_)
   rw[aZB,bAh];simp (disch:=omega) only[go_sem,h117l0,d,m,aC,i,eq_true b,c,g,aZA,j,l,aZE,aZM,aZN,aZC,aZD]
theorem Y1(o:L Int)(a:o.length=512)(b:aI o):EV G (Tb (bs bb)) 117 [sv o] []=some (sgv (Ad (o.drop 64)),[]):=by
 refine aB rfl ?_;have c:(o.drop 64).length=448:=by rw[aZL,a]
 have q:=Vk (G:=G) (bb:=bb) ((o.drop 64).length+1) (o.drop 64) [] (by omega) (by rw[c];decide) (fun x f=>b x (bAb f))
 have e:((rV ((o.drop 64).length+1) (o.drop 64)).map (([]:L (L Int))++·))=Ad (o.drop 64):=by
  unfold Ad;cases rV ((o.drop 64).length+1) (o.drop 64)<;>simp
 rw[e] at q;rw[<- q];clear q e;have d:List.take 512 o=o:=bAc (by omega);simp (disch:=omega) only[go_sem,h117c,aC,a,Int.reduceToNat,d]
end
section
variable {G:aF}{bb:Bool}
