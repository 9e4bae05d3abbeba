/- Part. Conditions: none. -/
import Derived.Test.YtgdjbbnicgfohacGreatDoorSu
namespace Go.Proofs.YtgdjbbnicgfohacGreatDoor
set_option linter.unusedSimpArgs false
set_option linter.unusedVariables false
set_option maxRecDepth 4000
section
variable {G:aF}{bb:Bool}
theorem aQM(s:L Int)(g:aK s)(j:s.length<=1000000):EV G (Tb (bs bb)) 154 [sv s,.one (.dc (.raw (.string ⟨#[255,255,255,255]⟩)))] []=some (vb (decide (s.take 4=rR)),[]):=by
 have e:EV G (Tb (bs bb)) 203 [sv s,.one (.dc (.raw (.string ⟨#[255,255,255,255]⟩)))] []=some (vb (decide (s.take 4=rR)),[]):=by
  refine aB rfl ?_;have b:(((#[255,255,255,255]:Array UInt8).size:Nat):Int)=4:=rfl;by_cases c:4<=s.length;have a:(4:Int)<=(s.length:Int):=by omega
  have f:(dB (s.take 4)=⟨#[255,255,255,255]⟩)=(s.take 4=rR):=cQ (fun x i=>g x (aZA i)) Hy
  simp (disch:=omega) only[go_sem,h203c,aC,b,eq_true a,f,Int.reduceToNat];have a:¬ (4:Int)<=(s.length:Int):=by omega
  have d:¬ s.take 4=rR:=fun h=>by
   have:=congrArg List.length h;rw[aZf] at this;have e:rR.length=4:=rfl;omega
  simp (disch:=omega) only[go_sem,h203c,aC,b,a,d,Int.reduceToNat,decide_false]
 refine aB rfl ?_;simp (disch:=omega) only[go_sem,h154c,e]
theorem aHJ{call:aO}{a:HC}{L:List Nat}{m:Nat}{r:Option (Exit×AS)}{s:AS}(h:Lf L m r=some s):fnK call G a L m r=EL call G a L m s:=by
 unfold Lf at h;split at h;injection h with h;rw[<- h];rfl
 cases h
abbrev pQ(p:L Int):L DC:=[.raw (.string (dB p))]
abbrev sgv(p:Option (L (L Int))):AV:=match p with
 |some a=>.tup [.one (.dc (.slc (a.map pQ))),.one (.dc (.raw (.bool true)))]
 |none=>.tup [.one (.dc (.slc [])),.one (.dc (.raw (.bool false)))]
theorem U2:∀(k:Nat) (s:List Int) (acc:List (List Int)),s.length<k->acc.length+s.length<=1000->aK s->
  pX false [.tmp 2,.tmp 3] 0 (sqK (EV G (Tb (bs bb))) G (.seq (.region [Oo 42 (.mov (.t 4)),Oo 2 (.mov (.t 42)),Oo 3 (.mov (.k (.bool true)))]) .ret)
   (Bf 0 (EL (EV G (Tb (bs bb))) G h127l0 [0,3,0] 2 ⟨(sv s::jk 3 (.one (.bld 0 acc.length)::.one (.ptr 1 0)::jk 37 [])),[.arr 0 1 (acc.map pQ),.box [.dc (ci 4),.dc (ci 4)]]⟩)))=
  some (sgv ((rS k s).map (acc++·)),[])
 |0,s,acc,h,_,_=>by omega
 | k+1,s,acc,h,hA,hB=>by
  have q1:=aQM (G:=G) (bb:=bb) s hB (by omega);have hall:gC 1 (acc.map pQ)=true:=jD (f:=pQ) (fun _=>rfl) _
  have htk:(acc.map pQ).take acc.length=acc.map pQ:=aZM (by rw[aZa];exact aZe _);rw[Pb,rS];by_cases c1:s.take 4=rR
  ·rw[if_pos c1];rw[decide_eq_true c1] at q1;simp (disch:=omega) only[go_sem,h127l0,q1,aZa,htk,aZe]
  rw[if_neg c1];rw[decide_eq_false c1] at q1;by_cases c2:s.length < 24
  ·rw[if_pos c2];have d2:(s.length:Int) < 24:=by omega
   simp (disch:=omega) only[go_sem,h127l0,q1,aC,eq_true d2]
  rw[if_neg c2];have d2:¬ (s.length:Int) < 24:=by omega
  have q2:EV G (Tb (bs bb)) 126 [Lx 4 4,sv s] []=some (vi (gL s 4 4),[]):=Ac (G:=G) (bb:=bb) s hB 4 4 (by omega) (by omega) (by omega);have hg:=kP hB 4 4 (by omega);have hn:gL s 4 4=(pK s:Int):=by unfold pK;omega
  rw[hn] at q2;by_cases c3:Fi s
  ·rw[if_pos c3];unfold Fi at c3;generalize pK s=n at *;have e8:((n:Int).tmod 8)=((n % 8:Nat):Int):=rfl;by_cases x1:n % 8=0
   ·have x1':(n:Int).tmod 8=0:=by rw[e8,x1];rfl
    clear e8;by_cases x2:n < 24
    ·have x2':(n:Int) < 24:=by omega
     simp (disch:=omega) only[go_sem,h127l0,q1,q2,aC,d2,eq_true x1',eq_true x2']
    ·have x2':¬ (n:Int) < 24:=by omega
     have x3':(s.length:Int) - 4 < (n:Int):=by omega
     simp (disch:=omega) only[go_sem,h127l0,q1,q2,aC,d2,eq_true x1',x2',eq_true x3']
   ·have x1':¬ (n:Int).tmod 8=0:=by rw[e8];omega
    clear e8;simp (disch:=omega) only[go_sem,h127l0,q1,q2,aC,d2,x1']
  ·rw[if_neg c3];unfold Fi at c3;generalize pK s=n at *;have e8:((n:Int).tmod 8)=((n % 8:Nat):Int):=rfl;have x1':(n:Int).tmod 8=0:=by rw[e8];omega
   clear e8;have x2':¬ (n:Int) < 24:=by omega
   have x3':¬ (s.length:Int) - 4 < (n:Int):=by omega
   have hd:(s.drop n).length < k:=by rw[aZn];omega
   have ih:=U2 k (s.drop n) (acc++[s.take n]) hd (by rw[aZb,aZn];simp;omega) (fun x hx=>hB x (aZL hx))
   have es:(rS k (s.drop n)).map (acc++[s.take n]++·)=((rS k (s.drop n)).map (s.take n::·)).map (acc++·):=by
    rw[Option.map_map];congr 1;funext x;simp
   rw[es] at ih;rw[<- ih];refine congrArg (fun x=>pX false [.tmp 2,.tmp 3] 0 (sqK (EV G (Tb (bs bb))) G (.seq (.region [Oo 42 (.mov (.t 4)),Oo 2 (.mov (.t 42)),Oo 3 (.mov (.k (.bool true)))]) .ret) (Bf 0 x))) (aHJ ?_)
   rw[aZb,aZR];simp (disch:=omega) only[go_sem,h127l0,q1,q2,aC,d2,eq_true x1',x2',x3',aZa,hall,htk,aZe,aZl,aZm,aZc,aZd]
theorem Yf(o:List Int)(ho:o.length=512)(hB:aK o):EV G (Tb (bs bb)) 127 [sv o] []=some (sgv (Ab (o.drop 64)),[]):=by
 refine aB rfl ?_;have hl:(o.drop 64).length=448:=by rw[aZn,ho]
 have q:=U2 (G:=G) (bb:=bb) ((o.drop 64).length+1) (o.drop 64) [] (by omega) (by rw[hl];decide) (fun x hx=>hB x (aZL hx))
 have e:((rS ((o.drop 64).length+1) (o.drop 64)).map (([]:List (List Int))++·))=Ab (o.drop 64):=by
  unfold Ab;cases rS ((o.drop 64).length+1) (o.drop 64)<;>simp
 rw[e] at q;rw[<- q];clear q e;have ht:List.take 512 o=o:=aZM (by omega);simp (disch:=omega) only[go_sem,h127c,aC,ho,Int.reduceToNat,ht]
end
section
variable {G:aF}{bb:Bool}
