/- The sign of a block, by the program. Conditions: as each theorem says. -/
import Derived.Test.YthepfneloomngaaGreatDoorSu
namespace Go.Proofs.YthepfneloomngaaGreatDoor
set_option linter.unusedSimpArgs false
set_option linter.unusedVariables false
set_option maxRecDepth 4000
section
variable {G:aE}{bb:Bool}
theorem aPq(s:List Int)(hB:aM s)(hl:s.length<=1000000):EV G (Tb (bs bb)) 73 [sv s,.one (.dc (.raw (.string ⟨#[255,255,255,255]⟩)))] []=some (vb (decide (s.take 4=sC)),[]):=by
 have e:EV G (Tb (bs bb)) 136 [sv s,.one (.dc (.raw (.string ⟨#[255,255,255,255]⟩)))] []=some (vb (decide (s.take 4=sC)),[]):=by
  refine aA rfl ?_;have e4:(((#[255,255,255,255]:Array UInt8).size:Nat):Int)=4:=rfl;by_cases c:4<=s.length;have c':(4:Int)<=(s.length:Int):=by omega
  have eT:(dL (s.take 4)=⟨#[255,255,255,255]⟩)=(s.take 4=sC):=dR (fun x hx=>hB x (aX6 hx)) N5
  simp (disch:=omega) only[go_sem,h136c,aF,e4,eq_true c',eT,Int.reduceToNat];have c':¬ (4:Int)<=(s.length:Int):=by omega
  have eF:¬ s.take 4=sC:=fun h=>by
   have:=congrArg List.length h;rw[aXK] at this;have e:sC.length=4:=rfl;omega
  simp (disch:=omega) only[go_sem,h136c,aF,e4,c',eF,Int.reduceToNat,decide_false]
 refine aA rfl ?_;simp (disch:=omega) only[go_sem,h73c,e]
theorem aPr{call:aO}{a:HC}{L:List Nat}{m:Nat}{r:Option (Exit×AS)}{s:AS}(h:K6 L m r=some s):fnK call G a L m r=EL call G a L m s:=by
 unfold K6 at h;split at h;injection h with h;rw[<- h];rfl
 cases h
abbrev Ci(p:List Int):List DC:=[.raw (.string (dL p))]
abbrev sgv(p:Option (List (List Int))):AV:=match p with
 |some ps=>.tup [.one (.dc (.slc (ps.map Ci))),.one (.dc (.raw (.bool true)))]
 |none=>.tup [.one (.dc (.slc [])),.one (.dc (.raw (.bool false)))]
theorem Sk:∀(k:Nat) (s:List Int) (acc:List (List Int)),s.length<k->acc.length+s.length<=1000->aM s->
  C8 false [.tmp 2,.tmp 3] 0 (sqK (EV G (Tb (bs bb))) G (.seq (.region [Oo 42 (.mov (.t 4)),Oo 2 (.mov (.t 42)),Oo 3 (.mov (.k (.bool true)))]) .ret)
   (Hl 0 (EL (EV G (Tb (bs bb))) G h210l0 [0,3,0] 2 ⟨(sv s::jk 3 (.one (.bld 0 acc.length)::.one (.ptr 1 0)::jk 37 [])),[.arr 0 1 (acc.map Ci),.box [.dc (ci 4),.dc (ci 4)]]⟩)))=
  some (sgv ((Ao k s).map (acc++·)),[])
 |0,s,acc,h,_,_=>by omega
 | k+1,s,acc,h,hA,hB=>by
  have q1:=aPq (G:=G) (bb:=bb) s hB (by omega);have hall:gE 1 (acc.map Ci)=true:=kJ (f:=Ci) (fun _=>rfl) _
  have htk:(acc.map Ci).take acc.length=acc.map Ci:=aYe (by rw[aXC];exact aXF _);rw[Uf,Ao];by_cases c1:s.take 4=sC
  ·rw[if_pos c1];rw[decide_eq_true c1] at q1;simp (disch:=omega) only[go_sem,h210l0,q1,aXC,htk,aXF]
  rw[if_neg c1];rw[decide_eq_false c1] at q1;by_cases c2:s.length < 24
  ·rw[if_pos c2];have d2:(s.length:Int) < 24:=by omega
   simp (disch:=omega) only[go_sem,h210l0,q1,aF,eq_true d2]
  rw[if_neg c2];have d2:¬ (s.length:Int) < 24:=by omega
  have q2:EV G (Tb (bs bb)) 209 [J9 4 4,sv s] []=some (vi (gL s 4 4),[]):=tQ (G:=G) (bb:=bb) s hB 4 4 (by omega) (by omega) (by omega);have hg:=tL hB 4 4 (by omega);have hn:gL s 4 4=(zK s:Int):=by unfold zK;omega
  rw[hn] at q2;by_cases c3:I7 s
  ·rw[if_pos c3];unfold I7 at c3;generalize zK s=n at *;have e8:((n:Int).tmod 8)=((n % 8:Nat):Int):=rfl;by_cases x1:n % 8=0
   ·have x1':(n:Int).tmod 8=0:=by rw[e8,x1];rfl
    clear e8;by_cases x2:n < 24
    ·have x2':(n:Int) < 24:=by omega
     simp (disch:=omega) only[go_sem,h210l0,q1,q2,aF,d2,eq_true x1',eq_true x2']
    ·have x2':¬ (n:Int) < 24:=by omega
     have x3':(s.length:Int) - 4 < (n:Int):=by omega
     simp (disch:=omega) only[go_sem,h210l0,q1,q2,aF,d2,eq_true x1',x2',eq_true x3']
   ·have x1':¬ (n:Int).tmod 8=0:=by rw[e8];omega
    clear e8;simp (disch:=omega) only[go_sem,h210l0,q1,q2,aF,d2,x1']
  ·rw[if_neg c3];unfold I7 at c3;generalize zK s=n at *;have e8:((n:Int).tmod 8)=((n % 8:Nat):Int):=rfl;have x1':(n:Int).tmod 8=0:=by rw[e8];omega
   clear e8;have x2':¬ (n:Int) < 24:=by omega
   have x3':¬ (s.length:Int) - 4 < (n:Int):=by omega
   have hd:(s.drop n).length < k:=by rw[aXS];omega
   have ih:=Sk k (s.drop n) (acc++[s.take n]) hd (by rw[aXD,aXS];simp;omega) (fun x hx=>hB x (aYl hx))
   have es:(Ao k (s.drop n)).map (acc++[s.take n]++·)=((Ao k (s.drop n)).map (s.take n::·)).map (acc++·):=by
    rw[Option.map_map];congr 1;funext x;simp
   rw[es] at ih;rw[<- ih];refine congrArg (fun x=>C8 false [.tmp 2,.tmp 3] 0 (sqK (EV G (Tb (bs bb))) G (.seq (.region [Oo 42 (.mov (.t 4)),Oo 2 (.mov (.t 42)),Oo 3 (.mov (.k (.bool true)))]) .ret) (Hl 0 x))) (aPr ?_)
   rw[aXD,aYg];simp (disch:=omega) only[go_sem,h210l0,q1,q2,aF,d2,eq_true x1',x2',x3',aXC,hall,htk,aXF,aXL,aXT,aXE,aXH]
theorem Vi(o:List Int)(ho:o.length=512)(hB:aM o):EV G (Tb (bs bb)) 210 [sv o] []=some (sgv (Cf (o.drop 64)),[]):=by
 refine aA rfl ?_;have hl:(o.drop 64).length=448:=by rw[aXS,ho]
 have q:=Sk (G:=G) (bb:=bb) ((o.drop 64).length+1) (o.drop 64) [] (by omega) (by rw[hl];decide) (fun x hx=>hB x (aYl hx))
 have e:((Ao ((o.drop 64).length+1) (o.drop 64)).map (([]:List (List Int))++·))=Cf (o.drop 64):=by
  unfold Cf;cases Ao ((o.drop 64).length+1) (o.drop 64)<;>simp
 rw[e] at q;rw[<- q];clear q e;have ht:List.take 512 o=o:=aYe (by omega);simp (disch:=omega) only[go_sem,h210c,aF,ho,Int.reduceToNat,ht]
end
section
variable {G:aE}{bb:Bool}
end
end Go.Proofs.YthepfneloomngaaGreatDoor
