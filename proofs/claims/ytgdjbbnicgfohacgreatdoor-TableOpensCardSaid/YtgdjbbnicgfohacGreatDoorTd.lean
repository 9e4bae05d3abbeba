/- Part. Conditions: none. -/
import Derived.Test.YtgdjbbnicgfohacGreatDoorMj
import Derived.Test.YtgdjbbnicgfohacGreatDoorTc
import Derived.Test.YtgdjbbnicgfohacGreatDoorRm
namespace Go.Proofs.YtgdjbbnicgfohacGreatDoor
set_option linter.unusedSimpArgs false
set_option linter.unusedVariables false
open Go.Sort
def mU:L DC->Int×L UInt8×Int×Int
 |[.raw (.int .i64 t),.raw (.string n),.raw (.int .i64 d),_,_,_,.raw (.int .i64 f),_,_,_,_]=>(t,n.toList,f,d)
 |_=>(0,[],0,0)
def okD:L DC->Bool
 |[.raw (.int .i64 _),.raw (.string _),.raw (.int .i64 _),_,_,_,.raw (.int .i64 _),_,_,_,_]=>true
 |_=>false
def cmD(a b:L DC):Int:=P4 [Fe (mU a).1 (mU b).1,Hv (mU a).2.1 (mU b).2.1,Fe (mU a).2.2.1 (mU b).2.2.1,Fe (mU a).2.2.2 (mU b).2.2.2]
theorem aHd{e:L DC}(h:okD e=true):∃t n d b c g f i j k a,e=[.raw (.int .i64 t),.raw (.string n),.raw (.int .i64 d),b,c,g,.raw (.int .i64 f),i,j,k,a]:=by
 unfold okD at h;split at h;exact⟨_,_,_,_,_,_,_,_,_,_,_,rfl⟩;cases h
theorem aVf{e:L DC}(h:okD e=true):e.length=11:=by
 obtain⟨t,n,d,b,c,g,f,i,j,k,a,rfl⟩:=aHd h;rfl
theorem aVg(x y z t:Int):P4 [x,y,z,t]=if x=0 then (if y=0 then (if z=0 then t else z) else y) else x:=by
 unfold P4 P4 P4 P4 P4
 repeat' split
 all_goals first|rfl|omega
theorem X6:Cm (fun _=>True) cmD:=by
 have h:=((Ff.map (P:=fun _=>True) (fun e:L DC=>(mU e).1) (fun _ _=>trivial)).lex ((X3.map (P:=fun _=>True) (fun e:L DC=>(mU e).2.1) (fun _ _=>trivial)).lex ((Ff.map (P:=fun _=>True) (fun e:L DC=>(mU e).2.2.1) (fun _ _=>trivial)).lex (Ff.map (P:=fun _=>True) (fun e:L DC=>(mU e).2.2.2) (fun _ _=>trivial)))))
 have e:cmD=Lt (fun a b=>Fe (mU a).1 (mU b).1) (Lt (fun a b=>Hv (mU a).2.1 (mU b).2.1) (Lt (fun a b=>Fe (mU a).2.2.1 (mU b).2.2.1) (fun a b=>Fe (mU a).2.2.2 (mU b).2.2.2))):=by
  funext a b;exact aVg _ _ _ _
 rw[e];exact h
theorem aVh{a b:L DC}(h:cmD a b=0):(mU a).2.2.2=(mU b).2.2.2:=by
 have h4:Fe (mU a).2.2.2 (mU b).2.2.2=0:=by
  unfold cmD at h;rw[aVg] at h
  repeat' split at h
  all_goals first|assumption|(exfalso;contradiction)
 unfold Fe at h4;split at h4;cases h4;split at h4;cases h4;omega
theorem aHe{F:Fz}{t d f:Int}{n:ByteArray}{r s u w x y b:DC}{vs:L Value}(i:vs.length=11)(h:∀(j:Nat) c v,([.raw (.int .i64 t),.raw (.string n),.raw (.int .i64 d),r,s,u,.raw (.int .i64 f),w,x,y,b]:L DC)[j]?=some c->vs[j]?=some v->RD F c v):∃k l m o u8 p a,vs=[.int .i64 t,.string n,.int .i64 d,k,l,m,.int .i64 f,o,u8,p,a]:=by
 match vs,i with
 |[z,A,B,C,D,E,G,H,I,J,q],_=>
  have h0:=h 0 _ _ rfl rfl;have e:=h 1 _ _ rfl rfl;have g:=h 2 _ _ rfl rfl;have h6:=h 6 _ _ rfl rfl;cases h0;cases e;cases g;cases h6;exact⟨_,_,_,_,_,_,_,rfl⟩
theorem Np{α g:Type}{f:α->g}:∀{l:L α},(l.map f).Nodup->∀{a b:α},a∈l->b∈l->f a=f b->a=b
 |[],_,a,b,c,_,_=>by cases c
 | x::l,h,a,b,c,d,e=>by
  rw[aZl,List.nodup_cons] at h;rcases bAl.1 c with ea | c
  ·rcases bAl.1 d with eb | d
   ·rw[ea,eb]
   ·rw[ea] at e;exact absurd (List.mem_map.2 ⟨b,d,e.symm⟩) h.1
  ·rcases bAl.1 d with eb | d
   ·rw[eb] at e;exact absurd (List.mem_map.2 ⟨a,c,e⟩) h.1
   ·exact Np h.2 c d e
theorem aHf{G:aF}{es:L (L DC)}(R:es≠[])(m:∀e∈es,okD e=true)(O:(es.map fun e=>(mU e).2.2.2).Nodup)(p:es.length<4611686018427387904):AC Tryz.prog G 177 [.one (.bls 0 0 es.length 11),.one (.fn 178 [])] [.box (kV es.flatten)] fun y o=>y=.tup []/\o=[.box (kV (G3 cmD es).flatten)]:=by
 have D:∀c w,(callFunc 178 c).run Tryz.prog w=.ok (.enter 178 c) w:=enters_of Tryz.func178 (by kernel_rfl) rfl;have q:=aLR (P:=Tryz.prog) (G:=G) (f:=177) (g:=178) (k:=11) (by decide)
  (fun α _ enc z r cap d w m I K l J j u=>Tryz.slices_SortFunc enc m I z K 178 #[] r 0 cap d w D l J j u)
  R (fun e Q=>aVf (m e Q)) p cmD (X6.swo (fun i:_root_.Fin es.length=>es[i]) (fun _=>trivial))
  (fun F w B C vx vy T U V W Y Z=>by
   obtain⟨t,n,d,x3,x4,x5,f,x7,x8,x9,x10,rfl⟩:=aHd (m B T);obtain⟨t',X,A,y3,y4,y5,H,y7,y8,y9,y10,rfl⟩:=aHd (m C U);obtain⟨u3,u4,u5,u7,u8,u9,v,rfl⟩:=aHe V Y;obtain⟨v3,v4,v5,v7,v8,v9,x,rfl⟩:=aHe W Z;exact Lu t d f t' A H n X u3 u4 u5 u7 u8 u9 v v3 v4 v5 v7 v8 v9 x w)
 refine q.gh (fun y o h _=>?_)
 obtain⟨rfl,E,hp,S,rfl⟩:=h;refine⟨_,_,Gh.refl,aZe _,rfl,?_⟩;rw[aDe (P:=fun _=>True) X6 (fun _ _=>trivial) (fun a M b N h0=>?_) hp S]
 have s:=aVh h0;exact Np O M N s
