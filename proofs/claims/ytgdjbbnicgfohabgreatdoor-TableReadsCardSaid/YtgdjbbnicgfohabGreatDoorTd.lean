/- Part. Conditions: none. -/
import Derived.Test.YtgdjbbnicgfohabGreatDoorMj
import Derived.Test.YtgdjbbnicgfohabGreatDoorTc
import Derived.Test.YtgdjbbnicgfohabGreatDoorRm
namespace Go.Proofs.YtgdjbbnicgfohabGreatDoor
set_option linter.unusedSimpArgs false
set_option linter.unusedVariables false
open Go.Sort
def mV:L DC->Int×L UInt8×Int×Int
 |[.raw (.int .i64 t),.raw (.string n),.raw (.int .i64 d),_,_,_,.raw (.int .i64 f),_,_,_,_]=>(t,n.toList,f,d)
 |_=>(0,[],0,0)
def okD:L DC->Bool
 |[.raw (.int .i64 _),.raw (.string _),.raw (.int .i64 _),_,_,_,.raw (.int .i64 _),_,_,_,_]=>true
 |_=>false
def cmD(a b:L DC):Int:=P8 [Fe (mV a).1 (mV b).1,H3 (mV a).2.1 (mV b).2.1,Fe (mV a).2.2.1 (mV b).2.2.1,Fe (mV a).2.2.2 (mV b).2.2.2]
theorem aHa{e:L DC}(h:okD e=true):∃t n d b c g f i j k a,e=[.raw (.int .i64 t),.raw (.string n),.raw (.int .i64 d),b,c,g,.raw (.int .i64 f),i,j,k,a]:=by
 unfold okD at h;split at h;exact⟨_,_,_,_,_,_,_,_,_,_,_,rfl⟩;cases h
theorem aVw{e:L DC}(h:okD e=true):e.length=11:=by
 obtain⟨t,n,d,b,c,g,f,i,j,k,a,rfl⟩:=aHa h;rfl
theorem aVx(x y z t:Int):P8 [x,y,z,t]=if x=0 then (if y=0 then (if z=0 then t else z) else y) else x:=by
 unfold P8 P8 P8 P8 P8
 repeat' split
 all_goals first|rfl|omega
theorem Yh:Cm (fun _=>True) cmD:=by
 have h:=((Ff.map (P:=fun _=>True) (fun e:L DC=>(mV e).1) (fun _ _=>trivial)).lex ((Ye.map (P:=fun _=>True) (fun e:L DC=>(mV e).2.1) (fun _ _=>trivial)).lex ((Ff.map (P:=fun _=>True) (fun e:L DC=>(mV e).2.2.1) (fun _ _=>trivial)).lex (Ff.map (P:=fun _=>True) (fun e:L DC=>(mV e).2.2.2) (fun _ _=>trivial)))))
 have e:cmD=L6 (fun a b=>Fe (mV a).1 (mV b).1) (L6 (fun a b=>H3 (mV a).2.1 (mV b).2.1) (L6 (fun a b=>Fe (mV a).2.2.1 (mV b).2.2.1) (fun a b=>Fe (mV a).2.2.2 (mV b).2.2.2))):=by
  funext a b;exact aVx _ _ _ _
 rw[e];exact h
theorem aVy{a b:L DC}(h:cmD a b=0):(mV a).2.2.2=(mV b).2.2.2:=by
 have h4:Fe (mV a).2.2.2 (mV b).2.2.2=0:=by
  unfold cmD at h;rw[aVx] at h
  repeat' split at h
  all_goals first|assumption|(exfalso;contradiction)
 unfold Fe at h4;split at h4;cases h4;split at h4;cases h4;omega
theorem aHb{F:Fz}{t d f:Int}{n:ByteArray}{s u w x y z b:DC}{vs:L Value}(k:vs.length=11) (h:∀(j:Nat) c v,([.raw (.int .i64 t),.raw (.string n),.raw (.int .i64 d),s,u,w,.raw (.int .i64 f),x,y,z,b]:L DC)[j]?=some c->vs[j]?=some v->RD F c v):∃l m o p u8 q a,vs=[.int .i64 t,.string n,.int .i64 d,l,m,o,.int .i64 f,p,u8,q,a]:=by
 match vs,k with
 |[A,B,C,D,E,G,H,I,J,K,r],_=>
  have e:=h 0 _ _ rfl rfl;have g:=h 1 _ _ rfl rfl;have i:=h 2 _ _ rfl rfl;have h6:=h 6 _ _ rfl rfl;cases e;cases g;cases i;cases h6;exact⟨_,_,_,_,_,_,_,rfl⟩
theorem Nt{α g:Type}{f:α->g}:∀{l:L α},(l.map f).Nodup->∀{a b:α},a∈l->b∈l->f a=f b->a=b
 |[],_,a,b,c,_,_=>by cases c
 | x::l,h,a,b,c,d,e=>by
  rw[aZM,List.nodup_cons] at h;rcases bAL.1 c with ea | c
  ·rcases bAL.1 d with eb | d
   ·rw[ea,eb]
   ·rw[ea] at e;exact absurd (List.mem_map.2 ⟨b,d,e.symm⟩) h.1
  ·rcases bAL.1 d with eb | d
   ·rw[eb] at e;exact absurd (List.mem_map.2 ⟨a,c,e⟩) h.1
   ·exact Nt h.2 c d e
theorem aHc{G:aF}{es:L (L DC)}(S:es≠[])(m:∀e∈es,okD e=true)(Q:(es.map fun e=>(mV e).2.2.2).Nodup)(p:es.length<4611686018427387904):AC Tryz.prog G 161 [.one (.bls 0 0 es.length 11),.one (.fn 162 [])] [.box (kP es.flatten)] fun y o=>y=.tup []/\o=[.box (kP (Ha cmD es).flatten)]:=by
 have D:∀c w,(callFunc 162 c).run Tryz.prog w=.ok (.enter 162 c) w:=enters_of Tryz.func162 (by kernel_rfl) rfl;have q:=aL5 (P:=Tryz.prog) (G:=G) (f:=161) (g:=162) (k:=11) (by decide)
  (fun α _ enc z r cap d w m J M l K j u=>Tryz.slices_SortFunc enc m J z M 162 #[] r 0 cap d w D l K j u)
  S (fun e R=>aVw (m e R)) p cmD (Yh.swo (fun i:_root_.Fin es.length=>es[i]) (fun _=>trivial))
  (fun F w B C vx vy U V W X Z ry=>by
   obtain⟨t,n,d,x3,x4,x5,f,x7,x8,x9,x10,rfl⟩:=aHa (m B U);obtain⟨t',Y,A,y3,y4,y5,H,y7,y8,y9,y10,rfl⟩:=aHa (m C V);obtain⟨u3,u4,u5,u7,u8,u9,v,rfl⟩:=aHb W Z;obtain⟨v3,v4,v5,v7,v8,v9,x,rfl⟩:=aHb X ry;exact L7 t d f t' A H n Y u3 u4 u5 u7 u8 u9 v v3 v4 v5 v7 v8 v9 x w)
 refine q.gh (fun y o h _=>?_)
 obtain⟨rfl,E,hp,T,rfl⟩:=h;refine⟨_,_,Gh.refl,aZE _,rfl,?_⟩;rw[aDq (P:=fun _=>True) Yh (fun _ _=>trivial) (fun a N b O I=>?_) hp T]
 have s:=aVy I;exact Nt Q N O s
