/- SortFunc of attributes as a base contract. Conditions: none. -/
import Derived.Test.YthepfneloomngaaGreatDoorMj
import Derived.Test.YthepfneloomngaaGreatDoorTc
import Derived.Test.YthepfneloomngaaGreatDoorRm
namespace Go.Proofs.YthepfneloomngaaGreatDoor
set_option linter.unusedSimpArgs false
set_option linter.unusedVariables false
open Go.Sort
def lT:List DC->Int×List UInt8×Int×Int
 |[.raw (.int .i64 t),.raw (.string n),.raw (.int .i64 d),_,_,_,.raw (.int .i64 f),_,_,_,_]=>(t,n.toList,f,d)
 |_=>(0,[],0,0)
def okD:List DC->Bool
 |[.raw (.int .i64 _),.raw (.string _),.raw (.int .i64 _),_,_,_,.raw (.int .i64 _),_,_,_,_]=>true
 |_=>false
def Yl(a b:List DC):Int:=Ny [Do (lT a).1 (lT b).1,F7 (lT a).2.1 (lT b).2.1,Do (lT a).2.2.1 (lT b).2.2.1,Do (lT a).2.2.2 (lT b).2.2.2]
theorem aFr{e:List DC}(h:okD e=true):∃t n d x3 x4 x5 f x7 x8 x9 x10,e=[.raw (.int .i64 t),.raw (.string n),.raw (.int .i64 d),x3,x4,x5,.raw (.int .i64 f),x7,x8,x9,x10]:=by
 unfold okD at h;split at h;exact⟨_,_,_,_,_,_,_,_,_,_,_,rfl⟩;cases h
theorem aTE{e:List DC}(h:okD e=true):e.length=11:=by
 obtain⟨t,n,d,x3,x4,x5,f,x7,x8,x9,x10,rfl⟩:=aFr h;rfl
theorem aTF(x y z t:Int):Ny [x,y,z,t]=if x=0 then (if y=0 then (if z=0 then t else z) else y) else x:=by
 unfold Ny Ny Ny Ny Ny
 repeat' split
 all_goals first|rfl|omega
theorem Vb:Cm (fun _=>True) Yl:=by
 have h:=((Dp.map (P:=fun _=>True) (fun e:List DC=>(lT e).1) (fun _ _=>trivial)).lex ((U8.map (P:=fun _=>True) (fun e:List DC=>(lT e).2.1) (fun _ _=>trivial)).lex ((Dp.map (P:=fun _=>True) (fun e:List DC=>(lT e).2.2.1) (fun _ _=>trivial)).lex (Dp.map (P:=fun _=>True) (fun e:List DC=>(lT e).2.2.2) (fun _ _=>trivial)))))
 have e:Yl=J5 (fun a b=>Do (lT a).1 (lT b).1) (J5 (fun a b=>F7 (lT a).2.1 (lT b).2.1) (J5 (fun a b=>Do (lT a).2.2.1 (lT b).2.2.1) (fun a b=>Do (lT a).2.2.2 (lT b).2.2.2))):=by
  funext a b;exact aTF _ _ _ _
 rw[e];exact h
theorem aTG{a b:List DC}(h:Yl a b=0):(lT a).2.2.2=(lT b).2.2.2:=by
 have h4:Do (lT a).2.2.2 (lT b).2.2.2=0:=by
  unfold Yl at h;rw[aTF] at h
  repeat' split at h
  all_goals first|assumption|(exfalso;contradiction)
 unfold Do at h4;split at h4;cases h4;split at h4;cases h4;omega
theorem aFs{F:Fz}{t d f:Int}{n:ByteArray}{x3 x4 x5 x7 x8 x9 x10:DC}{vs:List Value}(hl:vs.length=11)
  (h:∀(j:Nat) c v,([.raw (.int .i64 t),.raw (.string n),.raw (.int .i64 d),x3,x4,x5,.raw (.int .i64 f),x7,x8,x9,x10]:List DC)[j]?=some c->vs[j]?=some v->RD F c v):
  ∃u3 u4 u5 u7 u8 u9 u10,vs=[.int .i64 t,.string n,.int .i64 d,u3,u4,u5,.int .i64 f,u7,u8,u9,u10]:=by
 match vs,hl with
 |[w0,w1,w2,w3,w4,w5,w6,w7,w8,w9,w10],_=>
  have h0:=h 0 _ _ rfl rfl;have h1:=h 1 _ _ rfl rfl;have h2:=h 2 _ _ rfl rfl;have h6:=h 6 _ _ rfl rfl;cases h0;cases h1;cases h2;cases h6;exact⟨_,_,_,_,_,_,_,rfl⟩
theorem Ll{α β:Type}{f:α->β}:∀{l:List α},(l.map f).Nodup->∀{a b:α},a∈l->b∈l->f a=f b->a=b
 |[],_,a,b,ha,_,_=>by cases ha
 | x::l,h,a,b,ha,hb,e=>by
  rw[aXL,List.nodup_cons] at h;rcases aYR.1 ha with ea | ha
  ·rcases aYR.1 hb with eb | hb
   ·rw[ea,eb]
   ·rw[ea] at e;exact absurd (List.mem_map.2 ⟨b,hb,e.symm⟩) h.1
  ·rcases aYR.1 hb with eb | hb
   ·rw[eb] at e;exact absurd (List.mem_map.2 ⟨a,ha,e⟩) h.1
   ·exact Ll h.2 ha hb e
theorem aFt{G:aE}{es:List (List DC)}(hn:es≠[])(hk:∀e∈es,okD e=true)(hd:(es.map fun e=>(lT e).2.2.2).Nodup)(hlen:es.length<4611686018427387904):
  AC Tryz.prog G 244 [.one (.bls 0 0 es.length 11),.one (.fn 245 [])] [.box (mD es.flatten)] fun av o=>av=.tup []/\o=[.box (mD (qJ Yl es).flatten)]:=by
 have eg:∀args w,(callFunc 245 args).run Tryz.prog w=.ok (.enter 245 args) w:=enters_of Tryz.func245 (by kernel_rfl) rfl;have q:=aJ6 (P:=Tryz.prog) (G:=G) (f:=244) (g:=245) (k:=11) (by decide)
  (fun α _ enc cf blk cap d w hk h1 hO hcmp hH hblk hsz=>Tryz.slices_SortFunc enc hk h1 cf hO 245 #[] blk 0 cap d w eg hcmp hH hblk hsz)
  hn (fun e he=>aTE (hk e he)) hlen Yl (Vb.swo (fun i:_root_.Fin es.length=>es[i]) (fun _=>trivial))
  (fun F w dx dy vx vy hx hy lx ly rx ry=>by
   obtain⟨t,n,d,x3,x4,x5,f,x7,x8,x9,x10,rfl⟩:=aFr (hk dx hx);obtain⟨t',n',d',y3,y4,y5,f',y7,y8,y9,y10,rfl⟩:=aFr (hk dy hy);obtain⟨u3,u4,u5,u7,u8,u9,u10,rfl⟩:=aFs lx rx;obtain⟨v3,v4,v5,v7,v8,v9,v10,rfl⟩:=aFs ly ry;exact J6 t d f t' d' f' n n' u3 u4 u5 u7 u8 u9 u10 v3 v4 v5 v7 v8 v9 v10 w)
 refine q.gh (fun av o h _=>?_)
 obtain⟨rfl,es',hp,hs,rfl⟩:=h;refine⟨_,_,Gh.refl,aXF _,rfl,?_⟩;rw[aBC (P:=fun _=>True) Vb (fun _ _=>trivial) (fun a ha b hb h0=>?_) hp hs]
 have hid:=aTG h0;exact Ll hd ha hb hid
end Go.Proofs.YthepfneloomngaaGreatDoor
