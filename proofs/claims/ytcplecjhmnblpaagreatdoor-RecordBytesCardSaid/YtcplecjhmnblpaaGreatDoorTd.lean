/- SortFunc of attributes as a base contract. Conditions: none. -/
import Derived.Test.YtcplecjhmnblpaaGreatDoorMj
import Derived.Test.YtcplecjhmnblpaaGreatDoorTc
import Derived.Test.YtcplecjhmnblpaaGreatDoorRm
namespace Go.Proofs.YtcplecjhmnblpaaGreatDoor
set_option linter.unusedSimpArgs false
set_option linter.unusedVariables false
open Go.Sort
def lL:List DC->Int × List UInt8 × Int × Int
 | [.raw (.int .i64 t),.raw (.string n),.raw (.int .i64 d),_,_,_,.raw (.int .i64 f),_,_,_,_]=>(t,n.toList,f,d)
 | _=>(0,[],0,0)
def okD:List DC->Bool
 | [.raw (.int .i64 _),.raw (.string _),.raw (.int .i64 _),_,_,_,.raw (.int .i64 _),_,_,_,_]=>true
 | _=>false
def Re(a b:List DC):Int:=Hb [xN (lL a).1 (lL b).1,Af (lL a).2.1 (lL b).2.1,xN (lL a).2.2.1 (lL b).2.2.1,xN (lL a).2.2.2 (lL b).2.2.2]
theorem aAW{e:List DC}(h:okD e=true):∃ t n d x3 x4 x5 f x7 x8 x9 x10,e=[.raw (.int .i64 t),.raw (.string n),.raw (.int .i64 d),x3,x4,x5,.raw (.int .i64 f),x7,x8,x9,x10]:=by
 unfold okD at h;split at h
 ·exact⟨_,_,_,_,_,_,_,_,_,_,_,rfl⟩
 ·cases h
theorem aML{e:List DC}(h:okD e=true):e.length=11:=by
 obtain⟨t,n,d,x3,x4,x5,f,x7,x8,x9,x10,rfl⟩:=aAW h;rfl
theorem aMM(x y z t:Int):Hb [x,y,z,t]=if x=0 then (if y=0 then (if z=0 then t else z) else y) else x:=by
 unfold Hb Hb Hb Hb Hb
 repeat' split
 all_goals first | rfl | omega
theorem N4:Cm (fun _=>True) Re:=by
 have h:=((xO.map (P:=fun _=>True) (fun e:List DC=>(lL e).1) (fun _ _=>trivial)).lex ((Nz.map (P:=fun _=>True) (fun e:List DC=>(lL e).2.1) (fun _ _=>trivial)).lex ((xO.map (P:=fun _=>True) (fun e:List DC=>(lL e).2.2.1) (fun _ _=>trivial)).lex (xO.map (P:=fun _=>True) (fun e:List DC=>(lL e).2.2.2) (fun _ _=>trivial)))))
 have e:Re=Dx (fun a b=>xN (lL a).1 (lL b).1) (Dx (fun a b=>Af (lL a).2.1 (lL b).2.1) (Dx (fun a b=>xN (lL a).2.2.1 (lL b).2.2.1) (fun a b=>xN (lL a).2.2.2 (lL b).2.2.2))):=by
  funext a b;exact aMM _ _ _ _
 rw[e];exact h
theorem aMN{a b:List DC}(h:Re a b=0):(lL a).2.2.2=(lL b).2.2.2:=by
 have h4:xN (lL a).2.2.2 (lL b).2.2.2=0:=by
  unfold Re at h;rw[aMM] at h
  repeat' split at h
  all_goals first | assumption | (exfalso;contradiction)
 unfold xN at h4;split at h4
 ·cases h4
 ·split at h4
  ·cases h4
  ·omega
theorem aAX{F:Fz}{t d f:Int}{n:ByteArray}{x3 x4 x5 x7 x8 x9 x10:DC}{vs:List Value}(hl:vs.length=11)
  (h:∀ (j:Nat) c v,([.raw (.int .i64 t),.raw (.string n),.raw (.int .i64 d),x3,x4,x5,.raw (.int .i64 f),x7,x8,x9,x10]:List DC)[j]?=some c->vs[j]?=some v->RD F c v):
  ∃ u3 u4 u5 u7 u8 u9 u10,vs=[.int .i64 t,.string n,.int .i64 d,u3,u4,u5,.int .i64 f,u7,u8,u9,u10]:=by
 match vs,hl with
 | [w0,w1,w2,w3,w4,w5,w6,w7,w8,w9,w10],_=>
  have h0:=h 0 _ _ rfl rfl;have h1:=h 1 _ _ rfl rfl;have h2:=h 2 _ _ rfl rfl;have h6:=h 6 _ _ rfl rfl;cases h0;cases h1;cases h2;cases h6;exact⟨_,_,_,_,_,_,_,rfl⟩
theorem E6{α β:Type}{f:α->β}:∀ {l:List α},(l.map f).Nodup->∀ {a b:α},a∈l->b∈l->f a=f b->a=b
 | [],_,a,b,ha,_,_=>by cases ha
 | x::l,h,a,b,ha,hb,e=>by
  rw[aQo,List.nodup_cons] at h;rcases List.mem_cons.1 ha with ea | ha
  ·rcases List.mem_cons.1 hb with eb | hb
   ·rw[ea,eb]
   ·rw[ea] at e;exact absurd (List.mem_map.2 ⟨b,hb,e.symm⟩) h.1
  ·rcases List.mem_cons.1 hb with eb | hb
   ·rw[eb] at e;exact absurd (List.mem_map.2 ⟨a,ha,e⟩) h.1
   ·exact E6 h.2 ha hb e
theorem aAY{G:aH}{es:List (List DC)}(hn:es≠[])(hk:∀ e∈es,okD e=true)(hd:(es.map fun e=>(lL e).2.2.2).Nodup)(hlen:es.length < 4611686018427387904):
  AC Tryz.prog G 134 [.one (.bls 0 0 es.length 11),.one (.fn 119 [])] [.box (jB es.flatten)] fun av o=>av=.tup []/\o=[.box (jB (pM Re es).flatten)]:=by
 have eg:∀ args w,(callFunc 119 args).run Tryz.prog w=.ok (.enter 119 args) w:=enters_of Tryz.func119 (by kernel_rfl) rfl;have q:=aE6 (P:=Tryz.prog) (G:=G) (f:=134) (g:=119) (k:=11) (by decide)
  (fun α _ enc cf blk cap d w hk h1 hO hcmp hH hblk hsz=>Tryz.slices_SortFunc enc hk h1 cf hO 119 #[] blk 0 cap d w eg hcmp hH hblk hsz)
  hn (fun e he=>aML (hk e he)) hlen Re (N4.swo (fun i:_root_.Fin es.length=>es[i]) (fun _=>trivial))
  (fun F w dx dy vx vy hx hy lx ly rx ry=>by
   obtain⟨t,n,d,x3,x4,x5,f,x7,x8,x9,x10,rfl⟩:=aAW (hk dx hx);obtain⟨t',n',d',y3,y4,y5,f',y7,y8,y9,y10,rfl⟩:=aAW (hk dy hy);obtain⟨u3,u4,u5,u7,u8,u9,u10,rfl⟩:=aAX lx rx;obtain⟨v3,v4,v5,v7,v8,v9,v10,rfl⟩:=aAX ly ry;exact Dy t d f t' d' f' n n' u3 u4 u5 u7 u8 u9 u10 v3 v4 v5 v7 v8 v9 v10 w)
 refine q.gh (fun av o h _=>?_)
 obtain⟨rfl,es',hp,hs,rfl⟩:=h;refine⟨_,_,Gh.refl,aQf _,rfl, ?_⟩;rw[Vf (P:=fun _=>True) N4 (fun _ _=>trivial) (fun a ha b hb h0=>?_) hp hs]
 have hid:=aMN h0;exact E6 hd ha hb hid
end Go.Proofs.YtcplecjhmnblpaaGreatDoor
