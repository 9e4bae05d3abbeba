/- SortFunc of attributes as a base contract. Conditions: none. -/
import Derived.Test.YtcplecjhmnblpaaGreatDoorMj
import Derived.Test.YtcplecjhmnblpaaGreatDoorTc
import Derived.Test.YtcplecjhmnblpaaGreatDoorRm
namespace Go.Proofs.YtcplecjhmnblpaaGreatDoor
set_option linter.unusedSimpArgs false
set_option linter.unusedVariables false
open Go.Sort
def keyD:List DC→Int × List UInt8 × Int × Int
 | [.raw (.int .i64 t),.raw (.string n),.raw (.int .i64 d),_,_,_,.raw (.int .i64 f),_,_,_,_]=>(t,n.toList,f,d)
 | _=>(0,[],0,0)
def okD:List DC→Bool
 | [.raw (.int .i64 _),.raw (.string _),.raw (.int .i64 _),_,_,_,.raw (.int .i64 _),_,_,_,_]=>true
 | _=>false
def cmD (a b:List DC):Int:=orZ [cmI (keyD a).1 (keyD b).1,cmB (keyD a).2.1 (keyD b).2.1,cmI (keyD a).2.2.1 (keyD b).2.2.1,cmI (keyD a).2.2.2 (keyD b).2.2.2]
theorem okD_e {e:List DC} (h:okD e=true):∃ t n d x3 x4 x5 f x7 x8 x9 x10,e=[.raw (.int .i64 t),.raw (.string n),.raw (.int .i64 d),x3,x4,x5,.raw (.int .i64 f),x7,x8,x9,x10]:=by
 unfold okD at h
 split at h
 ·exact ⟨_,_,_,_,_,_,_,_,_,_,_,rfl⟩
 ·cases h
theorem okD_l {e:List DC} (h:okD e=true):e.length=11:=by
 obtain ⟨t,n,d,x3,x4,x5,f,x7,x8,x9,x10,rfl⟩:=okD_e h
 rfl
theorem orZ4 (x y z t:Int):orZ [x,y,z,t]=if x=0 then (if y=0 then (if z=0 then t else z) else y) else x:=by
 unfold orZ orZ orZ orZ orZ
 repeat' split
 all_goals first | rfl | omega
theorem cmD_ok:Cm (fun _=>True) cmD:=by
 have h:=((cmI_ok.map (P:=fun _=>True) (fun e:List DC=>(keyD e).1) (fun _ _=>trivial)).lex ((cmB_ok.map (P:=fun _=>True) (fun e:List DC=>(keyD e).2.1) (fun _ _=>trivial)).lex ((cmI_ok.map (P:=fun _=>True) (fun e:List DC=>(keyD e).2.2.1) (fun _ _=>trivial)).lex (cmI_ok.map (P:=fun _=>True) (fun e:List DC=>(keyD e).2.2.2) (fun _ _=>trivial)))))
 have e:cmD=lexC (fun a b=>cmI (keyD a).1 (keyD b).1) (lexC (fun a b=>cmB (keyD a).2.1 (keyD b).2.1) (lexC (fun a b=>cmI (keyD a).2.2.1 (keyD b).2.2.1) (fun a b=>cmI (keyD a).2.2.2 (keyD b).2.2.2))):=by
  funext a b
  exact orZ4 _ _ _ _
 rw [e]
 exact h
theorem cmD_0 {a b:List DC} (h:cmD a b=0):(keyD a).2.2.2=(keyD b).2.2.2:=by
 have h4:cmI (keyD a).2.2.2 (keyD b).2.2.2=0:=by
  unfold cmD at h
  rw [orZ4] at h
  repeat' split at h
  all_goals first | assumption | (exfalso;contradiction)
 unfold cmI at h4
 split at h4
 ·cases h4
 ·split at h4
  ·cases h4
  ·omega
theorem row_at {F:Fz} {t d f:Int} {n:ByteArray} {x3 x4 x5 x7 x8 x9 x10:DC} {vs:List Value} (hl:vs.length=11)
  (h:∀ (j:Nat) c v,([.raw (.int .i64 t),.raw (.string n),.raw (.int .i64 d),x3,x4,x5,.raw (.int .i64 f),x7,x8,x9,x10]:List DC)[j]?=some c→vs[j]?=some v→RD F c v):
  ∃ u3 u4 u5 u7 u8 u9 u10,vs=[.int .i64 t,.string n,.int .i64 d,u3,u4,u5,.int .i64 f,u7,u8,u9,u10]:=by
 match vs,hl with
 | [w0,w1,w2,w3,w4,w5,w6,w7,w8,w9,w10],_=>
  have h0:=h 0 _ _ rfl rfl
  have h1:=h 1 _ _ rfl rfl
  have h2:=h 2 _ _ rfl rfl
  have h6:=h 6 _ _ rfl rfl
  cases h0;cases h1;cases h2;cases h6
  exact ⟨_,_,_,_,_,_,_,rfl⟩
theorem inj_nodup {α β:Type} {f:α→β}:∀ {l:List α},(l.map f).Nodup→∀ {a b:α},a∈l→b∈l→f a=f b→a=b
 | [],_,a,b,ha,_,_=>by cases ha
 | x::l,h,a,b,ha,hb,e=>by
  rw [List.map_cons,List.nodup_cons] at h
  rcases List.mem_cons.1 ha with ea | ha
  ·rcases List.mem_cons.1 hb with eb | hb
   ·rw [ea,eb]
   ·rw [ea] at e
    exact absurd (List.mem_map.2 ⟨b,hb,e.symm⟩) h.1
  ·rcases List.mem_cons.1 hb with eb | hb
   ·rw [eb] at e
    exact absurd (List.mem_map.2 ⟨a,ha,e⟩) h.1
   ·exact inj_nodup h.2 ha hb e
theorem sortA_ac {G:Glob} {es:List (List DC)} (hn:es≠[]) (hk:∀ e∈es,okD e=true) (hd:(es.map fun e=>(keyD e).2.2.2).Nodup) (hlen:es.length < 4611686018427387904):
  AC Tryz.prog G 134 [.one (.bls 0 0 es.length 11),.one (.fn 119 [])] [.box (dcC es.flatten)] fun av o=>av=.tup []∧o=[.box (dcC (srtK cmD es).flatten)]:=by
 have eg:∀ args w,(callFunc 119 args).run Tryz.prog w=.ok (.enter 119 args) w:=enters_of Tryz.func119 (by kernel_rfl) rfl
 have q:=sort_ac (P:=Tryz.prog) (G:=G) (f:=134) (g:=119) (k:=11) (by decide)
  (fun α _ enc cf blk cap d w hk h1 hO hcmp hH hblk hsz=>Tryz.slices_SortFunc enc hk h1 cf hO 119 #[] blk 0 cap d w eg hcmp hH hblk hsz)
  hn (fun e he=>okD_l (hk e he)) hlen cmD (cmD_ok.swo (fun i:_root_.Fin es.length=>es[i]) (fun _=>trivial))
  (fun F w dx dy vx vy hx hy lx ly rx ry=>by
   obtain ⟨t,n,d,x3,x4,x5,f,x7,x8,x9,x10,rfl⟩:=okD_e (hk dx hx)
   obtain ⟨t',n',d',y3,y4,y5,f',y7,y8,y9,y10,rfl⟩:=okD_e (hk dy hy)
   obtain ⟨u3,u4,u5,u7,u8,u9,u10,rfl⟩:=row_at lx rx
   obtain ⟨v3,v4,v5,v7,v8,v9,v10,rfl⟩:=row_at ly ry
   exact compare_calls t d f t' d' f' n n' u3 u4 u5 u7 u8 u9 u10 v3 v4 v5 v7 v8 v9 v10 w)
 refine q.gh (fun av o h _=>?_)
 obtain ⟨rfl,es',hp,hs,rfl⟩:=h
 refine ⟨_,_,Gh.refl,Nat.le_refl _,rfl, ?_⟩
 rw [srtK_uniq (P:=fun _=>True) cmD_ok (fun _ _=>trivial) (fun a ha b hb h0=>?_) hp hs]
 have hid:=cmD_0 h0
 exact inj_nodup hd ha hb hid
end Go.Proofs.YtcplecjhmnblpaaGreatDoor
