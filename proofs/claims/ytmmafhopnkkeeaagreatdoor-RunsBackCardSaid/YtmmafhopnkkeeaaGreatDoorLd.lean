/- An instruction that changes nothing gives what the model's operation gives. Conditions: none. -/
import Derived.Calls
import Derived.LoopN
import Derived.Tactics
import Derived.Orders
import Derived.WalkKit
namespace Go.Proofs.YtmmafhopnkkeeaaGreatDoor
section
def is1:Value→Bool
  | .agg _=>false
  | .tuple _=>false
  | _=>true
inductive DC where
  | raw (v:Value)
  | slc (es:List (List DC))
  | ptr (cs:List DC)
inductive Cel where
  | dc (d:DC)
  | ptr (id off:Nat)
  | bld (id n:Nat)
  | ept (id i size off:Nat)
  | bls (id lo n size:Nat)
  | ref (cs:List DC)
  | mpc (es:List (Int × Value))
  | fn (f:FuncId) (caps:List Cel)
  | junk
inductive TV where
  | one (c:Cel)
  | agg (cs:List Cel)
inductive AV where
  | one (c:Cel)
  | agg (cs:List Cel)
  | tup (l:List TV)
  | junk
inductive AObj where
  | box (cs:List Cel)
  | arr (cap size:Nat) (es:List (List DC))
  | dead
structure AS where
  sl:List AV
  hp:List AObj
inductive OI where
  | box (b:Nat)
  | arr (b:Option Nat) (cap:Nat)
  | dead
def OI.blk:OI→Option Nat
  | .box b=>some b
  | .arr b _=>b
  | .dead=>none
abbrev Fz:=Nat→Option Obj
def Fz.cell? (F:Fz) (a:Addr):Option Value:=
  match F a.block with
  | some (.cells c _ _)=>if a.spot.isSome then none else c[a.off]?
  | _=>none
def Fz.sub (F F':Fz):Prop:=∀ b o,F b=some o→F' b=some o
inductive RD (F:Fz):DC→Value→Prop where
  | raw (v:Value) (h:is1 v=true):RD F (.raw v) v
  | nil (A:Option Addr) (c:Nat):RD F (.slc []) (.slice A 0 c)
  | slc (b off c size:Nat) (es:List (List DC)) (g:Nat→Nat→Value)
      (hsz:∀ e∈es,e.length=size)
      (hr:∀ (i j:Nat) e d,es[i]?=some e→e[j]?=some d→RD F d (g i j))
      (hc:∀ (i j:Nat) e d,es[i]?=some e→e[j]?=some d→F.cell? ⟨b,off+(i * size+j),none⟩=some (g i j))
      (hcap:es.length≤c):RD F (.slc es) (.slice (some ⟨b,off,none⟩) es.length c)
  | ptr (cs:List DC) (b off:Nat) (g:Nat→Value) (hr:∀ (j:Nat) d,cs[j]?=some d→RD F d (g j))
      (hc:∀ (j:Nat) d,cs[j]?=some d→F.cell? ⟨b,off+j,none⟩=some (g j)):RD F (.ptr cs) (.pointer (some ⟨b,off,none⟩))
inductive RC (F:Fz) (γ:List OI):Cel→Value→Prop where
  | dc (d:DC) (v:Value) (h:RD F d v):RC F γ (.dc d) v
  | ptr (id off b:Nat) (h:γ[id]?=some (.box b)):RC F γ (.ptr id off) (.pointer (some ⟨b,off,none⟩))
  | bldN (id cap:Nat) (h:γ[id]?=some (.arr none cap)):RC F γ (.bld id 0) (.slice none 0 0)
  | bld (id n b cap:Nat) (h:γ[id]?=some (.arr (some b) cap)):RC F γ (.bld id n) (.slice (some ⟨b,0,none⟩) n cap)
  | ept (id i size off b cap:Nat) (h:γ[id]?=some (.arr (some b) cap)):RC F γ (.ept id i size off) (.pointer (some ⟨b,i * size+off,none⟩))
  | bls (id lo n size b cap c off:Nat) (h:γ[id]?=some (.arr (some b) cap)∨γ[id]?=some (.box b)) (ho:n≠0→off=lo * size) (hc:n≤c):RC F γ (.bls id lo n size) (.slice (some ⟨b,off,none⟩) n c)
  | ref (cs:List DC) (b off:Nat) (g:Nat→Value) (hr:∀ (j:Nat) d,cs[j]?=some d→RD F d (g j))
      (hc:∀ (j:Nat) d,cs[j]?=some d→F.cell? ⟨b,off+j,none⟩=some (g j)):RC F γ (.ref cs) (.pointer (some ⟨b,off,none⟩))
  | mpc (es:List (Int × Value)) (r clk:Nat) (ents:Array MapEntry) (h:F r=some (.map ents clk)) (he:ents.toList.map (fun e=>(e.key,e.val))=es.map (fun p=>(Value.int .i64 p.1,p.2)))
      (h1:∀ p∈es,is1 p.2=true):RC F γ (.mpc es) (.map (some r))
  | fn (f:FuncId) (caps:List Cel) (g:Nat→Value) (hr:∀ (i:Nat) c,caps[i]?=some c→RC F γ c (g i)):
      RC F γ (.fn f caps) (.func (.func f) #[] ((List.range caps.length).map g).toArray)
  | junk (v:Value) (h:is1 v=true):RC F γ .junk v
inductive RT (F:Fz) (γ:List OI):TV→Value→Prop where
  | one (c:Cel) (v:Value) (h:RC F γ c v):RT F γ (.one c) v
  | agg (cs:List Cel) (vs:Array Value) (hs:vs.size=cs.length) (h:∀ (i:Nat) c v,cs[i]?=some c→vs[i]?=some v→RC F γ c v):RT F γ (.agg cs) (.agg vs)
inductive RV (F:Fz) (γ:List OI):AV→Value→Prop where
  | one (c:Cel) (v:Value) (h:RC F γ c v):RV F γ (.one c) v
  | agg (cs:List Cel) (vs:Array Value) (hs:vs.size=cs.length) (h:∀ (i:Nat) c v,cs[i]?=some c→vs[i]?=some v→RC F γ c v):RV F γ (.agg cs) (.agg vs)
  | tup (l:List TV) (vs:Array Value) (hs:vs.size=l.length) (h:∀ (i:Nat) t v,l[i]?=some t→vs[i]?=some v→RT F γ t v):RV F γ (.tup l) (.tuple vs)
  | junk (v:Value):RV F γ .junk v
theorem RD.is1 {F:Fz} {d:DC} {v:Value} (h:RD F d v):is1 v=true:=by cases h<;>first | rfl | assumption
theorem RC.is1 {F:Fz} {γ:List OI} {c:Cel} {v:Value} (h:RC F γ c v):is1 v=true:=by
  cases h<;>first | rfl | assumption | exact RD.is1 (by assumption)
theorem Fz.sub.cell {F F':Fz} (h:F.sub F') {a:Addr} {v:Value} (hc:F.cell? a=some v):F'.cell? a=some v:=by
  unfold Fz.cell? at *
  cases hF:F a.block with
  | none=>simp [hF] at hc
  | some o=>rw [h _ _ hF];rw [hF] at hc;exact hc
theorem Fz.cell_world {F:Fz} {w:World} (h:∀ b o,F b=some o→w.heap[b]?=some o) {a:Addr} {v:Value} (hc:F.cell? a=some v):w.cell? a=some v:=by
  unfold Fz.cell? at hc
  unfold World.cell?
  cases hF:F a.block with
  | none=>simp [hF] at hc
  | some o=>rw [h _ _ hF];rw [hF] at hc;exact hc
theorem RD.mono {F F':Fz} (hs:F.sub F') {d:DC} {v:Value} (h:RD F d v):RD F' d v:=by
  induction h with
  | raw v h=>exact .raw v h
  | nil A c=>exact .nil A c
  | slc b off c size es g hsz hr hc hcap ih=>exact .slc b off c size es g hsz (fun i j e d h1 h2=>ih i j e d h1 h2) (fun i j e d h1 h2=>hs.cell (hc i j e d h1 h2)) hcap
  | ptr cs b off g hr hc ih=>exact .ptr cs b off g (fun j d h=>ih j d h) (fun j d h=>hs.cell (hc j d h))
mutual
def Cel.keep (p:Nat→Bool):Cel→Bool
  | .ptr id _=>!p id
  | .bld id _=>!p id
  | .ept id _ _ _=>!p id
  | .bls id _ _ _=>!p id
  | .fn _ caps=>keepL p caps
  | .dc _=>true
  | .ref _=>true
  | .mpc _=>true
  | .junk=>true
def keepL (p:Nat→Bool):List Cel→Bool
  | []=>true
  | c::cs=>c.keep p&&keepL p cs
end
theorem keepL_get {p:Nat→Bool}:∀ {cs:List Cel} {i:Nat} {c:Cel},keepL p cs=true→cs[i]?=some c→c.keep p=true
  | [],_,_,_,h=>by simp at h
  | c::cs,0,c',h,h'=>by simp [keepL] at h h';rw [← h'];exact h.1
  | c::cs,i+1,c',h,h'=>by simp [keepL] at h h';exact keepL_get h.2 h'
theorem RC.mono {F F':Fz} {γ γ':List OI} (hs:F.sub F') {p:Nat→Bool} (hg:∀ (id:Nat) (o:OI),p id=false→γ[id]?=some o→γ'[id]?=some o)
    {c:Cel} {v:Value} (h:RC F γ c v):c.keep p=true→RC F' γ' c v:=by
  induction h with
  | dc d v h=>intro _;exact .dc d v (h.mono hs)
  | ptr id off b h=>intro hk;exact .ptr id off b (hg _ _ (by simpa [Cel.keep] using hk) h)
  | bldN id cap h=>intro hk;exact .bldN id cap (hg _ _ (by simpa [Cel.keep] using hk) h)
  | bld id n b cap h=>intro hk;exact .bld id n b cap (hg _ _ (by simpa [Cel.keep] using hk) h)
  | ept id i size off b cap h=>intro hk;exact .ept id i size off b cap (hg _ _ (by simpa [Cel.keep] using hk) h)
  | bls id lo n size b cap c off h ho hc=>intro hk;exact .bls id lo n size b cap c off (h.imp (hg _ _ (by simpa [Cel.keep] using hk)) (hg _ _ (by simpa [Cel.keep] using hk))) ho hc
  | ref cs b off g hr hc=>intro _;exact .ref cs b off g (fun j d h=>(hr j d h).mono hs) (fun j d h=>hs.cell (hc j d h))
  | mpc es r clk ents h he h1=>intro _;exact .mpc es r clk ents (hs _ _ h) he h1
  | fn f caps g hr ih=>intro hk;exact .fn f caps g (fun i c h=>ih i c h (keepL_get (by simpa [Cel.keep] using hk) h))
  | junk v h=>intro _;exact .junk v h
def killC (p:Nat→Bool) (c:Cel):Cel:=if c.keep p then c else .junk
def killT (p:Nat→Bool):TV→TV
  | .one c=>.one (killC p c)
  | .agg cs=>.agg (cs.map (killC p))
def killV (p:Nat→Bool):AV→AV
  | .one c=>.one (killC p c)
  | .agg cs=>.agg (cs.map (killC p))
  | .tup l=>.tup (l.map (killT p))
  | .junk=>.junk
def killO (p:Nat→Bool):AObj→AObj
  | .box cs=>.box (cs.map (killC p))
  | o=>o
section
variable {F F':Fz} {γ γ':List OI} {p:Nat→Bool}
theorem RC.kill (hs:F.sub F') (hg:∀ (id:Nat) (o:OI),p id=false→γ[id]?=some o→γ'[id]?=some o) {c:Cel} {v:Value} (h:RC F γ c v):RC F' γ' (killC p c) v:=by
  unfold killC
  split
  · exact h.mono hs hg (by assumption)
  · exact .junk v h.is1
theorem RCs.kill (hs:F.sub F') (hg:∀ (id:Nat) (o:OI),p id=false→γ[id]?=some o→γ'[id]?=some o) {cs:List Cel} {vs:Array Value}
    (h:∀ (i:Nat) c v,cs[i]?=some c→vs[i]?=some v→RC F γ c v):∀ (i:Nat) c v,(cs.map (killC p))[i]?=some c→vs[i]?=some v→RC F' γ' c v:=by
  intro i c v hc hv
  rw [List.getElem?_map] at hc
  cases hci:cs[i]? with
  | none=>simp [hci] at hc
  | some c0=>simp [hci] at hc;subst hc;exact (h i c0 v hci hv).kill hs hg
theorem RT.kill (hs:F.sub F') (hg:∀ (id:Nat) (o:OI),p id=false→γ[id]?=some o→γ'[id]?=some o) {t:TV} {v:Value} (h:RT F γ t v):RT F' γ' (killT p t) v:=by
  cases h with
  | one c v h=>exact .one _ _ (h.kill hs hg)
  | agg cs vs hsz h=>exact .agg _ _ (by simpa using hsz) (RCs.kill hs hg h)
theorem RV.kill (hs:F.sub F') (hg:∀ (id:Nat) (o:OI),p id=false→γ[id]?=some o→γ'[id]?=some o) {a:AV} {v:Value} (h:RV F γ a v):RV F' γ' (killV p a) v:=by
  cases h with
  | one c v h=>exact .one _ _ (h.kill hs hg)
  | agg cs vs hsz h=>exact .agg _ _ (by simpa using hsz) (RCs.kill hs hg h)
  | tup l vs hsz h=>
    refine .tup _ _ (by simpa using hsz) (fun i t v ht hv=>?_)
    rw [List.getElem?_map] at ht
    cases hti:l[i]? with
    | none=>simp [hti] at ht
    | some t0=>simp [hti] at ht;subst ht;exact (h i t0 v hti hv).kill hs hg
  | junk v=>exact .junk v
theorem Cel.keep_none (c:Cel):c.keep (fun _=>false)=true:=by
  have key:∀ n,∀ c:Cel,SizeOf.sizeOf c≤n→c.keep (fun _=>false)=true:=by
    intro n
    induction n with
    | zero=>intro c h;cases c<;>simp at h
    | succ n ih=>
      intro c h
      cases c with
      | fn f caps=>
        simp only [Cel.keep]
        have:∀ cs:List Cel,SizeOf.sizeOf cs≤n→keepL (fun _=>false) cs=true:=by
          intro cs
          induction cs with
          | nil=>intro _;rfl
          | cons x xs ihx=>
            intro hx
            simp at hx
            simp [keepL,ih x (by omega),ihx (by omega)]
        exact this caps (by simp at h;omega)
      | _=>simp [Cel.keep]
  exact key _ c (Nat.le_refl _)
theorem RC.ext (hs:F.sub F') (hg:∀ (id:Nat) (o:OI),γ[id]?=some o→γ'[id]?=some o) {c:Cel} {v:Value} (h:RC F γ c v):RC F' γ' c v:=
  h.mono (p:=fun _=>false) hs (fun id o _ h=>hg id o h) (Cel.keep_none c)
theorem RT.ext (hs:F.sub F') (hg:∀ (id:Nat) (o:OI),γ[id]?=some o→γ'[id]?=some o) {t:TV} {v:Value} (h:RT F γ t v):RT F' γ' t v:=by
  cases h with
  | one c v h=>exact .one _ _ (h.ext hs hg)
  | agg cs vs hsz h=>exact .agg _ _ hsz (fun i c v h1 h2=>(h i c v h1 h2).ext hs hg)
theorem RV.ext (hs:F.sub F') (hg:∀ (id:Nat) (o:OI),γ[id]?=some o→γ'[id]?=some o) {a:AV} {v:Value} (h:RV F γ a v):RV F' γ' a v:=by
  cases h with
  | one c v h=>exact .one _ _ (h.ext hs hg)
  | agg cs vs hsz h=>exact .agg _ _ hsz (fun i c v h1 h2=>(h i c v h1 h2).ext hs hg)
  | tup l vs hsz h=>exact .tup _ _ hsz (fun i t v h1 h2=>(h i t v h1 h2).ext hs hg)
  | junk v=>exact .junk v
end
def NF (fz:Nat × Nat) (n:Nat):Prop:=∀ o,o < n→¬ (fz.1≤o∧o < fz.2)
def Own (w:World) (b:Nat) (vs:Array Value) (T:TypeId):Prop:=∃ fz,w.heap[b]?=some (.cells vs T fz)∧NF fz vs.size
def OK (F:Fz) (γ:List OI) (w:World):AObj→OI→Prop
  | .box cs,.box b=>∃ (vs:Array Value) (T:TypeId),Own w b vs T∧cs.length≤vs.size∧∀ (i:Nat) c v,cs[i]?=some c→vs[i]?=some v→RC F γ c v
  | .arr cap _ es,.arr none cap'=>cap=0∧cap'=0∧es=[]
  | .arr cap size es,.arr (some b) cap'=>cap'=cap∧es.length≤cap∧(∀ e∈es,e.length=size)∧
      ∃ (vs:Array Value) (T:TypeId),Own w b vs T∧vs.size=cap * size∧
        ∀ (i j:Nat) e d v,es[i]?=some e→e[j]?=some d→vs[i * size+j]?=some v→RD F d v
  | .dead,.dead=>True
  | _,_=>False
def blkAt (γ:List OI) (i:Nat):Option Nat:=(γ[i]?).bind OI.blk
structure Inv (F:Fz) (γ:List OI) (hp:List AObj) (w:World):Prop where
  fz:∀ b o,F b=some o→w.heap[b]?=some o
  len:γ.length=hp.length
  nd:∀ i j b,blkAt γ i=some b→blkAt γ j=some b→i=j
  disj:∀ i b,blkAt γ i=some b→F b=none
  ok:∀ (i:Nat) o x,hp[i]?=some o→γ[i]?=some x→OK F γ w o x
structure Ext (k:Nat) (F:Fz) (γ:List OI) (w:World) (F':Fz) (γ':List OI) (w':World):Prop where
  sub:F.sub F'
  os:w'.os=w.os
  tape:w'.tape=w.tape
  output:w'.output=w.output
  size:w.heap.size≤w'.heap.size
  far:∀ b,b < w.heap.size→(∀ i,blkAt γ i≠some b)→w'.heap[b]?=w.heap[b]?
  new:∀ b o,F' b=some o→F b=some o∨w.heap.size≤b∨∃ i,blkAt γ i=some b
  blk:∀ i b,blkAt γ' i=some b→(∃ j,blkAt γ j=some b)∨w.heap.size≤b
  box:∀ i,i < k→∀ b,γ[i]?=some (.box b)→γ'[i]?=some (.box b)
theorem Ext.refl (k:Nat) (F:Fz) (γ:List OI) (w:World):Ext k F γ w F γ w:=
  ⟨fun _ _ h=>h,rfl,rfl,rfl,Nat.le_refl _,fun _ _ _=>rfl,fun _ _ h=>.inl h,fun i _ h=>.inl ⟨i,h⟩,fun _ _ _ h=>h⟩
theorem Ext.trans {k:Nat} {F F1 F2:Fz} {γ γ1 γ2:List OI} {w w1 w2:World} (h:Ext k F γ w F1 γ1 w1) (g:Ext k F1 γ1 w1 F2 γ2 w2):Ext k F γ w F2 γ2 w2:=by
  refine ⟨fun b o hb=>g.sub b o (h.sub b o hb),g.os.trans h.os,g.tape.trans h.tape,g.output.trans h.output,Nat.le_trans h.size g.size, ?_, ?_, ?_, ?_⟩
  · intro b hb hn
    rw [g.far b (Nat.lt_of_lt_of_le hb h.size) ?_,h.far b hb hn]
    intro i hi
    rcases h.blk i b hi with ⟨j,hj⟩ | hge
    · exact hn j hj
    · omega
  · intro b o hb
    rcases g.new b o hb with h1 | h1 | ⟨i,hi⟩
    · exact h.new b o h1
    · exact .inr (.inl (Nat.le_trans h.size h1))
    · rcases h.blk i b hi with hj | hge
      · exact .inr (.inr hj)
      · exact .inr (.inl hge)
  · intro i b hb
    rcases g.blk i b hb with ⟨j,hj⟩ | hge
    · exact h.blk j b hj
    · exact .inr (Nat.le_trans h.size hge)
  · intro i hi b hb
    exact g.box i hi b (h.box i hi b hb)
theorem Ext.le {k k':Nat} {F F':Fz} {γ γ':List OI} {w w':World} (h:Ext k F γ w F' γ' w') (hk:k'≤k):Ext k' F γ w F' γ' w':=
  ⟨h.sub,h.os,h.tape,h.output,h.size,h.far,h.new,h.blk,fun i hi=>h.box i (Nat.lt_of_lt_of_le hi hk)⟩
def Slots (F:Fz) (γ:List OI) (sl:List AV) (a:Act):Prop:=
  a.defers=[]∧a.tmps.size=sl.length∧∀ (i:Nat) av v,sl[i]?=some av→a.tmps[i]?=some v→RV F γ av v
end
section
inductive AArg where
  | t (n:Nat) | k (v:Value) | g (n:Nat) | f (n:FuncId)
inductive EK where
  | b | i | s
inductive AI where
  | mov (x:AArg) | pick (c a b:AArg)
  | alloc (zero:List Value) | box (x:AArg)
  | load (isAgg:Bool) (size:Nat) (x:AArg) | store (size:Nat) (x v:AArg)
  | nilc (x:AArg) | bin (op:BinOp) (x y:AArg) | un (op:UnOp) (x:AArg)
  | binb (neg:Bool) (x y:AArg) | eqs (neg:Bool) (ks:List EK) (x y:AArg)
  | conv (k:IntKind) (x:AArg) | cvid (x:AArg) | cvbs (x:AArg)
  | addo (off:Nat) (x:AArg) | fld (isAgg:Bool) (size off:Nat) (x:AArg)
  | ixA (n size:Nat) (x i:AArg) | ixL (size:Nat) (x i:AArg) | ixS (x i:AArg)
  | slS (x:AArg) (lo hi:Option AArg) | slL (size:Nat) (x:AArg) (lo hi:Option AArg)
  | bslc (size len:Nat) (zero:List Value) (parts:List (Nat × AArg))
  | build (zero:List Value) (parts:List (Nat × Nat × AArg))
  | ext (x:AArg) (n:Nat) | lenS (x:AArg) | lenL (x:AArg) | lenA (n:Nat)
  | min2 (x y:AArg) | max2 (x y:AArg)
  | mkfn (f:FuncId) (caps:List AArg)
  | call (f:FuncId) (args:List AArg) | callv (x:AArg) (args:List AArg)
  | app (size bytes:Nat) (zero:List Value) (s x:AArg) | apps (s x:AArg)
  | mk (size bytes:Nat) (zero:List Value) (l c:AArg)
  | clr (size:Nat) (zero:List Value) (x:AArg)
  | isnil (p neg:Bool) (x:AArg)
  | mpx (ok:Bool) (zero:Value) (x k:AArg)
  | cpys (d x:AArg) | cvsb (x:AArg) | slA (n size:Nat) (x:AArg) (lo hi:Option AArg)
  | ixV (n:Nat) (x i:AArg) | s2p (n:Nat) (x:AArg)
structure AOp where
  dst:Option Nat
  ai:AI
  guard:Option (Nat × Bool)
abbrev Glob:=Nat→Option (List DC)
abbrev rawC (v:Value):Cel:=.dc (.raw v)
abbrev rawV (v:Value):AV:=.one (.dc (.raw v))
def avOf:Value→AV
  | .agg cs=>if cs.toList.all is1 then .agg (cs.toList.map rawC) else .junk
  | .tuple _=>.junk
  | v=>rawV v
def evA (G:Glob) (sl:List AV):AArg→AV
  | .t n=>sl.getD n .junk
  | .k v=>avOf v
  | .g n=>match G n with | some cs=>.one (.ref cs) | none=>.junk
  | .f n=>.one (.fn n [])
def asRaw:AV→Option Value
  | .one (.dc (.raw v))=>some v
  | _=>none
def asInt?:AV→Option Int
  | .one (.dc (.raw (.int _ n)))=>some n
  | _=>none
def asBool?:AV→Option Bool
  | .one (.dc (.raw (.bool b)))=>some b
  | _=>none
def asStr?:AV→Option ByteArray
  | .one (.dc (.raw (.string b)))=>some b
  | _=>none
def cellsOf:AV→Option (List Cel)
  | .one c=>some [c]
  | .agg cs=>some cs
  | _=>none
def pack (isAgg:Bool) (cs:List Cel):Option AV:=
  match isAgg,cs with
  | true,cs=>some (.agg cs)
  | false,[c]=>some (.one c)
  | _,_=>none
def eqR:EK→Value→Value→Option Bool
  | .b,.bool a,.bool b=>some (a==b)
  | .i,.int j a,.int k b=>if j=k then some (a==b) else none
  | .s,.string a,.string b=>some (a.toList==b.toList)
  | _,_,_=>none
def eqCs:List EK→List Cel→List Cel→Option Bool
  | [],[],[]=>some true
  | k::ks,.dc (.raw a)::as,.dc (.raw b)::bs=>(eqR k a b).bind fun x=>(eqCs ks as bs).bind fun y=>some (x&&y)
  | _,_,_=>none
def intOp (op:BinOp) (k:IntKind) (a b:Int):Option Value:=
  match op with
  | .add=>some (.int k (k.wrap (a+b)))
  | .sub=>some (.int k (k.wrap (a - b)))
  | .mul=>some (.int k (k.wrap (a * b)))
  | .quo=>if b=0 then none else some (.int k (k.wrap (a.tdiv b)))
  | .rem=>if b=0 then none else some (.int k (a.tmod b))
  | .and=>some (.int k (k.wrap (BitVec.ofInt k.bits a &&& BitVec.ofInt k.bits b).toNat))
  | .or=>some (.int k (k.wrap (BitVec.ofInt k.bits a ||| BitVec.ofInt k.bits b).toNat))
  | .xor=>some (.int k (k.wrap (BitVec.ofInt k.bits a ^^^ BitVec.ofInt k.bits b).toNat))
  | .andNot=>some (.int k (k.wrap (BitVec.ofInt k.bits a &&& ~~~BitVec.ofInt k.bits b).toNat))
  | .eql=>some (.bool (a==b))
  | .neq=>some (.bool (a != b))
  | .lss=>some (.bool (a < b))
  | .leq=>some (.bool (a≤b))
  | .gtr=>some (.bool (a > b))
  | .geq=>some (.bool (a≥b))
  | _=>none
def strOp (op:BinOp) (a b:ByteArray):Option Value:=
  match op with
  | .add=>if a.size+b.size≤9223372036854775807 then some (.string (a++b)) else none
  | .eql=>some (.bool (a.toList==b.toList))
  | .neq=>some (.bool !(a.toList==b.toList))
  | .lss=>some (.bool (Op.bytesLess a.toList b.toList))
  | .leq=>some (.bool (Op.bytesLess a.toList b.toList||a.toList==b.toList))
  | .gtr=>some (.bool !(Op.bytesLess a.toList b.toList||a.toList==b.toList))
  | .geq=>some (.bool !(Op.bytesLess a.toList b.toList))
  | _=>none
def binV (op:BinOp) (x y:AV):Option AV:=
  match x,y with
  | .one (.dc (.raw (.int j a))),.one (.dc (.raw (.int k b)))=>
    match op with
    | .shl=>if b < 0 then none else some (rawV (.int j (j.wrap (a * 2 ^ (min b.toNat j.bits)))))
    | .shr=>if b < 0 then none else some (rawV (.int j (a.fdiv (2 ^ (min b.toNat j.bits)))))
    | op=>if j=k then (intOp op j a b).map rawV else none
  | .one (.dc (.raw (.string a))),.one (.dc (.raw (.string b)))=>(strOp op a b).map rawV
  | _,_=>none
def binbV (neg:Bool) (x y:AV):Option AV:=
  match x,y with
  | .one (.dc (.raw (.bool a))),.one (.dc (.raw (.bool b)))=>some (rawV (.bool (if neg then !(a==b) else a==b)))
  | _,_=>none
def eqsV (neg:Bool) (ks:List EK) (x y:AV):Option AV:=
  match x,y with
  | .agg as,.agg bs=>(eqCs ks as bs).map fun b=>rawV (.bool (if neg then !b else b))
  | _,_=>none
def unV (op:UnOp) (x:AV):Option AV:=
  match op,x with
  | .neg,.one (.dc (.raw (.int k n)))=>some (rawV (.int k (k.wrap (0 - n))))
  | .not,.one (.dc (.raw (.bool b)))=>some (rawV (.bool !b))
  | .xor,.one (.dc (.raw (.int k n)))=>(intOp .xor k (if k.signed then -1 else k.max) n).map rawV
  | _,_=>none
def addoV (off:Nat):AV→Option AV
  | .one (.ptr id o)=>some (.one (.ptr id (o+off)))
  | .one (.ept id i s o)=>some (.one (.ept id i s (o+off)))
  | .one (.ref cs)=>some (.one (.ref (cs.drop off)))
  | _=>none
def hpGet (hp:List AObj) (id:Nat):AObj:=hp.getD id .dead
def loadV (hp:List AObj) (isAgg:Bool) (size:Nat):AV→Option AV
  | .one (.ptr id o)=>
    match hpGet hp id with
    | .box cs=>if o+size≤cs.length then pack isAgg ((cs.drop o).take size) else none
    | _=>none
  | .one (.ept id i s o)=>
    match hpGet hp id with
    | .arr _ s' es=>
      match es[i]? with
      | some e=>if s=s'∧o+size≤e.length then pack isAgg (((e.drop o).take size).map .dc) else none
      | none=>none
    | _=>none
  | .one (.ref cs)=>if size≤cs.length then pack isAgg ((cs.take size).map .dc) else none
  | _=>none
def fldV (isAgg:Bool) (size off:Nat):AV→Option AV
  | .agg cs=>if off+size≤cs.length then pack isAgg ((cs.drop off).take size) else none
  | _=>none
def ixAV (n size:Nat) (x:AV) (i:Int):Option AV:=
  if 0≤i∧i < n then addoV (i.toNat * size) x else none
def ixLV (hp:List AObj) (size:Nat) (x:AV) (i:Int):Option AV:=
  match x with
  | .one (.dc (.slc es))=>
    if 0≤i then
      match es[i.toNat]? with
      | some e=>if e.length=size then some (.one (.ref e)) else none
      | none=>none
    else none
  | .one (.bld id n)=>
    match hpGet hp id with
    | .arr _ s es=>if 0≤i∧i < n∧n≤es.length∧s=size then some (.one (.ept id i.toNat size 0)) else none
    | _=>none
  | .one (.bls id k n z)=>
    match hpGet hp id with
    | .arr _ s es=>if 0≤i∧i < n∧k+n≤es.length∧s=size∧z=size then some (.one (.ept id (k+i.toNat) size 0)) else none
    | .box _=>if 0≤i∧i < n∧z=size then some (.one (.ptr id ((k+i.toNat) * size))) else none
    | _=>none
  | _=>none
def ixSV (x:AV) (i:Int):Option AV:=
  match asStr? x with
  | some s=>if 0≤i then match s.data.toList[i.toNat]? with | some b=>some (rawV (.int .u8 b.toNat)) | none=>none else none
  | none=>none
def bound (x:Option AV) (top dflt:Nat):Option Nat:=
  match x with
  | none=>some dflt
  | some v=>match asInt? v with | some i=>if 0≤i∧i≤top then some i.toNat else none | none=>none
def slSV (x:AV) (lo hi:Option AV):Option AV:=
  (asStr? x).bind fun s=>(bound hi s.size s.size).bind fun h=>(bound lo h 0).bind fun l=>some (rawV (.string (s.extract l h)))
def slLV (hp:List AObj) (size:Nat) (x:AV) (lo hi:Option AV):Option AV:=
  match x with
  | .one (.dc (.slc es))=>
    (bound hi es.length es.length).bind fun h=>(bound lo h 0).bind fun l=>if es.all (fun e=>e.length=size) then some (.one (.dc (.slc ((es.take h).drop l)))) else none
  | .one (.dc (.raw (.slice none 0 0)))=>
    (bound hi 0 0).bind fun h=>(bound lo h 0).bind fun _=>some x
  | .one (.bld id n)=>
    match hpGet hp id,lo with
    | .arr _ _ es,none=>if n≤es.length then (bound hi n n).bind fun h=>some (.one (.bld id h)) else none
    | .arr _ s es,some lo=>if n≤es.length∧s=size then (bound hi n n).bind fun h=>(bound (some lo) h 0).bind fun l=>some (.one (if l=0 then .bld id h else .bls id l (h - l) size)) else none
    | _,_=>none
  | .one (.bls id k n s)=>
    match hpGet hp id with
    | .arr _ s' es=>if k+n≤es.length∧s'=size∧s=size then (bound hi n n).bind fun h=>(bound lo h 0).bind fun l=>some (.one (.bls id (k+l) (h - l) size)) else none
    | .box _=>if s=size then (bound hi n n).bind fun h=>(bound lo h 0).bind fun l=>some (.one (.bls id (k+l) (h - l) size)) else none
    | _=>none
  | _=>none
def slAV (n size:Nat) (x:AV) (lo hi:Option AV):Option AV:=
  match x with
  | .one (.ptr id off)=>if off % size=0 then (bound hi n n).bind fun h=>(bound lo h 0).bind fun l=>some (.one (.bls id (off / size+l) (h - l) size)) else none
  | _=>none
def lenLV:AV→Option AV
  | .one (.dc (.slc es))=>some (rawV (.int .i64 es.length))
  | .one (.dc (.raw (.slice _ n _)))=>some (rawV (.int .i64 n))
  | .one (.bld _ n)=>some (rawV (.int .i64 n))
  | .one (.bls _ _ n _)=>some (rawV (.int .i64 n))
  | _=>none
def putAt (cs:List Cel) (off:Nat) (vs:List Cel):List Cel:=cs.take off++vs++cs.drop (off+vs.length)
def fillV (zero:List Cel):List (Nat × Nat × AV)→Option (List Cel)
  | []=>some zero
  | (off,size,v)::rest=>(cellsOf v).bind fun vs=>if vs.length=size∧off+size≤zero.length then fillV (putAt zero off vs) rest else none
def extV (x:AV) (n:Nat):Option AV:=
  match x with
  | .tup l=>match l[n]? with | some (.one c)=>some (.one c) | some (.agg cs)=>some (.agg cs) | none=>none
  | _=>none
def minV (x y:AV):Option AV:=
  match x,y with
  | .one (.dc (.raw (.int k a))),.one (.dc (.raw (.int _ b)))=>some (rawV (.int k (if b < a then b else a)))
  | _,_=>none
def maxV (x y:AV):Option AV:=
  match x,y with
  | .one (.dc (.raw (.int k a))),.one (.dc (.raw (.int _ b)))=>some (rawV (.int k (if b > a then b else a)))
  | _,_=>none
def nilcV:AV→Option AV
  | .one (.ptr id o)=>some (.one (.ptr id o))
  | .one (.ept id i s o)=>some (.one (.ept id i s o))
  | .one (.ref cs)=>some (.one (.ref cs))
  | .one (.dc (.ptr cs))=>some (.one (.ref cs))
  | _=>none
def nilS:AV→Option Bool
  | .one (.dc (.raw (.slice none 0 0)))=>some true
  | .one (.dc (.slc (_::_)))=>some false
  | .one (.bld _ (_+1))=>some false
  | .one (.bls _ _ _ _)=>some false
  | _=>none
def nilP:AV→Option Bool
  | .one (.dc (.raw (.pointer none)))=>some true
  | .one (.ptr _ _)=>some false
  | .one (.ept _ _ _ _)=>some false
  | .one (.ref _)=>some false
  | .one (.dc (.ptr _))=>some false
  | _=>none
def nilV (p neg:Bool) (v:AV):Option AV:=(bif p then nilP v else nilS v).map fun b=>rawV (.bool (b != neg))
def mpGet:List (Int × Value)→Int→Option Value
  | [],_=>none
  | (a,v)::es,k=>if a=k then some v else mpGet es k
def mpR:Bool→Value→Option Value→AV
  | true,_,some v=>.tup [.one (rawC v),.one (rawC (.bool true))]
  | true,z,none=>.tup [.one (rawC z),.one (rawC (.bool false))]
  | false,_,some v=>rawV v
  | false,z,none=>rawV z
def mpxV (ok:Bool) (z:Value):AV→AV→Option AV
  | .one (.mpc es),.one (.dc (.raw (.int .i64 k)))=>some (mpR ok z (mpGet es k))
  | _,_=>none
def pickV (c a b:AV):Option AV:=
  match asBool? c with
  | some c=>some (if c then a else b)
  | none=>none
def dcs:List Cel→Option (List DC)
  | []=>some []
  | .dc d::cs=>(dcs cs).map (d::·)
  | _=>none
def bytesOf (es:List (List DC)):Option (List UInt8):=
  match es with
  | []=>some []
  | [.raw (.int .u8 n)]::rest=>(bytesOf rest).map (UInt8.ofNat n.toNat::·)
  | _=>none
def bytesC:List Cel→Option (List UInt8)
  | []=>some []
  | .dc (.raw (.int .u8 n))::rest=>(bytesC rest).map (UInt8.ofNat n.toNat::·)
  | _=>none
def cvbsV (hp:List AObj):AV→Option AV
  | .one (.dc (.slc es))=>(bytesOf es).map fun l=>rawV (.string ⟨l.toArray⟩)
  | .one (.dc (.raw (.slice none _ _)))=>some (rawV (.string ⟨#[]⟩))
  | .one (.bld id n)=>
    match hpGet hp id with
    | .arr _ _ es=>if n≤es.length then (bytesOf (es.take n)).map fun l=>rawV (.string ⟨l.toArray⟩) else none
    | _=>none
  | .one (.bls id k n z)=>
    match hpGet hp id with
    | .box cs=>if z=1∧k+n≤cs.length then (bytesC ((cs.drop k).take n)).map fun l=>rawV (.string ⟨l.toArray⟩) else none
    | _=>none
  | _=>none
def oneOf:AV→Option Cel
  | .one c=>some c
  | _=>none
def ixVV (n:Nat):AV→Int→Option AV
  | .agg cs,i=>if 0≤i∧i < n∧cs.length=n then cs[i.toNat]?.map AV.one else none
  | _,_=>none
def s2pV (n:Nat):AV→Option AV
  | .one (.dc (.slc es))=>if n≤es.length∧0 < n then some (.one (.ref (es.take n).flatten)) else none
  | _=>none
def evP (G:Glob) (as:AS):AI→Option AV
  | .mov x=>some (evA G as.sl x)
  | .pick c a b=>pickV (evA G as.sl c) (evA G as.sl a) (evA G as.sl b)
  | .load g s x=>loadV as.hp g s (evA G as.sl x)
  | .nilc x=>nilcV (evA G as.sl x)
  | .isnil p n x=>nilV p n (evA G as.sl x)
  | .mpx ok z x k=>mpxV ok z (evA G as.sl x) (evA G as.sl k)
  | .bin op x y=>binV op (evA G as.sl x) (evA G as.sl y)
  | .binb n x y=>binbV n (evA G as.sl x) (evA G as.sl y)
  | .eqs n ks x y=>eqsV n ks (evA G as.sl x) (evA G as.sl y)
  | .un op x=>unV op (evA G as.sl x)
  | .conv k x=>(asInt? (evA G as.sl x)).map fun n=>rawV (.int k (k.wrap n))
  | .cvid x=>(asStr? (evA G as.sl x)).map fun s=>rawV (.string s)
  | .cvbs x=>cvbsV as.hp (evA G as.sl x)
  | .addo o x=>addoV o (evA G as.sl x)
  | .fld g s o x=>fldV g s o (evA G as.sl x)
  | .ixA n s x i=>(asInt? (evA G as.sl i)).bind fun i=>ixAV n s (evA G as.sl x) i
  | .ixL s x i=>(asInt? (evA G as.sl i)).bind fun i=>ixLV as.hp s (evA G as.sl x) i
  | .ixS x i=>(asInt? (evA G as.sl i)).bind fun i=>ixSV (evA G as.sl x) i
  | .ixV n x i=>(asInt? (evA G as.sl i)).bind fun i=>ixVV n (evA G as.sl x) i
  | .s2p n x=>s2pV n (evA G as.sl x)
  | .slS x lo hi=>slSV (evA G as.sl x) (lo.map (evA G as.sl)) (hi.map (evA G as.sl))
  | .slL s x lo hi=>slLV as.hp s (evA G as.sl x) (lo.map (evA G as.sl)) (hi.map (evA G as.sl))
  | .slA n s x lo hi=>slAV n s (evA G as.sl x) (lo.map (evA G as.sl)) (hi.map (evA G as.sl))
  | .build z ps=>(fillV (z.map rawC) (ps.map fun (o,s,x)=>(o,s,evA G as.sl x))).map .agg
  | .ext x n=>extV (evA G as.sl x) n
  | .lenS x=>(asStr? (evA G as.sl x)).map fun s=>rawV (.int .i64 s.size)
  | .lenL x=>lenLV (evA G as.sl x)
  | .lenA n=>some (rawV (.int .i64 n))
  | .min2 x y=>minV (evA G as.sl x) (evA G as.sl y)
  | .max2 x y=>maxV (evA G as.sl x) (evA G as.sl y)
  | .mkfn f caps=>(caps.mapM fun c=>oneOf (evA G as.sl c)).map fun cs=>.one (.fn f cs)
  | _=>none
def putS (sl:List AV) (dst:Option Nat) (v:AV):List AV:=
  match dst with
  | some d=>sl.set d v
  | none=>sl
end
section
def argOf:Operand→AArg
  | .tmp t=>.t t
  | .const v=>.k v
  | .global g=>.g g
  | .func f=>.f f
def sizeP (P:Program) (t:TypeId):Option Nat:=(P.info? t).map (·.size)
def aggD:TypeDesc→Bool
  | .struct _=>true
  | .array _ _=>true
  | _=>false
def aggP (P:Program) (t:TypeId):Option Bool:=(P.underlying t).map aggD
def ekD:TypeDesc→Option EK
  | .bool=>some .b
  | .int _=>some .i
  | .string=>some .s
  | _=>none
def flatFs (P:Program):List Field→Nat→Option (List EK)
  | [],_=>some []
  | f::fs,off=>if f.offset=off∧f.name≠"_" then ((P.underlying f.type).bind ekD).bind fun k=>(flatFs P fs (off+1)).map (k::·) else none
def nilK:TypeDesc→Operand→Option Bool
  | .slice _,.const (.slice none 0 0)=>some false
  | .pointer _,.const (.pointer none)=>some true
  | _,_=>none
def compileNil (op:BinOp) (d:TypeDesc) (x y:Operand):Option AI:=
  match op with
  | .eql=>(nilK d y).map fun p=>.isnil p false (argOf x)
  | .neq=>(nilK d y).map fun p=>.isnil p true (argOf x)
  | _=>none
def compileBin (P:Program) (op:BinOp) (t:TypeId) (x y:Operand):Option AI:=
  match P.underlying t with
  | some .bool=>match op with | .eql=>some (.binb false (argOf x) (argOf y)) | .neq=>some (.binb true (argOf x) (argOf y)) | _=>none
  | some (.int _)=>some (.bin op (argOf x) (argOf y))
  | some .string=>some (.bin op (argOf x) (argOf y))
  | some (.struct fs)=>
    if P.stoodInHeld t=false∧P.eqGuardType P.depth t=false then
      match op with
      | .eql=>(flatFs P fs.toList 0).map fun ks=>.eqs false ks (argOf x) (argOf y)
      | .neq=>(flatFs P fs.toList 0).map fun ks=>.eqs true ks (argOf x) (argOf y)
      | _=>none
    else none
  | some (.array n e)=>
    if P.eqGuardType P.depth t=false∧((P.underlying e).bind ekD).isSome=true∧sizeP P e=some 1 then
      match op,(P.underlying e).bind ekD with
      | .eql,some k=>some (.eqs false (List.replicate n k) (argOf x) (argOf y))
      | .neq,some k=>some (.eqs true (List.replicate n k) (argOf x) (argOf y))
      | _,_=>none
    else none
  | some d=>compileNil op d x y
  | none=>none
def compileConv (P:Program) (s d:TypeId) (x:Operand):Option AI:=
  match P.underlying s,P.underlying d with
  | some (.int _),some (.int k)=>some (.conv k (argOf x))
  | some .string,some .string=>some (.cvid (argOf x))
  | some (.slice e),some .string=>if P.underlying e matches some (.int .u8) then some (.cvbs (argOf x)) else none
  | some .string,some (.slice e)=>if P.underlying e matches some (.int .u8) then some (.cvsb (argOf x)) else none
  | _,_=>none
def fieldP (P:Program) (s:TypeId) (f:Nat):Option Field:=
  match P.underlying s with
  | some (.struct fs)=>fs[f]?
  | _=>none
def placesP (P:Program) (t:TypeId):Option (List (Nat × Nat) ⊕ Nat):=
  match P.underlying t with
  | some (.struct fs)=>(fs.toList.mapM (fun f=>(P.info? f.type).map fun i=>(f.offset,i.size))).map .inl
  | some (.array _ e)=>(P.info? e).map fun i=>.inr i.size
  | _=>none
def placeAt (p:List (Nat × Nat) ⊕ Nat) (i:Nat):Option (Nat × Nat):=
  match p with
  | .inl l=>l[i]?
  | .inr s=>some (i * s,s)
def buildPart (p:List (Nat × Nat) ⊕ Nat):Nat × Operand→Option (Nat × Nat × AArg)
  | (i,x)=>(placeAt p i).map fun (o,s)=>(o,s,argOf x)
def compileCall (P:Program) (c:Call):Option AI:=
  match c.callee with
  | .builtin .len=>
    match c.argTypes[0]?,c.args[0]? with
    | some t,some x=>
      match P.underlying t with
      | some .string=>some (.lenS (argOf x))
      | some (.slice _)=>some (.lenL (argOf x))
      | some (.array n _)=>some (.lenA n)
      | some (.pointer e)=>match P.underlying e with | some (.array n _)=>some (.lenA n) | _=>none
      | _=>none
    | _,_=>none
  | .builtin .min=>match c.args.toList with | [x,y]=>some (.min2 (argOf x) (argOf y)) | _=>none
  | .builtin .max=>match c.args.toList with | [x,y]=>some (.max2 (argOf x) (argOf y)) | _=>none
  | .builtin .append=>
    match c.argTypes.toList,c.args.toList with
    | [t,u],[s,x]=>
      match P.underlying t,P.underlying u with
      | some (.slice e),some (.slice e')=>
        if e=e' then (P.info? e).bind fun i=>i.zero.bind fun z=>if z.cells.size=i.size∧0 < i.bytes then some (.app i.size i.bytes z.cells.toList (argOf s) (argOf x)) else none else none
      | some (.slice e),some .string=>if P.underlying e matches some (.int .u8) then (P.info? e).bind fun i=>i.zero.bind fun z=>if i.size=1∧i.bytes=1∧z.cells.size=1 then some (.apps (argOf s) (argOf x)) else none else none
      | _,_=>none
    | _,_=>none
  | .builtin .clear=>
    match c.argTypes.toList,c.args.toList with
    | [t],[x]=>
      match P.underlying t with
      | some (.slice e)=>(P.info? e).bind fun i=>i.zero.bind fun z=>if z.cells.size=i.size∧0 < i.size∧z.cells.toList.all is1 then some (.clr i.size z.cells.toList (argOf x)) else none
      | _=>none
    | _,_=>none
  | .builtin .copy=>
    match c.argTypes.toList,c.args.toList with
    | [t,u],[d,x]=>
      match P.underlying t,P.underlying u with
      | some (.slice e),some .string=>if (P.info? e).map (·.size)=some 1 then some (.cpys (argOf d) (argOf x)) else none
      | _,_=>none
    | _,_=>none
  | .value (.func f)=>
    match P.funcs[f]? with
    | some fn=>if fn.name=="runtime.NumGoroutine"||fn.body.isNone then none else some (.call f (c.args.toList.map argOf))
    | none=>none
  | .value (.tmp t)=>some (.callv (.t t) (c.args.toList.map argOf))
  | _=>none
def compileOp (P:Program) (o:Oper):Option AI:=
  match o.op with
  | .move x=>some (.mov (argOf x))
  | .assign x=>some (.mov (argOf x))
  | .pick c a b=>some (.pick (argOf c) (argOf a) (argOf b))
  | .alloc e=>(P.info? e).bind fun i=>i.zero.bind fun z=>if z.cells.toList.all is1 then some (.alloc z.cells.toList) else none
  | .box _ x=>some (.box (argOf x))
  | .load t x=>(aggP P t).bind fun g=>(sizeP P t).map fun s=>.load g (if g then s else 1) (argOf x)
  | .store t x v=>(sizeP P t).map fun s=>.store s (argOf x) (argOf v)
  | .nilCheck x=>some (.nilc (argOf x))
  | .binOp op t x y _=>compileBin P op t x y
  | .unOp op _ x=>some (.un op (argOf x))
  | .convert s d x=>compileConv P s d x
  | .fieldAddr s x f=>(fieldP P s f).bind fun fl=>(sizeP P fl.type).bind fun n=>if n=0 then none else some (.addo fl.offset (argOf x))
  | .field s x f=>(fieldP P s f).bind fun fl=>(aggP P fl.type).bind fun g=>(sizeP P fl.type).map fun n=>.fld g (if g then n else 1) fl.offset (argOf x)
  | .indexAddr t x i=>
    match P.underlying t with
    | some (.array n e)=>(sizeP P e).map fun s=>.ixA n s (argOf x) (argOf i)
    | some (.slice e)=>(sizeP P e).map fun s=>.ixL s (argOf x) (argOf i)
    | _=>none
  | .index t x i=>
    match P.underlying t with
    | some .string=>some (.ixS (argOf x) (argOf i))
    | some (.array n e)=>if aggP P e=some false∧sizeP P e=some 1 then some (.ixV n (argOf x) (argOf i)) else none
    | _=>none
  | .sliceToArrayPointer t x=>
    match P.underlying t with
    | some (.array n e)=>if sizeP P e=some 1 then some (.s2p n (argOf x)) else none
    | _=>none
  | .slice t x lo hi none=>
    match P.underlying t with
    | some .string=>some (.slS (argOf x) (lo.map argOf) (hi.map argOf))
    | some (.slice e)=>(sizeP P e).map fun s=>.slL s (argOf x) (lo.map argOf) (hi.map argOf)
    | some (.array n e)=>(sizeP P e).bind fun s=>if s=0 then none else some (.slA n s (argOf x) (lo.map argOf) (hi.map argOf))
    | _=>none
  | .lookup t x ix ok=>
    match P.underlying t with
    | some (.map kt et)=>if P.underlying kt matches some (.int .i64) then ((P.info? et).bind fun i=>i.zero).bind fun z=>if is1 z then some (.mpx ok z (argOf x) (argOf ix)) else none else none
    | _=>none
  | .build t ps=>(placesP P t).bind fun p=>(P.info? t).bind fun i=>i.zero.bind fun z=>if z.cells.toList.all is1 then (ps.toList.mapM (buildPart p)).map fun l=>.build z.cells.toList l else none
  | .buildSlice t len ps=>
    match P.underlying t with
    | some (.slice e)=>(P.info? e).bind fun i=>i.zero.bind fun z=>if len * i.size≤16777216∧z.cells.size=i.size∧0 < i.size∧z.cells.toList.all is1 then some (.bslc i.size len z.cells.toList (ps.toList.map fun (j,x)=>(j,argOf x))) else none
    | _=>none
  | .extract x n=>some (.ext (argOf x) n)
  | .makeSlice t l c=>
    match P.underlying t with
    | some (.slice e)=>(P.info? e).bind fun i=>i.zero.bind fun z=>if z.cells.size=i.size∧0 < i.bytes∧0 < i.size∧z.cells.toList.all is1 then some (.mk i.size i.bytes z.cells.toList (argOf l) (argOf c)) else none
    | _=>none
  | .makeFunc (.func f) first caps=>if first.isEmpty then some (.mkfn f (caps.toList.map argOf)) else none
  | .call c=>compileCall P c
  | _=>none
theorem rv_avOf (F:Fz) (γ:List OI) (v:Value):RV F γ (avOf v) v:=by
  cases v with
  | agg cs=>
    simp only [avOf]
    split
    · rename_i h
      refine .agg _ _ (by simp) (fun i c v hc hv=>?_)
      simp only [List.getElem?_map,Array.getElem?_toList,hv,Option.map_some,Option.some.injEq] at hc
      subst hc
      refine .dc _ _ (.raw _ (List.all_eq_true.1 h v (by simpa using Array.mem_of_getElem? hv)))
    · exact .junk _
  | tuple vs=>exact .junk _
  | _=>exact .one _ _ (.dc _ _ (.raw _ rfl))
structure GlobOK (F:Fz) (G:Glob):Prop where
  rc:∀ g cs,G g=some cs→∀ γ,RC F γ (.ref cs) (.pointer (some ⟨g,0,none⟩))
  sz:∀ g cs,G g=some cs→∃ o,F g=some o∧∃ vs t z,o=.cells vs t z∧vs.size=cs.length
theorem GlobOK.sub {F F':Fz} {G:Glob} (h:GlobOK F G) (hs:F.sub F'):GlobOK F' G:=
  ⟨fun g cs hg γ=>(h.rc g cs hg γ).ext hs (fun _ _ h=>h),fun g cs hg=>let ⟨o,h1,h2⟩:=h.sz g cs hg;⟨o,hs g o h1,h2⟩⟩
section
variable {F:Fz} {γ:List OI} {G:Glob} {sl:List AV} {a:Act}
theorem rv_arg (hs:Slots F γ sl a) (hg:GlobOK F G) (x:Operand):RV F γ (evA G sl (argOf x)) (a.eval x):=by
  cases x with
  | tmp t=>
    simp only [argOf,evA,Act.eval]
    obtain ⟨_,hsz,hr⟩:=hs
    rw [Array.getD_eq_getD_getElem?,List.getD_eq_getElem?_getD]
    cases hi:sl[t]? with
    | none=>exact .junk _
    | some av=>
      have hlt:t < sl.length:=by
        rcases Nat.lt_or_ge t sl.length with h | h
        · exact h
        · rw [List.getElem?_eq_none h] at hi;cases hi
      have hlt2:t < a.tmps.size:=hsz ▸ hlt
      have hv:a.tmps[t]?=some (a.tmps[t]'hlt2):=Array.getElem?_eq_getElem hlt2
      rw [hv]
      exact hr t av _ hi hv
  | const v=>exact rv_avOf F γ v
  | global g=>
    simp only [argOf,evA,Act.eval]
    cases hi:G g with
    | none=>exact .junk _
    | some cs=>exact .one _ _ (hg.rc g cs hi γ)
  | func f=>exact .one _ _ (.fn f [] (fun _=>default) (fun i c h=>by simp at h))
theorem rv_raw {v x:Value} (h:RV F γ (.one (.dc (.raw v))) x):x=v:=by
  cases h with
  | one c v h=>cases h with | dc d v h=>cases h;rfl
theorem rv_int {av:AV} {x:Value} {n:Int} (h:RV F γ av x) (hi:asInt? av=some n):∃ k,x=.int k n:=by
  unfold asInt? at hi
  split at hi
  · injection hi with hi;subst hi;exact ⟨_,rv_raw h⟩
  · cases hi
theorem rv_bool {av:AV} {x:Value} {b:Bool} (h:RV F γ av x) (hi:asBool? av=some b):x=.bool b:=by
  unfold asBool? at hi
  split at hi
  · injection hi with hi;subst hi;exact rv_raw h
  · cases hi
theorem rv_str {av:AV} {x:Value} {b:ByteArray} (h:RV F γ av x) (hi:asStr? av=some b):x=.string b:=by
  unfold asStr? at hi
  split at hi
  · injection hi with hi;subst hi;exact rv_raw h
  · cases hi
theorem rv_rawV {v:Value} (h:is1 v=true):RV F γ (rawV v) v:=.one _ _ (.dc _ _ (.raw _ h))
theorem rv_pack {g:Bool} {cs:List Cel} {av:AV} (hp:pack g cs=some av) {vs:List Value} (hl:vs.length=cs.length)
    (h:∀ (i:Nat) c v,cs[i]?=some c→vs[i]?=some v→RC F γ c v):(g=true→RV F γ av (.agg vs.toArray))∧(g=false→∃ v,vs=[v]∧RV F γ av v):=by
  unfold pack at hp
  split at hp
  · injection hp with hp;subst hp
    exact ⟨fun _=>.agg _ _ (by simpa using hl) (fun i c v h1 h2=>h i c v h1 (by simpa using h2)),(fun h=>by cases h)⟩
  · injection hp with hp;subst hp
    refine ⟨(fun h=>by cases h),fun _=>?_⟩
    match vs,hl with
    | [v],_=>exact ⟨v,rfl,.one _ _ (h 0 _ _ rfl rfl)⟩
  · cases hp
end
end
section
section
variable {P:Program} {F:Fz} {γ:List OI} {w:World} {hp:List AObj}
theorem hpGet_some {id:Nat} {o:AObj} (h:hpGet hp id=o) (hn:o≠.dead):hp[id]?=some o:=by
  unfold hpGet at h
  rw [List.getD_eq_getElem?_getD] at h
  cases hi:hp[id]? with
  | none=>simp [hi] at h;exact absurd h.symm hn
  | some x=>simp [hi] at h;rw [h]
theorem Inv.box {id b:Nat} {cs:List Cel} (hi:Inv F γ hp w) (h:hpGet hp id=.box cs) (hg:γ[id]?=some (.box b)):
    ∃ (vs:Array Value) (T:TypeId),Own w b vs T∧cs.length≤vs.size∧∀ (i:Nat) c v,cs[i]?=some c→vs[i]?=some v→RC F γ c v:=
  hi.ok id _ _ (hpGet_some h (by simp)) hg
theorem Inv.arr {id b cap cap' size:Nat} {es:List (List DC)} (hi:Inv F γ hp w) (h:hpGet hp id=.arr cap size es) (hg:γ[id]?=some (.arr (some b) cap')):
    cap'=cap∧es.length≤cap∧(∀ e∈es,e.length=size)∧∃ (vs:Array Value) (T:TypeId),Own w b vs T∧vs.size=cap * size∧
        ∀ (i j:Nat) e d v,es[i]?=some e→e[j]?=some d→vs[i * size+j]?=some v→RD F d v:=
  hi.ok id _ _ (hpGet_some h (by simp)) hg
theorem Inv.noArr {id b cap size:Nat} {es:List (List DC)} (hi:Inv F γ hp w) (h:hpGet hp id=.arr cap size es):γ[id]?≠some (.box b):=fun hg=>hi.ok id _ _ (hpGet_some h (by simp)) hg
theorem Inv.noBox {id cap:Nat} {A:Option Nat} {cs:List Cel} (hi:Inv F γ hp w) (h:hpGet hp id=.box cs):γ[id]?≠some (.arr A cap):=fun hg=>by
  cases A<;>exact hi.ok id _ _ (hpGet_some h (by simp)) hg
theorem Inv.arrN {id cap cap' size:Nat} {es:List (List DC)} (hi:Inv F γ hp w) (h:hpGet hp id=.arr cap size es) (hg:γ[id]?=some (.arr none cap')):cap=0∧cap'=0∧es=[]:=
  hi.ok id _ _ (hpGet_some h (by simp)) hg
theorem Own.of {w w':World} {b:Nat} {vs:Array Value} {T:TypeId} (h:Own w b vs T) (e:w'.heap[b]?=w.heap[b]?):Own w' b vs T:=by
  obtain ⟨fz,h,hn⟩:=h
  exact ⟨fz,e.trans h,hn⟩
theorem cell_heap0 {b:Nat} {vs:Array Value} {T:TypeId} {fz:Nat × Nat} (h:w.heap[b]?=some (.cells vs T fz)) (j:Nat):w.cell? ⟨b,j,none⟩=vs[j]?:=by
  simp [World.cell?,h]
theorem cell_heap {b:Nat} {vs:Array Value} {T:TypeId} (h:Own w b vs T) (j:Nat):w.cell? ⟨b,j,none⟩=vs[j]?:=by
  obtain ⟨fz,h,_⟩:=h
  exact cell_heap0 h j
structure Mem (F:Fz) (γ:List OI) (w:World) (x:Value) (cs:List Cel) where
  b:Nat
  off:Nat
  vs:List Value
  hx:x=.pointer (some ⟨b,off,none⟩)
  hl:vs.length=cs.length
  hc:∀ (j:Nat) v,vs[j]?=some v→w.cell? ⟨b,off+j,none⟩=some v
  hr:∀ (j:Nat) c v,cs[j]?=some c→vs[j]?=some v→RC F γ c v
theorem addr_add (b o j:Nat):(⟨b,o,none⟩:Addr).add j=⟨b,o+j,none⟩:=by
  unfold Addr.add;split<;>simp_all
theorem mul_lt_cap {i j size cap n:Nat} (hi:i < n) (hn:n≤cap) (hj:j < size):i * size+j < cap * size:=by
  have h1:(i+1) * size≤cap * size:=Nat.mul_le_mul_right size (by omega)
  rw [Nat.add_mul] at h1
  omega
theorem loadV_mem {g:Bool} {s:Nat} {av v:AV} {x:Value} (h:loadV hp g s av=some v) (hi:Inv F γ hp w) (hx:RV F γ av x):
    ∃ cs,pack g cs=some v∧cs.length=s∧Nonempty (Mem F γ w x cs):=by
  unfold loadV at h
  split at h
  · rename_i id o
    split at h
    · rename_i cs hb
      split at h
      · rename_i hle
        cases hx with | one c v hc=>cases hc with | ptr _ _ b hgm=>
        obtain ⟨vs,T,hh,hsz,hr⟩:=hi.box hb hgm
        refine ⟨_,h,by simp;omega,⟨⟨b,o,(vs.toList.drop o).take s,rfl,by simp;omega,fun j v hj=>?_,fun j c v hj hv=>?_⟩⟩⟩
        · rw [cell_heap hh]
          simp only [List.getElem?_take,List.getElem?_drop] at hj
          split at hj
          · simpa using hj
          · cases hj
        · simp only [List.getElem?_take,List.getElem?_drop] at hj hv
          split at hj
          · rename_i hlt
            rw [if_pos hlt] at hv
            exact hr _ _ _ hj (by simpa using hv)
          · cases hj
      · cases h
    · cases h
  · rename_i id i s0 o
    split at h
    · rename_i cap s' es hb
      split at h
      · rename_i e he
        split at h
        · rename_i hle
          obtain ⟨rfl,hle⟩:=hle
          cases hx with | one c v hc=>cases hc with | ept _ _ _ _ b cap' hgm=>
          obtain ⟨_,hec,hes,vs,T,hh,hsz,hr⟩:=hi.arr hb hgm
          have hel:e.length=s0:=hes e (List.mem_of_getElem? he)
          have hil:i < es.length:=by
            rcases Nat.lt_or_ge i es.length with h' | h'
            · exact h'
            · rw [List.getElem?_eq_none h'] at he;cases he
          refine ⟨_,h,by simp;omega,⟨⟨b,i * s0+o,(vs.toList.drop (i * s0+o)).take s,rfl, ?_,fun j v hj=>?_,fun j c v hj hv=>?_⟩⟩⟩
          · simp
            have h1:(i+1) * s0≤cap * s0:=Nat.mul_le_mul_right s0 (by omega)
            rw [Nat.add_mul] at h1
            omega
          · rw [cell_heap hh]
            simp only [List.getElem?_take,List.getElem?_drop] at hj
            split at hj
            · simpa using hj
            · cases hj
          · simp only [List.getElem?_map,List.getElem?_take,List.getElem?_drop] at hj hv
            split at hj
            · rename_i hlt
              rw [if_pos hlt] at hv
              cases hd:e[o+j]? with
              | none=>simp [hd] at hj
              | some d=>
                simp [hd] at hj
                subst hj
                exact .dc _ _ (hr i (o+j) e d v he hd (by simpa [Nat.add_assoc] using hv))
            · cases hj
        · cases h
      · cases h
    · cases h
  · rename_i cs
    split at h
    · rename_i hle
      cases hx with | one c v hc=>cases hc with | ref _ b off gg hr hcc=>
      refine ⟨_,h,by simp;omega,⟨⟨b,off,(List.range s).map gg,rfl,by simp;omega,fun j v hj=>?_,fun j c v hj hv=>?_⟩⟩⟩
      · simp only [List.getElem?_map] at hj
        cases hjr:(List.range s)[j]? with
        | none=>simp [hjr] at hj
        | some k=>
          simp [hjr] at hj
          have hk:j < s:=by
            rcases Nat.lt_or_ge j s with h' | h'
            · exact h'
            · rw [List.getElem?_eq_none (by simpa using h')] at hjr;cases hjr
          have:k=j:=by simpa [List.getElem?_range hk] using hjr.symm
          subst this
          rw [← hj]
          exact Fz.cell_world hi.fz (hcc k _ (List.getElem?_eq_getElem (by omega)))
      · simp only [List.getElem?_map,List.getElem?_take] at hj hv
        split at hj
        · rename_i hk
          simp [List.getElem?_range hk] at hv
          cases hd:cs[j]? with
          | none=>simp [hd] at hj
          | some d=>
            simp [hd] at hj
            subst hj;subst hv
            exact .dc _ _ (hr j d hd)
        · simp at hj
    · cases h
  · cases h
theorem load_ok {g:Bool} {s s0:Nat} {av v:AV} {x:Value} {t:TypeId} (h:loadV hp g s av=some v) (hi:Inv F γ hp w) (hx:RV F γ av x)
    (hg:aggP P t=some g) (hsz:sizeP P t=some s0) (hs:s=if g then s0 else 1):
    ∃ y,(Instr.loadAt t x).run P w=.ok y w∧RV F γ v y:=by
  obtain ⟨cs,hp',hl,⟨b,off,vs,rfl,hlv,hcv,hrv⟩⟩:=loadV_mem h hi hx
  obtain ⟨h1,h2⟩:=rv_pack hp' hlv hrv
  unfold aggP at hg
  cases hu:P.underlying t with
  | none=>simp [hu] at hg
  | some d=>
    simp only [hu,Option.map_some,Option.some.injEq] at hg
    unfold sizeP at hsz
    cases hin:P.info? t with
    | none=>simp [hin] at hsz
    | some inf=>
      simp only [hin,Option.map_some,Option.some.injEq] at hsz
      cases g with
      | true=>
        refine ⟨_, ?_,h1 rfl⟩
        have hc:=run_loadCells_list (P:=P) w ⟨b,off,none⟩ vs (fun j v hj=>by rw [addr_add];exact hcv j v hj)
        have hlen:vs.length=inf.size:=by rw [hlv,hl,hs,hsz];simp
        rw [hlen] at hc
        unfold aggD at hg
        split at hg
        · simp [Instr.loadAt,Instr.sureAddr,loadVar,isAgg,sizeOf,typeInfo,run_underlying hu,hin,hc]
        · simp [Instr.loadAt,Instr.sureAddr,loadVar,isAgg,sizeOf,typeInfo,run_underlying hu,hin,hc]
        · cases hg
      | false=>
        obtain ⟨y,hy,hv⟩:=h2 rfl
        refine ⟨y, ?_,hv⟩
        have hc:=hcv 0 y (by rw [hy];rfl)
        simp only [Nat.add_zero] at hc
        cases d<;>first | (simp [aggD] at hg;done) | simp [Instr.loadAt,Instr.sureAddr,loadVar,isAgg,run_underlying hu,hc]
theorem addoV_ok {o:Nat} {av v:AV} {x:Value} (h:addoV o av=some v) (hx:RV F γ av x):∃ b off,x=.pointer (some ⟨b,off,none⟩)∧RV F γ v (.pointer (some ⟨b,off+o,none⟩)):=by
  unfold addoV at h
  split at h
  · injection h with h;subst h
    cases hx with | one c v hc=>cases hc with | ptr _ _ b hgm=>
    exact ⟨b,_,rfl,.one _ _ (.ptr _ _ _ hgm)⟩
  · injection h with h;subst h
    cases hx with | one c v hc=>cases hc with | ept _ _ _ _ b cap hgm=>
    exact ⟨b,_,rfl,.one _ _ (by rw [Nat.add_assoc];exact .ept _ _ _ _ _ _ hgm)⟩
  · injection h with h;subst h
    cases hx with | one c v hc=>cases hc with | ref cs b off gg hr hcc=>
    refine ⟨b,off,rfl,.one _ _ (.ref _ _ _ (fun j=>gg (o+j)) (fun j d hj=>?_) (fun j d hj=>?_))⟩
    · simp only [List.getElem?_drop] at hj;exact hr _ _ hj
    · simp only [List.getElem?_drop] at hj;rw [Nat.add_assoc];exact hcc _ _ hj
  · cases h
theorem nilc_ok {av v:AV} {x:Value} (h:nilcV av=some v) (hx:RV F γ av x):RV F γ v x∧∃ a,x=.pointer (some a):=by
  unfold nilcV at h
  split at h
  · injection h with h;subst h
    refine ⟨hx, ?_⟩
    cases hx with | one c v hc=>cases hc with | ptr _ _ b hgm=>exact ⟨_,rfl⟩
  · injection h with h;subst h
    refine ⟨hx, ?_⟩
    cases hx with | one c v hc=>cases hc with | ept _ _ _ _ b cap hgm=>exact ⟨_,rfl⟩
  · injection h with h;subst h
    refine ⟨hx, ?_⟩
    cases hx with | one c v hc=>cases hc with | ref cs b off gg hr hcc=>exact ⟨_,rfl⟩
  · injection h with h;subst h
    cases hx with | one c v hc=>cases hc with | dc _ _ hd=>cases hd with | ptr cs b off gg hr hcc=>exact ⟨.one _ _ (.ref _ _ _ gg hr hcc),_,rfl⟩
  · cases h
theorem intOp_ok {op:BinOp} {t:TypeId} {k:IntKind} {a b:Int} {v:Value} (h:intOp op k a b=some v):is1 v=true∧(Go.binOp op t (.int k a) (.int k b)).run P w=.ok v w:=by
  cases op<;>simp only [intOp] at h<;>first
    | (cases h;done)
    | (injection h with h;subst h;exact ⟨rfl,by simp [Go.binOp,Op.intArith,Op.intBits,Op.intCmp]⟩)
    | (split at h
       · cases h
       · rename_i hne
         injection h with h;subst h;exact ⟨rfl,by simp [Go.binOp,Op.intDiv,hne]⟩)
theorem maxI64:IntKind.i64.max=9223372036854775807:=by decide
theorem strOp_ok {op:BinOp} {t:TypeId} {a b:ByteArray} {v:Value} (h:strOp op a b=some v):is1 v=true∧(Go.binOp op t (.string a) (.string b)).run P w=.ok v w:=by
  cases op<;>simp only [strOp] at h<;>first
    | (cases h;done)
    | (injection h with h;subst h;exact ⟨rfl,by simp [Go.binOp,Op.stringOp]⟩)
    | (split at h
       · rename_i hle
         injection h with h;subst h
         refine ⟨rfl, ?_⟩
         have:¬ (IntKind.i64.max < (a.size:Int)+(b.size:Int)):=by rw [maxI64];omega
         simp only [Go.binOp,Op.stringOp,Sem.run_ite,Sem.run_pure]
         rw [if_neg (by have:=this;push_cast;omega)]
       · cases h)
theorem eqR_ok {t:TypeId} {dsc:TypeDesc} {k:EK} {a b:Value} {r:Bool} (h:eqR k a b=some r) (ht:P.underlying t=some dsc) (hd:ekD dsc=some k) (d:Nat):
    (Op.equalIn (d+1) t a b).run P w=.ok r w:=by
  unfold eqR at h
  split at h
  · injection h with h;subst h
    cases dsc<;>simp [ekD] at hd
    exact run_equalIn_bool' w d t _ _ ht
  · split at h
    · rename_i hjk
      injection h with h;subst h;subst hjk
      cases dsc<;>simp [ekD] at hd
      exact run_equalIn_int w d t _ _ _ _ ht
    · cases h
  · injection h with h;subst h
    cases dsc<;>simp [ekD] at hd
    exact run_equalIn_string w d t _ _ ht
  · cases h
theorem run_part1 {t:TypeId} {dsc:TypeDesc} {k:EK} (ht:P.underlying t=some dsc) (hk:ekD dsc=some k) (xs:Array Value) (off:Nat) (x:Value) (hx:xs[off]?=some x):
    (part t xs off).run P w=.ok x w:=by
  cases dsc<;>simp [ekD] at hk<;>simp [part,isAgg,run_underlying ht,hx]
theorem eqFields_ok (d:Nat) (xs ys:Array Value):∀ (fs:List Field) (off:Nat) (ks:List EK) (as bs:List Cel) (r:Bool),flatFs P fs off=some ks→eqCs ks as bs=some r→
    (∀ (i:Nat) c,as[i]?=some c→∃ v,xs[off+i]?=some v∧RC F γ c v)→(∀ (i:Nat) c,bs[i]?=some c→∃ v,ys[off+i]?=some v∧RC F γ c v)→
    (Op.eqFields (d+1) xs ys fs).run P w=.ok r w
  | [],off,ks,as,bs,r,hf,he,hx,hy=>by
    simp only [flatFs,Option.some.injEq] at hf
    subst hf
    cases as<;>cases bs<;>simp [eqCs] at he
    subst he
    simp [Op.eqFields]
  | f::fs,off,ks,as,bs,r,hf,he,hx,hy=>by
    simp only [flatFs] at hf
    split at hf
    · rename_i hfo
      cases hu:P.underlying f.type with
      | none=>simp [hu] at hf
      | some dsc=>
        simp only [hu,Option.bind_some] at hf
        cases hk:ekD dsc with
        | none=>simp [hk] at hf
        | some k=>
          simp only [hk,Option.bind_some] at hf
          cases hfs:flatFs P fs (off+1) with
          | none=>simp [hfs] at hf
          | some ks'=>
            simp only [hfs,Option.map_some,Option.some.injEq] at hf
            subst hf
            match as,bs,he with
            | .dc (.raw a)::as,.dc (.raw b)::bs,he=>
              simp only [eqCs] at he
              cases hr:eqR k a b with
              | none=>simp [hr] at he
              | some x=>
                simp only [hr,Option.bind_some] at he
                cases hrs:eqCs ks' as bs with
                | none=>simp [hrs] at he
                | some y=>
                  simp only [hrs,Option.bind_some,Option.some.injEq] at he
                  subst he
                  obtain ⟨va,hva,hra⟩:=hx 0 _ rfl
                  obtain ⟨vb,hvb,hrb⟩:=hy 0 _ rfl
                  have hva':va=a:=rv_raw (.one _ _ hra)
                  have hvb':vb=b:=rv_raw (.one _ _ hrb)
                  subst hva';subst hvb'
                  have ih:=eqFields_ok d xs ys fs (off+1) ks' as bs y hfs hrs (fun i c hc=>by have:=hx (i+1) c hc;rwa [show off+(i+1)=off+1+i by omega] at this)
                    (fun i c hc=>by have:=hy (i+1) c hc;rwa [show off+(i+1)=off+1+i by omega] at this)
                  have h1:=run_part1 (P:=P) (w:=w) hu hk xs f.offset va (by rw [hfo.1];exact hva)
                  have h2:=run_part1 (P:=P) (w:=w) hu hk ys f.offset vb (by rw [hfo.1];exact hvb)
                  have h3:=eqR_ok (P:=P) (w:=w) hr hu hk d
                  cases x<;>simp [Op.eqFields,hfo.2,h1,h2,h3,ih]
    · cases hf
theorem bin_ok {op:BinOp} {t:TypeId} {xo yo:Operand} {av bv v:AV} {x y:Value} (h:binV op av bv=some v) (hx:RV F γ av x) (hy:RV F γ bv y)
 : ∃ r,((do eqGuard op t xo yo x y;Go.binOp op t x y):Sem Value).run P w=.ok r w∧RV F γ v r:=by
  unfold binV at h
  split at h
  · rename_i j a k b
    rw [rv_raw hx,rv_raw hy]
    have hgd:(eqGuard op t xo yo (.int j a) (.int k b)).run P w=.ok () w:=by cases op<;>simp [eqGuard]
    split at h
    · split at h
      · cases h
      · rename_i hb
        injection h with h;subst h
        exact ⟨_,by simp [hgd,Go.binOp,Op.shift,hb],rv_rawV rfl⟩
    · split at h
      · cases h
      · rename_i hb
        injection h with h;subst h
        exact ⟨_,by simp [hgd,Go.binOp,Op.shift,hb],rv_rawV rfl⟩
    · split at h
      · rename_i hjk
        subst hjk
        cases hio:intOp op j a b with
        | none=>simp [hio] at h
        | some r=>
          simp only [hio,Option.map_some,Option.some.injEq] at h
          subst h
          obtain ⟨h1,h2⟩:=intOp_ok (P:=P) (w:=w) (t:=t) hio
          exact ⟨r,by simp [hgd,h2],rv_rawV h1⟩
      · cases h
  · rename_i a b
    rw [rv_raw hx,rv_raw hy]
    have hgd:(eqGuard op t xo yo (.string a) (.string b)).run P w=.ok () w:=by cases op<;>simp [eqGuard]
    cases hio:strOp op a b with
    | none=>simp [hio] at h
    | some r=>
      simp only [hio,Option.map_some,Option.some.injEq] at h
      subst h
      obtain ⟨h1,h2⟩:=strOp_ok (P:=P) (w:=w) (t:=t) hio
      exact ⟨r,by simp [hgd,h2],rv_rawV h1⟩
  · cases h
theorem run_equal_bool {t:TypeId} {a b:Bool} (ht:P.underlying t=some .bool):(Op.equal t (.bool a) (.bool b)).run P w=.ok (a==b) w:=run_equalIn_bool' w 9999 t a b ht
theorem binb_ok {neg:Bool} {t:TypeId} {xo yo:Operand} {av bv v:AV} {x y:Value} (h:binbV neg av bv=some v) (hx:RV F γ av x) (hy:RV F γ bv y)
    (ht:P.underlying t=some .bool):∃ r,((do eqGuard (if neg then .neq else .eql) t xo yo x y;Go.binOp (if neg then .neq else .eql) t x y):Sem Value).run P w=.ok r w∧RV F γ v r:=by
  unfold binbV at h
  split at h
  · rename_i a b
    rw [rv_raw hx,rv_raw hy]
    injection h with h;subst h
    cases neg
    · exact ⟨_,by simp [eqGuard,Go.binOp,run_equal_bool ht],rv_rawV rfl⟩
    · exact ⟨_,by simp [eqGuard,Go.binOp,run_equal_bool ht],rv_rawV rfl⟩
  · cases h
theorem eqItems_ok (d:Nat) {e:TypeId} {dsc:TypeDesc} {k:EK} (hu:P.underlying e=some dsc) (hk:ekD dsc=some k) (xs ys:Array Value):∀ (m off:Nat) (as bs:List Cel) (r:Bool),eqCs (List.replicate m k) as bs=some r→
    (∀ (i:Nat) c,as[i]?=some c→∃ v,xs[off+i]?=some v∧RC F γ c v)→(∀ (i:Nat) c,bs[i]?=some c→∃ v,ys[off+i]?=some v∧RC F γ c v)→
    (Op.eqItems (d+1) e 1 xs ys (List.range' off m)).run P w=.ok r w
  | 0,off,as,bs,r,he,hx,hy=>by
    cases as<;>cases bs<;>simp [eqCs] at he
    subst he
    simp [Op.eqItems]
  | m+1,off,as,bs,r,he,hx,hy=>by
    rw [List.replicate_succ] at he
    match as,bs,he with
    | .dc (.raw a)::as,.dc (.raw b)::bs,he=>
      simp only [eqCs] at he
      cases hr:eqR k a b with
      | none=>simp [hr] at he
      | some x=>
        simp only [hr,Option.bind_some] at he
        cases hrs:eqCs (List.replicate m k) as bs with
        | none=>simp [hrs] at he
        | some y=>
          simp only [hrs,Option.bind_some,Option.some.injEq] at he
          subst he
          obtain ⟨va,hva,hra⟩:=hx 0 _ rfl
          obtain ⟨vb,hvb,hrb⟩:=hy 0 _ rfl
          have hva':va=a:=rv_raw (.one _ _ hra)
          have hvb':vb=b:=rv_raw (.one _ _ hrb)
          subst hva';subst hvb'
          have ih:=eqItems_ok d hu hk xs ys m (off+1) as bs y hrs (fun i c hc=>by have:=hx (i+1) c hc;rwa [show off+(i+1)=off+1+i by omega] at this)
            (fun i c hc=>by have:=hy (i+1) c hc;rwa [show off+(i+1)=off+1+i by omega] at this)
          have h1:=run_part1 (P:=P) (w:=w) hu hk xs off va hva
          have h2:=run_part1 (P:=P) (w:=w) hu hk ys off vb hvb
          have h3:=eqR_ok (P:=P) (w:=w) hr hu hk d
          rw [List.range'_succ]
          cases x<;>simp [Op.eqItems,h1,h2,h3,ih]
theorem eqsA_ok {neg:Bool} {t e:TypeId} {n:Nat} {k:EK} {xo yo:Operand} {av bv v:AV} {x y:Value} (h:eqsV neg (List.replicate n k) av bv=some v) (hx:RV F γ av x) (hy:RV F γ bv y)
    (ht:P.underlying t=some (.array n e)) (hk:(P.underlying e).bind ekD=some k) (hs:sizeP P e=some 1) (hq:P.eqGuardType P.depth t=false):
    ∃ r,((do eqGuard (if neg then .neq else .eql) t xo yo x y;Go.binOp (if neg then .neq else .eql) t x y):Sem Value).run P w=.ok r w∧RV F γ v r:=by
  unfold eqsV at h
  split at h
  · rename_i as bs
    cases hx with | agg _ xs hxs hxr=>
    cases hy with | agg _ ys hys hyr=>
    cases he:eqCs (List.replicate n k) as bs with
    | none=>simp [he] at h
    | some r=>
      simp only [he,Option.map_some,Option.some.injEq] at h
      subst h
      obtain ⟨dsc,hu,hk⟩:=Option.bind_eq_some_iff.1 hk
      unfold sizeP at hs
      obtain ⟨inf,hi,hi1⟩:=Option.map_eq_some_iff.1 hs
      have hc1:P.cellsOf e=1:=by rw [Program.cellsOf,hi];exact hi1
      have g:∀ {as:List Cel} {xs:Array Value},xs.size=as.length→(∀ (i:Nat) c v,as[i]?=some c→xs[i]?=some v→RC F γ c v)→
          ∀ (i:Nat) c,as[i]?=some c→∃ v,xs[0+i]?=some v∧RC F γ c v:=by
        intro as xs hsz hr i c hc
        have hi:i < as.length:=by
          rcases Nat.lt_or_ge i as.length with h' | h'
          · exact h'
          · rw [List.getElem?_eq_none h'] at hc;cases hc
        have hi2:i < xs.size:=hsz ▸ hi
        refine ⟨xs[i]'hi2,by simp [hi2],hr i c _ hc (Array.getElem?_eq_getElem hi2)⟩
      have h1:=eqItems_ok (P:=P) (w:=w) 9998 hu hk xs ys n 0 as bs r he (g hxs hxr) (g hys hyr)
      have h2:(Op.equalIn 10000 t (.agg xs) (.agg ys)).run P w=.ok r w:=by
        rw [show (10000:Nat)=9999+1 from rfl,run_equalIn_array w 9999 xs ys ht hi,hc1,List.range_eq_range']
        exact h1
      cases neg
      · exact ⟨.bool r,by simp [run_eqGuard_agg w .eql t xo yo xs ys hq,run_eql_struct,h2],rv_rawV rfl⟩
      · exact ⟨.bool !r,by simp [run_eqGuard_agg w .neq t xo yo xs ys hq,run_neq_struct,h2],rv_rawV rfl⟩
  · cases h
theorem eqs_ok {neg:Bool} {t:TypeId} {fs:Array Field} {ks:List EK} {xo yo:Operand} {av bv v:AV} {x y:Value} (h:eqsV neg ks av bv=some v) (hx:RV F γ av x) (hy:RV F γ bv y)
    (ht:P.underlying t=some (.struct fs)) (hf:flatFs P fs.toList 0=some ks) (hs:P.stoodInHeld t=false) (hq:P.eqGuardType P.depth t=false):
    ∃ r,((do eqGuard (if neg then .neq else .eql) t xo yo x y;Go.binOp (if neg then .neq else .eql) t x y):Sem Value).run P w=.ok r w∧RV F γ v r:=by
  unfold eqsV at h
  split at h
  · rename_i as bs
    cases hx with | agg _ xs hxs hxr=>
    cases hy with | agg _ ys hys hyr=>
    cases he:eqCs ks as bs with
    | none=>simp [he] at h
    | some r=>
      simp only [he,Option.map_some,Option.some.injEq] at h
      subst h
      have hfo:P.fieldsOf t=fs:=by simp [Program.fieldsOf,ht]
      have g:∀ {as:List Cel} {xs:Array Value},xs.size=as.length→(∀ (i:Nat) c v,as[i]?=some c→xs[i]?=some v→RC F γ c v)→
          ∀ (i:Nat) c,as[i]?=some c→∃ v,xs[0+i]?=some v∧RC F γ c v:=by
        intro as xs hsz hr i c hc
        have hi:i < as.length:=by
          rcases Nat.lt_or_ge i as.length with h' | h'
          · exact h'
          · rw [List.getElem?_eq_none h'] at hc;cases hc
        have hi2:i < xs.size:=hsz ▸ hi
        refine ⟨xs[i]'hi2,by simp [hi2],hr i c _ hc (Array.getElem?_eq_getElem hi2)⟩
      have h1:=eqFields_ok (P:=P) (w:=w) 9998 xs ys fs.toList 0 ks as bs r hf he (g hxs hxr) (g hys hyr)
      have h2:(Op.equalIn 10000 t (.agg xs) (.agg ys)).run P w=.ok r w:=by
        rw [show (10000:Nat)=9999+1 from rfl,run_equalIn_agg w 9999 t xs ys (by rw [hfo];exact ht) hs,hfo]
        exact h1
      cases neg
      · exact ⟨.bool r,by simp [run_eqGuard_agg w .eql t xo yo xs ys hq,run_eql_struct,h2],rv_rawV rfl⟩
      · exact ⟨.bool !r,by simp [run_eqGuard_agg w .neq t xo yo xs ys hq,run_neq_struct,h2],rv_rawV rfl⟩
  · cases h
end
end
end Go.Proofs.YtmmafhopnkkeeaaGreatDoor
