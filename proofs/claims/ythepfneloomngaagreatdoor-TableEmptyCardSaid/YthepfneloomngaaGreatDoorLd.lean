/- An instruction that changes nothing gives what the model's operation gives. Conditions: none. -/
import Derived.Calls
import Derived.LoopN
import Derived.Tactics
import Derived.Orders
import Derived.WalkKit
namespace Go.Proofs.YthepfneloomngaaGreatDoor
abbrev aXC:=@List.length_map
abbrev aXD:=@List.length_append
abbrev aXE:=@List.length_cons
abbrev aXF:=@Nat.le_refl
abbrev aXG:=@Option.map_some
abbrev aXH:=@List.length_nil
abbrev aXI:=@List.getElem?_map
abbrev aXJ:=@List.getElem?_eq_getElem
abbrev aXK:=@List.length_take
abbrev aXL:=@List.map_cons
abbrev aXM:=@List.getElem_mem
abbrev aXN:=@List.getD_eq_getElem?_getD
abbrev aXO:=@List.length_replicate
abbrev aXP:=@Option.bind_some
abbrev aXQ:=@Bool.and_eq_true
abbrev aXR:=@List.append_assoc
abbrev aXS:=@List.length_drop
abbrev aXT:=@List.map_nil
abbrev aXU:=@List.getElem?_append_left
abbrev aXV:=@List.mem_cons_self
abbrev aXW:=@List.getElem?_set_ne
abbrev aXX:=@Nat.zero_le
abbrev aXY:=@List.getElem?_append_right
abbrev aXZ:=@List.map_congr_left
abbrev aX0:=@List.mem_of_getElem?
abbrev aX1:=@List.map_map
abbrev aX2:=@List.getElem?_take
abbrev aX3:=@List.mem_cons_of_mem
abbrev aX4:=@List.nil_append
abbrev aX5:=@Bool.not_false
abbrev aX6:=@List.mem_of_mem_take
abbrev aX7:=@List.getElem?_set_self
abbrev aX8:=@Array.getElem?_eq_getElem
abbrev aX9:=@List.getElem?_drop
abbrev aYa:=@List.map_set
abbrev aYb:=@Bool.true_and
abbrev aYc:=@Bool.not_true
abbrev aYd:=@List.cons_append
abbrev aYe:=@List.take_of_length_le
abbrev aYf:=@Nat.add_mul
abbrev aYg:=@List.map_append
abbrev aYh:=@List.take_length
abbrev aYi:=@Nat.zero_add
abbrev aYj:=@Bool.false_and
abbrev aYk:=@Int.zero_add
abbrev aYl:=@List.mem_of_mem_drop
abbrev aYm:=@Int.toNat_natCast
abbrev aYn:=@Option.getD_some
abbrev aYo:=@List.getElem_map
abbrev aYp:=@Nat.add_zero
abbrev aYq:=@List.drop_zero
abbrev aYr:=@List.map_take
abbrev aYs:=@Nat.sub_self
abbrev aYt:=@Bool.false_or
abbrev aYu:=@Option.bind_eq_some_iff
abbrev aYv:=@Nat.mul_one
abbrev aYw:=@List.mapM_cons
abbrev aYx:=@List.take_succ_eq_append_getElem
abbrev aYy:=@Array.getElem?_toList
abbrev aYz:=@List.getElem?_eq_none
abbrev aYA:=@List.flatten_cons
abbrev aYB:=@Nat.mod_eq_of_lt
abbrev aYC:=@Bool.not_eq_true'
abbrev aYD:=@Nat.mul_le_mul_right
abbrev aYE:=@List.append_nil
abbrev aYF:=@List.drop_eq_getElem_cons
abbrev aYG:=@Nat.lt_or_ge
abbrev aYH:=@List.getElem?_replicate
abbrev aYI:=@List.take_append_drop
abbrev aYJ:=@Int.eq_ofNat_of_zero_le
abbrev aYK:=@Bool.true_or
abbrev aYL:=@List.eq_nil_of_length_eq_zero
abbrev aYM:=@Nat.mul_comm
abbrev aYN:=@Bool.eq_iff_iff
abbrev aYO:=@List.foldl_cons
abbrev aYP:=@Bool.false_eq_true
abbrev aYQ:=@List.take_zero
abbrev aYR:=@List.mem_cons
abbrev aYS:=@List.map_drop
abbrev aYT:=@Array.getD_eq_getD_getElem?
abbrev aYU:=@List.getElem?_range
abbrev aYV:=@List.mem_append
abbrev aYW:=@List.any_eq_false
abbrev aYX:=@List.take_left'
abbrev aYY:=@Bool.eq_false_iff
abbrev aYZ:=@List.getElem?_of_mem
abbrev aY0:=@Array.toList_inj
abbrev aY1:=@Nat.min_eq_left
abbrev aY2:=@List.all_eq_true
abbrev aY3:=@List.take_append_of_le_length
abbrev aY4:=@Array.length_toList
abbrev aY5:=@List.ext_getElem?
abbrev aY6:=@Array.getElem?_modify
abbrev aY7:=@List.drop_succ_cons
abbrev aY8:=@List.getElem?_toArray
abbrev aY9:=@Nat.add_sub_cancel_left
abbrev aZa:=@List.getElem?_cons_succ
abbrev aZb:=@List.take_succ_cons
abbrev aZc:=@List.drop_of_length_le
abbrev aZd:=@List.getElem?_take_of_lt
abbrev aZe:=@List.pairwise_iff_getElem
abbrev aZf:=@Array.getElem?_setIfInBounds_self_of_lt
section
def is1:Value->Bool
 |.agg _=>false
 |.tuple _=>false
 |_=>true
inductive DC where
 |raw (v:Value)
 |slc (es:List (List DC))
 |ptr (cs:List DC)
inductive aT where
 |dc (d:DC)
 |ptr (id off:Nat)
 |bld (id n:Nat)
 |ept (id i size off:Nat)
 |bls (id lo n size:Nat)
 |ref (cs:List DC)
 |mpc (es:List (Int×Value))
 |fn (f:FuncId) (caps:List aT)
 |junk
inductive TV where
 |one (c:aT)
 |agg (cs:List aT)
inductive AV where
 |one (c:aT)
 |agg (cs:List aT)
 |tup (l:List TV)
 |junk
inductive aC where
 |box (cs:List aT)
 |arr (cap size:Nat) (es:List (List DC))
 |dead
structure AS where
 sl:List AV
 hp:List aC
inductive OI where
 |box (b:Nat)
 |arr (b:Option Nat) (cap:Nat)
 |dead
def OI.blk:OI->Option Nat
 |.box b=>some b
 |.arr b _=>b
 |.dead=>none
abbrev Fz:=Nat->Option Obj
def Fz.cell?(F:Fz)(a:Addr):Option Value:=
 match F a.block with
 |some (.cells c _ _)=>if a.spot.isSome then none else c[a.off]?
 |_=>none
def Fz.sub(F F':Fz):Prop:=∀b o,F b=some o->F' b=some o
inductive RD (F:Fz):DC->Value->Prop where
 |raw (v:Value) (h:is1 v=true):RD F (.raw v) v
 |nil (A:Option Addr) (c:Nat):RD F (.slc []) (.slice A 0 c)
 |slc (b off c size:Nat) (es:List (List DC)) (g:Nat->Nat->Value)
  (hsz:∀e∈es,e.length=size)
  (hr:∀(i j:Nat) e d,es[i]?=some e->e[j]?=some d->RD F d (g i j))
  (hc:∀(i j:Nat) e d,es[i]?=some e->e[j]?=some d->F.cell? ⟨b,off+(i*size+j),none⟩=some (g i j))
  (hcap:es.length<=c):RD F (.slc es) (.slice (some ⟨b,off,none⟩) es.length c)
 |ptr (cs:List DC) (b off:Nat) (g:Nat->Value) (hr:∀(j:Nat) d,cs[j]?=some d->RD F d (g j))
  (hc:∀(j:Nat) d,cs[j]?=some d->F.cell? ⟨b,off+j,none⟩=some (g j)):RD F (.ptr cs) (.pointer (some ⟨b,off,none⟩))
inductive RC (F:Fz) (γ:List OI):aT->Value->Prop where
 |dc (d:DC) (v:Value) (h:RD F d v):RC F γ (.dc d) v
 |ptr (id off b:Nat) (h:γ[id]?=some (.box b)):RC F γ (.ptr id off) (.pointer (some ⟨b,off,none⟩))
 |bldN (id cap:Nat) (h:γ[id]?=some (.arr none cap)):RC F γ (.bld id 0) (.slice none 0 0)
 |bld (id n b cap:Nat) (h:γ[id]?=some (.arr (some b) cap)):RC F γ (.bld id n) (.slice (some ⟨b,0,none⟩) n cap)
 |ept (id i size off b cap:Nat) (h:γ[id]?=some (.arr (some b) cap)):RC F γ (.ept id i size off) (.pointer (some ⟨b,i*size+off,none⟩))
 |bls (id lo n size b cap c off:Nat) (h:γ[id]?=some (.arr (some b) cap)\/γ[id]?=some (.box b)) (ho:n≠0->off=lo*size) (hc:n<=c):RC F γ (.bls id lo n size) (.slice (some ⟨b,off,none⟩) n c)
 |ref (cs:List DC) (b off:Nat) (g:Nat->Value) (hr:∀(j:Nat) d,cs[j]?=some d->RD F d (g j))
  (hc:∀(j:Nat) d,cs[j]?=some d->F.cell? ⟨b,off+j,none⟩=some (g j)):RC F γ (.ref cs) (.pointer (some ⟨b,off,none⟩))
 | mpc (es:List (Int × Value)) (r clk:Nat) (ents:Array MapEntry) (h:F r=some (.map ents clk)) (he:ents.toList.map (fun e=>(e.key,e.val))=es.map (fun p=>(Value.int .i64 p.1,p.2)))
     (h1:∀ p∈es,is1 p.2=true):RC F γ (.mpc es) (.map (some r))
 |fn (f:FuncId) (caps:List aT) (g:Nat->Value) (hr:∀(i:Nat) c,caps[i]?=some c->RC F γ c (g i)):
  RC F γ (.fn f caps) (.func (.func f) #[] ((List.range caps.length).map g).toArray)
 |junk (v:Value) (h:is1 v=true):RC F γ .junk v
inductive RT (F:Fz) (γ:List OI):TV->Value->Prop where
 |one (c:aT) (v:Value) (h:RC F γ c v):RT F γ (.one c) v
 |agg (cs:List aT) (vs:Array Value) (hs:vs.size=cs.length) (h:∀(i:Nat) c v,cs[i]?=some c->vs[i]?=some v->RC F γ c v):RT F γ (.agg cs) (.agg vs)
inductive RV (F:Fz) (γ:List OI):AV->Value->Prop where
 |one (c:aT) (v:Value) (h:RC F γ c v):RV F γ (.one c) v
 |agg (cs:List aT) (vs:Array Value) (hs:vs.size=cs.length) (h:∀(i:Nat) c v,cs[i]?=some c->vs[i]?=some v->RC F γ c v):RV F γ (.agg cs) (.agg vs)
 |tup (l:List TV) (vs:Array Value) (hs:vs.size=l.length) (h:∀(i:Nat) t v,l[i]?=some t->vs[i]?=some v->RT F γ t v):RV F γ (.tup l) (.tuple vs)
 |junk (v:Value):RV F γ .junk v
theorem RD.is1{F:Fz}{d:DC}{v:Value}(h:RD F d v):is1 v=true:=by cases h<;>first|rfl|assumption
theorem RC.is1{F:Fz}{γ:List OI}{c:aT}{v:Value}(h:RC F γ c v):is1 v=true:=by
 cases h<;>first|rfl|assumption|exact RD.is1 (by assumption)
theorem Fz.sub.cell{F F':Fz}(h:F.sub F'){a:Addr}{v:Value}(hc:F.cell? a=some v):F'.cell? a=some v:=by
 unfold Fz.cell? at *;cases hF:F a.block with
 |none=>simp[hF] at hc
 |some o=>rw[h _ _ hF];rw[hF] at hc;exact hc
theorem Fz.cell_world{F:Fz}{w:World}(h:∀b o,F b=some o->w.heap[b]?=some o){a:Addr}{v:Value}(hc:F.cell? a=some v):w.cell? a=some v:=by
 unfold Fz.cell? at hc;unfold World.cell?;cases hF:F a.block with
 |none=>simp[hF] at hc
 |some o=>rw[h _ _ hF];rw[hF] at hc;exact hc
theorem RD.mono{F F':Fz}(hs:F.sub F'){d:DC}{v:Value}(h:RD F d v):RD F' d v:=by
 induction h with
 |raw v h=>exact .raw v h
 |nil A c=>exact .nil A c
 |slc b off c size es g hsz hr hc hcap ih=>exact .slc b off c size es g hsz (fun i j e d h1 h2=>ih i j e d h1 h2) (fun i j e d h1 h2=>hs.cell (hc i j e d h1 h2)) hcap
 |ptr cs b off g hr hc ih=>exact .ptr cs b off g (fun j d h=>ih j d h) (fun j d h=>hs.cell (hc j d h))
mutual
def aT.keep(p:Nat->Bool):aT->Bool
 |.ptr id _=>!p id
 |.bld id _=>!p id
 |.ept id _ _ _=>!p id
 |.bls id _ _ _=>!p id
 |.fn _ caps=>keepL p caps
 |.dc _=>true
 |.ref _=>true
 |.mpc _=>true
 |.junk=>true
def keepL(p:Nat->Bool):List aT->Bool
 |[]=>true
 |c::cs=>c.keep p&&keepL p cs
end
theorem Ke{p:Nat->Bool}:∀{cs:List aT}{i:Nat}{c:aT},keepL p cs=true->cs[i]?=some c->c.keep p=true
 |[],_,_,_,h=>by simp at h
 |c::cs,0,c',h,h'=>by simp[keepL] at h h';rw[<- h'];exact h.1
 |c::cs,i+1,c',h,h'=>by simp[keepL] at h h';exact Ke h.2 h'
theorem RC.mono{F F':Fz}{γ γ':List OI}(hs:F.sub F'){p:Nat->Bool}(hg:∀(id:Nat) (o:OI),p id=false->γ[id]?=some o->γ'[id]?=some o)
  {c:aT}{v:Value} (h:RC F γ c v):c.keep p=true->RC F' γ' c v:=by
 induction h with
 |dc d v h=>intro _;exact .dc d v (h.mono hs)
 |ptr id off b h=>intro hk;exact .ptr id off b (hg _ _ (by simpa[aT.keep] using hk) h)
 |bldN id cap h=>intro hk;exact .bldN id cap (hg _ _ (by simpa[aT.keep] using hk) h)
 |bld id n b cap h=>intro hk;exact .bld id n b cap (hg _ _ (by simpa[aT.keep] using hk) h)
 |ept id i size off b cap h=>intro hk;exact .ept id i size off b cap (hg _ _ (by simpa[aT.keep] using hk) h)
 |bls id lo n size b cap c off h ho hc=>intro hk;exact .bls id lo n size b cap c off (h.imp (hg _ _ (by simpa[aT.keep] using hk)) (hg _ _ (by simpa[aT.keep] using hk))) ho hc
 |ref cs b off g hr hc=>intro _;exact .ref cs b off g (fun j d h=>(hr j d h).mono hs) (fun j d h=>hs.cell (hc j d h))
 |mpc es r clk ents h he h1=>intro _;exact .mpc es r clk ents (hs _ _ h) he h1
 |fn f caps g hr ih=>intro hk;exact .fn f caps g (fun i c h=>ih i c h (Ke (by simpa[aT.keep] using hk) h))
 |junk v h=>intro _;exact .junk v h
def cG(p:Nat->Bool)(c:aT):aT:=if c.keep p then c else .junk
def sG(p:Nat->Bool):TV->TV
 |.one c=>.one (cG p c)
 |.agg cs=>.agg (cs.map (cG p))
def bD(p:Nat->Bool):AV->AV
 |.one c=>.one (cG p c)
 |.agg cs=>.agg (cs.map (cG p))
 |.tup l=>.tup (l.map (sG p))
 |.junk=>.junk
def cJ(p:Nat->Bool):aC->aC
 |.box cs=>.box (cs.map (cG p))
 |o=>o
section
variable {F F':Fz}{γ γ':List OI}{p:Nat->Bool}
theorem RC.kill(hs:F.sub F')(hg:∀(id:Nat) (o:OI),p id=false->γ[id]?=some o->γ'[id]?=some o){c:aT}{v:Value}(h:RC F γ c v):RC F' γ' (cG p c) v:=by
 unfold cG;split;exact h.mono hs hg (by assumption);exact .junk v h.is1
theorem RCs.kill(hs:F.sub F')(hg:∀(id:Nat) (o:OI),p id=false->γ[id]?=some o->γ'[id]?=some o){cs:List aT}{vs:Array Value}
  (h:∀(i:Nat) c v,cs[i]?=some c->vs[i]?=some v->RC F γ c v):∀(i:Nat) c v,(cs.map (cG p))[i]?=some c->vs[i]?=some v->RC F' γ' c v:=by
 intro i c v hc hv;rw[aXI] at hc;cases hci:cs[i]? with
 |none=>simp[hci] at hc
 |some c0=>simp[hci] at hc;subst hc;exact (h i c0 v hci hv).kill hs hg
theorem RT.kill(hs:F.sub F')(hg:∀(id:Nat) (o:OI),p id=false->γ[id]?=some o->γ'[id]?=some o){t:TV}{v:Value}(h:RT F γ t v):RT F' γ' (sG p t) v:=by
 cases h with
 |one c v h=>exact .one _ _ (h.kill hs hg)
 |agg cs vs hsz h=>exact .agg _ _ (by simpa using hsz) (RCs.kill hs hg h)
theorem RV.kill(hs:F.sub F')(hg:∀(id:Nat) (o:OI),p id=false->γ[id]?=some o->γ'[id]?=some o){a:AV}{v:Value}(h:RV F γ a v):RV F' γ' (bD p a) v:=by
 cases h with
 |one c v h=>exact .one _ _ (h.kill hs hg)
 |agg cs vs hsz h=>exact .agg _ _ (by simpa using hsz) (RCs.kill hs hg h)
 |tup l vs hsz h=>
  refine .tup _ _ (by simpa using hsz) (fun i t v ht hv=>?_)
  rw[aXI] at ht;cases hti:l[i]? with
  |none=>simp[hti] at ht
  |some t0=>simp[hti] at ht;subst ht;exact (h i t0 v hti hv).kill hs hg
 |junk v=>exact .junk v
theorem aT.keep_none(c:aT):c.keep (fun _=>false)=true:=by
 have key:∀ n,∀ c:aT,SizeOf.sizeOf c<=n->c.keep (fun _=>false)=true:=by
   intro n
   induction n with
   | zero=>intro c h;cases c<;>simp at h
   | succ n ih=>
     intro c h;cases c with
     | fn f caps=>
       simp only[aT.keep];have:∀ cs:List aT,SizeOf.sizeOf cs<=n->keepL (fun _=>false) cs=true:=by
         intro cs
         induction cs with
         | nil=>intro _;rfl
         | cons x xs ihx=>
           intro hx;simp at hx;simp[keepL,ih x (by omega),ihx (by omega)]
       exact this caps (by simp at h;omega)
     | _=>simp[aT.keep]
 exact key _ c (aXF _)
theorem RC.ext(hs:F.sub F')(hg:∀(id:Nat) (o:OI),γ[id]?=some o->γ'[id]?=some o){c:aT}{v:Value}(h:RC F γ c v):RC F' γ' c v:=
 h.mono (p:=fun _=>false) hs (fun id o _ h=>hg id o h) (aT.keep_none c)
theorem RT.ext(hs:F.sub F')(hg:∀(id:Nat) (o:OI),γ[id]?=some o->γ'[id]?=some o){t:TV}{v:Value}(h:RT F γ t v):RT F' γ' t v:=by
 cases h with
 |one c v h=>exact .one _ _ (h.ext hs hg)
 |agg cs vs hsz h=>exact .agg _ _ hsz (fun i c v h1 h2=>(h i c v h1 h2).ext hs hg)
theorem RV.ext(hs:F.sub F')(hg:∀(id:Nat) (o:OI),γ[id]?=some o->γ'[id]?=some o){a:AV}{v:Value}(h:RV F γ a v):RV F' γ' a v:=by
 cases h with
 |one c v h=>exact .one _ _ (h.ext hs hg)
 |agg cs vs hsz h=>exact .agg _ _ hsz (fun i c v h1 h2=>(h i c v h1 h2).ext hs hg)
 |tup l vs hsz h=>exact .tup _ _ hsz (fun i t v h1 h2=>(h i t v h1 h2).ext hs hg)
 |junk v=>exact .junk v
end
def NF(fz:Nat×Nat)(n:Nat):Prop:=∀o,o<n->¬ (fz.1<=o/\o<fz.2)
def L5(w:World)(b:Nat)(vs:Array Value)(T:TypeId):Prop:=∃fz,w.heap[b]?=some (.cells vs T fz)/\NF fz vs.size
def OK(F:Fz)(γ:List OI)(w:World):aC->OI->Prop
 |.box cs,.box b=>∃(vs:Array Value) (T:TypeId),L5 w b vs T/\cs.length<=vs.size/\∀(i:Nat) c v,cs[i]?=some c->vs[i]?=some v->RC F γ c v
 |.arr cap _ es,.arr none cap'=>cap=0/\cap'=0/\es=[]
 | .arr cap size es,.arr (some b) cap'=>cap'=cap/\es.length<=cap/\(∀ e∈es,e.length=size)/\
     ∃ (vs:Array Value) (T:TypeId),L5 w b vs T/\vs.size=cap * size/\
       ∀ (i j:Nat) e d v,es[i]?=some e->e[j]?=some d->vs[i * size+j]?=some v->RD F d v
 |.dead,.dead=>True
 |_,_=>False
def bZ(γ:List OI)(i:Nat):Option Nat:=(γ[i]?).bind OI.blk
structure dE (F:Fz) (γ:List OI) (hp:List aC) (w:World):Prop where
 fz:∀b o,F b=some o->w.heap[b]?=some o
 len:γ.length=hp.length
 nd:∀i j b,bZ γ i=some b->bZ γ j=some b->i=j
 disj:∀i b,bZ γ i=some b->F b=none
 ok:∀(i:Nat) o x,hp[i]?=some o->γ[i]?=some x->OK F γ w o x
structure gU (k:Nat) (F:Fz) (γ:List OI) (w:World) (F':Fz) (γ':List OI) (w':World):Prop where
 sub:F.sub F'
 os:w'.os=w.os
 tape:w'.tape=w.tape
 output:w'.output=w.output
 size:w.heap.size<=w'.heap.size
 far:∀b,b<w.heap.size->(∀i,bZ γ i≠some b)->w'.heap[b]?=w.heap[b]?
 new:∀b o,F' b=some o->F b=some o\/w.heap.size<=b\/∃i,bZ γ i=some b
 blk:∀i b,bZ γ' i=some b->(∃j,bZ γ j=some b)\/w.heap.size<=b
 box:∀i,i<k->∀b,γ[i]?=some (.box b)->γ'[i]?=some (.box b)
theorem gU.refl(k:Nat)(F:Fz)(γ:List OI)(w:World):gU k F γ w F γ w:=
 ⟨fun _ _ h=>h,rfl,rfl,rfl,aXF _,fun _ _ _=>rfl,fun _ _ h=>.inl h,fun i _ h=>.inl ⟨i,h⟩,fun _ _ _ h=>h⟩
theorem gU.trans{k:Nat}{F F1 F2:Fz}{γ γ1 γ2:List OI}{w w1 w2:World}(h:gU k F γ w F1 γ1 w1)(g:gU k F1 γ1 w1 F2 γ2 w2):gU k F γ w F2 γ2 w2:=by
 refine⟨fun b o hb=>g.sub b o (h.sub b o hb),g.os.trans h.os,g.tape.trans h.tape,g.output.trans h.output,Nat.le_trans h.size g.size,?_,?_,?_,?_⟩
 intro b hb hn;rw[g.far b (Nat.lt_of_lt_of_le hb h.size) ?_,h.far b hb hn];intro i hi;rcases h.blk i b hi with⟨j,hj⟩|hge
 exact hn j hj;omega;intro b o hb;rcases g.new b o hb with h1|h1|⟨i,hi⟩
 exact h.new b o h1;exact .inr (.inl (Nat.le_trans h.size h1));rcases h.blk i b hi with hj|hge
 exact .inr (.inr hj);exact .inr (.inl hge);intro i b hb;rcases g.blk i b hb with⟨j,hj⟩|hge
 exact h.blk j b hj;exact .inr (Nat.le_trans h.size hge);intro i hi b hb;exact g.box i hi b (h.box i hi b hb)
theorem gU.le{k k':Nat}{F F':Fz}{γ γ':List OI}{w w':World}(h:gU k F γ w F' γ' w')(hk:k'<=k):gU k' F γ w F' γ' w':=
 ⟨h.sub,h.os,h.tape,h.output,h.size,h.far,h.new,h.blk,fun i hi=>h.box i (Nat.lt_of_lt_of_le hi hk)⟩
def bV(F:Fz)(γ:List OI)(sl:List AV)(a:Act):Prop:=
 a.defers=[]/\a.tmps.size=sl.length/\∀(i:Nat) av v,sl[i]?=some av->a.tmps[i]?=some v->RV F γ av v
end
section
inductive aH where
 |t (n:Nat)|k (v:Value)|g (n:Nat)|f (n:FuncId)
inductive EK where
 |b|i|s
inductive AI where
 |mov (x:aH)|pick (c a b:aH)
 |alloc (zero:List Value)|box (x:aH)
 |load (isAgg:Bool) (size:Nat) (x:aH)|store (size:Nat) (x v:aH)
 |nilc (x:aH)|bin (op:BinOp) (x y:aH)|un (op:UnOp) (x:aH)
 |binb (neg:Bool) (x y:aH)|eqs (neg:Bool) (ks:List EK) (x y:aH)
 |conv (k:IntKind) (x:aH)|cvid (x:aH)|cvbs (x:aH)
 |addo (off:Nat) (x:aH)|fld (isAgg:Bool) (size off:Nat) (x:aH)
 |ixA (n size:Nat) (x i:aH)|ixL (size:Nat) (x i:aH)|ixS (x i:aH)
 |slS (x:aH) (lo hi:Option aH)|slL (size:Nat) (x:aH) (lo hi:Option aH)
 |bslc (size len:Nat) (zero:List Value) (parts:List (Nat×aH))
 |build (zero:List Value) (parts:List (Nat×Nat×aH))
 |ext (x:aH) (n:Nat)|lenS (x:aH)|lenL (x:aH)|lenA (n:Nat)
 |min2 (x y:aH)|max2 (x y:aH)
 |mkfn (f:FuncId) (caps:List aH)
 |call (f:FuncId) (args:List aH)|callv (x:aH) (args:List aH)
 |app (size bytes:Nat) (zero:List Value) (s x:aH)|apps (s x:aH)
 |mk (size bytes:Nat) (zero:List Value) (l c:aH)
 |clr (size:Nat) (zero:List Value) (x:aH)
 |isnil (p neg:Bool) (x:aH)
 |mpx (ok:Bool) (zero:Value) (x k:aH)
 |cpys (d x:aH)|cvsb (x:aH)|slA (n size:Nat) (x:aH) (lo hi:Option aH)
 |ixV (n:Nat) (x i:aH)|s2p (n:Nat) (x:aH)
structure aN where
 dst:Option Nat
 ai:AI
 guard:Option (Nat×Bool)
abbrev aE:=Nat->Option (List DC)
abbrev dA(v:Value):aT:=.dc (.raw v)
abbrev dG(v:Value):AV:=.one (.dc (.raw v))
def aCj:Value->AV
 |.agg cs=>if cs.toList.all is1 then .agg (cs.toList.map dA) else .junk
 |.tuple _=>.junk
 |v=>dG v
def aK(G:aE)(sl:List AV):aH->AV
 |.t n=>sl.getD n .junk
 |.k v=>aCj v
 |.g n=>match G n with|some cs=>.one (.ref cs)|none=>.junk
 |.f n=>.one (.fn n [])
def aQN:AV->Option Value
 |.one (.dc (.raw v))=>some v
 |_=>none
def bH:AV->Option Int
 |.one (.dc (.raw (.int _ n)))=>some n
 |_=>none
def cH:AV->Option Bool
 |.one (.dc (.raw (.bool b)))=>some b
 |_=>none
def dB:AV->Option ByteArray
 |.one (.dc (.raw (.string b)))=>some b
 |_=>none
def cellsOf:AV->Option (List aT)
 |.one c=>some [c]
 |.agg cs=>some cs
 |_=>none
def Ov(isAgg:Bool)(cs:List aT):Option AV:=
 match isAgg,cs with
 |true,cs=>some (.agg cs)
 |false,[c]=>some (.one c)
 |_,_=>none
def eqR:EK->Value->Value->Option Bool
 |.b,.bool a,.bool b=>some (a==b)
 |.i,.int j a,.int k b=>if j=k then some (a==b) else none
 |.s,.string a,.string b=>some (a.toList==b.toList)
 |_,_,_=>none
def Cx:List EK->List aT->List aT->Option Bool
 |[],[],[]=>some true
 |k::ks,.dc (.raw a)::as,.dc (.raw b)::bs=>(eqR k a b).bind fun x=>(Cx ks as bs).bind fun y=>some (x&&y)
 |_,_,_=>none
def kR(op:BinOp)(k:IntKind)(a b:Int):Option Value:=
 match op with
 |.add=>some (.int k (k.wrap (a+b)))
 |.sub=>some (.int k (k.wrap (a-b)))
 |.mul=>some (.int k (k.wrap (a*b)))
 |.quo=>if b=0 then none else some (.int k (k.wrap (a.tdiv b)))
 |.rem=>if b=0 then none else some (.int k (a.tmod b))
 |.and=>some (.int k (k.wrap (BitVec.ofInt k.bits a &&& BitVec.ofInt k.bits b).toNat))
 |.or=>some (.int k (k.wrap (BitVec.ofInt k.bits a ||| BitVec.ofInt k.bits b).toNat))
 |.xor=>some (.int k (k.wrap (BitVec.ofInt k.bits a ^^^ BitVec.ofInt k.bits b).toNat))
 |.andNot=>some (.int k (k.wrap (BitVec.ofInt k.bits a &&& ~~~BitVec.ofInt k.bits b).toNat))
 |.eql=>some (.bool (a==b))
 |.neq=>some (.bool (a != b))
 |.lss=>some (.bool (a<b))
 |.leq=>some (.bool (a<=b))
 |.gtr=>some (.bool (a > b))
 |.geq=>some (.bool (a≥b))
 |_=>none
def Gl(op:BinOp)(a b:ByteArray):Option Value:=
 match op with
 |.add=>if a.size+b.size<=9223372036854775807 then some (.string (a++b)) else none
 |.eql=>some (.bool (a.toList==b.toList))
 |.neq=>some (.bool !(a.toList==b.toList))
 |.lss=>some (.bool (Op.bytesLess a.toList b.toList))
 |.leq=>some (.bool (Op.bytesLess a.toList b.toList||a.toList==b.toList))
 |.gtr=>some (.bool !(Op.bytesLess a.toList b.toList||a.toList==b.toList))
 |.geq=>some (.bool !(Op.bytesLess a.toList b.toList))
 |_=>none
def eP(op:BinOp)(x y:AV):Option AV:=
 match x,y with
 |.one (.dc (.raw (.int j a))),.one (.dc (.raw (.int k b)))=>
  match op with
  |.shl=>if b<0 then none else some (dG (.int j (j.wrap (a*2 ^ (min b.toNat j.bits)))))
  |.shr=>if b<0 then none else some (dG (.int j (a.fdiv (2 ^ (min b.toNat j.bits)))))
  |op=>if j=k then (kR op j a b).map dG else none
 |.one (.dc (.raw (.string a))),.one (.dc (.raw (.string b)))=>(Gl op a b).map dG
 |_,_=>none
def Kf(neg:Bool)(x y:AV):Option AV:=
 match x,y with
 |.one (.dc (.raw (.bool a))),.one (.dc (.raw (.bool b)))=>some (dG (.bool (if neg then !(a==b) else a==b)))
 |_,_=>none
def Ow(neg:Bool)(ks:List EK)(x y:AV):Option AV:=
 match x,y with
 |.agg as,.agg bs=>(Cx ks as bs).map fun b=>dG (.bool (if neg then !b else b))
 |_,_=>none
def unV(op:UnOp)(x:AV):Option AV:=
 match op,x with
 |.neg,.one (.dc (.raw (.int k n)))=>some (dG (.int k (k.wrap (0-n))))
 |.not,.one (.dc (.raw (.bool b)))=>some (dG (.bool !b))
 |.xor,.one (.dc (.raw (.int k n)))=>(kR .xor k (if k.signed then -1 else k.max) n).map dG
 |_,_=>none
def D0(off:Nat):AV->Option AV
 |.one (.ptr id o)=>some (.one (.ptr id (o+off)))
 |.one (.ept id i s o)=>some (.one (.ept id i s (o+off)))
 |.one (.ref cs)=>some (.one (.ref (cs.drop off)))
 |_=>none
def aI(hp:List aC)(id:Nat):aC:=hp.getD id .dead
def lG(hp:List aC)(isAgg:Bool)(size:Nat):AV->Option AV
 |.one (.ptr id o)=>
  match aI hp id with
  |.box cs=>if o+size<=cs.length then Ov isAgg ((cs.drop o).take size) else none
  |_=>none
 |.one (.ept id i s o)=>
  match aI hp id with
  |.arr _ s' es=>
   match es[i]? with
   |some e=>if s=s'/\o+size<=e.length then Ov isAgg (((e.drop o).take size).map .dc) else none
   |none=>none
  |_=>none
 |.one (.ref cs)=>if size<=cs.length then Ov isAgg ((cs.take size).map .dc) else none
 |_=>none
def aHc(isAgg:Bool)(size off:Nat):AV->Option AV
 |.agg cs=>if off+size<=cs.length then Ov isAgg ((cs.drop off).take size) else none
 |_=>none
def aCk(n size:Nat)(x:AV)(i:Int):Option AV:=
 if 0<=i/\i<n then D0 (i.toNat*size) x else none
def At(hp:List aC)(size:Nat)(x:AV)(i:Int):Option AV:=
 match x with
 |.one (.dc (.slc es))=>
  if 0<=i then
   match es[i.toNat]? with
   |some e=>if e.length=size then some (.one (.ref e)) else none
   |none=>none
  else none
 |.one (.bld id n)=>
  match aI hp id with
  |.arr _ s es=>if 0<=i/\i<n/\n<=es.length/\s=size then some (.one (.ept id i.toNat size 0)) else none
  |_=>none
 |.one (.bls id k n z)=>
  match aI hp id with
  |.arr _ s es=>if 0<=i/\i<n/\k+n<=es.length/\s=size/\z=size then some (.one (.ept id (k+i.toNat) size 0)) else none
  |.box _=>if 0<=i/\i<n/\z=size then some (.one (.ptr id ((k+i.toNat)*size))) else none
  |_=>none
 |_=>none
def Gm(x:AV)(i:Int):Option AV:=
 match dB x with
 |some s=>if 0<=i then match s.data.toList[i.toNat]? with|some b=>some (dG (.int .u8 b.toNat))|none=>none else none
 |none=>none
def dO(x:Option AV)(top dflt:Nat):Option Nat:=
 match x with
 |none=>some dflt
 |some v=>match bH v with|some i=>if 0<=i/\i<=top then some i.toNat else none|none=>none
def Jt(x:AV)(lo hi:Option AV):Option AV:=
 (dB x).bind fun s=>(dO hi s.size s.size).bind fun h=>(dO lo h 0).bind fun l=>some (dG (.string (s.extract l h)))
def kS(hp:List aC)(size:Nat)(x:AV)(lo hi:Option AV):Option AV:=
 match x with
 |.one (.dc (.slc es))=>
  (dO hi es.length es.length).bind fun h=>(dO lo h 0).bind fun l=>if es.all (fun e=>e.length=size) then some (.one (.dc (.slc ((es.take h).drop l)))) else none
 |.one (.dc (.raw (.slice none 0 0)))=>
  (dO hi 0 0).bind fun h=>(dO lo h 0).bind fun _=>some x
 |.one (.bld id n)=>
  match aI hp id,lo with
  |.arr _ _ es,none=>if n<=es.length then (dO hi n n).bind fun h=>some (.one (.bld id h)) else none
  |.arr _ s es,some lo=>if n<=es.length/\s=size then (dO hi n n).bind fun h=>(dO (some lo) h 0).bind fun l=>some (.one (if l=0 then .bld id h else .bls id l (h-l) size)) else none
  |_,_=>none
 |.one (.bls id k n s)=>
  match aI hp id with
  |.arr _ s' es=>if k+n<=es.length/\s'=size/\s=size then (dO hi n n).bind fun h=>(dO lo h 0).bind fun l=>some (.one (.bls id (k+l) (h-l) size)) else none
  |.box _=>if s=size then (dO hi n n).bind fun h=>(dO lo h 0).bind fun l=>some (.one (.bls id (k+l) (h-l) size)) else none
  |_=>none
 |_=>none
def aHd(n size:Nat)(x:AV)(lo hi:Option AV):Option AV:=
 match x with
 |.one (.ptr id off)=>if off % size=0 then (dO hi n n).bind fun h=>(dO lo h 0).bind fun l=>some (.one (.bls id (off / size+l) (h-l) size)) else none
 |_=>none
def rR:AV->Option AV
 |.one (.dc (.slc es))=>some (dG (.int .i64 es.length))
 |.one (.dc (.raw (.slice _ n _)))=>some (dG (.int .i64 n))
 |.one (.bld _ n)=>some (dG (.int .i64 n))
 |.one (.bls _ _ n _)=>some (dG (.int .i64 n))
 |_=>none
def cQ(cs:List aT)(off:Nat)(vs:List aT):List aT:=cs.take off++vs++cs.drop (off+vs.length)
def gX(zero:List aT):List (Nat×Nat×AV)->Option (List aT)
 |[]=>some zero
 |(off,size,v)::rest=>(cellsOf v).bind fun vs=>if vs.length=size/\off+size<=zero.length then gX (cQ zero off vs) rest else none
def S5(x:AV)(n:Nat):Option AV:=
 match x with
 |.tup l=>match l[n]? with|some (.one c)=>some (.one c)|some (.agg cs)=>some (.agg cs)|none=>none
 |_=>none
def aCl(x y:AV):Option AV:=
 match x,y with
 |.one (.dc (.raw (.int k a))),.one (.dc (.raw (.int _ b)))=>some (dG (.int k (if b<a then b else a)))
 |_,_=>none
def aCm(x y:AV):Option AV:=
 match x,y with
 |.one (.dc (.raw (.int k a))),.one (.dc (.raw (.int _ b)))=>some (dG (.int k (if b > a then b else a)))
 |_,_=>none
def Kg:AV->Option AV
 |.one (.ptr id o)=>some (.one (.ptr id o))
 |.one (.ept id i s o)=>some (.one (.ept id i s o))
 |.one (.ref cs)=>some (.one (.ref cs))
 |.one (.dc (.ptr cs))=>some (.one (.ref cs))
 |_=>none
def aHe:AV->Option Bool
 |.one (.dc (.raw (.slice none 0 0)))=>some true
 |.one (.dc (.slc (_::_)))=>some false
 |.one (.bld _ (_+1))=>some false
 |.one (.bls _ _ _ _)=>some false
 |_=>none
def aHf:AV->Option Bool
 |.one (.dc (.raw (.pointer none)))=>some true
 |.one (.ptr _ _)=>some false
 |.one (.ept _ _ _ _)=>some false
 |.one (.ref _)=>some false
 |.one (.dc (.ptr _))=>some false
 |_=>none
def Zu(p neg:Bool)(v:AV):Option AV:=(bif p then aHf v else aHe v).map fun b=>dG (.bool (b != neg))
def zO:List (Int×Value)->Int->Option Value
 |[],_=>none
 |(a,v)::es,k=>if a=k then some v else zO es k
def mpR:Bool->Value->Option Value->AV
 |true,_,some v=>.tup [.one (dA v),.one (dA (.bool true))]
 |true,z,none=>.tup [.one (dA z),.one (dA (.bool false))]
 |false,_,some v=>dG v
 |false,z,none=>dG z
def Ox(ok:Bool)(z:Value):AV->AV->Option AV
 |.one (.mpc es),.one (.dc (.raw (.int .i64 k)))=>some (mpR ok z (zO es k))
 |_,_=>none
def Au(c a b:AV):Option AV:=
 match cH c with
 |some c=>some (if c then a else b)
 |none=>none
def dcs:List aT->Option (List DC)
 |[]=>some []
 |.dc d::cs=>(dcs cs).map (d::·)
 |_=>none
def fH(es:List (List DC)):Option (List UInt8):=
 match es with
 |[]=>some []
 |[.raw (.int .u8 n)]::rest=>(fH rest).map (UInt8.ofNat n.toNat::·)
 |_=>none
def iV:List aT->Option (List UInt8)
 |[]=>some []
 |.dc (.raw (.int .u8 n))::rest=>(iV rest).map (UInt8.ofNat n.toNat::·)
 |_=>none
def mU(hp:List aC):AV->Option AV
 |.one (.dc (.slc es))=>(fH es).map fun l=>dG (.string ⟨l.toArray⟩)
 |.one (.dc (.raw (.slice none _ _)))=>some (dG (.string ⟨#[]⟩))
 |.one (.bld id n)=>
  match aI hp id with
  |.arr _ _ es=>if n<=es.length then (fH (es.take n)).map fun l=>dG (.string ⟨l.toArray⟩) else none
  |_=>none
 |.one (.bls id k n z)=>
  match aI hp id with
  |.box cs=>if z=1/\k+n<=cs.length then (iV ((cs.drop k).take n)).map fun l=>dG (.string ⟨l.toArray⟩) else none
  |_=>none
 |_=>none
def hP:AV->Option aT
 |.one c=>some c
 |_=>none
def S6(n:Nat):AV->Int->Option AV
 |.agg cs,i=>if 0<=i/\i<n/\cs.length=n then cs[i.toNat]?.map AV.one else none
 |_,_=>none
def Zv(n:Nat):AV->Option AV
 |.one (.dc (.slc es))=>if n<=es.length/\0<n then some (.one (.ref (es.take n).flatten)) else none
 |_=>none
def cX(G:aE)(as:AS):AI->Option AV
 |.mov x=>some (aK G as.sl x)
 |.pick c a b=>Au (aK G as.sl c) (aK G as.sl a) (aK G as.sl b)
 |.load g s x=>lG as.hp g s (aK G as.sl x)
 |.nilc x=>Kg (aK G as.sl x)
 |.isnil p n x=>Zu p n (aK G as.sl x)
 |.mpx ok z x k=>Ox ok z (aK G as.sl x) (aK G as.sl k)
 |.bin op x y=>eP op (aK G as.sl x) (aK G as.sl y)
 |.binb n x y=>Kf n (aK G as.sl x) (aK G as.sl y)
 |.eqs n ks x y=>Ow n ks (aK G as.sl x) (aK G as.sl y)
 |.un op x=>unV op (aK G as.sl x)
 |.conv k x=>(bH (aK G as.sl x)).map fun n=>dG (.int k (k.wrap n))
 |.cvid x=>(dB (aK G as.sl x)).map fun s=>dG (.string s)
 |.cvbs x=>mU as.hp (aK G as.sl x)
 |.addo o x=>D0 o (aK G as.sl x)
 |.fld g s o x=>aHc g s o (aK G as.sl x)
 |.ixA n s x i=>(bH (aK G as.sl i)).bind fun i=>aCk n s (aK G as.sl x) i
 |.ixL s x i=>(bH (aK G as.sl i)).bind fun i=>At as.hp s (aK G as.sl x) i
 |.ixS x i=>(bH (aK G as.sl i)).bind fun i=>Gm (aK G as.sl x) i
 |.ixV n x i=>(bH (aK G as.sl i)).bind fun i=>S6 n (aK G as.sl x) i
 |.s2p n x=>Zv n (aK G as.sl x)
 |.slS x lo hi=>Jt (aK G as.sl x) (lo.map (aK G as.sl)) (hi.map (aK G as.sl))
 |.slL s x lo hi=>kS as.hp s (aK G as.sl x) (lo.map (aK G as.sl)) (hi.map (aK G as.sl))
 |.slA n s x lo hi=>aHd n s (aK G as.sl x) (lo.map (aK G as.sl)) (hi.map (aK G as.sl))
 |.build z ps=>(gX (z.map dA) (ps.map fun (o,s,x)=>(o,s,aK G as.sl x))).map .agg
 |.ext x n=>S5 (aK G as.sl x) n
 |.lenS x=>(dB (aK G as.sl x)).map fun s=>dG (.int .i64 s.size)
 |.lenL x=>rR (aK G as.sl x)
 |.lenA n=>some (dG (.int .i64 n))
 |.min2 x y=>aCl (aK G as.sl x) (aK G as.sl y)
 |.max2 x y=>aCm (aK G as.sl x) (aK G as.sl y)
 |.mkfn f caps=>(caps.mapM fun c=>hP (aK G as.sl c)).map fun cs=>.one (.fn f cs)
 |_=>none
def aQ(sl:List AV)(dst:Option Nat)(v:AV):List AV:=
 match dst with
 |some d=>sl.set d v
 |none=>sl
end
section
def aU:Operand->aH
 |.tmp t=>.t t
 |.const v=>.k v
 |.global g=>.g g
 |.func f=>.f f
def cZ(P:Program)(t:TypeId):Option Nat:=(P.info? t).map (·.size)
def Zw:TypeDesc->Bool
 |.struct _=>true
 |.array _ _=>true
 |_=>false
def Cy(P:Program)(t:TypeId):Option Bool:=(P.underlying t).map Zw
def ekD:TypeDesc->Option EK
 |.bool=>some .b
 |.int _=>some .i
 |.string=>some .s
 |_=>none
def pJ(P:Program):List Field->Nat->Option (List EK)
 |[],_=>some []
 | f::fs,off=>if f.offset=off/\f.name≠"_" then ((P.underlying f.type).bind ekD).bind fun k=>(pJ P fs (off+1)).map (k::·) else none
def Oy:TypeDesc->Operand->Option Bool
 |.slice _,.const (.slice none 0 0)=>some false
 |.pointer _,.const (.pointer none)=>some true
 |_,_=>none
def lN(op:BinOp)(d:TypeDesc)(x y:Operand):Option AI:=
 match op with
 |.eql=>(Oy d y).map fun p=>.isnil p false (aU x)
 |.neq=>(Oy d y).map fun p=>.isnil p true (aU x)
 |_=>none
def nU(P:Program)(op:BinOp)(t:TypeId)(x y:Operand):Option AI:=
 match P.underlying t with
 |some .bool=>match op with|.eql=>some (.binb false (aU x) (aU y))|.neq=>some (.binb true (aU x) (aU y))|_=>none
 |some (.int _)=>some (.bin op (aU x) (aU y))
 |some .string=>some (.bin op (aU x) (aU y))
 |some (.struct fs)=>
  if P.stoodInHeld t=false/\P.eqGuardType P.depth t=false then
   match op with
   |.eql=>(pJ P fs.toList 0).map fun ks=>.eqs false ks (aU x) (aU y)
   |.neq=>(pJ P fs.toList 0).map fun ks=>.eqs true ks (aU x) (aU y)
   |_=>none
  else none
 |some (.array n e)=>
  if P.eqGuardType P.depth t=false/\((P.underlying e).bind ekD).isSome=true/\cZ P e=some 1 then
   match op,(P.underlying e).bind ekD with
   |.eql,some k=>some (.eqs false (List.replicate n k) (aU x) (aU y))
   |.neq,some k=>some (.eqs true (List.replicate n k) (aU x) (aU y))
   |_,_=>none
  else none
 |some d=>lN op d x y
 |none=>none
def mC(P:Program)(s d:TypeId)(x:Operand):Option AI:=
 match P.underlying s,P.underlying d with
 |some (.int _),some (.int k)=>some (.conv k (aU x))
 |some .string,some .string=>some (.cvid (aU x))
 |some (.slice e),some .string=>if P.underlying e matches some (.int .u8) then some (.cvbs (aU x)) else none
 |some .string,some (.slice e)=>if P.underlying e matches some (.int .u8) then some (.cvsb (aU x)) else none
 |_,_=>none
def sH(P:Program)(s:TypeId)(f:Nat):Option Field:=
 match P.underlying s with
 |some (.struct fs)=>fs[f]?
 |_=>none
def Fj(P:Program)(t:TypeId):Option (List (Nat×Nat) ⊕ Nat):=
 match P.underlying t with
 |some (.struct fs)=>(fs.toList.mapM (fun f=>(P.info? f.type).map fun i=>(f.offset,i.size))).map .inl
 |some (.array _ e)=>(P.info? e).map fun i=>.inr i.size
 |_=>none
def pF(p:List (Nat×Nat) ⊕ Nat)(i:Nat):Option (Nat×Nat):=
 match p with
 |.inl l=>l[i]?
 |.inr s=>some (i*s,s)
def nL(p:List (Nat×Nat) ⊕ Nat):Nat×Operand->Option (Nat×Nat×aH)
 |(i,x)=>(pF p i).map fun (o,s)=>(o,s,aU x)
def eQ(P:Program)(c:Call):Option AI:=
 match c.callee with
 |.builtin .len=>
  match c.argTypes[0]?,c.args[0]? with
  |some t,some x=>
   match P.underlying t with
   |some .string=>some (.lenS (aU x))
   |some (.slice _)=>some (.lenL (aU x))
   |some (.array n _)=>some (.lenA n)
   |some (.pointer e)=>match P.underlying e with|some (.array n _)=>some (.lenA n)|_=>none
   |_=>none
  |_,_=>none
 |.builtin .min=>match c.args.toList with|[x,y]=>some (.min2 (aU x) (aU y))|_=>none
 |.builtin .max=>match c.args.toList with|[x,y]=>some (.max2 (aU x) (aU y))|_=>none
 |.builtin .append=>
  match c.argTypes.toList,c.args.toList with
  |[t,u],[s,x]=>
   match P.underlying t,P.underlying u with
   |some (.slice e),some (.slice e')=>
    if e=e' then (P.info? e).bind fun i=>i.zero.bind fun z=>if z.cells.size=i.size/\0<i.bytes then some (.app i.size i.bytes z.cells.toList (aU s) (aU x)) else none else none
   |some (.slice e),some .string=>if P.underlying e matches some (.int .u8) then (P.info? e).bind fun i=>i.zero.bind fun z=>if i.size=1/\i.bytes=1/\z.cells.size=1 then some (.apps (aU s) (aU x)) else none else none
   |_,_=>none
  |_,_=>none
 |.builtin .clear=>
  match c.argTypes.toList,c.args.toList with
  |[t],[x]=>
   match P.underlying t with
   |some (.slice e)=>(P.info? e).bind fun i=>i.zero.bind fun z=>if z.cells.size=i.size/\0<i.size/\z.cells.toList.all is1 then some (.clr i.size z.cells.toList (aU x)) else none
   |_=>none
  |_,_=>none
 |.builtin .copy=>
  match c.argTypes.toList,c.args.toList with
  |[t,u],[d,x]=>
   match P.underlying t,P.underlying u with
   |some (.slice e),some .string=>if (P.info? e).map (·.size)=some 1 then some (.cpys (aU d) (aU x)) else none
   |_,_=>none
  |_,_=>none
 |.value (.func f)=>
  match P.funcs[f]? with
  | some fn=>if fn.name=="runtime.NumGoroutine"||fn.body.isNone then none else some (.call f (c.args.toList.map aU))
  |none=>none
 |.value (.tmp t)=>some (.callv (.t t) (c.args.toList.map aU))
 |_=>none
def bB(P:Program)(o:Oper):Option AI:=
 match o.op with
 |.move x=>some (.mov (aU x))
 |.assign x=>some (.mov (aU x))
 |.pick c a b=>some (.pick (aU c) (aU a) (aU b))
 |.alloc e=>(P.info? e).bind fun i=>i.zero.bind fun z=>if z.cells.toList.all is1 then some (.alloc z.cells.toList) else none
 |.box _ x=>some (.box (aU x))
 |.load t x=>(Cy P t).bind fun g=>(cZ P t).map fun s=>.load g (if g then s else 1) (aU x)
 |.store t x v=>(cZ P t).map fun s=>.store s (aU x) (aU v)
 |.nilCheck x=>some (.nilc (aU x))
 |.binOp op t x y _=>nU P op t x y
 |.unOp op _ x=>some (.un op (aU x))
 |.convert s d x=>mC P s d x
 |.fieldAddr s x f=>(sH P s f).bind fun fl=>(cZ P fl.type).bind fun n=>if n=0 then none else some (.addo fl.offset (aU x))
 |.field s x f=>(sH P s f).bind fun fl=>(Cy P fl.type).bind fun g=>(cZ P fl.type).map fun n=>.fld g (if g then n else 1) fl.offset (aU x)
 |.indexAddr t x i=>
  match P.underlying t with
  |some (.array n e)=>(cZ P e).map fun s=>.ixA n s (aU x) (aU i)
  |some (.slice e)=>(cZ P e).map fun s=>.ixL s (aU x) (aU i)
  |_=>none
 |.index t x i=>
  match P.underlying t with
  |some .string=>some (.ixS (aU x) (aU i))
  |some (.array n e)=>if Cy P e=some false/\cZ P e=some 1 then some (.ixV n (aU x) (aU i)) else none
  |_=>none
 |.sliceToArrayPointer t x=>
  match P.underlying t with
  |some (.array n e)=>if cZ P e=some 1 then some (.s2p n (aU x)) else none
  |_=>none
 |.slice t x lo hi none=>
  match P.underlying t with
  |some .string=>some (.slS (aU x) (lo.map aU) (hi.map aU))
  |some (.slice e)=>(cZ P e).map fun s=>.slL s (aU x) (lo.map aU) (hi.map aU)
  |some (.array n e)=>(cZ P e).bind fun s=>if s=0 then none else some (.slA n s (aU x) (lo.map aU) (hi.map aU))
  |_=>none
 |.lookup t x ix ok=>
  match P.underlying t with
  |some (.map kt et)=>if P.underlying kt matches some (.int .i64) then ((P.info? et).bind fun i=>i.zero).bind fun z=>if is1 z then some (.mpx ok z (aU x) (aU ix)) else none else none
  |_=>none
 |.build t ps=>(Fj P t).bind fun p=>(P.info? t).bind fun i=>i.zero.bind fun z=>if z.cells.toList.all is1 then (ps.toList.mapM (nL p)).map fun l=>.build z.cells.toList l else none
 |.buildSlice t len ps=>
  match P.underlying t with
  |some (.slice e)=>(P.info? e).bind fun i=>i.zero.bind fun z=>if len*i.size<=16777216/\z.cells.size=i.size/\0<i.size/\z.cells.toList.all is1 then some (.bslc i.size len z.cells.toList (ps.toList.map fun (j,x)=>(j,aU x))) else none
  |_=>none
 |.extract x n=>some (.ext (aU x) n)
 |.makeSlice t l c=>
  match P.underlying t with
  |some (.slice e)=>(P.info? e).bind fun i=>i.zero.bind fun z=>if z.cells.size=i.size/\0<i.bytes/\0<i.size/\z.cells.toList.all is1 then some (.mk i.size i.bytes z.cells.toList (aU l) (aU c)) else none
  |_=>none
 |.makeFunc (.func f) first caps=>if first.isEmpty then some (.mkfn f (caps.toList.map aU)) else none
 |.call c=>eQ P c
 |_=>none
theorem aHg(F:Fz)(γ:List OI)(v:Value):RV F γ (aCj v) v:=by
 cases v with
 |agg cs=>
  simp only[aCj];split;rename_i h;refine .agg _ _ (by simp) (fun i c v hc hv=>?_)
  simp only[aXI,aYy,hv,aXG,Option.some.injEq] at hc;subst hc;refine .dc _ _ (.raw _ (aY2.1 h v (by simpa using Array.mem_of_getElem? hv)));exact .junk _
 |tuple vs=>exact .junk _
 |_=>exact .one _ _ (.dc _ _ (.raw _ rfl))
structure eU (F:Fz) (G:aE):Prop where
 rc:∀g cs,G g=some cs->∀γ,RC F γ (.ref cs) (.pointer (some ⟨g,0,none⟩))
 sz:∀g cs,G g=some cs->∃o,F g=some o/\∃vs t z,o=.cells vs t z/\vs.size=cs.length
theorem eU.sub{F F':Fz}{G:aE}(h:eU F G)(hs:F.sub F'):eU F' G:=
 ⟨fun g cs hg γ=>(h.rc g cs hg γ).ext hs (fun _ _ h=>h),fun g cs hg=>let ⟨o,h1,h2⟩:=h.sz g cs hg;⟨o,hs g o h1,h2⟩⟩
section
variable {F:Fz}{γ:List OI}{G:aE}{sl:List AV}{a:Act}
theorem cR(hs:bV F γ sl a)(hg:eU F G)(x:Operand):RV F γ (aK G sl (aU x)) (a.eval x):=by
 cases x with
 |tmp t=>
  simp only[aU,aK,Act.eval];obtain⟨_,hsz,hr⟩:=hs;rw[aYT,aXN];cases hi:sl[t]? with
  |none=>exact .junk _
  |some av=>
   have hlt:t<sl.length:=by
    rcases aYG t sl.length with h|h;exact h;rw[aYz h] at hi;cases hi
   have hlt2:t<a.tmps.size:=hsz ▸ hlt;have hv:a.tmps[t]?=some (a.tmps[t]'hlt2):=aX8 hlt2;rw[hv];exact hr t av _ hi hv
 |const v=>exact aHg F γ v
 |global g=>
  simp only[aU,aK,Act.eval];cases hi:G g with
  |none=>exact .junk _
  |some cs=>exact .one _ _ (hg.rc g cs hi γ)
 |func f=>exact .one _ _ (.fn f [] (fun _=>default) (fun i c h=>by simp at h))
theorem cO{v x:Value}(h:RV F γ (.one (.dc (.raw v))) x):x=v:=by
 cases h with
 |one c v h=>cases h with|dc d v h=>cases h;rfl
theorem pK{av:AV}{x:Value}{n:Int}(h:RV F γ av x)(hi:bH av=some n):∃k,x=.int k n:=by
 unfold bH at hi;split at hi;injection hi with hi;subst hi;exact⟨_,cO h⟩
 cases hi
theorem L6{av:AV}{x:Value}{b:Bool}(h:RV F γ av x)(hi:cH av=some b):x=.bool b:=by
 unfold cH at hi;split at hi;injection hi with hi;subst hi;exact cO h
 cases hi
theorem sI{av:AV}{x:Value}{b:ByteArray}(h:RV F γ av x)(hi:dB av=some b):x=.string b:=by
 unfold dB at hi;split at hi;injection hi with hi;subst hi;exact cO h
 cases hi
theorem bP{v:Value}(h:is1 v=true):RV F γ (dG v) v:=.one _ _ (.dc _ _ (.raw _ h))
theorem V6{g:Bool}{cs:List aT}{av:AV}(hp:Ov g cs=some av){vs:List Value}(hl:vs.length=cs.length)
  (h:∀(i:Nat) c v,cs[i]?=some c->vs[i]?=some v->RC F γ c v):(g=true->RV F γ av (.agg vs.toArray))/\(g=false->∃v,vs=[v]/\RV F γ av v):=by
 unfold Ov at hp;split at hp;injection hp with hp;subst hp
 exact⟨fun _=>.agg _ _ (by simpa using hl) (fun i c v h1 h2=>h i c v h1 (by simpa using h2)),(fun h=>by cases h)⟩
 injection hp with hp;subst hp
 refine⟨(fun h=>by cases h),fun _=>?_⟩
 match vs,hl with
 |[v],_=>exact⟨v,rfl,.one _ _ (h 0 _ _ rfl rfl)⟩
 cases hp
end
end
section
section
variable {P:Program}{F:Fz}{γ:List OI}{w:World}{hp:List aC}
theorem eG{id:Nat}{o:aC}(h:aI hp id=o)(hn:o≠.dead):hp[id]?=some o:=by
 unfold aI at h;rw[aXN] at h;cases hi:hp[id]? with
 |none=>simp[hi] at h;exact absurd h.symm hn
 |some x=>simp[hi] at h;rw[h]
theorem dE.box{id b:Nat}{cs:List aT}(hi:dE F γ hp w)(h:aI hp id=.box cs)(hg:γ[id]?=some (.box b)):
  ∃(vs:Array Value) (T:TypeId),L5 w b vs T/\cs.length<=vs.size/\∀(i:Nat) c v,cs[i]?=some c->vs[i]?=some v->RC F γ c v:=
 hi.ok id _ _ (eG h (by simp)) hg
theorem dE.arr{id b cap cap' size:Nat}{es:List (List DC)}(hi:dE F γ hp w)(h:aI hp id=.arr cap size es)(hg:γ[id]?=some (.arr (some b) cap')):
  cap'=cap/\es.length<=cap/\(∀e∈es,e.length=size)/\∃(vs:Array Value) (T:TypeId),L5 w b vs T/\vs.size=cap*size/\
   ∀(i j:Nat) e d v,es[i]?=some e->e[j]?=some d->vs[i*size+j]?=some v->RD F d v:=
 hi.ok id _ _ (eG h (by simp)) hg
theorem dE.noArr{id b cap size:Nat}{es:List (List DC)}(hi:dE F γ hp w)(h:aI hp id=.arr cap size es):γ[id]?≠some (.box b):=fun hg=>hi.ok id _ _ (eG h (by simp)) hg
theorem dE.noBox{id cap:Nat}{A:Option Nat}{cs:List aT}(hi:dE F γ hp w)(h:aI hp id=.box cs):γ[id]?≠some (.arr A cap):=fun hg=>by
 cases A<;>exact hi.ok id _ _ (eG h (by simp)) hg
theorem dE.arrN{id cap cap' size:Nat}{es:List (List DC)}(hi:dE F γ hp w)(h:aI hp id=.arr cap size es)(hg:γ[id]?=some (.arr none cap')):cap=0/\cap'=0/\es=[]:=
 hi.ok id _ _ (eG h (by simp)) hg
theorem L5.of{w w':World}{b:Nat}{vs:Array Value}{T:TypeId}(h:L5 w b vs T)(e:w'.heap[b]?=w.heap[b]?):L5 w' b vs T:=by
 obtain⟨fz,h,hn⟩:=h;exact⟨fz,e.trans h,hn⟩
theorem S7{b:Nat}{vs:Array Value}{T:TypeId}{fz:Nat×Nat}(h:w.heap[b]?=some (.cells vs T fz))(j:Nat):w.cell? ⟨b,j,none⟩=vs[j]?:=by
 simp[World.cell?,h]
theorem lO{b:Nat}{vs:Array Value}{T:TypeId}(h:L5 w b vs T)(j:Nat):w.cell? ⟨b,j,none⟩=vs[j]?:=by
 obtain⟨fz,h,_⟩:=h;exact S7 h j
structure Mem (F:Fz) (γ:List OI) (w:World) (x:Value) (cs:List aT) where
 b:Nat
 off:Nat
 vs:List Value
 hx:x=.pointer (some ⟨b,off,none⟩)
 hl:vs.length=cs.length
 hc:∀(j:Nat) v,vs[j]?=some v->w.cell? ⟨b,off+j,none⟩=some v
 hr:∀(j:Nat) c v,cs[j]?=some c->vs[j]?=some v->RC F γ c v
theorem dI(b o j:Nat):(⟨b,o,none⟩:Addr).add j=⟨b,o+j,none⟩:=by
 unfold Addr.add;split<;>simp_all
theorem gV{i j size cap n:Nat}(hi:i<n)(hn:n<=cap)(hj:j<size):i*size+j<cap*size:=by
 have h1:(i+1)*size<=cap*size:=aYD size (by omega);rw[aYf] at h1;omega
theorem Kh{g:Bool}{s:Nat}{av v:AV}{x:Value}(h:lG hp g s av=some v)(hi:dE F γ hp w)(hx:RV F γ av x):
  ∃cs,Ov g cs=some v/\cs.length=s/\Nonempty (Mem F γ w x cs):=by
 unfold lG at h;split at h;rename_i id o;split at h;rename_i cs hb;split at h
 ·rename_i hle;cases hx with|one c v hc=>cases hc with|ptr _ _ b hgm=>
  obtain⟨vs,T,hh,hsz,hr⟩:=hi.box hb hgm;refine⟨_,h,by simp;omega,⟨⟨b,o,(vs.toList.drop o).take s,rfl,by simp;omega,fun j v hj=>?_,fun j c v hj hv=>?_⟩⟩⟩
  rw[lO hh];simp only[aX2,aX9] at hj;split at hj;simpa using hj;cases hj;simp only[aX2,aX9] at hj hv;split at hj;rename_i hlt;rw[if_pos hlt] at hv;exact hr _ _ _ hj (by simpa using hv);cases hj
 cases h;cases h;rename_i id i s0 o;split at h;rename_i cap s' es hb;split at h;rename_i e he;split at h
 ·rename_i hle;obtain⟨rfl,hle⟩:=hle;cases hx with|one c v hc=>cases hc with|ept _ _ _ _ b cap' hgm=>
  obtain⟨_,hec,hes,vs,T,hh,hsz,hr⟩:=hi.arr hb hgm;have hel:e.length=s0:=hes e (aX0 he);have hil:i<es.length:=by
   rcases aYG i es.length with h'|h';exact h';rw[aYz h'] at he;cases he
  refine⟨_,h,by simp;omega,⟨⟨b,i*s0+o,(vs.toList.drop (i*s0+o)).take s,rfl,?_,fun j v hj=>?_,fun j c v hj hv=>?_⟩⟩⟩
  simp;have h1:(i+1)*s0<=cap*s0:=aYD s0 (by omega);rw[aYf] at h1;omega;rw[lO hh];simp only[aX2,aX9] at hj;split at hj;simpa using hj;cases hj;simp only[aXI,aX2,aX9] at hj hv;split at hj;rename_i hlt;rw[if_pos hlt] at hv;cases hd:e[o+j]? with
  |none=>simp[hd] at hj
  |some d=>
   simp[hd] at hj;subst hj;exact .dc _ _ (hr i (o+j) e d v he hd (by simpa[Nat.add_assoc] using hv))
  cases hj
 cases h;cases h;cases h;rename_i cs;split at h
 ·rename_i hle;cases hx with|one c v hc=>cases hc with|ref _ b off gg hr hcc=>
  refine⟨_,h,by simp;omega,⟨⟨b,off,(List.range s).map gg,rfl,by simp;omega,fun j v hj=>?_,fun j c v hj hv=>?_⟩⟩⟩
  simp only[aXI] at hj;cases hjr:(List.range s)[j]? with
  |none=>simp[hjr] at hj
  |some k=>
   simp[hjr] at hj;have hk:j<s:=by
    rcases aYG j s with h'|h';exact h';rw[aYz (by simpa using h')] at hjr;cases hjr
   have:k=j:=by simpa[aYU hk] using hjr.symm
   subst this;rw[<- hj];exact Fz.cell_world hi.fz (hcc k _ (aXJ (by omega)))
  simp only[aXI,aX2] at hj hv;split at hj;rename_i hk;simp[aYU hk] at hv;cases hd:cs[j]? with
  |none=>simp[hd] at hj
  |some d=>
   simp[hd] at hj;subst hj;subst hv;exact .dc _ _ (hr j d hd)
  simp at hj
 cases h;cases h
theorem V7{g:Bool}{s s0:Nat}{av v:AV}{x:Value}{t:TypeId}(h:lG hp g s av=some v)(hi:dE F γ hp w)(hx:RV F γ av x)
  (hg:Cy P t=some g) (hsz:cZ P t=some s0) (hs:s=if g then s0 else 1):
  ∃y,(Instr.loadAt t x).run P w=.ok y w/\RV F γ v y:=by
 obtain⟨cs,hp',hl,⟨b,off,vs,rfl,hlv,hcv,hrv⟩⟩:=Kh h hi hx;obtain⟨h1,h2⟩:=V6 hp' hlv hrv;unfold Cy at hg;cases hu:P.underlying t with
 |none=>simp[hu] at hg
 |some d=>
  simp only[hu,aXG,Option.some.injEq] at hg;unfold cZ at hsz;cases hin:P.info? t with
  |none=>simp[hin] at hsz
  |some inf=>
   simp only[hin,aXG,Option.some.injEq] at hsz;cases g with
   |true=>
    refine⟨_,?_,h1 rfl⟩;have hc:=run_loadCells_list (P:=P) w ⟨b,off,none⟩ vs (fun j v hj=>by rw[dI];exact hcv j v hj)
    have hlen:vs.length=inf.size:=by rw[hlv,hl,hs,hsz];simp
    rw[hlen] at hc;unfold Zw at hg;split at hg;simp[Instr.loadAt,Instr.sureAddr,loadVar,isAgg,sizeOf,typeInfo,run_underlying hu,hin,hc];simp[Instr.loadAt,Instr.sureAddr,loadVar,isAgg,sizeOf,typeInfo,run_underlying hu,hin,hc];cases hg
   |false=>
    obtain⟨y,hy,hv⟩:=h2 rfl;refine⟨y,?_,hv⟩;have hc:=hcv 0 y (by rw[hy];rfl);simp only[aYp] at hc;cases d<;>first|(simp[Zw] at hg;done)|simp[Instr.loadAt,Instr.sureAddr,loadVar,isAgg,run_underlying hu,hc]
theorem Gn{o:Nat}{av v:AV}{x:Value}(h:D0 o av=some v)(hx:RV F γ av x):∃b off,x=.pointer (some ⟨b,off,none⟩)/\RV F γ v (.pointer (some ⟨b,off+o,none⟩)):=by
 unfold D0 at h;split at h
 ·injection h with h;subst h
  cases hx with|one c v hc=>cases hc with|ptr _ _ b hgm=>
  exact⟨b,_,rfl,.one _ _ (.ptr _ _ _ hgm)⟩
 ·injection h with h;subst h
  cases hx with|one c v hc=>cases hc with|ept _ _ _ _ b cap hgm=>
  exact⟨b,_,rfl,.one _ _ (by rw[Nat.add_assoc];exact .ept _ _ _ _ _ _ hgm)⟩
 ·injection h with h;subst h
  cases hx with|one c v hc=>cases hc with|ref cs b off gg hr hcc=>
  refine⟨b,off,rfl,.one _ _ (.ref _ _ _ (fun j=>gg (o+j)) (fun j d hj=>?_) (fun j d hj=>?_))⟩
  simp only[aX9] at hj;exact hr _ _ hj;simp only[aX9] at hj;rw[Nat.add_assoc];exact hcc _ _ hj
 cases h
theorem V8{av v:AV}{x:Value}(h:Kg av=some v)(hx:RV F γ av x):RV F γ v x/\∃a,x=.pointer (some a):=by
 unfold Kg at h;split at h;injection h with h;subst h
 refine⟨hx,?_⟩;cases hx with|one c v hc=>cases hc with|ptr _ _ b hgm=>exact⟨_,rfl⟩
 injection h with h;subst h
 refine⟨hx,?_⟩;cases hx with|one c v hc=>cases hc with|ept _ _ _ _ b cap hgm=>exact⟨_,rfl⟩
 injection h with h;subst h
 refine⟨hx,?_⟩;cases hx with|one c v hc=>cases hc with|ref cs b off gg hr hcc=>exact⟨_,rfl⟩
 injection h with h;subst h
 cases hx with|one c v hc=>cases hc with|dc _ _ hd=>cases hd with|ptr cs b off gg hr hcc=>exact⟨.one _ _ (.ref _ _ _ gg hr hcc),_,rfl⟩
 cases h
theorem aCn{op:BinOp}{t:TypeId}{k:IntKind}{a b:Int}{v:Value}(h:kR op k a b=some v):is1 v=true/\(Go.binOp op t (.int k a) (.int k b)).run P w=.ok v w:=by
 cases op<;>simp only[kR] at h<;>first
  |(cases h;done)
  |(injection h with h;subst h;exact⟨rfl,by simp[Go.binOp,Op.intArith,Op.intBits,Op.intCmp]⟩)
  | (split at h
     · cases h
     · rename_i hne
       injection h with h;subst h;exact⟨rfl,by simp[Go.binOp,Op.intDiv,hne]⟩)
theorem aCo:IntKind.i64.max=9223372036854775807:=by decide
theorem aCp{op:BinOp}{t:TypeId}{a b:ByteArray}{v:Value}(h:Gl op a b=some v):is1 v=true/\(Go.binOp op t (.string a) (.string b)).run P w=.ok v w:=by
 cases op<;>simp only[Gl] at h<;>first
  |(cases h;done)
  |(injection h with h;subst h;exact⟨rfl,by simp[Go.binOp,Op.stringOp]⟩)
  | (split at h
     · rename_i hle
       injection h with h;subst h
       refine⟨rfl, ?_⟩;have:¬ (IntKind.i64.max < (a.size:Int)+(b.size:Int)):=by rw[aCo];omega
       simp only[Go.binOp,Op.stringOp,Sem.run_ite,Sem.run_pure];rw[if_neg (by have:=this;push_cast;omega)]
     · cases h)
theorem aCq{t:TypeId}{dsc:TypeDesc}{k:EK}{a b:Value}{r:Bool}(h:eqR k a b=some r)(ht:P.underlying t=some dsc)(hd:ekD dsc=some k)(d:Nat):
  (Op.equalIn (d+1) t a b).run P w=.ok r w:=by
 unfold eqR at h;split at h;injection h with h;subst h
 cases dsc<;>simp[ekD] at hd;exact run_equalIn_bool' w d t _ _ ht;split at h;rename_i hjk;injection h with h;subst h;subst hjk
 cases dsc<;>simp[ekD] at hd;exact run_equalIn_int w d t _ _ _ _ ht;cases h;injection h with h;subst h
 cases dsc<;>simp[ekD] at hd;exact run_equalIn_string w d t _ _ ht;cases h
theorem uD{t:TypeId}{dsc:TypeDesc}{k:EK}(ht:P.underlying t=some dsc)(hk:ekD dsc=some k)(xs:Array Value)(off:Nat)(x:Value)(hx:xs[off]?=some x):
  (part t xs off).run P w=.ok x w:=by
 cases dsc<;>simp[ekD] at hk<;>simp[part,isAgg,run_underlying ht,hx]
theorem D3(d:Nat)(xs ys:Array Value):∀(fs:List Field) (off:Nat) (ks:List EK) (as bs:List aT) (r:Bool),pJ P fs off=some ks->Cx ks as bs=some r->
  (∀(i:Nat) c,as[i]?=some c->∃v,xs[off+i]?=some v/\RC F γ c v)->(∀(i:Nat) c,bs[i]?=some c->∃v,ys[off+i]?=some v/\RC F γ c v)->
  (Op.eqFields (d+1) xs ys fs).run P w=.ok r w
 | [],off,ks,as,bs,r,hf,he,hx,hy=>by
   simp only[pJ,Option.some.injEq] at hf;subst hf;cases as<;>cases bs<;>simp[Cx] at he;subst he;simp[Op.eqFields]
 | f::fs,off,ks,as,bs,r,hf,he,hx,hy=>by
   simp only[pJ] at hf;split at hf
   · rename_i hfo
     cases hu:P.underlying f.type with
     | none=>simp[hu] at hf
     | some dsc=>
       simp only[hu,aXP] at hf;cases hk:ekD dsc with
       | none=>simp[hk] at hf
       | some k=>
         simp only[hk,aXP] at hf;cases hfs:pJ P fs (off+1) with
         | none=>simp[hfs] at hf
         | some ks'=>
           simp only[hfs,aXG,Option.some.injEq] at hf;subst hf
           match as,bs,he with
           | .dc (.raw a)::as,.dc (.raw b)::bs,he=>
             simp only[Cx] at he;cases hr:eqR k a b with
             | none=>simp[hr] at he
             | some x=>
               simp only[hr,aXP] at he;cases hrs:Cx ks' as bs with
               | none=>simp[hrs] at he
               | some y=>
                 simp only[hrs,aXP,Option.some.injEq] at he;subst he;obtain⟨va,hva,hra⟩:=hx 0 _ rfl;obtain⟨vb,hvb,hrb⟩:=hy 0 _ rfl;have hva':va=a:=cO (.one _ _ hra);have hvb':vb=b:=cO (.one _ _ hrb);subst hva';subst hvb';have ih:=D3 d xs ys fs (off+1) ks' as bs y hfs hrs (fun i c hc=>by have:=hx (i+1) c hc;rwa[show off+(i+1)=off+1+i by omega] at this)
                   (fun i c hc=>by have:=hy (i+1) c hc;rwa[show off+(i+1)=off+1+i by omega] at this)
                 have h1:=uD (P:=P) (w:=w) hu hk xs f.offset va (by rw[hfo.1];exact hva);have h2:=uD (P:=P) (w:=w) hu hk ys f.offset vb (by rw[hfo.1];exact hvb);have h3:=aCq (P:=P) (w:=w) hr hu hk d;cases x<;>simp[Op.eqFields,hfo.2,h1,h2,h3,ih]
   · cases hf
theorem aCr{op:BinOp}{t:TypeId}{xo yo:Operand}{av bv v:AV}{x y:Value}(h:eP op av bv=some v)(hx:RV F γ av x)(hy:RV F γ bv y)
 : ∃r,((do eqGuard op t xo yo x y;Go.binOp op t x y):Sem Value).run P w=.ok r w/\RV F γ v r:=by
  unfold eP at h;split at h;rename_i j a k b;rw[cO hx,cO hy];have hgd:(eqGuard op t xo yo (.int j a) (.int k b)).run P w=.ok () w:=by cases op<;>simp[eqGuard]
  split at h;split at h;cases h;rename_i hb;injection h with h;subst h
  exact⟨_,by simp[hgd,Go.binOp,Op.shift,hb],bP rfl⟩;split at h;cases h;rename_i hb;injection h with h;subst h
  exact⟨_,by simp[hgd,Go.binOp,Op.shift,hb],bP rfl⟩;split at h;rename_i hjk;subst hjk;cases hio:kR op j a b with
  |none=>simp[hio] at h
  |some r=>
   simp only[hio,aXG,Option.some.injEq] at h;subst h;obtain⟨h1,h2⟩:=aCn (P:=P) (w:=w) (t:=t) hio;exact⟨r,by simp[hgd,h2],bP h1⟩
  cases h;rename_i a b;rw[cO hx,cO hy];have hgd:(eqGuard op t xo yo (.string a) (.string b)).run P w=.ok () w:=by cases op<;>simp[eqGuard]
  cases hio:Gl op a b with
  |none=>simp[hio] at h
  |some r=>
   simp only[hio,aXG,Option.some.injEq] at h;subst h;obtain⟨h1,h2⟩:=aCp (P:=P) (w:=w) (t:=t) hio;exact⟨r,by simp[hgd,h2],bP h1⟩
  cases h
theorem sJ{t:TypeId}{a b:Bool}(ht:P.underlying t=some .bool):(Op.equal t (.bool a) (.bool b)).run P w=.ok (a==b) w:=run_equalIn_bool' w 9999 t a b ht
theorem V9{neg:Bool}{t:TypeId}{xo yo:Operand}{av bv v:AV}{x y:Value}(h:Kf neg av bv=some v)(hx:RV F γ av x)(hy:RV F γ bv y)
  (ht:P.underlying t=some .bool):∃r,((do eqGuard (if neg then .neq else .eql) t xo yo x y;Go.binOp (if neg then .neq else .eql) t x y):Sem Value).run P w=.ok r w/\RV F γ v r:=by
 unfold Kf at h;split at h;rename_i a b;rw[cO hx,cO hy];injection h with h;subst h
 cases neg;exact⟨_,by simp[eqGuard,Go.binOp,sJ ht],bP rfl⟩;exact⟨_,by simp[eqGuard,Go.binOp,sJ ht],bP rfl⟩;cases h
theorem Gp(d:Nat){e:TypeId}{dsc:TypeDesc}{k:EK}(hu:P.underlying e=some dsc)(hk:ekD dsc=some k)(xs ys:Array Value):∀(m off:Nat) (as bs:List aT) (r:Bool),Cx (List.replicate m k) as bs=some r->
  (∀(i:Nat) c,as[i]?=some c->∃v,xs[off+i]?=some v/\RC F γ c v)->(∀(i:Nat) c,bs[i]?=some c->∃v,ys[off+i]?=some v/\RC F γ c v)->
  (Op.eqItems (d+1) e 1 xs ys (List.range' off m)).run P w=.ok r w
 | 0,off,as,bs,r,he,hx,hy=>by
   cases as<;>cases bs<;>simp[Cx] at he;subst he;simp[Op.eqItems]
 | m+1,off,as,bs,r,he,hx,hy=>by
   rw[List.replicate_succ] at he
   match as,bs,he with
   | .dc (.raw a)::as,.dc (.raw b)::bs,he=>
     simp only[Cx] at he;cases hr:eqR k a b with
     | none=>simp[hr] at he
     | some x=>
       simp only[hr,aXP] at he;cases hrs:Cx (List.replicate m k) as bs with
       | none=>simp[hrs] at he
       | some y=>
         simp only[hrs,aXP,Option.some.injEq] at he;subst he;obtain⟨va,hva,hra⟩:=hx 0 _ rfl;obtain⟨vb,hvb,hrb⟩:=hy 0 _ rfl;have hva':va=a:=cO (.one _ _ hra);have hvb':vb=b:=cO (.one _ _ hrb);subst hva';subst hvb';have ih:=Gp d hu hk xs ys m (off+1) as bs y hrs (fun i c hc=>by have:=hx (i+1) c hc;rwa[show off+(i+1)=off+1+i by omega] at this)
           (fun i c hc=>by have:=hy (i+1) c hc;rwa[show off+(i+1)=off+1+i by omega] at this)
         have h1:=uD (P:=P) (w:=w) hu hk xs off va hva;have h2:=uD (P:=P) (w:=w) hu hk ys off vb hvb;have h3:=aCq (P:=P) (w:=w) hr hu hk d;rw[List.range'_succ];cases x<;>simp[Op.eqItems,h1,h2,h3,ih]
theorem Wa{neg:Bool}{t e:TypeId}{n:Nat}{k:EK}{xo yo:Operand}{av bv v:AV}{x y:Value}(h:Ow neg (List.replicate n k) av bv=some v)(hx:RV F γ av x)(hy:RV F γ bv y)
  (ht:P.underlying t=some (.array n e)) (hk:(P.underlying e).bind ekD=some k) (hs:cZ P e=some 1) (hq:P.eqGuardType P.depth t=false):
  ∃r,((do eqGuard (if neg then .neq else .eql) t xo yo x y;Go.binOp (if neg then .neq else .eql) t x y):Sem Value).run P w=.ok r w/\RV F γ v r:=by
 unfold Ow at h;split at h
 ·rename_i as bs;cases hx with|agg _ xs hxs hxr=>
  cases hy with|agg _ ys hys hyr=>
  cases he:Cx (List.replicate n k) as bs with
  |none=>simp[he] at h
  |some r=>
   simp only[he,aXG,Option.some.injEq] at h;subst h;obtain⟨dsc,hu,hk⟩:=aYu.1 hk;unfold cZ at hs;obtain⟨inf,hi,hi1⟩:=Option.map_eq_some_iff.1 hs;have hc1:P.cellsOf e=1:=by rw[Program.cellsOf,hi];exact hi1
   have g:∀{as:List aT}{xs:Array Value},xs.size=as.length->(∀(i:Nat) c v,as[i]?=some c->xs[i]?=some v->RC F γ c v)->
     ∀(i:Nat) c,as[i]?=some c->∃v,xs[0+i]?=some v/\RC F γ c v:=by
    intro as xs hsz hr i c hc;have hi:i<as.length:=by
     rcases aYG i as.length with h'|h';exact h';rw[aYz h'] at hc;cases hc
    have hi2:i<xs.size:=hsz ▸ hi;refine⟨xs[i]'hi2,by simp[hi2],hr i c _ hc (aX8 hi2)⟩
   have h1:=Gp (P:=P) (w:=w) 9998 hu hk xs ys n 0 as bs r he (g hxs hxr) (g hys hyr);have h2:(Op.equalIn 10000 t (.agg xs) (.agg ys)).run P w=.ok r w:=by
    rw[show (10000:Nat)=9999+1 from rfl,run_equalIn_array w 9999 xs ys ht hi,hc1,List.range_eq_range']
    exact h1
   cases neg;exact⟨.bool r,by simp[run_eqGuard_agg w .eql t xo yo xs ys hq,run_eql_struct,h2],bP rfl⟩;exact⟨.bool !r,by simp[run_eqGuard_agg w .neq t xo yo xs ys hq,run_neq_struct,h2],bP rfl⟩
 cases h
theorem aCs{neg:Bool}{t:TypeId}{fs:Array Field}{ks:List EK}{xo yo:Operand}{av bv v:AV}{x y:Value}(h:Ow neg ks av bv=some v)(hx:RV F γ av x)(hy:RV F γ bv y)
  (ht:P.underlying t=some (.struct fs)) (hf:pJ P fs.toList 0=some ks) (hs:P.stoodInHeld t=false) (hq:P.eqGuardType P.depth t=false):
  ∃r,((do eqGuard (if neg then .neq else .eql) t xo yo x y;Go.binOp (if neg then .neq else .eql) t x y):Sem Value).run P w=.ok r w/\RV F γ v r:=by
 unfold Ow at h;split at h
 ·rename_i as bs;cases hx with|agg _ xs hxs hxr=>
  cases hy with|agg _ ys hys hyr=>
  cases he:Cx ks as bs with
  |none=>simp[he] at h
  |some r=>
   simp only[he,aXG,Option.some.injEq] at h;subst h;have hfo:P.fieldsOf t=fs:=by simp[Program.fieldsOf,ht]
   have g:∀{as:List aT}{xs:Array Value},xs.size=as.length->(∀(i:Nat) c v,as[i]?=some c->xs[i]?=some v->RC F γ c v)->
     ∀(i:Nat) c,as[i]?=some c->∃v,xs[0+i]?=some v/\RC F γ c v:=by
    intro as xs hsz hr i c hc;have hi:i<as.length:=by
     rcases aYG i as.length with h'|h';exact h';rw[aYz h'] at hc;cases hc
    have hi2:i<xs.size:=hsz ▸ hi;refine⟨xs[i]'hi2,by simp[hi2],hr i c _ hc (aX8 hi2)⟩
   have h1:=D3 (P:=P) (w:=w) 9998 xs ys fs.toList 0 ks as bs r hf he (g hxs hxr) (g hys hyr);have h2:(Op.equalIn 10000 t (.agg xs) (.agg ys)).run P w=.ok r w:=by
    rw[show (10000:Nat)=9999+1 from rfl,run_equalIn_agg w 9999 t xs ys (by rw[hfo];exact ht) hs,hfo]
    exact h1
   cases neg;exact⟨.bool r,by simp[run_eqGuard_agg w .eql t xo yo xs ys hq,run_eql_struct,h2],bP rfl⟩;exact⟨.bool !r,by simp[run_eqGuard_agg w .neq t xo yo xs ys hq,run_neq_struct,h2],bP rfl⟩
 cases h
end
end
end Go.Proofs.YthepfneloomngaaGreatDoor
