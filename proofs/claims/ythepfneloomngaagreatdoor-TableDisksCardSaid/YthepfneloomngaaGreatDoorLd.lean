/- An instruction that changes nothing gives what the model's operation gives. Conditions: none. -/
import Derived.Calls
import Derived.LoopN
import Derived.Tactics
import Derived.Orders
import Derived.WalkKit
namespace Go.Proofs.YthepfneloomngaaGreatDoor
abbrev aWf:=@List.length_map
abbrev aWg:=@List.length_append
abbrev aWh:=@List.length_cons
abbrev aWi:=@Option.map_some
abbrev aWj:=@Nat.le_refl
abbrev aWk:=@List.length_nil
abbrev aWl:=@List.getElem?_map
abbrev aWm:=@List.length_take
abbrev aWn:=@List.getD_eq_getElem?_getD
abbrev aWo:=@List.getElem?_eq_getElem
abbrev aWp:=@List.map_cons
abbrev aWq:=@List.getElem_mem
abbrev aWr:=@Option.bind_some
abbrev aWs:=@Bool.and_eq_true
abbrev aWt:=@List.length_drop
abbrev aWu:=@List.length_replicate
abbrev aWv:=@List.append_assoc
abbrev aWw:=@List.map_nil
abbrev aWx:=@List.getElem?_append_left
abbrev aWy:=@List.mem_cons_self
abbrev aWz:=@List.getElem?_set_ne
abbrev aWA:=@Nat.zero_le
abbrev aWB:=@List.getElem?_append_right
abbrev aWC:=@List.map_congr_left
abbrev aWD:=@List.mem_of_getElem?
abbrev aWE:=@List.map_map
abbrev aWF:=@List.mem_of_mem_take
abbrev aWG:=@List.mem_cons_of_mem
abbrev aWH:=@List.getElem?_take
abbrev aWI:=@List.getElem?_set_self
abbrev aWJ:=@Array.getElem?_eq_getElem
abbrev aWK:=@List.getElem?_drop
abbrev aWL:=@List.nil_append
abbrev aWM:=@List.map_set
abbrev aWN:=@Bool.true_and
abbrev aWO:=@Bool.not_false
abbrev aWP:=@List.take_of_length_le
abbrev aWQ:=@Nat.add_mul
abbrev aWR:=@List.cons_append
abbrev aWS:=@Bool.not_true
abbrev aWT:=@List.mem_of_mem_drop
abbrev aWU:=@Bool.false_and
abbrev aWV:=@Int.zero_add
abbrev aWW:=@List.map_append
abbrev aWX:=@Option.getD_some
abbrev aWY:=@List.take_length
abbrev aWZ:=@Nat.zero_add
abbrev aW0:=@List.getElem_map
abbrev aW1:=@Nat.add_zero
abbrev aW2:=@List.map_take
abbrev aW3:=@Nat.sub_self
abbrev aW4:=@Bool.false_or
abbrev aW5:=@Option.bind_eq_some_iff
abbrev aW6:=@Int.toNat_natCast
abbrev aW7:=@List.drop_zero
abbrev aW8:=@Nat.mul_one
abbrev aW9:=@List.mapM_cons
abbrev aXa:=@Array.getElem?_toList
abbrev aXb:=@List.getElem?_eq_none
abbrev aXc:=@List.flatten_cons
abbrev aXd:=@Nat.mod_eq_of_lt
abbrev aXe:=@List.take_succ_eq_append_getElem
abbrev aXf:=@Nat.mul_le_mul_right
abbrev aXg:=@Bool.not_eq_true'
abbrev aXh:=@List.getElem?_replicate
abbrev aXi:=@Int.eq_ofNat_of_zero_le
abbrev aXj:=@Bool.true_or
abbrev aXk:=@Nat.lt_or_ge
abbrev aXl:=@List.eq_nil_of_length_eq_zero
abbrev aXm:=@Nat.mul_comm
abbrev aXn:=@List.mem_cons
abbrev aXo:=@List.drop_eq_getElem_cons
abbrev aXp:=@List.foldl_cons
abbrev aXq:=@List.take_zero
abbrev aXr:=@List.append_nil
abbrev aXs:=@List.take_append_drop
abbrev aXt:=@List.map_drop
abbrev aXu:=@Bool.eq_iff_iff
abbrev aXv:=@Array.getD_eq_getD_getElem?
abbrev aXw:=@List.getElem?_range
abbrev aXx:=@Bool.false_eq_true
abbrev aXy:=@List.mem_append
abbrev aXz:=@List.take_left'
abbrev aXA:=@Bool.eq_false_iff
abbrev aXB:=@List.getElem?_of_mem
abbrev aXC:=@Array.toList_inj
abbrev aXD:=@Nat.min_eq_left
abbrev aXE:=@List.any_eq_false
abbrev aXF:=@List.not_mem_nil
abbrev aXG:=@Array.length_toList
abbrev aXH:=@List.ext_getElem?
abbrev aXI:=@Array.getElem?_modify
abbrev aXJ:=@List.drop_succ_cons
abbrev aXK:=@List.take_append_of_le_length
abbrev aXL:=@Array.mem_of_getElem?
abbrev aXM:=@List.getElem?_toArray
abbrev aXN:=@List.getElem?_cons_succ
abbrev aXO:=@List.take_succ_cons
abbrev aXP:=@Nat.add_sub_cancel_left
abbrev aXQ:=@List.getElem?_take_of_lt
abbrev aXR:=@List.pairwise_iff_getElem
abbrev aXS:=@Array.getElem?_setIfInBounds_self_of_lt
section
def is1:Value->Bool
  | .agg _=>false
  | .tuple _=>false
  | _=>true
inductive DC where
  | raw (v:Value)
  | slc (es:List (List DC))
  | ptr (cs:List DC)
inductive aR where
  | dc (d:DC)
  | ptr (id off:Nat)
  | bld (id n:Nat)
  | ept (id i size off:Nat)
  | bls (id lo n size:Nat)
  | ref (cs:List DC)
  | mpc (es:List (Int × Value))
  | fn (f:FuncId) (caps:List aR)
  | junk
inductive TV where
  | one (c:aR)
  | agg (cs:List aR)
inductive AV where
  | one (c:aR)
  | agg (cs:List aR)
  | tup (l:List TV)
  | junk
inductive aD where
  | box (cs:List aR)
  | arr (cap size:Nat) (es:List (List DC))
  | dead
structure AS where
  sl:List AV
  hp:List aD
inductive OI where
  | box (b:Nat)
  | arr (b:Option Nat) (cap:Nat)
  | dead
def OI.blk:OI->Option Nat
  | .box b=>some b
  | .arr b _=>b
  | .dead=>none
abbrev Fz:=Nat->Option Obj
def Fz.cell?(F:Fz)(a:Addr):Option Value:=
  match F a.block with
  | some (.cells c _ _)=>if a.spot.isSome then none else c[a.off]?
  | _=>none
def Fz.sub(F F':Fz):Prop:=∀ b o,F b=some o->F' b=some o
inductive RD (F:Fz):DC->Value->Prop where
  | raw (v:Value) (h:is1 v=true):RD F (.raw v) v
  | nil (A:Option Addr) (c:Nat):RD F (.slc []) (.slice A 0 c)
  | slc (b off c size:Nat) (es:List (List DC)) (g:Nat->Nat->Value)
      (hsz:∀ e∈es,e.length=size)
      (hr:∀ (i j:Nat) e d,es[i]?=some e->e[j]?=some d->RD F d (g i j))
      (hc:∀ (i j:Nat) e d,es[i]?=some e->e[j]?=some d->F.cell? ⟨b,off+(i * size+j),none⟩=some (g i j))
      (hcap:es.length<=c):RD F (.slc es) (.slice (some ⟨b,off,none⟩) es.length c)
  | ptr (cs:List DC) (b off:Nat) (g:Nat->Value) (hr:∀ (j:Nat) d,cs[j]?=some d->RD F d (g j))
      (hc:∀ (j:Nat) d,cs[j]?=some d->F.cell? ⟨b,off+j,none⟩=some (g j)):RD F (.ptr cs) (.pointer (some ⟨b,off,none⟩))
inductive RC (F:Fz) (γ:List OI):aR->Value->Prop where
  | dc (d:DC) (v:Value) (h:RD F d v):RC F γ (.dc d) v
  | ptr (id off b:Nat) (h:γ[id]?=some (.box b)):RC F γ (.ptr id off) (.pointer (some ⟨b,off,none⟩))
  | bldN (id cap:Nat) (h:γ[id]?=some (.arr none cap)):RC F γ (.bld id 0) (.slice none 0 0)
  | bld (id n b cap:Nat) (h:γ[id]?=some (.arr (some b) cap)):RC F γ (.bld id n) (.slice (some ⟨b,0,none⟩) n cap)
  | ept (id i size off b cap:Nat) (h:γ[id]?=some (.arr (some b) cap)):RC F γ (.ept id i size off) (.pointer (some ⟨b,i * size+off,none⟩))
  | bls (id lo n size b cap c off:Nat) (h:γ[id]?=some (.arr (some b) cap)\/γ[id]?=some (.box b)) (ho:n≠0->off=lo * size) (hc:n<=c):RC F γ (.bls id lo n size) (.slice (some ⟨b,off,none⟩) n c)
  | ref (cs:List DC) (b off:Nat) (g:Nat->Value) (hr:∀ (j:Nat) d,cs[j]?=some d->RD F d (g j))
      (hc:∀ (j:Nat) d,cs[j]?=some d->F.cell? ⟨b,off+j,none⟩=some (g j)):RC F γ (.ref cs) (.pointer (some ⟨b,off,none⟩))
  | mpc (es:List (Int × Value)) (r clk:Nat) (ents:Array MapEntry) (h:F r=some (.map ents clk)) (he:ents.toList.map (fun e=>(e.key,e.val))=es.map (fun p=>(Value.int .i64 p.1,p.2)))
      (h1:∀ p∈es,is1 p.2=true):RC F γ (.mpc es) (.map (some r))
  | fn (f:FuncId) (caps:List aR) (g:Nat->Value) (hr:∀ (i:Nat) c,caps[i]?=some c->RC F γ c (g i)):
      RC F γ (.fn f caps) (.func (.func f) #[] ((List.range caps.length).map g).toArray)
  | junk (v:Value) (h:is1 v=true):RC F γ .junk v
inductive RT (F:Fz) (γ:List OI):TV->Value->Prop where
  | one (c:aR) (v:Value) (h:RC F γ c v):RT F γ (.one c) v
  | agg (cs:List aR) (vs:Array Value) (hs:vs.size=cs.length) (h:∀ (i:Nat) c v,cs[i]?=some c->vs[i]?=some v->RC F γ c v):RT F γ (.agg cs) (.agg vs)
inductive RV (F:Fz) (γ:List OI):AV->Value->Prop where
  | one (c:aR) (v:Value) (h:RC F γ c v):RV F γ (.one c) v
  | agg (cs:List aR) (vs:Array Value) (hs:vs.size=cs.length) (h:∀ (i:Nat) c v,cs[i]?=some c->vs[i]?=some v->RC F γ c v):RV F γ (.agg cs) (.agg vs)
  | tup (l:List TV) (vs:Array Value) (hs:vs.size=l.length) (h:∀ (i:Nat) t v,l[i]?=some t->vs[i]?=some v->RT F γ t v):RV F γ (.tup l) (.tuple vs)
  | junk (v:Value):RV F γ .junk v
theorem RD.is1{F:Fz}{d:DC}{v:Value}(h:RD F d v):is1 v=true:=by cases h<;>first | rfl | assumption
theorem RC.is1{F:Fz}{γ:List OI}{c:aR}{v:Value}(h:RC F γ c v):is1 v=true:=by
  cases h<;>first | rfl | assumption | exact RD.is1 (by assumption)
theorem Fz.sub.cell{F F':Fz}(h:F.sub F'){a:Addr}{v:Value}(hc:F.cell? a=some v):F'.cell? a=some v:=by
  unfold Fz.cell? at *;cases hF:F a.block with
  | none=>simp[hF] at hc
  | some o=>rw[h _ _ hF];rw[hF] at hc;exact hc
theorem Fz.cell_world{F:Fz}{w:World}(h:∀ b o,F b=some o->w.heap[b]?=some o){a:Addr}{v:Value}(hc:F.cell? a=some v):w.cell? a=some v:=by
  unfold Fz.cell? at hc;unfold World.cell?;cases hF:F a.block with
  | none=>simp[hF] at hc
  | some o=>rw[h _ _ hF];rw[hF] at hc;exact hc
theorem RD.mono{F F':Fz}(hs:F.sub F'){d:DC}{v:Value}(h:RD F d v):RD F' d v:=by
  induction h with
  | raw v h=>exact .raw v h
  | nil A c=>exact .nil A c
  | slc b off c size es g hsz hr hc hcap ih=>exact .slc b off c size es g hsz (fun i j e d h1 h2=>ih i j e d h1 h2) (fun i j e d h1 h2=>hs.cell (hc i j e d h1 h2)) hcap
  | ptr cs b off g hr hc ih=>exact .ptr cs b off g (fun j d h=>ih j d h) (fun j d h=>hs.cell (hc j d h))
mutual
def aR.keep(p:Nat->Bool):aR->Bool
  | .ptr id _=>!p id
  | .bld id _=>!p id
  | .ept id _ _ _=>!p id
  | .bls id _ _ _=>!p id
  | .fn _ caps=>keepL p caps
  | .dc _=>true
  | .ref _=>true
  | .mpc _=>true
  | .junk=>true
def keepL(p:Nat->Bool):List aR->Bool
  | []=>true
  | c::cs=>c.keep p&&keepL p cs
end
theorem Ip{p:Nat->Bool}:∀ {cs:List aR} {i:Nat} {c:aR},keepL p cs=true->cs[i]?=some c->c.keep p=true
  | [],_,_,_,h=>by simp at h
  | c::cs,0,c',h,h'=>by simp[keepL] at h h';rw[<- h'];exact h.1
  | c::cs,i+1,c',h,h'=>by simp[keepL] at h h';exact Ip h.2 h'
theorem RC.mono{F F':Fz}{γ γ':List OI}(hs:F.sub F'){p:Nat->Bool}(hg:∀ (id:Nat) (o:OI),p id=false->γ[id]?=some o->γ'[id]?=some o)
    {c:aR} {v:Value} (h:RC F γ c v):c.keep p=true->RC F' γ' c v:=by
  induction h with
  | dc d v h=>intro _;exact .dc d v (h.mono hs)
  | ptr id off b h=>intro hk;exact .ptr id off b (hg _ _ (by simpa[aR.keep] using hk) h)
  | bldN id cap h=>intro hk;exact .bldN id cap (hg _ _ (by simpa[aR.keep] using hk) h)
  | bld id n b cap h=>intro hk;exact .bld id n b cap (hg _ _ (by simpa[aR.keep] using hk) h)
  | ept id i size off b cap h=>intro hk;exact .ept id i size off b cap (hg _ _ (by simpa[aR.keep] using hk) h)
  | bls id lo n size b cap c off h ho hc=>intro hk;exact .bls id lo n size b cap c off (h.imp (hg _ _ (by simpa[aR.keep] using hk)) (hg _ _ (by simpa[aR.keep] using hk))) ho hc
  | ref cs b off g hr hc=>intro _;exact .ref cs b off g (fun j d h=>(hr j d h).mono hs) (fun j d h=>hs.cell (hc j d h))
  | mpc es r clk ents h he h1=>intro _;exact .mpc es r clk ents (hs _ _ h) he h1
  | fn f caps g hr ih=>intro hk;exact .fn f caps g (fun i c h=>ih i c h (Ip (by simpa[aR.keep] using hk) h))
  | junk v h=>intro _;exact .junk v h
def cE(p:Nat->Bool)(c:aR):aR:=if c.keep p then c else .junk
def qZ(p:Nat->Bool):TV->TV
  | .one c=>.one (cE p c)
  | .agg cs=>.agg (cs.map (cE p))
def bA(p:Nat->Bool):AV->AV
  | .one c=>.one (cE p c)
  | .agg cs=>.agg (cs.map (cE p))
  | .tup l=>.tup (l.map (qZ p))
  | .junk=>.junk
def cI(p:Nat->Bool):aD->aD
  | .box cs=>.box (cs.map (cE p))
  | o=>o
section
variable {F F':Fz} {γ γ':List OI} {p:Nat->Bool}
theorem RC.kill(hs:F.sub F')(hg:∀ (id:Nat) (o:OI),p id=false->γ[id]?=some o->γ'[id]?=some o){c:aR}{v:Value}(h:RC F γ c v):RC F' γ' (cE p c) v:=by
  unfold cE;split
  · exact h.mono hs hg (by assumption)
  · exact .junk v h.is1
theorem RCs.kill(hs:F.sub F')(hg:∀ (id:Nat) (o:OI),p id=false->γ[id]?=some o->γ'[id]?=some o){cs:List aR}{vs:Array Value}
    (h:∀ (i:Nat) c v,cs[i]?=some c->vs[i]?=some v->RC F γ c v):∀ (i:Nat) c v,(cs.map (cE p))[i]?=some c->vs[i]?=some v->RC F' γ' c v:=by
  intro i c v hc hv;rw[aWl] at hc;cases hci:cs[i]? with
  | none=>simp[hci] at hc
  | some c0=>simp[hci] at hc;subst hc;exact (h i c0 v hci hv).kill hs hg
theorem RT.kill(hs:F.sub F')(hg:∀ (id:Nat) (o:OI),p id=false->γ[id]?=some o->γ'[id]?=some o){t:TV}{v:Value}(h:RT F γ t v):RT F' γ' (qZ p t) v:=by
  cases h with
  | one c v h=>exact .one _ _ (h.kill hs hg)
  | agg cs vs hsz h=>exact .agg _ _ (by simpa using hsz) (RCs.kill hs hg h)
theorem RV.kill(hs:F.sub F')(hg:∀ (id:Nat) (o:OI),p id=false->γ[id]?=some o->γ'[id]?=some o){a:AV}{v:Value}(h:RV F γ a v):RV F' γ' (bA p a) v:=by
  cases h with
  | one c v h=>exact .one _ _ (h.kill hs hg)
  | agg cs vs hsz h=>exact .agg _ _ (by simpa using hsz) (RCs.kill hs hg h)
  | tup l vs hsz h=>
    refine .tup _ _ (by simpa using hsz) (fun i t v ht hv=>?_)
    rw[aWl] at ht;cases hti:l[i]? with
    | none=>simp[hti] at ht
    | some t0=>simp[hti] at ht;subst ht;exact (h i t0 v hti hv).kill hs hg
  | junk v=>exact .junk v
theorem aR.keep_none(c:aR):c.keep (fun _=>false)=true:=by
  have key:∀ n,∀ c:aR,SizeOf.sizeOf c<=n->c.keep (fun _=>false)=true:=by
    intro n
    induction n with
    | zero=>intro c h;cases c<;>simp at h
    | succ n ih=>
      intro c h;cases c with
      | fn f caps=>
        simp only[aR.keep];have:∀ cs:List aR,SizeOf.sizeOf cs<=n->keepL (fun _=>false) cs=true:=by
          intro cs
          induction cs with
          | nil=>intro _;rfl
          | cons x xs ihx=>
            intro hx;simp at hx;simp[keepL,ih x (by omega),ihx (by omega)]
        exact this caps (by simp at h;omega)
      | _=>simp[aR.keep]
  exact key _ c (aWj _)
theorem RC.ext(hs:F.sub F')(hg:∀ (id:Nat) (o:OI),γ[id]?=some o->γ'[id]?=some o){c:aR}{v:Value}(h:RC F γ c v):RC F' γ' c v:=
  h.mono (p:=fun _=>false) hs (fun id o _ h=>hg id o h) (aR.keep_none c)
theorem RT.ext(hs:F.sub F')(hg:∀ (id:Nat) (o:OI),γ[id]?=some o->γ'[id]?=some o){t:TV}{v:Value}(h:RT F γ t v):RT F' γ' t v:=by
  cases h with
  | one c v h=>exact .one _ _ (h.ext hs hg)
  | agg cs vs hsz h=>exact .agg _ _ hsz (fun i c v h1 h2=>(h i c v h1 h2).ext hs hg)
theorem RV.ext(hs:F.sub F')(hg:∀ (id:Nat) (o:OI),γ[id]?=some o->γ'[id]?=some o){a:AV}{v:Value}(h:RV F γ a v):RV F' γ' a v:=by
  cases h with
  | one c v h=>exact .one _ _ (h.ext hs hg)
  | agg cs vs hsz h=>exact .agg _ _ hsz (fun i c v h1 h2=>(h i c v h1 h2).ext hs hg)
  | tup l vs hsz h=>exact .tup _ _ hsz (fun i t v h1 h2=>(h i t v h1 h2).ext hs hg)
  | junk v=>exact .junk v
end
def NF(fz:Nat × Nat)(n:Nat):Prop:=∀ o,o < n->¬ (fz.1<=o/\o < fz.2)
def J7(w:World)(b:Nat)(vs:Array Value)(T:TypeId):Prop:=∃ fz,w.heap[b]?=some (.cells vs T fz)/\NF fz vs.size
def OK(F:Fz)(γ:List OI)(w:World):aD->OI->Prop
  | .box cs,.box b=>∃ (vs:Array Value) (T:TypeId),J7 w b vs T/\cs.length<=vs.size/\∀ (i:Nat) c v,cs[i]?=some c->vs[i]?=some v->RC F γ c v
  | .arr cap _ es,.arr none cap'=>cap=0/\cap'=0/\es=[]
  | .arr cap size es,.arr (some b) cap'=>cap'=cap/\es.length<=cap/\(∀ e∈es,e.length=size)/\
      ∃ (vs:Array Value) (T:TypeId),J7 w b vs T/\vs.size=cap * size/\
        ∀ (i j:Nat) e d v,es[i]?=some e->e[j]?=some d->vs[i * size+j]?=some v->RD F d v
  | .dead,.dead=>True
  | _,_=>False
def bX(γ:List OI)(i:Nat):Option Nat:=(γ[i]?).bind OI.blk
structure dC (F:Fz) (γ:List OI) (hp:List aD) (w:World):Prop where
  fz:∀ b o,F b=some o->w.heap[b]?=some o
  len:γ.length=hp.length
  nd:∀ i j b,bX γ i=some b->bX γ j=some b->i=j
  disj:∀ i b,bX γ i=some b->F b=none
  ok:∀ (i:Nat) o x,hp[i]?=some o->γ[i]?=some x->OK F γ w o x
structure gA (k:Nat) (F:Fz) (γ:List OI) (w:World) (F':Fz) (γ':List OI) (w':World):Prop where
  sub:F.sub F'
  os:w'.os=w.os
  tape:w'.tape=w.tape
  output:w'.output=w.output
  size:w.heap.size<=w'.heap.size
  far:∀ b,b < w.heap.size->(∀ i,bX γ i≠some b)->w'.heap[b]?=w.heap[b]?
  new:∀ b o,F' b=some o->F b=some o\/w.heap.size<=b\/∃ i,bX γ i=some b
  blk:∀ i b,bX γ' i=some b->(∃ j,bX γ j=some b)\/w.heap.size<=b
  box:∀ i,i < k->∀ b,γ[i]?=some (.box b)->γ'[i]?=some (.box b)
theorem gA.refl(k:Nat)(F:Fz)(γ:List OI)(w:World):gA k F γ w F γ w:=
  ⟨fun _ _ h=>h,rfl,rfl,rfl,aWj _,fun _ _ _=>rfl,fun _ _ h=>.inl h,fun i _ h=>.inl ⟨i,h⟩,fun _ _ _ h=>h⟩
theorem gA.trans{k:Nat}{F F1 F2:Fz}{γ γ1 γ2:List OI}{w w1 w2:World}(h:gA k F γ w F1 γ1 w1)(g:gA k F1 γ1 w1 F2 γ2 w2):gA k F γ w F2 γ2 w2:=by
  refine⟨fun b o hb=>g.sub b o (h.sub b o hb),g.os.trans h.os,g.tape.trans h.tape,g.output.trans h.output,Nat.le_trans h.size g.size, ?_, ?_, ?_, ?_⟩
  · intro b hb hn
    rw[g.far b (Nat.lt_of_lt_of_le hb h.size) ?_,h.far b hb hn];intro i hi;rcases h.blk i b hi with⟨j,hj⟩ | hge
    · exact hn j hj
    · omega
  · intro b o hb
    rcases g.new b o hb with h1 | h1 | ⟨i,hi⟩
    · exact h.new b o h1
    · exact .inr (.inl (Nat.le_trans h.size h1))
    · rcases h.blk i b hi with hj | hge
      · exact .inr (.inr hj)
      · exact .inr (.inl hge)
  · intro i b hb
    rcases g.blk i b hb with⟨j,hj⟩ | hge
    · exact h.blk j b hj
    · exact .inr (Nat.le_trans h.size hge)
  · intro i hi b hb
    exact g.box i hi b (h.box i hi b hb)
theorem gA.le{k k':Nat}{F F':Fz}{γ γ':List OI}{w w':World}(h:gA k F γ w F' γ' w')(hk:k'<=k):gA k' F γ w F' γ' w':=
  ⟨h.sub,h.os,h.tape,h.output,h.size,h.far,h.new,h.blk,fun i hi=>h.box i (Nat.lt_of_lt_of_le hi hk)⟩
def bT(F:Fz)(γ:List OI)(sl:List AV)(a:Act):Prop:=
  a.defers=[]/\a.tmps.size=sl.length/\∀ (i:Nat) av v,sl[i]?=some av->a.tmps[i]?=some v->RV F γ av v
end
section
inductive aH where
  | t (n:Nat) | k (v:Value) | g (n:Nat) | f (n:FuncId)
inductive EK where
  | b | i | s
inductive AI where
  | mov (x:aH) | pick (c a b:aH)
  | alloc (zero:List Value) | box (x:aH)
  | load (isAgg:Bool) (size:Nat) (x:aH) | store (size:Nat) (x v:aH)
  | nilc (x:aH) | bin (op:BinOp) (x y:aH) | un (op:UnOp) (x:aH)
  | binb (neg:Bool) (x y:aH) | eqs (neg:Bool) (ks:List EK) (x y:aH)
  | conv (k:IntKind) (x:aH) | cvid (x:aH) | cvbs (x:aH)
  | addo (off:Nat) (x:aH) | fld (isAgg:Bool) (size off:Nat) (x:aH)
  | ixA (n size:Nat) (x i:aH) | ixL (size:Nat) (x i:aH) | ixS (x i:aH)
  | slS (x:aH) (lo hi:Option aH) | slL (size:Nat) (x:aH) (lo hi:Option aH)
  | bslc (size len:Nat) (zero:List Value) (parts:List (Nat × aH))
  | build (zero:List Value) (parts:List (Nat × Nat × aH))
  | ext (x:aH) (n:Nat) | lenS (x:aH) | lenL (x:aH) | lenA (n:Nat)
  | min2 (x y:aH) | max2 (x y:aH)
  | mkfn (f:FuncId) (caps:List aH)
  | call (f:FuncId) (args:List aH) | callv (x:aH) (args:List aH)
  | app (size bytes:Nat) (zero:List Value) (s x:aH) | apps (s x:aH)
  | mk (size bytes:Nat) (zero:List Value) (l c:aH)
  | clr (size:Nat) (zero:List Value) (x:aH)
  | isnil (p neg:Bool) (x:aH)
  | mpx (ok:Bool) (zero:Value) (x k:aH)
  | cpys (d x:aH) | cvsb (x:aH) | slA (n size:Nat) (x:aH) (lo hi:Option aH)
  | ixV (n:Nat) (x i:aH) | s2p (n:Nat) (x:aH)
structure aM where
  dst:Option Nat
  ai:AI
  guard:Option (Nat × Bool)
abbrev aF:=Nat->Option (List DC)
abbrev cZ(v:Value):aR:=.dc (.raw v)
abbrev dD(v:Value):AV:=.one (.dc (.raw v))
def aBb:Value->AV
  | .agg cs=>if cs.toList.all is1 then .agg (cs.toList.map cZ) else .junk
  | .tuple _=>.junk
  | v=>dD v
def aJ(G:aF)(sl:List AV):aH->AV
  | .t n=>sl.getD n .junk
  | .k v=>aBb v
  | .g n=>match G n with | some cs=>.one (.ref cs) | none=>.junk
  | .f n=>.one (.fn n [])
def aPe:AV->Option Value
  | .one (.dc (.raw v))=>some v
  | _=>none
def bE:AV->Option Int
  | .one (.dc (.raw (.int _ n)))=>some n
  | _=>none
def cF:AV->Option Bool
  | .one (.dc (.raw (.bool b)))=>some b
  | _=>none
def dA:AV->Option ByteArray
  | .one (.dc (.raw (.string b)))=>some b
  | _=>none
def cellsOf:AV->Option (List aR)
  | .one c=>some [c]
  | .agg cs=>some cs
  | _=>none
def Mn(isAgg:Bool)(cs:List aR):Option AV:=
  match isAgg,cs with
  | true,cs=>some (.agg cs)
  | false,[c]=>some (.one c)
  | _,_=>none
def eqR:EK->Value->Value->Option Bool
  | .b,.bool a,.bool b=>some (a==b)
  | .i,.int j a,.int k b=>if j=k then some (a==b) else none
  | .s,.string a,.string b=>some (a.toList==b.toList)
  | _,_,_=>none
def Bg:List EK->List aR->List aR->Option Bool
  | [],[],[]=>some true
  | k::ks,.dc (.raw a)::as,.dc (.raw b)::bs=>(eqR k a b).bind fun x=>(Bg ks as bs).bind fun y=>some (x&&y)
  | _,_,_=>none
def kH(op:BinOp)(k:IntKind)(a b:Int):Option Value:=
  match op with
  | .add=>some (.int k (k.wrap (a+b)))
  | .sub=>some (.int k (k.wrap (a - b)))
  | .mul=>some (.int k (k.wrap (a * b)))
  | .quo=>if b=0 then none else some (.int k (k.wrap (a.tdiv b)))
  | .rem=>if b=0 then none else some (.int k (a.tmod b))
  | .and=>some (.int k (k.wrap (BitVec.ofInt k.bits a &&& BitVec.ofInt k.bits b).toNat))
  | .or=>some (.int k (k.wrap (BitVec.ofInt k.bits a ||| BitVec.ofInt k.bits b).toNat))
  | .xor=>some (.int k (k.wrap (BitVec.ofInt k.bits a ^^^ BitVec.ofInt k.bits b).toNat))
  | .andNot=>some (.int k (k.wrap (BitVec.ofInt k.bits a &&& ~~~BitVec.ofInt k.bits b).toNat))
  | .eql=>some (.bool (a==b))
  | .neq=>some (.bool (a != b))
  | .lss=>some (.bool (a < b))
  | .leq=>some (.bool (a<=b))
  | .gtr=>some (.bool (a > b))
  | .geq=>some (.bool (a≥b))
  | _=>none
def E0(op:BinOp)(a b:ByteArray):Option Value:=
  match op with
  | .add=>if a.size+b.size<=9223372036854775807 then some (.string (a++b)) else none
  | .eql=>some (.bool (a.toList==b.toList))
  | .neq=>some (.bool !(a.toList==b.toList))
  | .lss=>some (.bool (Op.bytesLess a.toList b.toList))
  | .leq=>some (.bool (Op.bytesLess a.toList b.toList||a.toList==b.toList))
  | .gtr=>some (.bool !(Op.bytesLess a.toList b.toList||a.toList==b.toList))
  | .geq=>some (.bool !(Op.bytesLess a.toList b.toList))
  | _=>none
def eC(op:BinOp)(x y:AV):Option AV:=
  match x,y with
  | .one (.dc (.raw (.int j a))),.one (.dc (.raw (.int k b)))=>
    match op with
    | .shl=>if b < 0 then none else some (dD (.int j (j.wrap (a * 2 ^ (min b.toNat j.bits)))))
    | .shr=>if b < 0 then none else some (dD (.int j (a.fdiv (2 ^ (min b.toNat j.bits)))))
    | op=>if j=k then (kH op j a b).map dD else none
  | .one (.dc (.raw (.string a))),.one (.dc (.raw (.string b)))=>(E0 op a b).map dD
  | _,_=>none
def Iq(neg:Bool)(x y:AV):Option AV:=
  match x,y with
  | .one (.dc (.raw (.bool a))),.one (.dc (.raw (.bool b)))=>some (dD (.bool (if neg then !(a==b) else a==b)))
  | _,_=>none
def Rh(neg:Bool)(ks:List EK)(x y:AV):Option AV:=
  match x,y with
  | .agg as,.agg bs=>(Bg ks as bs).map fun b=>dD (.bool (if neg then !b else b))
  | _,_=>none
def unV(op:UnOp)(x:AV):Option AV:=
  match op,x with
  | .neg,.one (.dc (.raw (.int k n)))=>some (dD (.int k (k.wrap (0 - n))))
  | .not,.one (.dc (.raw (.bool b)))=>some (dD (.bool !b))
  | .xor,.one (.dc (.raw (.int k n)))=>(kH .xor k (if k.signed then -1 else k.max) n).map dD
  | _,_=>none
def Cr(off:Nat):AV->Option AV
  | .one (.ptr id o)=>some (.one (.ptr id (o+off)))
  | .one (.ept id i s o)=>some (.one (.ept id i s (o+off)))
  | .one (.ref cs)=>some (.one (.ref (cs.drop off)))
  | _=>none
def aI(hp:List aD)(id:Nat):aD:=hp.getD id .dead
def kW(hp:List aD)(isAgg:Bool)(size:Nat):AV->Option AV
  | .one (.ptr id o)=>
    match aI hp id with
    | .box cs=>if o+size<=cs.length then Mn isAgg ((cs.drop o).take size) else none
    | _=>none
  | .one (.ept id i s o)=>
    match aI hp id with
    | .arr _ s' es=>
      match es[i]? with
      | some e=>if s=s'/\o+size<=e.length then Mn isAgg (((e.drop o).take size).map .dc) else none
      | none=>none
    | _=>none
  | .one (.ref cs)=>if size<=cs.length then Mn isAgg ((cs.take size).map .dc) else none
  | _=>none
def aF1(isAgg:Bool)(size off:Nat):AV->Option AV
  | .agg cs=>if off+size<=cs.length then Mn isAgg ((cs.drop off).take size) else none
  | _=>none
def aBc(n size:Nat)(x:AV)(i:Int):Option AV:=
  if 0<=i/\i < n then Cr (i.toNat * size) x else none
def uZ(hp:List aD)(size:Nat)(x:AV)(i:Int):Option AV:=
  match x with
  | .one (.dc (.slc es))=>
    if 0<=i then
      match es[i.toNat]? with
      | some e=>if e.length=size then some (.one (.ref e)) else none
      | none=>none
    else none
  | .one (.bld id n)=>
    match aI hp id with
    | .arr _ s es=>if 0<=i/\i < n/\n<=es.length/\s=size then some (.one (.ept id i.toNat size 0)) else none
    | _=>none
  | .one (.bls id k n z)=>
    match aI hp id with
    | .arr _ s es=>if 0<=i/\i < n/\k+n<=es.length/\s=size/\z=size then some (.one (.ept id (k+i.toNat) size 0)) else none
    | .box _=>if 0<=i/\i < n/\z=size then some (.one (.ptr id ((k+i.toNat) * size))) else none
    | _=>none
  | _=>none
def E1(x:AV)(i:Int):Option AV:=
  match dA x with
  | some s=>if 0<=i then match s.data.toList[i.toNat]? with | some b=>some (dD (.int .u8 b.toNat)) | none=>none else none
  | none=>none
def dI(x:Option AV)(top dflt:Nat):Option Nat:=
  match x with
  | none=>some dflt
  | some v=>match bE v with | some i=>if 0<=i/\i<=top then some i.toNat else none | none=>none
def H6(x:AV)(lo hi:Option AV):Option AV:=
  (dA x).bind fun s=>(dI hi s.size s.size).bind fun h=>(dI lo h 0).bind fun l=>some (dD (.string (s.extract l h)))
def kI(hp:List aD)(size:Nat)(x:AV)(lo hi:Option AV):Option AV:=
  match x with
  | .one (.dc (.slc es))=>
    (dI hi es.length es.length).bind fun h=>(dI lo h 0).bind fun l=>if es.all (fun e=>e.length=size) then some (.one (.dc (.slc ((es.take h).drop l)))) else none
  | .one (.dc (.raw (.slice none 0 0)))=>
    (dI hi 0 0).bind fun h=>(dI lo h 0).bind fun _=>some x
  | .one (.bld id n)=>
    match aI hp id,lo with
    | .arr _ _ es,none=>if n<=es.length then (dI hi n n).bind fun h=>some (.one (.bld id h)) else none
    | .arr _ s es,some lo=>if n<=es.length/\s=size then (dI hi n n).bind fun h=>(dI (some lo) h 0).bind fun l=>some (.one (if l=0 then .bld id h else .bls id l (h - l) size)) else none
    | _,_=>none
  | .one (.bls id k n s)=>
    match aI hp id with
    | .arr _ s' es=>if k+n<=es.length/\s'=size/\s=size then (dI hi n n).bind fun h=>(dI lo h 0).bind fun l=>some (.one (.bls id (k+l) (h - l) size)) else none
    | .box _=>if s=size then (dI hi n n).bind fun h=>(dI lo h 0).bind fun l=>some (.one (.bls id (k+l) (h - l) size)) else none
    | _=>none
  | _=>none
def aF2(n size:Nat)(x:AV)(lo hi:Option AV):Option AV:=
  match x with
  | .one (.ptr id off)=>if off % size=0 then (dI hi n n).bind fun h=>(dI lo h 0).bind fun l=>some (.one (.bls id (off / size+l) (h - l) size)) else none
  | _=>none
def qR:AV->Option AV
  | .one (.dc (.slc es))=>some (dD (.int .i64 es.length))
  | .one (.dc (.raw (.slice _ n _)))=>some (dD (.int .i64 n))
  | .one (.bld _ n)=>some (dD (.int .i64 n))
  | .one (.bls _ _ n _)=>some (dD (.int .i64 n))
  | _=>none
def cO(cs:List aR)(off:Nat)(vs:List aR):List aR:=cs.take off++vs++cs.drop (off+vs.length)
def gD(zero:List aR):List (Nat × Nat × AV)->Option (List aR)
  | []=>some zero
  | (off,size,v)::rest=>(cellsOf v).bind fun vs=>if vs.length=size/\off+size<=zero.length then gD (cO zero off vs) rest else none
def Ri(x:AV)(n:Nat):Option AV:=
  match x with
  | .tup l=>match l[n]? with | some (.one c)=>some (.one c) | some (.agg cs)=>some (.agg cs) | none=>none
  | _=>none
def aBd(x y:AV):Option AV:=
  match x,y with
  | .one (.dc (.raw (.int k a))),.one (.dc (.raw (.int _ b)))=>some (dD (.int k (if b < a then b else a)))
  | _,_=>none
def aBe(x y:AV):Option AV:=
  match x,y with
  | .one (.dc (.raw (.int k a))),.one (.dc (.raw (.int _ b)))=>some (dD (.int k (if b > a then b else a)))
  | _,_=>none
def Ir:AV->Option AV
  | .one (.ptr id o)=>some (.one (.ptr id o))
  | .one (.ept id i s o)=>some (.one (.ept id i s o))
  | .one (.ref cs)=>some (.one (.ref cs))
  | .one (.dc (.ptr cs))=>some (.one (.ref cs))
  | _=>none
def aF3:AV->Option Bool
  | .one (.dc (.raw (.slice none 0 0)))=>some true
  | .one (.dc (.slc (_::_)))=>some false
  | .one (.bld _ (_+1))=>some false
  | .one (.bls _ _ _ _)=>some false
  | _=>none
def aF4:AV->Option Bool
  | .one (.dc (.raw (.pointer none)))=>some true
  | .one (.ptr _ _)=>some false
  | .one (.ept _ _ _ _)=>some false
  | .one (.ref _)=>some false
  | .one (.dc (.ptr _))=>some false
  | _=>none
def X3(p neg:Bool)(v:AV):Option AV:=(bif p then aF4 v else aF3 v).map fun b=>dD (.bool (b != neg))
def uD:List (Int × Value)->Int->Option Value
  | [],_=>none
  | (a,v)::es,k=>if a=k then some v else uD es k
def mpR:Bool->Value->Option Value->AV
  | true,_,some v=>.tup [.one (cZ v),.one (cZ (.bool true))]
  | true,z,none=>.tup [.one (cZ z),.one (cZ (.bool false))]
  | false,_,some v=>dD v
  | false,z,none=>dD z
def Mo(ok:Bool)(z:Value):AV->AV->Option AV
  | .one (.mpc es),.one (.dc (.raw (.int .i64 k)))=>some (mpR ok z (uD es k))
  | _,_=>none
def yY(c a b:AV):Option AV:=
  match cF c with
  | some c=>some (if c then a else b)
  | none=>none
def dcs:List aR->Option (List DC)
  | []=>some []
  | .dc d::cs=>(dcs cs).map (d::·)
  | _=>none
def eU(es:List (List DC)):Option (List UInt8):=
  match es with
  | []=>some []
  | [.raw (.int .u8 n)]::rest=>(eU rest).map (UInt8.ofNat n.toNat::·)
  | _=>none
def hP:List aR->Option (List UInt8)
  | []=>some []
  | .dc (.raw (.int .u8 n))::rest=>(hP rest).map (UInt8.ofNat n.toNat::·)
  | _=>none
def mC(hp:List aD):AV->Option AV
  | .one (.dc (.slc es))=>(eU es).map fun l=>dD (.string ⟨l.toArray⟩)
  | .one (.dc (.raw (.slice none _ _)))=>some (dD (.string ⟨#[]⟩))
  | .one (.bld id n)=>
    match aI hp id with
    | .arr _ _ es=>if n<=es.length then (eU (es.take n)).map fun l=>dD (.string ⟨l.toArray⟩) else none
    | _=>none
  | .one (.bls id k n z)=>
    match aI hp id with
    | .box cs=>if z=1/\k+n<=cs.length then (hP ((cs.drop k).take n)).map fun l=>dD (.string ⟨l.toArray⟩) else none
    | _=>none
  | _=>none
def gO:AV->Option aR
  | .one c=>some c
  | _=>none
def Rj(n:Nat):AV->Int->Option AV
  | .agg cs,i=>if 0<=i/\i < n/\cs.length=n then cs[i.toNat]?.map AV.one else none
  | _,_=>none
def X4(n:Nat):AV->Option AV
  | .one (.dc (.slc es))=>if n<=es.length/\0 < n then some (.one (.ref (es.take n).flatten)) else none
  | _=>none
def cW(G:aF)(as:AS):AI->Option AV
  | .mov x=>some (aJ G as.sl x)
  | .pick c a b=>yY (aJ G as.sl c) (aJ G as.sl a) (aJ G as.sl b)
  | .load g s x=>kW as.hp g s (aJ G as.sl x)
  | .nilc x=>Ir (aJ G as.sl x)
  | .isnil p n x=>X3 p n (aJ G as.sl x)
  | .mpx ok z x k=>Mo ok z (aJ G as.sl x) (aJ G as.sl k)
  | .bin op x y=>eC op (aJ G as.sl x) (aJ G as.sl y)
  | .binb n x y=>Iq n (aJ G as.sl x) (aJ G as.sl y)
  | .eqs n ks x y=>Rh n ks (aJ G as.sl x) (aJ G as.sl y)
  | .un op x=>unV op (aJ G as.sl x)
  | .conv k x=>(bE (aJ G as.sl x)).map fun n=>dD (.int k (k.wrap n))
  | .cvid x=>(dA (aJ G as.sl x)).map fun s=>dD (.string s)
  | .cvbs x=>mC as.hp (aJ G as.sl x)
  | .addo o x=>Cr o (aJ G as.sl x)
  | .fld g s o x=>aF1 g s o (aJ G as.sl x)
  | .ixA n s x i=>(bE (aJ G as.sl i)).bind fun i=>aBc n s (aJ G as.sl x) i
  | .ixL s x i=>(bE (aJ G as.sl i)).bind fun i=>uZ as.hp s (aJ G as.sl x) i
  | .ixS x i=>(bE (aJ G as.sl i)).bind fun i=>E1 (aJ G as.sl x) i
  | .ixV n x i=>(bE (aJ G as.sl i)).bind fun i=>Rj n (aJ G as.sl x) i
  | .s2p n x=>X4 n (aJ G as.sl x)
  | .slS x lo hi=>H6 (aJ G as.sl x) (lo.map (aJ G as.sl)) (hi.map (aJ G as.sl))
  | .slL s x lo hi=>kI as.hp s (aJ G as.sl x) (lo.map (aJ G as.sl)) (hi.map (aJ G as.sl))
  | .slA n s x lo hi=>aF2 n s (aJ G as.sl x) (lo.map (aJ G as.sl)) (hi.map (aJ G as.sl))
  | .build z ps=>(gD (z.map cZ) (ps.map fun (o,s,x)=>(o,s,aJ G as.sl x))).map .agg
  | .ext x n=>Ri (aJ G as.sl x) n
  | .lenS x=>(dA (aJ G as.sl x)).map fun s=>dD (.int .i64 s.size)
  | .lenL x=>qR (aJ G as.sl x)
  | .lenA n=>some (dD (.int .i64 n))
  | .min2 x y=>aBd (aJ G as.sl x) (aJ G as.sl y)
  | .max2 x y=>aBe (aJ G as.sl x) (aJ G as.sl y)
  | .mkfn f caps=>(caps.mapM fun c=>gO (aJ G as.sl c)).map fun cs=>.one (.fn f cs)
  | _=>none
def aP(sl:List AV)(dst:Option Nat)(v:AV):List AV:=
  match dst with
  | some d=>sl.set d v
  | none=>sl
end
section
def aS:Operand->aH
  | .tmp t=>.t t
  | .const v=>.k v
  | .global g=>.g g
  | .func f=>.f f
def cX(P:Program)(t:TypeId):Option Nat:=(P.info? t).map (·.size)
def X5:TypeDesc->Bool
  | .struct _=>true
  | .array _ _=>true
  | _=>false
def Bh(P:Program)(t:TypeId):Option Bool:=(P.underlying t).map X5
def ekD:TypeDesc->Option EK
  | .bool=>some .b
  | .int _=>some .i
  | .string=>some .s
  | _=>none
def oV(P:Program):List Field->Nat->Option (List EK)
  | [],_=>some []
  | f::fs,off=>if f.offset=off/\f.name≠"_" then ((P.underlying f.type).bind ekD).bind fun k=>(oV P fs (off+1)).map (k::·) else none
def Mp:TypeDesc->Operand->Option Bool
  | .slice _,.const (.slice none 0 0)=>some false
  | .pointer _,.const (.pointer none)=>some true
  | _,_=>none
def lA(op:BinOp)(d:TypeDesc)(x y:Operand):Option AI:=
  match op with
  | .eql=>(Mp d y).map fun p=>.isnil p false (aS x)
  | .neq=>(Mp d y).map fun p=>.isnil p true (aS x)
  | _=>none
def mZ(P:Program)(op:BinOp)(t:TypeId)(x y:Operand):Option AI:=
  match P.underlying t with
  | some .bool=>match op with | .eql=>some (.binb false (aS x) (aS y)) | .neq=>some (.binb true (aS x) (aS y)) | _=>none
  | some (.int _)=>some (.bin op (aS x) (aS y))
  | some .string=>some (.bin op (aS x) (aS y))
  | some (.struct fs)=>
    if P.stoodInHeld t=false/\P.eqGuardType P.depth t=false then
      match op with
      | .eql=>(oV P fs.toList 0).map fun ks=>.eqs false ks (aS x) (aS y)
      | .neq=>(oV P fs.toList 0).map fun ks=>.eqs true ks (aS x) (aS y)
      | _=>none
    else none
  | some (.array n e)=>
    if P.eqGuardType P.depth t=false/\((P.underlying e).bind ekD).isSome=true/\cX P e=some 1 then
      match op,(P.underlying e).bind ekD with
      | .eql,some k=>some (.eqs false (List.replicate n k) (aS x) (aS y))
      | .neq,some k=>some (.eqs true (List.replicate n k) (aS x) (aS y))
      | _,_=>none
    else none
  | some d=>lA op d x y
  | none=>none
def lP(P:Program)(s d:TypeId)(x:Operand):Option AI:=
  match P.underlying s,P.underlying d with
  | some (.int _),some (.int k)=>some (.conv k (aS x))
  | some .string,some .string=>some (.cvid (aS x))
  | some (.slice e),some .string=>if P.underlying e matches some (.int .u8) then some (.cvbs (aS x)) else none
  | some .string,some (.slice e)=>if P.underlying e matches some (.int .u8) then some (.cvsb (aS x)) else none
  | _,_=>none
def rA(P:Program)(s:TypeId)(f:Nat):Option Field:=
  match P.underlying s with
  | some (.struct fs)=>fs[f]?
  | _=>none
def D5(P:Program)(t:TypeId):Option (List (Nat × Nat) ⊕ Nat):=
  match P.underlying t with
  | some (.struct fs)=>(fs.toList.mapM (fun f=>(P.info? f.type).map fun i=>(f.offset,i.size))).map .inl
  | some (.array _ e)=>(P.info? e).map fun i=>.inr i.size
  | _=>none
def oP(p:List (Nat × Nat) ⊕ Nat)(i:Nat):Option (Nat × Nat):=
  match p with
  | .inl l=>l[i]?
  | .inr s=>some (i * s,s)
def mS(p:List (Nat × Nat) ⊕ Nat):Nat × Operand->Option (Nat × Nat × aH)
  | (i,x)=>(oP p i).map fun (o,s)=>(o,s,aS x)
def eG(P:Program)(c:Call):Option AI:=
  match c.callee with
  | .builtin .len=>
    match c.argTypes[0]?,c.args[0]? with
    | some t,some x=>
      match P.underlying t with
      | some .string=>some (.lenS (aS x))
      | some (.slice _)=>some (.lenL (aS x))
      | some (.array n _)=>some (.lenA n)
      | some (.pointer e)=>match P.underlying e with | some (.array n _)=>some (.lenA n) | _=>none
      | _=>none
    | _,_=>none
  | .builtin .min=>match c.args.toList with | [x,y]=>some (.min2 (aS x) (aS y)) | _=>none
  | .builtin .max=>match c.args.toList with | [x,y]=>some (.max2 (aS x) (aS y)) | _=>none
  | .builtin .append=>
    match c.argTypes.toList,c.args.toList with
    | [t,u],[s,x]=>
      match P.underlying t,P.underlying u with
      | some (.slice e),some (.slice e')=>
        if e=e' then (P.info? e).bind fun i=>i.zero.bind fun z=>if z.cells.size=i.size/\0 < i.bytes then some (.app i.size i.bytes z.cells.toList (aS s) (aS x)) else none else none
      | some (.slice e),some .string=>if P.underlying e matches some (.int .u8) then (P.info? e).bind fun i=>i.zero.bind fun z=>if i.size=1/\i.bytes=1/\z.cells.size=1 then some (.apps (aS s) (aS x)) else none else none
      | _,_=>none
    | _,_=>none
  | .builtin .clear=>
    match c.argTypes.toList,c.args.toList with
    | [t],[x]=>
      match P.underlying t with
      | some (.slice e)=>(P.info? e).bind fun i=>i.zero.bind fun z=>if z.cells.size=i.size/\0 < i.size/\z.cells.toList.all is1 then some (.clr i.size z.cells.toList (aS x)) else none
      | _=>none
    | _,_=>none
  | .builtin .copy=>
    match c.argTypes.toList,c.args.toList with
    | [t,u],[d,x]=>
      match P.underlying t,P.underlying u with
      | some (.slice e),some .string=>if (P.info? e).map (·.size)=some 1 then some (.cpys (aS d) (aS x)) else none
      | _,_=>none
    | _,_=>none
  | .value (.func f)=>
    match P.funcs[f]? with
    | some fn=>if fn.name=="runtime.NumGoroutine"||fn.body.isNone then none else some (.call f (c.args.toList.map aS))
    | none=>none
  | .value (.tmp t)=>some (.callv (.t t) (c.args.toList.map aS))
  | _=>none
def aY(P:Program)(o:Oper):Option AI:=
  match o.op with
  | .move x=>some (.mov (aS x))
  | .assign x=>some (.mov (aS x))
  | .pick c a b=>some (.pick (aS c) (aS a) (aS b))
  | .alloc e=>(P.info? e).bind fun i=>i.zero.bind fun z=>if z.cells.toList.all is1 then some (.alloc z.cells.toList) else none
  | .box _ x=>some (.box (aS x))
  | .load t x=>(Bh P t).bind fun g=>(cX P t).map fun s=>.load g (if g then s else 1) (aS x)
  | .store t x v=>(cX P t).map fun s=>.store s (aS x) (aS v)
  | .nilCheck x=>some (.nilc (aS x))
  | .binOp op t x y _=>mZ P op t x y
  | .unOp op _ x=>some (.un op (aS x))
  | .convert s d x=>lP P s d x
  | .fieldAddr s x f=>(rA P s f).bind fun fl=>(cX P fl.type).bind fun n=>if n=0 then none else some (.addo fl.offset (aS x))
  | .field s x f=>(rA P s f).bind fun fl=>(Bh P fl.type).bind fun g=>(cX P fl.type).map fun n=>.fld g (if g then n else 1) fl.offset (aS x)
  | .indexAddr t x i=>
    match P.underlying t with
    | some (.array n e)=>(cX P e).map fun s=>.ixA n s (aS x) (aS i)
    | some (.slice e)=>(cX P e).map fun s=>.ixL s (aS x) (aS i)
    | _=>none
  | .index t x i=>
    match P.underlying t with
    | some .string=>some (.ixS (aS x) (aS i))
    | some (.array n e)=>if Bh P e=some false/\cX P e=some 1 then some (.ixV n (aS x) (aS i)) else none
    | _=>none
  | .sliceToArrayPointer t x=>
    match P.underlying t with
    | some (.array n e)=>if cX P e=some 1 then some (.s2p n (aS x)) else none
    | _=>none
  | .slice t x lo hi none=>
    match P.underlying t with
    | some .string=>some (.slS (aS x) (lo.map aS) (hi.map aS))
    | some (.slice e)=>(cX P e).map fun s=>.slL s (aS x) (lo.map aS) (hi.map aS)
    | some (.array n e)=>(cX P e).bind fun s=>if s=0 then none else some (.slA n s (aS x) (lo.map aS) (hi.map aS))
    | _=>none
  | .lookup t x ix ok=>
    match P.underlying t with
    | some (.map kt et)=>if P.underlying kt matches some (.int .i64) then ((P.info? et).bind fun i=>i.zero).bind fun z=>if is1 z then some (.mpx ok z (aS x) (aS ix)) else none else none
    | _=>none
  | .build t ps=>(D5 P t).bind fun p=>(P.info? t).bind fun i=>i.zero.bind fun z=>if z.cells.toList.all is1 then (ps.toList.mapM (mS p)).map fun l=>.build z.cells.toList l else none
  | .buildSlice t len ps=>
    match P.underlying t with
    | some (.slice e)=>(P.info? e).bind fun i=>i.zero.bind fun z=>if len * i.size<=16777216/\z.cells.size=i.size/\0 < i.size/\z.cells.toList.all is1 then some (.bslc i.size len z.cells.toList (ps.toList.map fun (j,x)=>(j,aS x))) else none
    | _=>none
  | .extract x n=>some (.ext (aS x) n)
  | .makeSlice t l c=>
    match P.underlying t with
    | some (.slice e)=>(P.info? e).bind fun i=>i.zero.bind fun z=>if z.cells.size=i.size/\0 < i.bytes/\0 < i.size/\z.cells.toList.all is1 then some (.mk i.size i.bytes z.cells.toList (aS l) (aS c)) else none
    | _=>none
  | .makeFunc (.func f) first caps=>if first.isEmpty then some (.mkfn f (caps.toList.map aS)) else none
  | .call c=>eG P c
  | _=>none
theorem aF5(F:Fz)(γ:List OI)(v:Value):RV F γ (aBb v) v:=by
  cases v with
  | agg cs=>
    simp only[aBb];split
    · rename_i h
      refine .agg _ _ (by simp) (fun i c v hc hv=>?_)
      simp only[aWl,aXa,hv,aWi,Option.some.injEq] at hc;subst hc;refine .dc _ _ (.raw _ (List.all_eq_true.1 h v (by simpa using aXL hv)))
    · exact .junk _
  | tuple vs=>exact .junk _
  | _=>exact .one _ _ (.dc _ _ (.raw _ rfl))
structure dS (F:Fz) (G:aF):Prop where
  rc:∀ g cs,G g=some cs->∀ γ,RC F γ (.ref cs) (.pointer (some ⟨g,0,none⟩))
  sz:∀ g cs,G g=some cs->∃ o,F g=some o/\∃ vs t z,o=.cells vs t z/\vs.size=cs.length
theorem dS.sub{F F':Fz}{G:aF}(h:dS F G)(hs:F.sub F'):dS F' G:=
  ⟨fun g cs hg γ=>(h.rc g cs hg γ).ext hs (fun _ _ h=>h),fun g cs hg=>let ⟨o,h1,h2⟩:=h.sz g cs hg;⟨o,hs g o h1,h2⟩⟩
section
variable {F:Fz} {γ:List OI} {G:aF} {sl:List AV} {a:Act}
theorem cP(hs:bT F γ sl a)(hg:dS F G)(x:Operand):RV F γ (aJ G sl (aS x)) (a.eval x):=by
  cases x with
  | tmp t=>
    simp only[aS,aJ,Act.eval];obtain⟨_,hsz,hr⟩:=hs;rw[aXv,aWn];cases hi:sl[t]? with
    | none=>exact .junk _
    | some av=>
      have hlt:t < sl.length:=by
        rcases aXk t sl.length with h | h
        · exact h
        · rw[aXb h] at hi;cases hi
      have hlt2:t < a.tmps.size:=hsz ▸ hlt;have hv:a.tmps[t]?=some (a.tmps[t]'hlt2):=aWJ hlt2;rw[hv];exact hr t av _ hi hv
  | const v=>exact aF5 F γ v
  | global g=>
    simp only[aS,aJ,Act.eval];cases hi:G g with
    | none=>exact .junk _
    | some cs=>exact .one _ _ (hg.rc g cs hi γ)
  | func f=>exact .one _ _ (.fn f [] (fun _=>default) (fun i c h=>by simp at h))
theorem cM{v x:Value}(h:RV F γ (.one (.dc (.raw v))) x):x=v:=by
  cases h with
  | one c v h=>cases h with | dc d v h=>cases h;rfl
theorem oW{av:AV}{x:Value}{n:Int}(h:RV F γ av x)(hi:bE av=some n):∃ k,x=.int k n:=by
  unfold bE at hi;split at hi
  · injection hi with hi;subst hi;exact⟨_,cM h⟩
  · cases hi
theorem J8{av:AV}{x:Value}{b:Bool}(h:RV F γ av x)(hi:cF av=some b):x=.bool b:=by
  unfold cF at hi;split at hi
  · injection hi with hi;subst hi;exact cM h
  · cases hi
theorem rB{av:AV}{x:Value}{b:ByteArray}(h:RV F γ av x)(hi:dA av=some b):x=.string b:=by
  unfold dA at hi;split at hi
  · injection hi with hi;subst hi;exact cM h
  · cases hi
theorem bL{v:Value}(h:is1 v=true):RV F γ (dD v) v:=.one _ _ (.dc _ _ (.raw _ h))
theorem Ul{g:Bool}{cs:List aR}{av:AV}(hp:Mn g cs=some av){vs:List Value}(hl:vs.length=cs.length)
    (h:∀ (i:Nat) c v,cs[i]?=some c->vs[i]?=some v->RC F γ c v):(g=true->RV F γ av (.agg vs.toArray))/\(g=false->∃ v,vs=[v]/\RV F γ av v):=by
  unfold Mn at hp;split at hp
  · injection hp with hp;subst hp
    exact⟨fun _=>.agg _ _ (by simpa using hl) (fun i c v h1 h2=>h i c v h1 (by simpa using h2)),(fun h=>by cases h)⟩
  · injection hp with hp;subst hp
    refine⟨(fun h=>by cases h),fun _=>?_⟩
    match vs,hl with
    | [v],_=>exact⟨v,rfl,.one _ _ (h 0 _ _ rfl rfl)⟩
  · cases hp
end
end
section
section
variable {P:Program} {F:Fz} {γ:List OI} {w:World} {hp:List aD}
theorem dU{id:Nat}{o:aD}(h:aI hp id=o)(hn:o≠.dead):hp[id]?=some o:=by
  unfold aI at h;rw[aWn] at h;cases hi:hp[id]? with
  | none=>simp[hi] at h;exact absurd h.symm hn
  | some x=>simp[hi] at h;rw[h]
theorem dC.box{id b:Nat}{cs:List aR}(hi:dC F γ hp w)(h:aI hp id=.box cs)(hg:γ[id]?=some (.box b)):
    ∃ (vs:Array Value) (T:TypeId),J7 w b vs T/\cs.length<=vs.size/\∀ (i:Nat) c v,cs[i]?=some c->vs[i]?=some v->RC F γ c v:=
  hi.ok id _ _ (dU h (by simp)) hg
theorem dC.arr{id b cap cap' size:Nat}{es:List (List DC)}(hi:dC F γ hp w)(h:aI hp id=.arr cap size es)(hg:γ[id]?=some (.arr (some b) cap')):
    cap'=cap/\es.length<=cap/\(∀ e∈es,e.length=size)/\∃ (vs:Array Value) (T:TypeId),J7 w b vs T/\vs.size=cap * size/\
        ∀ (i j:Nat) e d v,es[i]?=some e->e[j]?=some d->vs[i * size+j]?=some v->RD F d v:=
  hi.ok id _ _ (dU h (by simp)) hg
theorem dC.noArr{id b cap size:Nat}{es:List (List DC)}(hi:dC F γ hp w)(h:aI hp id=.arr cap size es):γ[id]?≠some (.box b):=fun hg=>hi.ok id _ _ (dU h (by simp)) hg
theorem dC.noBox{id cap:Nat}{A:Option Nat}{cs:List aR}(hi:dC F γ hp w)(h:aI hp id=.box cs):γ[id]?≠some (.arr A cap):=fun hg=>by
  cases A<;>exact hi.ok id _ _ (dU h (by simp)) hg
theorem dC.arrN{id cap cap' size:Nat}{es:List (List DC)}(hi:dC F γ hp w)(h:aI hp id=.arr cap size es)(hg:γ[id]?=some (.arr none cap')):cap=0/\cap'=0/\es=[]:=
  hi.ok id _ _ (dU h (by simp)) hg
theorem J7.of{w w':World}{b:Nat}{vs:Array Value}{T:TypeId}(h:J7 w b vs T)(e:w'.heap[b]?=w.heap[b]?):J7 w' b vs T:=by
  obtain⟨fz,h,hn⟩:=h;exact⟨fz,e.trans h,hn⟩
theorem Rk{b:Nat}{vs:Array Value}{T:TypeId}{fz:Nat × Nat}(h:w.heap[b]?=some (.cells vs T fz))(j:Nat):w.cell? ⟨b,j,none⟩=vs[j]?:=by
  simp[World.cell?,h]
theorem lB{b:Nat}{vs:Array Value}{T:TypeId}(h:J7 w b vs T)(j:Nat):w.cell? ⟨b,j,none⟩=vs[j]?:=by
  obtain⟨fz,h,_⟩:=h;exact Rk h j
structure Mem (F:Fz) (γ:List OI) (w:World) (x:Value) (cs:List aR) where
  b:Nat
  off:Nat
  vs:List Value
  hx:x=.pointer (some ⟨b,off,none⟩)
  hl:vs.length=cs.length
  hc:∀ (j:Nat) v,vs[j]?=some v->w.cell? ⟨b,off+j,none⟩=some v
  hr:∀ (j:Nat) c v,cs[j]?=some c->vs[j]?=some v->RC F γ c v
theorem dG(b o j:Nat):(⟨b,o,none⟩:Addr).add j=⟨b,o+j,none⟩:=by
  unfold Addr.add;split<;>simp_all
theorem gB{i j size cap n:Nat}(hi:i < n)(hn:n<=cap)(hj:j < size):i * size+j < cap * size:=by
  have h1:(i+1) * size<=cap * size:=aXf size (by omega);rw[aWQ] at h1;omega
theorem Is{g:Bool}{s:Nat}{av v:AV}{x:Value}(h:kW hp g s av=some v)(hi:dC F γ hp w)(hx:RV F γ av x):
    ∃ cs,Mn g cs=some v/\cs.length=s/\Nonempty (Mem F γ w x cs):=by
  unfold kW at h;split at h
  · rename_i id o
    split at h
    · rename_i cs hb
      split at h
      · rename_i hle
        cases hx with | one c v hc=>cases hc with | ptr _ _ b hgm=>
        obtain⟨vs,T,hh,hsz,hr⟩:=hi.box hb hgm;refine⟨_,h,by simp;omega,⟨⟨b,o,(vs.toList.drop o).take s,rfl,by simp;omega,fun j v hj=>?_,fun j c v hj hv=>?_⟩⟩⟩
        · rw[lB hh]
          simp only[aWH,aWK] at hj;split at hj
          · simpa using hj
          · cases hj
        · simp only[aWH,aWK] at hj hv
          split at hj
          · rename_i hlt
            rw[if_pos hlt] at hv;exact hr _ _ _ hj (by simpa using hv)
          · cases hj
      · cases h
    · cases h
  · rename_i id i s0 o
    split at h
    · rename_i cap s' es hb
      split at h
      · rename_i e he
        split at h
        · rename_i hle
          obtain⟨rfl,hle⟩:=hle;cases hx with | one c v hc=>cases hc with | ept _ _ _ _ b cap' hgm=>
          obtain⟨_,hec,hes,vs,T,hh,hsz,hr⟩:=hi.arr hb hgm;have hel:e.length=s0:=hes e (aWD he);have hil:i < es.length:=by
            rcases aXk i es.length with h' | h'
            · exact h'
            · rw[aXb h'] at he;cases he
          refine⟨_,h,by simp;omega,⟨⟨b,i * s0+o,(vs.toList.drop (i * s0+o)).take s,rfl, ?_,fun j v hj=>?_,fun j c v hj hv=>?_⟩⟩⟩
          · simp
            have h1:(i+1) * s0<=cap * s0:=aXf s0 (by omega);rw[aWQ] at h1;omega
          · rw[lB hh]
            simp only[aWH,aWK] at hj;split at hj
            · simpa using hj
            · cases hj
          · simp only[aWl,aWH,aWK] at hj hv
            split at hj
            · rename_i hlt
              rw[if_pos hlt] at hv;cases hd:e[o+j]? with
              | none=>simp[hd] at hj
              | some d=>
                simp[hd] at hj;subst hj;exact .dc _ _ (hr i (o+j) e d v he hd (by simpa[Nat.add_assoc] using hv))
            · cases hj
        · cases h
      · cases h
    · cases h
  · rename_i cs
    split at h
    · rename_i hle
      cases hx with | one c v hc=>cases hc with | ref _ b off gg hr hcc=>
      refine⟨_,h,by simp;omega,⟨⟨b,off,(List.range s).map gg,rfl,by simp;omega,fun j v hj=>?_,fun j c v hj hv=>?_⟩⟩⟩
      · simp only[aWl] at hj
        cases hjr:(List.range s)[j]? with
        | none=>simp[hjr] at hj
        | some k=>
          simp[hjr] at hj;have hk:j < s:=by
            rcases aXk j s with h' | h'
            · exact h'
            · rw[aXb (by simpa using h')] at hjr;cases hjr
          have:k=j:=by simpa[aXw hk] using hjr.symm
          subst this;rw[<- hj];exact Fz.cell_world hi.fz (hcc k _ (aWo (by omega)))
      · simp only[aWl,aWH] at hj hv
        split at hj
        · rename_i hk
          simp[aXw hk] at hv;cases hd:cs[j]? with
          | none=>simp[hd] at hj
          | some d=>
            simp[hd] at hj;subst hj;subst hv;exact .dc _ _ (hr j d hd)
        · simp at hj
    · cases h
  · cases h
theorem Um{g:Bool}{s s0:Nat}{av v:AV}{x:Value}{t:TypeId}(h:kW hp g s av=some v)(hi:dC F γ hp w)(hx:RV F γ av x)
    (hg:Bh P t=some g) (hsz:cX P t=some s0) (hs:s=if g then s0 else 1):
    ∃ y,(Instr.loadAt t x).run P w=.ok y w/\RV F γ v y:=by
  obtain⟨cs,hp',hl,⟨b,off,vs,rfl,hlv,hcv,hrv⟩⟩:=Is h hi hx;obtain⟨h1,h2⟩:=Ul hp' hlv hrv;unfold Bh at hg;cases hu:P.underlying t with
  | none=>simp[hu] at hg
  | some d=>
    simp only[hu,aWi,Option.some.injEq] at hg;unfold cX at hsz;cases hin:P.info? t with
    | none=>simp[hin] at hsz
    | some inf=>
      simp only[hin,aWi,Option.some.injEq] at hsz;cases g with
      | true=>
        refine⟨_, ?_,h1 rfl⟩;have hc:=run_loadCells_list (P:=P) w ⟨b,off,none⟩ vs (fun j v hj=>by rw[dG];exact hcv j v hj)
        have hlen:vs.length=inf.size:=by rw[hlv,hl,hs,hsz];simp
        rw[hlen] at hc;unfold X5 at hg;split at hg
        · simp[Instr.loadAt,Instr.sureAddr,loadVar,isAgg,sizeOf,typeInfo,run_underlying hu,hin,hc]
        · simp[Instr.loadAt,Instr.sureAddr,loadVar,isAgg,sizeOf,typeInfo,run_underlying hu,hin,hc]
        · cases hg
      | false=>
        obtain⟨y,hy,hv⟩:=h2 rfl;refine⟨y, ?_,hv⟩;have hc:=hcv 0 y (by rw[hy];rfl);simp only[aW1] at hc;cases d<;>first | (simp[X5] at hg;done) | simp[Instr.loadAt,Instr.sureAddr,loadVar,isAgg,run_underlying hu,hc]
theorem E2{o:Nat}{av v:AV}{x:Value}(h:Cr o av=some v)(hx:RV F γ av x):∃ b off,x=.pointer (some ⟨b,off,none⟩)/\RV F γ v (.pointer (some ⟨b,off+o,none⟩)):=by
  unfold Cr at h;split at h
  · injection h with h;subst h
    cases hx with | one c v hc=>cases hc with | ptr _ _ b hgm=>
    exact⟨b,_,rfl,.one _ _ (.ptr _ _ _ hgm)⟩
  · injection h with h;subst h
    cases hx with | one c v hc=>cases hc with | ept _ _ _ _ b cap hgm=>
    exact⟨b,_,rfl,.one _ _ (by rw[Nat.add_assoc];exact .ept _ _ _ _ _ _ hgm)⟩
  · injection h with h;subst h
    cases hx with | one c v hc=>cases hc with | ref cs b off gg hr hcc=>
    refine⟨b,off,rfl,.one _ _ (.ref _ _ _ (fun j=>gg (o+j)) (fun j d hj=>?_) (fun j d hj=>?_))⟩
    · simp only[aWK] at hj;exact hr _ _ hj
    · simp only[aWK] at hj;rw[Nat.add_assoc];exact hcc _ _ hj
  · cases h
theorem Un{av v:AV}{x:Value}(h:Ir av=some v)(hx:RV F γ av x):RV F γ v x/\∃ a,x=.pointer (some a):=by
  unfold Ir at h;split at h
  · injection h with h;subst h
    refine⟨hx, ?_⟩;cases hx with | one c v hc=>cases hc with | ptr _ _ b hgm=>exact⟨_,rfl⟩
  · injection h with h;subst h
    refine⟨hx, ?_⟩;cases hx with | one c v hc=>cases hc with | ept _ _ _ _ b cap hgm=>exact⟨_,rfl⟩
  · injection h with h;subst h
    refine⟨hx, ?_⟩;cases hx with | one c v hc=>cases hc with | ref cs b off gg hr hcc=>exact⟨_,rfl⟩
  · injection h with h;subst h
    cases hx with | one c v hc=>cases hc with | dc _ _ hd=>cases hd with | ptr cs b off gg hr hcc=>exact⟨.one _ _ (.ref _ _ _ gg hr hcc),_,rfl⟩
  · cases h
theorem aBf{op:BinOp}{t:TypeId}{k:IntKind}{a b:Int}{v:Value}(h:kH op k a b=some v):is1 v=true/\(Go.binOp op t (.int k a) (.int k b)).run P w=.ok v w:=by
  cases op<;>simp only[kH] at h<;>first
    | (cases h;done)
    | (injection h with h;subst h;exact⟨rfl,by simp[Go.binOp,Op.intArith,Op.intBits,Op.intCmp]⟩)
    | (split at h
       · cases h
       · rename_i hne
         injection h with h;subst h;exact⟨rfl,by simp[Go.binOp,Op.intDiv,hne]⟩)
theorem aBg:IntKind.i64.max=9223372036854775807:=by decide
theorem aBh{op:BinOp}{t:TypeId}{a b:ByteArray}{v:Value}(h:E0 op a b=some v):is1 v=true/\(Go.binOp op t (.string a) (.string b)).run P w=.ok v w:=by
  cases op<;>simp only[E0] at h<;>first
    | (cases h;done)
    | (injection h with h;subst h;exact⟨rfl,by simp[Go.binOp,Op.stringOp]⟩)
    | (split at h
       · rename_i hle
         injection h with h;subst h
         refine⟨rfl, ?_⟩;have:¬ (IntKind.i64.max < (a.size:Int)+(b.size:Int)):=by rw[aBg];omega
         simp only[Go.binOp,Op.stringOp,Sem.run_ite,Sem.run_pure];rw[if_neg (by have:=this;push_cast;omega)]
       · cases h)
theorem aBi{t:TypeId}{dsc:TypeDesc}{k:EK}{a b:Value}{r:Bool}(h:eqR k a b=some r)(ht:P.underlying t=some dsc)(hd:ekD dsc=some k)(d:Nat):
    (Op.equalIn (d+1) t a b).run P w=.ok r w:=by
  unfold eqR at h;split at h
  · injection h with h;subst h
    cases dsc<;>simp[ekD] at hd;exact run_equalIn_bool' w d t _ _ ht
  · split at h
    · rename_i hjk
      injection h with h;subst h;subst hjk
      cases dsc<;>simp[ekD] at hd;exact run_equalIn_int w d t _ _ _ _ ht
    · cases h
  · injection h with h;subst h
    cases dsc<;>simp[ekD] at hd;exact run_equalIn_string w d t _ _ ht
  · cases h
theorem sP{t:TypeId}{dsc:TypeDesc}{k:EK}(ht:P.underlying t=some dsc)(hk:ekD dsc=some k)(xs:Array Value)(off:Nat)(x:Value)(hx:xs[off]?=some x):
    (part t xs off).run P w=.ok x w:=by
  cases dsc<;>simp[ekD] at hk<;>simp[part,isAgg,run_underlying ht,hx]
theorem Cs(d:Nat)(xs ys:Array Value):∀ (fs:List Field) (off:Nat) (ks:List EK) (as bs:List aR) (r:Bool),oV P fs off=some ks->Bg ks as bs=some r->
    (∀ (i:Nat) c,as[i]?=some c->∃ v,xs[off+i]?=some v/\RC F γ c v)->(∀ (i:Nat) c,bs[i]?=some c->∃ v,ys[off+i]?=some v/\RC F γ c v)->
    (Op.eqFields (d+1) xs ys fs).run P w=.ok r w
  | [],off,ks,as,bs,r,hf,he,hx,hy=>by
    simp only[oV,Option.some.injEq] at hf;subst hf;cases as<;>cases bs<;>simp[Bg] at he;subst he;simp[Op.eqFields]
  | f::fs,off,ks,as,bs,r,hf,he,hx,hy=>by
    simp only[oV] at hf;split at hf
    · rename_i hfo
      cases hu:P.underlying f.type with
      | none=>simp[hu] at hf
      | some dsc=>
        simp only[hu,aWr] at hf;cases hk:ekD dsc with
        | none=>simp[hk] at hf
        | some k=>
          simp only[hk,aWr] at hf;cases hfs:oV P fs (off+1) with
          | none=>simp[hfs] at hf
          | some ks'=>
            simp only[hfs,aWi,Option.some.injEq] at hf;subst hf
            match as,bs,he with
            | .dc (.raw a)::as,.dc (.raw b)::bs,he=>
              simp only[Bg] at he;cases hr:eqR k a b with
              | none=>simp[hr] at he
              | some x=>
                simp only[hr,aWr] at he;cases hrs:Bg ks' as bs with
                | none=>simp[hrs] at he
                | some y=>
                  simp only[hrs,aWr,Option.some.injEq] at he;subst he;obtain⟨va,hva,hra⟩:=hx 0 _ rfl;obtain⟨vb,hvb,hrb⟩:=hy 0 _ rfl;have hva':va=a:=cM (.one _ _ hra);have hvb':vb=b:=cM (.one _ _ hrb);subst hva';subst hvb';have ih:=Cs d xs ys fs (off+1) ks' as bs y hfs hrs (fun i c hc=>by have:=hx (i+1) c hc;rwa[show off+(i+1)=off+1+i by omega] at this)
                    (fun i c hc=>by have:=hy (i+1) c hc;rwa[show off+(i+1)=off+1+i by omega] at this)
                  have h1:=sP (P:=P) (w:=w) hu hk xs f.offset va (by rw[hfo.1];exact hva);have h2:=sP (P:=P) (w:=w) hu hk ys f.offset vb (by rw[hfo.1];exact hvb);have h3:=aBi (P:=P) (w:=w) hr hu hk d;cases x<;>simp[Op.eqFields,hfo.2,h1,h2,h3,ih]
    · cases hf
theorem aBj{op:BinOp}{t:TypeId}{xo yo:Operand}{av bv v:AV}{x y:Value}(h:eC op av bv=some v)(hx:RV F γ av x)(hy:RV F γ bv y)
 : ∃ r,((do eqGuard op t xo yo x y;Go.binOp op t x y):Sem Value).run P w=.ok r w/\RV F γ v r:=by
  unfold eC at h;split at h
  · rename_i j a k b
    rw[cM hx,cM hy];have hgd:(eqGuard op t xo yo (.int j a) (.int k b)).run P w=.ok () w:=by cases op<;>simp[eqGuard]
    split at h
    · split at h
      · cases h
      · rename_i hb
        injection h with h;subst h
        exact⟨_,by simp[hgd,Go.binOp,Op.shift,hb],bL rfl⟩
    · split at h
      · cases h
      · rename_i hb
        injection h with h;subst h
        exact⟨_,by simp[hgd,Go.binOp,Op.shift,hb],bL rfl⟩
    · split at h
      · rename_i hjk
        subst hjk;cases hio:kH op j a b with
        | none=>simp[hio] at h
        | some r=>
          simp only[hio,aWi,Option.some.injEq] at h;subst h;obtain⟨h1,h2⟩:=aBf (P:=P) (w:=w) (t:=t) hio;exact⟨r,by simp[hgd,h2],bL h1⟩
      · cases h
  · rename_i a b
    rw[cM hx,cM hy];have hgd:(eqGuard op t xo yo (.string a) (.string b)).run P w=.ok () w:=by cases op<;>simp[eqGuard]
    cases hio:E0 op a b with
    | none=>simp[hio] at h
    | some r=>
      simp only[hio,aWi,Option.some.injEq] at h;subst h;obtain⟨h1,h2⟩:=aBh (P:=P) (w:=w) (t:=t) hio;exact⟨r,by simp[hgd,h2],bL h1⟩
  · cases h
theorem rC{t:TypeId}{a b:Bool}(ht:P.underlying t=some .bool):(Op.equal t (.bool a) (.bool b)).run P w=.ok (a==b) w:=run_equalIn_bool' w 9999 t a b ht
theorem Uo{neg:Bool}{t:TypeId}{xo yo:Operand}{av bv v:AV}{x y:Value}(h:Iq neg av bv=some v)(hx:RV F γ av x)(hy:RV F γ bv y)
    (ht:P.underlying t=some .bool):∃ r,((do eqGuard (if neg then .neq else .eql) t xo yo x y;Go.binOp (if neg then .neq else .eql) t x y):Sem Value).run P w=.ok r w/\RV F γ v r:=by
  unfold Iq at h;split at h
  · rename_i a b
    rw[cM hx,cM hy];injection h with h;subst h
    cases neg
    · exact⟨_,by simp[eqGuard,Go.binOp,rC ht],bL rfl⟩
    · exact⟨_,by simp[eqGuard,Go.binOp,rC ht],bL rfl⟩
  · cases h
theorem E3(d:Nat){e:TypeId}{dsc:TypeDesc}{k:EK}(hu:P.underlying e=some dsc)(hk:ekD dsc=some k)(xs ys:Array Value):∀ (m off:Nat) (as bs:List aR) (r:Bool),Bg (List.replicate m k) as bs=some r->
    (∀ (i:Nat) c,as[i]?=some c->∃ v,xs[off+i]?=some v/\RC F γ c v)->(∀ (i:Nat) c,bs[i]?=some c->∃ v,ys[off+i]?=some v/\RC F γ c v)->
    (Op.eqItems (d+1) e 1 xs ys (List.range' off m)).run P w=.ok r w
  | 0,off,as,bs,r,he,hx,hy=>by
    cases as<;>cases bs<;>simp[Bg] at he;subst he;simp[Op.eqItems]
  | m+1,off,as,bs,r,he,hx,hy=>by
    rw[List.replicate_succ] at he
    match as,bs,he with
    | .dc (.raw a)::as,.dc (.raw b)::bs,he=>
      simp only[Bg] at he;cases hr:eqR k a b with
      | none=>simp[hr] at he
      | some x=>
        simp only[hr,aWr] at he;cases hrs:Bg (List.replicate m k) as bs with
        | none=>simp[hrs] at he
        | some y=>
          simp only[hrs,aWr,Option.some.injEq] at he;subst he;obtain⟨va,hva,hra⟩:=hx 0 _ rfl;obtain⟨vb,hvb,hrb⟩:=hy 0 _ rfl;have hva':va=a:=cM (.one _ _ hra);have hvb':vb=b:=cM (.one _ _ hrb);subst hva';subst hvb';have ih:=E3 d hu hk xs ys m (off+1) as bs y hrs (fun i c hc=>by have:=hx (i+1) c hc;rwa[show off+(i+1)=off+1+i by omega] at this)
            (fun i c hc=>by have:=hy (i+1) c hc;rwa[show off+(i+1)=off+1+i by omega] at this)
          have h1:=sP (P:=P) (w:=w) hu hk xs off va hva;have h2:=sP (P:=P) (w:=w) hu hk ys off vb hvb;have h3:=aBi (P:=P) (w:=w) hr hu hk d;rw[List.range'_succ];cases x<;>simp[Op.eqItems,h1,h2,h3,ih]
theorem Uq{neg:Bool}{t e:TypeId}{n:Nat}{k:EK}{xo yo:Operand}{av bv v:AV}{x y:Value}(h:Rh neg (List.replicate n k) av bv=some v)(hx:RV F γ av x)(hy:RV F γ bv y)
    (ht:P.underlying t=some (.array n e)) (hk:(P.underlying e).bind ekD=some k) (hs:cX P e=some 1) (hq:P.eqGuardType P.depth t=false):
    ∃ r,((do eqGuard (if neg then .neq else .eql) t xo yo x y;Go.binOp (if neg then .neq else .eql) t x y):Sem Value).run P w=.ok r w/\RV F γ v r:=by
  unfold Rh at h;split at h
  · rename_i as bs
    cases hx with | agg _ xs hxs hxr=>
    cases hy with | agg _ ys hys hyr=>
    cases he:Bg (List.replicate n k) as bs with
    | none=>simp[he] at h
    | some r=>
      simp only[he,aWi,Option.some.injEq] at h;subst h;obtain⟨dsc,hu,hk⟩:=aW5.1 hk;unfold cX at hs;obtain⟨inf,hi,hi1⟩:=Option.map_eq_some_iff.1 hs;have hc1:P.cellsOf e=1:=by rw[Program.cellsOf,hi];exact hi1
      have g:∀ {as:List aR} {xs:Array Value},xs.size=as.length->(∀ (i:Nat) c v,as[i]?=some c->xs[i]?=some v->RC F γ c v)->
          ∀ (i:Nat) c,as[i]?=some c->∃ v,xs[0+i]?=some v/\RC F γ c v:=by
        intro as xs hsz hr i c hc;have hi:i < as.length:=by
          rcases aXk i as.length with h' | h'
          · exact h'
          · rw[aXb h'] at hc;cases hc
        have hi2:i < xs.size:=hsz ▸ hi;refine⟨xs[i]'hi2,by simp[hi2],hr i c _ hc (aWJ hi2)⟩
      have h1:=E3 (P:=P) (w:=w) 9998 hu hk xs ys n 0 as bs r he (g hxs hxr) (g hys hyr);have h2:(Op.equalIn 10000 t (.agg xs) (.agg ys)).run P w=.ok r w:=by
        rw[show (10000:Nat)=9999+1 from rfl,run_equalIn_array w 9999 xs ys ht hi,hc1,List.range_eq_range']
        exact h1
      cases neg
      · exact⟨.bool r,by simp[run_eqGuard_agg w .eql t xo yo xs ys hq,run_eql_struct,h2],bL rfl⟩
      · exact⟨.bool !r,by simp[run_eqGuard_agg w .neq t xo yo xs ys hq,run_neq_struct,h2],bL rfl⟩
  · cases h
theorem aBk{neg:Bool}{t:TypeId}{fs:Array Field}{ks:List EK}{xo yo:Operand}{av bv v:AV}{x y:Value}(h:Rh neg ks av bv=some v)(hx:RV F γ av x)(hy:RV F γ bv y)
    (ht:P.underlying t=some (.struct fs)) (hf:oV P fs.toList 0=some ks) (hs:P.stoodInHeld t=false) (hq:P.eqGuardType P.depth t=false):
    ∃ r,((do eqGuard (if neg then .neq else .eql) t xo yo x y;Go.binOp (if neg then .neq else .eql) t x y):Sem Value).run P w=.ok r w/\RV F γ v r:=by
  unfold Rh at h;split at h
  · rename_i as bs
    cases hx with | agg _ xs hxs hxr=>
    cases hy with | agg _ ys hys hyr=>
    cases he:Bg ks as bs with
    | none=>simp[he] at h
    | some r=>
      simp only[he,aWi,Option.some.injEq] at h;subst h;have hfo:P.fieldsOf t=fs:=by simp[Program.fieldsOf,ht]
      have g:∀ {as:List aR} {xs:Array Value},xs.size=as.length->(∀ (i:Nat) c v,as[i]?=some c->xs[i]?=some v->RC F γ c v)->
          ∀ (i:Nat) c,as[i]?=some c->∃ v,xs[0+i]?=some v/\RC F γ c v:=by
        intro as xs hsz hr i c hc;have hi:i < as.length:=by
          rcases aXk i as.length with h' | h'
          · exact h'
          · rw[aXb h'] at hc;cases hc
        have hi2:i < xs.size:=hsz ▸ hi;refine⟨xs[i]'hi2,by simp[hi2],hr i c _ hc (aWJ hi2)⟩
      have h1:=Cs (P:=P) (w:=w) 9998 xs ys fs.toList 0 ks as bs r hf he (g hxs hxr) (g hys hyr);have h2:(Op.equalIn 10000 t (.agg xs) (.agg ys)).run P w=.ok r w:=by
        rw[show (10000:Nat)=9999+1 from rfl,run_equalIn_agg w 9999 t xs ys (by rw[hfo];exact ht) hs,hfo]
        exact h1
      cases neg
      · exact⟨.bool r,by simp[run_eqGuard_agg w .eql t xo yo xs ys hq,run_eql_struct,h2],bL rfl⟩
      · exact⟨.bool !r,by simp[run_eqGuard_agg w .neq t xo yo xs ys hq,run_neq_struct,h2],bL rfl⟩
  · cases h
end
end
end Go.Proofs.YthepfneloomngaaGreatDoor
