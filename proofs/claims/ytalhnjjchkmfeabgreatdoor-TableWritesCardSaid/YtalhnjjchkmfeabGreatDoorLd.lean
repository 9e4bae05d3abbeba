/- Part. Conditions: none. -/
import Derived.Calls
import Derived.LoopN
import Derived.Tactics
import Derived.Orders
import Derived.WalkKit
namespace Go.Proofs.YtalhnjjchkmfeabGreatDoor
set_option linter.unusedSimpArgs false
set_option linter.unusedVariables false
theorem q_{α:Sort _}{a:α}:a=a:=Eq.trans rfl rfl
abbrev L:=List
abbrev aY9:=@List.length_map
abbrev aZa:=@List.length_append
abbrev aZb:=@List.length_cons
abbrev aZc:=@List.length_nil
abbrev aZd:=@List.length_take
abbrev aZe:=@Nat.le_refl
abbrev aZf:=@Option.map_some
abbrev aZg:=@List.length_replicate
abbrev aZh:=@List.length_drop
abbrev aZi:=@List.getElem?_eq_getElem
abbrev aZj:=@List.getElem?_map
abbrev aZk:=@List.getElem_mem
abbrev aZl:=@List.map_cons
abbrev aZm:=@List.map_nil
abbrev aZn:=@List.nil_append
abbrev aZo:=@List.getD_eq_getElem?_getD
abbrev aZp:=@List.cons_append
abbrev aZq:=@Bool.and_eq_true
abbrev aZr:=@List.append_assoc
abbrev aZs:=@Option.bind_some
abbrev aZt:=@List.mem_cons_self
abbrev aZu:=@List.getElem_map
abbrev aZv:=@List.getElem?_append_left
abbrev aZw:=@List.getElem?_set_ne
abbrev aZx:=@Nat.zero_le
abbrev aZy:=@Int.toNat_natCast
abbrev aZz:=@Bool.not_true
abbrev aZA:=@List.mem_of_mem_take
abbrev aZB:=@List.mem_cons_of_mem
abbrev aZC:=@List.map_congr_left
abbrev aZD:=@List.getElem?_append_right
abbrev aZE:=@List.mem_of_getElem?
abbrev aZF:=@Bool.not_false
abbrev aZG:=@List.map_map
abbrev aZH:=@List.getElem?_set_self
abbrev aZI:=@List.take_of_length_le
abbrev aZJ:=@Bool.true_and
abbrev aZK:=@List.getElem?_drop
abbrev aZL:=@List.getElem?_take
abbrev aZM:=@List.mem_of_mem_drop
abbrev aZN:=@List.map_set
abbrev aZO:=@List.take_length
abbrev aZP:=@Int.zero_add
abbrev aZQ:=@List.map_append
abbrev aZR:=@Array.getElem?_eq_getElem
abbrev aZS:=@Bool.false_and
abbrev aZT:=@Option.bind_eq_some_iff
abbrev aZU:=@Option.getD_some
abbrev aZV:=@Nat.add_mul
abbrev aZW:=@List.drop_zero
abbrev aZX:=@Bool.false_or
abbrev aZY:=@Nat.add_zero
abbrev aZZ:=@List.map_take
abbrev aZ0:=@Nat.zero_add
abbrev aZ1:=@Nat.sub_self
abbrev aZ2:=@Nat.mul_one
abbrev aZ3:=@Int.natCast_add
abbrev aZ4:=@List.drop_eq_getElem_cons
abbrev aZ5:=@List.take_succ_eq_append_getElem
abbrev aZ6:=@List.drop_drop
abbrev aZ7:=@List.flatten_cons
abbrev aZ8:=@List.mapM_cons
abbrev aZ9:=@List.append_nil
abbrev bAa:=@Nat.mod_eq_of_lt
abbrev bAb:=@Bool.not_eq_true'
abbrev bAc:=@List.take_append_drop
abbrev bAd:=@Bool.true_or
abbrev bAe:=@Array.getElem?_toList
abbrev bAf:=@List.getElem?_replicate
abbrev bAg:=@List.take_zero
abbrev bAh:=@Int.eq_ofNat_of_zero_le
abbrev bAi:=@List.getElem?_eq_none
abbrev bAj:=@Nat.mul_le_mul_right
abbrev bAk:=@List.eq_nil_of_length_eq_zero
abbrev bAl:=@List.mem_cons
abbrev bAm:=@List.any_eq_false
abbrev bAn:=@List.drop_take
abbrev bAo:=@List.take_left'
abbrev bAp:=@Nat.lt_or_ge
abbrev bAq:=@Bool.false_eq_true
abbrev bAr:=@List.all_eq_true
abbrev bAs:=@List.take_append_of_le_length
abbrev bAt:=@List.take_succ_cons
abbrev bAu:=@List.map_drop
abbrev bAv:=@Bool.eq_iff_iff
abbrev bAw:=@Bool.eq_false_iff
abbrev bAx:=@List.getElem?_range
abbrev bAy:=@Nat.add_sub_cancel_left
abbrev bAz:=@Array.toList_inj
abbrev bAA:=@Nat.min_eq_left
abbrev bAB:=@List.mem_append
abbrev bAC:=@List.drop_succ_cons
abbrev bAD:=@Int.natCast_zero
abbrev bAE:=@Int.tmod_eq_emod_of_nonneg
abbrev bAF:=@List.not_mem_nil
abbrev bAG:=@Array.getD_eq_getD_getElem?
abbrev bAH:=@Array.length_toList
abbrev bAI:=@List.getElem?_of_mem
abbrev bAJ:=@List.getElem_of_mem
abbrev bAK:=@List.getElem?_cons_succ
abbrev bAL:=@Int.tdiv_eq_ediv_of_nonneg
abbrev bAM:=@Array.getElem?_setIfInBounds_self_of_lt
section
def is1:Value->Bool
 |.agg _=>false
 |.tuple _=>false
 |_=>true
inductive DC where
 |raw (v:Value)
 |slc (es:List (List DC))
 |ptr (cs:List DC)
inductive aU where
 |dc (d:DC)
 |ptr (id off:Nat)
 |bld (id n:Nat)
 |ept (id i size off:Nat)
 |bls (id lo n size:Nat)
 |ref (cs:List DC)
 |mpc (es:List (Int×Value))
 |fn (f:FuncId) (caps:List aU)
 |junk
inductive TV where
 |one (c:aU)
 |agg (cs:List aU)
inductive AV where
 |one (c:aU)
 |agg (cs:List aU)
 |tup (l:List TV)
 |junk
inductive aD where
 |box (cs:List aU)
 |arr (cap size:Nat) (es:List (List DC))
 |dead
structure AS where
 sl:List AV
 hp:List aD
inductive OI where
 |box (b:Nat)
 |arr (b:Option Nat) (cap:Nat)
 |dead
def OI.blk:OI->Option Nat
 |.box b=>some b
 |.arr b _=>b
 |.dead=>none
abbrev Fz:=Nat->Option Obj
def Fz.cell?(F:Fz)(a:Addr):Option Value:=
 match F a.block with
 |some (.cells c _ _)=>if a.spot.isSome then none else c[a.off]?
 |_=>none
def Fz.sub(F F':Fz):Prop:=∀b o,F b=some o->F' b=some o
inductive RD (F:Fz):DC->Value->Prop where
 |raw (v:Value) (h:is1 v=true):RD F (.raw v) v
 |nil (A:Option Addr) (c:Nat):RD F (.slc []) (.slice A 0 c)
 |slc (b off c size:Nat) (es:List (List DC)) (g:Nat->Nat->Value)
  (hsz:∀e∈es,e.length=size)
  (hr:∀(i j:Nat) e d,es[i]?=some e->e[j]?=some d->RD F d (g i j))
  (hc:∀(i j:Nat) e d,es[i]?=some e->e[j]?=some d->F.cell? ⟨b,off+(i*size+j),none⟩=some (g i j))
  (hcap:es.length<=c):RD F (.slc es) (.slice (some ⟨b,off,none⟩) es.length c)
 |ptr (cs:List DC) (b off:Nat) (g:Nat->Value) (hr:∀(j:Nat) d,cs[j]?=some d->RD F d (g j))
  (hc:∀(j:Nat) d,cs[j]?=some d->F.cell? ⟨b,off+j,none⟩=some (g j)):RD F (.ptr cs) (.pointer (some ⟨b,off,none⟩))
inductive RC (F:Fz) (γ:List OI):aU->Value->Prop where
 |dc (d:DC) (v:Value) (h:RD F d v):RC F γ (.dc d) v
 |ptr (id off b:Nat) (h:γ[id]?=some (.box b)):RC F γ (.ptr id off) (.pointer (some ⟨b,off,none⟩))
 |bldN (id cap:Nat) (h:γ[id]?=some (.arr none cap)):RC F γ (.bld id 0) (.slice none 0 0)
 |bld (id n b cap:Nat) (h:γ[id]?=some (.arr (some b) cap)):RC F γ (.bld id n) (.slice (some ⟨b,0,none⟩) n cap)
 |ept (id i size off b cap:Nat) (h:γ[id]?=some (.arr (some b) cap)):RC F γ (.ept id i size off) (.pointer (some ⟨b,i*size+off,none⟩))
 |bls (id lo n size b cap c off:Nat) (h:γ[id]?=some (.arr (some b) cap)\/γ[id]?=some (.box b)) (ho:n≠0->off=lo*size) (hc:n<=c):RC F γ (.bls id lo n size) (.slice (some ⟨b,off,none⟩) n c)
 |ref (cs:List DC) (b off:Nat) (g:Nat->Value) (hr:∀(j:Nat) d,cs[j]?=some d->RD F d (g j))
  (hc:∀(j:Nat) d,cs[j]?=some d->F.cell? ⟨b,off+j,none⟩=some (g j)):RC F γ (.ref cs) (.pointer (some ⟨b,off,none⟩))
 | mpc (es:List (Int × Value)) (r clk:Nat) (ents:Array MapEntry) (h:F r=some (.map ents clk)) (he:ents.toList.map (fun e=>(e.key,e.val))=es.map (fun p=>(Value.int .i64 p.1,p.2)))
     (h1:∀ p∈es,is1 p.2=true):RC F γ (.mpc es) (.map (some r))
 |fn (f:FuncId) (caps:List aU) (g:Nat->Value) (hr:∀(i:Nat) c,caps[i]?=some c->RC F γ c (g i)):
  RC F γ (.fn f caps) (.func (.func f) #[] ((List.range caps.length).map g).toArray)
 |junk (v:Value) (h:is1 v=true):RC F γ .junk v
inductive RT (F:Fz) (γ:List OI):TV->Value->Prop where
 |one (c:aU) (v:Value) (h:RC F γ c v):RT F γ (.one c) v
 |agg (cs:List aU) (vs:Array Value) (hs:vs.size=cs.length) (h:∀(i:Nat) c v,cs[i]?=some c->vs[i]?=some v->RC F γ c v):RT F γ (.agg cs) (.agg vs)
inductive RV (F:Fz) (γ:List OI):AV->Value->Prop where
 |one (c:aU) (v:Value) (h:RC F γ c v):RV F γ (.one c) v
 |agg (cs:List aU) (vs:Array Value) (hs:vs.size=cs.length) (h:∀(i:Nat) c v,cs[i]?=some c->vs[i]?=some v->RC F γ c v):RV F γ (.agg cs) (.agg vs)
 |tup (l:List TV) (vs:Array Value) (hs:vs.size=l.length) (h:∀(i:Nat) t v,l[i]?=some t->vs[i]?=some v->RT F γ t v):RV F γ (.tup l) (.tuple vs)
 |junk (v:Value):RV F γ .junk v
theorem RD.is1{F:Fz}{d:DC}{v:Value}(h:RD F d v):is1 v=true:=by cases h<;>first|rfl|assumption
theorem RC.is1{F:Fz}{γ:List OI}{c:aU}{v:Value}(h:RC F γ c v):is1 v=true:=by
 cases h<;>first|rfl|assumption|exact RD.is1 (by assumption)
theorem Fz.sub.cell{F F':Fz}(h:F.sub F'){a:Addr}{v:Value}(c:F.cell? a=some v):F'.cell? a=some v:=by
 unfold Fz.cell? at *;cases b:F a.block with
 |none=>simp[b] at c
 |some o=>rw[h _ _ b];rw[b] at c;exact c
theorem Fz.cell_world{F:Fz}{w:World}(h:∀b o,F b=some o->w.heap[b]?=some o){a:Addr}{v:Value}(c:F.cell? a=some v):w.cell? a=some v:=by
 unfold Fz.cell? at c;unfold World.cell?;cases d:F a.block with
 |none=>simp[d] at c
 |some o=>rw[h _ _ d];rw[d] at c;exact c
theorem RD.mono{F F':Fz}(q:F.sub F'){d:DC}{v:Value}(h:RD F d v):RD F' d v:=by
 induction h with
 |raw v h=>exact .raw v h
 |nil A c=>exact .nil A c
 |slc b off c size es g n r m f o=>exact .slc b off c size es g n (fun i j e d k l=>o i j e d k l) (fun i j e d k l=>q.cell (m i j e d k l)) f
 |ptr cs b off g r m o=>exact .ptr cs b off g (fun j d h=>o j d h) (fun j d h=>q.cell (m j d h))
mutual
def aU.keep(p:Nat->Bool):aU->Bool
 |.ptr id _=>!p id
 |.bld id _=>!p id
 |.ept id _ _ _=>!p id
 |.bls id _ _ _=>!p id
 |.fn _ b=>keepL p b
 |.dc _=>true
 |.ref _=>true
 |.mpc _=>true
 |.junk=>true
def keepL(p:Nat->Bool):List aU->Bool
 |[]=>true
 |c::cs=>c.keep p&&keepL p cs
end
theorem Lv{p:Nat->Bool}:∀{cs:List aU}{i:Nat}{c:aU},keepL p cs=true->cs[i]?=some c->c.keep p=true
 |[],_,_,_,h=>by simp at h
 |c::cs,0,d,h,b=>by simp[keepL] at h b;rw[<- b];exact h.1
 |c::cs,i+1,d,h,b=>by simp[keepL] at h b;exact Lv h.2 b
theorem RC.mono{F F':Fz}{γ γ':List OI}(q:F.sub F'){p:Nat->Bool}(k:∀(id:Nat)(o:OI),p id=false->γ[id]?=some o->γ'[id]?=some o) {c:aU}{v:Value} (h:RC F γ c v):c.keep p=true->RC F' γ' c v:=by
 induction h with
 |dc d v h=>intro _;exact .dc d v (h.mono q)
 |ptr id off b h=>intro e;exact .ptr id off b (k _ _ (by simpa[aU.keep] using e) h)
 |bldN id cap h=>intro e;exact .bldN id cap (k _ _ (by simpa[aU.keep] using e) h)
 |bld id n b cap h=>intro e;exact .bld id n b cap (k _ _ (by simpa[aU.keep] using e) h)
 |ept id i size off b cap h=>intro e;exact .ept id i size off b cap (k _ _ (by simpa[aU.keep] using e) h)
 |bls id B n size b cap c off h z t=>intro e;exact .bls id B n size b cap c off (h.imp (k _ _ (by simpa[aU.keep] using e)) (k _ _ (by simpa[aU.keep] using e))) z t
 |ref cs b off g u t=>intro _;exact .ref cs b off g (fun j d h=>(u j d h).mono q) (fun j d h=>q.cell (t j d h))
 |mpc es r s m h y x=>intro _;exact .mpc es r s m (q _ _ h) y x
 |fn f l g u A=>intro e;exact .fn f l g (fun i c h=>A i c h (Lv (by simpa[aU.keep] using e) h))
 |junk v h=>intro _;exact .junk v h
def cO(p:Nat->Bool)(c:aU):aU:=if c.keep p then c else .junk
def uJ(p:Nat->Bool):TV->TV
 |.one c=>.one (cO p c)
 |.agg cs=>.agg (cs.map (cO p))
def bG(p:Nat->Bool):AV->AV
 |.one c=>.one (cO p c)
 |.agg cs=>.agg (cs.map (cO p))
 |.tup l=>.tup (l.map (uJ p))
 |.junk=>.junk
def cU(p:Nat->Bool):aD->aD
 |.box cs=>.box (cs.map (cO p))
 |o=>o
section
variable {F F':Fz}{γ γ':List OI}{p:Nat->Bool}
theorem RC.kill(d:F.sub F')(b:∀(id:Nat)(o:OI),p id=false->γ[id]?=some o->γ'[id]?=some o){c:aU}{v:Value}(h:RC F γ c v):RC F' γ' (cO p c) v:=by
 unfold cO;split;exact h.mono d b (by assumption);exact .junk v h.is1
theorem RCs.kill(g:F.sub F')(f:∀(id:Nat)(o:OI),p id=false->γ[id]?=some o->γ'[id]?=some o){cs:List aU}{vs:Array Value} (h:∀(i:Nat) c v,cs[i]?=some c->vs[i]?=some v->RC F γ c v):∀(i:Nat) c v,(cs.map (cO p))[i]?=some c->vs[i]?=some v->RC F' γ' c v:=by
 intro i c v d j;rw[aZj] at d;cases b:cs[i]? with
 |none=>simp[b] at d
 |some e=>simp[b] at d;subst d;exact (h i e v b j).kill g f
theorem RT.kill(e:F.sub F')(d:∀(id:Nat)(o:OI),p id=false->γ[id]?=some o->γ'[id]?=some o){t:TV}{v:Value}(h:RT F γ t v):RT F' γ' (uJ p t) v:=by
 cases h with
 |one c v h=>exact .one _ _ (h.kill e d)
 |agg cs vs b h=>exact .agg _ _ (by simpa using b) (RCs.kill e d h)
theorem RV.kill(g:F.sub F')(f:∀(id:Nat)(o:OI),p id=false->γ[id]?=some o->γ'[id]?=some o){a:AV}{v:Value}(h:RV F γ a v):RV F' γ' (bG p a) v:=by
 cases h with
 |one c v h=>exact .one _ _ (h.kill g f)
 |agg cs vs b h=>exact .agg _ _ (by simpa using b) (RCs.kill g f h)
 |tup l vs b h=>
  refine .tup _ _ (by simpa using b) (fun i t v e j=>?_)
  rw[aZj] at e;cases d:l[i]? with
  |none=>simp[d] at e
  |some k=>simp[d] at e;subst e;exact (h i k v d j).kill g f
 |junk v=>exact .junk v
theorem aU.keep_none(c:aU):c.keep (fun _=>false)=true:=by
 have e:∀ n,∀ c:aU,SizeOf.sizeOf c<=n->c.keep (fun _=>false)=true:=by
   intro n
   induction n with
   | zero=>intro c h;cases c<;>simp at h
   | succ n i=>
     intro c h;cases c with
     | fn f b=>
       simp only[aU.keep];have:∀ cs:List aU,SizeOf.sizeOf cs<=n->keepL (fun _=>false) cs=true:=by
         intro cs
         induction cs with
         | nil=>intro _;rfl
         | cons x j d=>
           intro g;simp at g;simp[keepL,i x (by omega),d (by omega)]
       exact this b (by simp at h;omega)
     | _=>simp[aU.keep]
 exact e _ c (aZe _)
theorem RC.ext(d:F.sub F')(b:∀(id:Nat)(o:OI),γ[id]?=some o->γ'[id]?=some o){c:aU}{v:Value}(h:RC F γ c v):RC F' γ' c v:=
 h.mono (p:=fun _=>false) d (fun id o _ h=>b id o h) (aU.keep_none c)
theorem RT.ext(e:F.sub F')(d:∀(id:Nat)(o:OI),γ[id]?=some o->γ'[id]?=some o){t:TV}{v:Value}(h:RT F γ t v):RT F' γ' t v:=by
 cases h with
 |one c v h=>exact .one _ _ (h.ext e d)
 |agg cs vs b h=>exact .agg _ _ b (fun i c v f g=>(h i c v f g).ext e d)
theorem RV.ext(g:F.sub F')(f:∀(id:Nat)(o:OI),γ[id]?=some o->γ'[id]?=some o){a:AV}{v:Value}(h:RV F γ a v):RV F' γ' a v:=by
 cases h with
 |one c v h=>exact .one _ _ (h.ext g f)
 |agg cs vs b h=>exact .agg _ _ b (fun i c v d e=>(h i c v d e).ext g f)
 |tup l vs b h=>exact .tup _ _ b (fun i t v d e=>(h i t v d e).ext g f)
 |junk v=>exact .junk v
end
def NF(b:Nat×Nat)(n:Nat):Prop:=∀o,o<n->¬ (b.1<=o/\o<b.2)
def Qq(w:World)(b:Nat)(vs:Array Value)(T:TypeId):Prop:=∃c,w.heap[b]?=some (.cells vs T c)/\NF c vs.size
def OK(F:Fz)(γ:List OI)(w:World):aD->OI->Prop
 |.box cs,.box b=>∃(vs:Array Value)(T:TypeId),Qq w b vs T/\cs.length<=vs.size/\∀(i:Nat) c v,cs[i]?=some c->vs[i]?=some v->RC F γ c v
 |.arr cap _ es,.arr none f=>cap=0/\f=0/\es=[]
 | .arr cap size es,.arr (some b) f=>f=cap/\es.length<=cap/\(∀ e∈es,e.length=size)/\
     ∃ (vs:Array Value) (T:TypeId),Qq w b vs T/\vs.size=cap * size/\
       ∀ (i j:Nat) e d v,es[i]?=some e->e[j]?=some d->vs[i * size+j]?=some v->RD F d v
 |.dead,.dead=>True
 |_,_=>False
def cG(γ:List OI)(i:Nat):Option Nat:=(γ[i]?).bind OI.blk
structure eG (F:Fz) (γ:List OI) (hp:List aD) (w:World):Prop where
 fz:∀b o,F b=some o->w.heap[b]?=some o
 len:γ.length=hp.length
 nd:∀i j b,cG γ i=some b->cG γ j=some b->i=j
 disj:∀i b,cG γ i=some b->F b=none
 ok:∀(i:Nat) o x,hp[i]?=some o->γ[i]?=some x->OK F γ w o x
structure iU (k:Nat) (F:Fz) (γ:List OI) (w:World) (F':Fz) (γ':List OI) (w':World):Prop where
 sub:F.sub F'
 os:w'.os=w.os
 tape:w'.tape=w.tape
 output:w'.output=w.output
 size:w.heap.size<=w'.heap.size
 far:∀b,b<w.heap.size->(∀i,cG γ i≠some b)->w'.heap[b]?=w.heap[b]?
 new:∀b o,F' b=some o->F b=some o\/w.heap.size<=b\/∃i,cG γ i=some b
 blk:∀i b,cG γ' i=some b->(∃j,cG γ j=some b)\/w.heap.size<=b
 box:∀i,i<k->∀b,γ[i]?=some (.box b)->γ'[i]?=some (.box b)
theorem iU.refl(k:Nat)(F:Fz)(γ:List OI)(w:World):iU k F γ w F γ w:=
 ⟨fun _ _ h=>h,rfl,rfl,rfl,aZe _,fun _ _ _=>rfl,fun _ _ h=>.inl h,fun i _ h=>.inl ⟨i,h⟩,fun _ _ _ h=>h⟩
theorem iU.trans{k:Nat}{F q r:Fz}{γ l m:List OI}{w t w2:World}(h:iU k F γ w q l t)(g:iU k q l t r m w2):iU k F γ w r m w2:=by
 refine⟨fun b o c=>g.sub b o (h.sub b o c),g.os.trans h.os,g.tape.trans h.tape,g.output.trans h.output,Nat.le_trans h.size g.size,?_,?_,?_,?_⟩
 intro b c s;rw[g.far b (Nat.lt_of_lt_of_le c h.size) ?_,h.far b c s];intro i e;rcases h.blk i b e with⟨j,f⟩|d
 exact s j f;omega;intro b o c;rcases g.new b o c with n|n|⟨i,e⟩
 exact h.new b o n;exact .inr (.inl (Nat.le_trans h.size n));rcases h.blk i b e with f|d
 exact .inr (.inr f);exact .inr (.inl d);intro i b c;rcases g.blk i b c with⟨j,f⟩|d
 exact h.blk j b f;exact .inr (Nat.le_trans h.size d);intro i e b c;exact g.box i e b (h.box i e b c)
theorem iU.le{k b:Nat}{F F':Fz}{γ γ':List OI}{w w':World}(h:iU k F γ w F' γ' w')(d:b<=k):iU b F γ w F' γ' w':=
 ⟨h.sub,h.os,h.tape,h.output,h.size,h.far,h.new,h.blk,fun i c=>h.box i (Nat.lt_of_lt_of_le c d)⟩
def bY(F:Fz)(γ:List OI)(sl:List AV)(a:Act):Prop:=
 a.defers=[]/\a.tmps.size=sl.length/\∀(i:Nat) av v,sl[i]?=some av->a.tmps[i]?=some v->RV F γ av v
end
section
inductive aI where
 |t (n:Nat)|k (v:Value)|g (n:Nat)|f (n:FuncId)
inductive EK where
 |b|i|s
inductive AI where
 |mov (x:aI)|pick (c a b:aI)
 |alloc (zero:List Value)|box (x:aI)
 |load (isAgg:Bool) (size:Nat) (x:aI)|store (size:Nat) (x v:aI)
 |nilc (x:aI)|bin (op:BinOp) (x y:aI)|un (op:UnOp) (x:aI)
 |binb (neg:Bool) (x y:aI)|eqs (neg:Bool) (ks:List EK) (x y:aI)
 |conv (k:IntKind) (x:aI)|cvid (x:aI)|cvbs (x:aI)
 |addo (off:Nat) (x:aI)|fld (isAgg:Bool) (size off:Nat) (x:aI)
 |ixA (n size:Nat) (x i:aI)|ixL (size:Nat) (x i:aI)|ixS (x i:aI)
 |slS (x:aI) (lo hi:Option aI)|slL (size:Nat) (x:aI) (lo hi:Option aI)
 |bslc (size len:Nat) (zero:List Value) (parts:List (Nat×aI))
 |build (zero:List Value) (parts:List (Nat×Nat×aI))
 |ext (x:aI) (n:Nat)|lenS (x:aI)|lenL (x:aI)|lenA (n:Nat)
 |min2 (x y:aI)|max2 (x y:aI)
 |mkfn (f:FuncId) (caps:List aI)
 |call (f:FuncId) (args:List aI)|callv (x:aI) (args:List aI)
 |app (size bytes:Nat) (zero:List Value) (s x:aI)|apps (s x:aI)
 |mk (size bytes:Nat) (zero:List Value) (l c:aI)
 |clr (size:Nat) (zero:List Value) (x:aI)
 |isnil (p neg:Bool) (x:aI)
 |mpx (ok:Bool) (zero:Value) (x k:aI)
 |cpys (d x:aI)|cvsb (x:aI)|slA (n size:Nat) (x:aI) (lo hi:Option aI)
 |ixV (n:Nat) (x i:aI)|s2p (n:Nat) (x:aI)
structure aO where
 dst:Option Nat
 ai:AI
 guard:Option (Nat×Bool)
abbrev aE:=Nat->Option (List DC)
abbrev cN(v:Value):aU:=.dc (.raw v)
abbrev dS(v:Value):AV:=.one (.dc (.raw v))
def aDG:Value->AV
 |.agg cs=>if cs.toList.all is1 then .agg (cs.toList.map cN) else .junk
 |.tuple _=>.junk
 |v=>dS v
def aM(G:aE)(sl:List AV):aI->AV
 |.t n=>sl.getD n .junk
 |.k v=>aDG v
 |.g n=>match G n with|some cs=>.one (.ref cs)|none=>.junk
 |.f n=>.one (.fn n [])
def aSg:AV->Option Value
 |.one (.dc (.raw v))=>some v
 |_=>none
def bH:AV->Option Int
 |.one (.dc (.raw (.int _ n)))=>some n
 |_=>none
def cP:AV->Option Bool
 |.one (.dc (.raw (.bool b)))=>some b
 |_=>none
def dN:AV->Option ByteArray
 |.one (.dc (.raw (.string b)))=>some b
 |_=>none
def cellsOf:AV->Option (List aU)
 |.one c=>some [c]
 |.agg cs=>some cs
 |_=>none
def Qx(b:Bool)(cs:List aU):Option AV:=
 match b,cs with
 |true,cs=>some (.agg cs)
 |false,[c]=>some (.one c)
 |_,_=>none
def eqR:EK->Value->Value->Option Bool
 |.b,.bool a,.bool b=>some (a==b)
 |.i,.int j a,.int k b=>if j=k then some (a==b) else none
 |.s,.string a,.string b=>some (a.toList==b.toList)
 |_,_,_=>none
def Eo:List EK->List aU->List aU->Option Bool
 |[],[],[]=>some true
 |k::ks,.dc (.raw a)::as,.dc (.raw b)::bs=>(eqR k a b).bind fun x=>(Eo ks as bs).bind fun y=>some (x&&y)
 |_,_,_=>none
def lZ(c:BinOp)(k:IntKind)(a b:Int):Option Value:=
 match c with
 |.add=>some (.int k (k.wrap (a+b)))
 |.sub=>some (.int k (k.wrap (a-b)))
 |.mul=>some (.int k (k.wrap (a*b)))
 |.quo=>if b=0 then none else some (.int k (k.wrap (a.tdiv b)))
 |.rem=>if b=0 then none else some (.int k (a.tmod b))
 |.and=>some (.int k (k.wrap (BitVec.ofInt k.bits a &&& BitVec.ofInt k.bits b).toNat))
 |.or=>some (.int k (k.wrap (BitVec.ofInt k.bits a ||| BitVec.ofInt k.bits b).toNat))
 |.xor=>some (.int k (k.wrap (BitVec.ofInt k.bits a ^^^ BitVec.ofInt k.bits b).toNat))
 |.andNot=>some (.int k (k.wrap (BitVec.ofInt k.bits a &&& ~~~BitVec.ofInt k.bits b).toNat))
 |.eql=>some (.bool (a==b))
 |.neq=>some (.bool (a != b))
 |.lss=>some (.bool (a<b))
 |.leq=>some (.bool (a<=b))
 |.gtr=>some (.bool (a > b))
 |.geq=>some (.bool (a≥b))
 |_=>none
def Hv(c:BinOp)(a b:ByteArray):Option Value:=
 match c with
 |.add=>if a.size+b.size<=9223372036854775807 then some (.string (a++b)) else none
 |.eql=>some (.bool (a.toList==b.toList))
 |.neq=>some (.bool !(a.toList==b.toList))
 |.lss=>some (.bool (Op.bytesLess a.toList b.toList))
 |.leq=>some (.bool (Op.bytesLess a.toList b.toList||a.toList==b.toList))
 |.gtr=>some (.bool !(Op.bytesLess a.toList b.toList||a.toList==b.toList))
 |.geq=>some (.bool !(Op.bytesLess a.toList b.toList))
 |_=>none
def fX(c:BinOp)(x y:AV):Option AV:=
 match x,y with
 |.one (.dc (.raw (.int j a))),.one (.dc (.raw (.int k b)))=>
  match c with
  |.shl=>if b<0 then none else some (dS (.int j (j.wrap (a*2 ^ (min b.toNat j.bits)))))
  |.shr=>if b<0 then none else some (dS (.int j (a.fdiv (2 ^ (min b.toNat j.bits)))))
  |c=>if j=k then (lZ c j a b).map dS else none
 |.one (.dc (.raw (.string a))),.one (.dc (.raw (.string b)))=>(Hv c a b).map dS
 |_,_=>none
def Lw(neg:Bool)(x y:AV):Option AV:=
 match x,y with
 |.one (.dc (.raw (.bool a))),.one (.dc (.raw (.bool b)))=>some (dS (.bool (if neg then !(a==b) else a==b)))
 |_,_=>none
def Qy(neg:Bool)(c:List EK)(x y:AV):Option AV:=
 match x,y with
 |.agg as,.agg bs=>(Eo c as bs).map fun b=>dS (.bool (if neg then !b else b))
 |_,_=>none
def unV(c:UnOp)(x:AV):Option AV:=
 match c,x with
 |.neg,.one (.dc (.raw (.int k n)))=>some (dS (.int k (k.wrap (0-n))))
 |.not,.one (.dc (.raw (.bool b)))=>some (dS (.bool !b))
 |.xor,.one (.dc (.raw (.int k n)))=>(lZ .xor k (if k.signed then -1 else k.max) n).map dS
 |_,_=>none
def Fs(off:Nat):AV->Option AV
 |.one (.ptr id o)=>some (.one (.ptr id (o+off)))
 |.one (.ept id i s o)=>some (.one (.ept id i s (o+off)))
 |.one (.ref cs)=>some (.one (.ref (cs.drop off)))
 |_=>none
def aL(hp:List aD)(id:Nat):aD:=hp.getD id .dead
def mR(hp:List aD)(b:Bool)(size:Nat):AV->Option AV
 |.one (.ptr id o)=>
  match aL hp id with
  |.box cs=>if o+size<=cs.length then Qx b ((cs.drop o).take size) else none
  |_=>none
 |.one (.ept id i s o)=>
  match aL hp id with
  |.arr _ c es=>
   match es[i]? with
   |some e=>if s=c/\o+size<=e.length then Qx b (((e.drop o).take size).map .dc) else none
   |none=>none
  |_=>none
 |.one (.ref cs)=>if size<=cs.length then Qx b ((cs.take size).map .dc) else none
 |_=>none
def aIX(b:Bool)(size off:Nat):AV->Option AV
 |.agg cs=>if off+size<=cs.length then Qx b ((cs.drop off).take size) else none
 |_=>none
def aDH(n size:Nat)(x:AV)(i:Int):Option AV:=
 if 0<=i/\i<n then Fs (i.toNat*size) x else none
def Cp(hp:List aD)(size:Nat)(x:AV)(i:Int):Option AV:=
 match x with
 |.one (.dc (.slc es))=>
  if 0<=i then
   match es[i.toNat]? with
   |some e=>if e.length=size then some (.one (.ref e)) else none
   |none=>none
  else none
 |.one (.bld id n)=>
  match aL hp id with
  |.arr _ s es=>if 0<=i/\i<n/\n<=es.length/\s=size then some (.one (.ept id i.toNat size 0)) else none
  |_=>none
 |.one (.bls id k n z)=>
  match aL hp id with
  |.arr _ s es=>if 0<=i/\i<n/\k+n<=es.length/\s=size/\z=size then some (.one (.ept id (k+i.toNat) size 0)) else none
  |.box _=>if 0<=i/\i<n/\z=size then some (.one (.ptr id ((k+i.toNat)*size))) else none
  |_=>none
 |_=>none
def Hw(x:AV)(i:Int):Option AV:=
 match dN x with
 |some s=>if 0<=i then match s.data.toList[i.toNat]? with|some b=>some (dS (.int .u8 b.toNat))|none=>none else none
 |none=>none
def eI(x:Option AV)(c b:Nat):Option Nat:=
 match x with
 |none=>some b
 |some v=>match bH v with|some i=>if 0<=i/\i<=c then some i.toNat else none|none=>none
def Lc(x:AV)(c b:Option AV):Option AV:=
 (dN x).bind fun s=>(eI b s.size s.size).bind fun h=>(eI c h 0).bind fun l=>some (dS (.string (s.extract l h)))
def lV(hp:List aD)(size:Nat)(x:AV)(b c:Option AV):Option AV:=
 match x with
 |.one (.dc (.slc es))=>
  (eI c es.length es.length).bind fun h=>(eI b h 0).bind fun l=>if es.all (fun e=>e.length=size) then some (.one (.dc (.slc ((es.take h).drop l)))) else none
 |.one (.dc (.raw (.slice none 0 0)))=>
  (eI c 0 0).bind fun h=>(eI b h 0).bind fun _=>some x
 |.one (.bld id n)=>
  match aL hp id,b with
  |.arr _ _ es,none=>if n<=es.length then (eI c n n).bind fun h=>some (.one (.bld id h)) else none
  |.arr _ s es,some b=>if n<=es.length/\s=size then (eI c n n).bind fun h=>(eI (some b) h 0).bind fun l=>some (.one (if l=0 then .bld id h else .bls id l (h-l) size)) else none
  |_,_=>none
 |.one (.bls id k n s)=>
  match aL hp id with
  |.arr _ d es=>if k+n<=es.length/\d=size/\s=size then (eI c n n).bind fun h=>(eI b h 0).bind fun l=>some (.one (.bls id (k+l) (h-l) size)) else none
  |.box _=>if s=size then (eI c n n).bind fun h=>(eI b h 0).bind fun l=>some (.one (.bls id (k+l) (h-l) size)) else none
  |_=>none
 |_=>none
def aIY(n size:Nat)(x:AV)(c b:Option AV):Option AV:=
 match x with
 |.one (.ptr id off)=>if off % size=0 then (eI b n n).bind fun h=>(eI c h 0).bind fun l=>some (.one (.bls id (off / size+l) (h-l) size)) else none
 |_=>none
def tV:AV->Option AV
 |.one (.dc (.slc es))=>some (dS (.int .i64 es.length))
 |.one (.dc (.raw (.slice _ n _)))=>some (dS (.int .i64 n))
 |.one (.bld _ n)=>some (dS (.int .i64 n))
 |.one (.bls _ _ n _)=>some (dS (.int .i64 n))
 |_=>none
def dB(cs:List aU)(off:Nat)(vs:List aU):List aU:=cs.take off++vs++cs.drop (off+vs.length)
def iV(b:List aU):List (Nat×Nat×AV)->Option (List aU)
 |[]=>some b
 |(off,size,v)::c=>(cellsOf v).bind fun vs=>if vs.length=size/\off+size<=b.length then iV (dB b off vs) c else none
def Vk(x:AV)(n:Nat):Option AV:=
 match x with
 |.tup l=>match l[n]? with|some (.one c)=>some (.one c)|some (.agg cs)=>some (.agg cs)|none=>none
 |_=>none
def aDI(x y:AV):Option AV:=
 match x,y with
 |.one (.dc (.raw (.int k a))),.one (.dc (.raw (.int _ b)))=>some (dS (.int k (if b<a then b else a)))
 |_,_=>none
def aDJ(x y:AV):Option AV:=
 match x,y with
 |.one (.dc (.raw (.int k a))),.one (.dc (.raw (.int _ b)))=>some (dS (.int k (if b > a then b else a)))
 |_,_=>none
def Lx:AV->Option AV
 |.one (.ptr id o)=>some (.one (.ptr id o))
 |.one (.ept id i s o)=>some (.one (.ept id i s o))
 |.one (.ref cs)=>some (.one (.ref cs))
 |.one (.dc (.ptr cs))=>some (.one (.ref cs))
 |_=>none
def aIZ:AV->Option Bool
 |.one (.dc (.raw (.slice none 0 0)))=>some true
 |.one (.dc (.slc (_::_)))=>some false
 |.one (.bld _ (_+1))=>some false
 |.one (.bls _ _ _ _)=>some false
 |_=>none
def aI0:AV->Option Bool
 |.one (.dc (.raw (.pointer none)))=>some true
 |.one (.ptr _ _)=>some false
 |.one (.ept _ _ _ _)=>some false
 |.one (.ref _)=>some false
 |.one (.dc (.ptr _))=>some false
 |_=>none
def aBb(p neg:Bool)(v:AV):Option AV:=(bif p then aI0 v else aIZ v).map fun b=>dS (.bool (b != neg))
def Bo:List (Int×Value)->Int->Option Value
 |[],_=>none
 |(a,v)::es,k=>if a=k then some v else Bo es k
def mpR:Bool->Value->Option Value->AV
 |true,_,some v=>.tup [.one (cN v),.one (cN (.bool true))]
 |true,z,none=>.tup [.one (cN z),.one (cN (.bool false))]
 |false,_,some v=>dS v
 |false,z,none=>dS z
def Qz(b:Bool)(z:Value):AV->AV->Option AV
 |.one (.mpc es),.one (.dc (.raw (.int .i64 k)))=>some (mpR b z (Bo es k))
 |_,_=>none
def Cq(c a b:AV):Option AV:=
 match cP c with
 |some c=>some (if c then a else b)
 |none=>none
def dcs:List aU->Option (List DC)
 |[]=>some []
 |.dc d::cs=>(dcs cs).map (d::·)
 |_=>none
def gF(es:List (List DC)):Option (List UInt8):=
 match es with
 |[]=>some []
 |[.raw (.int .u8 n)]::b=>(gF b).map (UInt8.ofNat n.toNat::·)
 |_=>none
def jN:List aU->Option (List UInt8)
 |[]=>some []
 |.dc (.raw (.int .u8 n))::rest=>(jN rest).map (UInt8.ofNat n.toNat::·)
 |_=>none
def oQ(hp:List aD):AV->Option AV
 |.one (.dc (.slc es))=>(gF es).map fun l=>dS (.string ⟨l.toArray⟩)
 |.one (.dc (.raw (.slice none _ _)))=>some (dS (.string ⟨#[]⟩))
 |.one (.bld id n)=>
  match aL hp id with
  |.arr _ _ es=>if n<=es.length then (gF (es.take n)).map fun l=>dS (.string ⟨l.toArray⟩) else none
  |_=>none
 |.one (.bls id k n z)=>
  match aL hp id with
  |.box cs=>if z=1/\k+n<=cs.length then (jN ((cs.drop k).take n)).map fun l=>dS (.string ⟨l.toArray⟩) else none
  |_=>none
 |_=>none
def jM:AV->Option aU
 |.one c=>some c
 |_=>none
def Vl(n:Nat):AV->Int->Option AV
 |.agg cs,i=>if 0<=i/\i<n/\cs.length=n then cs[i.toNat]?.map AV.one else none
 |_,_=>none
def aBc(n:Nat):AV->Option AV
 |.one (.dc (.slc es))=>if n<=es.length/\0<n then some (.one (.ref (es.take n).flatten)) else none
 |_=>none
def dJ(G:aE)(as:AS):AI->Option AV
 |.mov x=>some (aM G as.sl x)
 |.pick c a b=>Cq (aM G as.sl c) (aM G as.sl a) (aM G as.sl b)
 |.load g s x=>mR as.hp g s (aM G as.sl x)
 |.nilc x=>Lx (aM G as.sl x)
 |.isnil p n x=>aBb p n (aM G as.sl x)
 |.mpx m z x k=>Qz m z (aM G as.sl x) (aM G as.sl k)
 |.bin j x y=>fX j (aM G as.sl x) (aM G as.sl y)
 |.binb n x y=>Lw n (aM G as.sl x) (aM G as.sl y)
 |.eqs n l x y=>Qy n l (aM G as.sl x) (aM G as.sl y)
 |.un j x=>unV j (aM G as.sl x)
 |.conv k x=>(bH (aM G as.sl x)).map fun n=>dS (.int k (k.wrap n))
 |.cvid x=>(dN (aM G as.sl x)).map fun s=>dS (.string s)
 |.cvbs x=>oQ as.hp (aM G as.sl x)
 |.addo o x=>Fs o (aM G as.sl x)
 |.fld g s o x=>aIX g s o (aM G as.sl x)
 |.ixA n s x i=>(bH (aM G as.sl i)).bind fun i=>aDH n s (aM G as.sl x) i
 |.ixL s x i=>(bH (aM G as.sl i)).bind fun i=>Cp as.hp s (aM G as.sl x) i
 |.ixS x i=>(bH (aM G as.sl i)).bind fun i=>Hw (aM G as.sl x) i
 |.ixV n x i=>(bH (aM G as.sl i)).bind fun i=>Vl n (aM G as.sl x) i
 |.s2p n x=>aBc n (aM G as.sl x)
 |.slS x h e=>Lc (aM G as.sl x) (h.map (aM G as.sl)) (e.map (aM G as.sl))
 |.slL s x h e=>lV as.hp s (aM G as.sl x) (h.map (aM G as.sl)) (e.map (aM G as.sl))
 |.slA n s x h e=>aIY n s (aM G as.sl x) (h.map (aM G as.sl)) (e.map (aM G as.sl))
 |.build z q=>(iV (z.map cN) (q.map fun (o,s,x)=>(o,s,aM G as.sl x))).map .agg
 |.ext x n=>Vk (aM G as.sl x) n
 |.lenS x=>(dN (aM G as.sl x)).map fun s=>dS (.int .i64 s.size)
 |.lenL x=>tV (aM G as.sl x)
 |.lenA n=>some (dS (.int .i64 n))
 |.min2 x y=>aDI (aM G as.sl x) (aM G as.sl y)
 |.max2 x y=>aDJ (aM G as.sl x) (aM G as.sl y)
 |.mkfn f d=>(d.mapM fun c=>jM (aM G as.sl c)).map fun cs=>.one (.fn f cs)
 |_=>none
def aS(sl:List AV)(b:Option Nat)(v:AV):List AV:=
 match b with
 |some d=>sl.set d v
 |none=>sl
end
section
def aW:Operand->aI
 |.tmp t=>.t t
 |.const v=>.k v
 |.global g=>.g g
 |.func f=>.f f
def dL(P:Program)(t:TypeId):Option Nat:=(P.info? t).map (·.size)
def aBd:TypeDesc->Bool
 |.struct _=>true
 |.array _ _=>true
 |_=>false
def Ep(P:Program)(t:TypeId):Option Bool:=(P.underlying t).map aBd
def ekD:TypeDesc->Option EK
 |.bool=>some .b
 |.int _=>some .i
 |.string=>some .s
 |_=>none
def rA(P:Program):List Field->Nat->Option (List EK)
 |[],_=>some []
 | f::b,off=>if f.offset=off/\f.name≠"_" then ((P.underlying f.type).bind ekD).bind fun k=>(rA P b (off+1)).map (k::·) else none
def Q1:TypeDesc->Operand->Option Bool
 |.slice _,.const (.slice none 0 0)=>some false
 |.pointer _,.const (.pointer none)=>some true
 |_,_=>none
def mV(b:BinOp)(d:TypeDesc)(x y:Operand):Option AI:=
 match b with
 |.eql=>(Q1 d y).map fun p=>.isnil p false (aW x)
 |.neq=>(Q1 d y).map fun p=>.isnil p true (aW x)
 |_=>none
def pN(P:Program)(b:BinOp)(t:TypeId)(x y:Operand):Option AI:=
 match P.underlying t with
 |some .bool=>match b with|.eql=>some (.binb false (aW x) (aW y))|.neq=>some (.binb true (aW x) (aW y))|_=>none
 |some (.int _)=>some (.bin b (aW x) (aW y))
 |some .string=>some (.bin b (aW x) (aW y))
 |some (.struct f)=>
  if P.stoodInHeld t=false/\P.eqGuardType P.depth t=false then
   match b with
   |.eql=>(rA P f.toList 0).map fun c=>.eqs false c (aW x) (aW y)
   |.neq=>(rA P f.toList 0).map fun c=>.eqs true c (aW x) (aW y)
   |_=>none
  else none
 |some (.array n e)=>
  if P.eqGuardType P.depth t=false/\((P.underlying e).bind ekD).isSome=true/\dL P e=some 1 then
   match b,(P.underlying e).bind ekD with
   |.eql,some k=>some (.eqs false (List.replicate n k) (aW x) (aW y))
   |.neq,some k=>some (.eqs true (List.replicate n k) (aW x) (aW y))
   |_,_=>none
  else none
 |some d=>mV b d x y
 |none=>none
def nL(P:Program)(s d:TypeId)(x:Operand):Option AI:=
 match P.underlying s,P.underlying d with
 |some (.int _),some (.int k)=>some (.conv k (aW x))
 |some .string,some .string=>some (.cvid (aW x))
 |some (.slice e),some .string=>if P.underlying e matches some (.int .u8) then some (.cvbs (aW x)) else none
 |some .string,some (.slice e)=>if P.underlying e matches some (.int .u8) then some (.cvsb (aW x)) else none
 |_,_=>none
def uK(P:Program)(s:TypeId)(f:Nat):Option Field:=
 match P.underlying s with
 |some (.struct b)=>b[f]?
 |_=>none
def Gy(P:Program)(t:TypeId):Option (List (Nat×Nat) ⊕ Nat):=
 match P.underlying t with
 |some (.struct b)=>(b.toList.mapM (fun f=>(P.info? f.type).map fun i=>(f.offset,i.size))).map .inl
 |some (.array _ e)=>(P.info? e).map fun i=>.inr i.size
 |_=>none
def qQ(p:List (Nat×Nat) ⊕ Nat)(i:Nat):Option (Nat×Nat):=
 match p with
 |.inl l=>l[i]?
 |.inr s=>some (i*s,s)
def pB(p:List (Nat×Nat) ⊕ Nat):Nat×Operand->Option (Nat×Nat×aI)
 |(i,x)=>(qQ p i).map fun (o,s)=>(o,s,aW x)
def fY(P:Program)(c:Call):Option AI:=
 match c.callee with
 |.builtin .len=>
  match c.argTypes[0]?,c.args[0]? with
  |some t,some x=>
   match P.underlying t with
   |some .string=>some (.lenS (aW x))
   |some (.slice _)=>some (.lenL (aW x))
   |some (.array n _)=>some (.lenA n)
   |some (.pointer e)=>match P.underlying e with|some (.array n _)=>some (.lenA n)|_=>none
   |_=>none
  |_,_=>none
 |.builtin .min=>match c.args.toList with|[x,y]=>some (.min2 (aW x) (aW y))|_=>none
 |.builtin .max=>match c.args.toList with|[x,y]=>some (.max2 (aW x) (aW y))|_=>none
 |.builtin .append=>
  match c.argTypes.toList,c.args.toList with
  |[t,u],[s,x]=>
   match P.underlying t,P.underlying u with
   |some (.slice e),some (.slice e')=>
    if e=e' then (P.info? e).bind fun i=>i.zero.bind fun z=>if z.cells.size=i.size/\0<i.bytes then some (.app i.size i.bytes z.cells.toList (aW s) (aW x)) else none else none
   |some (.slice e),some .string=>if P.underlying e matches some (.int .u8) then (P.info? e).bind fun i=>i.zero.bind fun z=>if i.size=1/\i.bytes=1/\z.cells.size=1 then some (.apps (aW s) (aW x)) else none else none
   |_,_=>none
  |_,_=>none
 |.builtin .clear=>
  match c.argTypes.toList,c.args.toList with
  |[t],[x]=>
   match P.underlying t with
   |some (.slice e)=>(P.info? e).bind fun i=>i.zero.bind fun z=>if z.cells.size=i.size/\0<i.size/\z.cells.toList.all is1 then some (.clr i.size z.cells.toList (aW x)) else none
   |_=>none
  |_,_=>none
 |.builtin .copy=>
  match c.argTypes.toList,c.args.toList with
  |[t,u],[d,x]=>
   match P.underlying t,P.underlying u with
   |some (.slice e),some .string=>if (P.info? e).map (·.size)=some 1 then some (.cpys (aW d) (aW x)) else none
   |_,_=>none
  |_,_=>none
 |.value (.func f)=>
  match P.funcs[f]? with
  | some b=>if b.name=="runtime.NumGoroutine"||b.body.isNone then none else some (.call f (c.args.toList.map aW))
  |none=>none
 |.value (.tmp t)=>some (.callv (.t t) (c.args.toList.map aW))
 |_=>none
def bE(P:Program)(o:Oper):Option AI:=
 match o.op with
 |.move x=>some (.mov (aW x))
 |.assign x=>some (.mov (aW x))
 |.pick c a b=>some (.pick (aW c) (aW a) (aW b))
 |.alloc e=>(P.info? e).bind fun i=>i.zero.bind fun z=>if z.cells.toList.all is1 then some (.alloc z.cells.toList) else none
 |.box _ x=>some (.box (aW x))
 |.load t x=>(Ep P t).bind fun g=>(dL P t).map fun s=>.load g (if g then s else 1) (aW x)
 |.store t x v=>(dL P t).map fun s=>.store s (aW x) (aW v)
 |.nilCheck x=>some (.nilc (aW x))
 |.binOp r t x y _=>pN P r t x y
 |.unOp r _ x=>some (.un r (aW x))
 |.convert s d x=>nL P s d x
 |.fieldAddr s x f=>(uK P s f).bind fun h=>(dL P h.type).bind fun n=>if n=0 then none else some (.addo h.offset (aW x))
 |.field s x f=>(uK P s f).bind fun h=>(Ep P h.type).bind fun g=>(dL P h.type).map fun n=>.fld g (if g then n else 1) h.offset (aW x)
 |.indexAddr t x i=>
  match P.underlying t with
  |some (.array n e)=>(dL P e).map fun s=>.ixA n s (aW x) (aW i)
  |some (.slice e)=>(dL P e).map fun s=>.ixL s (aW x) (aW i)
  |_=>none
 |.index t x i=>
  match P.underlying t with
  |some .string=>some (.ixS (aW x) (aW i))
  |some (.array n e)=>if Ep P e=some false/\dL P e=some 1 then some (.ixV n (aW x) (aW i)) else none
  |_=>none
 |.sliceToArrayPointer t x=>
  match P.underlying t with
  |some (.array n e)=>if dL P e=some 1 then some (.s2p n (aW x)) else none
  |_=>none
 |.slice t x q m none=>
  match P.underlying t with
  |some .string=>some (.slS (aW x) (q.map aW) (m.map aW))
  |some (.slice e)=>(dL P e).map fun s=>.slL s (aW x) (q.map aW) (m.map aW)
  |some (.array n e)=>(dL P e).bind fun s=>if s=0 then none else some (.slA n s (aW x) (q.map aW) (m.map aW))
  |_=>none
 |.lookup t x ix C=>
  match P.underlying t with
  |some (.map B A)=>if P.underlying B matches some (.int .i64) then ((P.info? A).bind fun i=>i.zero).bind fun z=>if is1 z then some (.mpx C z (aW x) (aW ix)) else none else none
  |_=>none
 |.build t u=>(Gy P t).bind fun p=>(P.info? t).bind fun i=>i.zero.bind fun z=>if z.cells.toList.all is1 then (u.toList.mapM (pB p)).map fun l=>.build z.cells.toList l else none
 |.buildSlice t len u=>
  match P.underlying t with
  |some (.slice e)=>(P.info? e).bind fun i=>i.zero.bind fun z=>if len*i.size<=16777216/\z.cells.size=i.size/\0<i.size/\z.cells.toList.all is1 then some (.bslc i.size len z.cells.toList (u.toList.map fun (j,x)=>(j,aW x))) else none
  |_=>none
 |.extract x n=>some (.ext (aW x) n)
 |.makeSlice t l c=>
  match P.underlying t with
  |some (.slice e)=>(P.info? e).bind fun i=>i.zero.bind fun z=>if z.cells.size=i.size/\0<i.bytes/\0<i.size/\z.cells.toList.all is1 then some (.mk i.size i.bytes z.cells.toList (aW l) (aW c)) else none
  |_=>none
 |.makeFunc (.func f) first k=>if first.isEmpty then some (.mkfn f (k.toList.map aW)) else none
 |.call c=>fY P c
 |_=>none
theorem aI1(F:Fz)(γ:List OI)(v:Value):RV F γ (aDG v) v:=by
 cases v with
 |agg cs=>
  simp only[aDG];split;rename_i h;refine .agg _ _ (by simp) (fun i c v b d=>?_)
  simp only[aZj,bAe,d,aZf,Option.some.injEq] at b;subst b;refine .dc _ _ (.raw _ (bAr.1 h v (by simpa using Array.mem_of_getElem? d)));exact .junk _
 |tuple vs=>exact .junk _
 |_=>exact .one _ _ (.dc _ _ (.raw _ rfl))
structure fZ (F:Fz) (G:aE):Prop where
 rc:∀g cs,G g=some cs->∀γ,RC F γ (.ref cs) (.pointer (some ⟨g,0,none⟩))
 sz:∀g cs,G g=some cs->∃o,F g=some o/\∃vs t z,o=.cells vs t z/\vs.size=cs.length
theorem fZ.sub{F F':Fz}{G:aE}(h:fZ F G)(c:F.sub F'):fZ F' G:=
 ⟨fun g cs b γ=>(h.rc g cs b γ).ext c (fun _ _ h=>h),fun g cs b=>let ⟨o,d,e⟩:=h.sz g cs b;⟨o,c g o d,e⟩⟩
section
variable {F:Fz}{γ:List OI}{G:aE}{sl:List AV}{a:Act}
theorem dC(n:bY F γ sl a)(l:fZ F G)(x:Operand):RV F γ (aM G sl (aW x)) (a.eval x):=by
 cases x with
 |tmp t=>
  simp only[aW,aM,Act.eval];obtain⟨_,j,m⟩:=n;rw[bAG,aZo];cases d:sl[t]? with
  |none=>exact .junk _
  |some av=>
   have e:t<sl.length:=by
    rcases bAp t sl.length with h|h;exact h;rw[bAi h] at d;cases d
   have b:t<a.tmps.size:=j ▸ e;have k:a.tmps[t]?=some (a.tmps[t]'b):=aZR b;rw[k];exact m t av _ d k
 |const v=>exact aI1 F γ v
 |global g=>
  simp only[aW,aM,Act.eval];cases d:G g with
  |none=>exact .junk _
  |some cs=>exact .one _ _ (l.rc g cs d γ)
 |func f=>exact .one _ _ (.fn f [] (fun _=>default) (fun i c h=>by simp at h))
theorem cX{v x:Value}(h:RV F γ (.one (.dc (.raw v))) x):x=v:=by
 cases h with
 |one c v h=>cases h with|dc d v h=>cases h;rfl
theorem rB{av:AV}{x:Value}{n:Int}(h:RV F γ av x)(b:bH av=some n):∃k,x=.int k n:=by
 unfold bH at b;split at b;injection b with b;subst b;exact⟨_,cX h⟩
 cases b
theorem Nt{av:AV}{x:Value}{b:Bool}(h:RV F γ av x)(c:cP av=some b):x=.bool b:=by
 unfold cP at c;split at c;injection c with c;subst c;exact cX h
 cases c
theorem uL{av:AV}{x:Value}{b:ByteArray}(h:RV F γ av x)(c:dN av=some b):x=.string b:=by
 unfold dN at c;split at c;injection c with c;subst c;exact cX h
 cases c
theorem bU{v:Value}(h:is1 v=true):RV F γ (dS v) v:=.one _ _ (.dc _ _ (.raw _ h))
theorem Yg{g:Bool}{cs:List aU}{av:AV}(hp:Qx g cs=some av){vs:List Value}(b:vs.length=cs.length) (h:∀(i:Nat) c v,cs[i]?=some c->vs[i]?=some v->RC F γ c v):(g=true->RV F γ av (.agg vs.toArray))/\(g=false->∃v,vs=[v]/\RV F γ av v):=by
 unfold Qx at hp;split at hp;injection hp with hp;subst hp
 exact⟨fun _=>.agg _ _ (by simpa using b) (fun i c v d e=>h i c v d (by simpa using e)),(fun h=>by cases h)⟩
 injection hp with hp;subst hp
 refine⟨(fun h=>by cases h),fun _=>?_⟩
 match vs,b with
 |[v],_=>exact⟨v,rfl,.one _ _ (h 0 _ _ rfl rfl)⟩
 cases hp
end
end
section
section
variable {P:Program}{F:Fz}{γ:List OI}{w:World}{hp:List aD}
theorem fK{id:Nat}{o:aD}(h:aL hp id=o)(c:o≠.dead):hp[id]?=some o:=by
 unfold aL at h;rw[aZo] at h;cases b:hp[id]? with
 |none=>simp[b] at h;exact absurd h.symm c
 |some x=>simp[b] at h;rw[h]
theorem eG.box{id b:Nat}{cs:List aU}(e:eG F γ hp w)(h:aL hp id=.box cs)(d:γ[id]?=some (.box b)):∃(vs:Array Value)(T:TypeId),Qq w b vs T/\cs.length<=vs.size/\∀(i:Nat) c v,cs[i]?=some c->vs[i]?=some v->RC F γ c v:=
 e.ok id _ _ (fK h (by simp)) d
theorem eG.arr{id b cap c size:Nat}{es:List (List DC)}(g:eG F γ hp w)(h:aL hp id=.arr cap size es)(f:γ[id]?=some (.arr (some b) c)):c=cap/\es.length<=cap/\(∀e∈es,e.length=size)/\∃(vs:Array Value)(T:TypeId),Qq w b vs T/\vs.size=cap*size/\ ∀(i j:Nat) e d v,es[i]?=some e->e[j]?=some d->vs[i*size+j]?=some v->RD F d v:=
 g.ok id _ _ (fK h (by simp)) f
theorem eG.noArr{id b cap size:Nat}{es:List (List DC)}(d:eG F γ hp w)(h:aL hp id=.arr cap size es):γ[id]?≠some (.box b):=fun c=>d.ok id _ _ (fK h (by simp)) c
theorem eG.noBox{id cap:Nat}{A:Option Nat}{cs:List aU}(c:eG F γ hp w)(h:aL hp id=.box cs):γ[id]?≠some (.arr A cap):=fun b=>by
 cases A<;>exact c.ok id _ _ (fK h (by simp)) b
theorem eG.arrN{id cap b size:Nat}{es:List (List DC)}(d:eG F γ hp w)(h:aL hp id=.arr cap size es)(c:γ[id]?=some (.arr none b)):cap=0/\b=0/\es=[]:=
 d.ok id _ _ (fK h (by simp)) c
theorem Qq.of{w w':World}{b:Nat}{vs:Array Value}{T:TypeId}(h:Qq w b vs T)(e:w'.heap[b]?=w.heap[b]?):Qq w' b vs T:=by
 obtain⟨c,h,d⟩:=h;exact⟨c,e.trans h,d⟩
theorem Vm{b:Nat}{vs:Array Value}{T:TypeId}{c:Nat×Nat}(h:w.heap[b]?=some (.cells vs T c))(j:Nat):w.cell? ⟨b,j,none⟩=vs[j]?:=by
 simp[World.cell?,h]
theorem mW{b:Nat}{vs:Array Value}{T:TypeId}(h:Qq w b vs T)(j:Nat):w.cell? ⟨b,j,none⟩=vs[j]?:=by
 obtain⟨c,h,_⟩:=h;exact Vm h j
structure Mem (F:Fz) (γ:List OI) (w:World) (x:Value) (cs:List aU) where
 b:Nat
 off:Nat
 vs:List Value
 hx:x=.pointer (some ⟨b,off,none⟩)
 hl:vs.length=cs.length
 hc:∀(j:Nat) v,vs[j]?=some v->w.cell? ⟨b,off+j,none⟩=some v
 hr:∀(j:Nat) c v,cs[j]?=some c->vs[j]?=some v->RC F γ c v
theorem dY(b o j:Nat):(⟨b,o,none⟩:Addr).add j=⟨b,o+j,none⟩:=by
 unfold Addr.add;split<;>simp_all
theorem iQ{i j size cap n:Nat}(c:i<n)(e:n<=cap)(d:j<size):i*size+j<cap*size:=by
 have b:(i+1)*size<=cap*size:=bAj size (by omega);rw[aZV] at b;omega
theorem Ly{g:Bool}{s:Nat}{av v:AV}{x:Value}(h:mR hp g s av=some v)(H:eG F γ hp w)(K:RV F γ av x):∃cs,Qx g cs=some v/\cs.length=s/\Nonempty (Mem F γ w x cs):=by
 unfold mR at h;split at h;rename_i id o;split at h;rename_i cs B;split at h
 ·rename_i n;cases K with|one c v y=>cases y with|ptr _ _ b t=>
  obtain⟨vs,T,E,J,z⟩:=H.box B t;refine⟨_,h,by simp;omega,⟨⟨b,o,(vs.toList.drop o).take s,rfl,by simp;omega,fun j v f=>?_,fun j c v f m=>?_⟩⟩⟩
  rw[mW E];simp only[aZL,aZK] at f;split at f;simpa using f;cases f;simp only[aZL,aZK] at f m;split at f;rename_i u;rw[if_pos u] at m;exact z _ _ _ f (by simpa using m);cases f
 cases h;cases h;rename_i id i s0 o;split at h;rename_i cap S es B;split at h;rename_i e A;split at h
 ·rename_i n;obtain⟨rfl,n⟩:=n;cases K with|one c v y=>cases y with|ept _ _ _ _ b L t=>
  obtain⟨_,O,D,vs,T,E,J,z⟩:=H.arr B t;have Q:e.length=s0:=D e (aZE A);have R:i<es.length:=by
   rcases bAp i es.length with q|q;exact q;rw[bAi q] at A;cases A
  refine⟨_,h,by simp;omega,⟨⟨b,i*s0+o,(vs.toList.drop (i*s0+o)).take s,rfl,?_,fun j v f=>?_,fun j c v f m=>?_⟩⟩⟩
  simp;have N:(i+1)*s0<=cap*s0:=bAj s0 (by omega);rw[aZV] at N;omega;rw[mW E];simp only[aZL,aZK] at f;split at f;simpa using f;cases f;simp only[aZj,aZL,aZK] at f m;split at f;rename_i u;rw[if_pos u] at m;cases r:e[o+j]? with
  |none=>simp[r] at f
  |some d=>
   simp[r] at f;subst f;exact .dc _ _ (z i (o+j) e d v A r (by simpa[Nat.add_assoc] using m))
  cases f
 cases h;cases h;cases h;rename_i cs;split at h
 ·rename_i n;cases K with|one c v y=>cases y with|ref _ b off M z C=>
  refine⟨_,h,by simp;omega,⟨⟨b,off,(List.range s).map M,rfl,by simp;omega,fun j v f=>?_,fun j c v f m=>?_⟩⟩⟩
  simp only[aZj] at f;cases l:(List.range s)[j]? with
  |none=>simp[l] at f
  |some k=>
   simp[l] at f;have I:j<s:=by
    rcases bAp j s with q|q;exact q;rw[bAi (by simpa using q)] at l;cases l
   have:k=j:=by simpa[bAx I] using l.symm
   subst this;rw[<- f];exact Fz.cell_world H.fz (C k _ (aZi (by omega)))
  simp only[aZj,aZL] at f m;split at f;rename_i I;simp[bAx I] at m;cases r:cs[j]? with
  |none=>simp[r] at f
  |some d=>
   simp[r] at f;subst f;subst m;exact .dc _ _ (z j d r)
  simp at f
 cases h;cases h
theorem Yh{g:Bool}{s r:Nat}{av v:AV}{x:Value}{t:TypeId}(h:mR hp g s av=some v)(A:eG F γ hp w)(H:RV F γ av x)
  (f:Ep P t=some g) (e:dL P t=some r) (D:s=if g then r else 1):
  ∃y,(Instr.loadAt t x).run P w=.ok y w/\RV F γ v y:=by
 obtain⟨cs,hp',C,⟨b,off,vs,rfl,m,k,o⟩⟩:=Ly h A H;obtain⟨u,z⟩:=Yg hp' m o;unfold Ep at f;cases n:P.underlying t with
 |none=>simp[n] at f
 |some d=>
  simp only[n,aZf,Option.some.injEq] at f;unfold dL at e;cases c:P.info? t with
  |none=>simp[c] at e
  |some q=>
   simp only[c,aZf,Option.some.injEq] at e;cases g with
   |true=>
    refine⟨_,?_,u rfl⟩;have i:=run_loadCells_list (P:=P) w ⟨b,off,none⟩ vs (fun j v B=>by rw[dY];exact k j v B)
    have l:vs.length=q.size:=by rw[m,C,D,e];simp
    rw[l] at i;unfold aBd at f;split at f;simp[Instr.loadAt,Instr.sureAddr,loadVar,isAgg,sizeOf,typeInfo,run_underlying n,c,i];simp[Instr.loadAt,Instr.sureAddr,loadVar,isAgg,sizeOf,typeInfo,run_underlying n,c,i];cases f
   |false=>
    obtain⟨y,I,E⟩:=z rfl;refine⟨y,?_,E⟩;have i:=k 0 y (by rw[I];rfl);simp only[aZY] at i;cases d<;>first|(simp[aBd] at f;done)|simp[Instr.loadAt,Instr.sureAddr,loadVar,isAgg,run_underlying n,i]
theorem Hx{o:Nat}{av v:AV}{x:Value}(h:Fs o av=some v)(k:RV F γ av x):∃b off,x=.pointer (some ⟨b,off,none⟩)/\RV F γ v (.pointer (some ⟨b,off+o,none⟩)):=by
 unfold Fs at h;split at h
 ·injection h with h;subst h
  cases k with|one c v f=>cases f with|ptr _ _ b e=>
  exact⟨b,_,rfl,.one _ _ (.ptr _ _ _ e)⟩
 ·injection h with h;subst h
  cases k with|one c v f=>cases f with|ept _ _ _ _ b cap e=>
  exact⟨b,_,rfl,.one _ _ (by rw[Nat.add_assoc];exact .ept _ _ _ _ _ _ e)⟩
 ·injection h with h;subst h
  cases k with|one c v f=>cases f with|ref cs b off l m i=>
  refine⟨b,off,rfl,.one _ _ (.ref _ _ _ (fun j=>l (o+j)) (fun j d g=>?_) (fun j d g=>?_))⟩
  simp only[aZK] at g;exact m _ _ g;simp only[aZK] at g;rw[Nat.add_assoc];exact i _ _ g
 cases h
theorem Yi{av v:AV}{x:Value}(h:Lx av=some v)(e:RV F γ av x):RV F γ v x/\∃a,x=.pointer (some a):=by
 unfold Lx at h;split at h;injection h with h;subst h
 refine⟨e,?_⟩;cases e with|one c v d=>cases d with|ptr _ _ b g=>exact⟨_,rfl⟩
 injection h with h;subst h
 refine⟨e,?_⟩;cases e with|one c v d=>cases d with|ept _ _ _ _ b cap g=>exact⟨_,rfl⟩
 injection h with h;subst h
 refine⟨e,?_⟩;cases e with|one c v d=>cases d with|ref cs b off i j f=>exact⟨_,rfl⟩
 injection h with h;subst h
 cases e with|one c v d=>cases d with|dc _ _ k=>cases k with|ptr cs b off i j f=>exact⟨.one _ _ (.ref _ _ _ i j f),_,rfl⟩
 cases h
theorem aDK{d:BinOp}{t:TypeId}{k:IntKind}{a b:Int}{v:Value}(h:lZ d k a b=some v):is1 v=true/\(Go.binOp d t (.int k a) (.int k b)).run P w=.ok v w:=by
 cases d<;>simp only[lZ] at h<;>first
  |(cases h;done)
  |(injection h with h;subst h;exact⟨rfl,by simp[Go.binOp,Op.intArith,Op.intBits,Op.intCmp]⟩)
  | (split at h
     · cases h
     · rename_i c
       injection h with h;subst h;exact⟨rfl,by simp[Go.binOp,Op.intDiv,c]⟩)
theorem aDL:IntKind.i64.max=9223372036854775807:=by decide
theorem aDM{c:BinOp}{t:TypeId}{a b:ByteArray}{v:Value}(h:Hv c a b=some v):is1 v=true/\(Go.binOp c t (.string a) (.string b)).run P w=.ok v w:=by
 cases c<;>simp only[Hv] at h<;>first
  |(cases h;done)
  |(injection h with h;subst h;exact⟨rfl,by simp[Go.binOp,Op.stringOp]⟩)
  | (split at h
     · rename_i d
       injection h with h;subst h
       refine⟨rfl, ?_⟩;have:¬ (IntKind.i64.max < (a.size:Int)+(b.size:Int)):=by rw[aDL];omega
       simp only[Go.binOp,Op.stringOp,Sem.run_ite,Sem.run_pure];rw[if_neg (by have:=this;push_cast;omega)]
     · cases h)
theorem aDN{t:TypeId}{c:TypeDesc}{k:EK}{a b:Value}{r:Bool}(h:eqR k a b=some r)(g:P.underlying t=some c)(e:ekD c=some k)(d:Nat):(Op.equalIn (d+1) t a b).run P w=.ok r w:=by
 unfold eqR at h;split at h;injection h with h;subst h
 cases c<;>simp[ekD] at e;exact run_equalIn_bool' w d t _ _ g;split at h;rename_i f;injection h with h;subst h;subst f
 cases c<;>simp[ekD] at e;exact run_equalIn_int w d t _ _ _ _ g;cases h;injection h with h;subst h
 cases c<;>simp[ekD] at e;exact run_equalIn_string w d t _ _ g;cases h
theorem Ap{t:TypeId}{b:TypeDesc}{k:EK}(e:P.underlying t=some b)(d:ekD b=some k)(c:Array Value)(off:Nat)(x:Value)(f:c[off]?=some x):(part t c off).run P w=.ok x w:=by
 cases b<;>simp[ekD] at d<;>simp[part,isAgg,run_underlying e,f]
theorem Ft(d:Nat)(u z:Array Value):∀(l:List Field)(off:Nat)(t:List EK)(as bs:List aU)(r:Bool),rA P l off=some t->Eo t as bs=some r-> (∀(i:Nat) c,as[i]?=some c->∃v,u[off+i]?=some v/\RC F γ c v)->(∀(i:Nat) c,bs[i]?=some c->∃v,z[off+i]?=some v/\RC F γ c v)-> (Op.eqFields (d+1) u z l).run P w=.ok r w
 | [],off,t,as,bs,r,hf,e,J,K=>by
   simp only[rA,Option.some.injEq] at hf;subst hf;cases as<;>cases bs<;>simp[Eo] at e;subst e;simp[Op.eqFields]
 | f::l,off,t,as,bs,r,hf,e,J,K=>by
   simp only[rA] at hf;split at hf
   · rename_i g
     cases n:P.underlying f.type with
     | none=>simp[n] at hf
     | some A=>
       simp only[n,aZs] at hf;cases m:ekD A with
       | none=>simp[m] at hf
       | some k=>
         simp only[m,aZs] at hf;cases h:rA P l (off+1) with
         | none=>simp[h] at hf
         | some s=>
           simp only[h,aZf,Option.some.injEq] at hf;subst hf
           match as,bs,e with
           | .dc (.raw a)::as,.dc (.raw b)::bs,e=>
             simp only[Eo] at e;cases C:eqR k a b with
             | none=>simp[C] at e
             | some x=>
               simp only[C,aZs] at e;cases j:Eo s as bs with
               | none=>simp[j] at e
               | some y=>
                 simp only[j,aZs,Option.some.injEq] at e;subst e;obtain⟨L,H,D⟩:=J 0 _ rfl;obtain⟨vb,I,E⟩:=K 0 _ rfl;have o:L=a:=cX (.one _ _ D);have q:vb=b:=cX (.one _ _ E);subst o;subst q;have O:=Ft d u z l (off+1) s as bs y h j (fun i c B=>by have:=J (i+1) c B;rwa[show off+(i+1)=off+1+i by omega] at this)
                   (fun i c B=>by have:=K (i+1) c B;rwa[show off+(i+1)=off+1+i by omega] at this)
                 have M:=Ap (P:=P) (w:=w) n m u f.offset L (by rw[g.1];exact H);have N:=Ap (P:=P) (w:=w) n m z f.offset vb (by rw[g.1];exact I);have h3:=aDN (P:=P) (w:=w) C n m d;cases x<;>simp[Op.eqFields,g.2,M,N,h3,O]
   · cases hf
theorem aDO{e:BinOp}{t:TypeId}{m n:Operand}{av o v:AV}{x y:Value}(h:fX e av o=some v)(q:RV F γ av x)(s:RV F γ o y) : ∃r,((do eqGuard e t m n x y;Go.binOp e t x y):Sem Value).run P w=.ok r w/\RV F γ v r:=by
  unfold fX at h;split at h;rename_i j a k b;rw[cX q,cX s];have d:(eqGuard e t m n (.int j a) (.int k b)).run P w=.ok () w:=by cases e<;>simp[eqGuard]
  split at h;split at h;cases h;rename_i i;injection h with h;subst h
  exact⟨_,by simp[d,Go.binOp,Op.shift,i],bU rfl⟩;split at h;cases h;rename_i i;injection h with h;subst h
  exact⟨_,by simp[d,Go.binOp,Op.shift,i],bU rfl⟩;split at h;rename_i l;subst l;cases c:lZ e j a b with
  |none=>simp[c] at h
  |some r=>
   simp only[c,aZf,Option.some.injEq] at h;subst h;obtain⟨f,g⟩:=aDK (P:=P) (w:=w) (t:=t) c;exact⟨r,by simp[d,g],bU f⟩
  cases h;rename_i a b;rw[cX q,cX s];have d:(eqGuard e t m n (.string a) (.string b)).run P w=.ok () w:=by cases e<;>simp[eqGuard]
  cases c:Hv e a b with
  |none=>simp[c] at h
  |some r=>
   simp only[c,aZf,Option.some.injEq] at h;subst h;obtain⟨f,g⟩:=aDM (P:=P) (w:=w) (t:=t) c;exact⟨r,by simp[d,g],bU f⟩
  cases h
theorem uM{t:TypeId}{a b:Bool}(c:P.underlying t=some .bool):(Op.equal t (.bool a) (.bool b)).run P w=.ok (a==b) w:=run_equalIn_bool' w 9999 t a b c
theorem Yj{neg:Bool}{t:TypeId}{g i:Operand}{av c v:AV}{x y:Value}(h:Lw neg av c=some v)(e:RV F γ av x)(f:RV F γ c y) (d:P.underlying t=some .bool):∃r,((do eqGuard (if neg then .neq else .eql) t g i x y;Go.binOp (if neg then .neq else .eql) t x y):Sem Value).run P w=.ok r w/\RV F γ v r:=by
 unfold Lw at h;split at h;rename_i a b;rw[cX e,cX f];injection h with h;subst h
 cases neg;exact⟨_,by simp[eqGuard,Go.binOp,uM d],bU rfl⟩;exact⟨_,by simp[eqGuard,Go.binOp,uM d],bU rfl⟩;cases h
theorem Hy(d:Nat){e:TypeId}{h:TypeDesc}{k:EK}(o:P.underlying e=some h)(n:ekD h=some k)(q s:Array Value):∀(m off:Nat)(as bs:List aU)(r:Bool),Eo (List.replicate m k) as bs=some r-> (∀(i:Nat) c,as[i]?=some c->∃v,q[off+i]?=some v/\RC F γ c v)->(∀(i:Nat) c,bs[i]?=some c->∃v,s[off+i]?=some v/\RC F γ c v)-> (Op.eqItems (d+1) e 1 q s (List.range' off m)).run P w=.ok r w
 | 0,off,as,bs,r,f,D,E=>by
   cases as<;>cases bs<;>simp[Eo] at f;subst f;simp[Op.eqItems]
 | m+1,off,as,bs,r,f,D,E=>by
   rw[List.replicate_succ] at f
   match as,bs,f with
   | .dc (.raw a)::as,.dc (.raw b)::bs,f=>
     simp only[Eo] at f;cases u:eqR k a b with
     | none=>simp[u] at f
     | some x=>
       simp only[u,aZs] at f;cases g:Eo (List.replicate m k) as bs with
       | none=>simp[g] at f
       | some y=>
         simp only[g,aZs,Option.some.injEq] at f;subst f;obtain⟨H,B,z⟩:=D 0 _ rfl;obtain⟨vb,C,A⟩:=E 0 _ rfl;have j:H=a:=cX (.one _ _ z);have l:vb=b:=cX (.one _ _ A);subst j;subst l;have K:=Hy d o n q s m (off+1) as bs y g (fun i c t=>by have:=D (i+1) c t;rwa[show off+(i+1)=off+1+i by omega] at this)
           (fun i c t=>by have:=E (i+1) c t;rwa[show off+(i+1)=off+1+i by omega] at this)
         have I:=Ap (P:=P) (w:=w) o n q off H B;have J:=Ap (P:=P) (w:=w) o n s off vb C;have h3:=aDN (P:=P) (w:=w) u o n d;rw[List.range'_succ];cases x<;>simp[Op.eqItems,I,J,h3,K]
theorem Yk{neg:Bool}{t e:TypeId}{n:Nat}{k:EK}{E H:Operand}{av I v:AV}{x y:Value}(h:Qy neg (List.replicate n k) av I=some v)(S:RV F γ av x)(T:RV F γ I y) (Q:P.underlying t=some (.array n e)) (u:(P.underlying e).bind ekD=some k) (L:dL P e=some 1) (K:P.eqGuardType P.depth t=false):∃r,((do eqGuard (if neg then .neq else .eql) t E H x y;Go.binOp (if neg then .neq else .eql) t x y):Sem Value).run P w=.ok r w/\RV F γ v r:=by
 unfold Qy at h;split at h
 ·rename_i as bs;cases S with|agg _ b B A=>
  cases T with|agg _ f D C=>
  cases q:Eo (List.replicate n k) as bs with
  |none=>simp[q] at h
  |some r=>
   simp only[q,aZf,Option.some.injEq] at h;subst h;obtain⟨M,R,u⟩:=aZT.1 u;unfold dL at L;obtain⟨U,j,s⟩:=Option.map_eq_some_iff.1 L;have o:P.cellsOf e=1:=by rw[Program.cellsOf,j];exact s
   have g:∀{as:List aU}{b:Array Value},b.size=as.length->(∀(i:Nat) c v,as[i]?=some c->b[i]?=some v->RC F γ c v)->
     ∀(i:Nat) c,as[i]?=some c->∃v,b[0+i]?=some v/\RC F γ c v:=by
    intro as b z O i c m;have j:i<as.length:=by
     rcases bAp i as.length with l|l;exact l;rw[bAi l] at m;cases m
    have d:i<b.size:=z ▸ j;refine⟨b[i]'d,by simp[d],O i c _ m (aZR d)⟩
   have N:=Hy (P:=P) (w:=w) 9998 R u b f n 0 as bs r q (g B A) (g D C);have J:(Op.equalIn 10000 t (.agg b) (.agg f)).run P w=.ok r w:=by
    rw[show (10000:Nat)=9999+1 from rfl,run_equalIn_array w 9999 b f Q j,o,List.range_eq_range']
    exact N
   cases neg;exact⟨.bool r,by simp[run_eqGuard_agg w .eql t E H b f K,run_eql_struct,J],bU rfl⟩;exact⟨.bool !r,by simp[run_eqGuard_agg w .neq t E H b f K,run_neq_struct,J],bU rfl⟩
 cases h
theorem aDP{neg:Bool}{t:TypeId}{fs:Array Field}{j:List EK}{z A:Operand}{av B v:AV}{x y:Value}(h:Qy neg j av B=some v)(L:RV F γ av x)(M:RV F γ B y) (E:P.underlying t=some (.struct fs)) (hf:rA P fs.toList 0=some j) (K:P.stoodInHeld t=false) (D:P.eqGuardType P.depth t=false):∃r,((do eqGuard (if neg then .neq else .eql) t z A x y;Go.binOp (if neg then .neq else .eql) t x y):Sem Value).run P w=.ok r w/\RV F γ v r:=by
 unfold Qy at h;split at h
 ·rename_i as bs;cases L with|agg _ b q o=>
  cases M with|agg _ f u s=>
  cases m:Eo j as bs with
  |none=>simp[m] at h
  |some r=>
   simp only[m,aZf,Option.some.injEq] at h;subst h;have e:P.fieldsOf t=fs:=by simp[Program.fieldsOf,E]
   have g:∀{as:List aU}{b:Array Value},b.size=as.length->(∀(i:Nat) c v,as[i]?=some c->b[i]?=some v->RC F γ c v)->
     ∀(i:Nat) c,as[i]?=some c->∃v,b[0+i]?=some v/\RC F γ c v:=by
    intro as b n J i c l;have I:i<as.length:=by
     rcases bAp i as.length with k|k;exact k;rw[bAi k] at l;cases l
    have d:i<b.size:=n ▸ I;refine⟨b[i]'d,by simp[d],J i c _ l (aZR d)⟩
   have H:=Ft (P:=P) (w:=w) 9998 b f fs.toList 0 j as bs r hf m (g q o) (g u s);have C:(Op.equalIn 10000 t (.agg b) (.agg f)).run P w=.ok r w:=by
    rw[show (10000:Nat)=9999+1 from rfl,run_equalIn_agg w 9999 t b f (by rw[e];exact E) K,e]
    exact H
   cases neg;exact⟨.bool r,by simp[run_eqGuard_agg w .eql t z A b f D,run_eql_struct,C],bU rfl⟩;exact⟨.bool !r,by simp[run_eqGuard_agg w .neq t z A b f D,run_neq_struct,C],bU rfl⟩
 cases h
