/- Regions that draw their order: a tree of the orders that differ. Conditions: none. -/
import Derived.Test.YtmmafhopnkkeeaaGreatDoorLr
import Derived.Orders
namespace Go.Proofs.YtmmafhopnkkeeaaGreatDoor
set_option linter.unusedSimpArgs false
set_option linter.unusedVariables false
section
section
variable {P:Program} {G:Glob} {k:Nat} {st st':AS} {R:AS→Prop}
theorem WR.bslcF {o:AOp} {rest:List AOp} {size len:Nat} {zero:List Value} {parts:List (Nat × AArg)} {es:List (List DC)} (hgd:gOK G st o.guard) (ha:o.ai=.bslc size len zero parts)
  (hf:fillV ((List.range (len * size)).map fun i=>rawC (zero.getD (i % zero.length) undef)) (parts.map fun (j,x)=>(j * size,size,evA G st.sl x))=some (dcC es.flatten))
  (hes:∀ e∈es,e.length=size) (hlen:es.length=len)
  (h:WR P G k rest R ⟨putS st.sl o.dst (.one (.dc (.slc es))),st.hp⟩):WR P G k (o::rest) R st:=by
 refine WR.step hgd (fun F γ a w oper hc hd hi hs hg hk=>?_)
 rw [ha] at hc
 obtain ⟨t,len',ps,hop⟩:=op_bslc (kind_of hc rfl)
 obtain ⟨dst,op,type,pos,after,guard⟩:=oper
 simp only at hop
 subst hop
 simp only [compileOp] at hc
 split at hc
 ·rename_i e hu
  cases h1:P.info? e with
  | none=>simp [h1] at hc
  | some i=>cases h2:i.zero with
   | none=>simp [h1,h2] at hc
   | some z=>
    simp only [h1,h2,Option.bind_some] at hc
    split at hc
    ·rename_i hcond
     obtain ⟨hc1,hc2,hc3,hc4⟩:=hcond
     injection hc with hc;injection hc with e1 e2 e3 e4
     subst e1;subst e2;subst e3;subst e4
     have hzl:z.cells.toList.length=i.size:=by simpa using hc2
     have hz:RCs F γ ((List.range (len' * i.size)).map fun n=>rawC (z.cells.toList.getD (n % z.cells.toList.length) undef)) ((Array.range (len' * i.size)).map (z.cells[· % z.cells.size]!)):=by
      have:=rep_zero (F:=F) (γ:=γ) z.cells.toList (len' * i.size) (by omega) (fun v hv=>List.all_eq_true.1 hc4 v hv)
      have e0:z.cells.toList.toArray=z.cells:=by simp
      rw [e0] at this
      exact this
     obtain ⟨r,hr1,hr2⟩:=fill_ok (place:=fun j=>some (j * i.size,i.size)) _ (ps.toList.map fun (j,x)=>(j,a.eval x)) _ _ _ hz hf (by simp) (fun n o s av j x hn hj=>by
      simp only [List.map_map,List.getElem?_map] at hn hj
      cases hp:ps.toList[n]? with
      | none=>simp [hp] at hn
      | some q=>
       obtain ⟨j',x'⟩:=q
       simp [hp] at hn hj
       obtain ⟨rfl,rfl,rfl⟩:=hn
       obtain ⟨rfl,rfl⟩:=hj
       exact ⟨rfl,rv_arg hs hg x'⟩)
     have hrs:r.size=len' * i.size:=by rw [hr2.1,dcC,List.length_map,flatten_len es hes,hlen]
     have hrr:∀ (n j:Nat) e d v,es[n]?=some e→e[j]?=some d→r[n * i.size+j]?=some v→RD F d v:=by
      intro n j e d v h3 h4 h5
      have:=hr2.2 (n * i.size+j) (.dc d) v (by show (List.map Cel.dc es.flatten)[n * i.size+j]?=_;rw [List.getElem?_map,flatten_get es hes n j e d h3 h4];rfl) h5
      cases this with | dc _ _ h=>exact h
     -- the block is data from now on
     have hwlt:∀ b ob,F b=some ob→b < w.heap.size:=fun b ob hb=>hi.fzlt hb
     let W':=pushW w (.cells r e)
     let F':Fz:=fun b'=>if b'=w.heap.size then W'.heap[b']? else F b'
     have hsub:F.sub F':=fun b ob hb=>by
      have:=hwlt b ob hb
      simp only [F',if_neg (show ¬ b=w.heap.size by omega)];exact hb
     have hblk:∀ i b,blkAt γ i=some b→b < w.heap.size:=fun i b hb=>hi.lt hb
     have hRD:RD F' (.slc es) (.slice (some ⟨w.heap.size,0,none⟩) es.length es.length):=by
      have key:∀ (n j:Nat) e0 d,es[n]?=some e0→e0[j]?=some d→∃ u,r[n * i.size+j]?=some u:=by
       intro n j e0 d h1 h2
       have hj:j < i.size:=by have:=lt_of_get h2;have:=hes _ (List.mem_of_getElem? h1);omega
       have:=mul_lt_cap (lt_of_get h1) (Nat.le_refl _) hj
       exact ⟨_,Array.getElem?_eq_getElem (by rw [hrs,← hlen];omega)⟩
      refine .slc w.heap.size 0 es.length i.size es (fun n j=>r.toList.getD (n * i.size+j) undef) hes (fun n j e0 d h1 h2=>?_) (fun n j e0 d h1 h2=>?_) (Nat.le_refl _)
      ·obtain ⟨u,hu⟩:=key n j e0 d h1 h2
       simp only [List.getD_eq_getElem?_getD,Array.getElem?_toList,hu,Option.getD_some]
       exact (hrr n j e0 d u h1 h2 hu).mono hsub
      ·obtain ⟨u,hu⟩:=key n j e0 d h1 h2
       have hW:W'.heap[w.heap.size]?=some (.cells r e):=push_new
       simp only [List.getD_eq_getElem?_getD,Array.getElem?_toList,hu,Option.getD_some,Fz.cell?,F',if_true,Nat.zero_add,hW]
       simp
     refine .inl ⟨_,.slice (some ⟨w.heap.size,0,none⟩) es.length es.length,W',_,F',γ, ?_,.inl rfl,h, ?_, ?_, ?_,hk⟩
     ·have hno:¬ (len' * i.size > 2 ^ 24):=by omega
      have hfill:Instr.fill (fun j=>some (j * i.size,i.size)) ((Array.range (len' * i.size)).map ((if len' * i.size=0 then #[] else z.cells)[· % (if len' * i.size=0 then #[] else z.cells).size]!)) (ps.map fun (j,x)=>(j,a.eval x)).toList=some r:=by
       have e0:(ps.map fun (j,x)=>(j,a.eval x)).toList=ps.toList.map fun (j,x)=>(j,a.eval x):=by simp
       rw [e0,← hr1]
       congr 1
       split
       ·rename_i h0;simp [h0]
       ·rfl
      have hzv:(zeroValue e).run P w=.ok z w:=by simp [zeroValue,typeInfo,h1,h2]
      simp only [execOp,Instr.buildSlice,run_underlying hu,Sem.run_bind,Result.andThen_ok,sizeOf,typeInfo,run_program,h1,Sem.run_pure,Sem.run_ite,if_neg hno,hzv]
      by_cases h0:len' * i.size=0
      ·simp only [if_pos h0] at hfill ⊢
       simp only [hfill,Sem.run_bind,Result.andThen_ok,Sem.run_pure,newRow,run_newObj,W',pushW,hlen]
      ·simp only [if_neg h0] at hfill ⊢
       simp only [hfill,Sem.run_bind,Result.andThen_ok,Sem.run_pure,newRow,run_newObj,W',pushW,hlen]
     ·have hE:=Ext.push (k:=k) hi (.cells r e) .dead (by simp [OI.blk])
      refine ⟨hsub,rfl,rfl,rfl,by simp [W',pushW],fun b hb _=>push_old hb,fun b ob hb=>?_,fun i b hb=>.inl ⟨i,hb⟩,fun _ _ _ h=>h⟩
      simp only [F'] at hb
      split at hb
      ·exact .inr (.inl (by omega))
      ·exact .inl hb
     ·refine ⟨fun b ob hb=>?_,hi.len,hi.nd,fun n b hb=>?_,fun n ob x h3 h4=>?_⟩
      ·simp only [F'] at hb
       split at hb
       ·exact hb
       ·have:=hwlt b ob hb
        rw [push_old this];exact hi.fz b ob hb
      ·have:=hblk n b hb
       simp only [F',if_neg (show ¬ b=w.heap.size by omega)]
       exact hi.disj n b hb
      ·have hok:=(hi.ok n ob x h3 h4)
       exact hok.ext hsub (fun _ _ h=>h) (fun b hb=>push_old (hok.lt hb))
     ·exact (hs.ext hsub (fun _ _ h=>h)).put o.dst (.one _ _ (.dc _ _ hRD))
    ·cases hc
 ·cases hc
end
def updH (hp:List AObj):Option (Nat × AObj)→List AObj
 | some (id,ob)=>hp.set id ob
 | none=>hp
def wrU:Option (Nat × AObj)→List Nat
 | some (id,_)=>[id]
 | none=>[]
def fpC:Cel→List Nat
 | .ptr id _=>[id]
 | .bld id _=>[id]
 | .ept id _ _ _=>[id]
 | .bls id _ _ _=>[id]
 | _=>[]
def fpV:AV→List Nat
 | .one c=>fpC c
 | _=>[]
section
variable {P:Program} {G:Glob} {k:Nat} {F F':Fz} {γ γ':List OI} {w w':World} {a:Act} {id:Nat} {hp hp':List AObj} {sl sl':List AV} {o:AOp} {st:AS}
theorem keepL_of {p:Nat→Bool}:∀ {cs:List Cel},(∀ (i:Nat) c,cs[i]?=some c→c.keep p=true)→keepL p cs=true
 | [],_=>rfl
 | c::cs,h=>by
  rw [keepL,h 0 c rfl,Bool.true_and]
  exact keepL_of (fun i c hc=>h (i+1) c (by simpa using hc))
theorem RC.kd {c:Cel} {v:Value} (h:RC F γ c v) (hd:γ[id]?=some .dead):c.keep (·==id)=true:=by
 have ne:∀ {j:Nat} {x:OI},γ[j]?=some x→x≠.dead→(!(j==id))=true:=by
  intro j x hj hx
  simp only [Bool.not_eq_true',beq_eq_false_iff_ne,ne_eq]
  rintro rfl
  rw [hd] at hj;injection hj with hj;exact hx hj.symm
 induction h with
 | dc d v h=>rfl
 | ptr id off b h=>exact ne h (by simp)
 | bldN id cap h=>exact ne h (by simp)
 | bld id n b cap h=>exact ne h (by simp)
 | ept id i size off b cap h=>exact ne h (by simp)
 | bls id lo n size b cap c off h ho hc=>rcases h with h | h<;>exact ne h (by simp)
 | ref cs b off g hr hc=>rfl
 | mpc es r clk ents h he h1=>rfl
 | fn f caps g hr ih=>exact keepL_of (fun i c hc=>ih i c hc)
 | junk v h=>rfl
theorem RC.extD {c:Cel} {v:Value} (h:RC F γ c v) (hd:γ[id]?=some .dead) (hs:F.sub F') (hg:∀ (j:Nat) x,j≠id→γ[j]?=some x→γ'[j]?=some x):RC F' γ' c v:=
 h.mono hs (p:=(·==id)) (fun j x hj hx=>hg j x (by simpa using hj) hx) (h.kd hd)
theorem RV.extD {c:AV} {v:Value} (h:RV F γ c v) (hd:γ[id]?=some .dead) (hs:F.sub F') (hg:∀ (j:Nat) x,j≠id→γ[j]?=some x→γ'[j]?=some x):RV F' γ' c v:=by
 cases h with
 | one c v h=>exact .one _ _ (h.extD hd hs hg)
 | agg cs vs hsz h=>exact .agg _ _ hsz (fun i c v h1 h2=>(h i c v h1 h2).extD hd hs hg)
 | tup l vs hsz h=>
  refine .tup _ _ hsz (fun i t v h1 h2=>?_)
  cases h i t v h1 h2 with
  | one c v h=>exact .one _ _ (h.extD hd hs hg)
  | agg cs vs hsz h=>exact .agg _ _ hsz (fun i c v h1 h2=>(h i c v h1 h2).extD hd hs hg)
 | junk v=>exact .junk v
theorem OK.extD {ob:AObj} {x:OI} (h:OK F γ w ob x) (hd:γ[id]?=some .dead) (hs:F.sub F') (hg:∀ (j:Nat) x,j≠id→γ[j]?=some x→γ'[j]?=some x)
  (hb:∀ b,x.blk=some b→w'.heap[b]?=w.heap[b]?):OK F' γ' w' ob x:=by
 cases ob with
 | box cs=>
  cases x with
  | box b=>
   obtain ⟨vs,T,h1,h2,h3⟩:=h
   exact ⟨vs,T,h1.of (hb b rfl),h2,fun i c v p q=>(h3 i c v p q).extD hd hs hg⟩
  | arr b c=>exact h.elim
  | dead=>exact h.elim
 | arr cap size es=>
  cases x with
  | box b=>exact h.elim
  | dead=>exact h.elim
  | arr b c=>
   cases b with
   | none=>exact h
   | some b=>
    obtain ⟨h1,h2,h3,vs,T,h4,h5,h6⟩:=h
    exact ⟨h1,h2,h3,vs,T,h4.of (hb b rfl),h5,fun i j e d v p q r=>(h6 i j e d v p q r).mono hs⟩
 | dead=>cases x<;>exact h
theorem fill_box (hi:Inv F γ hp w) (hs:Slots F γ sl a) (hd:γ[id]?=some .dead) (hk:k≤id) (hkl:k≤γ.length) {cs:List Cel} {vs:Array Value} {T:TypeId} (h:RCs F γ cs vs) (dst:Option Nat):
  Ext k F γ w F (γ.set id (.box w.heap.size)) (pushW w (.cells vs T))∧Inv F (γ.set id (.box w.heap.size)) (hp.set id (.box cs)) (pushW w (.cells vs T))∧
  Slots F (γ.set id (.box w.heap.size)) (putS sl dst (.one (.ptr id 0))) (a.put dst (.pointer (some ⟨w.heap.size,0,none⟩)))∧k≤(γ.set id (OI.box w.heap.size)).length:=by
 have hlt:id < γ.length:=lt_of_get hd
 have hg:∀ (j:Nat) x,j≠id→γ[j]?=some x→(γ.set id (.box w.heap.size))[j]?=some x:=fun j x hj hx=>by rw [List.getElem?_set_ne (Ne.symm hj)];exact hx
 have hid:(γ.set id (OI.box w.heap.size))[id]?=some (.box w.heap.size):=List.getElem?_set_self hlt
 have hb:∀ i b,blkAt (γ.set id (OI.box w.heap.size)) i=some b→(i≠id∧blkAt γ i=some b)∨(i=id∧b=w.heap.size):=by
  intro i b h
  obtain ⟨y,hy,hyb⟩:=blkAt_some h
  by_cases hii:id=i
  ·subst hii
   rw [hid] at hy
   injection hy with hy;subst hy
   simp [OI.blk] at hyb
   exact .inr ⟨rfl,hyb.symm⟩
  ·rw [List.getElem?_set_ne hii] at hy
   exact .inl ⟨Ne.symm hii,blkAt_of hy hyb⟩
 have hold:∀ b,b < w.heap.size→(pushW w (.cells vs T)).heap[b]?=w.heap[b]?:=fun b hb'=>push_old hb'
 have hsub:F.sub F:=fun _ _ h=>h
 refine ⟨⟨hsub,rfl,rfl,rfl,by simp [pushW],fun b hb' _=>hold b hb',fun _ _ h=>.inl h,fun i b h=>?_,fun i hik b hx=>hg i _ (by omega) hx⟩,⟨fun b ob h=>?_,by simp [hi.len],fun i j b h1 h2=>?_,fun i b h=>?_,fun i ob x h1 h2=>?_⟩, ?_,by simpa using hkl⟩
 ·rcases hb i b h with ⟨_,h⟩ | ⟨_,h⟩
  ·exact .inl ⟨i,h⟩
  ·exact .inr (by omega)
 ·rw [hold b (hi.fzlt h)];exact hi.fz b ob h
 ·rcases hb i b h1 with ⟨a1,a2⟩ | ⟨a1,a2⟩<;>rcases hb j b h2 with ⟨c1,c2⟩ | ⟨c1,c2⟩
  ·exact hi.nd i j b a2 c2
  ·have:=hi.lt a2;omega
  ·have:=hi.lt c2;omega
  ·omega
 ·rcases hb i b h with ⟨a1,a2⟩ | ⟨a1,a2⟩
  ·exact hi.disj i b a2
  ·cases hF:F b with
   | none=>rfl
   | some ob=>have:=hi.fzlt hF;omega
 ·by_cases hii:id=i
  ·subst hii
   rw [hid] at h2
   injection h2 with h2;subst h2
   have hlt2:id < hp.length:=by rw [← hi.len];exact hlt
   rw [List.getElem?_set_self hlt2] at h1
   injection h1 with h1;subst h1
   exact ⟨vs,T,push_own,Nat.le_of_eq h.1.symm,fun i c v p q=>(h.2 i c v p q).extD hd hsub hg⟩
  ·rw [List.getElem?_set_ne hii] at h1 h2
   have hok:=hi.ok i ob x h1 h2
   exact hok.extD hd hsub hg (fun b hxb=>hold b (hok.lt hxb))
 ·have hs':Slots F (γ.set id (.box w.heap.size)) sl a:=⟨hs.1,hs.2.1,fun i av v h1 h2=>(hs.2.2 i av v h1 h2).extD hd hsub hg⟩
  exact hs'.put dst (.one _ _ (.ptr _ _ _ hid))
theorem Inv.deadG (hi:Inv F γ hp w) (hd:hp[id]?=some .dead):γ[id]?=some .dead:=by
 have hlt:id < γ.length:=by rw [hi.len];exact lt_of_get hd
 have hx:γ[id]?=some (γ[id]'hlt):=List.getElem?_eq_getElem hlt
 have:=hi.ok id _ _ hd hx
 rw [hx]
 cases hc:γ[id]'hlt with
 | dead=>rfl
 | box b=>rw [hc] at this;exact this.elim
 | arr A c=>rw [hc] at this;cases A<;>exact this.elim
theorem WR.allocD {as:AS} {rest:List AOp} {Q:AS→Prop} {zero:List Value} (hgd:gOK G as o.guard) (ha:o.ai=.alloc zero) (hd:as.hp[id]?=some .dead) (hkid:k≤id)
  (h:WR P G k rest Q ⟨putS as.sl o.dst (.one (.ptr id 0)),as.hp.set id (.box (zero.map rawC))⟩):WR P G k (o::rest) Q as:=by
 refine WR.step hgd (fun F γ a w oper hc hd1 hi hs hg hk=>?_)
 rw [ha] at hc
 obtain ⟨e,he⟩:=op_alloc (kind_of hc rfl)
 obtain ⟨dst,op,type,pos,after,guard⟩:=oper
 simp only at he
 subst he
 simp only [compileOp] at hc
 cases h1:P.info? e with
 | none=>simp [h1] at hc
 | some i=>cases h2:i.zero with
  | none=>simp [h1,h2] at hc
  | some z=>
   simp only [h1,h2,Option.bind_some] at hc
   split at hc
   ·rename_i hall
    injection hc with hc;injection hc with hc;subst hc
    have hzr:RCs F γ (z.cells.toList.map rawC) z.cells:=by
     have:=RCs.raw (F:=F) (γ:=γ) (vs:=z.cells.toList) (fun v hv=>List.all_eq_true.1 hall v hv)
     simpa using this
    obtain ⟨hE,hI,hS,hk'⟩:=fill_box (T:=e) hi hs (hi.deadG hd) hkid hk hzr o.dst
    refine .inl ⟨_,_,_,_,F,_, ?_,.inl rfl,h,hE,hI,hS,hk'⟩
    simp only [execOp,Instr.alloc,zeroValue,typeInfo,h1,h2,newVar,newRow,Sem.run_bind,run_program,Result.andThen_ok,Sem.run_pure,run_newObj,pushW]
   ·cases hc
theorem loadV_loc {g:Bool} {s:Nat} {x:AV} (h:∀ id∈fpV x,hpGet hp id=hpGet hp' id):loadV hp g s x=loadV hp' g s x:=by
 unfold loadV
 split<;>first | rfl | (rename_i id _;rw [h id (by simp [fpV,fpC])]) | (rename_i id _ _ _;rw [h id (by simp [fpV,fpC])])
theorem cvbsV_loc {x:AV} (h:∀ id∈fpV x,hpGet hp id=hpGet hp' id):cvbsV hp x=cvbsV hp' x:=by
 unfold cvbsV
 split<;>first | rfl | (rename_i id _;rw [h id (by simp [fpV,fpC])]) | (rename_i id _ _ _;rw [h id (by simp [fpV,fpC])])
theorem ixLV_loc {s:Nat} {x:AV} {i:Int} (h:∀ id∈fpV x,hpGet hp id=hpGet hp' id):ixLV hp s x i=ixLV hp' s x i:=by
 unfold ixLV
 split<;>first | rfl | (rename_i id _;rw [h id (by simp [fpV,fpC])]) | (rename_i id _ _ _;rw [h id (by simp [fpV,fpC])])
theorem slLV_loc {s:Nat} {x:AV} {l r:Option AV} (h:∀ id∈fpV x,hpGet hp id=hpGet hp' id):slLV hp s x l r=slLV hp' s x l r:=by
 unfold slLV
 split<;>first | rfl | (rename_i id _;rw [h id (by simp [fpV,fpC])]) | (rename_i id _ _ _;rw [h id (by simp [fpV,fpC])])
theorem evP_loc {ai:AI} (h:∀ x∈argsAI ai,∀ id∈fpV (evA G sl x),hpGet hp id=hpGet hp' id):evP G ⟨sl,hp⟩ ai=evP G ⟨sl,hp'⟩ ai:=by
 cases ai with
 | load g s x=>simp only [evP];exact loadV_loc (h x (by simp [argsAI]))
 | cvbs x=>simp only [evP];exact cvbsV_loc (h x (by simp [argsAI]))
 | ixL s x i=>
  simp only [evP]
  cases asInt? (evA G sl i) with
  | none=>rfl
  | some n=>exact ixLV_loc (h x (by simp [argsAI]))
 | slL s x l r=>simp only [evP];exact slLV_loc (h x (by simp [argsAI]))
 | _=>rfl
inductive StepF (P:Program) (G:Glob) (k:Nat) (o:AOp) (st:AS):AV→Option (Nat × AObj)→List Nat→Prop
 | skip (h:gNo G st o.guard):StepF P G k o st (.tup []) none []
 | pur (v:AV) (R:List Nat) (h:gOK G st o.guard) (hv:evP G st o.ai=some v) (hR:∀ x∈argsAI o.ai,∀ id∈fpV (evA G st.sl x),id∈R):StepF P G k o st v none R
 | call (f:FuncId) (args:List AArg) (cargs:List AV) (r v:AV) (h:gOK G st o.guard) (ha:o.ai=.call f args) (hq:QC P G f cargs r)
   (hn:∀ n,args.map (evA G st.sl)=cargs.map (renV (jmap [] n))∧v=renV (jmap [] n) r):StepF P G k o st v none []
 | alloc (z:List Value) (id:Nat) (h:gOK G st o.guard) (ha:o.ai=.alloc z) (hd:st.hp[id]?=some .dead) (hk:k≤id):StepF P G k o st (.one (.ptr id 0)) (some (id,.box (z.map rawC))) []
 | cpy (x y:AArg) (id lo n:Nat) (bs:ByteArray) (cs:List Cel) (h:gOK G st o.guard) (ha:o.ai=.cpys x y) (hx:evA G st.sl x=.one (.bls id lo n 1)) (hy:asStr? (evA G st.sl y)=some bs)
   (hb:st.hp[id]?=some (.box cs)) (hle:lo+n≤cs.length):StepF P G k o st (rawV (.int .i64 (min bs.size n:Nat))) (some (id,.box (putAt cs lo (bytesCel (bs.data.toList.take n))))) [id]
 | callB (f:FuncId) (args:List AArg) (cargs:List AV) (id:Nat) (cs cs':List Cel) (h:gOK G st o.guard) (ha:o.ai=.call f args) (hb:st.hp[id]?=some (.box cs))
   (hac:AC P G f cargs [.box cs] fun a o=>a=.tup []∧o=[.box cs']) (hargs:∀ n,args.map (evA G st.sl)=cargs.map (renV (jmap [id] n)))
   (hr:∀ n,renO (jmap [id] n) (.box cs)=.box cs∧renO (jmap [id] n) (.box cs')=.box cs'):StepF P G k o st (.tup []) (some (id,.box cs')) [id]
 | lit (size len:Nat) (z:List Value) (ps:List (Nat × AArg)) (es:List (List DC)) (h:gOK G st o.guard) (ha:o.ai=.bslc size len z ps)
   (hf:fillV ((List.range (len * size)).map fun i=>rawC (z.getD (i % z.length) undef)) (ps.map fun (j,x)=>(j * size,size,evA G st.sl x))=some (dcC es.flatten))
   (hes:∀ e∈es,e.length=size) (hlen:es.length=len):StepF P G k o st (.one (.dc (.slc es))) none []
 | store (size:Nat) (x v:AArg) (id off:Nat) (cs vs:List Cel) (h:gOK G st o.guard) (ha:o.ai=.store size x v) (hd0:o.dst=none) (hx:evA G st.sl x=.one (.ptr id off)) (hv:cellsOf (evA G st.sl v)=some vs)
   (hb:st.hp[id]?=some (.box cs)) (hsz:vs.length=size) (hle:off+size≤cs.length):StepF P G k o st (.tup []) (some (id,.box (putAt cs off vs))) [id]
def stF (o:AOp) (st:AS) (v:AV) (u:Option (Nat × AObj)):AS:=⟨putS st.sl o.dst v,updH st.hp u⟩
theorem hpGet_eq (h:hp[id]?=hp'[id]?):hpGet hp id=hpGet hp' id:=by
 unfold hpGet;rw [List.getD_eq_getElem?_getD,List.getD_eq_getElem?_getD,h]
theorem StepF.loc {v:AV} {u:Option (Nat × AObj)} {R:List Nat} (h:StepF P G k o ⟨sl,hp⟩ v u R) (hsl:∀ t∈readsOp o,sl.getD t .junk=sl'.getD t .junk) (hh:∀ id∈R++wrU u,hp[id]?=hp'[id]?):StepF P G k o ⟨sl',hp'⟩ v u R:=by
 obtain ⟨h1,_⟩:=evA_of_reads (G:=G) hsl
 cases h with
 | skip h=>exact .skip (gNo_congr hsl h)
 | pur _ _ h hv hR=>
  refine .pur _ _ (gOK_congr hsl h) ?_ (fun x hx id hid=>hR x hx id (by rw [h1 x hx];exact hid))
  rw [← evP_congr h1,← evP_loc (hp:=hp) (fun x hx id hid=>hpGet_eq (hh id (by simp [hR x hx id hid])))]
  exact hv
 | call f args cargs r _ h ha hq hn=>
  refine .call f args cargs r _ (gOK_congr hsl h) ha hq (fun n=>⟨?_,(hn n).2⟩)
  rw [← (hn n).1]
  exact List.map_congr_left (fun x hx=>(h1 x (by rw [ha];exact hx)).symm)
 | lit size len z ps es h ha hf hes hlen=>
  refine .lit size len z ps es (gOK_congr hsl h) ha ?_ hes hlen
  rw [← hf]
  congr 1
  exact List.map_congr_left (fun p hp=>by
   obtain ⟨j,x⟩:=p
   have e:=h1 x (by rw [ha];exact List.mem_map.2 ⟨(j,x),hp,rfl⟩)
   show (j * size,size,evA G sl' x)=(j * size,size,evA G sl x)
   rw [e])
 | alloc z id h ha hd hk=>exact .alloc z id (gOK_congr hsl h) ha (by rw [← hh id (by simp [wrU])];exact hd) hk
 | cpy x y id lo n bs cs h ha hx hy hb hle=>exact .cpy x y id lo n bs cs (gOK_congr hsl h) ha (by rw [← h1 x (by rw [ha];simp [argsAI])];exact hx) (by rw [← h1 y (by rw [ha];simp [argsAI])];exact hy) (by rw [← hh id (by simp)];exact hb) hle
 | callB f args cargs id cs cs' h ha hb hac hargs hr=>exact .callB f args cargs id cs cs' (gOK_congr hsl h) ha (by rw [← hh id (by simp)];exact hb) hac (fun n=>by rw [← hargs n];exact List.map_congr_left (fun x hx=>(h1 x (by rw [ha];exact hx)).symm)) hr
 | store size x v id off cs vs h ha hd0 hx hv hb hsz hle=>
  exact .store size x v id off cs vs (gOK_congr hsl h) ha hd0 (by rw [← h1 x (by rw [ha];simp [argsAI])];exact hx) (by rw [← h1 v (by rw [ha];simp [argsAI])];exact hv)
   (by rw [← hh id (by simp)];exact hb) hsz hle
theorem StepF.wr {K:AS→Prop} {v:AV} {u:Option (Nat × AObj)} {R:List Nat} (h:StepF P G k o st v u R) (hK:K (stF o st v u)):WR P G k [o] K st:=by
 cases h with
 | skip h=>exact WR.skip h (WR.nil hK)
 | pur _ _ h hv hR=>exact WR.pur h hv (WR.nil hK)
 | call f args cargs r _ h ha hq hn=>exact WR.callQ h ha hq (hn st.hp.length).1 (WR.nil (by rw [← (hn st.hp.length).2];exact hK))
 | lit size len z ps es h ha hf hes hlen=>exact WR.bslcF h ha hf hes hlen (WR.nil hK)
 | alloc z id h ha hd hk=>exact WR.allocD h ha hd hk (WR.nil hK)
 | cpy x y id lo n bs cs h ha hx hy hb hle=>exact WR.cpys h ha hx hy (by unfold hpGet;rw [List.getD_eq_getElem?_getD,hb];rfl) hle (WR.nil hK)
 | callB f args cargs id cs cs' h ha hb hac hargs hr=>
  refine WR.call (J:=[id]) (objs:=[.box cs]) h ha hac (by simp) rfl (fun t j o ht ho=>?_) (hargs _) (fun a o' hao=>?_)
  ·cases t with
   | zero=>simp at ht ho;subst ht;subst ho;rw [(hr _).1];exact hb
   | succ t=>simp at ht
  ·obtain ⟨rfl,rfl⟩:=hao
   have hn:∀ j,([id].contains j&&!isBoxO (hpGet st.hp j))=false:=by
    intro j
    by_cases hj:j=id
    ·subst hj
     have:hpGet st.hp j=.box cs:=by unfold hpGet;rw [List.getD_eq_getElem?_getD,hb];rfl
     rw [this];simp [isBoxO]
    ·simp [hj]
   have e:afterC [id] st o.dst (.tup []) [.box cs']=stF o st (.tup []) (some (id,.box cs')):=by
    simp only [afterC]
    rw [mapV_none hn,mapO_none hn]
    simp only [List.map_cons,List.map_nil,(hr _).2,stF,updH,setJ,renV,List.length_singleton,List.drop_succ_cons,List.drop_zero,List.append_nil]
   rw [e];exact WR.nil hK
 | store size x v id off cs vs h ha hd0 hx hv hb hsz hle=>
  refine WR.store h ha hd0 hx hv (by unfold hpGet;rw [List.getD_eq_getElem?_getD,hb];rfl) hsz hle (WR.nil ?_)
  have:stF o st (.tup []) (some (id,.box (putAt cs off vs)))=⟨st.sl,st.hp.set id (.box (putAt cs off vs))⟩:=by simp [stF,putS,hd0,updH]
  rw [← this];exact hK
abbrev FE:=AOp × (List Nat × List Nat)
def RunF (P:Program) (G:Glob) (k:Nat) (K:AS→Prop):List FE→AS→Prop
 | [],st=>K st
 | (o,f)::l,st=>∃ v u R,StepF P G k o st v u R∧wrU u=f.1∧R=f.2∧RunF P G k K l (stF o st v u)
def disjF (a b:List Nat):Bool:=a.all fun x=>!b.contains x
def apartO (x y:AOp):Bool:=apartD x.dst y.dst&&apartR x.dst y&&apartR y.dst x
def cmpF (x y:FE):Bool:=apartO x.1 y.1&&disjF x.2.1 (y.2.2++y.2.1)&&disjF y.2.1 x.2.2
theorem disjF_ok {a b:List Nat} (h:disjF a b=true) {x:Nat} (hx:x∈a):x∉b:=by
 have:=List.all_eq_true.1 h x hx
 simpa using this
theorem updH_get {u:Option (Nat × AObj)} {j:Nat} (h:j∉wrU u):(updH hp u)[j]?=hp[j]?:=by
 cases u with
 | none=>rfl
 | some p=>
  obtain ⟨i,ob⟩:=p
  simp only [wrU,List.mem_singleton] at h
  simp only [updH]
  rw [List.getElem?_set_ne (fun e=>h e.symm)]
theorem updH_comm {u u':Option (Nat × AObj)} (h:∀ x∈wrU u,x∉wrU u'):updH (updH hp u) u'=updH (updH hp u') u:=by
 cases u with
 | none=>rfl
 | some p=>cases u' with
  | none=>rfl
  | some q=>
   obtain ⟨i,ob⟩:=p
   obtain ⟨j,ob'⟩:=q
   simp only [wrU,List.mem_singleton,forall_eq] at h
   simp only [updH]
   exact List.set_comm _ _ h
theorem putS_reads {d:Option Nat} {v:AV} (h:apartR d o=true):∀ t∈readsOp o,(putS sl d v).getD t .junk=sl.getD t .junk:=by
 intro t ht
 cases d with
 | none=>rfl
 | some d=>
  have hne:d≠t:=by
   rintro rfl
   simp only [apartR,Bool.not_eq_true',List.contains_eq_mem,decide_eq_false_iff_not] at h
   exact h ht
  simp only [putS,List.getD_eq_getElem?_getD]
  rw [List.getElem?_set_ne hne]
theorem RunF.mono {K K':AS→Prop} (hK:∀ s,K s→K' s):∀ {l:List FE} {st:AS},RunF P G k K l st→RunF P G k K' l st
 | [],_,h=>hK _ h
 | (o,f)::l,st,h=>by
  obtain ⟨v,u,R,s,e1,e2,h⟩:=h
  exact ⟨v,u,R,s,e1,e2,RunF.mono hK h⟩
theorem RunF.swap {K:AS→Prop} {x y:FE} {l:List FE} (hc:cmpF x y=true) (h:RunF P G k K (x::y::l) st):RunF P G k K (y::x::l) st:=by
 obtain ⟨ox,fx⟩:=x
 obtain ⟨oy,fy⟩:=y
 simp only [cmpF,apartO,Bool.and_eq_true] at hc
 obtain ⟨⟨⟨⟨hd,h1⟩,h2⟩,h3⟩,h4⟩:=hc
 obtain ⟨vx,ux,Rx,sx,wx,rx,vy,uy,Ry,sy,wy,ry,hl⟩:=h
 subst rx;subst ry
 rw [← wx] at h3
 rw [← wy] at h4 h3
 obtain ⟨sl,hp⟩:=st
 have sy':StepF P G k oy ⟨sl,hp⟩ vy uy fy.2:=sy.loc (putS_reads h1) (fun id hid=>updH_get (fun hx=>disjF_ok h3 hx hid))
 have sx':StepF P G k ox (stF oy ⟨sl,hp⟩ vy uy) vx ux fx.2:=sx.loc (fun t ht=>(putS_reads h2 t ht).symm) (fun id hid=>by
  refine (updH_get (fun hy=>?_)).symm
  simp only [List.mem_append] at hid
  rcases hid with hid | hid
  ·exact disjF_ok h4 hy hid
  ·exact disjF_ok h3 hid (by simp [hy]))
 refine ⟨vy,uy,_,sy',wy,rfl,vx,ux,_,sx',wx,rfl, ?_⟩
 have e:stF ox (stF oy ⟨sl,hp⟩ vy uy) vx ux=stF oy (stF ox ⟨sl,hp⟩ vx ux) vy uy:=by
  simp only [stF]
  rw [putS_comm hd,updH_comm (fun z hz hz'=>disjF_ok h3 hz (by simp [hz']))]
 rw [e];exact hl
theorem RunF.front {K:AS→Prop} {y:FE} {ys:List FE}:∀ (xs:List FE) (st:AS),(∀ x∈xs,cmpF x y=true)→RunF P G k K (xs++y::ys) st→RunF P G k K (y::(xs++ys)) st
 | [],st,_,h=>h
 | x::xs,st,hc,h=>by
  obtain ⟨v,u,R,s,e1,e2,h⟩:=h
  have:=RunF.front xs _ (fun z hz=>hc z (List.mem_cons_of_mem _ hz)) h
  exact RunF.swap (hc x List.mem_cons_self) ⟨v,u,R,s,e1,e2,this⟩
theorem RunF.head {K:AS→Prop} {y:FE} {l:List FE} (h:RunF P G k K (y::l) st):WR P G k [y.1] (RunF P G k K l) st:=by
 obtain ⟨v,u,R,s,_,_,h⟩:=h
 exact s.wr h
def dummyA:AOp:=⟨none,.lenA 0,none⟩
def drawOKF (ops:List Oper) (n:Nat) (ord:List Nat):Bool:=
 ([Region.Mode.text,.gc,.any].all fun md=>topoM md ops)&&((List.range n).all fun i=>ord.contains i)&&(ord.all fun i=>decide (i < n))
theorem drawnF_ok {id:Nat} {opsA:Array Oper} {l:List AOp} {E:Nat→FE} {ord:List Nat} {K:AS→Prop} {st:AS} (hc:compileOps P opsA opsA.toList=some l)
  (hok:drawOKF opsA.toList l.length ord=true) (hE0:∀ i,i < l.length→(E i).1=l.getD i dummyA) (hpw:ord.Pairwise fun i j=>i≠j∧(((cloL opsA.toList []).getD j []).contains i=true∨cmpF (E i) (E j)=true)) (hw:RunF P G k K (ord.map E) st) (hi:Inv F γ st.hp w) (hs:Slots F γ st.sl a) (hg:GlobOK F G) (hk:k≤γ.length)
  {QE:Exit→Act→World→Prop} (hQ:∀ a' w' F' γ' st',K st'→Ext k F γ w F' γ' w'→Inv F' γ' st'.hp w'→Slots F' γ' st'.sl a'→k≤γ'.length→QE .normal a' w'):(Code.region id opsA true).wp P QE a w:=by
 refine wp_region_draw fun t=>?_
 suffices hmd:∀ md:Region.Mode,wpAny P md opsA QE opsA.size (Array.replicate opsA.size false) a { w with drawn:=w.drawn+1 } by
  unfold Region.schedule
  split
  ·exact wpAny_sound opsA.size t _ a _ (hmd _)
  ·exact wpAny_sound opsA.size (t / 2) _ a _ (hmd _)
 intro md
 simp only [drawOKF,Bool.and_eq_true] at hok
 obtain ⟨⟨hb0,hall0⟩,hlt0⟩:=hok
 have comp:∀ (ops:List Oper) (l:List AOp),compileOps P opsA ops=some l→ops.length=l.length∧∀ (i:Nat) o x,ops[i]?=some o→l[i]?=some x→compileOpr P opsA o=some x:=by
  intro ops
  induction ops with
  | nil=>intro l h;simp [compileOps] at h;subst h;exact ⟨rfl,fun i o x h=>by simp at h⟩
  | cons o ops ih=>
   intro l h
   simp only [compileOps] at h
   cases h1:compileOpr P opsA o with
   | none=>simp [h1] at h
   | some y=>cases h2:compileOps P opsA ops with
    | none=>simp [h1,h2] at h
    | some r=>
     simp [h1,h2] at h
     subst h
     obtain ⟨i1,i2⟩:=ih r h2
     refine ⟨by simp [i1],fun i o' x' ho hx=>?_⟩
     cases i with
     | zero=>simp at ho hx;subst ho;subst hx;exact h1
     | succ i=>exact i2 i o' x' (by simpa using ho) (by simpa using hx)
 obtain ⟨hlen,hcomp⟩:=comp _ _ hc
 have hN:opsA.size=l.length:=by simpa using hlen
 have hop:∀ (i:Nat) oper,opsA[i]?=some oper→compileOpr P opsA oper=some (l.getD i dummyA):=by
  intro i oper h
  have hlt:i < l.length:=by rw [← hN];exact (Array.getElem?_eq_some_iff.1 h).1
  refine hcomp i oper _ (by simpa using h) ?_
  rw [List.getD_eq_getElem?_getD,List.getElem?_eq_getElem hlt]
  rfl
 have htop:topoM md opsA.toList=true:=by
  have:=List.all_eq_true.1 hb0 md (by cases md<;>simp)
  exact this
 simp only [topoM,topoE,Bool.and_eq_true] at htop
 generalize kahn (opsA.toList.map (edgesM md)) opsA.toList.length [] (List.range opsA.toList.length)=tord at htop
 obtain ⟨⟨ht1,ht3⟩,ht2⟩:=htop
 have hrange:∀ (i:Nat) o,opsA[i]?=some o→∀ e∈edgesM md o,e < opsA.size:=by
  intro i o ho e he
  have h1:=List.all_eq_true.1 ht3 (edgesM md o) (List.mem_map.2 ⟨o,by
   rw [Array.mem_toList_iff]
   exact Array.mem_of_getElem? ho,rfl⟩)
  simpa using List.all_eq_true.1 h1 e he
 have htall:∀ (listed:Array Bool),listed.size=opsA.size→Region.ready md opsA listed=[]→∀ (r done:List Nat),topoOK (opsA.toList.map (edgesM md)) r done=true→(∀ j∈done,j < opsA.size→listed.getD j false=true)→∀ j∈r,j < opsA.size→listed.getD j false=true:=by
  intro listed hsz hno r
  induction r with
  | nil=>intro done _ _ j hj;cases hj
  | cons i r ih=>
   intro done h hd j hj hlt
   simp only [topoOK,Bool.and_eq_true] at h
   have hi0:i < opsA.size→listed.getD i false=true:=by
    intro hil
    cases hlj:listed.getD i false with
    | true=>rfl
    | false=>
     exfalso
     have hoi:opsA[i]?=some opsA[i]:=Array.getElem?_eq_getElem hil
     have:i∈Region.ready md opsA listed:=ready_intro hsz hil hlj hoi (fun e he=>by
      have h3:=List.all_eq_true.1 h.1 e (by
       rw [List.getD_eq_getElem?_getD,List.getElem?_map]
       simp only [Array.getElem?_toList,hoi,Option.map_some,Option.getD_some]
       exact he)
      have hmem:e∈done:=by simpa using h3
      exact hd e hmem (hrange i _ hoi e he))
     rw [hno] at this
     cases this
   rcases List.mem_cons.1 hj with rfl | hj
   ·exact hi0 hlt
   ·exact ih (i::done) h.2 (fun q hq hql=>by
     rcases List.mem_cons.1 hq with rfl | hq
     ·exact hi0 hql
     ·exact hd q hq hql) j hj hlt
 have main:∀ (fuel:Nat) (listed:Array Bool) (a:Act) (w':World) (F':Fz) (γ':List OI) (U:List Nat) (st:AS),listed.size=opsA.size→(∀ i,i < opsA.size→(listed.getD i false=false↔i∈U))→(∀ i∈U,i < opsA.size)→
   (U.Pairwise fun i j=>i≠j∧(((cloL opsA.toList []).getD j []).contains i=true∨cmpF (E i) (E j)=true))→
   (∀ (i:Nat) o,opsA[i]?=some o→listed.getD i false=true→∀ e∈edgesOf o,listed.getD e false=true)→U.length≤fuel→
   Ext k F γ w F' γ' w'→Inv F' γ' st.hp w'→Slots F' γ' st.sl a→k≤γ'.length→RunF P G k K (U.map E) st→wpAny P md opsA QE fuel listed a w':=by
  intro fuel
  induction fuel with
  | zero=>
   intro listed a w' F' γ' U st hsz hU hUl hpw hcl hf hE hI hS hk' hA
   have hnil:U=[]:=List.eq_nil_of_length_eq_zero (by omega)
   subst hnil
   refine ⟨?_,hQ a w' F' γ' st hA hE hI hS hk'⟩
   rw [List.eq_nil_iff_forall_not_mem]
   intro i hi
   obtain ⟨h1,h2,_⟩:=ready_elim hsz hi
   have:=(hU i h1).1 h2
   simp at this
  | succ fuel ih=>
   intro listed a w' F' γ' U st hsz hU hUl hpw hcl hf hE hI hS hk' hA
   refine ⟨fun hno=>?_,fun i hi=>?_⟩
   ·have hz:∀ j,j < opsA.size→listed.getD j false=true:=by
     intro j hj
     refine htall listed hsz hno tord [] ht1 (fun j hj=>by cases hj) j ?_ hj
     have:=List.all_eq_true.1 ht2 j (by simpa using hj)
     simpa using this
    cases U with
    | nil=>exact hQ a w' F' γ' st hA hE hI hS hk'
    | cons u U=>
     have h1:=hUl u List.mem_cons_self
     have:=(hU u h1).2 List.mem_cons_self
     rw [hz u h1] at this;cases this
   ·obtain ⟨h1,h2,oper,hoi,he⟩:=ready_elim hsz hi
    have hclo:∀ j∈(cloL opsA.toList []).getD i [],listed.getD j false=true:=
     clo_ok (L:=fun j=>listed.getD j false=true) opsA.toList (fun i o h=>hcl i o (by simpa using h)) i oper (by simpa using hoi) he
    obtain ⟨R1,R2,rfl⟩:=List.append_of_mem ((hU i h1).1 h2)
    have hpw2:=List.pairwise_append.1 hpw
    have hfront:RunF P G k K (E i::(R1.map E++R2.map E)) st:=by
     refine RunF.front _ _ (fun x hx=>?_) (by simpa using hA)
     obtain ⟨r,hr,rfl⟩:=List.mem_map.1 hx
     have h3:=hpw2.2.2 r hr i List.mem_cons_self
     rcases h3.2 with h4 | h4
     ·have h5:=hclo r (by simpa using h4)
      have h6:=(hU r (hUl r (by simp [hr]))).2 (by simp [hr])
      rw [h5] at h6;cases h6
     ·exact h4
    rw [← List.map_append] at hfront
    refine WR.op (RunF.head hfront) hoi (by rw [hE0 i (by rw [← hN];exact h1)];exact hop i oper hoi) hI hS (hg.sub hE.sub) hk' (fun a'' w'' F'' γ'' st'' q1 q2 q3 q4 q5=>?_)
    have hnd:i∉R1∧i∉R2:=by
     refine ⟨fun h=>?_,fun h=>?_⟩
     ·exact (hpw2.2.2 i h i List.mem_cons_self).1 rfl
     ·exact ((List.pairwise_cons.1 hpw2.2.1).1 i h).1 rfl
    refine ih _ a'' w'' F'' γ'' (R1++R2) st'' (by simpa using hsz) (fun j hj=>?_) (fun j hj=>hUl j (by simp at hj ⊢;rcases hj with h | h<;>simp [h])) ?_ (fun j oj hoj hj e hee=>?_) (by simp at hf ⊢;omega) (hE.trans q2) q3 q4 q5 q1
    ·by_cases hij:i=j
     ·subst hij
      rw [show (listed.setIfInBounds i true).getD i false=true by rw [Array.getD_eq_getD_getElem?,Array.getElem?_setIfInBounds_self_of_lt (by omega)];rfl]
      simp [hnd]
     ·rw [getD_set_ne false hij,hU j hj]
      simp [Ne.symm hij]
    ·exact hpw.sublist (by simp)
    ·by_cases hij:i=j
     ·subst hij
      rw [hoi] at hoj;injection hoj with hoj;subst hoj
      exact getD_set_true (he e hee)
     ·rw [getD_set_ne false hij] at hj
      exact getD_set_true (hcl j oj hoj hj e hee)
 have hrep:∀ j,(Array.replicate opsA.size false).getD j false=false:=by
  intro j
  rw [Array.getD_eq_getD_getElem?]
  by_cases hjs:j < opsA.size<;>simp [hjs]
 have hlo:ord.length≤opsA.size:=by
  have hnd:ord.Nodup:=hpw.imp (fun h=>h.1)
  have:=List.Nodup.length_le_of_subset hnd (l₂:=List.range l.length) (fun i hi=>by
   have:=List.all_eq_true.1 hlt0 i hi
   simpa using this)
  simpa [hN] using this
 exact main opsA.size (Array.replicate opsA.size false) a { w with drawn:=w.drawn+1 } F γ ord st (by simp) (fun i hi=>by
   rw [hrep]
   have:=List.all_eq_true.1 hall0 i (by simpa [← hN] using hi)
   simpa using this) (fun i hi=>by
   have:=List.all_eq_true.1 hlt0 i hi
   rw [hN];simpa using this) hpw (fun i o ho hl=>by rw [hrep] at hl;cases hl) hlo (Ext.drawn _ _ _ _ _) (hi.drawn _) hs hk hw
end
end
section
def trL:List Nat:=[3]
end
section
inductive IT where
 | nil
 | st (i:Nat) (t:IT)
 | br (i:Nat) (t rest:IT)
 | stop
def oblA:AI→Bool
 | .mov _=>true
 | .nilc _=>true
 | .addo _ _=>true
 | .ext _ _=>true
 | _=>false
theorem obl_pure {ai:AI} (h:oblA ai=true):ai.isPure=true:=by
 cases ai<;>first | rfl | cases h
def atO:List AOp→Nat→AOp
 | [],_=>⟨none,.lenA 0,none⟩
 | o::_,0=>o
 | _::l,n+1=>atO l n
def rmv (U:List Nat) (j:Nat):List Nat:=U.filter fun x=>x != j
def rdyT (c:List (List Nat)) (U:List Nat) (j:Nat):Bool:=U.all fun e=>!(c.getD j []).contains e
def aprt (opsA:Array Oper) (i j:Nat):Bool:=match opsA[i]?,opsA[j]? with
 | some x,some y=>x.apart opsA y
 | _,_=>false
def fstb (c:List (List Nat)) (ops:List AOp) (opsA:Array Oper) (U:List Nat) (i:Nat):Bool:=
 U.all fun j=>j==i||(c.getD j []).contains i||(aprt opsA i j&&(oblA (atO ops i).ai||((atO ops i).ai.isPure&&(atO ops j).ai.isPure)))
def isStop:IT→Bool
 | .stop=>true
 | _=>false
def vT (c:List (List Nat)) (ops:List AOp) (opsA:Array Oper):IT→List Nat→List Nat→Bool
 | .nil,U,D=>U.isEmpty&&D.isEmpty
 | .st i t,U,D=>D.isEmpty&&U.contains i&&fstb c ops opsA U i&&vT c ops opsA t (rmv U i) []
 | .br i t r,U,D=>U.contains i&&vT c ops opsA t (rmv U i) []&&vT c ops opsA r U (i::D)
 | .stop,U,D=>!D.isEmpty&&U.all fun j=>D.contains j||!rdyT c U j
def mkT (c:List (List Nat)) (ops:List AOp) (opsA:Array Oper):Nat→Nat→List Nat→Option (IT × Nat)
 | 0,_,_=>none
 | _+1,0,_=>none
 | n+1,b+1,U=>match U with
  | []=>some (.nil,b)
  | _::_=>match U.find? fun i=>rdyT c U i&&fstb c ops opsA U i with
   | some i=>(mkT c ops opsA n b (rmv U i)).map fun p=>(.st i p.1,p.2)
   | none=>(U.filter (rdyT c U)).foldr (fun i r=>r.bind fun q=>(mkT c ops opsA n q.2 (rmv U i)).map fun p=>(.br i p.1 q.1,p.2)) (some (.stop,b))
section
variable {P:Program} {F:Fz} {γ:List OI}
theorem obl_op {o:Oper} {ai:AI} (hc:compileOp P o=some ai) (hob:oblA ai=true):
  (∃ x,o.op=.move x∨o.op=.assign x)∨(∃ x,o.op=.nilCheck x)∨(∃ s x f,o.op=.fieldAddr s x f)∨∃ x n,o.op=.extract x n:=by
 obtain ⟨dst,op,type,pos,after,guard⟩:=o
 unfold compileOp at hc
 cases op
 case move x=>simp_all
 case assign x=>simp_all
 case nilCheck x=>simp_all
 case fieldAddr s x f=>simp_all
 case extract x n=>simp_all
 case makeFunc fn a b=>
  cases fn<;>simp only [reduceCtorEq] at hc
  split at hc
  ·cases hc;cases hob
  grind
 all_goals simp only [reduceCtorEq] at hc
 all_goals try unfold compileBin at hc
 all_goals try unfold compileNil at hc
 all_goals try unfold compileConv at hc
 all_goals try unfold compileCall at hc
 all_goals repeat' (first | (obtain ⟨_,_,hc⟩:=hc) | split at hc | (simp only [Option.bind_eq_some_iff,Option.map_eq_some_iff] at hc))
 all_goals first | contradiction | (cases hc;done) | (injection hc with hc;subst hc;cases hob;done) | (subst hc;cases hob;done) | (cases hc;cases hob;done)
theorem extract_any {x r:Value} {n:Nat} {w w':World} (h:(Instr.extract x n).run P w=.ok r w):(Instr.extract x n).run P w'=.ok r w':=by
 unfold Instr.extract at *
 cases x<;>try simp_all
 rename_i vs
 cases hv:vs[n]? with
 | none=>simp_all
 | some v=>simp_all
theorem evP_obl {G:Glob} {as:AS} {a:Act} {o:Oper} {ai:AI} {v:AV} (w0:World) (hc:compileOp P o=some ai) (he:evP G as ai=some v) (hob:oblA ai=true) (hs:Slots F γ as.sl a) (hg:GlobOK F G):
  ∃ x,(∀ w,(execOp a.eval o).run P w=.ok (.value x) w)∧RV F γ v x:=by
 have lift:∀ (s:Sem Value),(∃ r,(∀ w,s.run P w=.ok r w)∧RV F γ v r)→∃ x,(∀ w,((do pure (Next.value (← s))):Sem Next).run P w=.ok (.value x) w)∧RV F γ v x:=by
  simp_all
 have ra:=fun x=>rv_arg (G:=G) hs hg x
 have hop:=obl_op hc hob
 obtain ⟨dst,op,type,pos,after,guard⟩:=o
 simp only at hop
 rcases hop with ⟨x,rfl | rfl⟩ | ⟨x,rfl⟩ | ⟨s,x,f,rfl⟩ | ⟨x,n,rfl⟩<;>simp only [compileOp] at hc
 ·injection hc with hc;subst hc
  simp only [evP,Option.some.injEq] at he;subst he
  exact ⟨_,fun _=>rfl,ra x⟩
 ·injection hc with hc;subst hc
  simp only [evP,Option.some.injEq] at he;subst he
  exact ⟨_,fun _=>rfl,ra x⟩
 ·injection hc with hc;subst hc
  obtain ⟨hv,ad,hx⟩:=nilc_ok he (ra x)
  simp_all[execOp]
 ·cases h1:fieldP P s f with
  | none=>simp_all
  | some fl=>cases h2:sizeP P fl.type with
   | none=>simp_all
   | some n=>
    simp only [h1,h2,Option.bind_some] at hc
    split at hc
    ·cases hc
    ·rename_i hn
     injection hc with hc;subst hc
     obtain ⟨b,off,hx,hv⟩:=addoV_ok he (ra x)
     unfold fieldP at h1
     split at h1
     ·rename_i fs hu
      unfold sizeP at h2
      cases hin:P.info? fl.type with
      | none=>simp_all
      | some inf=>
       simp only [hin,Option.map_some,Option.some.injEq] at h2
       refine lift _ ⟨_,fun w=>?_,hv⟩
       simp [Instr.fieldAt,hx,run_underlying hu,h1,Instr.sureAddr,fieldPlace,sizeOf,typeInfo,hin,h2,hn,addr_add]
     grind
 ·injection hc with hc;subst hc
  obtain ⟨r,h1,h2⟩:=ext_ok (P:=P) (w:=w0) he (ra x)
  exact lift _ ⟨r,fun w=>extract_any h1,h2⟩
end
def Q0:Exit→Act→World→Prop:=fun _ _ _=>False
def YAt (P:Program) (ops:Array Oper) (b:Bool) (o:Oper) (x:Value) (a:Act) (w:World):Prop:=
 (Region.wanted o (yielded ops a.tmps)=true∧∀ w',(b=true∨w'=w)→(execOp a.eval o).run P w'=.ok (.value x) w')∨(Region.wanted o (yielded ops a.tmps)=false∧x=undef)
def TN (P:Program) (opsA:Array Oper) (ops:List AOp) (i:Nat) (K:Act→World→Prop) (a:Act) (w:World):Prop:=
 if (atO ops i).ai.isPure=true then ∃ oi x,opsA[i]?=some oi∧YAt P opsA (oblA (atO ops i).ai) oi x a w∧K (a.put oi.dst x) w else wpOp P opsA Q0 i K a w
def TC (P:Program) (opsA:Array Oper) (ops:List AOp) (KT:Act→World→Prop):IT→Act→World→Prop
 | .nil,a,w=>KT a w
 | .st i t,a,w=>TN P opsA ops i (TC P opsA ops KT t) a w
 | .br i t r,a,w=>TN P opsA ops i (TC P opsA ops KT t) a w∧TC P opsA ops KT r a w
 | .stop,_,_=>True
def AN (P:Program) (G:Glob) (k:Nat) (o:AOp) (K:AS→Prop) (st:AS):Prop:=
 if o.ai.isPure=true then (gNo G st o.guard∧K ⟨putS st.sl o.dst (.tup []),st.hp⟩)∨(gOK G st o.guard∧∃ v,evP G st o.ai=some v∧K ⟨putS st.sl o.dst v,st.hp⟩) else WR P G k [o] K st
def TW (P:Program) (G:Glob) (k:Nat) (ops:List AOp) (K:AS→Prop):IT→AS→Prop
 | .nil,st=>K st
 | .st i t,st=>AN P G k (atO ops i) (TW P G k ops K t) st
 | .br i t r,st=>AN P G k (atO ops i) (TW P G k ops K t) st∧TW P G k ops K r st
 | .stop,_=>True
def okTr (P:Program) (opsA:Array Oper) (ops:List AOp):IT→Prop
 | .nil=>True
 | .st i t=>(∃ oper,opsA[i]?=some oper∧compileOpr P opsA oper=some (atO ops i))∧okTr P opsA ops t
 | .br i t r=>(∃ oper,opsA[i]?=some oper∧compileOpr P opsA oper=some (atO ops i))∧okTr P opsA ops t∧okTr P opsA ops r
 | .stop=>True
section
variable {P:Program} {G:Glob} {k:Nat} {opsA:Array Oper} {ops:List AOp} {c:List (List Nat)} {F:Fz} {γ:List OI} {w:World} {a:Act} {st:AS}
theorem AN.mono {o:AOp} {K K':AS→Prop} (hK:∀ s,K s→K' s) (h:AN P G k o K st):AN P G k o K' st:=by
 unfold AN at *
 split
 ·grind
 ·rename_i hp
  rw [if_neg hp] at h
  exact h.mono hK
theorem TW.mono {K K':AS→Prop} (hK:∀ s,K s→K' s):∀ (t:IT) (st:AS),TW P G k ops K t st→TW P G k ops K' t st
 | .nil,st,h=>hK _ h
 | .st i t,st,h=>AN.mono (fun s hs=>TW.mono hK t s hs) h
 | .br i t r,st,h=>⟨AN.mono (fun s hs=>TW.mono hK t s hs) h.1,TW.mono hK r st h.2⟩
 | .stop,st,_=>trivial
theorem AN_TN {F0:Fz} {γ0:List OI} {w0:World} {i:Nat} {oper:Oper} {K:AS→Prop} {KC:Act→World→Prop} (hoi:opsA[i]?=some oper) (hco:compileOpr P opsA oper=some (atO ops i)) (h:AN P G k (atO ops i) K st)
  (hE:Ext k F0 γ0 w0 F γ w) (hi:Inv F γ st.hp w) (hs:Slots F γ st.sl a) (hg:GlobOK F0 G) (hk:k≤γ.length)
  (hN:∀ a' w' F' γ' st',K st'→Ext k F0 γ0 w0 F' γ' w'→Inv F' γ' st'.hp w'→Slots F' γ' st'.sl a'→k≤γ'.length→KC a' w'):TN P opsA ops i KC a w:=by
 have hgF:GlobOK F G:=hg.sub hE.sub
 unfold TN
 unfold AN at h
 split
 ·rename_i hp
  rw [if_pos hp] at h
  have hco':=hco
  simp only [compileOpr] at hco'
  obtain ⟨ai,h1,hco'⟩:=Option.bind_eq_some_iff.1 hco'
  obtain ⟨g,h2,h3⟩:=Option.map_eq_some_iff.1 hco'
  have e1:ai=(atO ops i).ai:=by grind
  have e2:g=(atO ops i).guard:=by grind
  have e3:oper.dst=(atO ops i).dst:=by grind
  rw [e1] at h1;rw [e2] at h2
  rcases h with ⟨hn,hK⟩ | ⟨hgo,v,hv,hK⟩
  ·exact ⟨oper,undef,hoi,.inr ⟨(wanted_of (b':=true) hs h2).2 hn,rfl⟩,hN _ _ _ _ _ hK hE hi (by rw [e3];exact hs.put _ undef_ok) hk⟩
  ·cases hob:oblA (atO ops i).ai with
   | true=>
    obtain ⟨x,hx,hr⟩:=evP_obl w h1 hv hob hs hgF
    exact ⟨oper,x,hoi,.inl ⟨(wanted_of (b':=true) hs h2).1 hgo,fun w' _=>hx w'⟩,hN _ _ _ _ _ hK hE hi (by rw [e3];exact hs.put _ hr) hk⟩
   | false=>
    obtain ⟨x,hx,hr⟩:=evP_ok h1 hv hi hs hgF
    refine ⟨oper,x,hoi,.inl ⟨(wanted_of (b':=true) hs h2).1 hgo,fun w' hw=>?_⟩,hN _ _ _ _ _ hK hE hi (by rw [e3];exact hs.put _ hr) hk⟩
    simp_all
 ·rename_i hp
  rw [if_neg hp] at h
  exact WR.op h hoi hco hi hs hgF hk (fun a' w' F' γ' st' q1 q2 q3 q4 q5=>hN a' w' F' γ' st' q1 (hE.trans q2) q3 q4 q5)
theorem TW_TC {F0:Fz} {γ0:List OI} {w0:World} {K:AS→Prop} {KC:Act→World→Prop} (hg:GlobOK F0 G)
  (hN:∀ a' w' F' γ' st',K st'→Ext k F0 γ0 w0 F' γ' w'→Inv F' γ' st'.hp w'→Slots F' γ' st'.sl a'→k≤γ'.length→KC a' w'):
  ∀ (t:IT) (F:Fz) (γ:List OI) (a:Act) (w:World) (st:AS),okTr P opsA ops t→TW P G k ops K t st→Ext k F0 γ0 w0 F γ w→Inv F γ st.hp w→Slots F γ st.sl a→k≤γ.length→TC P opsA ops KC t a w
 | .nil,F,γ,a,w,st,_,h,hE,hi,hs,hk=>hN a w F γ st h hE hi hs hk
 | .st i t,F,γ,a,w,st,ho,h,hE,hi,hs,hk=>by
  obtain ⟨⟨oper,hoi,hco⟩,ho⟩:=ho
  exact AN_TN hoi hco h hE hi hs hg hk (fun a' w' F' γ' st' q1 q2 q3 q4 q5=>TW_TC hg hN t F' γ' a' w' st' ho q1 q2 q3 q4 q5)
 | .br i t r,F,γ,a,w,st,ho,h,hE,hi,hs,hk=>by
  obtain ⟨⟨oper,hoi,hco⟩,ho,hr⟩:=ho
  exact ⟨AN_TN hoi hco h.1 hE hi hs hg hk (fun a' w' F' γ' st' q1 q2 q3 q4 q5=>TW_TC hg hN t F' γ' a' w' st' ho q1 q2 q3 q4 q5),TW_TC hg hN r F γ a w st hr h.2 hE hi hs hk⟩
 | .stop,F,γ,a,w,st,_,_,_,_,_,_=>trivial
theorem mem_rmv {U:List Nat} {i j:Nat}:i∈rmv U j↔i∈U∧i≠j:=by
 simp [rmv,List.mem_filter]
theorem rmv_comm (U:List Nat) (i j:Nat):rmv (rmv U i) j=rmv (rmv U j) i:=by
 simp_all[rmv,List.filter_filter,Bool.and_comm]
theorem rdy_spec {U:List Nat} {j:Nat}:rdyT c U j=true↔∀ e∈U,e∉c.getD j []:=by
 simp [rdyT,List.all_eq_true]
theorem rdy_rmv {U:List Nat} {i j:Nat} (h:rdyT c U j=true):rdyT c (rmv U i) j=true:=
 rdy_spec.2 (fun e he=>rdy_spec.1 h e (mem_rmv.1 he).1)
theorem fstb_rmv {U:List Nat} {i j:Nat} (h:fstb c ops opsA U i=true):fstb c ops opsA (rmv U j) i=true:=by
 grind[fstb,List.all_eq_true,mem_rmv]
theorem fstb_spec {U:List Nat} {i j:Nat} (h:fstb c ops opsA U i=true) (hi:i∈U) (hj:j∈U) (hne:i≠j) (hr:rdyT c U j=true):
  (∃ x y,opsA[i]?=some x∧opsA[j]?=some y∧x.apart opsA y=true)∧(oblA (atO ops i).ai=true∨((atO ops i).ai.isPure=true∧(atO ops j).ai.isPure=true)):=by
 have h1:=List.all_eq_true.1 h j hj
 have h2:=rdy_spec.1 hr i hi
 have h3:(j==i)=false:=by grind
 have h4:(c.getD j []).contains i=false:=by simp_all
 rw [h3,h4] at h1
 simp only [Bool.false_or,Bool.and_eq_true,Bool.or_eq_true] at h1
 grind[aprt]
theorem no_select {o:Oper} {ai:AI} (h:compileOp P o=some ai):∀ cs b,o.op≠.select cs b:=by
 grind[guard,compileOp]
variable (hsel:∀ (i:Nat) (o:Oper),opsA[i]?=some o→∀ cs b,o.op≠.select cs b)
variable {KT:Act→World→Prop}
include hsel
theorem YAt.put {b:Bool} {i j:Nat} {oi oj:Oper} {x u:Value} (hi:opsA[i]?=some oi) (hap:∀ d,oj.dst=some d→d∉oi.looksAt opsA) (h:YAt P opsA b oi x a w):YAt P opsA b oi x (a.put oj.dst u) w:=by
 unfold YAt at *
 rw [execOp_put oi (hsel i oi hi) a oj.dst u hap,wanted_put oi a oj.dst u hap]
 exact h
theorem YAt.unput {b:Bool} {i j:Nat} {oi oj:Oper} {x u:Value} (hi:opsA[i]?=some oi) (hap:∀ d,oj.dst=some d→d∉oi.looksAt opsA) (h:YAt P opsA b oi x (a.put oj.dst u) w):YAt P opsA b oi x a w:=by
 unfold YAt at *
 rw [execOp_put oi (hsel i oi hi) a oj.dst u hap,wanted_put oi a oj.dst u hap] at h
 exact h
theorem pullP {j:Nat} (hpj:(atO ops j).ai.isPure=true):∀ (t:IT) (U D:List Nat) (a:Act) (w:World),vT c ops opsA t U D=true→j∈U→j∉D→rdyT c U j=true→TC P opsA ops KT t a w→
  ∃ oj x,opsA[j]?=some oj∧YAt P opsA (oblA (atO ops j).ai) oj x a w∧∃ t',vT c ops opsA t' (rmv U j) []=true∧TC P opsA ops KT t' (a.put oj.dst x) w:=by
 intro t
 induction t with
 | nil=>
  intro U D a w hv hj
  simp only [vT,Bool.and_eq_true,List.isEmpty_iff] at hv
  rw [hv.1] at hj;cases hj
 | st i t ih=>
  intro U D a w hv hj hD hr h
  simp only [vT,Bool.and_eq_true] at hv
  obtain ⟨⟨⟨hd,hiU⟩,hf⟩,hv⟩:=hv
  have hiU:i∈U:=by simpa using hiU
  by_cases hij:i=j
  ·subst hij
   simp only [TC,TN,if_pos hpj] at h
   obtain ⟨oi,x,h1,h2,h3⟩:=h
   exact ⟨oi,x,h1,h2,t,hv,h3⟩
  ·obtain ⟨⟨oi,oj,hoi,hoj,hap⟩,hk⟩:=fstb_spec hf hiU hj hij hr
   have hpi:(atO ops i).ai.isPure=true:=by
    rcases hk with hk | hk
    ·exact obl_pure hk
    ·exact hk.1
   simp only [TC,TN,if_pos hpi] at h
   obtain ⟨oi',x,h1,h2,h3⟩:=h
   rw [hoi] at h1;injection h1 with h1;subst h1
   obtain ⟨oj',u,g1,g2,t',g3,g4⟩:=ih (rmv U i) [] _ w hv (mem_rmv.2 ⟨hj,Ne.symm hij⟩) (by simp) (rdy_rmv hr) h3
   rw [hoj] at g1;injection g1 with g1;subst g1
   obtain ⟨a1,a2,a3⟩:=Oper.apart_spec hap
   refine ⟨oj,u,hoj,YAt.unput hsel (j:=i) hoj a1 g2,.st i t', ?_, ?_⟩
   ·simp only [vT,Bool.and_eq_true]
    exact ⟨⟨⟨rfl,by grind[mem_rmv]⟩,fstb_rmv hf⟩,by grind[rmv_comm]⟩
   ·simp only [TC,TN,if_pos hpi]
    exact ⟨oi,x,hoi,YAt.put hsel (j:=j) hoi a3 h2,by rw [← Act.put_comm a x u a2];exact g4⟩
 | br i t r iht ihr=>
  intro U D a w hv hj hD hr h
  simp only [vT,Bool.and_eq_true] at hv
  obtain ⟨⟨hiU,hv⟩,hvr⟩:=hv
  by_cases hij:i=j
  ·subst hij
   simp only [TC,TN,if_pos hpj] at h
   obtain ⟨⟨oi,x,h1,h2,h3⟩,_⟩:=h
   exact ⟨oi,x,h1,h2,t,hv,h3⟩
  ·exact ihr U (i::D) a w hvr hj (by simp [hD,Ne.symm hij]) hr h.2
 | stop=>
  intro U D a w hv hj hD hr h
  simp only [vT,Bool.and_eq_true] at hv
  have:=List.all_eq_true.1 hv.2 j hj
  rw [hr] at this
  simp [hD] at this
theorem pullE {j:Nat} (hpj:¬ (atO ops j).ai.isPure=true):∀ (t:IT) (U D:List Nat) (a:Act) (w:World),vT c ops opsA t U D=true→j∈U→j∉D→rdyT c U j=true→TC P opsA ops KT t a w→
  wpOp P opsA Q0 j (fun a' w'=>∃ t',vT c ops opsA t' (rmv U j) []=true∧TC P opsA ops KT t' a' w') a w:=by
 intro t
 induction t with
 | nil=>
  intro U D a w hv hj
  simp only [vT,Bool.and_eq_true,List.isEmpty_iff] at hv
  rw [hv.1] at hj;cases hj
 | st i t ih=>
  intro U D a w hv hj hD hr h
  simp only [vT,Bool.and_eq_true] at hv
  obtain ⟨⟨⟨hd,hiU⟩,hf⟩,hv⟩:=hv
  have hiU:i∈U:=by simpa using hiU
  by_cases hij:i=j
  ·subst hij
   simp only [TC,TN,if_neg hpj] at h
   exact wpOp_mono (fun a' w' h=>⟨t,hv,h⟩) h
  ·obtain ⟨⟨oi,oj,hoi,hoj,hap⟩,hk⟩:=fstb_spec hf hiU hj hij hr
   have hob:oblA (atO ops i).ai=true:=by
    rcases hk with hk | hk
    ·exact hk
    ·simp_all
   have hpi:=obl_pure hob
   simp only [TC,TN,if_pos hpi] at h
   obtain ⟨oi',x,h1,h2,h3⟩:=h
   rw [hoi] at h1;injection h1 with h1;subst h1
   have hy:Yields P opsA oi x a:=by
    rcases h2 with ⟨b1,b2⟩ | b
    ·exact .inl ⟨b1,fun w'=>b2 w' (.inl hob)⟩
    ·exact .inr b
   have g:=ih (rmv U i) [] _ w hv (mem_rmv.2 ⟨hj,Ne.symm hij⟩) (by simp) (rdy_rmv hr) h3
   have g2:=wpOp_put hoj hap (hsel i oi hoi) (hsel j oj hoj) (fun _ _ _ h=>h) hy g
   refine wpOp_mono (fun a' w' ⟨b1,t',b2,b3⟩=>⟨.st i t', ?_, ?_⟩) g2
   ·simp only [vT,Bool.and_eq_true]
    exact ⟨⟨⟨rfl,by grind[mem_rmv]⟩,fstb_rmv hf⟩,by grind[rmv_comm]⟩
   ·simp only [TC,TN,if_pos hpi]
    refine ⟨oi,x,hoi, ?_,b3⟩
    rcases b1 with ⟨c1,c2⟩ | c
    ·exact .inl ⟨c1,fun w' _=>c2 w'⟩
    ·exact .inr c
 | br i t r iht ihr=>
  intro U D a w hv hj hD hr h
  simp only [vT,Bool.and_eq_true] at hv
  obtain ⟨⟨hiU,hv⟩,hvr⟩:=hv
  by_cases hij:i=j
  ·subst hij
   simp only [TC,TN,if_neg hpj] at h
   exact wpOp_mono (fun a' w' h=>⟨t,hv,h⟩) h.1
  ·exact ihr U (i::D) a w hvr hj (by simp [hD,Ne.symm hij]) hr h.2
 | stop=>
  intro U D a w hv hj hD hr h
  simp only [vT,Bool.and_eq_true] at hv
  have:=List.all_eq_true.1 hv.2 j hj
  rw [hr] at this
  simp [hD] at this
theorem pullT {QE:Exit→Act→World→Prop} {j:Nat} {t:IT} {U:List Nat} {a:Act} {w:World} (hv:vT c ops opsA t U []=true) (hj:j∈U) (hr:rdyT c U j=true) (h:TC P opsA ops KT t a w):
  wpOp P opsA QE j (fun a' w'=>∃ t',vT c ops opsA t' (rmv U j) []=true∧TC P opsA ops KT t' a' w') a w:=by
 by_cases hp:(atO ops j).ai.isPure=true
 ·obtain ⟨oj,x,h1,h2,h3⟩:=pullP hsel hp t U [] a w hv hj (by simp) hr h
  unfold wpOp
  simp only [h1]
  rcases h2 with ⟨b1,b2⟩ | ⟨b1,rfl⟩
  ·simp only [b1,if_true,Oper.wp,b2 w (.inr rfl),Oper.upon];exact .inl h3
  ·simp only [b1,Bool.false_eq_true,if_false];exact h3
 ·have g:=pullE hsel hp t U [] a w hv hj (by simp) hr h
  unfold wpOp at *
  split
  ·rename_i ho;rw [ho] at g;exact g
  ·rename_i o ho
   rw [ho] at g
   simp only at g
   split
   ·rename_i hw
    rw [if_pos hw] at g
    rcases g with g | ⟨_,_,_,g⟩
    ·exact .inl (wpQ (fun _ _ _ _ h=>h.elim) g)
    ·exact g.elim
   ·rename_i hw
    rw [if_neg hw] at g
    exact g
end
section
variable {P:Program} {G:Glob} {k:Nat} {F:Fz} {γ:List OI} {w:World} {a:Act}
theorem vT_nil {c:List (List Nat)} {ops:List AOp} {opsA:Array Oper} {t:IT} (h:vT c ops opsA t [] []=true):t=.nil:=by
 cases t<;>simp [vT] at h
 rfl
def drawOKT (ops:List Oper):Bool:=[Region.Mode.text,.gc,.any].all fun md=>topoM md ops
theorem comp_at:∀ (l:List AOp) (i:Nat),i < l.length→l[i]?=some (atO l i)
 | [],i,h=>by simp at h
 | o::l,0,h=>rfl
 | o::l,i+1,h=>by simp only [List.getElem?_cons_succ,atO];exact comp_at l i (by grind)
theorem vT_okT {c:List (List Nat)} {ops:List AOp} {opsA:Array Oper} (hop:∀ i,i < ops.length→∃ oper,opsA[i]?=some oper∧compileOpr P opsA oper=some (atO ops i)):
  ∀ (t:IT) (U D:List Nat),vT c ops opsA t U D=true→(∀ i∈U,i < ops.length)→okTr P opsA ops t
 | .nil,_,_,_,_=>trivial
 | .stop,_,_,_,_=>trivial
 | .st i t,U,D,hv,hU=>by
  simp only [vT,Bool.and_eq_true] at hv
  obtain ⟨⟨⟨hd,hiU⟩,hf⟩,hv⟩:=hv
  exact ⟨hop i (hU i (by simp_all)),vT_okT hop t _ _ hv (fun j hj=>hU j (mem_rmv.1 hj).1)⟩
 | .br i t r,U,D,hv,hU=>by
  simp only [vT,Bool.and_eq_true] at hv
  obtain ⟨⟨hiU,hv⟩,hvr⟩:=hv
  exact ⟨hop i (hU i (by simp_all)),vT_okT hop t _ _ hv (fun j hj=>hU j (mem_rmv.1 hj).1),vT_okT hop r _ _ hvr hU⟩
theorem drawnT_ok {id:Nat} {opsA:Array Oper} {l:List AOp} {t:IT} {K:AS→Prop} {st:AS} (hc:compileOps P opsA opsA.toList=some l)
  (hok:drawOKT opsA.toList=true) (hv:vT (cloL opsA.toList []) l opsA t (List.range l.length) []=true) (hw:TW P G k l K t st) (hi:Inv F γ st.hp w) (hs:Slots F γ st.sl a) (hg:GlobOK F G) (hk:k≤γ.length)
  {QE:Exit→Act→World→Prop} (hQ:∀ a' w' F' γ' st',K st'→Ext k F γ w F' γ' w'→Inv F' γ' st'.hp w'→Slots F' γ' st'.sl a'→k≤γ'.length→QE .normal a' w'):(Code.region id opsA true).wp P QE a w:=by
 refine wp_region_draw fun t=>?_
 suffices hmd:∀ md:Region.Mode,wpAny P md opsA QE opsA.size (Array.replicate opsA.size false) a { w with drawn:=w.drawn+1 } by
  unfold Region.schedule
  split
  ·exact wpAny_sound opsA.size t _ a _ (hmd _)
  ·exact wpAny_sound opsA.size (t / 2) _ a _ (hmd _)
 intro md
 have comp:∀ (ops:List Oper) (l:List AOp),compileOps P opsA ops=some l→ops.length=l.length∧∀ (i:Nat) o x,ops[i]?=some o→l[i]?=some x→compileOpr P opsA o=some x:=by
  intro ops
  induction ops with
  | nil=>intro l h;simp [compileOps] at h;subst h;exact ⟨rfl,fun i o x h=>by simp at h⟩
  | cons o ops ih=>
   intro l h
   simp only [compileOps] at h
   cases h1:compileOpr P opsA o with
   | none=>simp [h1] at h
   | some y=>cases h2:compileOps P opsA ops with
    | none=>simp [h1,h2] at h
    | some r=>
     simp [h1,h2] at h
     subst h
     obtain ⟨i1,i2⟩:=ih r h2
     refine ⟨by simp [i1],fun i o' x' ho hx=>?_⟩
     cases i with
     | zero=>simp_all
     | succ i=>grind
 obtain ⟨hlen,hcomp⟩:=comp _ _ hc
 have hN:opsA.size=l.length:=by simpa using hlen
 have hop:∀ (i:Nat) oper,opsA[i]?=some oper→compileOpr P opsA oper=some (atO l i):=by
  intro i oper h
  have hlt:i < l.length:=by rw [← hN];exact (Array.getElem?_eq_some_iff.1 h).1
  exact hcomp i oper _ (by simpa using h) (comp_at l i hlt)
 have hsel:∀ (i:Nat) (o:Oper),opsA[i]?=some o→∀ cs b,o.op≠.select cs b:=by
  intro i o ho
  have h1:=hop i o ho
  simp only [compileOpr] at h1
  obtain ⟨ai,h2,_⟩:=Option.bind_eq_some_iff.1 h1
  exact no_select h2
 have htop:topoM md opsA.toList=true:=by
  have:=List.all_eq_true.1 hok md (by cases md<;>simp)
  exact this
 simp only [topoM,topoE,Bool.and_eq_true] at htop
 generalize kahn (opsA.toList.map (edgesM md)) opsA.toList.length [] (List.range opsA.toList.length)=tord at htop
 obtain ⟨⟨ht1,ht3⟩,ht2⟩:=htop
 have hrange:∀ (i:Nat) o,opsA[i]?=some o→∀ e∈edgesM md o,e < opsA.size:=by
  intro i o ho e he
  have h1:=List.all_eq_true.1 ht3 (edgesM md o) (List.mem_map.2 ⟨o,by
   rw [Array.mem_toList_iff]
   exact Array.mem_of_getElem? ho,rfl⟩)
  simpa using List.all_eq_true.1 h1 e he
 have htall:∀ (listed:Array Bool),listed.size=opsA.size→Region.ready md opsA listed=[]→∀ (r done:List Nat),topoOK (opsA.toList.map (edgesM md)) r done=true→(∀ j∈done,j < opsA.size→listed.getD j false=true)→∀ j∈r,j < opsA.size→listed.getD j false=true:=by
  intro listed hsz hno r
  induction r with
  | nil=>intro done _ _ j hj;cases hj
  | cons i r ih=>
   intro done h hd j hj hlt
   simp only [topoOK,Bool.and_eq_true] at h
   have hi0:i < opsA.size→listed.getD i false=true:=by
    intro hil
    cases hlj:listed.getD i false with
    | true=>rfl
    | false=>
     exfalso
     have hoi:opsA[i]?=some opsA[i]:=Array.getElem?_eq_getElem hil
     have:i∈Region.ready md opsA listed:=ready_intro hsz hil hlj hoi (fun e he=>by
      have h3:=List.all_eq_true.1 h.1 e (by
       grind)
      have hmem:e∈done:=by grind
      exact hd e hmem (hrange i _ hoi e he))
     rw [hno] at this
     cases this
   rcases List.mem_cons.1 hj with rfl | hj
   ·grind
   ·grind
 have hall:∀ (listed:Array Bool),listed.size=opsA.size→Region.ready md opsA listed=[]→∀ j,j < opsA.size→listed.getD j false=true:=by
  intro listed hsz hno j hj
  refine htall listed hsz hno tord [] ht1 (fun j hj=>by cases hj) j ?_ hj
  have:=List.all_eq_true.1 ht2 j (by simpa using hj)
  simpa using this
 have main:∀ (fuel:Nat) (listed:Array Bool) (a:Act) (w':World) (U:List Nat) (t:IT),listed.size=opsA.size→(∀ i,i < opsA.size→(listed.getD i false=false↔i∈U))→(∀ i∈U,i < opsA.size)→U.length≤fuel→
   (∀ (i:Nat) o,opsA[i]?=some o→listed.getD i false=true→∀ e∈edgesOf o,listed.getD e false=true)→
   vT (cloL opsA.toList []) l opsA t U []=true→TC P opsA l (fun a w=>QE .normal a w) t a w'→wpAny P md opsA QE fuel listed a w':=by
  intro fuel
  induction fuel with
  | zero=>
   intro listed a w' U t hsz hU hUl hf hcl hv hT
   have hnil:U=[]:=List.eq_nil_of_length_eq_zero (by omega)
   subst hnil
   have:=vT_nil hv
   subst this
   refine ⟨?_,hT⟩
   rw [List.eq_nil_iff_forall_not_mem]
   intro i hi
   obtain ⟨h1,h2,_⟩:=ready_elim hsz hi
   have:=(hU i h1).1 h2
   simp at this
  | succ fuel ih=>
   intro listed a w' U t hsz hU hUl hf hcl hv hT
   refine ⟨fun hno=>?_,fun i hi=>?_⟩
   ·have hz:=hall listed hsz hno
    cases U with
    | nil=>have:=vT_nil hv;subst this;exact hT
    | cons u U=>
     have h1:=hUl u List.mem_cons_self
     have:=(hU u h1).2 List.mem_cons_self
     rw [hz u h1] at this;cases this
   ·obtain ⟨h1,h2,oper,hoi,he⟩:=ready_elim hsz hi
    have hclo:∀ j∈(cloL opsA.toList []).getD i [],listed.getD j false=true:=
     clo_ok (L:=fun j=>listed.getD j false=true) opsA.toList (fun i o h=>hcl i o (by simpa using h)) i oper (by simpa using hoi) he
    have hiU:=(hU i h1).1 h2
    have hrd:rdyT (cloL opsA.toList []) U i=true:=rdy_spec.2 (fun e heU hec=>by
     have g1:=hclo e hec
     have g2:=(hU e (hUl e heU)).2 heU
     rw [g1] at g2;cases g2)
    refine wpOp_mono (fun a'' w'' ⟨t',g1,g2⟩=>?_) (pullT hsel hv hiU hrd hT)
    refine ih _ a'' w'' (rmv U i) t' (by simpa using hsz) (fun j hj=>?_) (fun j hj=>hUl j (mem_rmv.1 hj).1) ?_ (fun j oj hoj hj e hee=>?_) g1 g2
    ·by_cases hij:i=j
     ·subst hij
      rw [show (listed.setIfInBounds i true).getD i false=true by rw [Array.getD_eq_getD_getElem?,Array.getElem?_setIfInBounds_self_of_lt (by omega)];rfl]
      simp [mem_rmv]
     ·rw [getD_set_ne false hij,hU j hj,mem_rmv]
      simp [Ne.symm hij]
    ·have:(rmv U i).length < U.length:=by
      unfold rmv
      exact List.length_filter_lt_length_iff_exists.2 ⟨i,hiU,by simp⟩
     omega
    ·by_cases hij:i=j
     ·subst hij
      rw [hoi] at hoj;injection hoj with hoj;subst hoj
      exact getD_set_true (he e hee)
     ·rw [getD_set_ne false hij] at hj
      exact getD_set_true (hcl j oj hoj hj e hee)
 have hrep:∀ j,(Array.replicate opsA.size false).getD j false=false:=by
  intro j
  rw [Array.getD_eq_getD_getElem?]
  by_cases hjs:j < opsA.size<;>simp [hjs]
 have hokT:okTr P opsA l _:=vT_okT (fun i hil=>by
  have hs':i < opsA.size:=by omega
  exact ⟨_,Array.getElem?_eq_getElem hs',hop i _ (Array.getElem?_eq_getElem hs')⟩) _ _ _ hv (fun i hi=>by simpa using hi)
 have hT:=TW_TC (P:=P) (opsA:=opsA) (ops:=l) (KC:=fun a w=>QE .normal a w) hg hQ _ F γ a { w with drawn:=w.drawn+1 } st hokT hw (Ext.drawn _ _ _ _ _) (hi.drawn _) hs hk
 exact main opsA.size (Array.replicate opsA.size false) a { w with drawn:=w.drawn+1 } (List.range l.length) _ (by simp) (fun i hi=>by
   grind) (fun i hi=>by grind) (by simp [hN]) (fun i o ho hl=>by grind) hv hT
end
end
end Go.Proofs.YtmmafhopnkkeeaaGreatDoor
