/- Regions that draw their order: a tree of the orders that differ. Conditions: none. -/
import Derived.Test.YthepfneloomngaaGreatDoorLr
import Derived.Orders
namespace Go.Proofs.YthepfneloomngaaGreatDoor
set_option linter.unusedSimpArgs false
set_option linter.unusedVariables false
section
section
variable {P:Program}{G:aE}{k:Nat}{st st':AS}{R:AS->Prop}
theorem WR.bslcF{o:aN}{rest:List aN}{size len:Nat}{zero:List Value}{parts:List (Nat×aH)}{es:List (List DC)}(hgd:iY G st o.guard)(ha:o.ai=.bslc size len zero parts)
  (hf:gX ((List.range (len*size)).map fun i=>dA (zero.getD (i % zero.length) undef)) (parts.map fun (j,x)=>(j*size,size,aK G st.sl x))=some (mD es.flatten))
  (hes:∀e∈es,e.length=size) (hlen:es.length=len)
  (h:WR P G k rest R ⟨aQ st.sl o.dst (.one (.dc (.slc es))),st.hp⟩):WR P G k (o::rest) R st:=by
 refine WR.step hgd (fun F γ a w oper hc hd hi hs hg hk=>?_)
 rw[ha] at hc;obtain⟨t,len',ps,hop⟩:=L9 (gZ hc rfl);obtain⟨dst,op,type,pos,after,guard⟩:=oper;simp only at hop;subst hop;simp only[bB] at hc;split at hc;rename_i e hu;cases h1:P.info? e with
 |none=>simp[h1] at hc
 | some i=>cases h2:i.zero with
  | none=>simp[h1,h2] at hc
  | some z=>
   simp only[h1,h2,aXP] at hc;split at hc
   ·rename_i hcond;obtain⟨hc1,hc2,hc3,hc4⟩:=hcond;injection hc with hc;injection hc with e1 e2 e3 e4
    subst e1;subst e2;subst e3;subst e4;have hzl:z.cells.toList.length=i.size:=by simpa using hc2
    have hz:RCs F γ ((List.range (len' * i.size)).map fun n=>dA (z.cells.toList.getD (n % z.cells.toList.length) undef)) ((Array.range (len' * i.size)).map (z.cells[· % z.cells.size]!)):=by
     have:=Gv (F:=F) (γ:=γ) z.cells.toList (len' * i.size) (by omega) (fun v hv=>aY2.1 hc4 v hv)
     have e0:z.cells.toList.toArray=z.cells:=by simp
     rw[e0] at this;exact this
    obtain⟨r,hr1,hr2⟩:=Av (place:=fun j=>some (j * i.size,i.size)) _ (ps.toList.map fun (j,x)=>(j,a.eval x)) _ _ _ hz hf (by simp) (fun n o s av j x hn hj=>by
     simp only[aX1,aXI] at hn hj;cases hp:ps.toList[n]? with
     | none=>simp[hp] at hn
     | some q=>
      obtain⟨j',x'⟩:=q;simp[hp] at hn hj;obtain⟨rfl,rfl,rfl⟩:=hn;obtain⟨rfl,rfl⟩:=hj;exact⟨rfl,cR hs hg x'⟩)
    have hrs:r.size=len' * i.size:=by rw[hr2.1,mD,aXC,sM es hes,hlen]
    have hrr:∀ (n j:Nat) e d v,es[n]?=some e->e[j]?=some d->r[n * i.size+j]?=some v->RD F d v:=by
     intro n j e d v h3 h4 h5;have:=hr2.2 (n * i.size+j) (.dc d) v (by show (List.map aT.dc es.flatten)[n * i.size+j]?=_;rw[aXI,sL es hes n j e d h3 h4];rfl) h5;cases this with | dc _ _ h=>exact h
    
    have hwlt:∀ b ob,F b=some ob->b < w.heap.size:=fun b ob hb=>hi.fzlt hb
    let W':=dY w (.cells r e)
    let F':Fz:=fun b'=>if b'=w.heap.size then W'.heap[b']? else F b'
    have hsub:F.sub F':=fun b ob hb=>by
     have:=hwlt b ob hb;simp only[F',if_neg (show ¬ b=w.heap.size by omega)];exact hb
    have hblk:∀ i b,bZ γ i=some b->b < w.heap.size:=fun i b hb=>hi.lt hb
    have hRD:RD F' (.slc es) (.slice (some ⟨w.heap.size,0,none⟩) es.length es.length):=by
     have key:∀ (n j:Nat) e0 d,es[n]?=some e0->e0[j]?=some d->∃ u,r[n * i.size+j]?=some u:=by
      intro n j e0 d h1 h2;have hj:j < i.size:=by have:=aG h2;have:=hes _ (aX0 h1);omega
      have:=gV (aG h1) (aXF _) hj;exact⟨_,aX8 (by rw[hrs,<- hlen];omega)⟩
     refine .slc w.heap.size 0 es.length i.size es (fun n j=>r.toList.getD (n * i.size+j) undef) hes (fun n j e0 d h1 h2=>?_) (fun n j e0 d h1 h2=>?_) (aXF _)
     ·obtain⟨u,hu⟩:=key n j e0 d h1 h2;simp only[aXN,aYy,hu,aYn];exact (hrr n j e0 d u h1 h2 hu).mono hsub
     ·obtain⟨u,hu⟩:=key n j e0 d h1 h2;have hW:W'.heap[w.heap.size]?=some (.cells r e):=O0;simp only[aXN,aYy,hu,aYn,Fz.cell?,F',if_true,aYi,hW];simp
    refine .inl ⟨_,.slice (some ⟨w.heap.size,0,none⟩) es.length es.length,W',_,F',γ, ?_,.inl rfl,h, ?_, ?_, ?_,hk⟩
    ·have hno:¬ (len' * i.size > 2 ^ 24):=by omega
     have hfill:Instr.fill (fun j=>some (j * i.size,i.size)) ((Array.range (len' * i.size)).map ((if len' * i.size=0 then #[] else z.cells)[· % (if len' * i.size=0 then #[] else z.cells).size]!)) (ps.map fun (j,x)=>(j,a.eval x)).toList=some r:=by
      have e0:(ps.map fun (j,x)=>(j,a.eval x)).toList=ps.toList.map fun (j,x)=>(j,a.eval x):=by simp
      rw[e0,<- hr1];congr 1;split
      ·rename_i h0;simp[h0]
      ·rfl
     have hzv:(zeroValue e).run P w=.ok z w:=by simp[zeroValue,typeInfo,h1,h2]
     simp only[execOp,Instr.buildSlice,run_underlying hu,Sem.run_bind,Result.andThen_ok,sizeOf,typeInfo,run_program,h1,Sem.run_pure,Sem.run_ite,if_neg hno,hzv];by_cases h0:len' * i.size=0
     ·simp only[if_pos h0] at hfill ⊢;simp only[hfill,Sem.run_bind,Result.andThen_ok,Sem.run_pure,newRow,run_newObj,W',dY,hlen]
     ·simp only[if_neg h0] at hfill ⊢;simp only[hfill,Sem.run_bind,Result.andThen_ok,Sem.run_pure,newRow,run_newObj,W',dY,hlen]
    ·have hE:=gU.push (k:=k) hi (.cells r e) .dead (by simp[OI.blk]);refine⟨hsub,rfl,rfl,rfl,by simp[W',dY],fun b hb _=>nV hb,fun b ob hb=>?_,fun i b hb=>.inl ⟨i,hb⟩,fun _ _ _ h=>h⟩
     simp only[F'] at hb;split at hb
     ·exact .inr (.inl (by omega))
     ·exact .inl hb
    ·refine⟨fun b ob hb=>?_,hi.len,hi.nd,fun n b hb=>?_,fun n ob x h3 h4=>?_⟩
     ·simp only[F'] at hb;split at hb
      ·exact hb
      ·have:=hwlt b ob hb;rw[nV this];exact hi.fz b ob hb
     ·have:=hblk n b hb;simp only[F',if_neg (show ¬ b=w.heap.size by omega)];exact hi.disj n b hb
     ·have hok:=(hi.ok n ob x h3 h4);exact hok.ext hsub (fun _ _ h=>h) (fun b hb=>nV (hok.lt hb))
    ·exact (hs.ext hsub (fun _ _ h=>h)).put o.dst (.one _ _ (.dc _ _ hRD))
   ·cases hc
 cases hc
end
def A7(hp:List aC):Option (Nat×aC)->List aC
 |some (id,ob)=>hp.set id ob
 |none=>hp
def wrU:Option (Nat×aC)->List Nat
 |some (id,_)=>[id]
 |none=>[]
def fpC:aT->List Nat
 |.ptr id _=>[id]
 |.bld id _=>[id]
 |.ept id _ _ _=>[id]
 |.bls id _ _ _=>[id]
 |_=>[]
def Oq:AV->List Nat
 |.one c=>fpC c
 |_=>[]
section
variable {P:Program}{G:aE}{k:Nat}{F F':Fz}{γ γ':List OI}{w w':World}{a:Act}{id:Nat}{hp hp':List aC}{sl sl':List AV}{o:aN}{st:AS}
theorem Pf{p:Nat->Bool}:∀{cs:List aT},(∀(i:Nat) c,cs[i]?=some c->c.keep p=true)->keepL p cs=true
 |[],_=>rfl
 | c::cs,h=>by
  rw[keepL,h 0 c rfl,aYb];exact Pf (fun i c hc=>h (i+1) c (by simpa using hc))
theorem RC.kd{c:aT}{v:Value}(h:RC F γ c v)(hd:γ[id]?=some .dead):c.keep (·==id)=true:=by
 have ne:∀{j:Nat}{x:OI},γ[j]?=some x->x≠.dead->(!(j==id))=true:=by
  intro j x hj hx;simp only[aYC,beq_eq_false_iff_ne,ne_eq];rintro rfl;rw[hd] at hj;injection hj with hj;exact hx hj.symm
 induction h with
 |dc d v h=>rfl
 |ptr id off b h=>exact ne h (by simp)
 |bldN id cap h=>exact ne h (by simp)
 |bld id n b cap h=>exact ne h (by simp)
 |ept id i size off b cap h=>exact ne h (by simp)
 |bls id lo n size b cap c off h ho hc=>rcases h with h|h<;>exact ne h (by simp)
 |ref cs b off g hr hc=>rfl
 |mpc es r clk ents h he h1=>rfl
 |fn f caps g hr ih=>exact Pf (fun i c hc=>ih i c hc)
 |junk v h=>rfl
theorem RC.extD{c:aT}{v:Value}(h:RC F γ c v)(hd:γ[id]?=some .dead)(hs:F.sub F')(hg:∀(j:Nat) x,j≠id->γ[j]?=some x->γ'[j]?=some x):RC F' γ' c v:=
 h.mono hs (p:=(·==id)) (fun j x hj hx=>hg j x (by simpa using hj) hx) (h.kd hd)
theorem RV.extD{c:AV}{v:Value}(h:RV F γ c v)(hd:γ[id]?=some .dead)(hs:F.sub F')(hg:∀(j:Nat) x,j≠id->γ[j]?=some x->γ'[j]?=some x):RV F' γ' c v:=by
 cases h with
 |one c v h=>exact .one _ _ (h.extD hd hs hg)
 |agg cs vs hsz h=>exact .agg _ _ hsz (fun i c v h1 h2=>(h i c v h1 h2).extD hd hs hg)
 |tup l vs hsz h=>
  refine .tup _ _ hsz (fun i t v h1 h2=>?_)
  cases h i t v h1 h2 with
  |one c v h=>exact .one _ _ (h.extD hd hs hg)
  |agg cs vs hsz h=>exact .agg _ _ hsz (fun i c v h1 h2=>(h i c v h1 h2).extD hd hs hg)
 |junk v=>exact .junk v
theorem OK.extD{ob:aC}{x:OI}(h:OK F γ w ob x)(hd:γ[id]?=some .dead)(hs:F.sub F')(hg:∀(j:Nat) x,j≠id->γ[j]?=some x->γ'[j]?=some x)
  (hb:∀b,x.blk=some b->w'.heap[b]?=w.heap[b]?):OK F' γ' w' ob x:=by
 cases ob with
 |box cs=>
  cases x with
  |box b=>
   obtain⟨vs,T,h1,h2,h3⟩:=h;exact⟨vs,T,h1.of (hb b rfl),h2,fun i c v p q=>(h3 i c v p q).extD hd hs hg⟩
  |arr b c=>exact h.elim
  |dead=>exact h.elim
 |arr cap size es=>
  cases x with
  |box b=>exact h.elim
  |dead=>exact h.elim
  |arr b c=>
   cases b with
   |none=>exact h
   |some b=>
    obtain⟨h1,h2,h3,vs,T,h4,h5,h6⟩:=h;exact⟨h1,h2,h3,vs,T,h4.of (hb b rfl),h5,fun i j e d v p q r=>(h6 i j e d v p q r).mono hs⟩
 |dead=>cases x<;>exact h
theorem aCW(hi:dE F γ hp w)(hs:bV F γ sl a)(hd:γ[id]?=some .dead)(hk:k<=id)(hkl:k<=γ.length){cs:List aT}{vs:Array Value}{T:TypeId}(h:RCs F γ cs vs)(dst:Option Nat):
  gU k F γ w F (γ.set id (.box w.heap.size)) (dY w (.cells vs T))/\dE F (γ.set id (.box w.heap.size)) (hp.set id (.box cs)) (dY w (.cells vs T))/\
  bV F (γ.set id (.box w.heap.size)) (aQ sl dst (.one (.ptr id 0))) (a.put dst (.pointer (some ⟨w.heap.size,0,none⟩)))/\k<=(γ.set id (OI.box w.heap.size)).length:=by
 have hlt:id<γ.length:=aG hd;have hg:∀(j:Nat) x,j≠id->γ[j]?=some x->(γ.set id (.box w.heap.size))[j]?=some x:=fun j x hj hx=>by rw[aXW (Ne.symm hj)];exact hx
 have hid:(γ.set id (OI.box w.heap.size))[id]?=some (.box w.heap.size):=aX7 hlt;have hb:∀i b,bZ (γ.set id (OI.box w.heap.size)) i=some b->(i≠id/\bZ γ i=some b)\/(i=id/\b=w.heap.size):=by
  intro i b h;obtain⟨y,hy,hyb⟩:=cU h;by_cases hii:id=i;subst hii;rw[hid] at hy;injection hy with hy;subst hy
  simp[OI.blk] at hyb;exact .inr ⟨rfl,hyb.symm⟩;rw[aXW hii] at hy;exact .inl ⟨Ne.symm hii,bM hy hyb⟩
 have hold:∀b,b<w.heap.size->(dY w (.cells vs T)).heap[b]?=w.heap[b]?:=fun b hb'=>nV hb'
 have hsub:F.sub F:=fun _ _ h=>h
 refine⟨⟨hsub,rfl,rfl,rfl,by simp[dY],fun b hb' _=>hold b hb',fun _ _ h=>.inl h,fun i b h=>?_,fun i hik b hx=>hg i _ (by omega) hx⟩,⟨fun b ob h=>?_,by simp[hi.len],fun i j b h1 h2=>?_,fun i b h=>?_,fun i ob x h1 h2=>?_⟩,?_,by simpa using hkl⟩
 rcases hb i b h with⟨_,h⟩|⟨_,h⟩;exact .inl ⟨i,h⟩;exact .inr (by omega)
 rw[hold b (hi.fzlt h)];exact hi.fz b ob h;rcases hb i b h1 with⟨a1,a2⟩|⟨a1,a2⟩<;>rcases hb j b h2 with⟨c1,c2⟩|⟨c1,c2⟩
 exact hi.nd i j b a2 c2;have:=hi.lt a2;omega;have:=hi.lt c2;omega;omega;rcases hb i b h with⟨a1,a2⟩|⟨a1,a2⟩
 exact hi.disj i b a2;cases hF:F b with
 |none=>rfl
 |some ob=>have:=hi.fzlt hF;omega
 by_cases hii:id=i;subst hii;rw[hid] at h2;injection h2 with h2;subst h2
 have hlt2:id<hp.length:=by rw[<- hi.len];exact hlt
 rw[aX7 hlt2] at h1;injection h1 with h1;subst h1
 exact⟨vs,T,Ax,Nat.le_of_eq h.1.symm,fun i c v p q=>(h.2 i c v p q).extD hd hsub hg⟩
 rw[aXW hii] at h1 h2;have hok:=hi.ok i ob x h1 h2;exact hok.extD hd hsub hg (fun b hxb=>hold b (hok.lt hxb))
 have hs':bV F (γ.set id (.box w.heap.size)) sl a:=⟨hs.1,hs.2.1,fun i av v h1 h2=>(hs.2.2 i av v h1 h2).extD hd hsub hg⟩
 exact hs'.put dst (.one _ _ (.ptr _ _ _ hid))
theorem dE.deadG(hi:dE F γ hp w)(hd:hp[id]?=some .dead):γ[id]?=some .dead:=by
 have hlt:id<γ.length:=by rw[hi.len];exact aG hd
 have hx:γ[id]?=some (γ[id]'hlt):=aXJ hlt;have:=hi.ok id _ _ hd hx;rw[hx];cases hc:γ[id]'hlt with
 |dead=>rfl
 |box b=>rw[hc] at this;exact this.elim
 |arr A c=>rw[hc] at this;cases A<;>exact this.elim
theorem WR.allocD{as:AS}{rest:List aN}{Q:AS->Prop}{zero:List Value}(hgd:iY G as o.guard)(ha:o.ai=.alloc zero)(hd:as.hp[id]?=some .dead)(hkid:k<=id)
  (h:WR P G k rest Q ⟨aQ as.sl o.dst (.one (.ptr id 0)),as.hp.set id (.box (zero.map dA))⟩):WR P G k (o::rest) Q as:=by
 refine WR.step hgd (fun F γ a w oper hc hd1 hi hs hg hk=>?_)
 rw[ha] at hc;obtain⟨e,he⟩:=O2 (gZ hc rfl);obtain⟨dst,op,type,pos,after,guard⟩:=oper;simp only at he;subst he;simp only[bB] at hc;cases h1:P.info? e with
 |none=>simp[h1] at hc
 | some i=>cases h2:i.zero with
  | none=>simp[h1,h2] at hc
  | some z=>
   simp only[h1,h2,aXP] at hc;split at hc
   ·rename_i hall;injection hc with hc;injection hc with hc;subst hc
    have hzr:RCs F γ (z.cells.toList.map dA) z.cells:=by
     have:=RCs.raw (F:=F) (γ:=γ) (vs:=z.cells.toList) (fun v hv=>aY2.1 hall v hv)
     simpa using this
    obtain⟨hE,hI,hS,hk'⟩:=aCW (T:=e) hi hs (hi.deadG hd) hkid hk hzr o.dst;refine .inl ⟨_,_,_,_,F,_, ?_,.inl rfl,h,hE,hI,hS,hk'⟩;simp only[execOp,Instr.alloc,zeroValue,typeInfo,h1,h2,newVar,newRow,Sem.run_bind,run_program,Result.andThen_ok,Sem.run_pure,run_newObj,dY]
   ·cases hc
theorem aAb{g:Bool}{s:Nat}{x:AV}(h:∀id∈Oq x,aI hp id=aI hp' id):lG hp g s x=lG hp' g s x:=by
 unfold lG;split<;>first|rfl|(rename_i id _;rw[h id (by simp[Oq,fpC])])|(rename_i id _ _ _;rw[h id (by simp[Oq,fpC])])
theorem aAc{x:AV}(h:∀id∈Oq x,aI hp id=aI hp' id):mU hp x=mU hp' x:=by
 unfold mU;split<;>first|rfl|(rename_i id _;rw[h id (by simp[Oq,fpC])])|(rename_i id _ _ _;rw[h id (by simp[Oq,fpC])])
theorem aCX{s:Nat}{x:AV}{i:Int}(h:∀id∈Oq x,aI hp id=aI hp' id):At hp s x i=At hp' s x i:=by
 unfold At;split<;>first|rfl|(rename_i id _;rw[h id (by simp[Oq,fpC])])|(rename_i id _ _ _;rw[h id (by simp[Oq,fpC])])
theorem aCY{s:Nat}{x:AV}{l r:Option AV}(h:∀id∈Oq x,aI hp id=aI hp' id):kS hp s x l r=kS hp' s x l r:=by
 unfold kS;split<;>first|rfl|(rename_i id _;rw[h id (by simp[Oq,fpC])])|(rename_i id _ _ _;rw[h id (by simp[Oq,fpC])])
theorem aHs{ai:AI}(h:∀x∈bA ai,∀id∈Oq (aK G sl x),aI hp id=aI hp' id):cX G ⟨sl,hp⟩ ai=cX G ⟨sl,hp'⟩ ai:=by
 cases ai with
 |load g s x=>simp only[cX];exact aAb (h x (by simp[bA]))
 |cvbs x=>simp only[cX];exact aAc (h x (by simp[bA]))
 |ixL s x i=>
  simp only[cX];cases bH (aK G sl i) with
  |none=>rfl
  |some n=>exact aCX (h x (by simp[bA]))
 |slL s x l r=>simp only[cX];exact aCY (h x (by simp[bA]))
 |_=>rfl
inductive jX (P:Program) (G:aE) (k:Nat) (o:aN) (st:AS):AV->Option (Nat×aC)->List Nat->Prop
 |skip (h:Es G st o.guard):jX P G k o st (.tup []) none []
 |pur (v:AV) (R:List Nat) (h:iY G st o.guard) (hv:cX G st o.ai=some v) (hR:∀x∈bA o.ai,∀id∈Oq (aK G st.sl x),id∈R):jX P G k o st v none R
 |call (f:FuncId) (args:List aH) (cargs:List AV) (r v:AV) (h:iY G st o.guard) (ha:o.ai=.call f args) (hq:QC P G f cargs r)
  (hn:∀n,args.map (aK G st.sl)=cargs.map (cY (cF [] n))/\v=cY (cF [] n) r):jX P G k o st v none []
 |alloc (z:List Value) (id:Nat) (h:iY G st o.guard) (ha:o.ai=.alloc z) (hd:st.hp[id]?=some .dead) (hk:k<=id):jX P G k o st (.one (.ptr id 0)) (some (id,.box (z.map dA))) []
 |cpy (x y:aH) (id lo n:Nat) (bs:ByteArray) (cs:List aT) (h:iY G st o.guard) (ha:o.ai=.cpys x y) (hx:aK G st.sl x=.one (.bls id lo n 1)) (hy:dB (aK G st.sl y)=some bs)
  (hb:st.hp[id]?=some (.box cs)) (hle:lo+n<=cs.length):jX P G k o st (dG (.int .i64 (min bs.size n:Nat))) (some (id,.box (cQ cs lo (dZ (bs.data.toList.take n))))) [id]
 |callB (f:FuncId) (args:List aH) (cargs:List AV) (id:Nat) (cs cs':List aT) (h:iY G st o.guard) (ha:o.ai=.call f args) (hb:st.hp[id]?=some (.box cs))
  (hac:AC P G f cargs [.box cs] fun a o=>a=.tup []/\o=[.box cs']) (hargs:∀n,args.map (aK G st.sl)=cargs.map (cY (cF [id] n)))
  (hr:∀n,dC (cF [id] n) (.box cs)=.box cs/\dC (cF [id] n) (.box cs')=.box cs'):jX P G k o st (.tup []) (some (id,.box cs')) [id]
 |lit (size len:Nat) (z:List Value) (ps:List (Nat×aH)) (es:List (List DC)) (h:iY G st o.guard) (ha:o.ai=.bslc size len z ps)
  (hf:gX ((List.range (len*size)).map fun i=>dA (z.getD (i % z.length) undef)) (ps.map fun (j,x)=>(j*size,size,aK G st.sl x))=some (mD es.flatten))
  (hes:∀e∈es,e.length=size) (hlen:es.length=len):jX P G k o st (.one (.dc (.slc es))) none []
 |store (size:Nat) (x v:aH) (id off:Nat) (cs vs:List aT) (h:iY G st o.guard) (ha:o.ai=.store size x v) (hd0:o.dst=none) (hx:aK G st.sl x=.one (.ptr id off)) (hv:cellsOf (aK G st.sl v)=some vs)
  (hb:st.hp[id]?=some (.box cs)) (hsz:vs.length=size) (hle:off+size<=cs.length):jX P G k o st (.tup []) (some (id,.box (cQ cs off vs))) [id]
def Kp(o:aN)(st:AS)(v:AV)(u:Option (Nat×aC)):AS:=⟨aQ st.sl o.dst v,A7 st.hp u⟩
theorem aCZ(h:hp[id]?=hp'[id]?):aI hp id=aI hp' id:=by
 unfold aI;rw[aXN,aXN,h]
theorem jX.loc{v:AV}{u:Option (Nat×aC)}{R:List Nat}(h:jX P G k o ⟨sl,hp⟩ v u R)(hsl:∀t∈lW o,sl.getD t .junk=sl'.getD t .junk)(hh:∀id∈R++wrU u,hp[id]?=hp'[id]?):jX P G k o ⟨sl',hp'⟩ v u R:=by
 obtain⟨h1,_⟩:=gO (G:=G) hsl;cases h with
 |skip h=>exact .skip (nO hsl h)
 |pur _ _ h hv hR=>
  refine .pur _ _ (eX hsl h) ?_ (fun x hx id hid=>hR x hx id (by rw[h1 x hx];exact hid))
  rw[<- Kn h1,<- aHs (hp:=hp) (fun x hx id hid=>aCZ (hh id (by simp[hR x hx id hid])))]
  exact hv
 |call f args cargs r _ h ha hq hn=>
  refine .call f args cargs r _ (eX hsl h) ha hq (fun n=>⟨?_,(hn n).2⟩)
  rw[<- (hn n).1];exact aXZ (fun x hx=>(h1 x (by rw[ha];exact hx)).symm)
 |lit size len z ps es h ha hf hes hlen=>
  refine .lit size len z ps es (eX hsl h) ha ?_ hes hlen;rw[<- hf];congr 1;exact aXZ (fun p hp=>by
   obtain⟨j,x⟩:=p;have e:=h1 x (by rw[ha];exact List.mem_map.2 ⟨(j,x),hp,rfl⟩);show (j * size,size,aK G sl' x)=(j * size,size,aK G sl x);rw[e])
 |alloc z id h ha hd hk=>exact .alloc z id (eX hsl h) ha (by rw[<- hh id (by simp[wrU])];exact hd) hk
 |cpy x y id lo n bs cs h ha hx hy hb hle=>exact .cpy x y id lo n bs cs (eX hsl h) ha (by rw[<- h1 x (by rw[ha];simp[bA])];exact hx) (by rw[<- h1 y (by rw[ha];simp[bA])];exact hy) (by rw[<- hh id (by simp)];exact hb) hle
 |callB f args cargs id cs cs' h ha hb hac hargs hr=>exact .callB f args cargs id cs cs' (eX hsl h) ha (by rw[<- hh id (by simp)];exact hb) hac (fun n=>by rw[<- hargs n];exact aXZ (fun x hx=>(h1 x (by rw[ha];exact hx)).symm)) hr
 |store size x v id off cs vs h ha hd0 hx hv hb hsz hle=>
  exact .store size x v id off cs vs (eX hsl h) ha hd0 (by rw[<- h1 x (by rw[ha];simp[bA])];exact hx) (by rw[<- h1 v (by rw[ha];simp[bA])];exact hv)
   (by rw[<- hh id (by simp)];exact hb) hsz hle
theorem jX.wr{K:AS->Prop}{v:AV}{u:Option (Nat×aC)}{R:List Nat}(h:jX P G k o st v u R)(hK:K (Kp o st v u)):WR P G k [o] K st:=by
 cases h with
 |skip h=>exact WR.skip h (WR.nil hK)
 |pur _ _ h hv hR=>exact WR.pur h hv (WR.nil hK)
 |call f args cargs r _ h ha hq hn=>exact WR.callQ h ha hq (hn st.hp.length).1 (WR.nil (by rw[<- (hn st.hp.length).2];exact hK))
 |lit size len z ps es h ha hf hes hlen=>exact WR.bslcF h ha hf hes hlen (WR.nil hK)
 |alloc z id h ha hd hk=>exact WR.allocD h ha hd hk (WR.nil hK)
 |cpy x y id lo n bs cs h ha hx hy hb hle=>exact WR.cpys h ha hx hy (by unfold aI;rw[aXN,hb];rfl) hle (WR.nil hK)
 |callB f args cargs id cs cs' h ha hb hac hargs hr=>
  refine WR.call (J:=[id]) (objs:=[.box cs]) h ha hac (by simp) rfl (fun t j o ht ho=>?_) (hargs _) (fun a o' hao=>?_)
  cases t with
  |zero=>simp at ht ho;subst ht;subst ho;rw[(hr _).1];exact hb
  |succ t=>simp at ht
  obtain⟨rfl,rfl⟩:=hao;have hn:∀j,([id].contains j&&!hZ (aI st.hp j))=false:=by
   intro j;by_cases hj:j=id;subst hj;have:aI st.hp j=.box cs:=by unfold aI;rw[aXN,hb];rfl
   rw[this];simp[hZ];simp[hj]
  have e:iA [id] st o.dst (.tup []) [.box cs']=Kp o st (.tup []) (some (id,.box cs')):=by
   simp only[iA];rw[pS hn,pT hn];simp only[aXL,aXT,(hr _).2,Kp,A7,kE,cY,List.length_singleton,aY7,aYq,aYE]
  rw[e];exact WR.nil hK
 |store size x v id off cs vs h ha hd0 hx hv hb hsz hle=>
  refine WR.store h ha hd0 hx hv (by unfold aI;rw[aXN,hb];rfl) hsz hle (WR.nil ?_);have:Kp o st (.tup []) (some (id,.box (cQ cs off vs)))=⟨st.sl,st.hp.set id (.box (cQ cs off vs))⟩:=by simp[Kp,aQ,hd0,A7]
  rw[<- this];exact hK
abbrev FE:=aN×(List Nat×List Nat)
def kW(P:Program)(G:aE)(k:Nat)(K:AS->Prop):List FE->AS->Prop
 |[],st=>K st
 |(o,f)::l,st=>∃v u R,jX P G k o st v u R/\wrU u=f.1/\R=f.2/\kW P G k K l (Kp o st v u)
def sV(a b:List Nat):Bool:=a.all fun x=>!b.contains x
def Th(x y:aN):Bool:=Ad x.dst y.dst&&kV x.dst y&&kV y.dst x
def Ti(x y:FE):Bool:=Th x.1 y.1&&sV x.2.1 (y.2.2++y.2.1)&&sV y.2.1 x.2.2
theorem A8{a b:List Nat}(h:sV a b=true){x:Nat}(hx:x∈a):x∉b:=by
 have:=aY2.1 h x hx;simpa using this
theorem Pg{u:Option (Nat×aC)}{j:Nat}(h:j∉wrU u):(A7 hp u)[j]?=hp[j]?:=by
 cases u with
 |none=>rfl
 |some p=>
  obtain⟨i,ob⟩:=p;simp only[wrU,List.mem_singleton] at h;simp only[A7];rw[aXW (fun e=>h e.symm)]
theorem aAd{u u':Option (Nat×aC)}(h:∀x∈wrU u,x∉wrU u'):A7 (A7 hp u) u'=A7 (A7 hp u') u:=by
 cases u with
 |none=>rfl
 | some p=>cases u' with
  | none=>rfl
  | some q=>
   obtain⟨i,ob⟩:=p;obtain⟨j,ob'⟩:=q;simp only[wrU,List.mem_singleton,forall_eq] at h;simp only[A7];exact List.set_comm _ _ h
theorem G2{d:Option Nat}{v:AV}(h:kV d o=true):∀t∈lW o,(aQ sl d v).getD t .junk=sl.getD t .junk:=by
 intro t ht;cases d with
 |none=>rfl
 |some d=>
  have hne:d≠t:=by
   rintro rfl;simp only[kV,aYC,List.contains_eq_mem,decide_eq_false_iff_not] at h;exact h ht
  simp only[aQ,aXN];rw[aXW hne]
theorem kW.mono{K K':AS->Prop}(hK:∀s,K s->K' s):∀{l:List FE}{st:AS},kW P G k K l st->kW P G k K' l st
 |[],_,h=>hK _ h
 | (o,f)::l,st,h=>by
  obtain⟨v,u,R,s,e1,e2,h⟩:=h;exact⟨v,u,R,s,e1,e2,kW.mono hK h⟩
theorem kW.swap{K:AS->Prop}{x y:FE}{l:List FE}(hc:Ti x y=true)(h:kW P G k K (x::y::l) st):kW P G k K (y::x::l) st:=by
 obtain⟨ox,fx⟩:=x;obtain⟨oy,fy⟩:=y;simp only[Ti,Th,aXQ] at hc;obtain⟨⟨⟨⟨hd,h1⟩,h2⟩,h3⟩,h4⟩:=hc;obtain⟨vx,ux,Rx,sx,wx,rx,vy,uy,Ry,sy,wy,ry,hl⟩:=h;subst rx;subst ry;rw[<- wx] at h3;rw[<- wy] at h4 h3;obtain⟨sl,hp⟩:=st;have sy':jX P G k oy ⟨sl,hp⟩ vy uy fy.2:=sy.loc (G2 h1) (fun id hid=>Pg (fun hx=>A8 h3 hx hid))
 have sx':jX P G k ox (Kp oy ⟨sl,hp⟩ vy uy) vx ux fx.2:=sx.loc (fun t ht=>(G2 h2 t ht).symm) (fun id hid=>by
  refine (Pg (fun hy=>?_)).symm
  simp only[aYV] at hid;rcases hid with hid | hid
  ·exact A8 h4 hy hid
  ·exact A8 h3 hid (by simp[hy]))
 refine⟨vy,uy,_,sy',wy,rfl,vx,ux,_,sx',wx,rfl,?_⟩;have e:Kp ox (Kp oy ⟨sl,hp⟩ vy uy) vx ux=Kp oy (Kp ox ⟨sl,hp⟩ vx ux) vy uy:=by
  simp only[Kp];rw[eY hd,aAd (fun z hz hz'=>A8 h3 hz (by simp[hz']))]
 rw[e];exact hl
theorem kW.front{K:AS->Prop}{y:FE}{ys:List FE}:∀(xs:List FE) (st:AS),(∀x∈xs,Ti x y=true)->kW P G k K (xs++y::ys) st->kW P G k K (y::(xs++ys)) st
 |[],st,_,h=>h
 | x::xs,st,hc,h=>by
  obtain⟨v,u,R,s,e1,e2,h⟩:=h;have:=kW.front xs _ (fun z hz=>hc z (aX3 _ hz)) h
  exact kW.swap (hc x aXV) ⟨v,u,R,s,e1,e2,this⟩
theorem kW.head{K:AS->Prop}{y:FE}{l:List FE}(h:kW P G k K (y::l) st):WR P G k [y.1] (kW P G k K l) st:=by
 obtain⟨v,u,R,s,_,_,h⟩:=h;exact s.wr h
def kX:aN:=⟨none,.lenA 0,none⟩
def Fl(ops:List Oper)(n:Nat)(ord:List Nat):Bool:=
 ([Region.Mode.text,.gc,.any].all fun md=>A3 md ops)&&((List.range n).all fun i=>ord.contains i)&&(ord.all fun i=>decide (i<n))
theorem aAe{id:Nat}{opsA:Array Oper}{l:List aN}{E:Nat->FE}{ord:List Nat}{K:AS->Prop}{st:AS}(hc:bE P opsA opsA.toList=some l)
  (hok:Fl opsA.toList l.length ord=true) (hE0:∀i,i<l.length->(E i).1=l.getD i kX) (hpw:ord.Pairwise fun i j=>i≠j/\(((jO opsA.toList []).getD j []).contains i=true\/Ti (E i) (E j)=true)) (hw:kW P G k K (ord.map E) st) (hi:dE F γ st.hp w) (hs:bV F γ st.sl a) (hg:eU F G) (hk:k<=γ.length)
  {QE:Exit->Act->World->Prop} (hQ:∀a' w' F' γ' st',K st'->gU k F γ w F' γ' w'->dE F' γ' st'.hp w'->bV F' γ' st'.sl a'->k<=γ'.length->QE .normal a' w'):(Code.region id opsA true).wp P QE a w:=by
 refine wp_region_draw fun t=>?_
 suffices hmd:∀md:Region.Mode,wpAny P md opsA QE opsA.size (Array.replicate opsA.size false) a { w with drawn:=w.drawn+1 } by
  unfold Region.schedule;split;exact wpAny_sound opsA.size t _ a _ (hmd _);exact wpAny_sound opsA.size (t / 2) _ a _ (hmd _)
 intro md;simp only[Fl,aXQ] at hok;obtain⟨⟨hb0,hall0⟩,hlt0⟩:=hok;have comp:∀(ops:List Oper) (l:List aN),bE P opsA ops=some l->ops.length=l.length/\∀(i:Nat) o x,ops[i]?=some o->l[i]?=some x->cC P opsA o=some x:=by
  intro ops
  induction ops with
  |nil=>intro l h;simp[bE] at h;subst h;exact⟨rfl,fun i o x h=>by simp at h⟩
  |cons o ops ih=>
   intro l h;simp only[bE] at h;cases h1:cC P opsA o with
   |none=>simp[h1] at h
   | some y=>cases h2:bE P opsA ops with
    | none=>simp[h1,h2] at h
    | some r=>
     simp[h1,h2] at h;subst h;obtain⟨i1,i2⟩:=ih r h2;refine⟨by simp[i1],fun i o' x' ho hx=>?_⟩
     cases i with
     | zero=>simp at ho hx;subst ho;subst hx;exact h1
     | succ i=>exact i2 i o' x' (by simpa using ho) (by simpa using hx)
 obtain⟨hlen,hcomp⟩:=comp _ _ hc;have hN:opsA.size=l.length:=by simpa using hlen
 have hop:∀(i:Nat) oper,opsA[i]?=some oper->cC P opsA oper=some (l.getD i kX):=by
  intro i oper h;have hlt:i<l.length:=by rw[<- hN];exact (Array.getElem?_eq_some_iff.1 h).1
  refine hcomp i oper _ (by simpa using h) ?_;rw[aXN,aXJ hlt];rfl
 have htop:A3 md opsA.toList=true:=by
  have:=aY2.1 hb0 md (by cases md<;>simp);exact this
 simp only[A3,Wg,aXQ] at htop;generalize aCH (opsA.toList.map (jV md)) opsA.toList.length [] (List.range opsA.toList.length)=tord at htop;obtain⟨⟨ht1,ht3⟩,ht2⟩:=htop;have hrange:∀(i:Nat) o,opsA[i]?=some o->∀e∈jV md o,e<opsA.size:=by
  intro i o ho e he;have h1:=aY2.1 ht3 (jV md o) (List.mem_map.2 ⟨o,by
   rw[Array.mem_toList_iff];exact Array.mem_of_getElem? ho,rfl⟩)
  simpa using aY2.1 h1 e he
 have htall:∀(listed:Array Bool),listed.size=opsA.size->Region.ready md opsA listed=[]->∀(r done:List Nat),sO (opsA.toList.map (jV md)) r done=true->(∀j∈done,j<opsA.size->listed.getD j false=true)->∀j∈r,j<opsA.size->listed.getD j false=true:=by
  intro listed hsz hno r
  induction r with
  |nil=>intro done _ _ j hj;cases hj
  |cons i r ih=>
   intro done h hd j hj hlt;simp only[sO,aXQ] at h;have hi0:i<opsA.size->listed.getD i false=true:=by
    intro hil;cases hlj:listed.getD i false with
    |true=>rfl
    |false=>
     exfalso;have hoi:opsA[i]?=some opsA[i]:=aX8 hil;have:i∈Region.ready md opsA listed:=sU hsz hil hlj hoi (fun e he=>by
      have h3:=aY2.1 h.1 e (by
       rw[aXN,aXI];simp only[aYy,hoi,aXG,aYn];exact he)
      have hmem:e∈done:=by simpa using h3
      exact hd e hmem (hrange i _ hoi e he))
     rw[hno] at this;cases this
   rcases aYR.1 hj with rfl|hj;exact hi0 hlt
   ·exact ih (i::done) h.2 (fun q hq hql=>by
    rcases aYR.1 hq with rfl|hq
    ·exact hi0 hql
    ·exact hd q hq hql) j hj hlt
 have main:∀(fuel:Nat) (listed:Array Bool) (a:Act) (w':World) (F':Fz) (γ':List OI) (U:List Nat) (st:AS),listed.size=opsA.size->(∀i,i<opsA.size->(listed.getD i false=false↔i∈U))->(∀i∈U,i<opsA.size)->
   (U.Pairwise fun i j=>i≠j/\(((jO opsA.toList []).getD j []).contains i=true\/Ti (E i) (E j)=true))->
   (∀(i:Nat) o,opsA[i]?=some o->listed.getD i false=true->∀e∈kC o,listed.getD e false=true)->U.length<=fuel->
   gU k F γ w F' γ' w'->dE F' γ' st.hp w'->bV F' γ' st.sl a->k<=γ'.length->kW P G k K (U.map E) st->wpAny P md opsA QE fuel listed a w':=by
  intro fuel
  induction fuel with
  |zero=>
   intro listed a w' F' γ' U st hsz hU hUl hpw hcl hf hE hI hS hk' hA;have hnil:U=[]:=aYL (by omega);subst hnil;refine⟨?_,hQ a w' F' γ' st hA hE hI hS hk'⟩;rw[List.eq_nil_iff_forall_not_mem];intro i hi;obtain⟨h1,h2,_⟩:=lQ hsz hi;have:=(hU i h1).1 h2;simp at this
  |succ fuel ih=>
   intro listed a w' F' γ' U st hsz hU hUl hpw hcl hf hE hI hS hk' hA;refine⟨fun hno=>?_,fun i hi=>?_⟩
   have hz:∀j,j<opsA.size->listed.getD j false=true:=by
    intro j hj;refine htall listed hsz hno tord [] ht1 (fun j hj=>by cases hj) j ?_ hj
    have:=aY2.1 ht2 j (by simpa using hj);simpa using this
   cases U with
   |nil=>exact hQ a w' F' γ' st hA hE hI hS hk'
   |cons u U=>
    have h1:=hUl u aXV;have:=(hU u h1).2 aXV;rw[hz u h1] at this;cases this
   obtain⟨h1,h2,oper,hoi,he⟩:=lQ hsz hi;have hclo:∀j∈(jO opsA.toList []).getD i [],listed.getD j false=true:=
    Tc (L:=fun j=>listed.getD j false=true) opsA.toList (fun i o h=>hcl i o (by simpa using h)) i oper (by simpa using hoi) he
   obtain⟨R1,R2,rfl⟩:=List.append_of_mem ((hU i h1).1 h2);have hpw2:=List.pairwise_append.1 hpw;have hfront:kW P G k K (E i::(R1.map E++R2.map E)) st:=by
    refine kW.front _ _ (fun x hx=>?_) (by simpa using hA)
    obtain⟨r,hr,rfl⟩:=List.mem_map.1 hx;have h3:=hpw2.2.2 r hr i aXV;rcases h3.2 with h4|h4;have h5:=hclo r (by simpa using h4);have h6:=(hU r (hUl r (by simp[hr]))).2 (by simp[hr]);rw[h5] at h6;cases h6
    exact h4
   rw[<- aYg] at hfront;refine WR.op (kW.head hfront) hoi (by rw[hE0 i (by rw[<- hN];exact h1)];exact hop i oper hoi) hI hS (hg.sub hE.sub) hk' (fun a'' w'' F'' γ'' st'' q1 q2 q3 q4 q5=>?_)
   have hnd:i∉R1/\i∉R2:=by
    refine⟨fun h=>?_,fun h=>?_⟩
    exact (hpw2.2.2 i h i aXV).1 rfl;exact ((List.pairwise_cons.1 hpw2.2.1).1 i h).1 rfl
   refine ih _ a'' w'' F'' γ'' (R1++R2) st'' (by simpa using hsz) (fun j hj=>?_) (fun j hj=>hUl j (by simp at hj ⊢;rcases hj with h|h<;>simp[h])) ?_ (fun j oj hoj hj e hee=>?_) (by simp at hf ⊢;omega) (hE.trans q2) q3 q4 q5 q1
   by_cases hij:i=j;subst hij;rw[show (listed.setIfInBounds i true).getD i false=true by rw[aYT,aZf (by omega)];rfl];simp[hnd];rw[getD_set_ne false hij,hU j hj];simp[Ne.symm hij];exact hpw.sublist (by simp);by_cases hij:i=j;subst hij;rw[hoi] at hoj;injection hoj with hoj;subst hoj
   exact getD_set_true (he e hee);rw[getD_set_ne false hij] at hj;exact getD_set_true (hcl j oj hoj hj e hee)
 have hrep:∀j,(Array.replicate opsA.size false).getD j false=false:=by
  intro j;rw[aYT];by_cases hjs:j<opsA.size<;>simp[hjs]
 have hlo:ord.length<=opsA.size:=by
  have hnd:ord.Nodup:=hpw.imp (fun h=>h.1)
  have:=List.Nodup.length_le_of_subset hnd (l₂:=List.range l.length) (fun i hi=>by
   have:=aY2.1 hlt0 i hi;simpa using this)
  simpa[hN] using this
 exact main opsA.size (Array.replicate opsA.size false) a { w with drawn:=w.drawn+1 } F γ ord st (by simp) (fun i hi=>by
   rw[hrep];have:=aY2.1 hall0 i (by simpa[<- hN] using hi);simpa using this) (fun i hi=>by
   have:=aY2.1 hlt0 i hi;rw[hN];simpa using this) hpw (fun i o ho hl=>by rw[hrep] at hl;cases hl) hlo (gU.drawn _ _ _ _ _) (hi.drawn _) hs hk hw
end
end
section
def trL:List Nat:=[196,146,138,154,85,121,106,3]
end
section
inductive IT where
 |nil
 |st (i:Nat) (t:IT)
 |br (i:Nat) (t rest:IT)
 |stop
def Mg:AI->Bool
 |.mov _=>true
 |.nilc _=>true
 |.addo _ _=>true
 |.ext _ _=>true
 |_=>false
theorem Ph{ai:AI}(h:Mg ai=true):ai.isPure=true:=by
 cases ai<;>first|rfl|cases h
def gY:List aN->Nat->aN
 |[],_=>⟨none,.lenA 0,none⟩
 |o::_,0=>o
 |_::l,n+1=>gY l n
def Ju(U:List Nat)(j:Nat):List Nat:=U.filter fun x=>x != j
def Eu(c:List (List Nat))(U:List Nat)(j:Nat):Bool:=U.all fun e=>!(c.getD j []).contains e
def aQP(opsA:Array Oper)(i j:Nat):Bool:=match opsA[i]?,opsA[j]? with
 |some x,some y=>x.apart opsA y
 |_,_=>false
def aAf(c:List (List Nat))(ops:List aN)(opsA:Array Oper)(U:List Nat)(i:Nat):Bool:=
 U.all fun j=>j==i||(c.getD j []).contains i||(aQP opsA i j&&(Mg (gY ops i).ai||((gY ops i).ai.isPure&&(gY ops j).ai.isPure)))
def Mh:IT->Bool
 |.stop=>true
 |_=>false
def vT(c:List (List Nat))(ops:List aN)(opsA:Array Oper):IT->List Nat->List Nat->Bool
 |.nil,U,D=>U.isEmpty&&D.isEmpty
 |.st i t,U,D=>D.isEmpty&&U.contains i&&aAf c ops opsA U i&&vT c ops opsA t (Ju U i) []
 |.br i t r,U,D=>U.contains i&&vT c ops opsA t (Ju U i) []&&vT c ops opsA r U (i::D)
 |.stop,U,D=>!D.isEmpty&&U.all fun j=>D.contains j||!Eu c U j
def mkT(c:List (List Nat))(ops:List aN)(opsA:Array Oper):Nat->Nat->List Nat->Option (IT×Nat)
 |0,_,_=>none
 |_+1,0,_=>none
 | n+1,b+1,U=>match U with
  | []=>some (.nil,b)
  | _::_=>match U.find? fun i=>Eu c U i&&aAf c ops opsA U i with
   | some i=>(mkT c ops opsA n b (Ju U i)).map fun p=>(.st i p.1,p.2)
   | none=>(U.filter (Eu c U)).foldr (fun i r=>r.bind fun q=>(mkT c ops opsA n q.2 (Ju U i)).map fun p=>(.br i p.1 q.1,p.2)) (some (.stop,b))
section
variable {P:Program}{F:Fz}{γ:List OI}
theorem aMK{o:Oper}{ai:AI}(hc:bB P o=some ai)(hob:Mg ai=true):
  (∃x,o.op=.move x\/o.op=.assign x)\/(∃x,o.op=.nilCheck x)\/(∃s x f,o.op=.fieldAddr s x f)\/∃x n,o.op=.extract x n:=by
 obtain⟨dst,op,type,pos,after,guard⟩:=o;unfold bB at hc;cases op
 case move x=>exact .inl ⟨_,.inl rfl⟩
 case assign x=>exact .inl ⟨_,.inr rfl⟩
 case nilCheck x=>exact .inr (.inl ⟨_,rfl⟩)
 case fieldAddr s x f=>exact .inr (.inr (.inl ⟨_,_,_,rfl⟩))
 case extract x n=>exact .inr (.inr (.inr ⟨_,_,rfl⟩))
 case makeFunc fn a b=>
  cases fn<;>simp only[reduceCtorEq] at hc;split at hc;cases hc;cases hob;cases hc
 all_goals simp only[reduceCtorEq] at hc
 all_goals try unfold nU at hc
 all_goals try unfold lN at hc
 all_goals try unfold mC at hc
 all_goals try unfold eQ at hc
 all_goals repeat' (first|(obtain⟨_,_,hc⟩:=hc)|split at hc|(simp only[aYu,Option.map_eq_some_iff] at hc))
 all_goals first|contradiction|(cases hc;done)|(injection hc with hc;subst hc;cases hob;done)|(subst hc;cases hob;done)|(cases hc;cases hob;done)
theorem Pi{x r:Value}{n:Nat}{w w':World}(h:(Instr.extract x n).run P w=.ok r w):(Instr.extract x n).run P w'=.ok r w':=by
 unfold Instr.extract at *;cases x<;>try (simp[stuck] at h;done)
 rename_i vs;cases hv:vs[n]? with
 |none=>simp[hv,stuck] at h
 |some v=>simp[hv] at h ⊢;exact h
theorem aHt{G:aE}{as:AS}{a:Act}{o:Oper}{ai:AI}{v:AV}(w0:World)(hc:bB P o=some ai)(he:cX G as ai=some v)(hob:Mg ai=true)(hs:bV F γ as.sl a)(hg:eU F G):
  ∃x,(∀w,(execOp a.eval o).run P w=.ok (.value x) w)/\RV F γ v x:=by
 have lift:∀(s:Sem Value),(∃r,(∀w,s.run P w=.ok r w)/\RV F γ v r)->∃x,(∀w,((do pure (Next.value (<- s))):Sem Next).run P w=.ok (.value x) w)/\RV F γ v x:=by
  rintro s ⟨r,h1,h2⟩;exact⟨r,fun w=>by simp[h1],h2⟩
 have ra:=fun x=>cR (G:=G) hs hg x
 have hop:=aMK hc hob;obtain⟨dst,op,type,pos,after,guard⟩:=o;simp only at hop;rcases hop with⟨x,rfl|rfl⟩|⟨x,rfl⟩|⟨s,x,f,rfl⟩|⟨x,n,rfl⟩<;>simp only[bB] at hc
 injection hc with hc;subst hc
 simp only[cX,Option.some.injEq] at he;subst he;exact⟨_,fun _=>rfl,ra x⟩
 injection hc with hc;subst hc
 simp only[cX,Option.some.injEq] at he;subst he;exact⟨_,fun _=>rfl,ra x⟩
 injection hc with hc;subst hc
 obtain⟨hv,ad,hx⟩:=V8 he (ra x);exact⟨a.eval x,fun w=>by simp[execOp,hx],hv⟩
 cases h1:sH P s f with
 |none=>simp[h1] at hc
 | some fl=>cases h2:cZ P fl.type with
  | none=>simp[h1,h2] at hc
  | some n=>
   simp only[h1,h2,aXP] at hc;split at hc
   ·cases hc
   ·rename_i hn;injection hc with hc;subst hc
    obtain⟨b,off,hx,hv⟩:=Gn he (ra x);unfold sH at h1;split at h1
    ·rename_i fs hu;unfold cZ at h2;cases hin:P.info? fl.type with
     | none=>simp[hin] at h2
     | some inf=>
      simp only[hin,aXG,Option.some.injEq] at h2;refine lift _ ⟨_,fun w=>?_,hv⟩
      simp[Instr.fieldAt,hx,run_underlying hu,h1,Instr.sureAddr,fieldPlace,sizeOf,typeInfo,hin,h2,hn,dI]
    ·cases h1
 injection hc with hc;subst hc
 obtain⟨r,h1,h2⟩:=aCt (P:=P) (w:=w0) he (ra x);exact lift _ ⟨r,fun w=>Pi h1,h2⟩
end
def Q0:Exit->Act->World->Prop:=fun _ _ _=>False
def YAt(P:Program)(ops:Array Oper)(b:Bool)(o:Oper)(x:Value)(a:Act)(w:World):Prop:=
 (Region.wanted o (yielded ops a.tmps)=true/\∀w',(b=true\/w'=w)->(execOp a.eval o).run P w'=.ok (.value x) w')\/(Region.wanted o (yielded ops a.tmps)=false/\x=undef)
def TN(P:Program)(opsA:Array Oper)(ops:List aN)(i:Nat)(K:Act->World->Prop)(a:Act)(w:World):Prop:=
 if (gY ops i).ai.isPure=true then ∃oi x,opsA[i]?=some oi/\YAt P opsA (Mg (gY ops i).ai) oi x a w/\K (a.put oi.dst x) w else wpOp P opsA Q0 i K a w
def TC(P:Program)(opsA:Array Oper)(ops:List aN)(KT:Act->World->Prop):IT->Act->World->Prop
 |.nil,a,w=>KT a w
 |.st i t,a,w=>TN P opsA ops i (TC P opsA ops KT t) a w
 |.br i t r,a,w=>TN P opsA ops i (TC P opsA ops KT t) a w/\TC P opsA ops KT r a w
 |.stop,_,_=>True
def AN(P:Program)(G:aE)(k:Nat)(o:aN)(K:AS->Prop)(st:AS):Prop:=
 if o.ai.isPure=true then (Es G st o.guard/\K ⟨aQ st.sl o.dst (.tup []),st.hp⟩)\/(iY G st o.guard/\∃v,cX G st o.ai=some v/\K ⟨aQ st.sl o.dst v,st.hp⟩) else WR P G k [o] K st
def TW(P:Program)(G:aE)(k:Nat)(ops:List aN)(K:AS->Prop):IT->AS->Prop
 |.nil,st=>K st
 |.st i t,st=>AN P G k (gY ops i) (TW P G k ops K t) st
 |.br i t r,st=>AN P G k (gY ops i) (TW P G k ops K t) st/\TW P G k ops K r st
 |.stop,_=>True
def aAg(P:Program)(opsA:Array Oper)(ops:List aN):IT->Prop
 |.nil=>True
 |.st i t=>(∃oper,opsA[i]?=some oper/\cC P opsA oper=some (gY ops i))/\aAg P opsA ops t
 |.br i t r=>(∃oper,opsA[i]?=some oper/\cC P opsA oper=some (gY ops i))/\aAg P opsA ops t/\aAg P opsA ops r
 |.stop=>True
section
variable {P:Program}{G:aE}{k:Nat}{opsA:Array Oper}{ops:List aN}{c:List (List Nat)}{F:Fz}{γ:List OI}{w:World}{a:Act}{st:AS}
theorem AN.mono{o:aN}{K K':AS->Prop}(hK:∀s,K s->K' s)(h:AN P G k o K st):AN P G k o K' st:=by
 unfold AN at *;split;rename_i hp;rw[if_pos hp] at h;rcases h with⟨h1,h2⟩|⟨h1,v,h2,h3⟩
 exact .inl ⟨h1,hK _ h2⟩;exact .inr ⟨h1,v,h2,hK _ h3⟩;rename_i hp;rw[if_neg hp] at h;exact h.mono hK
theorem TW.mono{K K':AS->Prop}(hK:∀s,K s->K' s):∀(t:IT) (st:AS),TW P G k ops K t st->TW P G k ops K' t st
 |.nil,st,h=>hK _ h
 |.st i t,st,h=>AN.mono (fun s hs=>TW.mono hK t s hs) h
 |.br i t r,st,h=>⟨AN.mono (fun s hs=>TW.mono hK t s hs) h.1,TW.mono hK r st h.2⟩
 |.stop,st,_=>trivial
theorem aLB{F0:Fz}{γ0:List OI}{w0:World}{i:Nat}{oper:Oper}{K:AS->Prop}{KC:Act->World->Prop}(hoi:opsA[i]?=some oper)(hco:cC P opsA oper=some (gY ops i))(h:AN P G k (gY ops i) K st)
  (hE:gU k F0 γ0 w0 F γ w) (hi:dE F γ st.hp w) (hs:bV F γ st.sl a) (hg:eU F0 G) (hk:k<=γ.length)
  (hN:∀a' w' F' γ' st',K st'->gU k F0 γ0 w0 F' γ' w'->dE F' γ' st'.hp w'->bV F' γ' st'.sl a'->k<=γ'.length->KC a' w'):TN P opsA ops i KC a w:=by
 have hgF:eU F G:=hg.sub hE.sub;unfold TN;unfold AN at h;split;rename_i hp;rw[if_pos hp] at h;have hco':=hco;simp only[cC] at hco';obtain⟨ai,h1,hco'⟩:=aYu.1 hco';obtain⟨g,h2,h3⟩:=Option.map_eq_some_iff.1 hco';have e1:ai=(gY ops i).ai:=by rw[<- h3]
 have e2:g=(gY ops i).guard:=by rw[<- h3]
 have e3:oper.dst=(gY ops i).dst:=by rw[<- h3]
 rw[e1] at h1;rw[e2] at h2;rcases h with⟨hn,hK⟩|⟨hgo,v,hv,hK⟩
 exact⟨oper,undef,hoi,.inr ⟨(nN (b':=true) hs h2).2 hn,rfl⟩,hN _ _ _ _ _ hK hE hi (by rw[e3];exact hs.put _ O1) hk⟩;cases hob:Mg (gY ops i).ai with
 |true=>
  obtain⟨x,hx,hr⟩:=aHt w h1 hv hob hs hgF;exact⟨oper,x,hoi,.inl ⟨(nN (b':=true) hs h2).1 hgo,fun w' _=>hx w'⟩,hN _ _ _ _ _ hK hE hi (by rw[e3];exact hs.put _ hr) hk⟩
 |false=>
  obtain⟨x,hx,hr⟩:=aCA h1 hv hi hs hgF;refine⟨oper,x,hoi,.inl ⟨(nN (b':=true) hs h2).1 hgo,fun w' hw=>?_⟩,hN _ _ _ _ _ hK hE hi (by rw[e3];exact hs.put _ hr) hk⟩
  rcases hw with hw|rfl;cases hw;exact hx
 rename_i hp;rw[if_neg hp] at h;exact WR.op h hoi hco hi hs hgF hk (fun a' w' F' γ' st' q1 q2 q3 q4 q5=>hN a' w' F' γ' st' q1 (hE.trans q2) q3 q4 q5)
theorem Wi{F0:Fz}{γ0:List OI}{w0:World}{K:AS->Prop}{KC:Act->World->Prop}(hg:eU F0 G)
  (hN:∀a' w' F' γ' st',K st'->gU k F0 γ0 w0 F' γ' w'->dE F' γ' st'.hp w'->bV F' γ' st'.sl a'->k<=γ'.length->KC a' w'):
  ∀(t:IT) (F:Fz) (γ:List OI) (a:Act) (w:World) (st:AS),aAg P opsA ops t->TW P G k ops K t st->gU k F0 γ0 w0 F γ w->dE F γ st.hp w->bV F γ st.sl a->k<=γ.length->TC P opsA ops KC t a w
 |.nil,F,γ,a,w,st,_,h,hE,hi,hs,hk=>hN a w F γ st h hE hi hs hk
 | .st i t,F,γ,a,w,st,ho,h,hE,hi,hs,hk=>by
  obtain⟨⟨oper,hoi,hco⟩,ho⟩:=ho;exact aLB hoi hco h hE hi hs hg hk (fun a' w' F' γ' st' q1 q2 q3 q4 q5=>Wi hg hN t F' γ' a' w' st' ho q1 q2 q3 q4 q5)
 | .br i t r,F,γ,a,w,st,ho,h,hE,hi,hs,hk=>by
  obtain⟨⟨oper,hoi,hco⟩,ho,hr⟩:=ho;exact⟨aLB hoi hco h.1 hE hi hs hg hk (fun a' w' F' γ' st' q1 q2 q3 q4 q5=>Wi hg hN t F' γ' a' w' st' ho q1 q2 q3 q4 q5),Wi hg hN r F γ a w st hr h.2 hE hi hs hk⟩
 |.stop,F,γ,a,w,st,_,_,_,_,_,_=>trivial
theorem kY{U:List Nat}{i j:Nat}:i∈Ju U j↔i∈U/\i≠j:=by
 simp[Ju,List.mem_filter]
theorem Pj(U:List Nat)(i j:Nat):Ju (Ju U i) j=Ju (Ju U j) i:=by
 simp only[Ju,List.filter_filter];congr 1;funext x;exact Bool.and_comm _ _
theorem A9{U:List Nat}{j:Nat}:Eu c U j=true↔∀e∈U,e∉c.getD j []:=by
 simp[Eu,aY2]
theorem Wj{U:List Nat}{i j:Nat}(h:Eu c U j=true):Eu c (Ju U i) j=true:=
 A9.2 (fun e he=>A9.1 h e (kY.1 he).1)
theorem Pl{U:List Nat}{i j:Nat}(h:aAf c ops opsA U i=true):aAf c ops opsA (Ju U j) i=true:=by
 unfold aAf at *;exact aY2.2 (fun e he=>aY2.1 h e (kY.1 he).1)
theorem Kq{U:List Nat}{i j:Nat}(h:aAf c ops opsA U i=true)(hi:i∈U)(hj:j∈U)(hne:i≠j)(hr:Eu c U j=true):
  (∃x y,opsA[i]?=some x/\opsA[j]?=some y/\x.apart opsA y=true)/\(Mg (gY ops i).ai=true\/((gY ops i).ai.isPure=true/\(gY ops j).ai.isPure=true)):=by
 have h1:=aY2.1 h j hj;have h2:=A9.1 hr i hi;have h3:(j==i)=false:=by simp[Ne.symm hne]
 have h4:(c.getD j []).contains i=false:=by simpa using h2
 rw[h3,h4] at h1;simp only[aYt,aXQ,Bool.or_eq_true] at h1;obtain⟨h5,h6⟩:=h1;refine⟨?_,h6⟩;unfold aQP at h5;split at h5;rename_i x y hx hy;exact⟨x,y,hx,hy,h5⟩;cases h5
theorem aAh{o:Oper}{ai:AI}(h:bB P o=some ai):∀cs b,o.op≠.select cs b:=by
 intro cs b e;obtain⟨dst,op,type,pos,after,guard⟩:=o;simp only at e;subst e;simp[bB] at h
variable (hsel:∀(i:Nat) (o:Oper),opsA[i]?=some o->∀cs b,o.op≠.select cs b)
variable {KT:Act->World->Prop}
include hsel
theorem YAt.put{b:Bool}{i j:Nat}{oi oj:Oper}{x u:Value}(hi:opsA[i]?=some oi)(hap:∀d,oj.dst=some d->d∉oi.looksAt opsA)(h:YAt P opsA b oi x a w):YAt P opsA b oi x (a.put oj.dst u) w:=by
 unfold YAt at *;rw[execOp_put oi (hsel i oi hi) a oj.dst u hap,wanted_put oi a oj.dst u hap];exact h
theorem YAt.unput{b:Bool}{i j:Nat}{oi oj:Oper}{x u:Value}(hi:opsA[i]?=some oi)(hap:∀d,oj.dst=some d->d∉oi.looksAt opsA)(h:YAt P opsA b oi x (a.put oj.dst u) w):YAt P opsA b oi x a w:=by
 unfold YAt at *;rw[execOp_put oi (hsel i oi hi) a oj.dst u hap,wanted_put oi a oj.dst u hap] at h;exact h
theorem aQQ{j:Nat}(hpj:(gY ops j).ai.isPure=true):∀(t:IT) (U D:List Nat) (a:Act) (w:World),vT c ops opsA t U D=true->j∈U->j∉D->Eu c U j=true->TC P opsA ops KT t a w->
  ∃oj x,opsA[j]?=some oj/\YAt P opsA (Mg (gY ops j).ai) oj x a w/\∃t',vT c ops opsA t' (Ju U j) []=true/\TC P opsA ops KT t' (a.put oj.dst x) w:=by
 intro t
 induction t with
 |nil=>
  intro U D a w hv hj;simp only[vT,aXQ,List.isEmpty_iff] at hv;rw[hv.1] at hj;cases hj
 |st i t ih=>
  intro U D a w hv hj hD hr h;simp only[vT,aXQ] at hv;obtain⟨⟨⟨hd,hiU⟩,hf⟩,hv⟩:=hv;have hiU:i∈U:=by simpa using hiU
  by_cases hij:i=j;subst hij;simp only[TC,TN,if_pos hpj] at h;obtain⟨oi,x,h1,h2,h3⟩:=h;exact⟨oi,x,h1,h2,t,hv,h3⟩;obtain⟨⟨oi,oj,hoi,hoj,hap⟩,hk⟩:=Kq hf hiU hj hij hr;have hpi:(gY ops i).ai.isPure=true:=by
   rcases hk with hk|hk;exact Ph hk;exact hk.1
  simp only[TC,TN,if_pos hpi] at h;obtain⟨oi',x,h1,h2,h3⟩:=h;rw[hoi] at h1;injection h1 with h1;subst h1
  obtain⟨oj',u,g1,g2,t',g3,g4⟩:=ih (Ju U i) [] _ w hv (kY.2 ⟨hj,Ne.symm hij⟩) (by simp) (Wj hr) h3;rw[hoj] at g1;injection g1 with g1;subst g1
  obtain⟨a1,a2,a3⟩:=Oper.apart_spec hap;refine⟨oj,u,hoj,YAt.unput hsel (j:=i) hoj a1 g2,.st i t',?_,?_⟩;simp only[vT,aXQ];exact⟨⟨⟨rfl,by simpa using kY.2 ⟨hiU,hij⟩⟩,Pl hf⟩,by rw[<- Pj];exact g3⟩;simp only[TC,TN,if_pos hpi];exact⟨oi,x,hoi,YAt.put hsel (j:=j) hoi a3 h2,by rw[<- Act.put_comm a x u a2];exact g4⟩
 |br i t r iht ihr=>
  intro U D a w hv hj hD hr h;simp only[vT,aXQ] at hv;obtain⟨⟨hiU,hv⟩,hvr⟩:=hv;by_cases hij:i=j;subst hij;simp only[TC,TN,if_pos hpj] at h;obtain⟨⟨oi,x,h1,h2,h3⟩,_⟩:=h;exact⟨oi,x,h1,h2,t,hv,h3⟩;exact ihr U (i::D) a w hvr hj (by simp[hD,Ne.symm hij]) hr h.2
 |stop=>
  intro U D a w hv hj hD hr h;simp only[vT,aXQ] at hv;have:=aY2.1 hv.2 j hj;rw[hr] at this;simp[hD] at this
theorem aQR{j:Nat}(hpj:¬ (gY ops j).ai.isPure=true):∀(t:IT) (U D:List Nat) (a:Act) (w:World),vT c ops opsA t U D=true->j∈U->j∉D->Eu c U j=true->TC P opsA ops KT t a w->
  wpOp P opsA Q0 j (fun a' w'=>∃t',vT c ops opsA t' (Ju U j) []=true/\TC P opsA ops KT t' a' w') a w:=by
 intro t
 induction t with
 |nil=>
  intro U D a w hv hj;simp only[vT,aXQ,List.isEmpty_iff] at hv;rw[hv.1] at hj;cases hj
 |st i t ih=>
  intro U D a w hv hj hD hr h;simp only[vT,aXQ] at hv;obtain⟨⟨⟨hd,hiU⟩,hf⟩,hv⟩:=hv;have hiU:i∈U:=by simpa using hiU
  by_cases hij:i=j;subst hij;simp only[TC,TN,if_neg hpj] at h;exact wpOp_mono (fun a' w' h=>⟨t,hv,h⟩) h
  obtain⟨⟨oi,oj,hoi,hoj,hap⟩,hk⟩:=Kq hf hiU hj hij hr;have hob:Mg (gY ops i).ai=true:=by
   rcases hk with hk|hk;exact hk;exact absurd hk.2 hpj
  have hpi:=Ph hob;simp only[TC,TN,if_pos hpi] at h;obtain⟨oi',x,h1,h2,h3⟩:=h;rw[hoi] at h1;injection h1 with h1;subst h1
  have hy:Yields P opsA oi x a:=by
   rcases h2 with⟨b1,b2⟩|b;exact .inl ⟨b1,fun w'=>b2 w' (.inl hob)⟩
   exact .inr b
  have g:=ih (Ju U i) [] _ w hv (kY.2 ⟨hj,Ne.symm hij⟩) (by simp) (Wj hr) h3;have g2:=wpOp_put hoj hap (hsel i oi hoi) (hsel j oj hoj) (fun _ _ _ h=>h) hy g
  refine wpOp_mono (fun a' w' ⟨b1,t',b2,b3⟩=>⟨.st i t',?_,?_⟩) g2
  simp only[vT,aXQ];exact⟨⟨⟨rfl,by simpa using kY.2 ⟨hiU,hij⟩⟩,Pl hf⟩,by rw[<- Pj];exact b2⟩;simp only[TC,TN,if_pos hpi];refine⟨oi,x,hoi,?_,b3⟩;rcases b1 with⟨c1,c2⟩|c
  exact .inl ⟨c1,fun w' _=>c2 w'⟩
  exact .inr c
 |br i t r iht ihr=>
  intro U D a w hv hj hD hr h;simp only[vT,aXQ] at hv;obtain⟨⟨hiU,hv⟩,hvr⟩:=hv;by_cases hij:i=j;subst hij;simp only[TC,TN,if_neg hpj] at h;exact wpOp_mono (fun a' w' h=>⟨t,hv,h⟩) h.1
  exact ihr U (i::D) a w hvr hj (by simp[hD,Ne.symm hij]) hr h.2
 |stop=>
  intro U D a w hv hj hD hr h;simp only[vT,aXQ] at hv;have:=aY2.1 hv.2 j hj;rw[hr] at this;simp[hD] at this
theorem aQS{QE:Exit->Act->World->Prop}{j:Nat}{t:IT}{U:List Nat}{a:Act}{w:World}(hv:vT c ops opsA t U []=true)(hj:j∈U)(hr:Eu c U j=true)(h:TC P opsA ops KT t a w):
  wpOp P opsA QE j (fun a' w'=>∃t',vT c ops opsA t' (Ju U j) []=true/\TC P opsA ops KT t' a' w') a w:=by
 by_cases hp:(gY ops j).ai.isPure=true;obtain⟨oj,x,h1,h2,h3⟩:=aQQ hsel hp t U [] a w hv hj (by simp) hr h;unfold wpOp;simp only[h1];rcases h2 with⟨b1,b2⟩|⟨b1,rfl⟩
 simp only[b1,if_true,Oper.wp,b2 w (.inr rfl),Oper.upon];exact .inl h3;simp only[b1,aYP,if_false];exact h3;have g:=aQR hsel hp t U [] a w hv hj (by simp) hr h;unfold wpOp at *;split;rename_i ho;rw[ho] at g;exact g;rename_i o ho;rw[ho] at g;simp only at g;split;rename_i hw;rw[if_pos hw] at g;rcases g with g|⟨_,_,_,g⟩
 exact .inl (wpQ (fun _ _ _ _ h=>h.elim) g)
 exact g.elim;rename_i hw;rw[if_neg hw] at g;exact g
end
section
variable {P:Program}{G:aE}{k:Nat}{F:Fz}{γ:List OI}{w:World}{a:Act}
theorem aC0{c:List (List Nat)}{ops:List aN}{opsA:Array Oper}{t:IT}(h:vT c ops opsA t [] []=true):t=.nil:=by
 cases t<;>simp[vT] at h;rfl
def Fm(ops:List Oper):Bool:=[Region.Mode.text,.gc,.any].all fun md=>A3 md ops
theorem Wk:∀(l:List aN) (i:Nat),i<l.length->l[i]?=some (gY l i)
 |[],i,h=>by simp at h
 |o::l,0,h=>rfl
 |o::l,i+1,h=>by simp only[aZa,gY];exact Wk l i (by simpa using h)
theorem Mi{c:List (List Nat)}{ops:List aN}{opsA:Array Oper}(hop:∀i,i<ops.length->∃oper,opsA[i]?=some oper/\cC P opsA oper=some (gY ops i)):
  ∀(t:IT) (U D:List Nat),vT c ops opsA t U D=true->(∀i∈U,i<ops.length)->aAg P opsA ops t
 |.nil,_,_,_,_=>trivial
 |.stop,_,_,_,_=>trivial
 | .st i t,U,D,hv,hU=>by
  simp only[vT,aXQ] at hv;obtain⟨⟨⟨hd,hiU⟩,hf⟩,hv⟩:=hv;exact⟨hop i (hU i (by simpa using hiU)),Mi hop t _ _ hv (fun j hj=>hU j (kY.1 hj).1)⟩
 | .br i t r,U,D,hv,hU=>by
  simp only[vT,aXQ] at hv;obtain⟨⟨hiU,hv⟩,hvr⟩:=hv;exact⟨hop i (hU i (by simpa using hiU)),Mi hop t _ _ hv (fun j hj=>hU j (kY.1 hj).1),Mi hop r _ _ hvr hU⟩
theorem aAi{id:Nat}{opsA:Array Oper}{l:List aN}{t:IT}{K:AS->Prop}{st:AS}(hc:bE P opsA opsA.toList=some l)
  (hok:Fm opsA.toList=true) (hv:vT (jO opsA.toList []) l opsA t (List.range l.length) []=true) (hw:TW P G k l K t st) (hi:dE F γ st.hp w) (hs:bV F γ st.sl a) (hg:eU F G) (hk:k<=γ.length)
  {QE:Exit->Act->World->Prop} (hQ:∀a' w' F' γ' st',K st'->gU k F γ w F' γ' w'->dE F' γ' st'.hp w'->bV F' γ' st'.sl a'->k<=γ'.length->QE .normal a' w'):(Code.region id opsA true).wp P QE a w:=by
 refine wp_region_draw fun t=>?_
 suffices hmd:∀md:Region.Mode,wpAny P md opsA QE opsA.size (Array.replicate opsA.size false) a { w with drawn:=w.drawn+1 } by
  unfold Region.schedule;split;exact wpAny_sound opsA.size t _ a _ (hmd _);exact wpAny_sound opsA.size (t / 2) _ a _ (hmd _)
 intro md;have comp:∀(ops:List Oper) (l:List aN),bE P opsA ops=some l->ops.length=l.length/\∀(i:Nat) o x,ops[i]?=some o->l[i]?=some x->cC P opsA o=some x:=by
  intro ops
  induction ops with
  |nil=>intro l h;simp[bE] at h;subst h;exact⟨rfl,fun i o x h=>by simp at h⟩
  |cons o ops ih=>
   intro l h;simp only[bE] at h;cases h1:cC P opsA o with
   |none=>simp[h1] at h
   | some y=>cases h2:bE P opsA ops with
    | none=>simp[h1,h2] at h
    | some r=>
     simp[h1,h2] at h;subst h;obtain⟨i1,i2⟩:=ih r h2;refine⟨by simp[i1],fun i o' x' ho hx=>?_⟩
     cases i with
     | zero=>simp at ho hx;subst ho;subst hx;exact h1
     | succ i=>exact i2 i o' x' (by simpa using ho) (by simpa using hx)
 obtain⟨hlen,hcomp⟩:=comp _ _ hc;have hN:opsA.size=l.length:=by simpa using hlen
 have hop:∀(i:Nat) oper,opsA[i]?=some oper->cC P opsA oper=some (gY l i):=by
  intro i oper h;have hlt:i<l.length:=by rw[<- hN];exact (Array.getElem?_eq_some_iff.1 h).1
  exact hcomp i oper _ (by simpa using h) (Wk l i hlt)
 have hsel:∀(i:Nat) (o:Oper),opsA[i]?=some o->∀cs b,o.op≠.select cs b:=by
  intro i o ho;have h1:=hop i o ho;simp only[cC] at h1;obtain⟨ai,h2,_⟩:=aYu.1 h1;exact aAh h2
 have htop:A3 md opsA.toList=true:=by
  have:=aY2.1 hok md (by cases md<;>simp);exact this
 simp only[A3,Wg,aXQ] at htop;generalize aCH (opsA.toList.map (jV md)) opsA.toList.length [] (List.range opsA.toList.length)=tord at htop;obtain⟨⟨ht1,ht3⟩,ht2⟩:=htop;have hrange:∀(i:Nat) o,opsA[i]?=some o->∀e∈jV md o,e<opsA.size:=by
  intro i o ho e he;have h1:=aY2.1 ht3 (jV md o) (List.mem_map.2 ⟨o,by
   rw[Array.mem_toList_iff];exact Array.mem_of_getElem? ho,rfl⟩)
  simpa using aY2.1 h1 e he
 have htall:∀(listed:Array Bool),listed.size=opsA.size->Region.ready md opsA listed=[]->∀(r done:List Nat),sO (opsA.toList.map (jV md)) r done=true->(∀j∈done,j<opsA.size->listed.getD j false=true)->∀j∈r,j<opsA.size->listed.getD j false=true:=by
  intro listed hsz hno r
  induction r with
  |nil=>intro done _ _ j hj;cases hj
  |cons i r ih=>
   intro done h hd j hj hlt;simp only[sO,aXQ] at h;have hi0:i<opsA.size->listed.getD i false=true:=by
    intro hil;cases hlj:listed.getD i false with
    |true=>rfl
    |false=>
     exfalso;have hoi:opsA[i]?=some opsA[i]:=aX8 hil;have:i∈Region.ready md opsA listed:=sU hsz hil hlj hoi (fun e he=>by
      have h3:=aY2.1 h.1 e (by
       rw[aXN,aXI];simp only[aYy,hoi,aXG,aYn];exact he)
      have hmem:e∈done:=by simpa using h3
      exact hd e hmem (hrange i _ hoi e he))
     rw[hno] at this;cases this
   rcases aYR.1 hj with rfl|hj;exact hi0 hlt
   ·exact ih (i::done) h.2 (fun q hq hql=>by
    rcases aYR.1 hq with rfl|hq
    ·exact hi0 hql
    ·exact hd q hq hql) j hj hlt
 have hall:∀(listed:Array Bool),listed.size=opsA.size->Region.ready md opsA listed=[]->∀j,j<opsA.size->listed.getD j false=true:=by
  intro listed hsz hno j hj;refine htall listed hsz hno tord [] ht1 (fun j hj=>by cases hj) j ?_ hj
  have:=aY2.1 ht2 j (by simpa using hj);simpa using this
 have main:∀(fuel:Nat) (listed:Array Bool) (a:Act) (w':World) (U:List Nat) (t:IT),listed.size=opsA.size->(∀i,i<opsA.size->(listed.getD i false=false↔i∈U))->(∀i∈U,i<opsA.size)->U.length<=fuel->
   (∀(i:Nat) o,opsA[i]?=some o->listed.getD i false=true->∀e∈kC o,listed.getD e false=true)->
   vT (jO opsA.toList []) l opsA t U []=true->TC P opsA l (fun a w=>QE .normal a w) t a w'->wpAny P md opsA QE fuel listed a w':=by
  intro fuel
  induction fuel with
  |zero=>
   intro listed a w' U t hsz hU hUl hf hcl hv hT;have hnil:U=[]:=aYL (by omega);subst hnil;have:=aC0 hv;subst this;refine⟨?_,hT⟩;rw[List.eq_nil_iff_forall_not_mem];intro i hi;obtain⟨h1,h2,_⟩:=lQ hsz hi;have:=(hU i h1).1 h2;simp at this
  |succ fuel ih=>
   intro listed a w' U t hsz hU hUl hf hcl hv hT;refine⟨fun hno=>?_,fun i hi=>?_⟩
   have hz:=hall listed hsz hno;cases U with
   |nil=>have:=aC0 hv;subst this;exact hT
   |cons u U=>
    have h1:=hUl u aXV;have:=(hU u h1).2 aXV;rw[hz u h1] at this;cases this
   obtain⟨h1,h2,oper,hoi,he⟩:=lQ hsz hi;have hclo:∀j∈(jO opsA.toList []).getD i [],listed.getD j false=true:=
    Tc (L:=fun j=>listed.getD j false=true) opsA.toList (fun i o h=>hcl i o (by simpa using h)) i oper (by simpa using hoi) he
   have hiU:=(hU i h1).1 h2;have hrd:Eu (jO opsA.toList []) U i=true:=A9.2 (fun e heU hec=>by
    have g1:=hclo e hec;have g2:=(hU e (hUl e heU)).2 heU;rw[g1] at g2;cases g2)
   refine wpOp_mono (fun a'' w'' ⟨t',g1,g2⟩=>?_) (aQS hsel hv hiU hrd hT)
   refine ih _ a'' w'' (Ju U i) t' (by simpa using hsz) (fun j hj=>?_) (fun j hj=>hUl j (kY.1 hj).1) ?_ (fun j oj hoj hj e hee=>?_) g1 g2
   by_cases hij:i=j;subst hij;rw[show (listed.setIfInBounds i true).getD i false=true by rw[aYT,aZf (by omega)];rfl];simp[kY];rw[getD_set_ne false hij,hU j hj,kY];simp[Ne.symm hij];have:(Ju U i).length<U.length:=by
    unfold Ju;exact List.length_filter_lt_length_iff_exists.2 ⟨i,hiU,by simp⟩
   omega;by_cases hij:i=j;subst hij;rw[hoi] at hoj;injection hoj with hoj;subst hoj
   exact getD_set_true (he e hee);rw[getD_set_ne false hij] at hj;exact getD_set_true (hcl j oj hoj hj e hee)
 have hrep:∀j,(Array.replicate opsA.size false).getD j false=false:=by
  intro j;rw[aYT];by_cases hjs:j<opsA.size<;>simp[hjs]
 have hokT:aAg P opsA l _:=Mi (fun i hil=>by
  have hs':i < opsA.size:=by omega
  exact⟨_,aX8 hs',hop i _ (aX8 hs')⟩) _ _ _ hv (fun i hi=>by simpa using hi)
 have hT:=Wi (P:=P) (opsA:=opsA) (ops:=l) (KC:=fun a w=>QE .normal a w) hg hQ _ F γ a { w with drawn:=w.drawn+1 } st hokT hw (gU.drawn _ _ _ _ _) (hi.drawn _) hs hk
 exact main opsA.size (Array.replicate opsA.size false) a { w with drawn:=w.drawn+1 } (List.range l.length) _ (by simp) (fun i hi=>by
   rw[hrep];simp;omega) (fun i hi=>by rw[hN];simpa using hi) (by simp[hN]) (fun i o ho hl=>by rw[hrep] at hl;cases hl) hv hT
end
end
end Go.Proofs.YthepfneloomngaaGreatDoor
