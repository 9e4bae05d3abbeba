/- slices.SortFunc over an array of one's own, by a comparison that reads the cells of two elements alone. Conditions: none. -/
import Derived.Test.YthepfneloomngaaGreatDoorTa
import Derived.Shelf.SlSortCmp.WholeK
namespace Go.Proofs.YthepfneloomngaaGreatDoor
set_option linter.unusedSimpArgs false
set_option linter.unusedVariables false
open Go.Sort
section
variable {α:Type} [Inhabited α]
theorem U7(enc:α->List Value)(k:Nat){w:World}{b m:Nat}{d:Array α}{os:Array Obj}{vs:Array Value}{T:TypeId}{fr:Nat×Nat}(h:w.heap[b]?=some (.cells vs T fr)):
  (sortWorldK enc k w b 0 m d os).heap[b]?=some (.cells (putCells id 0 (flatK enc k d) vs) T fr)/\(∀b',b'<w.heap.size->b'≠b->(sortWorldK enc k w b 0 m d os).heap[b']?=w.heap[b']?)/\
  w.heap.size<=(sortWorldK enc k w b 0 m d os).heap.size:=by
 have hb:=(Array.getElem?_eq_some_iff.1 h).1;have e:(sortWorldK enc k w b 0 m d os).heap=w.heap.modify b (onCells (putCells id 0 (flatK enc k d)))++os:=rfl;rw[e];refine⟨?_,fun b' hb' hne=>?_,?_⟩
 rw[Array.getElem?_append_left (by simpa using hb),aY6,if_pos rfl,h];rfl;rw[Array.getElem?_append_left (by simpa using hb'),aY6,if_neg (Ne.symm hne)];simp
theorem aJ5(enc:α->List Value)(k:Nat)(hk:∀x,(enc x).length=k)(d:Array α)(vs:Array Value)(i j:Nat)(hi:i<d.size)(hj:j<k)(hs:d.size*k<=vs.size):
  (putCells id 0 (flatK enc k d) vs)[i*k+j]?=(enc d[i]!)[j]?:=by
 have h1:i*k+j<d.size*k:=by
  have:(i+1)*k<=d.size*k:=aYD _ hi;rw[aYf] at this;omega
 have h2:(i*k+j) / k=i:=by
  rw[aYM,Nat.mul_add_div (by omega),Nat.div_eq_of_lt hj,aYp]
 have h3:(i*k+j) % k=j:=by
  rw[aYM,Nat.mul_add_mod,aYB hj]
 unfold putCells;rw[Array.getElem?_mapIdx,aX8 (by omega),aXG,if_pos ⟨aXX _,by rw[size_flatK];omega⟩,Nat.sub_zero,get_flatK enc k d _ h1,h2,h3];have h4:j<(enc d[i]!).length:=by rw[hk];exact hj
 rw[aXJ h4,getElem!_pos _ j h4];rfl
end
theorem Yj{β:Type}(a:Array β){n:Nat}(h:a.size<=n):a.extract 0 n=a:=by
 apply Array.ext;simp;omega;intro i h1 h2;simp
theorem Rt{v:Value}(h:is1 v=true):v.oneCell'=true:=by
 cases v<;>first|rfl|cases h
theorem aBB{F:Fz}{w w':World}{b:Nat}{cs cs':List aT}{ws':Array Value}{T:TypeId}(hi:dE F [OI.box b] [.box cs] w)
  (hfar:∀b',b'<w.heap.size->b'≠b->w'.heap[b']?=w.heap[b']?) (h1:w'.os=w.os) (h2:w'.tape=w.tape) (h3:w'.output=w.output) (h4:w.heap.size<=w'.heap.size)
  (hh:L5 w' b ws' T) (hws:cs'.length<=ws'.size) (hr:∀(i:Nat) c v,cs'[i]?=some c->ws'[i]?=some v->RC F [OI.box b] c v):
  gU 1 F [OI.box b] w F [OI.box b] w'/\dE F [OI.box b] [.box cs'] w':=by
 have hx:[OI.box b][0]?=some (OI.box b):=rfl;have hb:∀b',(OI.box b).blk=some b'->(OI.box b).blk=some b'\/b'=w.heap.size:=fun b' h=>.inl h
 have hf:∀b',b'<w.heap.size->(OI.box b).blk≠some b'->w'.heap[b']?=w.heap[b']?:=fun b' hb' hne=>hfar b' hb' (fun e=>hne (by rw[e];rfl))
 refine⟨⟨fun _ _ h=>h,h1,h2,h3,h4,fun b' hb' hn=>hfar b' hb' (fun e=>hn 0 (by rw[e];rfl)),fun _ _ h=>.inl h,fun i b h=>.inl ⟨i,h⟩,fun i _ b h=>h⟩,?_⟩
 exact dE.setArr hi hx hb hf ⟨ws',T,hh,hws,hr⟩
theorem Yk{α:Type}{s:Nat}:∀(es:List (List α)),(∀e∈es,e.length=s)->∀(i j:Nat) e d,es[i]?=some e->e[j]?=some d->es.flatten[i*s+j]?=some d
 |[],_,i,j,e,d,h,_=>by simp at h
 | x::es,hs,i,j,e,d,h1,h2=>by
  have hx:=hs x (aXV ..);rw[aYA];cases i with
  | zero=>
   simp only[List.getElem?_cons_zero,Option.some.injEq] at h1;subst h1;rw[Nat.zero_mul,aYi,aXU (aG h2)];exact h2
  | succ i=>
   rw[aZa] at h1;rw[aXY (by rw[hx,Nat.succ_mul];omega),hx,show (i+1) * s+j - s=i * s+j by rw[Nat.succ_mul];omega];exact Yk es (fun x hx=>hs x (aX3 _ hx)) i j e d h1 h2
theorem aJ6{P:Program}{G:aE}{f g:FuncId}{k:Nat}(hk0:0<k)
  (hS:∀ (α:Type) [Inhabited α] (enc:α->List Value) (cf:α->α->Int) (blk cap:Nat) (d:Array α) (w:World),(∀ x,(enc x).length=k)->(∀ x,∀ v∈enc x,v.oneCell'=true)->SWO (ltOf cf)->CmpLays P g #[] enc k cf blk 0 d.size w->HoldsK enc k w blk 0 d->blk < w.heap.size->d.size < 4611686018427387904->
   Calls P f #[.slice (some ⟨blk,0,none⟩) d.size cap,.func (.func g) #[] #[]] w fun e w'=>e=.returned (.tuple #[])/\∃ d' n os,PermIn 0 d.size d d'/\SortedIn (ltOf cf) 0 d.size d'/\w'=sortWorldK enc k w blk 0 n d' os)
  {es:List (List DC)} (hn:es≠[]) (hz:∀e∈es,e.length=k) (hlen:es.length<4611686018427387904) (cfD:List DC->List DC->Int)
  (hO:SWO (fun i j:_root_.Fin es.length=>decide (cfD es[i] es[j]<0)))
  (hc:∀ (F:Fz) (w:World) (dx dy:List DC) (vx vy:List Value),dx∈es->dy∈es->vx.length=k->vy.length=k->(∀ (j:Nat) d v,dx[j]?=some d->vx[j]?=some v->RD F d v)->(∀ (j:Nat) d v,dy[j]?=some d->vy[j]?=some v->RD F d v)->
   Calls P g #[.agg vx.toArray,.agg vy.toArray] w fun e w'=>e=.returned (.int .i64 (cfD dx dy))/\∃ q os',w'=grow (w.drewN q) os'):
  AC P G f [.one (.bls 0 0 es.length k),.one (.fn g [])] [.box (mD es.flatten)] fun av o=>av=.tup []/\∃es':List (List DC),es'.Perm es/\(∀(i j:Nat) a b,i<j->es'[i]?=some a->es'[j]?=some b->¬ cfD b a<0)/\o=[.box (mD es'.flatten)]:=by
 intro F γ vs w hi hg hv;obtain⟨hz2,hv⟩:=hv;obtain⟨l⟩:=vs
 match l,hz2 with
 |[x,y],_=>
  have hx:=hv 0 _ _ rfl rfl;have hy:=hv 1 _ _ rfl rfl;have hyv:y=.func (.func g) #[] #[]:=by
   cases hy with|one _ _ hy=>cases hy with
   |fn f' caps g' hr=>rfl
  subst hyv;have hpos:0<es.length:=List.length_pos_iff.2 hn;have hγ:γ.length=1:=hi.len
  match γ,hγ with
  |[o0],_=>
   cases hx with|one _ _ hx=>
   generalize hnn:es.length=n0 at hx;cases hx with
   |bls id lo n size b cap c off hgm ho hcn=>
    have hoff:off=0:=by rw[ho (by omega)];simp
    subst hoff;have hok:=hi.ok 0 _ o0 rfl rfl;have h0:o0=.box b:=by
     rcases hgm with h|h;injection h with h;subst h;exact hok.elim;injection h
    subst h0;obtain⟨ws,T,⟨fz,hh,hnf⟩,hsz,hrc⟩:=hok;subst hnn;obtain⟨hfl,hfg⟩:=pZ es hz;have hmul:es.length*k<=ws.size:=by rw[<- hfl];rw[mD,aXC] at hsz;exact hsz
    have hr:∀ (i j:Nat) e d v,es[i]?=some e->e[j]?=some d->ws[i * k+j]?=some v->RD F d v:=fun i j e d v h1 h2 h3=>by
     have h4:=Yk es hz i j e d h1 h2;have h5:=hrc (i * k+j) (.dc d) v (by simp only[mD,aXI,h4,aXG]) h3;cases h5 with | dc _ _ h=>exact h
    have hb:=(Array.getElem?_eq_some_iff.1 hh).1
    letI:Inhabited (_root_.Fin es.length):=⟨⟨0,hpos⟩⟩
    have hin:∀ (i:_root_.Fin es.length) (j:Nat),j < k->i.1 * k+j < ws.size:=fun i j hj=>by
     have:(i.1+1) * k<=es.length * k:=aYD _ i.2;rw[aYf] at this;omega
    have hk:∀x:_root_.Fin es.length,((List.range k).map fun j=>ws[x.1*k+j]!).length=k:=fun x=>by simp
    have hget:∀ (x:_root_.Fin es.length) (j:Nat) v,((List.range k).map fun j=>ws[x.1 * k+j]!)[j]?=some v->j < k/\ws[x.1 * k+j]?=some v:=fun x j v hv=>by
     have hj:j < k:=by
      have:=(List.getElem?_eq_some_iff.1 hv).1;simpa using this
     rw[aXI,aYU hj] at hv;simp only[aXG,Option.some.injEq] at hv;have:=hin x j hj;exact⟨hj,by rw[aX8 this,<- hv,getElem!_pos ws _ this]⟩
    have hRD:∀(x:_root_.Fin es.length) (j:Nat) d v,(es[x.1])[j]?=some d->((List.range k).map fun j=>ws[x.1*k+j]!)[j]?=some v->RD F d v:=fun x j d v hd hv=>
     hr x.1 j _ d v (aXJ x.2) hd (hget x j v hv).2
    have h1:∀ x:_root_.Fin es.length,∀ v∈(List.range k).map (fun j=>ws[x.1 * k+j]!),v.oneCell'=true:=fun x v hv=>by
     obtain⟨j,hj⟩:=aYZ hv;have hjk:=(hget x j v hj).1;have hel:(es[x.1]).length=k:=hz _ (aXM x.2);exact Rt (hRD x j _ v (aXJ (by omega)) hj).is1
    have hd:(Array.ofFn fun i:_root_.Fin es.length=>i).size=es.length:=by simp
    have hdg:∀ t (ht:t < es.length),(Array.ofFn fun i:_root_.Fin es.length=>i)[t]! = ⟨t,ht⟩:=fun t ht=>by
     rw[getElem!_pos _ t (by simpa using ht)];simp
    have hq:=hS (_root_.Fin es.length) (fun x=>(List.range k).map fun j=>ws[x.1 * k+j]!) (fun x y=>cfD es[x.1] es[y.1]) b c (Array.ofFn fun i:_root_.Fin es.length=>i) w hk h1 hO
     (fun m os dk _ x y=>by
      have:=hc F (sortWorldK (fun x:_root_.Fin es.length=>(List.range k).map fun j=>ws[x.1 * k+j]!) k w b 0 m dk os) es[x.1] es[y.1] _ _ (aXM x.2) (aXM y.2) (hk x) (hk y) (hRD x) (hRD y)
      exact this)
     (fun j hj=>by
      rw[size_flatK,hd] at hj;have hj2:j < ws.size:=by omega
      have e1:(flatK (fun x:_root_.Fin es.length=>(List.range k).map fun j=>ws[x.1 * k+j]!) k (Array.ofFn fun i:_root_.Fin es.length=>i))[j]! = ws[j]:=by
       have hjd:j / k < es.length:=Nat.div_lt_of_lt_mul (by rw[aYM];exact hj);have hjm:j % k < k:=Nat.mod_lt _ hk0;rw[get_flatK _ _ _ _ (by rw[hd];exact hj),hdg _ hjd,getElem!_pos _ _ (by simpa using hjm)];simp only[aYo,List.getElem_range];have:j / k * k+j % k=j:=by rw[aYM];exact Nat.div_add_mod j k
       rw[this,getElem!_pos ws j hj2]
      rw[e1,aYi];refine⟨?_, ?_⟩
      ·unfold World.cell?;simp only[hh];simp[hj2]
      ·have h9:=hnf j hj2;unfold World.frozen?;simp only[hh];simpa using h9)
     hb (by rw[hd];exact hlen)
    rw[hd] at hq;refine hq.mono ?_;rintro e w' ⟨rfl,d',n',os,hp,hs,rfl⟩;obtain⟨s1,s2,s3⟩:=U7 (fun x:_root_.Fin es.length=>(List.range k).map fun j=>ws[x.1*k+j]!) k (m:=n') (d:=d') (os:=os) hh
    have hds:d'.size=es.length:=by rw[hp.1,hd]
    have hall:d'.toList.Perm (List.finRange es.length):=by
     have h3:=hp.2.2;have e1:d'.extract 0 es.length=d':=Yj d' (by omega);have e2:(Array.ofFn fun i:_root_.Fin es.length=>i).extract 0 es.length=Array.ofFn fun i:_root_.Fin es.length=>i:=Yj _ (by simp)
     rw[e1,e2] at h3;have e3:(Array.ofFn fun i:_root_.Fin es.length=>i).toList=List.finRange es.length:=by simp[List.finRange,Array.toList_ofFn]
     rw[e3] at h3;exact h3
    have hpe:(d'.toList.map fun i=>es[i.1]).Perm es:=by
     have h4:=hall.map (fun i:_root_.Fin es.length=>es[i.1])
     have e4:(List.finRange es.length).map (fun i:_root_.Fin es.length=>es[i.1])=es:=by
      apply List.ext_getElem
      ·simp
      ·intro i h1 h2;simp
     rw[e4] at h4;exact h4
    have hel:(d'.toList.map fun i=>es[i.1]).length=es.length:=hpe.length_eq
    have hat:∀ (i:Nat) a,(d'.toList.map fun i=>es[i.1])[i]?=some a->∃ h:i < d'.size,a=es[d'[i].1]:=fun i a ha=>by
     have h5:=(List.getElem?_eq_some_iff.1 ha).1;have h6:i < d'.size:=by simpa using h5
     refine⟨h6, ?_⟩;rw[aXI,aXJ (by simpa using h6)] at ha;simp only[aXG,Option.some.injEq] at ha;rw[<- ha];simp
    have hzz:∀e∈d'.toList.map fun i=>es[i.1],e.length=k:=fun e he=>hz e (hpe.mem_iff.1 he)
    obtain⟨hfl',hfg'⟩:=pZ _ hzz;have hEI:=aBB (cs':=mD (d'.toList.map fun i=>es[i.1]).flatten) hi (fun b' hb' hne=>s2 b' hb' hne) rfl rfl rfl s3 ⟨_,s1,by simpa[putCells] using hnf⟩ (by
     have e1:(mD (d'.toList.map fun i=>es[i.1]).flatten).length=es.length * k:=by
      rw[mD,aXC,hfl',hel]
     rw[e1];simpa[putCells] using hmul) (fun m c v h1 h3=>by
     simp only[mD,aXI] at h1;obtain⟨d,h2,rfl⟩:=Option.map_eq_some_iff.1 h1;obtain⟨i,j,e,h4,h5,rfl⟩:=hfg' m d h2;obtain⟨hi',rfl⟩:=hat i e h4;have hj:j < k:=by
      have:=(List.getElem?_eq_some_iff.1 h5).1;rw[hz _ (aXM _)] at this;exact this
     rw[aJ5 _ k hk d' ws i j hi' hj (by rw[hds];omega),getElem!_pos d' i hi'] at h3;exact .dc _ _ (hRD d'[i] j d v h5 h3))
    refine⟨_,.tup [],_,F,_,rfl,⟨rfl,_,hpe,fun i j a b' hij ha hb'=>?_,rfl⟩,aXF _,hEI.1,hEI.2,.tup _ _ rfl (fun i t v h=>by simp at h)⟩
    obtain⟨hi',rfl⟩:=hat i a ha;obtain⟨hj',rfl⟩:=hat j b' hb';have h7:=hs i j (aXX _) hij (by omega);unfold ltOf at h7;rw[getElem!_pos d' i hi',getElem!_pos d' j hj'] at h7;simpa using h7
end Go.Proofs.YthepfneloomngaaGreatDoor
