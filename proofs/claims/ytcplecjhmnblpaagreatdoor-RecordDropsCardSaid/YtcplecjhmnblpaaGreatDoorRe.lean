/- slices.Delete of one attribute: its contract. Conditions: as each theorem says. -/
import Derived.Test.YtcplecjhmnblpaaGreatDoorRd
import Derived.Test.YtcplecjhmnblpaaGreatDoorTa
namespace Go.Proofs.YtcplecjhmnblpaaGreatDoor
section
variable {F:Fz} {γ:List OI} {w w':World}
theorem setCells_at {b:Nat} {T:TypeId}:∀ (vs:List Value) (o:Nat) (w:World) (ws:Array Value),Own w b ws T→
  ∃ ws',Own (w.setCells b o vs) b ws' T∧ws'.size=ws.size∧(∀ n,ws'[n]?=if o≤n∧n < o+vs.length∧n < ws.size then vs[n - o]? else ws[n]?)∧
   (∀ b',b'≠b→(w.setCells b o vs).heap[b']?=w.heap[b']?)∧(w.setCells b o vs).os=w.os∧(w.setCells b o vs).tape=w.tape∧(w.setCells b o vs).output=w.output∧(w.setCells b o vs).heap.size=w.heap.size
 | [],o,w,ws,h=>⟨ws,h,rfl,fun n=>by rw [if_neg (by simp;omega)],fun _ _=>rfl,rfl,rfl,rfl,rfl⟩
 | v::vs,o,w,ws,h=>by
  have h1:w.setCell ⟨b,o,none⟩ v=setB w b (ws.setIfInBounds o v) T:=setCell_setB h
  have h2:Own (setB w b (ws.setIfInBounds o v) T) b (ws.setIfInBounds o v) T:=setB_same h (by simp)
  obtain ⟨ws',g1,g2,g3,g4,g5,g6,g7,g8⟩:=setCells_at vs (o+1) _ _ h2
  have e:w.setCells b o (v::vs)=(setB w b (ws.setIfInBounds o v) T).setCells b (o+1) vs:=by rw [World.setCells,h1]
  rw [e]
  refine ⟨ws',g1,by rw [g2];simp,fun n=>?_,fun b' hb'=>(g4 b' hb').trans (setB_far hb'),g5.trans rfl,g6.trans rfl,g7.trans rfl,g8.trans (by simp [setB])⟩
  rw [g3 n]
  simp only [Array.size_setIfInBounds,List.length_cons]
  by_cases hn:n=o
  ·subst hn
   rw [if_neg (by omega)]
   by_cases hs:n < ws.size
   ·rw [if_pos ⟨Nat.le_refl _,by omega,hs⟩]
    simp [hs]
   ·rw [if_neg (by omega)]
    simp [hs]
  ·have hne:(ws.setIfInBounds o v)[n]?=ws[n]?:=by rw [Array.getElem?_setIfInBounds_ne (Ne.symm hn)]
   rw [hne]
   by_cases hc:o+1≤n∧n < o+1+vs.length∧n < ws.size
   ·rw [if_pos hc,if_pos ⟨by omega,by omega,hc.2.2⟩]
    have:n - o=(n - (o+1))+1:=by omega
    rw [this,List.getElem?_cons_succ]
   ·rw [if_neg hc,if_neg (by omega)]
theorem arr_post {A:Option Nat} {c cap sz b' c':Nat} {es es':List (List DC)} {ws':Array Value} {T:TypeId} (hi:Inv F [OI.arr A c] [.arr cap sz es] w) (hblk:A=some b'∨b'=w.heap.size)
  (hfar:∀ b,b < w.heap.size→A≠some b→w'.heap[b]?=w.heap[b]?) (h1:w'.os=w.os) (h2:w'.tape=w.tape) (h3:w'.output=w.output) (h4:w.heap.size≤w'.heap.size)
  (hh:Own w' b' ws' T) (hws:ws'.size=c' * sz) (hle:es'.length≤c') (hsz:∀ e∈es',e.length=sz)
  (hr:∀ (i j:Nat) e d v,es'[i]?=some e→e[j]?=some d→ws'[i * sz+j]?=some v→RD F d v):
  Ext 1 F [OI.arr A c] w F [OI.arr (some b') c'] w'∧Inv F [OI.arr (some b') c'] [.arr c' sz es'] w':=by
 have hx:[OI.arr A c][0]?=some (OI.arr A c):=rfl
 have hb:∀ b,(OI.arr (some b') c').blk=some b→(OI.arr A c).blk=some b∨b=w.heap.size:=by
  intro b h
  simp only [OI.blk,Option.some.injEq] at h
  subst h
  rcases hblk with h | h
  ·exact .inl h
  ·exact .inr h
 have hf:∀ b,b < w.heap.size→(OI.arr A c).blk≠some b→w'.heap[b]?=w.heap[b]?:=fun b hb hne=>hfar b hb hne
 exact ⟨Ext.setArr (k:=1) hi hx (by simp) hb hf h1 h2 h3 h4,Inv.setArr hi hx hb hf ⟨rfl,hle,hsz,ws',T,hh,hws,hr⟩⟩
end
theorem args3 {F:Fz} {γ:List OI} {a b c:AV} {vs:Array Value} (hv:argsOK F γ [a,b,c] vs):∃ x y z,vs=#[x,y,z]∧RV F γ a x∧RV F γ b y∧RV F γ c z:=by
 obtain ⟨hz,hv⟩:=hv
 obtain ⟨l⟩:=vs
 match l,hz with
 | [x,y,z],_=>exact ⟨x,y,z,rfl,hv 0 _ _ rfl rfl,hv 1 _ _ rfl rfl,hv 2 _ _ rfl rfl⟩
theorem one_arr {F:Fz} {γ:List OI} {o:AObj} {w:World} (hi:Inv F γ [o] w):∃ x,γ=[x]:=by
 have:=hi.len
 match γ,this with
 | [x],_=>exact ⟨x,rfl⟩
theorem getl_lt {α:Type} {l:List α} {n:Nat} {a:α} (h:l[n]?=some a):n < l.length:=(List.getElem?_eq_some_iff.1 h).1
theorem delA_ac {G:Glob} {n i cap:Nat} {es:List (List DC)} (hin:i < n) (hn:n≤es.length) (h47:n+1≤140737488355328):
  AC Tryz.prog G 82 [.one (.bld 0 n),vi i,vi ((i:Int)+1)] [.arr cap 11 es] fun a o=>a=.one (.bld 0 (n - 1))∧o.map nocap=[.arr 0 11 (es.take i++(es.take n).drop (i+1))]:=by
 intro F γ vs w hi hg hv
 obtain ⟨x,rfl⟩:=one_arr hi
 obtain ⟨s,y,z,rfl,hs,hy,hz⟩:=args3 hv
 have hy:=rv_raw hy;have hz:=rv_raw hz
 subst hy;subst hz
 cases hs with | one _ _ hs=>cases hs with
 | bldN _ _ _=>omega
 | bld _ _ b cap' hgm=>
  simp only [List.getElem?_cons_zero,Option.some.injEq] at hgm
  subst hgm
  obtain ⟨rfl,hec,hes,ws,T,hh,hws,hr⟩:=hi.arr (id:=0) rfl rfl
  obtain ⟨cs,hcs⟩:∃ cs,cs=ws.toList.take (n * 11):=⟨_,rfl⟩
  have hcl:cs.length=n * 11:=by rw [hcs,List.length_take,Array.length_toList,hws];omega
  have hcget:∀ j,j < n * 11→cs[j]?=ws[j]?:=fun j hj=>by rw [hcs,List.getElem?_take,if_pos hj,Array.getElem?_toList]
  have hone:∀ v∈cs,v.oneCell'=true:=by
   intro v hv
   obtain ⟨q,hq⟩:=List.getElem?_of_mem hv
   have hlt:=getl_lt hq
   rw [hcl] at hlt
   rw [hcget q hlt] at hq
   have he:q / 11 < es.length:=by omega
   have hee:=hes _ (List.getElem_mem he)
   have hq2:ws[q / 11 * 11+q % 11]?=some v:=by rw [show q / 11 * 11+q % 11=q by omega];exact hq
   have hrd:=hr (q / 11) (q % 11) _ (es[q / 11][q % 11]'(by rw [hee];omega)) v (List.getElem?_eq_getElem he) (List.getElem?_eq_getElem _) hq2
   have:=hrd.is1
   cases v<;>first | rfl | cases this
  refine (delA_c b n cap' i cs w hin (by omega) h47 hcl (fun j v hj=>?_) (fun j hj=>by obtain ⟨fz,h0,hn0⟩:=hh;have:=hn0 j (by omega);simp only [World.frozen?,h0];simpa using this) hone).mono ?_
  ·have hlt:=getl_lt hj
   rw [hcl] at hlt
   rw [hcget j hlt] at hj
   rw [cell_heap hh];exact hj
  ·rintro e w' ⟨rfl,rfl⟩
   obtain ⟨ws1,a1,a2,a3,a4,a5,a6,a7,a8⟩:=setCells_at (T:=T) (cs.drop ((i+1) * 11)) (i * 11) w.drew ws hh
   obtain ⟨ws2,b1,b2,b3,b4,b5,b6,b7,b8⟩:=setCells_at zA ((i+(n - (i+1))) * 11) _ ws1 a1
   have hlen:(es.take i++(es.take n).drop (i+1)).length=n - 1:=by simp;omega
   obtain ⟨hE,hI⟩:=arr_post (A:=some b) (b':=b) (c':=cap') (es':=es.take i++(es.take n).drop (i+1)) (ws':=ws2) hi (.inl rfl)
    (fun b0 _ hne=>(b4 b0 (fun e=>hne (by rw [e]))).trans (a4 b0 (fun e=>hne (by rw [e])))) (b5.trans a5) (b6.trans a6) (b7.trans a7) (by rw [b8,a8];exact Nat.le_refl _) b1 (by rw [b2,a2,hws]) (by rw [hlen];omega)
    (fun e he=>by
     rcases List.mem_append.1 he with h | h
     ·exact hes e (List.mem_of_mem_take h)
     ·exact hes e (List.mem_of_mem_take (List.mem_of_mem_drop h)))
    (fun p j e d v h1 h2 h3=>by
     have hp:=getl_lt h1
     rw [hlen] at hp
     have hdl:(cs.drop ((i+1) * 11)).length=(n - (i+1)) * 11:=by rw [List.length_drop,hcl,Nat.sub_mul]
     have hje:j < 11:=by
      have hl:=getl_lt h2
      have:e.length=11:=by
       rcases List.mem_append.1 (List.mem_of_getElem? h1) with h | h
       ·exact hes e (List.mem_of_mem_take h)
       ·exact hes e (List.mem_of_mem_take (List.mem_of_mem_drop h))
      omega
     rw [b3,if_neg (by rw [zA_len];omega),a3] at h3
     by_cases hpi:p < i
     ·rw [if_neg (by omega)] at h3
      rw [List.getElem?_append_left (by simp;omega),List.getElem?_take,if_pos hpi] at h1
      exact hr p j e d v h1 h2 h3
     ·rw [if_pos (by rw [hdl,hws];omega),List.getElem?_drop,hcget _ (by omega)] at h3
      rw [List.getElem?_append_right (by simp;omega),List.getElem?_drop,List.getElem?_take] at h1
      split at h1
      ·have e1:i+1+(p - (es.take i).length)=p+1:=by simp;omega
       rw [e1] at h1
       rw [show (i+1) * 11+(p * 11+j - i * 11)=(p+1) * 11+j by omega] at h3
       exact hr (p+1) j e d v h1 h2 h3
      ·cases h1)
   exact ⟨_,_,[.arr cap' 11 (es.take i++(es.take n).drop (i+1))],F,[OI.arr (some b) cap'],rfl,⟨rfl,rfl⟩,Nat.le_refl _,hE,hI,.one _ _ (by
    rw [show i+(n - (i+1))=n - 1 by omega]
    exact .bld 0 (n - 1) b cap' rfl)⟩
end Go.Proofs.YtcplecjhmnblpaaGreatDoor
