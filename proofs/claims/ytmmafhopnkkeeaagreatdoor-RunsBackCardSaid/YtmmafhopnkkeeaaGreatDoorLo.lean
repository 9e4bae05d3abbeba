/- Calls in a region; the forms of code; functions by their bodies. Conditions: none. -/
import Derived.Test.YtmmafhopnkkeeaaGreatDoorLk
import Derived.Lib.ConvBytes
namespace Go.Proofs.YtmmafhopnkkeeaaGreatDoor
section
section
variable {P:Program} {G:Glob} {k:Nat} {Q:AS→Prop} {as as':AS} {o:AOp} {rest ops:List AOp} {F:Fz} {γ:List OI} {w w':World} {hp:List AObj}
theorem append_elem {α:Type} {es news:List α} {n i:Nat} {e:α} (hn:n≤es.length) (h:(es.take n++news)[i]?=some e):(i < n∧es[i]?=some e)∨(n≤i∧news[i - n]?=some e):=by
  by_cases hi:i < n
  · rw [List.getElem?_append_left (by simp;omega),List.getElem?_take,if_pos hi] at h
    exact .inl ⟨hi,h⟩
  · rw [List.getElem?_append_right (by simp;omega)] at h
    have:min n es.length=n:=by omega
    simp only [List.length_take,this] at h
    exact .inr ⟨by omega,h⟩
theorem app_step {t u ty e:TypeId} {du:TypeDesc} {i:TypeInfo} {z:Value} (ht:P.underlying t=some (.slice e)) (hu:P.underlying u=some du) (hdu:du=.slice e∨du=.string) (hin:P.info? e=some i) (hz:i.zero=some z)
    (hzs:z.cells.size=i.size) (hby:0 < i.bytes) {id n cap:Nat} {es news:List (List DC)} {x sv:Value} (hi:Inv F γ hp w) (hb:hpGet hp id=.arr cap i.size es) (hsv:RC F γ (.bld id n) sv) (hn:n≤es.length)
    (hns:∀ e∈news,e.length=i.size) (hub:(n+news.length) * i.bytes≤140737488355328) (nv:List Value) (hnl:nv.length=news.length * i.size)
    (hx:∀ w':World,w'.heap=w.heap→(Builtin.firstCells i.size news.length x).run P w'=.ok nv.toArray w') (hxl:(Builtin.lenOf x).run P w=.ok news.length w)
    (hnr:∀ (i' j:Nat) e d v,news[i']?=some e→e[j]?=some d→nv[i' * i.size+j]?=some v→RD F d v) (hn1:∀ v∈nv,is1 v=true):
    ∃ r w' x' cap',(Builtin.append_ #[t,u] ty #[sv,x]).run P w=.ok r w'∧n+news.length≤cap'∧Ext k F γ w F (γ.set id x') w'∧
      Inv F (γ.set id x') ((hp.map (killO (·==id))).set id (.arr cap' i.size (es.take n++news))) w'∧RC F (γ.set id x') (.bld id (n+news.length)) r:=by
  have hbyte:∀ q,0 < i.bytes→q≤q * i.bytes:=fun q h=>Nat.le_mul_of_pos_right _ h
  have hes':∀ (hes:∀ e∈es,e.length=i.size),∀ e∈es.take n++news,e.length=i.size:=by
    intro hes e he
    rcases List.mem_append.1 he with h | h
    · exact hes e (List.mem_of_mem_take h)
    · exact hns e h
  have hlen':(es.take n++news).length=n+news.length:=by simp;omega
  -- a new block
  have fresh:∀ (xo:OI) (hx0:γ[id]?=some xo) (hnb:∀ b,xo≠.box b) (old:List Value) (c:Nat) (rest:List Value),old.length=n * i.size→n+news.length≤c→rest.length=(c - (n+news.length)) * i.size→
      (∀ (i' j:Nat) e d v,i' < n→es[i']?=some e→e[j]?=some d→old[i' * i.size+j]?=some v→RD F d v)→(∀ e∈es,e.length=i.size)→
      Ext k F γ w F (γ.set id (.arr (some w.heap.size) c)) (pushW w.drew (.cells (old++nv++rest).toArray e))∧
      Inv F (γ.set id (.arr (some w.heap.size) c)) ((hp.map (killO (·==id))).set id (.arr c i.size (es.take n++news))) (pushW w.drew (.cells (old++nv++rest).toArray e))∧
      RC F (γ.set id (.arr (some w.heap.size) c)) (.bld id (n+news.length)) (.slice (some ⟨w.heap.size,0,none⟩) (n+news.length) c):=by
    intro xo hx0 hnb old c rest hol hc hrl hor hes
    have hfar:∀ b,b < w.heap.size→xo.blk≠some b→(pushW w.drew (.cells (old++nv++rest).toArray e)).heap[b]?=w.heap[b]?:=fun b hb' _=>push_old (w:=w.drew) hb'
    have hblk:∀ b,(OI.arr (some w.heap.size) c).blk=some b→xo.blk=some b∨b=w.heap.size:=by intro b hb';simp [OI.blk] at hb';exact .inr hb'.symm
    refine ⟨Ext.setArr hi hx0 hnb hblk hfar rfl rfl rfl (by simp [pushW]),Inv.setArr hi hx0 hblk hfar ?_,.bld _ _ _ c (List.getElem?_set_self (lt_of_get hx0))⟩
    refine ⟨rfl,by rw [hlen'];exact hc,hes' hes,_,e,push_own (w:=w.drew), ?_, ?_⟩
    · simp only [List.size_toArray,List.length_append,hol,hnl,hrl]
      rw [← Nat.add_mul,← Nat.add_mul]
      congr 1
      omega
    · intro i' j e' d v h1 h2 h3
      simp only [List.getElem?_toArray] at h3
      rcases append_elem hn h1 with ⟨a1,a2⟩ | ⟨a1,a2⟩
      · have hj:j < i.size:=by have:=lt_of_get h2;have:=hes _ (List.mem_of_getElem? a2);omega
        have:=mul_lt_cap a1 (Nat.le_refl _) hj
        rw [List.append_assoc,List.getElem?_append_left (by omega)] at h3
        exact hor i' j e' d v a1 a2 h2 h3
      · have hj:j < i.size:=by have:=lt_of_get h2;have:=hns _ (List.mem_of_getElem? a2);omega
        have h5:=mul_lt_cap (lt_of_get a2) (Nat.le_refl _) hj
        have h6:i' * i.size+j=n * i.size+((i' - n) * i.size+j):=by
          rw [← Nat.add_assoc,← Nat.add_mul]
          congr 2
          omega
        rw [h6,List.append_assoc,List.getElem?_append_right (by omega),hol,Nat.add_sub_cancel_left,List.getElem?_append_left (by omega)] at h3
        exact hnr _ j e' d v a2 h2 h3
  cases hsv with
  | bldN _ cap0 hgm=>
    obtain ⟨h1,h2,h3⟩:=hi.arrN hb hgm
    subst h1;subst h2;subst h3
    have hra:=run_app (P:=P) (ty:=ty) (A:=none) (n:=0) (cap:=0) ht hu hdu hin hz hby [] nv rfl hx hxl hub rfl
    by_cases hle:0+news.length≤0
    · have hnn:news=[]:=List.eq_nil_of_length_eq_zero (by omega)
      subst hnn
      refine ⟨_,w,.arr none 0,0,by rw [hra.1 hle];rfl,by simp, ?_, ?_, ?_⟩
      · exact Ext.setArr hi hgm (by simp) (fun b h=>by simp [OI.blk] at h) (fun b _ _=>rfl) rfl rfl rfl (Nat.le_refl _)
      · exact Inv.setArr hi hgm (fun b h=>by simp [OI.blk] at h) (fun b _ _=>rfl) ⟨rfl,rfl,rfl⟩
      · exact .bldN _ 0 (List.getElem?_set_self (lt_of_get hgm))
    · obtain ⟨c,rest,hc,hrl,hrun⟩:=hra.2 hle
      rw [hzs] at hrl
      obtain ⟨hE,hI,hR⟩:=fresh _ hgm (by simp) [] c rest (by simp) hc hrl (fun i' j e d v h=>by omega) (fun e h=>by simp at h)
      exact ⟨_,_,_,c,hrun,hc,hE,hI,hR⟩
  | bld _ _ b cap' hgm=>
    obtain ⟨hcc,hec,hes,vs,T,hh,hvsz,hr⟩:=hi.arr hb hgm
    subst hcc
    have hcap:n * i.size≤vs.size:=by rw [hvsz];exact Nat.mul_le_mul_right _ (by omega)
    have hold:∀ w':World,w'.heap=w.heap→(Builtin.firstCells i.size n (.slice (some ⟨b,0,none⟩) n cap')).run P w'=.ok (vs.toList.take (n * i.size)).toArray w':=by
      intro w' hw
      simp only [Builtin.firstCells]
      have hl:(vs.toList.take (n * i.size)).length=n * i.size:=by simp;omega
      have:=run_loadCells_list (P:=P) w' ⟨b,0,none⟩ (vs.toList.take (n * i.size)) (fun j v hj=>by
        rw [addr_add,Nat.zero_add,cell_heap (hh.of (by rw [hw]))]
        rw [List.getElem?_take] at hj
        split at hj
        · simpa using hj
        · cases hj)
      rwa [hl] at this
    have hra:=run_app (P:=P) (ty:=ty) (A:=some ⟨b,0,none⟩) (n:=n) (cap:=cap') ht hu hdu hin hz hby _ nv (hold w rfl) hx hxl hub (hold w.drew rfl)
    by_cases hle:n+news.length≤cap'
    · have hfit:n * i.size+nv.length≤vs.size:=by
        rw [hnl,hvsz,← Nat.add_mul]
        exact Nat.mul_le_mul_right _ hle
      have hst:=run_storeCells_blk (P:=P) (off:=n * i.size) nv 0 w vs hh hn1 (by omega)
      have hst':(storeCells ((⟨b,0,none⟩:Addr).add (n * i.size)) nv).run P w=.ok () (if nv=[] then w else setB w b (splice vs (n * i.size) nv) T):=by
        rw [addr_add,Nat.zero_add];exact hst
      have hblk:∀ b',(OI.arr (some b) cap').blk=some b'→(OI.arr (some b) cap').blk=some b'∨b'=w.heap.size:=fun _ h=>.inl h
      have hfar:∀ b',b' < w.heap.size→(OI.arr (some b) cap').blk≠some b'→(if nv=[] then w else setB w b (splice vs (n * i.size) nv) T).heap[b']?=w.heap[b']?:=by
        intro b' _ hne
        split
        · rfl
        · exact setB_far (fun e=>hne (by subst e;rfl))
      refine ⟨_,if nv=[] then w else setB w b (splice vs (n * i.size) nv) T,.arr (some b) cap',cap',by rw [hra.1 hle];simp only [hst'];rfl,hle, ?_, ?_,.bld _ _ _ cap' (List.getElem?_set_self (lt_of_get hgm))⟩
      · refine Ext.setArr hi hgm (by simp) hblk hfar ?_ ?_ ?_ ?_<;>split<;>first | rfl | exact Nat.le_refl _ | simp [setB]
      · refine Inv.setArr hi hgm hblk hfar ⟨rfl,by rw [hlen'];exact hle,hes' hes,splice vs (n * i.size) nv,T, ?_,by rw [splice_size,hvsz], ?_⟩
        · split
          · rename_i h0;subst h0;exact hh
          · exact setB_same hh (splice_size _ _ _ _)
        · intro i' j e' d v h1 h2 h3
          rw [splice_get] at h3
          simp only [Nat.add_zero] at h3
          rcases append_elem hn h1 with ⟨a1,a2⟩ | ⟨a1,a2⟩
          · have hj:j < i.size:=by have:=lt_of_get h2;have:=hes _ (List.mem_of_getElem? a2);omega
            have:=mul_lt_cap a1 (Nat.le_refl _) hj
            rw [if_neg (by omega)] at h3
            exact hr i' j e' d v a2 h2 h3
          · have hj:j < i.size:=by have:=lt_of_get h2;have:=hns _ (List.mem_of_getElem? a2);omega
            have h5:=mul_lt_cap (lt_of_get a2) (Nat.le_refl _) hj
            have h6:i' * i.size+j=n * i.size+((i' - n) * i.size+j):=by
              rw [← Nat.add_assoc,← Nat.add_mul]
              congr 2
              omega
            rw [h6,if_pos ⟨by omega,by omega,by omega⟩,Nat.add_sub_cancel_left] at h3
            exact hnr _ j e' d v a2 h2 h3
    · obtain ⟨c,rest,hc,hrl,hrun⟩:=hra.2 hle
      rw [hzs] at hrl
      obtain ⟨hE,hI,hR⟩:=fresh _ hgm (by simp) (vs.toList.take (n * i.size)) c rest (by simp;omega) hc hrl (fun i' j e' d v h1 h2 h3 h4=>by
        rw [List.getElem?_take] at h4
        split at h4
        · exact hr i' j e' d v h2 h3 (by simpa using h4)
        · cases h4) hes
      exact ⟨_,_,_,c,hrun,hc,hE,hI,hR⟩
theorem app_inv {oper:Oper} {size bytes:Nat} {zero:List Value} {s x:AArg} (hc:compileOp P oper=some (.app size bytes zero s x)):
    ∃ t u e i z os ox,oper.op=.call { callee:=.builtin .append,args:=#[os,ox],argTypes:=#[t,u] }∧P.underlying t=some (.slice e)∧P.underlying u=some (.slice e)∧P.info? e=some i∧i.zero=some z∧
      z.cells.size=i.size∧0 < i.bytes∧size=i.size∧bytes=i.bytes∧s=argOf os∧x=argOf ox:=by
  have hk:=kind_of hc rfl
  obtain ⟨c,he⟩:=op_call (.inr (.inr (.inl hk)))
  obtain ⟨dst,op,type,pos,after,guard⟩:=oper
  obtain ⟨callee,args,argTypes⟩:=c
  simp only at he
  subst he
  simp only [kindOp] at hk
  split at hk
  · simp [kindAI] at hk
  · simp [kindAI] at hk
  · simp only [compileOp,compileCall] at hc
    split at hc
    · rename_i t u os ox hts has
      have ha:args=#[os,ox]:=by rw [← Array.toList_inj];exact has
      have ht:argTypes=#[t,u]:=by rw [← Array.toList_inj];exact hts
      subst ha;subst ht
      split at hc
      · rename_i e e' h1 h2
        split at hc
        · rename_i hee
          subst hee
          cases h3:P.info? e with
          | none=>simp [h3] at hc
          | some i=>cases h4:i.zero with
            | none=>simp [h3,h4] at hc
            | some z=>
              simp only [h3,h4,Option.bind_some] at hc
              split at hc
              · rename_i hz
                simp only [Option.some.injEq,AI.app.injEq] at hc
                obtain ⟨rfl,rfl,rfl,rfl,rfl⟩:=hc
                exact ⟨t,u,e,i,z,os,ox,rfl,h1,h2,h3,h4,hz.1,hz.2,rfl,rfl,rfl,rfl⟩
              · cases hc
        · cases hc
      · exfalso
        repeat' (first | (obtain ⟨_,_,hc⟩:=hc) | split at hc | (simp only [Option.bind_eq_some_iff] at hc))
        all_goals first | (cases hc;done) | (injection hc with hc;cases hc;done)
      · cases hc
    · cases hc
  · simp [kindAI] at hk
  · simp [kindAI] at hk
  · simp [kindAI] at hk
theorem WR.app {size bytes id n cap:Nat} {zero:List Value} {s x:AArg} {es news:List (List DC)} (hgd:gOK G as o.guard) (ha:o.ai=.app size bytes zero s x)
    (hs0:evA G as.sl s=.one (.bld id n)) (hb:hpGet as.hp id=.arr cap size es) (hn:n≤es.length) (hsrc:srcV as.hp (evA G as.sl x)=some news) (hns:∀ e∈news,e.length=size)
    (hub:(n+news.length) * bytes≤140737488355328)
    (h:∀ cap',n+news.length≤cap'→WR P G k rest Q ⟨putS (as.sl.map (killV (·==id))) o.dst (.one (.bld id (n+news.length))),(as.hp.map (killO (·==id))).set id (.arr cap' size (es.take n++news))⟩):
    WR P G k (o::rest) Q as:=by
  refine WR.step hgd (fun F γ a w oper hc hd hi hs hg hk=>?_)
  rw [ha] at hc
  obtain ⟨t,u,e,i,z,os,ox,hop,ht,hu,hin,hz,hzs,hby,rfl,rfl,rfl,rfl⟩:=app_inv hc
  have hsv:=rv_arg (G:=G) hs hg os
  rw [hs0] at hsv
  have hsv':=rv_of_one hsv
  obtain ⟨A,c,hxe,nv,hnl,hfc,hnr,hn1⟩:=src_ok hsrc (rv_arg hs hg ox) hi hns
  have hxl:(Builtin.lenOf (a.eval ox)).run P w=.ok news.length w:=by rw [hxe];rfl
  obtain ⟨r,w',x',cap',hrun,hcap,hE,hI,hR⟩:=app_step (k:=k) (ty:=oper.type) ht hu (.inl rfl) hin hz hzs hby hi hb hsv' hn hns hub nv hnl hfc hxl hnr hn1
  obtain ⟨dst,op,type,pos,after,guard⟩:=oper
  simp only at hop
  subst hop
  refine .inl ⟨_,r,w',_,F,_, ?_,.inl rfl,h cap' hcap,hE,hI, ?_,by simpa using hk⟩
  · simp only at hrun
    simp [execOp,resolve,invoke,builtin,hrun]
  · exact (hs.kill (fun _ _ h=>h) (fun i' o h1 h2=>get_set_other h2 h1)).put _ (.one _ _ hR)
theorem Inv.nilp {hp:List AObj} (size:Nat) (hi:Inv F γ hp w):Inv F (γ++[OI.arr none 0]) (hp++[.arr 0 size []]) w∧Ext k F γ w F (γ++[OI.arr none 0]) w:=by
  have hext:∀ (id:Nat) (o:OI),γ[id]?=some o→(γ++[OI.arr none 0])[id]?=some o:=fun _ _ h=>get_append_left h
  have hb:∀ i b,blkAt (γ++[OI.arr none 0]) i=some b→blkAt γ i=some b:=by
    intro i b h
    obtain ⟨y,hy,hyb⟩:=blkAt_some h
    rcases append_one hy with h1 | ⟨_,rfl⟩
    · exact blkAt_of h1 hyb
    · simp [OI.blk] at hyb
  refine ⟨⟨hi.fz,by simp [hi.len],fun i j b h1 h2=>hi.nd i j b (hb i b h1) (hb j b h2),fun i b h=>hi.disj i b (hb i b h), ?_⟩,
    ⟨fun _ _ h=>h,rfl,rfl,rfl,Nat.le_refl _,fun _ _ _=>rfl,fun _ _ h=>.inl h,fun i b h=>.inl ⟨i,hb i b h⟩,fun i _ b h=>hext _ _ h⟩⟩
  intro i o x h1 h2
  rcases append_one h2 with h3 | ⟨h3,rfl⟩
  · have hl:i < hp.length:=by rw [← hi.len];exact lt_of_get h3
    rw [List.getElem?_append_left hl] at h1
    exact (hi.ok i o x h1 h3).ext (fun _ _ h=>h) hext (fun _ _=>rfl)
  · rw [h3,hi.len] at h1
    simp at h1
    subst h1
    exact ⟨rfl,rfl,rfl⟩
theorem WR.appNil {size bytes:Nat} {zero:List Value} {s x:AArg} {news:List (List DC)} (hgd:gOK G as o.guard) (ha:o.ai=.app size bytes zero s x)
    (hs0:evA G as.sl s=rawV (.slice none 0 0)) (hsrc:srcV as.hp (evA G as.sl x)=some news) (hns:∀ e∈news,e.length=size)
    (hub:news.length * bytes≤140737488355328)
    (h:∀ cap',news.length≤cap'→WR P G k rest Q ⟨putS as.sl o.dst (.one (.bld as.hp.length news.length)),as.hp.map (killO (·==as.hp.length))++[.arr cap' size news]⟩):
    WR P G k (o::rest) Q as:=by
  refine WR.step hgd (fun F γ a w oper hc hd hi hs hg hk=>?_)
  rw [ha] at hc
  obtain ⟨t,u,e,i,z,os,ox,hop,ht,hu,hin,hz,hzs,hby,rfl,rfl,rfl,rfl⟩:=app_inv hc
  obtain ⟨hi0,hE0⟩:=Inv.nilp (k:=k) i.size hi
  have hsv:=rv_arg (G:=G) hs hg os
  rw [hs0] at hsv
  have hsv2:a.eval os=.slice none 0 0:=rv_raw hsv
  have hsv':RC F (γ++[OI.arr none 0]) (.bld as.hp.length 0) (a.eval os):=by
    rw [hsv2]
    exact .bldN _ 0 (by rw [← hi.len];simp)
  obtain ⟨A,c,hxe,nv,hnl,hfc,hnr,hn1⟩:=src_ok hsrc (rv_arg hs hg ox) hi hns
  have hxl:(Builtin.lenOf (a.eval ox)).run P w=.ok news.length w:=by rw [hxe];rfl
  have hb:hpGet (as.hp++[AObj.arr 0 i.size []]) as.hp.length=AObj.arr 0 i.size []:=by simp [hpGet]
  obtain ⟨r,w',x',cap',hrun,hcap,hE,hI,hR⟩:=app_step (k:=k) (ty:=oper.type) ht hu (.inl rfl) hin hz hzs hby hi0 hb hsv' (Nat.zero_le _) hns (by simpa using hub) nv hnl hfc hxl hnr hn1
  obtain ⟨dst,op,type,pos,after,guard⟩:=oper
  simp only at hop
  subst hop
  have e1:((as.hp++[AObj.arr 0 i.size []]).map (killO (·==as.hp.length))).set as.hp.length (AObj.arr cap' i.size (([]:List (List DC)).take 0++news))=as.hp.map (killO (·==as.hp.length))++[.arr cap' i.size news]:=by
    simp
  rw [e1] at hI
  simp only [Nat.zero_add] at hR hcap
  refine .inl ⟨_,r,w',_,F,_, ?_,.inl rfl,h cap' hcap,hE0.trans hE,hI, ?_,by simp;omega⟩
  · simp only at hrun
    simp [execOp,resolve,invoke,builtin,hrun]
  · refine (hs.ext (fun _ _ h=>h) (fun id o h1=>?_)).put _ (.one _ _ hR)
    have hlt:=lt_of_get h1
    rw [List.getElem?_set_ne (by rw [← hi.len];omega)]
    exact get_append_left h1
def clrE (es:List (List DC)) (k n:Nat) (z:List DC):List (List DC):=es.take k++List.replicate n z++es.drop (k+n)
theorem clrE_len {es:List (List DC)} {k n:Nat} {z:List DC} (h:k+n≤es.length):(clrE es k n z).length=es.length:=by simp [clrE];omega
theorem clrE_get {es:List (List DC)} {k n:Nat} {z:List DC} (h:k+n≤es.length) (i:Nat):(clrE es k n z)[i]?=if k≤i∧i < k+n then some z else es[i]?:=by
  unfold clrE
  by_cases c1:i < k
  · rw [List.append_assoc,List.getElem?_append_left (by simp;omega),List.getElem?_take,if_pos c1,if_neg (by omega)]
  · by_cases c2:i < k+n
    · rw [List.getElem?_append_left (by simp;omega),List.getElem?_append_right (by simp;omega),List.getElem?_replicate,if_pos (by simp;omega),if_pos (by omega)]
    · rw [List.getElem?_append_right (by simp;omega),if_neg (by omega),List.getElem?_drop]
      congr 1
      simp;omega
theorem clr_inv {oper:Oper} {size:Nat} {zero:List Value} {x:AArg} (hc:compileOp P oper=some (.clr size zero x)):
    ∃ t e i z ox,oper.op=.call ⟨.builtin .clear,#[ox],#[t]⟩∧P.underlying t=some (.slice e)∧P.info? e=some i∧i.zero=some z∧z.cells.size=i.size∧0 < i.size∧z.cells.toList.all is1=true∧size=i.size∧zero=z.cells.toList∧x=argOf ox:=by
  obtain ⟨c,he,hcal⟩:=op_clr (kind_of hc rfl)
  obtain ⟨dst,op,type,pos,after,guard⟩:=oper
  obtain ⟨callee,args,argTypes⟩:=c
  simp only at he hcal
  subst he
  subst hcal
  simp only [compileOp,compileCall] at hc
  split at hc
  · rename_i t ox hts has
    have ha:args=#[ox]:=by rw [← Array.toList_inj];exact has
    have ht:argTypes=#[t]:=by rw [← Array.toList_inj];exact hts
    subst ha;subst ht
    split at hc
    · rename_i e h1
      cases h3:P.info? e with
      | none=>simp [h3] at hc
      | some i=>cases h4:i.zero with
        | none=>simp [h3,h4] at hc
        | some z=>
          simp only [h3,h4,Option.bind_some] at hc
          split at hc
          · rename_i hz
            simp only [Option.some.injEq,AI.clr.injEq] at hc
            obtain ⟨rfl,rfl,rfl⟩:=hc
            exact ⟨t,e,i,z,ox,rfl,h1,h3,h4,hz.1,hz.2.1,hz.2.2,rfl,rfl,rfl⟩
          · cases hc
    · cases hc
  · cases hc
theorem WR.clr {size id k0 n cap:Nat} {zero:List Value} {x:AArg} {es:List (List DC)} (hgd:gOK G as o.guard) (ha:o.ai=.clr size zero x)
    (hx:evA G as.sl x=.one (.bls id k0 n size)∨(k0=0∧evA G as.sl x=.one (.bld id n))) (hb:hpGet as.hp id=.arr cap size es) (hn:0 < n) (hle:k0+n≤es.length)
    (h:WR P G k rest Q ⟨putS as.sl o.dst (.tup []),as.hp.set id (.arr cap size (clrE es k0 n (zero.map DC.raw)))⟩):WR P G k (o::rest) Q as:=by
  refine WR.step hgd (fun F γ a w oper hc hd hi hs hg hk=>?_)
  rw [ha] at hc
  obtain ⟨t,e,i,z,ox,hop,hu,hin,hz,hzs,hsz,hz1,rfl,rfl,rfl⟩:=clr_inv hc
  have hxv:=rv_arg (G:=G) hs hg ox
  have hval:∃ b cap' c,γ[id]?=some (.arr (some b) cap')∧a.eval ox=.slice (some ⟨b,k0 * i.size,none⟩) n c:=by
    rcases hx with hx | ⟨rfl,hx⟩
    · rw [hx] at hxv
      generalize a.eval ox=v at hxv
      cases hxv with | one c _ hcc=>cases hcc with | bls _ _ _ _ b cap' c off hgm ho hcn=>
      have:=ho (by omega)
      subst this
      rcases hgm with hgm | hgm
      · exact ⟨b,cap',c,hgm,rfl⟩
      · exact absurd hgm (hi.noArr hb)
    · rw [hx] at hxv
      generalize a.eval ox=v at hxv
      cases hxv with | one c _ hcc=>cases hcc with
      | bldN _ _ _=>omega
      | bld _ _ b cap' hgm=>exact ⟨b,cap',cap',hgm,by simp⟩
  obtain ⟨b,cap',c,hgm,hval⟩:=hval
  obtain ⟨hcap,hec,hes,ws,T,hh,hws,hwr⟩:=hi.arr hb hgm
  have hzl:z.cells.toList.length=i.size:=by simpa using hzs
  have hze:(Builtin.zeroCells z.cells n).toList.length=n * i.size:=by simp [Builtin.zeroCells,hzs]
  have hzget:∀ q,q < n * i.size→(Builtin.zeroCells z.cells n).toList[q]?=some (z.cells[q % z.cells.size]!):=by
    intro q hq
    simp [Builtin.zeroCells,hzs,hq]
  have hz1':∀ v∈(Builtin.zeroCells z.cells n).toList,is1 v=true:=by
    intro v hv
    obtain ⟨q,hq⟩:=List.getElem?_of_mem hv
    have hlt:=lt_of_get hq
    rw [hze] at hlt
    rw [hzget q hlt] at hq
    injection hq with hq
    subst hq
    have hm:q % z.cells.size < z.cells.size:=Nat.mod_lt _ (by omega)
    rw [getElem!_pos z.cells _ hm]
    exact List.all_eq_true.1 hz1 _ (by simp)
  have hfit:k0 * i.size+(n * i.size)≤ws.size:=by
    rw [hws,← Nat.add_mul];exact Nat.mul_le_mul_right _ (by omega)
  have hst:=run_storeCells_blk (P:=P) (off:=k0 * i.size) (Builtin.zeroCells z.cells n).toList 0 w ws hh hz1' (by rw [hze];omega)
  have hne:(Builtin.zeroCells z.cells n).toList≠[]:=by
    intro e0
    rw [e0] at hze
    have:=Nat.mul_pos hn hsz
    simp at hze
    omega
  rw [if_neg hne] at hst
  obtain ⟨dst,op,type,pos,after,guard⟩:=oper
  simp only at hop
  subst hop
  have hzv:(zeroValue e).run P w=.ok z w:=by simp [zeroValue,typeInfo,hin,hz]
  have hrun:(Builtin.clear_ #[t] type #[a.eval ox]).run P w=.ok (.tuple #[]) (setB w b (splice ws (k0 * i.size) (Builtin.zeroCells z.cells n).toList) T):=by
    obtain ⟨m,rfl⟩:∃ m,n=m+1:=⟨n - 1,by omega⟩
    rw [hval]
    simp [Builtin.clear_,run_underlying hu,hzv,hst]
  refine .inl ⟨.value (.tuple #[]),.tuple #[],setB w b (splice ws (k0 * i.size) (Builtin.zeroCells z.cells n).toList) T,_,F,γ, ?_,.inl rfl,h,Ext.setB hi hgm rfl, ?_,(hs.put _ (.tup [] #[] rfl (fun i t v h=>by simp at h))),hk⟩
  · simp [execOp,resolve,invoke,builtin,hrun]
  · refine hi.setObj hgm rfl ⟨hcap,by rw [clrE_len hle];exact hec,fun q hq=>?_,_,T,setB_same hh (splice_size _ _ _ _),by rw [splice_size,hws],fun i' j e1 d v h1 h2 h3=>?_⟩
    · obtain ⟨i',hi'⟩:=List.getElem?_of_mem hq
      rw [clrE_get hle] at hi'
      split at hi'
      · injection hi' with hi';rw [← hi',List.length_map,hzl]
      · exact hes q (List.mem_of_getElem? hi')
    · rw [clrE_get hle] at h1
      rw [splice_get] at h3
      simp only [Nat.add_zero,hze] at h3
      split at h1
      · rename_i hc'
        injection h1 with h1;subst h1
        have hj:j < i.size:=by have:=lt_of_get h2;simpa [hzs] using this
        have h5:=mul_lt_cap (show i' - k0 < n by omega) (Nat.le_refl _) hj
        have h6:i' * i.size+j=k0 * i.size+((i' - k0) * i.size+j):=by
          rw [← Nat.add_assoc,← Nat.add_mul]
          congr 2
          omega
        rw [h6,if_pos ⟨by omega,by omega,by omega⟩,Nat.add_sub_cancel_left,hzget _ h5] at h3
        injection h3 with h3
        subst h3
        have hm:((i' - k0) * i.size+j) % z.cells.size=j:=by rw [hzs,Nat.mul_comm,Nat.mul_add_mod,Nat.mod_eq_of_lt hj]
        rw [hm,getElem!_pos z.cells j (by omega)]
        rw [List.getElem?_map] at h2
        obtain ⟨u,hu1,rfl⟩:=Option.map_eq_some_iff.1 h2
        have:u=z.cells[j]'(by omega):=by
          have h7:z.cells.toList[j]?=some (z.cells[j]'(by omega)):=by simp [hzs,hj]
          rw [h7] at hu1;injection hu1 with hu1;exact hu1.symm
        subst this
        exact .raw _ (List.all_eq_true.1 hz1 _ (by simp))
      · rename_i hc'
        have hj:j < i.size:=by have:=lt_of_get h2;have:=hes _ (List.mem_of_getElem? h1);omega
        rw [if_neg (by
          rintro ⟨a1,a2,_⟩
          rcases Nat.lt_or_ge i' k0 with c1 | c1
          · have:=mul_lt_cap c1 (Nat.le_refl _) hj;omega
          · have h8:(k0+n) * i.size≤i' * i.size:=Nat.mul_le_mul_right _ (by omega)
            rw [Nat.add_mul] at h8
            omega)] at h3
        exact hwr i' j e1 d v h1 h2 h3
theorem WR.clrB {id k0 n:Nat} {zv:Value} {x:AArg} {cs:List Cel} (hgd:gOK G as o.guard) (ha:o.ai=.clr 1 [zv] x)
    (hx:evA G as.sl x=.one (.bls id k0 n 1)∨(k0=0∧evA G as.sl x=.one (.bld id n))) (hb:hpGet as.hp id=.box cs) (hn:0 < n) (hle:k0+n≤cs.length)
    (h:WR P G k rest Q ⟨putS as.sl o.dst (.tup []),as.hp.set id (.box (putAt cs k0 (List.replicate n (rawC zv))))⟩):WR P G k (o::rest) Q as:=by
  refine WR.step hgd (fun F γ a w oper hc hd hi hs hg hk=>?_)
  rw [ha] at hc
  obtain ⟨t,e,i,z,ox,hop,hu,hin,hz,hzs,hsz,hz1,h1s,hzl,rfl⟩:=clr_inv hc
  have hxv:=rv_arg (G:=G) hs hg ox
  have hval:∃ b c,γ[id]?=some (.box b)∧a.eval ox=.slice (some ⟨b,k0,none⟩) n c:=by
    rcases hx with hx | ⟨rfl,hx⟩
    · rw [hx] at hxv
      generalize a.eval ox=v at hxv
      cases hxv with | one c _ hcc=>cases hcc with | bls _ _ _ _ b cap' c off hgm ho hcn=>
      have:=ho (by omega)
      rw [Nat.mul_one] at this
      subst this
      rcases hgm with hgm | hgm
      · exact absurd hgm (hi.noBox hb)
      · exact ⟨b,c,hgm,rfl⟩
    · rw [hx] at hxv
      generalize a.eval ox=v at hxv
      cases hxv with | one c _ hcc=>cases hcc with
      | bldN _ _ _=>omega
      | bld _ _ b cap' hgm=>exact absurd hgm (hi.noBox hb)
  obtain ⟨b,c,hgm,hval⟩:=hval
  obtain ⟨ws,T,hh,hws,hwr⟩:=hi.box hb hgm
  have hzc:z.cells=#[zv]:=by rw [← Array.toList_inj];exact hzl.symm
  have hi1:is1 zv=true:=List.all_eq_true.1 hz1 zv (by rw [hzc];simp)
  have hzr:(Builtin.zeroCells z.cells n).toList=List.replicate n zv:=by
    apply List.ext_getElem?
    intro q
    by_cases hq:q < n
    · simp [Builtin.zeroCells,hzc,hq,List.getElem?_replicate,Nat.mod_one]
    · simp [Builtin.zeroCells,hzc,hq,List.getElem?_replicate]
  have hall:∀ v∈List.replicate n zv,is1 v=true:=fun v hv=>by rw [List.eq_of_mem_replicate hv];exact hi1
  have hst:=run_storeCells_blk (P:=P) (off:=k0) (List.replicate n zv) 0 w ws hh hall (by rw [List.length_replicate];omega)
  have hne:List.replicate n zv≠[]:=by
    intro e0
    have:=congrArg List.length e0
    simp at this
    omega
  rw [if_neg hne] at hst
  obtain ⟨dst,op,type,pos,after,guard⟩:=oper
  simp only at hop
  subst hop
  have hzv:(zeroValue e).run P w=.ok z w:=by simp [zeroValue,typeInfo,hin,hz]
  have hrun:(Builtin.clear_ #[t] type #[a.eval ox]).run P w=.ok (.tuple #[]) (setB w b (splice ws k0 (List.replicate n zv)) T):=by
    obtain ⟨m,rfl⟩:∃ m,n=m+1:=⟨n - 1,by omega⟩
    rw [hval]
    rw [← hzr] at hst ⊢
    simp [Builtin.clear_,run_underlying hu,hzv,hst]
  refine .inl ⟨.value (.tuple #[]),.tuple #[],setB w b (splice ws k0 (List.replicate n zv)) T,_,F,γ, ?_,.inl rfl,h,Ext.setB hi hgm rfl, ?_,(hs.put _ (.tup [] #[] rfl (fun i t v h=>by simp at h))),hk⟩
  · simp [execOp,resolve,invoke,builtin,hrun]
  · refine hi.setObj hgm rfl ?_
    have hrc:RCs F γ (List.replicate n (rawC zv)) (List.replicate n zv).toArray:=by
      refine ⟨by simp,fun q c v h1 h2=>?_⟩
      simp only [List.getElem?_toArray,List.getElem?_replicate] at h1 h2
      split at h1
      · injection h1 with h1
        rw [if_pos (by assumption)] at h2
        injection h2 with h2
        subst h1;subst h2
        exact .dc _ _ (.raw _ hi1)
      · cases h1
    have:=splice_putW (off:=k0) hws hwr hrc (by simpa using hle)
    exact ⟨_,T,setB_same hh (splice_size _ _ _ _),this.1,this.2⟩
theorem clrE_zero {es:List (List DC)} {k:Nat} {z:List DC}:clrE es k 0 z=es:=by simp [clrE]
theorem set_same {hp:List AObj} {id:Nat} {ob:AObj} (hb:hpGet hp id=ob) (hne:ob≠.dead):hp.set id ob=hp:=by
  unfold hpGet at hb
  cases h:hp[id]? with
  | none=>rw [List.getD_eq_getElem?_getD,h] at hb;exact absurd hb.symm hne
  | some o=>
    rw [List.getD_eq_getElem?_getD,h] at hb
    simp only [Option.getD_some] at hb
    subst hb
    obtain ⟨hl,hh⟩:=List.getElem?_eq_some_iff.1 h
    rw [← hh];exact List.set_getElem_self hl
theorem WR.clr0 {size id k0:Nat} {zero:List Value} {x:AArg} (hgd:gOK G as o.guard) (ha:o.ai=.clr size zero x)
    (hx:evA G as.sl x=.one (.bls id k0 0 size)∨evA G as.sl x=.one (.bld id 0))
    (h:WR P G k rest Q ⟨putS as.sl o.dst (.tup []),as.hp⟩):WR P G k (o::rest) Q as:=by
  refine WR.step hgd (fun F γ a w oper hc hd hi hs hg hk=>?_)
  rw [ha] at hc
  obtain ⟨t,e,i,z,ox,hop,hu,hin,hz,hzs,hsz,hz1,rfl,rfl,rfl⟩:=clr_inv hc
  have hxv:=rv_arg (G:=G) hs hg ox
  have hval:∃ p c,a.eval ox=.slice p 0 c:=by
    rcases hx with hx | hx
    · rw [hx] at hxv
      generalize a.eval ox=v at hxv
      cases hxv with | one c _ hcc=>cases hcc with | bls=>exact ⟨_,_,rfl⟩
    · rw [hx] at hxv
      generalize a.eval ox=v at hxv
      cases hxv with | one c _ hcc=>cases hcc<;>exact ⟨_,_,rfl⟩
  obtain ⟨p,c,hval⟩:=hval
  obtain ⟨dst,op,type,pos,after,guard⟩:=oper
  simp only at hop
  subst hop
  have hrun:(Builtin.clear_ #[t] type #[a.eval ox]).run P w=.ok (.tuple #[]) w:=by
    rw [hval]
    cases p<;>simp [Builtin.clear_,run_underlying hu]
  refine .inl ⟨.value (.tuple #[]),.tuple #[],w,_,F,γ, ?_,.inl rfl,h,Ext.refl _ _ _ _,hi,(hs.put _ (.tup [] #[] rfl (fun i t v h=>by simp at h))),hk⟩
  simp [execOp,resolve,invoke,builtin,hrun]
def bytesCel (l:List UInt8):List Cel:=l.map fun b=>rawC (.int .u8 b.toNat)
def bytesD (s:ByteArray):List (List DC):=s.data.toList.map fun b=>[DC.raw (.int .u8 b.toNat)]
theorem cpys_inv {oper:Oper} {d x:AArg} (hc:compileOp P oper=some (.cpys d x)):
    ∃ t u e od ox,oper.op=.call ⟨.builtin .copy,#[od,ox],#[t,u]⟩∧P.underlying t=some (.slice e)∧(P.info? e).map (·.size)=some 1∧d=argOf od∧x=argOf ox:=by
  obtain ⟨c,he,hcal⟩:=op_cpys (kind_of hc rfl)
  obtain ⟨dst,op,type,pos,after,guard⟩:=oper
  obtain ⟨callee,args,argTypes⟩:=c
  simp only at he hcal
  subst he
  subst hcal
  simp only [compileOp,compileCall] at hc
  split at hc
  · rename_i t u od ox hts has
    have ha:args=#[od,ox]:=by rw [← Array.toList_inj];exact has
    have ht:argTypes=#[t,u]:=by rw [← Array.toList_inj];exact hts
    subst ha;subst ht
    split at hc
    · rename_i e h1 h2
      split at hc
      · rename_i h3
        simp only [Option.some.injEq,AI.cpys.injEq] at hc
        obtain ⟨rfl,rfl⟩:=hc
        exact ⟨t,u,e,od,ox,rfl,h1,h3,rfl,rfl⟩
      · cases hc
    · cases hc
  · cases hc
theorem WR.cpys {id lo n:Nat} {d x:AArg} {cs:List Cel} {s:ByteArray} (hgd:gOK G as o.guard) (ha:o.ai=.cpys d x) (hd0:evA G as.sl d=.one (.bls id lo n 1)) (hx:asStr? (evA G as.sl x)=some s)
    (hb:hpGet as.hp id=.box cs) (hle:lo+n≤cs.length)
    (h:WR P G k rest Q ⟨putS as.sl o.dst (rawV (.int .i64 (min s.size n:Nat))),as.hp.set id (.box (putAt cs lo (bytesCel (s.data.toList.take n))))⟩):WR P G k (o::rest) Q as:=by
  refine WR.step hgd (fun F γ a w oper hc hd hi hs hg hk=>?_)
  rw [ha] at hc
  obtain ⟨t,u,e,od,ox,hop,hu,hin,rfl,rfl⟩:=cpys_inv hc
  have hdv:=rv_arg (G:=G) hs hg od
  rw [hd0] at hdv
  have hxv:=rv_str (rv_arg (G:=G) hs hg ox) hx
  obtain ⟨b,c,off,hgm,hdval,hoff⟩:∃ b c off,γ[id]?=some (.box b)∧a.eval od=.slice (some ⟨b,off,none⟩) n c∧(n≠0→off=lo):=by
    generalize a.eval od=v at hdv
    cases hdv with | one c _ hcc=>cases hcc with | bls _ _ _ _ b cap' c off hgm ho hcn=>
    rcases hgm with hgm | hgm
    · exact absurd hgm (hi.noBox hb)
    · exact ⟨b,c,off,hgm,rfl,fun h=>by rw [ho h,Nat.mul_one]⟩
  obtain ⟨ws,T,hh,hws,hwr⟩:=hi.box hb hgm
  obtain ⟨dst,op,type,pos,after,guard⟩:=oper
  simp only at hop
  subst hop
  -- the bytes that are written
  have hbl:((s.extract 0 (min s.size n)).data.map fun b=>Value.int .u8 b.toNat)=((s.data.toList.take n).map fun b=>Value.int .u8 b.toNat).toArray:=by
    apply Array.ext'
    simp only [Array.toList_map,ByteArray.data_extract,Array.toList_extract,List.extract_eq_take_drop,Nat.sub_zero,List.drop_zero]
    congr 1
    rw [List.take_eq_take_iff]
    simp
    omega
  have hsz:((s.data.toList.take n).map fun b=>Value.int .u8 b.toNat).length=min s.size n:=by simp [Nat.min_comm]
  have hinf:∃ inf,P.info? e=some inf∧inf.size=1:=by
    cases hi1:P.info? e with
    | none=>rw [hi1] at hin;cases hin
    | some inf=>rw [hi1] at hin;injection hin with hin;exact ⟨inf,rfl,hin⟩
  obtain ⟨inf,hin,hin1⟩:=hinf
  have hrc:RCs F γ (bytesCel (s.data.toList.take n)) ((s.data.toList.take n).map fun b=>Value.int .u8 b.toNat).toArray:=by
    refine ⟨by simp [bytesCel],fun q c v h1 h2=>?_⟩
    simp only [bytesCel,List.getElem?_map,List.getElem?_toArray] at h1 h2
    cases hq:(s.data.toList.take n)[q]? with
    | none=>rw [hq] at h1;cases h1
    | some bb=>
      rw [hq] at h1 h2
      injection h1 with h1;injection h2 with h2
      subst h1;subst h2
      exact .dc _ _ (.raw _ rfl)
  have hall:∀ v∈((s.data.toList.take n).map fun b=>Value.int .u8 b.toNat),is1 v=true:=fun v hv=>by
    obtain ⟨q,_,rfl⟩:=List.mem_map.1 hv;rfl
  have hemp:((s.data.toList.take n).map fun b=>Value.int .u8 b.toNat)=[]→s.data.toList.take n=[]:=fun h0=>by simpa using h0
  have hn0:n=0→((s.data.toList.take n).map fun b=>Value.int .u8 b.toNat)=[]:=fun h0=>by subst h0;rfl
  have hbl2:List.take (min s.size n) (List.map (fun b=>Value.int .u8 b.toNat) s.data.toList)=((s.data.toList.take n).map fun b=>Value.int .u8 b.toNat):=by
    rw [List.map_take,List.take_eq_take_iff]
    simp
    omega
  generalize ((s.data.toList.take n).map fun b=>Value.int .u8 b.toNat)=L at hbl hbl2 hsz hrc hall hemp hn0
  have hst:(storeCells ⟨b,off,none⟩ L).run P w=.ok () (if L=[] then w else setB w b (splice ws off L) T):=by
    by_cases h0:n=0
    · rw [hn0 h0];rfl
    · exact run_storeCells_blk _ 0 w ws hh hall (by rw [hsz,hoff h0];omega)
  have hrun:(Builtin.copy_ #[t,u] type #[a.eval od,a.eval ox]).run P w=.ok (.int .i64 (min s.size n:Nat)) (if L=[] then w else setB w b (splice ws off L) T):=by
    have e1:Nat.min s.size n=min s.size n:=rfl
    simp [Builtin.copy_,hdval,hxv,run_underlying hu,Builtin.lenOf,Builtin.firstCells,sizeOf,typeInfo,hin,hin1,hbl2,e1,hst,goInt]
  refine .inl ⟨.value (.int .i64 (min s.size n:Nat)),.int .i64 (min s.size n:Nat),(if L=[] then w else setB w b (splice ws off L) T),_,F,γ, ?_,.inl rfl,h, ?_, ?_,(hs.put _ (rv_rawV rfl)),hk⟩
  · simp [execOp,resolve,invoke,builtin,hrun]
  · split
    · exact Ext.refl _ _ _ _
    · exact Ext.setB hi hgm rfl
  · split
    · rename_i h0
      rw [hemp h0]
      have h2:putAt cs lo (bytesCel [])=cs:=by simp [bytesCel,putAt]
      rw [h2,set_same hb (by simp)]
      exact hi
    · rename_i h0
      rw [hoff (fun e=>h0 (hn0 e))]
      refine hi.setObj hgm rfl ?_
      have:=splice_putW (off:=lo) hws hwr hrc (by
        have:(bytesCel (s.data.toList.take n)).length≤n:=by simp [bytesCel];omega
        omega)
      exact ⟨_,T,setB_same hh (splice_size _ _ _ _),this.1,this.2⟩
theorem cvsb_inv {oper:Oper} {x:AArg} (hc:compileOp P oper=some (.cvsb x)):
    ∃ s d e ox,oper.op=.convert s d ox∧P.underlying s=some .string∧P.underlying d=some (.slice e)∧P.underlying e=some (.int .u8)∧x=argOf ox:=by
  obtain ⟨s,d,ox,he⟩:=op_cvsb (kind_of hc rfl)
  simp only [compileOp,he,compileConv] at hc
  split at hc
  · cases hc
  · cases hc
  · split at hc<;>cases hc
  · rename_i e h1 h2
    split at hc
    · rename_i h3
      injection hc with hc
      injection hc with hc
      exact ⟨s,d,e,ox,he,h1,h2,h3,hc.symm⟩
    · cases hc
  · cases hc
theorem WR.cvsb {x:AArg} {s:ByteArray} (hgd:gOK G as o.guard) (ha:o.ai=.cvsb x) (hx:asStr? (evA G as.sl x)=some s)
    (h:WR P G k rest Q ⟨putS as.sl o.dst (.one (.dc (.slc (bytesD s)))),as.hp⟩):WR P G k (o::rest) Q as:=by
  refine WR.step hgd (fun F γ a w oper hc hd hi hs hg hk=>?_)
  rw [ha] at hc
  obtain ⟨src,dstT,e,ox,hop,hu1,hu2,hu3,rfl⟩:=cvsb_inv hc
  have hxv:=rv_str (rv_arg (G:=G) hs hg ox) hx
  obtain ⟨dst,op,type,pos,after,guard⟩:=oper
  simp only at hop
  subst hop
  have hrun:=Lib.run_convert_string_bytes (P:=P) w src dstT e s hu1 hu2 hu3
  have hold:=Lib.bytesWorld_at_old w e s
  have hnew:=Lib.bytesWorld_at_new w e s
  have hlenD:(bytesD s).length=s.size:=by simp [bytesD]
  let F':Fz:=fun b=>if b=w.heap.size then some (.cells (Lib.bytesCells w e s) e ((Lib.bytesCells w e s).size,(Lib.bytesCells w e s).size+1)) else F b
  have hFold:∀ b o,F b=some o→F' b=some o:=fun b o hb=>by
    have:=hi.fzlt hb
    show (if b=w.heap.size then _ else F b)=some o
    rw [if_neg (by omega)];exact hb
  have hsub:F.sub F':=hFold
  have hFnew:F' w.heap.size=some (.cells (Lib.bytesCells w e s) e ((Lib.bytesCells w e s).size,(Lib.bytesCells w e s).size+1)):=if_pos rfl
  have hExt:Ext k F γ w F' γ (Lib.bytesWorld w e s):=by
    refine ⟨hsub,rfl,rfl,rfl,by rw [Lib.bytesWorld_size];omega,fun b hb _=>hold b hb,fun b o hb=>?_,fun i b hb=>.inl ⟨i,hb⟩,fun _ _ _ h=>h⟩
    by_cases hbe:b=w.heap.size
    · exact .inr (.inl (by omega))
    · have:F' b=F b:=if_neg hbe
      rw [this] at hb;exact .inl hb
  have hInv:Inv F' γ as.hp (Lib.bytesWorld w e s):=by
    refine ⟨fun b o hb=>?_,hi.len,hi.nd,fun i b hb=>?_,fun i ob x0 h1 h2=>?_⟩
    · by_cases hbe:b=w.heap.size
      · subst hbe;rw [hFnew] at hb;rw [hnew];exact hb
      · have:F' b=F b:=if_neg hbe
        rw [this] at hb
        rw [hold b (hi.fzlt hb)];exact hi.fz b o hb
    · have:=hi.lt hb
      have e1:F' b=F b:=if_neg (by omega)
      rw [e1];exact hi.disj i b hb
    · have hok:=hi.ok i ob x0 h1 h2
      exact hok.ext hsub (fun _ _ h=>h) (fun b hb2=>hold b (hok.lt hb2))
  have hcapge:s.size≤grownCap w s.size 0 e:=by
    show s.size≤s.size+_
    exact Nat.le_add_right _ _
  have hrd:RD F' (.slc (bytesD s)) (.slice (some ⟨w.heap.size,0,none⟩) s.size (grownCap w s.size 0 e)):=by
    rw [← hlenD]
    refine .slc w.heap.size 0 _ 1 (bytesD s) (fun i _=>.int .u8 (s.data.toList.getD i 0).toNat) (fun q hq=>?_) (fun i j q d h1 h2=>?_) (fun i j q d h1 h2=>?_) (by rw [hlenD];exact hcapge)
    · simp only [bytesD,List.mem_map] at hq
      obtain ⟨bb,_,rfl⟩:=hq;rfl
    · simp only [bytesD,List.getElem?_map] at h1
      cases hq:s.data.toList[i]? with
      | none=>rw [hq] at h1;cases h1
      | some bb=>
        rw [hq] at h1;injection h1 with h1;subst h1
        cases j with
        | zero=>
          injection h2 with h2;subst h2
          rw [List.getD_eq_getElem?_getD,hq]
          exact .raw _ rfl
        | succ j=>simp at h2
    · have hj:j=0:=by
        simp only [bytesD,List.getElem?_map] at h1
        cases hq:s.data.toList[i]? with
        | none=>rw [hq] at h1;cases h1
        | some bb=>
          rw [hq] at h1;injection h1 with h1;subst h1
          cases j with
          | zero=>rfl
          | succ j=>simp at h2
      subst hj
      have hilt:i < s.size:=by have:=lt_of_get h1;omega
      have hcell:=Lib.bytesWorld_cell w e s i hilt
      simp only [Fz.cell?,hFnew,Option.isSome_none,Bool.false_eq_true,if_false,Nat.mul_one,Nat.add_zero,Nat.zero_add]
      simpa [World.cell?,hnew] using hcell
  refine .inl ⟨.value (.slice (some ⟨w.heap.size,0,none⟩) s.size (grownCap w s.size 0 e)),_,_,_,F',γ, ?_,.inl rfl,h,hExt,hInv,((hs.ext hsub (fun _ _ h=>h)).put _ (.one _ _ (.dc _ _ hrd))),hk⟩
  simp [execOp,hxv,hrun]
theorem WR.cvsA {x:AArg} {s:ByteArray} (hgd:gOK G as o.guard) (ha:o.ai=.cvsb x) (hx:asStr? (evA G as.sl x)=some s)
    (h:∀ cap,WR P G k rest Q ⟨putS as.sl o.dst (.one (.bld as.hp.length s.size)),as.hp++[.arr cap 1 (bytesD s)]⟩):WR P G k (o::rest) Q as:=by
  refine WR.step hgd (fun F γ a w oper hc hd hi hs hg hk=>?_)
  rw [ha] at hc
  obtain ⟨src,dstT,e,ox,hop,hu1,hu2,hu3,rfl⟩:=cvsb_inv hc
  have hxv:=rv_str (rv_arg (G:=G) hs hg ox) hx
  obtain ⟨dst,op,type,pos,after,guard⟩:=oper
  simp only at hop
  subst hop
  have hrun:=Lib.run_convert_string_bytes (P:=P) w src dstT e s hu1 hu2 hu3
  have hold:=Lib.bytesWorld_at_old w e s
  have hnew:=Lib.bytesWorld_at_new w e s
  have hlenD:(bytesD s).length=s.size:=by simp [bytesD]
  have hcap:s.size≤grownCap w s.size 0 e:=by
    show s.size≤s.size+_
    exact Nat.le_add_right _ _
  have hbc:(Lib.bytesCells w e s).size=grownCap w s.size 0 e:=by
    simp [Lib.bytesCells]
    omega
  have hx':∀ b,(OI.arr (some w.heap.size) (grownCap w s.size 0 e)).blk=some b→b=w.heap.size:=fun b hb=>by simp [OI.blk] at hb;exact hb.symm
  have hE:Ext k F γ w F (γ++[.arr (some w.heap.size) (grownCap w s.size 0 e)]) (Lib.bytesWorld w e s):=by
    refine ⟨fun _ _ h=>h,rfl,rfl,rfl,by rw [Lib.bytesWorld_size];omega,fun b hb _=>hold b hb,fun _ _ h=>.inl h,fun i b h=>?_,fun i _ b h=>get_append_left h⟩
    obtain ⟨y,hy,hyb⟩:=blkAt_some h
    rcases append_one hy with h1 | ⟨h1,rfl⟩
    · exact .inl ⟨i,blkAt_of h1 hyb⟩
    · exact .inr (by rw [hx' b hyb];exact Nat.le_refl _)
  have hI:Inv F (γ++[.arr (some w.heap.size) (grownCap w s.size 0 e)]) (as.hp++[.arr (grownCap w s.size 0 e) 1 (bytesD s)]) (Lib.bytesWorld w e s):=by
    refine hi.pushG (fun b hb=>hold b hb) _ _ hx' ⟨rfl,by rw [hlenD];exact hcap,fun q hq=>?_,Lib.bytesCells w e s,e,⟨_,hnew,fun o ho=>by simp only;omega⟩,by rw [hbc,Nat.mul_one],fun i j q d v h1 h2 h3=>?_⟩
    · simp only [bytesD,List.mem_map] at hq
      obtain ⟨bb,_,rfl⟩:=hq;rfl
    · have hj:j=0:=by
        simp only [bytesD,List.getElem?_map] at h1
        cases hq:s.data.toList[i]? with
        | none=>rw [hq] at h1;cases h1
        | some bb=>
          rw [hq] at h1;injection h1 with h1;subst h1
          cases j with
          | zero=>rfl
          | succ j=>simp at h2
      subst hj
      have hilt:i < s.size:=by have:=lt_of_get h1;omega
      have hcell:=Lib.bytesWorld_cell w e s i hilt
      have h4:(Lib.bytesCells w e s)[i]?=some (.int .u8 (s.data.toList.getD i 0).toNat):=by
        simpa [World.cell?,hnew] using hcell
      rw [Nat.mul_one,Nat.add_zero,h4] at h3
      injection h3 with h3
      subst h3
      simp only [bytesD,List.getElem?_map] at h1
      cases hq:s.data.toList[i]? with
      | none=>rw [hq] at h1;cases h1
      | some bb=>
        rw [hq] at h1;injection h1 with h1;subst h1
        injection h2 with h2;subst h2
        rw [List.getD_eq_getElem?_getD,hq]
        exact .raw _ rfl
  have hS:Slots F (γ++[.arr (some w.heap.size) (grownCap w s.size 0 e)]) (putS as.sl o.dst (.one (.bld as.hp.length s.size))) (a.put o.dst (.slice (some ⟨w.heap.size,0,none⟩) s.size (grownCap w s.size 0 e))):=by
    refine (hs.ext (fun _ _ h=>h) (fun _ _ h=>get_append_left h)).put o.dst (.one _ _ (.bld _ _ _ _ ?_))
    rw [← hi.len];simp
  refine .inl ⟨.value (.slice (some ⟨w.heap.size,0,none⟩) s.size (grownCap w s.size 0 e)),_,_,_,F,_, ?_,.inl rfl,h _,hE,hI,hS,by simp;omega⟩
  simp [execOp,hxv,hrun]
def cpyE (es:List (List DC)) (k:Nat) (l:List UInt8):List (List DC):=es.take k++(l.map fun b=>[DC.raw (.int .u8 b.toNat)])++es.drop (k+l.length)
theorem cpyE_len {es:List (List DC)} {k:Nat} {l:List UInt8} (h:k+l.length≤es.length):(cpyE es k l).length=es.length:=by simp [cpyE];omega
theorem cpyE_get {es:List (List DC)} {k:Nat} {l:List UInt8} (h:k+l.length≤es.length) (i:Nat):(cpyE es k l)[i]?=if k≤i∧i < k+l.length then (l[i - k]?).map (fun b=>[DC.raw (.int .u8 b.toNat)]) else es[i]?:=by
  unfold cpyE
  split
  · rename_i hc
    rw [List.append_assoc,List.getElem?_append_right (by simp;omega),List.getElem?_append_left (by simp;omega),List.getElem?_map]
    simp only [List.length_take,Nat.min_eq_left (show k≤es.length by omega)]
  · rename_i hc
    by_cases h1:i < k
    · rw [List.append_assoc,List.getElem?_append_left (by simp;omega),List.getElem?_take_of_lt h1]
    · rw [List.getElem?_append_right (by simp;omega),List.getElem?_drop]
      congr 1
      simp;omega
theorem cpyE_nil {es:List (List DC)} {k:Nat}:cpyE es k []=es:=by simp [cpyE]
theorem WR.cpyA {id lo n cap:Nat} {d x:AArg} {es:List (List DC)} {s:ByteArray} (hgd:gOK G as o.guard) (ha:o.ai=.cpys d x) (hd0:evA G as.sl d=.one (.bls id lo n 1)) (hx:asStr? (evA G as.sl x)=some s)
    (hb:hpGet as.hp id=.arr cap 1 es) (hle:lo+n≤es.length)
    (h:WR P G k rest Q ⟨putS as.sl o.dst (rawV (.int .i64 (min s.size n:Nat))),as.hp.set id (.arr cap 1 (cpyE es lo (s.data.toList.take n)))⟩):WR P G k (o::rest) Q as:=by
  refine WR.step hgd (fun F γ a w oper hc hd hi hs hg hk=>?_)
  rw [ha] at hc
  obtain ⟨t,u,e,od,ox,hop,hu,hin,rfl,rfl⟩:=cpys_inv hc
  have hdv:=rv_arg (G:=G) hs hg od
  rw [hd0] at hdv
  have hxv:=rv_str (rv_arg (G:=G) hs hg ox) hx
  by_cases hn0:n=0
  · subst hn0
    obtain ⟨p,c,hdval⟩:∃ p c,a.eval od=.slice p 0 c:=by
      generalize a.eval od=v at hdv
      cases hdv with | one c _ hcc=>cases hcc with | bls=>exact ⟨_,_,rfl⟩
    obtain ⟨dst,op,type,pos,after,guard⟩:=oper
    simp only at hop
    subst hop
    have hinf:∃ inf,P.info? e=some inf∧inf.size=1:=by
      cases hi1:P.info? e with
      | none=>rw [hi1] at hin;cases hin
      | some inf=>rw [hi1] at hin;injection hin with hin;exact ⟨inf,rfl,hin⟩
    obtain ⟨inf,hin,hin1⟩:=hinf
    have hrun:(Builtin.copy_ #[t,u] type #[a.eval od,a.eval ox]).run P w=.ok (.int .i64 (min s.size 0:Nat)) w:=by
      cases p<;>simp [Builtin.copy_,hdval,hxv,run_underlying hu,Builtin.lenOf,Builtin.firstCells,sizeOf,typeInfo,hin,hin1,goInt,storeCells]
    rw [List.take_zero,cpyE_nil,set_same hb (by simp)] at h
    refine .inl ⟨.value (.int .i64 (min s.size 0:Nat)),.int .i64 (min s.size 0:Nat),w,_,F,γ, ?_,.inl rfl,h,Ext.refl _ _ _ _,hi,(hs.put _ (rv_rawV rfl)),hk⟩
    simp [execOp,resolve,invoke,builtin,hrun]
  obtain ⟨b,cap',c,hgm,hdval⟩:∃ b cap' c,γ[id]?=some (.arr (some b) cap')∧a.eval od=.slice (some ⟨b,lo,none⟩) n c:=by
    generalize a.eval od=v at hdv
    cases hdv with | one c _ hcc=>cases hcc with | bls _ _ _ _ b cap' c off hgm ho hcn=>
    have:=ho (by omega)
    rw [Nat.mul_one] at this
    subst this
    rcases hgm with hgm | hgm
    · exact ⟨b,cap',c,hgm,rfl⟩
    · exact absurd hgm (hi.noArr hb)
  obtain ⟨hcap,hec,hes,ws,T,hh,hws,hwr⟩:=hi.arr hb hgm
  rw [Nat.mul_one] at hws
  obtain ⟨dst,op,type,pos,after,guard⟩:=oper
  simp only at hop
  subst hop
  have hsz:((s.data.toList.take n).map fun b=>Value.int .u8 b.toNat).length=min s.size n:=by simp [Nat.min_comm]
  have hinf:∃ inf,P.info? e=some inf∧inf.size=1:=by
    cases hi1:P.info? e with
    | none=>rw [hi1] at hin;cases hin
    | some inf=>rw [hi1] at hin;injection hin with hin;exact ⟨inf,rfl,hin⟩
  obtain ⟨inf,hin,hin1⟩:=hinf
  have hall:∀ v∈((s.data.toList.take n).map fun b=>Value.int .u8 b.toNat),is1 v=true:=fun v hv=>by
    obtain ⟨q,_,rfl⟩:=List.mem_map.1 hv;rfl
  have hLg:∀ q,((s.data.toList.take n).map fun b=>Value.int .u8 b.toNat)[q]?=((s.data.toList.take n)[q]?).map fun (b:UInt8)=>Value.int .u8 b.toNat:=fun q=>List.getElem?_map
  have hemp:((s.data.toList.take n).map fun b=>Value.int .u8 b.toNat)=[]→s.data.toList.take n=[]:=fun h0=>by simpa using h0
  have hbl2:List.take (min s.size n) (List.map (fun b=>Value.int .u8 b.toNat) s.data.toList)=((s.data.toList.take n).map fun b=>Value.int .u8 b.toNat):=by
    rw [List.map_take,List.take_eq_take_iff]
    simp
    omega
  have hlt:(s.data.toList.take n).length=min s.size n:=by simp [Nat.min_comm]
  generalize ((s.data.toList.take n).map fun b=>Value.int .u8 b.toNat)=L at hbl2 hsz hall hemp hLg
  have hst:=run_storeCells_blk (P:=P) (off:=lo) L 0 w ws hh hall (by rw [hsz];omega)
  have hrun:(Builtin.copy_ #[t,u] type #[a.eval od,a.eval ox]).run P w=.ok (.int .i64 (min s.size n:Nat)) (if L=[] then w else setB w b (splice ws lo L) T):=by
    have e1:Nat.min s.size n=min s.size n:=rfl
    simp [Builtin.copy_,hdval,hxv,run_underlying hu,Builtin.lenOf,Builtin.firstCells,sizeOf,typeInfo,hin,hin1,hbl2,e1,hst,goInt]
  refine .inl ⟨.value (.int .i64 (min s.size n:Nat)),.int .i64 (min s.size n:Nat),(if L=[] then w else setB w b (splice ws lo L) T),_,F,γ, ?_,.inl rfl,h, ?_, ?_,(hs.put _ (rv_rawV rfl)),hk⟩
  · simp [execOp,resolve,invoke,builtin,hrun]
  · split
    · exact Ext.refl _ _ _ _
    · exact Ext.setB hi hgm rfl
  · split
    · rename_i h0
      rw [hemp h0,cpyE_nil,set_same hb (by simp)]
      exact hi
    · rename_i h0
      have hfit:lo+(s.data.toList.take n).length≤es.length:=by omega
      refine hi.setObj hgm rfl ⟨hcap,by rw [cpyE_len hfit];exact hec,fun q hq=>?_,_,T,setB_same hh (splice_size _ _ _ _),by rw [splice_size,hws,Nat.mul_one],fun i' j e1 d v h1 h2 h3=>?_⟩
      · obtain ⟨i',hi'⟩:=List.getElem?_of_mem hq
        rw [cpyE_get hfit] at hi'
        split at hi'
        · obtain ⟨bb,_,rfl⟩:=Option.map_eq_some_iff.1 hi';rfl
        · exact hes q (List.mem_of_getElem? hi')
      · rw [cpyE_get hfit] at h1
        rw [splice_get] at h3
        simp only [Nat.add_zero,Nat.mul_one,hsz] at h3
        split at h1
        · rename_i hc'
          obtain ⟨bb,hb1,rfl⟩:=Option.map_eq_some_iff.1 h1
          have hj:j=0:=by
            cases j with
            | zero=>rfl
            | succ j=>simp at h2
          subst hj
          injection h2 with h2;subst h2
          rw [if_pos ⟨by omega,by omega,by omega⟩] at h3
          rw [Nat.add_zero,hLg,hb1] at h3
          injection h3 with h3;subst h3
          exact .raw _ rfl
        · rename_i hc'
          have hj:j=0:=by
            have h8:=hes _ (List.mem_of_getElem? h1)
            have:=lt_of_get h2
            omega
          subst hj
          rw [Nat.add_zero] at h3
          rw [if_neg (by
            rintro ⟨a1,a2,_⟩
            omega)] at h3
          exact hwr i' 0 e1 d v h1 h2 (by rw [Nat.mul_one,Nat.add_zero];exact h3)
end
end
section
def argsOK (F:Fz) (γ:List OI) (args:List AV) (vs:Array Value):Prop:=vs.size=args.length∧∀ (i:Nat) av v,args[i]?=some av→vs[i]?=some v→RV F γ av v
def AC (P:Program) (G:Glob) (f:FuncId) (args:List AV) (objs:List AObj) (Q:AV→List AObj→Prop):Prop:=
  ∀ F γ (vs:Array Value) w,Inv F γ objs w→GlobOK F G→argsOK F γ args vs→
    Calls P f vs w fun e w'=>∃ r av objs' F' γ',e=.returned r∧Q av objs'∧objs.length≤objs'.length∧Ext objs.length F γ w F' γ' w'∧Inv F' γ' objs' w'∧RV F' γ' av r
def QC (P:Program) (G:Glob) (f:FuncId) (args:List AV) (r:AV):Prop:=AC P G f args [] fun av objs'=>av=r∧objs'=[]
mutual
def renC (ρ:Nat→Nat):Cel→Cel
  | .ptr id o=>.ptr (ρ id) o
  | .bld id n=>.bld (ρ id) n
  | .ept id i s o=>.ept (ρ id) i s o
  | .bls id l n s=>.bls (ρ id) l n s
  | .fn f caps=>.fn f (renL ρ caps)
  | .dc d=>.dc d
  | .ref cs=>.ref cs
  | .mpc es=>.mpc es
  | .junk=>.junk
def renL (ρ:Nat→Nat):List Cel→List Cel
  | []=>[]
  | c::cs=>renC ρ c::renL ρ cs
end
def renT (ρ:Nat→Nat):TV→TV
  | .one c=>.one (renC ρ c)
  | .agg cs=>.agg (cs.map (renC ρ))
def renV (ρ:Nat→Nat):AV→AV
  | .one c=>.one (renC ρ c)
  | .agg cs=>.agg (cs.map (renC ρ))
  | .tup l=>.tup (l.map (renT ρ))
  | .junk=>.junk
def renO (ρ:Nat→Nat):AObj→AObj
  | .box cs=>.box (cs.map (renC ρ))
  | o=>o
section
variable {P:Program} {G:Glob} {k:Nat} {F F':Fz} {γ γ':List OI} {w w':World} {ρ:Nat→Nat}
theorem renL_get:∀ (cs:List Cel) (i:Nat),(renL ρ cs)[i]?=(cs[i]?).map (renC ρ)
  | [],i=>by simp [renL]
  | c::cs,0=>by simp [renL]
  | c::cs,i+1=>by simp [renL,renL_get cs i]
theorem renL_len:∀ (cs:List Cel),(renL ρ cs).length=cs.length
  | []=>rfl
  | c::cs=>by simp [renL,renL_len cs]
theorem RC.ren (hg:∀ (id:Nat) (o:OI),γ[id]?=some o→γ'[ρ id]?=some o) {c:Cel} {v:Value} (h:RC F γ c v):RC F γ' (renC ρ c) v:=by
  induction h with
  | dc d v h=>exact .dc d v h
  | ptr id off b h=>exact .ptr _ _ _ (hg _ _ h)
  | bldN id cap h=>exact .bldN _ _ (hg _ _ h)
  | bld id n b cap h=>exact .bld _ _ _ _ (hg _ _ h)
  | ept id i size off b cap h=>exact .ept _ _ _ _ _ _ (hg _ _ h)
  | bls id lo n size b cap c off h ho hc=>exact .bls _ _ _ _ _ _ _ _ (h.imp (hg _ _) (hg _ _)) ho hc
  | ref cs b off g hr hc=>exact .ref cs b off g hr hc
  | mpc es r clk ents h he h1=>exact .mpc es r clk ents h he h1
  | fn f caps g hr ih=>
    simp only [renC]
    rw [← renL_len (ρ:=ρ) caps]
    refine .fn f (renL ρ caps) g (fun i c hc=>?_)
    rw [renL_get] at hc
    cases hci:caps[i]? with
    | none=>simp [hci] at hc
    | some c0=>simp [hci] at hc;subst hc;exact ih i c0 hci
  | junk v h=>exact .junk v h
theorem RC.unren {c:Cel}:∀ {v:Value},RC F γ (renC ρ c) v→(∀ (id:Nat) (o:OI),γ[ρ id]?=some o→γ'[id]?=some o)→RC F γ' c v:=by
  have key:∀ n,∀ c:Cel,SizeOf.sizeOf c≤n→∀ {v:Value},RC F γ (renC ρ c) v→(∀ (id:Nat) (o:OI),γ[ρ id]?=some o→γ'[id]?=some o)→RC F γ' c v:=by
    intro n
    induction n with
    | zero=>intro c h;cases c<;>simp at h
    | succ n ih=>
      intro c hsz v h hg
      cases c with
      | dc d=>cases h with | dc _ _ h=>exact .dc _ _ h
      | ptr id off=>cases h with | ptr _ _ b h=>exact .ptr _ _ _ (hg _ _ h)
      | bld id n=>cases h with
        | bldN _ cap h=>exact .bldN _ _ (hg _ _ h)
        | bld _ _ b cap h=>exact .bld _ _ _ _ (hg _ _ h)
      | ept id i size off=>cases h with | ept _ _ _ _ b cap h=>exact .ept _ _ _ _ _ _ (hg _ _ h)
      | bls id lo n size=>cases h with | bls _ _ _ _ b cap c off h ho hc=>exact .bls _ _ _ _ _ _ _ _ (h.imp (hg _ _) (hg _ _)) ho hc
      | ref cs=>cases h with | ref _ b off g hr hc=>exact .ref _ b off g hr hc
      | mpc es=>cases h with | mpc _ r clk ents h he h1=>exact .mpc es r clk ents h he h1
      | junk=>cases h with | junk _ h=>exact .junk _ h
      | fn f caps=>
        simp only [renC] at h
        have hmem:∀ c∈caps,SizeOf.sizeOf c < SizeOf.sizeOf caps:=fun c hc=>List.sizeOf_lt_of_mem hc
        have hs':SizeOf.sizeOf caps≤n:=by simp at hsz;omega
        generalize hx:renL ρ caps=cs at h
        cases h with
        | fn _ _ g hr=>
          have hl:cs.length=caps.length:=by rw [← hx,renL_len]
          rw [hl]
          refine .fn f caps g (fun i c hc=>?_)
          have h1:cs[i]?=some (renC ρ c):=by rw [← hx,renL_get,hc];rfl
          exact ih c (by have:=hmem c (List.mem_of_getElem? hc);omega) (hr i _ h1) hg
  intro v h hg
  exact key _ c (Nat.le_refl _) h hg
theorem RCs.renAll {cs:List Cel} {vs:Array Value} (hg:∀ (id:Nat) (o:OI),γ[id]?=some o→γ'[ρ id]?=some o) (h:∀ (i:Nat) c v,cs[i]?=some c→vs[i]?=some v→RC F γ c v):
    ∀ (i:Nat) c v,(cs.map (renC ρ))[i]?=some c→vs[i]?=some v→RC F γ' c v:=by
  intro i c v hc hv
  rw [List.getElem?_map] at hc
  cases hci:cs[i]? with
  | none=>simp [hci] at hc
  | some c0=>simp [hci] at hc;subst hc;exact (h i c0 v hci hv).ren hg
theorem RCs.unrenAll {cs:List Cel} {vs:Array Value} (hg:∀ (id:Nat) (o:OI),γ[ρ id]?=some o→γ'[id]?=some o) (h:∀ (i:Nat) c v,(cs.map (renC ρ))[i]?=some c→vs[i]?=some v→RC F γ c v):
    ∀ (i:Nat) c v,cs[i]?=some c→vs[i]?=some v→RC F γ' c v:=by
  intro i c v hc hv
  exact (h i (renC ρ c) v (by rw [List.getElem?_map,hc];rfl) hv).unren hg
theorem RV.ren (hg:∀ (id:Nat) (o:OI),γ[id]?=some o→γ'[ρ id]?=some o) {av:AV} {v:Value} (h:RV F γ av v):RV F γ' (renV ρ av) v:=by
  cases h with
  | one c v h=>exact .one _ _ (h.ren hg)
  | agg cs vs hs h=>exact .agg _ _ (by simpa using hs) (RCs.renAll hg h)
  | tup l vs hs h=>
    refine .tup _ _ (by simpa using hs) (fun i t v ht hv=>?_)
    rw [List.getElem?_map] at ht
    cases hti:l[i]? with
    | none=>simp [hti] at ht
    | some t0=>
      simp [hti] at ht;subst ht
      cases h i t0 v hti hv with
      | one c v h=>exact .one _ _ (h.ren hg)
      | agg cs vs hs h=>exact .agg _ _ (by simpa using hs) (RCs.renAll hg h)
  | junk v=>exact .junk v
theorem RV.unren (hg:∀ (id:Nat) (o:OI),γ[ρ id]?=some o→γ'[id]?=some o) {av:AV} {v:Value} (h:RV F γ (renV ρ av) v):RV F γ' av v:=by
  cases av with
  | one c=>cases h with | one _ _ h=>exact .one _ _ (h.unren hg)
  | agg cs=>cases h with | agg _ vs hs h=>exact .agg _ _ (by simpa using hs) (RCs.unrenAll hg h)
  | junk=>exact .junk _
  | tup l=>
    cases h with
    | tup _ vs hs h=>
      refine .tup _ _ (by simpa using hs) (fun i t v ht hv=>?_)
      have:=h i (renT ρ t) v (by rw [List.getElem?_map,ht];rfl) hv
      cases t with
      | one c=>cases this with | one _ _ h=>exact .one _ _ (h.unren hg)
      | agg cs=>cases this with | agg _ vs hs h=>exact .agg _ _ (by simpa using hs) (RCs.unrenAll hg h)
theorem OK.ren {o:AObj} {x:OI} (hg:∀ (id:Nat) (o:OI),γ[id]?=some o→γ'[ρ id]?=some o) (h:OK F γ w o x):OK F γ' w (renO ρ o) x:=by
  cases o with
  | box cs=>
    cases x with
    | box b=>obtain ⟨vs,T,h1,h2,h3⟩:=h;exact ⟨vs,T,h1,by simpa using h2,RCs.renAll hg h3⟩
    | arr b c=>exact h.elim
    | dead=>exact h.elim
  | arr cap size es=>cases x with
    | box b=>exact h.elim
    | arr b c=>cases b with
      | none=>exact h
      | some b=>exact h
    | dead=>exact h.elim
  | dead=>cases x<;>exact h
theorem OK.unren {o:AObj} {x:OI} (hg:∀ (id:Nat) (o:OI),γ[ρ id]?=some o→γ'[id]?=some o) (h:OK F γ w (renO ρ o) x):OK F γ' w o x:=by
  cases o with
  | box cs=>
    cases x with
    | box b=>obtain ⟨vs,T,h1,h2,h3⟩:=h;exact ⟨vs,T,h1,by simpa using h2,RCs.unrenAll hg h3⟩
    | arr b c=>exact h.elim
    | dead=>exact h.elim
  | arr cap size es=>cases x with
    | box b=>exact h.elim
    | arr b c=>cases b with
      | none=>exact h
      | some b=>exact h
    | dead=>exact h.elim
  | dead=>cases x<;>exact h
end
end
section
def jmap (J:List Nat) (n:Nat) (t:Nat):Nat:=match J[t]? with | some j=>j | none=>n+(t - J.length)
def setJ {α:Type}:List Nat→List α→List α→List α
  | j::J,x::xs,l=>setJ J xs (l.set j x)
  | _,_,l=>l
def isBoxO:AObj→Bool
  | .box _=>true
  | _=>false
section
variable {α:Type}
theorem setJ_len:∀ (J:List Nat) (xs l:List α),(setJ J xs l).length=l.length
  | [],_,l=>by simp [setJ]
  | j::J,[],l=>by simp [setJ]
  | j::J,x::xs,l=>by simp [setJ,setJ_len J xs]
theorem setJ_not:∀ (J:List Nat) (xs l:List α) (i:Nat),i∉J→(setJ J xs l)[i]?=l[i]?
  | [],_,l,i,_=>by simp [setJ]
  | j::J,[],l,i,_=>by simp [setJ]
  | j::J,x::xs,l,i,h=>by
    simp only [setJ]
    rw [setJ_not J xs _ i (fun hm=>h (List.mem_cons_of_mem _ hm)),List.getElem?_set_ne (fun e=>h (by subst e;exact List.mem_cons_self))]
theorem setJ_at:∀ (J:List Nat) (xs l:List α) (t j:Nat) (x:α),J.Nodup→J[t]?=some j→xs[t]?=some x→j < l.length→(setJ J xs l)[j]?=some x
  | [],_,l,t,j,x,_,h,_,_=>by simp at h
  | j0::J,[],l,t,j,x,_,_,h,_=>by simp at h
  | j0::J,x0::xs,l,t,j,x,hn,hj,hx,hl=>by
    simp only [setJ]
    rw [List.nodup_cons] at hn
    cases t with
    | zero=>
      simp at hj hx;subst hj;subst hx
      rw [setJ_not J xs _ j0 hn.1,List.getElem?_set_self hl]
    | succ t=>exact setJ_at J xs _ t j x hn.2 (by simpa using hj) (by simpa using hx) (by simpa using hl)
end
theorem nodup_get {J:List Nat} (h:J.Nodup) {s t j:Nat} (hs:J[s]?=some j) (ht:J[t]?=some j):s=t:=by
  have h1:=lt_of_get hs
  have h2:=lt_of_get ht
  have e1:=(List.getElem?_eq_some_iff.1 hs).2
  have e2:=(List.getElem?_eq_some_iff.1 ht).2
  exact (List.getElem_inj h).1 (e1.trans e2.symm)
section
variable {P:Program} {G:Glob} {k:Nat} {F:Fz} {γ:List OI} {w:World} {as:AS} {a:Act}
theorem call_step {f:FuncId} {cargs:List AV} {objs:List AObj} {J:List Nat} {Qc:AV→List AObj→Prop} (hac:AC P G f cargs objs Qc) (hJ:J.Nodup) (hlen:objs.length=J.length)
    (hobj:∀ (t j:Nat) o,J[t]?=some j→objs[t]?=some o→as.hp[j]?=some (renO (jmap J as.hp.length) o))
    (hi:Inv F γ as.hp w) (hs:Slots F γ as.sl a) (hg:GlobOK F G) (hk:k≤γ.length) {vs:Array Value} (hv:argsOK F γ (cargs.map (renV (jmap J as.hp.length))) vs):
    Calls P f vs w fun e w'=>∃ r av objs',e=.returned r∧Qc av objs'∧∃ F' γ',Ext k F γ w F' γ' w'∧
      Inv F' γ' (setJ J (objs'.map (renO (jmap J as.hp.length))) (as.hp.map (killO fun id=>J.contains id&&!isBoxO (hpGet as.hp id)))++(objs'.drop J.length).map (renO (jmap J as.hp.length))) w'∧
      Slots F' γ' (as.sl.map (killV fun id=>J.contains id&&!isBoxO (hpGet as.hp id))) a∧RV F' γ' (renV (jmap J as.hp.length) av) r∧k≤γ'.length:=by
  generalize hρ:jmap J as.hp.length=ρ at *
  have ρ1:∀ (t j:Nat),J[t]?=some j→ρ t=j:=fun t j h=>by rw [← hρ];simp [jmap,h]
  have ρ2:∀ t,J.length≤t→ρ t=as.hp.length+(t - J.length):=fun t h=>by rw [← hρ];simp [jmap,List.getElem?_eq_none h]
  -- every object of the call is one of the caller's
  have hJlt:∀ (t j:Nat),J[t]?=some j→j < as.hp.length:=by
    intro t j h
    have ht:t < objs.length:=hlen ▸ lt_of_get h
    exact lt_of_get (hobj t j _ h (List.getElem?_eq_getElem ht))
  let γe:List OI:=J.map fun j=>γ.getD j .dead
  have ge:∀ (t j:Nat),J[t]?=some j→γe[t]?=γ[j]?:=by
    intro t j h
    have hj:j < γ.length:=by rw [hi.len];exact hJlt t j h
    simp [γe,h,List.getD_eq_getElem?_getD,List.getElem?_eq_getElem hj]
  have geN:∀ (t:Nat),J.length≤t→γe[t]?=none:=fun t h=>List.getElem?_eq_none (by simpa [γe] using h)
  have hback:∀ (id:Nat) (o:OI),γ[ρ id]?=some o→γe[id]?=some o:=by
    intro id o h
    by_cases hid:id < J.length
    · have hj:J[id]?=some (J[id]'hid):=List.getElem?_eq_getElem hid
      rw [ρ1 _ _ hj] at h
      rw [ge _ _ hj];exact h
    · rw [ρ2 id (by omega)] at h
      rw [List.getElem?_eq_none (by rw [hi.len];omega)] at h
      cases h
  have be:∀ t b,blkAt γe t=some b→∃ j,J[t]?=some j∧blkAt γ j=some b:=by
    intro t b h
    obtain ⟨y,hy,hyb⟩:=blkAt_some h
    have ht:t < J.length:=by have:=lt_of_get hy;simpa [γe] using this
    have hj:J[t]?=some (J[t]'ht):=List.getElem?_eq_getElem ht
    rw [ge _ _ hj] at hy
    exact ⟨_,hj,blkAt_of hy hyb⟩
  have hie:Inv F γe objs w:=by
    refine ⟨hi.fz,by simp [γe,hlen], ?_, ?_, ?_⟩
    · intro s t b h1 h2
      obtain ⟨j1,hj1,hb1⟩:=be s b h1
      obtain ⟨j2,hj2,hb2⟩:=be t b h2
      have:=hi.nd _ _ _ hb1 hb2
      subst this
      exact nodup_get hJ hj1 hj2
    · intro t b h
      obtain ⟨j,_,hb⟩:=be t b h
      exact hi.disj j b hb
    · intro t o x h1 h2
      have ht:t < J.length:=by have:=lt_of_get h2;simpa [γe] using this
      have hj:J[t]?=some (J[t]'ht):=List.getElem?_eq_getElem ht
      rw [ge _ _ hj] at h2
      exact (hi.ok _ _ x (hobj t _ o hj h1) h2).unren hback
  have hve:argsOK F γe cargs vs:=by
    refine ⟨by simpa using hv.1,fun i av v h1 h2=>?_⟩
    exact (hv.2 i (renV ρ av) v (by rw [List.getElem?_map,h1];rfl) h2).unren hback
  refine (hac F γe vs w hie hg hve).mono ?_
  rintro e w' ⟨r,av,objs',F',γ',rfl,hq,hlo,hE,hI,hR⟩
  refine ⟨r,av,objs',rfl,hq,F',setJ J γ' γ++γ'.drop J.length, ?_⟩
  have hγl:γ'.length=objs'.length:=hI.len
  -- names of the callee's objects behind the call
  have hfwd:∀ (id:Nat) (o:OI),γ'[id]?=some o→(setJ J γ' γ++γ'.drop J.length)[ρ id]?=some o:=by
    intro id o h
    by_cases hid:id < J.length
    · have hj:J[id]?=some (J[id]'hid):=List.getElem?_eq_getElem hid
      rw [ρ1 _ _ hj]
      have hjl:J[id]'hid < γ.length:=by rw [hi.len];exact hJlt _ _ hj
      exact get_append_left (setJ_at J γ' γ id _ o hJ hj h hjl)
    · rw [ρ2 id (by omega),List.getElem?_append_right (by rw [setJ_len,hi.len];omega),setJ_len,hi.len,Nat.add_sub_cancel_left,List.getElem?_drop]
      rw [show J.length+(id - J.length)=id by omega];exact h
  have hold:∀ (i:Nat) (o:OI),i∉J→γ[i]?=some o→(setJ J γ' γ++γ'.drop J.length)[i]?=some o:=fun i o hn h=>get_append_left (by rw [setJ_not J γ' γ i hn];exact h)
  have hkeep:∀ (id:Nat) (o:OI),(J.contains id&&!isBoxO (hpGet as.hp id))=false→γ[id]?=some o→(setJ J γ' γ++γ'.drop J.length)[id]?=some o:=by
    intro id o hp h
    by_cases hm:id∈J
    · simp only [Bool.and_eq_false_iff,List.contains_eq_mem,decide_eq_false_iff_not,Bool.not_eq_false'] at hp
      rcases hp with hp | hp
      · exact absurd hm hp
      · obtain ⟨t,ht⟩:=List.getElem?_of_mem hm
        have hl:id < as.hp.length:=by rw [← hi.len];exact lt_of_get h
        have hgd:as.hp[id]?=some (hpGet as.hp id):=by simp [hpGet,List.getD_eq_getElem?_getD,List.getElem?_eq_getElem hl]
        have hok:=hi.ok id _ o hgd h
        cases hob:hpGet as.hp id with
        | box cs=>
          rw [hob] at hok
          cases o with
          | box b=>
            have htl:=lt_of_get ht
            have:=hE.box t (by omega) b (by rw [ge _ _ ht];exact h)
            have h2:=hfwd t _ this
            rwa [ρ1 _ _ ht] at h2
          | arr b c=>exact hok.elim
          | dead=>exact hok.elim
        | arr _ _ _=>rw [hob] at hp;simp [isBoxO] at hp
        | dead=>rw [hob] at hp;simp [isBoxO] at hp
    · exact hold id o hm h
  -- the blocks
  have hnew:∀ i b,blkAt (setJ J γ' γ++γ'.drop J.length) i=some b→(i∉J∧blkAt γ i=some b)∨(∃ t,ρ t=i∧blkAt γ' t=some b):=by
    intro i b h
    obtain ⟨y,hy,hyb⟩:=blkAt_some h
    by_cases hil:i < γ.length
    · rw [List.getElem?_append_left (by rw [setJ_len];exact hil)] at hy
      by_cases hm:i∈J
      · obtain ⟨t,ht⟩:=List.getElem?_of_mem hm
        have htl:=lt_of_get ht
        have htγ:t < γ'.length:=by omega
        have h2:=setJ_at J γ' γ t i _ hJ ht (List.getElem?_eq_getElem htγ) hil
        rw [h2] at hy
        injection hy with hy
        subst hy
        exact .inr ⟨t,ρ1 _ _ ht,blkAt_of (List.getElem?_eq_getElem htγ) hyb⟩
      · rw [setJ_not J γ' γ i hm] at hy
        exact .inl ⟨hm,blkAt_of hy hyb⟩
    · rw [List.getElem?_append_right (by rw [setJ_len];omega),setJ_len,List.getElem?_drop] at hy
      refine .inr ⟨J.length+(i - γ.length), ?_,blkAt_of hy hyb⟩
      rw [ρ2 _ (by omega),← hi.len];omega
  have hlt':∀ t b,blkAt γ' t=some b→(∃ j,j∈J∧blkAt γ j=some b)∨w.heap.size≤b:=by
    intro t b h
    rcases hE.blk t b h with ⟨s,hs'⟩ | h
    · obtain ⟨j,hj,hb⟩:=be s b hs'
      exact .inl ⟨j,List.mem_of_getElem? hj,hb⟩
    · exact .inr h
  have hfar:∀ i b,i∉J→blkAt γ i=some b→w'.heap[b]?=w.heap[b]?:=by
    intro i b hn hb
    refine hE.far b (hi.lt hb) (fun t ht=>?_)
    obtain ⟨j,hj,hjb⟩:=be t b ht
    exact hn (by rw [hi.nd _ _ _ hb hjb];exact List.mem_of_getElem? hj)
  have hρinj:∀ s t b,blkAt γ' s=some b→blkAt γ' t=some b→ρ s=ρ t:=fun s t b h1 h2=>by rw [hI.nd _ _ _ h1 h2]
  refine ⟨?_, ?_,hs.kill hE.sub hkeep,hR.ren hfwd,by simp [setJ_len];omega⟩
  · refine ⟨hE.sub,hE.os,hE.tape,hE.output,hE.size,fun b hb hn=>?_,fun b o h=>?_,fun i b h=>?_,fun i hik b h=>?_⟩
    · exact hE.far b hb (fun t ht=>by obtain ⟨j,_,hjb⟩:=be t b ht;exact hn j hjb)
    · rcases hE.new b o h with h | h | ⟨t,ht⟩
      · exact .inl h
      · exact .inr (.inl h)
      · obtain ⟨j,_,hjb⟩:=be t b ht;exact .inr (.inr ⟨j,hjb⟩)
    · rcases hnew i b h with ⟨_,h⟩ | ⟨t,_,h⟩
      · exact .inl ⟨i,h⟩
      · rcases hlt' t b h with ⟨j,_,h⟩ | h
        · exact .inl ⟨j,h⟩
        · exact .inr h
    · have hl:i < as.hp.length:=by rw [← hi.len];exact lt_of_get h
      have hgd:as.hp[i]?=some (hpGet as.hp i):=by simp [hpGet,List.getD_eq_getElem?_getD,List.getElem?_eq_getElem hl]
      have hok:=hi.ok i _ _ hgd h
      refine hkeep i _ ?_ h
      cases hob:hpGet as.hp i with
      | box cs=>simp [isBoxO]
      | arr _ _ _=>rw [hob] at hok;exact hok.elim
      | dead=>rw [hob] at hok;exact hok.elim
  · refine ⟨hI.fz,by simp [setJ_len,hi.len,hγl], ?_, ?_, ?_⟩
    · intro i j b h1 h2
      rcases hnew i b h1 with ⟨a1,a2⟩ | ⟨t,a1,a2⟩<;>rcases hnew j b h2 with ⟨c1,c2⟩ | ⟨s,c1,c2⟩
      · exact hi.nd _ _ _ a2 c2
      · exfalso
        rcases hlt' s b c2 with ⟨j',hj',hb'⟩ | h
        · exact a1 (by rw [hi.nd _ _ _ a2 hb'];exact hj')
        · have:=hi.lt a2;omega
      · exfalso
        rcases hlt' t b a2 with ⟨j',hj',hb'⟩ | h
        · exact c1 (by rw [hi.nd _ _ _ c2 hb'];exact hj')
        · have:=hi.lt c2;omega
      · rw [← a1,← c1];exact hρinj _ _ _ a2 c2
    · intro i b h
      rcases hnew i b h with ⟨a1,a2⟩ | ⟨t,_,a2⟩
      · cases hF:F' b with
        | none=>rfl
        | some o=>
          exfalso
          rcases hE.new b o hF with h | h | ⟨t,ht⟩
          · rw [hi.disj i b a2] at h;cases h
          · have:=hi.lt a2;omega
          · obtain ⟨j,hj,hjb⟩:=be t b ht
            exact a1 (by rw [hi.nd _ _ _ a2 hjb];exact List.mem_of_getElem? hj)
      · exact hI.disj t b a2
    · intro i o x h1 h2
      by_cases hil:i < γ.length
      · rw [List.getElem?_append_left (by rw [setJ_len];exact hil)] at h2
        rw [List.getElem?_append_left (by rw [setJ_len,List.length_map,← hi.len];exact hil)] at h1
        by_cases hm:i∈J
        · obtain ⟨t,ht⟩:=List.getElem?_of_mem hm
          have htl:=lt_of_get ht
          have htγ:t < γ'.length:=by omega
          have hto:t < objs'.length:=by omega
          rw [setJ_at J γ' γ t i _ hJ ht (List.getElem?_eq_getElem htγ) hil] at h2
          rw [setJ_at J _ _ t i (renO ρ (objs'[t]'hto)) hJ ht (by rw [List.getElem?_map,List.getElem?_eq_getElem hto];rfl) (by rw [List.length_map,← hi.len];exact hil)] at h1
          injection h1 with h1;injection h2 with h2;subst h1;subst h2
          exact (hI.ok t _ _ (List.getElem?_eq_getElem hto) (List.getElem?_eq_getElem htγ)).ren hfwd
        · rw [setJ_not J _ _ i hm] at h1 h2
          rw [List.getElem?_map] at h1
          cases ho:as.hp[i]? with
          | none=>simp [ho] at h1
          | some o0=>
            simp only [ho,Option.map_some,Option.some.injEq] at h1;subst h1
            exact (hi.ok i o0 x ho h2).kill hE.sub hkeep (fun b hb=>hfar i b hm (blkAt_of h2 hb))
      · rw [List.getElem?_append_right (by rw [setJ_len];omega),setJ_len,List.getElem?_drop] at h2
        rw [List.getElem?_append_right (by rw [setJ_len,List.length_map,← hi.len];omega),setJ_len,List.length_map,← hi.len,List.getElem?_map,List.getElem?_drop] at h1
        cases ho:objs'[J.length+(i - γ.length)]? with
        | none=>simp [ho] at h1
        | some o0=>
          simp [ho] at h1;subst h1
          exact (hI.ok _ o0 x ho h2).ren hfwd
end
end
section
theorem killC_none {p:Nat→Bool} (hp:∀ id,p id=false) (c:Cel):killC p c=c:=by
  have:p=fun _=>false:=funext hp
  subst this
  simp [killC,Cel.keep_none]
theorem killT_none {p:Nat→Bool} (hp:∀ id,p id=false) (t:TV):killT p t=t:=by
  cases t<;>simp [killT,killC_none hp,List.map_id'']
theorem killV_none {p:Nat→Bool} (hp:∀ id,p id=false) (v:AV):killV p v=v:=by
  cases v<;>simp [killV,killC_none hp,killT_none hp,List.map_id'']
theorem killO_none {p:Nat→Bool} (hp:∀ id,p id=false) (o:AObj):killO p o=o:=by
  cases o<;>simp [killO,killC_none hp,List.map_id'']
theorem mapV_none {p:Nat→Bool} (hp:∀ id,p id=false) (l:List AV):l.map (killV p)=l:=by simp [killV_none hp,List.map_id'']
theorem mapO_none {p:Nat→Bool} (hp:∀ id,p id=false) (l:List AObj):l.map (killO p)=l:=by simp [killO_none hp,List.map_id'']
def okF (P:Program) (f:FuncId):Bool:=
  match P.funcs[f]? with
  | some fn=>!(fn.name=="runtime.NumGoroutine"||fn.body.isNone)
  | none=>false
section
variable {P:Program} {G:Glob} {k:Nat} {Q:AS→Prop} {as as':AS} {o:AOp} {rest ops:List AOp} {F:Fz} {γ:List OI} {w:World} {a:Act}
theorem run_callFunc {f:FuncId} (h:okF P f=true) (args:Array Value):(callFunc f args).run P w=.ok (.enter f args) w:=by
  unfold okF at h
  cases hf:P.funcs[f]? with
  | none=>simp [hf] at h
  | some fn=>
    simp only [hf,Bool.not_eq_true',Bool.or_eq_false_iff] at h
    obtain ⟨h1,h2⟩:=h
    have h1':¬ fn.name="runtime.NumGoroutine":=by simpa using h1
    have h2':¬ fn.body=none:=by intro h;simp [h] at h2
    simp [callFunc,hf,h1',h2']
theorem call_inv {oper:Oper} {f:FuncId} {args:List AArg} (hc:compileOp P oper=some (.call f args)):
    ∃ c,oper.op=.call c∧c.callee=.value (.func f)∧args=c.args.toList.map argOf∧okF P f=true:=by
  have hk:=kind_of hc rfl
  obtain ⟨c,he⟩:=op_call (.inl hk)
  obtain ⟨dst,op,type,pos,after,guard⟩:=oper
  obtain ⟨callee,cargs,argTypes⟩:=c
  simp only at he
  subst he
  simp only [kindOp] at hk
  split at hk
  · rename_i f'
    simp only [compileOp,compileCall] at hc
    cases hf:P.funcs[f']? with
    | none=>simp [hf] at hc
    | some fn=>
      simp only [hf] at hc
      split at hc
      · cases hc
      · rename_i hcond
        simp only [Option.some.injEq,AI.call.injEq] at hc
        obtain ⟨rfl,rfl⟩:=hc
        exact ⟨_,rfl,rfl,rfl,by simp only [okF,hf,Bool.not_eq_true'];exact Bool.eq_false_iff.2 hcond⟩
  · simp [kindAI] at hk
  · simp [kindAI] at hk
  · simp [kindAI] at hk
  · simp [kindAI] at hk
  · simp [kindAI] at hk
theorem callv_inv {oper:Oper} {x:AArg} {args:List AArg} (hc:compileOp P oper=some (.callv x args)):
    ∃ c t,oper.op=.call c∧c.callee=.value (.tmp t)∧args=c.args.toList.map argOf∧x=.t t:=by
  have hk:=kind_of hc rfl
  obtain ⟨c,he⟩:=op_call (.inr (.inl hk))
  obtain ⟨dst,op,type,pos,after,guard⟩:=oper
  obtain ⟨callee,cargs,argTypes⟩:=c
  simp only at he
  subst he
  simp only [kindOp] at hk
  split at hk
  · simp [kindAI] at hk
  · rename_i f' hne
    cases f' with
    | tmp t=>
      simp only [compileOp,compileCall,Option.some.injEq,AI.callv.injEq] at hc
      obtain ⟨rfl,rfl⟩:=hc
      exact ⟨_,t,rfl,rfl,rfl,rfl⟩
    | const v=>simp [compileOp,compileCall] at hc
    | global g=>simp [compileOp,compileCall] at hc
    | func f=>exact absurd rfl (hne f)
  · simp [kindAI] at hk
  · simp [kindAI] at hk
  · simp [kindAI] at hk
  · simp [kindAI] at hk
theorem args_ok (hs:Slots F γ as.sl a) (hg:GlobOK F G) (xs:Array Operand):argsOK F γ ((xs.toList.map argOf).map (evA G as.sl)) (xs.map a.eval):=by
  refine ⟨by simp,fun i av v h1 h2=>?_⟩
  simp only [List.map_map,List.getElem?_map,Array.getElem?_map,Array.getElem?_toList] at h1 h2
  cases hx:xs[i]? with
  | none=>simp [hx] at h1
  | some x=>
    simp [hx] at h1 h2
    subst h1;subst h2
    exact rv_arg hs hg x
def afterC (J:List Nat) (as:AS) (dst:Option Nat) (av:AV) (objs':List AObj):AS:=
  ⟨putS (as.sl.map (killV fun id=>J.contains id&&!isBoxO (hpGet as.hp id))) dst (renV (jmap J as.hp.length) av),
   setJ J (objs'.map (renO (jmap J as.hp.length))) (as.hp.map (killO fun id=>J.contains id&&!isBoxO (hpGet as.hp id)))++(objs'.drop J.length).map (renO (jmap J as.hp.length))⟩
theorem WR.call {f:FuncId} {args:List AArg} {cargs:List AV} {objs:List AObj} {J:List Nat} {Qc:AV→List AObj→Prop} (hgd:gOK G as o.guard) (ha:o.ai=.call f args) (hac:AC P G f cargs objs Qc) (hJ:J.Nodup)
    (hlen:objs.length=J.length) (hobj:∀ (t j:Nat) o,J[t]?=some j→objs[t]?=some o→as.hp[j]?=some (renO (jmap J as.hp.length) o))
    (hargs:args.map (evA G as.sl)=cargs.map (renV (jmap J as.hp.length))) (h:∀ av objs',Qc av objs'→WR P G k rest Q (afterC J as o.dst av objs')):WR P G k (o::rest) Q as:=by
  refine WR.step hgd (fun F γ a w oper hc hd hi hs hg hk=>?_)
  rw [ha] at hc
  obtain ⟨c,hop,hcal,rfl,hok⟩:=call_inv hc
  obtain ⟨dst,op,type,pos,after,guard⟩:=oper
  simp only at hop
  subst hop
  have hv:=args_ok (G:=G) hs hg c.args
  rw [hargs] at hv
  refine .inr ⟨f,c.args.map a.eval, ?_,(call_step hac hJ hlen hobj hi hs hg hk hv).mono ?_⟩
  · simp [execOp,resolve,hcal,Act.eval,Deferred.ofValue,invoke,run_callFunc hok]
  · rintro e w' ⟨r,av,objs',rfl,hq,F',γ',hE,hI,hS,hR,hk'⟩
    exact ⟨r,_,F',γ',rfl,h av objs' hq,hE,hI,hS.put _ hR,hk'⟩
theorem WR.callv {f:FuncId} {caps:List Cel} {x:AArg} {args:List AArg} {cargs:List AV} {objs:List AObj} {J:List Nat} {Qc:AV→List AObj→Prop} (hgd:gOK G as o.guard) (ha:o.ai=.callv x args) (hx:evA G as.sl x=.one (.fn f caps))
    (hok:okF P f=true) (hac:AC P G f cargs objs Qc) (hJ:J.Nodup)
    (hlen:objs.length=J.length) (hobj:∀ (t j:Nat) o,J[t]?=some j→objs[t]?=some o→as.hp[j]?=some (renO (jmap J as.hp.length) o))
    (hargs:args.map (evA G as.sl)++caps.map AV.one=cargs.map (renV (jmap J as.hp.length))) (h:∀ av objs',Qc av objs'→WR P G k rest Q (afterC J as o.dst av objs')):WR P G k (o::rest) Q as:=by
  refine WR.step hgd (fun F γ a w oper hc hd hi hs hg hk=>?_)
  rw [ha] at hc
  obtain ⟨c,t,hop,hcal,rfl,rfl⟩:=callv_inv hc
  obtain ⟨dst,op,type,pos,after,guard⟩:=oper
  simp only at hop
  subst hop
  have hv:=args_ok (G:=G) hs hg c.args
  have hf:=rv_arg (G:=G) hs hg (.tmp t)
  rw [show argOf (.tmp t)=.t t from rfl,hx] at hf
  generalize hfv:a.eval (.tmp t)=fv at hf
  cases hf with | one _ _ hf=>cases hf with | fn _ _ g hr=>
  have hv2:argsOK F γ (cargs.map (renV (jmap J as.hp.length))) (c.args.map a.eval++((List.range caps.length).map g).toArray):=by
    rw [← hargs]
    refine ⟨by simp,fun i av v h1 h2=>?_⟩
    by_cases hi':i < c.args.size
    · rw [List.getElem?_append_left (by simpa using hi')] at h1
      rw [Array.getElem?_append_left (by simpa using hi')] at h2
      exact hv.2 i av v h1 h2
    · rw [List.getElem?_append_right (by simpa using hi')] at h1
      rw [Array.getElem?_append_right (by simpa using hi')] at h2
      simp only [List.length_map,Array.length_toList,Array.size_map] at h1 h2
      simp only [List.getElem?_map,List.getElem?_toArray] at h1 h2
      cases hcp:caps[i - c.args.size]? with
      | none=>simp [hcp] at h1
      | some cc=>
        simp [hcp] at h1
        have hlt:=lt_of_get hcp
        simp [List.getElem?_range hlt] at h2
        subst h1;subst h2
        exact .one _ _ (hr _ _ hcp)
  refine .inr ⟨f,c.args.map a.eval++((List.range caps.length).map g).toArray, ?_,(call_step hac hJ hlen hobj hi hs hg hk hv2).mono ?_⟩
  · simp [execOp,resolve,hcal,hfv,Deferred.ofValue,invoke,run_callFunc hok]
  · rintro e w' ⟨r,av,objs',rfl,hq,F',γ',hE,hI,hS,hR,hk'⟩
    exact ⟨r,_,F',γ',rfl,h av objs' hq,hE,hI,hS.put _ hR,hk'⟩
theorem WR.callQ {f:FuncId} {args:List AArg} {cargs:List AV} {r:AV} (hgd:gOK G as o.guard) (ha:o.ai=.call f args) (hac:QC P G f cargs r)
    (hargs:args.map (evA G as.sl)=cargs.map (renV (jmap [] as.hp.length))) (h:WR P G k rest Q ⟨putS as.sl o.dst (renV (jmap [] as.hp.length) r),as.hp⟩):WR P G k (o::rest) Q as:=by
  refine WR.call (J:=[]) hgd ha hac List.nodup_nil rfl (fun t j o h=>by simp at h) hargs (fun av objs' hq=>?_)
  obtain ⟨rfl,rfl⟩:=hq
  have e1:afterC [] as o.dst av []=⟨putS as.sl o.dst (renV (jmap [] as.hp.length) av),as.hp⟩:=by
    simp only [afterC,setJ,List.map_nil,List.drop_nil,List.append_nil]
    rw [mapV_none (by simp),mapO_none (by simp)]
  rw [e1]
  exact h
theorem WR.callN {f:FuncId} {args:List AArg} {cargs:List AV} {Qc:AV→List AObj→Prop} (hgd:gOK G as o.guard) (ha:o.ai=.call f args) (hac:AC P G f cargs [] Qc)
    (hargs:args.map (evA G as.sl)=cargs.map (renV (jmap [] as.hp.length)))
    (h:∀ av objs',Qc av objs'→WR P G k rest Q ⟨putS as.sl o.dst (renV (jmap [] as.hp.length) av),as.hp++objs'.map (renO (jmap [] as.hp.length))⟩):WR P G k (o::rest) Q as:=by
  refine WR.call (J:=[]) hgd ha hac List.nodup_nil rfl (fun t j o h=>by simp at h) hargs (fun av objs' hq=>?_)
  have e1:afterC [] as o.dst av objs'=⟨putS as.sl o.dst (renV (jmap [] as.hp.length) av),as.hp++objs'.map (renO (jmap [] as.hp.length))⟩:=by
    simp only [afterC,setJ,List.length_nil,List.drop_zero]
    rw [mapV_none (by simp),mapO_none (by simp)]
  rw [e1]
  exact h av objs' hq
end
end
end Go.Proofs.YtmmafhopnkkeeaaGreatDoor
