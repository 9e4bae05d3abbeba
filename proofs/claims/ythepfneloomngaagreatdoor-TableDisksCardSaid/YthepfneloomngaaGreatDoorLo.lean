/- Calls in a region; the forms of code; functions by their bodies. Conditions: none. -/
import Derived.Test.YthepfneloomngaaGreatDoorLk
import Derived.Lib.ConvBytes
namespace Go.Proofs.YthepfneloomngaaGreatDoor
section
section
variable {P:Program} {G:aF} {k:Nat} {Q:AS->Prop} {as as':AS} {o:aM} {rest ops:List aM} {F:Fz} {γ:List OI} {w w':World} {hp:List aD}
theorem Cu{α:Type}{es news:List α}{n i:Nat}{e:α}(hn:n<=es.length)(h:(es.take n++news)[i]?=some e):(i < n/\es[i]?=some e)\/(n<=i/\news[i - n]?=some e):=by
  by_cases hi:i < n
  · rw[aWx (by simp;omega),aWH,if_pos hi] at h
    exact .inl ⟨hi,h⟩
  · rw[aWB (by simp;omega)] at h
    have:min n es.length=n:=by omega
    simp only[aWm,this] at h;exact .inr ⟨by omega,h⟩
theorem Mv{t u ty e:TypeId}{du:TypeDesc}{i:TypeInfo}{z:Value}(ht:P.underlying t=some (.slice e))(hu:P.underlying u=some du)(hdu:du=.slice e\/du=.string)(hin:P.info? e=some i)(hz:i.zero=some z)
    (hzs:z.cells.size=i.size) (hby:0 < i.bytes) {id n cap:Nat} {es news:List (List DC)} {x sv:Value} (hi:dC F γ hp w) (hb:aI hp id=.arr cap i.size es) (hsv:RC F γ (.bld id n) sv) (hn:n<=es.length)
    (hns:∀ e∈news,e.length=i.size) (hub:(n+news.length) * i.bytes<=140737488355328) (nv:List Value) (hnl:nv.length=news.length * i.size)
    (hx:∀ w':World,w'.heap=w.heap->(Builtin.firstCells i.size news.length x).run P w'=.ok nv.toArray w') (hxl:(Builtin.lenOf x).run P w=.ok news.length w)
    (hnr:∀ (i' j:Nat) e d v,news[i']?=some e->e[j]?=some d->nv[i' * i.size+j]?=some v->RD F d v) (hn1:∀ v∈nv,is1 v=true):
    ∃ r w' x' cap',(Builtin.append_ #[t,u] ty #[sv,x]).run P w=.ok r w'/\n+news.length<=cap'/\gA k F γ w F (γ.set id x') w'/\
      dC F (γ.set id x') ((hp.map (cI (·==id))).set id (.arr cap' i.size (es.take n++news))) w'/\RC F (γ.set id x') (.bld id (n+news.length)) r:=by
  have hbyte:∀ q,0 < i.bytes->q<=q * i.bytes:=fun q h=>Nat.le_mul_of_pos_right _ h
  have hes':∀ (hes:∀ e∈es,e.length=i.size),∀ e∈es.take n++news,e.length=i.size:=by
    intro hes e he;rcases aXy.1 he with h | h
    · exact hes e (aWF h)
    · exact hns e h
  have hlen':(es.take n++news).length=n+news.length:=by simp;omega
  
  have fresh:∀ (xo:OI) (hx0:γ[id]?=some xo) (hnb:∀ b,xo≠.box b) (old:List Value) (c:Nat) (rest:List Value),old.length=n * i.size->n+news.length<=c->rest.length=(c - (n+news.length)) * i.size->
      (∀ (i' j:Nat) e d v,i' < n->es[i']?=some e->e[j]?=some d->old[i' * i.size+j]?=some v->RD F d v)->(∀ e∈es,e.length=i.size)->
      gA k F γ w F (γ.set id (.arr (some w.heap.size) c)) (dQ w.drew (.cells (old++nv++rest).toArray e))/\
      dC F (γ.set id (.arr (some w.heap.size) c)) ((hp.map (cI (·==id))).set id (.arr c i.size (es.take n++news))) (dQ w.drew (.cells (old++nv++rest).toArray e))/\
      RC F (γ.set id (.arr (some w.heap.size) c)) (.bld id (n+news.length)) (.slice (some ⟨w.heap.size,0,none⟩) (n+news.length) c):=by
    intro xo hx0 hnb old c rest hol hc hrl hor hes;have hfar:∀ b,b < w.heap.size->xo.blk≠some b->(dQ w.drew (.cells (old++nv++rest).toArray e)).heap[b]?=w.heap[b]?:=fun b hb' _=>nA (w:=w.drew) hb'
    have hblk:∀ b,(OI.arr (some w.heap.size) c).blk=some b->xo.blk=some b\/b=w.heap.size:=by intro b hb';simp[OI.blk] at hb';exact .inr hb'.symm
    refine⟨gA.setArr hi hx0 hnb hblk hfar rfl rfl rfl (by simp[dQ]),dC.setArr hi hx0 hblk hfar ?_,.bld _ _ _ c (aWI (aG hx0))⟩;refine⟨rfl,by rw[hlen'];exact hc,hes' hes,_,e,zB (w:=w.drew), ?_, ?_⟩
    · simp only[List.size_toArray,aWg,hol,hnl,hrl]
      rw[<- aWQ,<- aWQ];congr 1;omega
    · intro i' j e' d v h1 h2 h3
      simp only[aXM] at h3;rcases Cu hn h1 with⟨a1,a2⟩ | ⟨a1,a2⟩
      · have hj:j < i.size:=by have:=aG h2;have:=hes _ (aWD a2);omega
        have:=gB a1 (aWj _) hj;rw[aWv,aWx (by omega)] at h3;exact hor i' j e' d v a1 a2 h2 h3
      · have hj:j < i.size:=by have:=aG h2;have:=hns _ (aWD a2);omega
        have h5:=gB (aG a2) (aWj _) hj;have h6:i' * i.size+j=n * i.size+((i' - n) * i.size+j):=by
          rw[<- Nat.add_assoc,<- aWQ];congr 2;omega
        rw[h6,aWv,aWB (by omega),hol,aXP,aWx (by omega)] at h3;exact hnr _ j e' d v a2 h2 h3
  cases hsv with
  | bldN _ cap0 hgm=>
    obtain⟨h1,h2,h3⟩:=hi.arrN hb hgm;subst h1;subst h2;subst h3;have hra:=Ut (P:=P) (ty:=ty) (A:=none) (n:=0) (cap:=0) ht hu hdu hin hz hby [] nv rfl hx hxl hub rfl;by_cases hle:0+news.length<=0
    · have hnn:news=[]:=aXl (by omega)
      subst hnn;refine⟨_,w,.arr none 0,0,by rw[hra.1 hle];rfl,by simp, ?_, ?_, ?_⟩
      · exact gA.setArr hi hgm (by simp) (fun b h=>by simp[OI.blk] at h) (fun b _ _=>rfl) rfl rfl rfl (aWj _)
      · exact dC.setArr hi hgm (fun b h=>by simp[OI.blk] at h) (fun b _ _=>rfl) ⟨rfl,rfl,rfl⟩
      · exact .bldN _ 0 (aWI (aG hgm))
    · obtain⟨c,rest,hc,hrl,hrun⟩:=hra.2 hle
      rw[hzs] at hrl;obtain⟨hE,hI,hR⟩:=fresh _ hgm (by simp) [] c rest (by simp) hc hrl (fun i' j e d v h=>by omega) (fun e h=>by simp at h)
      exact⟨_,_,_,c,hrun,hc,hE,hI,hR⟩
  | bld _ _ b cap' hgm=>
    obtain⟨hcc,hec,hes,vs,T,hh,hvsz,hr⟩:=hi.arr hb hgm;subst hcc;have hcap:n * i.size<=vs.size:=by rw[hvsz];exact aXf _ (by omega)
    have hold:∀ w':World,w'.heap=w.heap->(Builtin.firstCells i.size n (.slice (some ⟨b,0,none⟩) n cap')).run P w'=.ok (vs.toList.take (n * i.size)).toArray w':=by
      intro w' hw;simp only[Builtin.firstCells];have hl:(vs.toList.take (n * i.size)).length=n * i.size:=by simp;omega
      have:=run_loadCells_list (P:=P) w' ⟨b,0,none⟩ (vs.toList.take (n * i.size)) (fun j v hj=>by
        rw[dG,aWZ,lB (hh.of (by rw[hw]))];rw[aWH] at hj;split at hj
        · simpa using hj
        · cases hj)
      rwa[hl] at this
    have hra:=Ut (P:=P) (ty:=ty) (A:=some ⟨b,0,none⟩) (n:=n) (cap:=cap') ht hu hdu hin hz hby _ nv (hold w rfl) hx hxl hub (hold w.drew rfl);by_cases hle:n+news.length<=cap'
    · have hfit:n * i.size+nv.length<=vs.size:=by
        rw[hnl,hvsz,<- aWQ];exact aXf _ hle
      have hst:=dE (P:=P) (off:=n * i.size) nv 0 w vs hh hn1 (by omega);have hst':(storeCells ((⟨b,0,none⟩:Addr).add (n * i.size)) nv).run P w=.ok () (if nv=[] then w else setB w b (dN vs (n * i.size) nv) T):=by
        rw[dG,aWZ];exact hst
      have hblk:∀ b',(OI.arr (some b) cap').blk=some b'->(OI.arr (some b) cap').blk=some b'\/b'=w.heap.size:=fun _ h=>.inl h
      have hfar:∀ b',b' < w.heap.size->(OI.arr (some b) cap').blk≠some b'->(if nv=[] then w else setB w b (dN vs (n * i.size) nv) T).heap[b']?=w.heap[b']?:=by
        intro b' _ hne;split
        · rfl
        · exact zC (fun e=>hne (by subst e;rfl))
      refine⟨_,if nv=[] then w else setB w b (dN vs (n * i.size) nv) T,.arr (some b) cap',cap',by rw[hra.1 hle];simp only[hst'];rfl,hle, ?_, ?_,.bld _ _ _ cap' (aWI (aG hgm))⟩
      · refine gA.setArr hi hgm (by simp) hblk hfar ?_ ?_ ?_ ?_<;>split<;>first | rfl | exact aWj _ | simp[setB]
      · refine dC.setArr hi hgm hblk hfar ⟨rfl,by rw[hlen'];exact hle,hes' hes,dN vs (n * i.size) nv,T, ?_,by rw[dH,hvsz], ?_⟩
        · split
          · rename_i h0;subst h0;exact hh
          · exact kA hh (dH _ _ _ _)
        · intro i' j e' d v h1 h2 h3
          rw[pZ] at h3;simp only[aW1] at h3;rcases Cu hn h1 with⟨a1,a2⟩ | ⟨a1,a2⟩
          · have hj:j < i.size:=by have:=aG h2;have:=hes _ (aWD a2);omega
            have:=gB a1 (aWj _) hj;rw[if_neg (by omega)] at h3;exact hr i' j e' d v a2 h2 h3
          · have hj:j < i.size:=by have:=aG h2;have:=hns _ (aWD a2);omega
            have h5:=gB (aG a2) (aWj _) hj;have h6:i' * i.size+j=n * i.size+((i' - n) * i.size+j):=by
              rw[<- Nat.add_assoc,<- aWQ];congr 2;omega
            rw[h6,if_pos ⟨by omega,by omega,by omega⟩,aXP] at h3;exact hnr _ j e' d v a2 h2 h3
    · obtain⟨c,rest,hc,hrl,hrun⟩:=hra.2 hle
      rw[hzs] at hrl;obtain⟨hE,hI,hR⟩:=fresh _ hgm (by simp) (vs.toList.take (n * i.size)) c rest (by simp;omega) hc hrl (fun i' j e' d v h1 h2 h3 h4=>by
        rw[aWH] at h4;split at h4
        · exact hr i' j e' d v h2 h3 (by simpa using h4)
        · cases h4) hes
      exact⟨_,_,_,c,hrun,hc,hE,hI,hR⟩
theorem Uu{oper:Oper}{size bytes:Nat}{zero:List Value}{s x:aH}(hc:aY P oper=some (.app size bytes zero s x)):
    ∃ t u e i z os ox,oper.op=.call { callee:=.builtin .append,args:=#[os,ox],argTypes:=#[t,u] }/\P.underlying t=some (.slice e)/\P.underlying u=some (.slice e)/\P.info? e=some i/\i.zero=some z/\
      z.cells.size=i.size/\0 < i.bytes/\size=i.size/\bytes=i.bytes/\s=aS os/\x=aS ox:=by
  have hk:=gI hc rfl;obtain⟨c,he⟩:=Kc (.inr (.inr (.inl hk)));obtain⟨dst,op,type,pos,after,guard⟩:=oper;obtain⟨callee,args,argTypes⟩:=c;simp only at he;subst he;simp only[cA] at hk;split at hk
  · simp[eY] at hk
  · simp[eY] at hk
  · simp only[aY,eG] at hc
    split at hc
    · rename_i t u os ox hts has
      have ha:args=#[os,ox]:=by rw[<- aXC];exact has
      have ht:argTypes=#[t,u]:=by rw[<- aXC];exact hts
      subst ha;subst ht;split at hc
      · rename_i e e' h1 h2
        split at hc
        · rename_i hee
          subst hee;cases h3:P.info? e with
          | none=>simp[h3] at hc
          | some i=>cases h4:i.zero with
            | none=>simp[h3,h4] at hc
            | some z=>
              simp only[h3,h4,aWr] at hc;split at hc
              · rename_i hz
                simp only[Option.some.injEq,AI.app.injEq] at hc;obtain⟨rfl,rfl,rfl,rfl,rfl⟩:=hc;exact⟨t,u,e,i,z,os,ox,rfl,h1,h2,h3,h4,hz.1,hz.2,rfl,rfl,rfl,rfl⟩
              · cases hc
        · cases hc
      · exfalso
        repeat' (first | (obtain⟨_,_,hc⟩:=hc) | split at hc | (simp only[aW5] at hc))
        all_goals first | (cases hc;done) | (injection hc with hc;cases hc;done)
      · cases hc
    · cases hc
  · simp[eY] at hk
  · simp[eY] at hk
  · simp[eY] at hk
theorem WR.app{size bytes id n cap:Nat}{zero:List Value}{s x:aH}{es news:List (List DC)}(hgd:iG G as o.guard)(ha:o.ai=.app size bytes zero s x)
    (hs0:aJ G as.sl s=.one (.bld id n)) (hb:aI as.hp id=.arr cap size es) (hn:n<=es.length) (hsrc:qA as.hp (aJ G as.sl x)=some news) (hns:∀ e∈news,e.length=size)
    (hub:(n+news.length) * bytes<=140737488355328)
    (h:∀ cap',n+news.length<=cap'->WR P G k rest Q ⟨aP (as.sl.map (bA (·==id))) o.dst (.one (.bld id (n+news.length))),(as.hp.map (cI (·==id))).set id (.arr cap' size (es.take n++news))⟩):
    WR P G k (o::rest) Q as:=by
  refine WR.step hgd (fun F γ a w oper hc hd hi hs hg hk=>?_)
  rw[ha] at hc;obtain⟨t,u,e,i,z,os,ox,hop,ht,hu,hin,hz,hzs,hby,rfl,rfl,rfl,rfl⟩:=Uu hc;have hsv:=cP (G:=G) hs hg os;rw[hs0] at hsv;have hsv':=X6 hsv;obtain⟨A,c,hxe,nv,hnl,hfc,hnr,hn1⟩:=aBw hsrc (cP hs hg ox) hi hns;have hxl:(Builtin.lenOf (a.eval ox)).run P w=.ok news.length w:=by rw[hxe];rfl
  obtain⟨r,w',x',cap',hrun,hcap,hE,hI,hR⟩:=Mv (k:=k) (ty:=oper.type) ht hu (.inl rfl) hin hz hzs hby hi hb hsv' hn hns hub nv hnl hfc hxl hnr hn1;obtain⟨dst,op,type,pos,after,guard⟩:=oper;simp only at hop;subst hop;refine .inl ⟨_,r,w',_,F,_, ?_,.inl rfl,h cap' hcap,hE,hI, ?_,by simpa using hk⟩
  · simp only at hrun
    simp[execOp,resolve,invoke,builtin,hrun]
  · exact (hs.kill (fun _ _ h=>h) (fun i' o h1 h2=>oX h2 h1)).put _ (.one _ _ hR)
theorem dC.nilp{hp:List aD}(size:Nat)(hi:dC F γ hp w):dC F (γ++[OI.arr none 0]) (hp++[.arr 0 size []]) w/\gA k F γ w F (γ++[OI.arr none 0]) w:=by
  have hext:∀ (id:Nat) (o:OI),γ[id]?=some o->(γ++[OI.arr none 0])[id]?=some o:=fun _ _ h=>bN h
  have hb:∀ i b,bX (γ++[OI.arr none 0]) i=some b->bX γ i=some b:=by
    intro i b h;obtain⟨y,hy,hyb⟩:=cQ h;rcases gC hy with h1 | ⟨_,rfl⟩
    · exact bJ h1 hyb
    · simp[OI.blk] at hyb
  refine⟨⟨hi.fz,by simp[hi.len],fun i j b h1 h2=>hi.nd i j b (hb i b h1) (hb j b h2),fun i b h=>hi.disj i b (hb i b h), ?_⟩,
    ⟨fun _ _ h=>h,rfl,rfl,rfl,aWj _,fun _ _ _=>rfl,fun _ _ h=>.inl h,fun i b h=>.inl ⟨i,hb i b h⟩,fun i _ b h=>hext _ _ h⟩⟩
  intro i o x h1 h2;rcases gC h2 with h3 | ⟨h3,rfl⟩
  · have hl:i < hp.length:=by rw[<- hi.len];exact aG h3
    rw[aWx hl] at h1;exact (hi.ok i o x h1 h3).ext (fun _ _ h=>h) hext (fun _ _=>rfl)
  · rw[h3,hi.len] at h1
    simp at h1;subst h1;exact⟨rfl,rfl,rfl⟩
theorem WR.appNil{size bytes:Nat}{zero:List Value}{s x:aH}{news:List (List DC)}(hgd:iG G as o.guard)(ha:o.ai=.app size bytes zero s x)
    (hs0:aJ G as.sl s=dD (.slice none 0 0)) (hsrc:qA as.hp (aJ G as.sl x)=some news) (hns:∀ e∈news,e.length=size)
    (hub:news.length * bytes<=140737488355328)
    (h:∀ cap',news.length<=cap'->WR P G k rest Q ⟨aP as.sl o.dst (.one (.bld as.hp.length news.length)),as.hp.map (cI (·==as.hp.length))++[.arr cap' size news]⟩):
    WR P G k (o::rest) Q as:=by
  refine WR.step hgd (fun F γ a w oper hc hd hi hs hg hk=>?_)
  rw[ha] at hc;obtain⟨t,u,e,i,z,os,ox,hop,ht,hu,hin,hz,hzs,hby,rfl,rfl,rfl,rfl⟩:=Uu hc;obtain⟨hi0,hE0⟩:=dC.nilp (k:=k) i.size hi;have hsv:=cP (G:=G) hs hg os;rw[hs0] at hsv;have hsv2:a.eval os=.slice none 0 0:=cM hsv;have hsv':RC F (γ++[OI.arr none 0]) (.bld as.hp.length 0) (a.eval os):=by
    rw[hsv2];exact .bldN _ 0 (by rw[<- hi.len];simp)
  obtain⟨A,c,hxe,nv,hnl,hfc,hnr,hn1⟩:=aBw hsrc (cP hs hg ox) hi hns;have hxl:(Builtin.lenOf (a.eval ox)).run P w=.ok news.length w:=by rw[hxe];rfl
  have hb:aI (as.hp++[aD.arr 0 i.size []]) as.hp.length=aD.arr 0 i.size []:=by simp[aI]
  obtain⟨r,w',x',cap',hrun,hcap,hE,hI,hR⟩:=Mv (k:=k) (ty:=oper.type) ht hu (.inl rfl) hin hz hzs hby hi0 hb hsv' (aWA _) hns (by simpa using hub) nv hnl hfc hxl hnr hn1;obtain⟨dst,op,type,pos,after,guard⟩:=oper;simp only at hop;subst hop;have e1:((as.hp++[aD.arr 0 i.size []]).map (cI (·==as.hp.length))).set as.hp.length (aD.arr cap' i.size (([]:List (List DC)).take 0++news))=as.hp.map (cI (·==as.hp.length))++[.arr cap' i.size news]:=by
    simp
  rw[e1] at hI;simp only[aWZ] at hR hcap;refine .inl ⟨_,r,w',_,F,_, ?_,.inl rfl,h cap' hcap,hE0.trans hE,hI, ?_,by simp;omega⟩
  · simp only at hrun
    simp[execOp,resolve,invoke,builtin,hrun]
  · refine (hs.ext (fun _ _ h=>h) (fun id o h1=>?_)).put _ (.one _ _ hR)
    have hlt:=aG h1;rw[aWz (by rw[<- hi.len];omega)];exact bN h1
theorem Ya{oper:Oper}{neg:Bool}{x:aH}(hc:aY P oper=some (.isnil false neg x)):
    ∃ t e ox u,oper.op=.binOp (if neg then .neq else .eql) t ox (.const (.slice none 0 0)) u/\P.underlying t=some (.slice e)/\x=aS ox:=by
  obtain⟨b,t,ox,y,u,he⟩:=aBv (gI hc rfl);simp only[aY,he,mZ] at hc;have key:∀ d,P.underlying t=some d->lA b d ox y=some (.isnil false neg x)->∃ t e ox u,oper.op=.binOp (if neg then .neq else .eql) t ox (.const (.slice none 0 0)) u/\P.underlying t=some (.slice e)/\x=aS ox:=by
    intro d hd h;unfold lA at h;split at h
    all_goals try (cases h;done)
    all_goals
      cases hk:Mp d y with
      | none=>simp[hk] at h
      | some p=>
        simp only[hk,aWi,Option.some.injEq,AI.isnil.injEq] at h;obtain⟨rfl,rfl,rfl⟩:=h;unfold Mp at hk;split at hk
        · exact⟨_,_,_,_,he,hd,rfl⟩
        · simp at hk
        · cases hk
  split at hc
  all_goals try (rename_i hu;exact key _ hu hc)
  all_goals (repeat' split at hc)<;>first | (cases hc;done) | (simp[Option.map_eq_some_iff] at hc;done)
theorem WR.isnil0{neg:Bool}{x:aH}(hgd:iG G as o.guard)(ha:o.ai=.isnil false neg x)(hx:aJ G as.sl x=.one (.dc (.slc [])))
    (h:∀ b,WR P G k rest Q ⟨aP as.sl o.dst (dD (.bool b)),as.hp⟩):WR P G k (o::rest) Q as:=by
  refine WR.step hgd (fun F γ a w oper hc hd hi hs hg hk=>?_)
  rw[ha] at hc;obtain⟨t,e,ox,u,hop,hu,rfl⟩:=Ya hc;have hxv:=cP (G:=G) hs hg ox;rw[hx] at hxv;have hval:∃ A n c,a.eval ox=.slice A n c:=by
    generalize a.eval ox=v at hxv;cases hxv with | one c _ hcc=>cases hcc with | dc d _ hd=>cases hd with
    | nil A c=>exact⟨_,_,_,rfl⟩
    | slc=>exact⟨_,_,_,rfl⟩
  obtain⟨A,n,c,hval⟩:=hval;obtain⟨dst,op,type,pos,after,guard⟩:=oper;simp only at hop;subst hop;have he:(Op.equal t (.slice A n c) (.slice none 0 0)).run P w=.ok A.isNone w:=by
    exact It 9999 hu
  refine .inl ⟨.value (.bool (A.isNone != neg)),.bool (A.isNone != neg),w,_,F,γ, ?_,.inl rfl,h _,gA.refl _ _ _ _,hi,(hs.put _ (bL rfl)),hk⟩;have hn0:a.eval (.const (.slice none 0 0))=.slice none 0 0:=rfl;cases neg<;>simp[execOp,hval,hn0,eqGuard,Go.binOp,he]
def Mw(es:List (List DC))(k n:Nat)(z:List DC):List (List DC):=es.take k++List.replicate n z++es.drop (k+n)
theorem aBx{es:List (List DC)}{k n:Nat}{z:List DC}(h:k+n<=es.length):(Mw es k n z).length=es.length:=by simp[Mw];omega
theorem Mx{es:List (List DC)}{k n:Nat}{z:List DC}(h:k+n<=es.length)(i:Nat):(Mw es k n z)[i]?=if k<=i/\i < k+n then some z else es[i]?:=by
  unfold Mw;by_cases c1:i < k
  · rw[aWv,aWx (by simp;omega),aWH,if_pos c1,if_neg (by omega)]
  · by_cases c2:i < k+n
    · rw[aWx (by simp;omega),aWB (by simp;omega),aXh,if_pos (by simp;omega),if_pos (by omega)]
    · rw[aWB (by simp;omega),if_neg (by omega),aWK]
      congr 1;simp;omega
theorem Kd{oper:Oper}{size:Nat}{zero:List Value}{x:aH}(hc:aY P oper=some (.clr size zero x)):
    ∃ t e i z ox,oper.op=.call ⟨.builtin .clear,#[ox],#[t]⟩/\P.underlying t=some (.slice e)/\P.info? e=some i/\i.zero=some z/\z.cells.size=i.size/\0 < i.size/\z.cells.toList.all is1=true/\size=i.size/\zero=z.cells.toList/\x=aS ox:=by
  obtain⟨c,he,hcal⟩:=aLk (gI hc rfl);obtain⟨dst,op,type,pos,after,guard⟩:=oper;obtain⟨callee,args,argTypes⟩:=c;simp only at he hcal;subst he;subst hcal;simp only[aY,eG] at hc;split at hc
  · rename_i t ox hts has
    have ha:args=#[ox]:=by rw[<- aXC];exact has
    have ht:argTypes=#[t]:=by rw[<- aXC];exact hts
    subst ha;subst ht;split at hc
    · rename_i e h1
      cases h3:P.info? e with
      | none=>simp[h3] at hc
      | some i=>cases h4:i.zero with
        | none=>simp[h3,h4] at hc
        | some z=>
          simp only[h3,h4,aWr] at hc;split at hc
          · rename_i hz
            simp only[Option.some.injEq,AI.clr.injEq] at hc;obtain⟨rfl,rfl,rfl⟩:=hc;exact⟨t,e,i,z,ox,rfl,h1,h3,h4,hz.1,hz.2.1,hz.2.2,rfl,rfl,rfl⟩
          · cases hc
    · cases hc
  · cases hc
theorem WR.clr{size id k0 n cap:Nat}{zero:List Value}{x:aH}{es:List (List DC)}(hgd:iG G as o.guard)(ha:o.ai=.clr size zero x)
    (hx:aJ G as.sl x=.one (.bls id k0 n size)\/(k0=0/\aJ G as.sl x=.one (.bld id n))) (hb:aI as.hp id=.arr cap size es) (hn:0 < n) (hle:k0+n<=es.length)
    (h:WR P G k rest Q ⟨aP as.sl o.dst (.tup []),as.hp.set id (.arr cap size (Mw es k0 n (zero.map DC.raw)))⟩):WR P G k (o::rest) Q as:=by
  refine WR.step hgd (fun F γ a w oper hc hd hi hs hg hk=>?_)
  rw[ha] at hc;obtain⟨t,e,i,z,ox,hop,hu,hin,hz,hzs,hsz,hz1,rfl,rfl,rfl⟩:=Kd hc;have hxv:=cP (G:=G) hs hg ox;have hval:∃ b cap' c,γ[id]?=some (.arr (some b) cap')/\a.eval ox=.slice (some ⟨b,k0 * i.size,none⟩) n c:=by
    rcases hx with hx | ⟨rfl,hx⟩
    · rw[hx] at hxv
      generalize a.eval ox=v at hxv;cases hxv with | one c _ hcc=>cases hcc with | bls _ _ _ _ b cap' c off hgm ho hcn=>
      have:=ho (by omega);subst this;rcases hgm with hgm | hgm
      · exact⟨b,cap',c,hgm,rfl⟩
      · exact absurd hgm (hi.noArr hb)
    · rw[hx] at hxv
      generalize a.eval ox=v at hxv;cases hxv with | one c _ hcc=>cases hcc with
      | bldN _ _ _=>omega
      | bld _ _ b cap' hgm=>exact⟨b,cap',cap',hgm,by simp⟩
  obtain⟨b,cap',c,hgm,hval⟩:=hval;obtain⟨hcap,hec,hes,ws,T,hh,hws,hwr⟩:=hi.arr hb hgm;have hzl:z.cells.toList.length=i.size:=by simpa using hzs
  have hze:(Builtin.zeroCells z.cells n).toList.length=n * i.size:=by simp[Builtin.zeroCells,hzs]
  have hzget:∀ q,q < n * i.size->(Builtin.zeroCells z.cells n).toList[q]?=some (z.cells[q % z.cells.size]!):=by
    intro q hq;simp[Builtin.zeroCells,hzs,hq]
  have hz1':∀ v∈(Builtin.zeroCells z.cells n).toList,is1 v=true:=by
    intro v hv;obtain⟨q,hq⟩:=aXB hv;have hlt:=aG hq;rw[hze] at hlt;rw[hzget q hlt] at hq;injection hq with hq
    subst hq;have hm:q % z.cells.size < z.cells.size:=Nat.mod_lt _ (by omega);rw[getElem!_pos z.cells _ hm];exact List.all_eq_true.1 hz1 _ (by simp)
  have hfit:k0 * i.size+(n * i.size)<=ws.size:=by
    rw[hws,<- aWQ];exact aXf _ (by omega)
  have hst:=dE (P:=P) (off:=k0 * i.size) (Builtin.zeroCells z.cells n).toList 0 w ws hh hz1' (by rw[hze];omega);have hne:(Builtin.zeroCells z.cells n).toList≠[]:=by
    intro e0;rw[e0] at hze;have:=Nat.mul_pos hn hsz;simp at hze;omega
  rw[if_neg hne] at hst;obtain⟨dst,op,type,pos,after,guard⟩:=oper;simp only at hop;subst hop;have hzv:(zeroValue e).run P w=.ok z w:=by simp[zeroValue,typeInfo,hin,hz]
  have hrun:(Builtin.clear_ #[t] type #[a.eval ox]).run P w=.ok (.tuple #[]) (setB w b (dN ws (k0 * i.size) (Builtin.zeroCells z.cells n).toList) T):=by
    obtain⟨m,rfl⟩:∃ m,n=m+1:=⟨n - 1,by omega⟩;rw[hval];simp[Builtin.clear_,run_underlying hu,hzv,hst]
  refine .inl ⟨.value (.tuple #[]),.tuple #[],setB w b (dN ws (k0 * i.size) (Builtin.zeroCells z.cells n).toList) T,_,F,γ, ?_,.inl rfl,h,gA.setB hi hgm rfl, ?_,(hs.put _ (.tup [] #[] rfl (fun i t v h=>by simp at h))),hk⟩
  · simp[execOp,resolve,invoke,builtin,hrun]
  · refine hi.setObj hgm rfl ⟨hcap,by rw[aBx hle];exact hec,fun q hq=>?_,_,T,kA hh (dH _ _ _ _),by rw[dH,hws],fun i' j e1 d v h1 h2 h3=>?_⟩
    · obtain⟨i',hi'⟩:=aXB hq
      rw[Mx hle] at hi';split at hi'
      · injection hi' with hi';rw[<- hi',aWf,hzl]
      · exact hes q (aWD hi')
    · rw[Mx hle] at h1
      rw[pZ] at h3;simp only[aW1,hze] at h3;split at h1
      · rename_i hc'
        injection h1 with h1;subst h1
        have hj:j < i.size:=by have:=aG h2;simpa[hzs] using this
        have h5:=gB (show i' - k0 < n by omega) (aWj _) hj;have h6:i' * i.size+j=k0 * i.size+((i' - k0) * i.size+j):=by
          rw[<- Nat.add_assoc,<- aWQ];congr 2;omega
        rw[h6,if_pos ⟨by omega,by omega,by omega⟩,aXP,hzget _ h5] at h3;injection h3 with h3
        subst h3;have hm:((i' - k0) * i.size+j) % z.cells.size=j:=by rw[hzs,aXm,Nat.mul_add_mod,aXd hj]
        rw[hm,getElem!_pos z.cells j (by omega)];rw[aWl] at h2;obtain⟨u,hu1,rfl⟩:=Option.map_eq_some_iff.1 h2;have:u=z.cells[j]'(by omega):=by
          have h7:z.cells.toList[j]?=some (z.cells[j]'(by omega)):=by simp[hzs,hj]
          rw[h7] at hu1;injection hu1 with hu1;exact hu1.symm
        subst this;exact .raw _ (List.all_eq_true.1 hz1 _ (by simp))
      · rename_i hc'
        have hj:j < i.size:=by have:=aG h2;have:=hes _ (aWD h1);omega
        rw[if_neg (by
          rintro⟨a1,a2,_⟩;rcases aXk i' k0 with c1 | c1
          · have:=gB c1 (aWj _) hj;omega
          · have h8:(k0+n) * i.size<=i' * i.size:=aXf _ (by omega)
            rw[aWQ] at h8;omega)] at h3
        exact hwr i' j e1 d v h1 h2 h3
theorem WR.clrB{id k0 n:Nat}{zv:Value}{x:aH}{cs:List aR}(hgd:iG G as o.guard)(ha:o.ai=.clr 1 [zv] x)
    (hx:aJ G as.sl x=.one (.bls id k0 n 1)\/(k0=0/\aJ G as.sl x=.one (.bld id n))) (hb:aI as.hp id=.box cs) (hn:0 < n) (hle:k0+n<=cs.length)
    (h:WR P G k rest Q ⟨aP as.sl o.dst (.tup []),as.hp.set id (.box (cO cs k0 (List.replicate n (cZ zv))))⟩):WR P G k (o::rest) Q as:=by
  refine WR.step hgd (fun F γ a w oper hc hd hi hs hg hk=>?_)
  rw[ha] at hc;obtain⟨t,e,i,z,ox,hop,hu,hin,hz,hzs,hsz,hz1,h1s,hzl,rfl⟩:=Kd hc;have hxv:=cP (G:=G) hs hg ox;have hval:∃ b c,γ[id]?=some (.box b)/\a.eval ox=.slice (some ⟨b,k0,none⟩) n c:=by
    rcases hx with hx | ⟨rfl,hx⟩
    · rw[hx] at hxv
      generalize a.eval ox=v at hxv;cases hxv with | one c _ hcc=>cases hcc with | bls _ _ _ _ b cap' c off hgm ho hcn=>
      have:=ho (by omega);rw[aW8] at this;subst this;rcases hgm with hgm | hgm
      · exact absurd hgm (hi.noBox hb)
      · exact⟨b,c,hgm,rfl⟩
    · rw[hx] at hxv
      generalize a.eval ox=v at hxv;cases hxv with | one c _ hcc=>cases hcc with
      | bldN _ _ _=>omega
      | bld _ _ b cap' hgm=>exact absurd hgm (hi.noBox hb)
  obtain⟨b,c,hgm,hval⟩:=hval;obtain⟨ws,T,hh,hws,hwr⟩:=hi.box hb hgm;have hzc:z.cells=#[zv]:=by rw[<- aXC];exact hzl.symm
  have hi1:is1 zv=true:=List.all_eq_true.1 hz1 zv (by rw[hzc];simp);have hzr:(Builtin.zeroCells z.cells n).toList=List.replicate n zv:=by
    apply aXH;intro q;by_cases hq:q < n
    · simp[Builtin.zeroCells,hzc,hq,aXh,Nat.mod_one]
    · simp[Builtin.zeroCells,hzc,hq,aXh]
  have hall:∀ v∈List.replicate n zv,is1 v=true:=fun v hv=>by rw[List.eq_of_mem_replicate hv];exact hi1
  have hst:=dE (P:=P) (off:=k0) (List.replicate n zv) 0 w ws hh hall (by rw[aWu];omega);have hne:List.replicate n zv≠[]:=by
    intro e0;have:=congrArg List.length e0;simp at this;omega
  rw[if_neg hne] at hst;obtain⟨dst,op,type,pos,after,guard⟩:=oper;simp only at hop;subst hop;have hzv:(zeroValue e).run P w=.ok z w:=by simp[zeroValue,typeInfo,hin,hz]
  have hrun:(Builtin.clear_ #[t] type #[a.eval ox]).run P w=.ok (.tuple #[]) (setB w b (dN ws k0 (List.replicate n zv)) T):=by
    obtain⟨m,rfl⟩:∃ m,n=m+1:=⟨n - 1,by omega⟩;rw[hval];rw[<- hzr] at hst ⊢;simp[Builtin.clear_,run_underlying hu,hzv,hst]
  refine .inl ⟨.value (.tuple #[]),.tuple #[],setB w b (dN ws k0 (List.replicate n zv)) T,_,F,γ, ?_,.inl rfl,h,gA.setB hi hgm rfl, ?_,(hs.put _ (.tup [] #[] rfl (fun i t v h=>by simp at h))),hk⟩
  · simp[execOp,resolve,invoke,builtin,hrun]
  · refine hi.setObj hgm rfl ?_
    have hrc:RCs F γ (List.replicate n (cZ zv)) (List.replicate n zv).toArray:=by
      refine⟨by simp,fun q c v h1 h2=>?_⟩
      simp only[aXM,aXh] at h1 h2;split at h1
      · injection h1 with h1
        rw[if_pos (by assumption)] at h2;injection h2 with h2
        subst h1;subst h2;exact .dc _ _ (.raw _ hi1)
      · cases h1
    have:=rE (off:=k0) hws hwr hrc (by simpa using hle);exact⟨_,T,kA hh (dH _ _ _ _),this.1,this.2⟩
theorem Yb{es:List (List DC)}{k:Nat}{z:List DC}:Mw es k 0 z=es:=by simp[Mw]
theorem zD{hp:List aD}{id:Nat}{ob:aD}(hb:aI hp id=ob)(hne:ob≠.dead):hp.set id ob=hp:=by
  unfold aI at hb;cases h:hp[id]? with
  | none=>rw[aWn,h] at hb;exact absurd hb.symm hne
  | some o=>
    rw[aWn,h] at hb;simp only[aWX] at hb;subst hb;obtain⟨hl,hh⟩:=List.getElem?_eq_some_iff.1 h;rw[<- hh];exact List.set_getElem_self hl
theorem WR.clr0{size id k0:Nat}{zero:List Value}{x:aH}(hgd:iG G as o.guard)(ha:o.ai=.clr size zero x)
    (hx:aJ G as.sl x=.one (.bls id k0 0 size)\/aJ G as.sl x=.one (.bld id 0))
    (h:WR P G k rest Q ⟨aP as.sl o.dst (.tup []),as.hp⟩):WR P G k (o::rest) Q as:=by
  refine WR.step hgd (fun F γ a w oper hc hd hi hs hg hk=>?_)
  rw[ha] at hc;obtain⟨t,e,i,z,ox,hop,hu,hin,hz,hzs,hsz,hz1,rfl,rfl,rfl⟩:=Kd hc;have hxv:=cP (G:=G) hs hg ox;have hval:∃ p c,a.eval ox=.slice p 0 c:=by
    rcases hx with hx | hx
    · rw[hx] at hxv
      generalize a.eval ox=v at hxv;cases hxv with | one c _ hcc=>cases hcc with | bls=>exact⟨_,_,rfl⟩
    · rw[hx] at hxv
      generalize a.eval ox=v at hxv;cases hxv with | one c _ hcc=>cases hcc<;>exact⟨_,_,rfl⟩
  obtain⟨p,c,hval⟩:=hval;obtain⟨dst,op,type,pos,after,guard⟩:=oper;simp only at hop;subst hop;have hrun:(Builtin.clear_ #[t] type #[a.eval ox]).run P w=.ok (.tuple #[]) w:=by
    rw[hval];cases p<;>simp[Builtin.clear_,run_underlying hu]
  refine .inl ⟨.value (.tuple #[]),.tuple #[],w,_,F,γ, ?_,.inl rfl,h,gA.refl _ _ _ _,hi,(hs.put _ (.tup [] #[] rfl (fun i t v h=>by simp at h))),hk⟩
  simp[execOp,resolve,invoke,builtin,hrun]
def dR(l:List UInt8):List aR:=l.map fun b=>cZ (.int .u8 b.toNat)
def fK(s:ByteArray):List (List DC):=s.data.toList.map fun b=>[DC.raw (.int .u8 b.toNat)]
theorem My{oper:Oper}{d x:aH}(hc:aY P oper=some (.cpys d x)):
    ∃ t u e od ox,oper.op=.call ⟨.builtin .copy,#[od,ox],#[t,u]⟩/\P.underlying t=some (.slice e)/\(P.info? e).map (·.size)=some 1/\d=aS od/\x=aS ox:=by
  obtain⟨c,he,hcal⟩:=aGd (gI hc rfl);obtain⟨dst,op,type,pos,after,guard⟩:=oper;obtain⟨callee,args,argTypes⟩:=c;simp only at he hcal;subst he;subst hcal;simp only[aY,eG] at hc;split at hc
  · rename_i t u od ox hts has
    have ha:args=#[od,ox]:=by rw[<- aXC];exact has
    have ht:argTypes=#[t,u]:=by rw[<- aXC];exact hts
    subst ha;subst ht;split at hc
    · rename_i e h1 h2
      split at hc
      · rename_i h3
        simp only[Option.some.injEq,AI.cpys.injEq] at hc;obtain⟨rfl,rfl⟩:=hc;exact⟨t,u,e,od,ox,rfl,h1,h3,rfl,rfl⟩
      · cases hc
    · cases hc
  · cases hc
theorem WR.cpys{id lo n:Nat}{d x:aH}{cs:List aR}{s:ByteArray}(hgd:iG G as o.guard)(ha:o.ai=.cpys d x)(hd0:aJ G as.sl d=.one (.bls id lo n 1))(hx:dA (aJ G as.sl x)=some s)
    (hb:aI as.hp id=.box cs) (hle:lo+n<=cs.length)
    (h:WR P G k rest Q ⟨aP as.sl o.dst (dD (.int .i64 (min s.size n:Nat))),as.hp.set id (.box (cO cs lo (dR (s.data.toList.take n))))⟩):WR P G k (o::rest) Q as:=by
  refine WR.step hgd (fun F γ a w oper hc hd hi hs hg hk=>?_)
  rw[ha] at hc;obtain⟨t,u,e,od,ox,hop,hu,hin,rfl,rfl⟩:=My hc;have hdv:=cP (G:=G) hs hg od;rw[hd0] at hdv;have hxv:=rB (cP (G:=G) hs hg ox) hx;obtain⟨b,c,off,hgm,hdval,hoff⟩:∃ b c off,γ[id]?=some (.box b)/\a.eval od=.slice (some ⟨b,off,none⟩) n c/\(n≠0->off=lo):=by
    generalize a.eval od=v at hdv;cases hdv with | one c _ hcc=>cases hcc with | bls _ _ _ _ b cap' c off hgm ho hcn=>
    rcases hgm with hgm | hgm
    · exact absurd hgm (hi.noBox hb)
    · exact⟨b,c,off,hgm,rfl,fun h=>by rw[ho h,aW8]⟩
  obtain⟨ws,T,hh,hws,hwr⟩:=hi.box hb hgm;obtain⟨dst,op,type,pos,after,guard⟩:=oper;simp only at hop;subst hop
  
  have hbl:((s.extract 0 (min s.size n)).data.map fun b=>Value.int .u8 b.toNat)=((s.data.toList.take n).map fun b=>Value.int .u8 b.toNat).toArray:=by
    apply Array.ext';simp only[Array.toList_map,ByteArray.data_extract,Array.toList_extract,List.extract_eq_take_drop,Nat.sub_zero,aW7];congr 1;rw[List.take_eq_take_iff];simp;omega
  have hsz:((s.data.toList.take n).map fun b=>Value.int .u8 b.toNat).length=min s.size n:=by simp[Nat.min_comm]
  have hinf:∃ inf,P.info? e=some inf/\inf.size=1:=by
    cases hi1:P.info? e with
    | none=>rw[hi1] at hin;cases hin
    | some inf=>rw[hi1] at hin;injection hin with hin;exact⟨inf,rfl,hin⟩
  obtain⟨inf,hin,hin1⟩:=hinf;have hrc:RCs F γ (dR (s.data.toList.take n)) ((s.data.toList.take n).map fun b=>Value.int .u8 b.toNat).toArray:=by
    refine⟨by simp[dR],fun q c v h1 h2=>?_⟩
    simp only[dR,aWl,aXM] at h1 h2;cases hq:(s.data.toList.take n)[q]? with
    | none=>rw[hq] at h1;cases h1
    | some bb=>
      rw[hq] at h1 h2;injection h1 with h1;injection h2 with h2
      subst h1;subst h2;exact .dc _ _ (.raw _ rfl)
  have hall:∀ v∈((s.data.toList.take n).map fun b=>Value.int .u8 b.toNat),is1 v=true:=fun v hv=>by
    obtain⟨q,_,rfl⟩:=List.mem_map.1 hv;rfl
  have hemp:((s.data.toList.take n).map fun b=>Value.int .u8 b.toNat)=[]->s.data.toList.take n=[]:=fun h0=>by simpa using h0
  have hn0:n=0->((s.data.toList.take n).map fun b=>Value.int .u8 b.toNat)=[]:=fun h0=>by subst h0;rfl
  have hbl2:List.take (min s.size n) (List.map (fun b=>Value.int .u8 b.toNat) s.data.toList)=((s.data.toList.take n).map fun b=>Value.int .u8 b.toNat):=by
    rw[aW2,List.take_eq_take_iff];simp;omega
  generalize ((s.data.toList.take n).map fun b=>Value.int .u8 b.toNat)=L at hbl hbl2 hsz hrc hall hemp hn0
  have hst:(storeCells ⟨b,off,none⟩ L).run P w=.ok () (if L=[] then w else setB w b (dN ws off L) T):=by
    by_cases h0:n=0
    · rw[hn0 h0];rfl
    · exact dE _ 0 w ws hh hall (by rw[hsz,hoff h0];omega)
  have hrun:(Builtin.copy_ #[t,u] type #[a.eval od,a.eval ox]).run P w=.ok (.int .i64 (min s.size n:Nat)) (if L=[] then w else setB w b (dN ws off L) T):=by
    have e1:Nat.min s.size n=min s.size n:=rfl;simp[Builtin.copy_,hdval,hxv,run_underlying hu,Builtin.lenOf,Builtin.firstCells,sizeOf,typeInfo,hin,hin1,hbl2,e1,hst,goInt]
  refine .inl ⟨.value (.int .i64 (min s.size n:Nat)),.int .i64 (min s.size n:Nat),(if L=[] then w else setB w b (dN ws off L) T),_,F,γ, ?_,.inl rfl,h, ?_, ?_,(hs.put _ (bL rfl)),hk⟩
  · simp[execOp,resolve,invoke,builtin,hrun]
  · split
    · exact gA.refl _ _ _ _
    · exact gA.setB hi hgm rfl
  · split
    · rename_i h0
      rw[hemp h0];have h2:cO cs lo (dR [])=cs:=by simp[dR,cO]
      rw[h2,zD hb (by simp)];exact hi
    · rename_i h0
      rw[hoff (fun e=>h0 (hn0 e))]
      refine hi.setObj hgm rfl ?_;have:=rE (off:=lo) hws hwr hrc (by
        have:(dR (s.data.toList.take n)).length<=n:=by simp[dR];omega
        omega)
      exact⟨_,T,kA hh (dH _ _ _ _),this.1,this.2⟩
theorem Mz{oper:Oper}{x:aH}(hc:aY P oper=some (.cvsb x)):
    ∃ s d e ox,oper.op=.convert s d ox/\P.underlying s=some .string/\P.underlying d=some (.slice e)/\P.underlying e=some (.int .u8)/\x=aS ox:=by
  obtain⟨s,d,ox,he⟩:=aGc (gI hc rfl);simp only[aY,he,lP] at hc;split at hc
  · cases hc
  · cases hc
  · split at hc<;>cases hc
  · rename_i e h1 h2
    split at hc
    · rename_i h3
      injection hc with hc
      injection hc with hc
      exact⟨s,d,e,ox,he,h1,h2,h3,hc.symm⟩
    · cases hc
  · cases hc
theorem WR.cvsb{x:aH}{s:ByteArray}(hgd:iG G as o.guard)(ha:o.ai=.cvsb x)(hx:dA (aJ G as.sl x)=some s)
    (h:WR P G k rest Q ⟨aP as.sl o.dst (.one (.dc (.slc (fK s)))),as.hp⟩):WR P G k (o::rest) Q as:=by
  refine WR.step hgd (fun F γ a w oper hc hd hi hs hg hk=>?_)
  rw[ha] at hc;obtain⟨src,dstT,e,ox,hop,hu1,hu2,hu3,rfl⟩:=Mz hc;have hxv:=rB (cP (G:=G) hs hg ox) hx;obtain⟨dst,op,type,pos,after,guard⟩:=oper;simp only at hop;subst hop;have hrun:=Lib.run_convert_string_bytes (P:=P) w src dstT e s hu1 hu2 hu3;have hold:=Lib.bytesWorld_at_old w e s;have hnew:=Lib.bytesWorld_at_new w e s;have hlenD:(fK s).length=s.size:=by simp[fK]
  let F':Fz:=fun b=>if b=w.heap.size then some (.cells (Lib.bytesCells w e s) e ((Lib.bytesCells w e s).size,(Lib.bytesCells w e s).size+1)) else F b
  have hFold:∀ b o,F b=some o->F' b=some o:=fun b o hb=>by
    have:=hi.fzlt hb;show (if b=w.heap.size then _ else F b)=some o
    rw[if_neg (by omega)];exact hb
  have hsub:F.sub F':=hFold;have hFnew:F' w.heap.size=some (.cells (Lib.bytesCells w e s) e ((Lib.bytesCells w e s).size,(Lib.bytesCells w e s).size+1)):=if_pos rfl;have hExt:gA k F γ w F' γ (Lib.bytesWorld w e s):=by
    refine⟨hsub,rfl,rfl,rfl,by rw[Lib.bytesWorld_size];omega,fun b hb _=>hold b hb,fun b o hb=>?_,fun i b hb=>.inl ⟨i,hb⟩,fun _ _ _ h=>h⟩
    by_cases hbe:b=w.heap.size
    · exact .inr (.inl (by omega))
    · have:F' b=F b:=if_neg hbe
      rw[this] at hb;exact .inl hb
  have hInv:dC F' γ as.hp (Lib.bytesWorld w e s):=by
    refine⟨fun b o hb=>?_,hi.len,hi.nd,fun i b hb=>?_,fun i ob x0 h1 h2=>?_⟩
    · by_cases hbe:b=w.heap.size
      · subst hbe;rw[hFnew] at hb;rw[hnew];exact hb
      · have:F' b=F b:=if_neg hbe
        rw[this] at hb;rw[hold b (hi.fzlt hb)];exact hi.fz b o hb
    · have:=hi.lt hb
      have e1:F' b=F b:=if_neg (by omega);rw[e1];exact hi.disj i b hb
    · have hok:=hi.ok i ob x0 h1 h2
      exact hok.ext hsub (fun _ _ h=>h) (fun b hb2=>hold b (hok.lt hb2))
  have hcapge:s.size<=grownCap w s.size 0 e:=by
    show s.size<=s.size+_;exact Nat.le_add_right _ _
  have hrd:RD F' (.slc (fK s)) (.slice (some ⟨w.heap.size,0,none⟩) s.size (grownCap w s.size 0 e)):=by
    rw[<- hlenD];refine .slc w.heap.size 0 _ 1 (fK s) (fun i _=>.int .u8 (s.data.toList.getD i 0).toNat) (fun q hq=>?_) (fun i j q d h1 h2=>?_) (fun i j q d h1 h2=>?_) (by rw[hlenD];exact hcapge)
    · simp only[fK,List.mem_map] at hq
      obtain⟨bb,_,rfl⟩:=hq;rfl
    · simp only[fK,aWl] at h1
      cases hq:s.data.toList[i]? with
      | none=>rw[hq] at h1;cases h1
      | some bb=>
        rw[hq] at h1;injection h1 with h1;subst h1
        cases j with
        | zero=>
          injection h2 with h2;subst h2
          rw[aWn,hq];exact .raw _ rfl
        | succ j=>simp at h2
    · have hj:j=0:=by
        simp only[fK,aWl] at h1;cases hq:s.data.toList[i]? with
        | none=>rw[hq] at h1;cases h1
        | some bb=>
          rw[hq] at h1;injection h1 with h1;subst h1
          cases j with
          | zero=>rfl
          | succ j=>simp at h2
      subst hj;have hilt:i < s.size:=by have:=aG h1;omega
      have hcell:=Lib.bytesWorld_cell w e s i hilt;simp only[Fz.cell?,hFnew,Option.isSome_none,aXx,if_false,aW8,aW1,aWZ];simpa[World.cell?,hnew] using hcell
  refine .inl ⟨.value (.slice (some ⟨w.heap.size,0,none⟩) s.size (grownCap w s.size 0 e)),_,_,_,F',γ, ?_,.inl rfl,h,hExt,hInv,((hs.ext hsub (fun _ _ h=>h)).put _ (.one _ _ (.dc _ _ hrd))),hk⟩
  simp[execOp,hxv,hrun]
theorem WR.cvsA{x:aH}{s:ByteArray}(hgd:iG G as o.guard)(ha:o.ai=.cvsb x)(hx:dA (aJ G as.sl x)=some s)
    (h:∀ cap,WR P G k rest Q ⟨aP as.sl o.dst (.one (.bld as.hp.length s.size)),as.hp++[.arr cap 1 (fK s)]⟩):WR P G k (o::rest) Q as:=by
  refine WR.step hgd (fun F γ a w oper hc hd hi hs hg hk=>?_)
  rw[ha] at hc;obtain⟨src,dstT,e,ox,hop,hu1,hu2,hu3,rfl⟩:=Mz hc;have hxv:=rB (cP (G:=G) hs hg ox) hx;obtain⟨dst,op,type,pos,after,guard⟩:=oper;simp only at hop;subst hop;have hrun:=Lib.run_convert_string_bytes (P:=P) w src dstT e s hu1 hu2 hu3;have hold:=Lib.bytesWorld_at_old w e s;have hnew:=Lib.bytesWorld_at_new w e s;have hlenD:(fK s).length=s.size:=by simp[fK]
  have hcap:s.size<=grownCap w s.size 0 e:=by
    show s.size<=s.size+_;exact Nat.le_add_right _ _
  have hbc:(Lib.bytesCells w e s).size=grownCap w s.size 0 e:=by
    simp[Lib.bytesCells];omega
  have hx':∀ b,(OI.arr (some w.heap.size) (grownCap w s.size 0 e)).blk=some b->b=w.heap.size:=fun b hb=>by simp[OI.blk] at hb;exact hb.symm
  have hE:gA k F γ w F (γ++[.arr (some w.heap.size) (grownCap w s.size 0 e)]) (Lib.bytesWorld w e s):=by
    refine⟨fun _ _ h=>h,rfl,rfl,rfl,by rw[Lib.bytesWorld_size];omega,fun b hb _=>hold b hb,fun _ _ h=>.inl h,fun i b h=>?_,fun i _ b h=>bN h⟩
    obtain⟨y,hy,hyb⟩:=cQ h;rcases gC hy with h1 | ⟨h1,rfl⟩
    · exact .inl ⟨i,bJ h1 hyb⟩
    · exact .inr (by rw[hx' b hyb];exact aWj _)
  have hI:dC F (γ++[.arr (some w.heap.size) (grownCap w s.size 0 e)]) (as.hp++[.arr (grownCap w s.size 0 e) 1 (fK s)]) (Lib.bytesWorld w e s):=by
    refine hi.pushG (fun b hb=>hold b hb) _ _ hx' ⟨rfl,by rw[hlenD];exact hcap,fun q hq=>?_,Lib.bytesCells w e s,e,⟨_,hnew,fun o ho=>by simp only;omega⟩,by rw[hbc,aW8],fun i j q d v h1 h2 h3=>?_⟩
    · simp only[fK,List.mem_map] at hq
      obtain⟨bb,_,rfl⟩:=hq;rfl
    · have hj:j=0:=by
        simp only[fK,aWl] at h1;cases hq:s.data.toList[i]? with
        | none=>rw[hq] at h1;cases h1
        | some bb=>
          rw[hq] at h1;injection h1 with h1;subst h1
          cases j with
          | zero=>rfl
          | succ j=>simp at h2
      subst hj;have hilt:i < s.size:=by have:=aG h1;omega
      have hcell:=Lib.bytesWorld_cell w e s i hilt;have h4:(Lib.bytesCells w e s)[i]?=some (.int .u8 (s.data.toList.getD i 0).toNat):=by
        simpa[World.cell?,hnew] using hcell
      rw[aW8,aW1,h4] at h3;injection h3 with h3
      subst h3;simp only[fK,aWl] at h1;cases hq:s.data.toList[i]? with
      | none=>rw[hq] at h1;cases h1
      | some bb=>
        rw[hq] at h1;injection h1 with h1;subst h1
        injection h2 with h2;subst h2
        rw[aWn,hq];exact .raw _ rfl
  have hS:bT F (γ++[.arr (some w.heap.size) (grownCap w s.size 0 e)]) (aP as.sl o.dst (.one (.bld as.hp.length s.size))) (a.put o.dst (.slice (some ⟨w.heap.size,0,none⟩) s.size (grownCap w s.size 0 e))):=by
    refine (hs.ext (fun _ _ h=>h) (fun _ _ h=>bN h)).put o.dst (.one _ _ (.bld _ _ _ _ ?_))
    rw[<- hi.len];simp
  refine .inl ⟨.value (.slice (some ⟨w.heap.size,0,none⟩) s.size (grownCap w s.size 0 e)),_,_,_,F,_, ?_,.inl rfl,h _,hE,hI,hS,by simp;omega⟩;simp[execOp,hxv,hrun]
def M0(es:List (List DC))(k:Nat)(l:List UInt8):List (List DC):=es.take k++(l.map fun b=>[DC.raw (.int .u8 b.toNat)])++es.drop (k+l.length)
theorem aBy{es:List (List DC)}{k:Nat}{l:List UInt8}(h:k+l.length<=es.length):(M0 es k l).length=es.length:=by simp[M0];omega
theorem M4{es:List (List DC)}{k:Nat}{l:List UInt8}(h:k+l.length<=es.length)(i:Nat):(M0 es k l)[i]?=if k<=i/\i < k+l.length then (l[i - k]?).map (fun b=>[DC.raw (.int .u8 b.toNat)]) else es[i]?:=by
  unfold M0;split
  · rename_i hc
    rw[aWv,aWB (by simp;omega),aWx (by simp;omega),aWl];simp only[aWm,aXD (show k<=es.length by omega)]
  · rename_i hc
    by_cases h1:i < k
    · rw[aWv,aWx (by simp;omega),aXQ h1]
    · rw[aWB (by simp;omega),aWK]
      congr 1;simp;omega
theorem M5{es:List (List DC)}{k:Nat}:M0 es k []=es:=by simp[M0]
theorem WR.cpyA{id lo n cap:Nat}{d x:aH}{es:List (List DC)}{s:ByteArray}(hgd:iG G as o.guard)(ha:o.ai=.cpys d x)(hd0:aJ G as.sl d=.one (.bls id lo n 1))(hx:dA (aJ G as.sl x)=some s)
    (hb:aI as.hp id=.arr cap 1 es) (hle:lo+n<=es.length)
    (h:WR P G k rest Q ⟨aP as.sl o.dst (dD (.int .i64 (min s.size n:Nat))),as.hp.set id (.arr cap 1 (M0 es lo (s.data.toList.take n)))⟩):WR P G k (o::rest) Q as:=by
  refine WR.step hgd (fun F γ a w oper hc hd hi hs hg hk=>?_)
  rw[ha] at hc;obtain⟨t,u,e,od,ox,hop,hu,hin,rfl,rfl⟩:=My hc;have hdv:=cP (G:=G) hs hg od;rw[hd0] at hdv;have hxv:=rB (cP (G:=G) hs hg ox) hx;by_cases hn0:n=0
  · subst hn0
    obtain⟨p,c,hdval⟩:∃ p c,a.eval od=.slice p 0 c:=by
      generalize a.eval od=v at hdv;cases hdv with | one c _ hcc=>cases hcc with | bls=>exact⟨_,_,rfl⟩
    obtain⟨dst,op,type,pos,after,guard⟩:=oper;simp only at hop;subst hop;have hinf:∃ inf,P.info? e=some inf/\inf.size=1:=by
      cases hi1:P.info? e with
      | none=>rw[hi1] at hin;cases hin
      | some inf=>rw[hi1] at hin;injection hin with hin;exact⟨inf,rfl,hin⟩
    obtain⟨inf,hin,hin1⟩:=hinf;have hrun:(Builtin.copy_ #[t,u] type #[a.eval od,a.eval ox]).run P w=.ok (.int .i64 (min s.size 0:Nat)) w:=by
      cases p<;>simp[Builtin.copy_,hdval,hxv,run_underlying hu,Builtin.lenOf,Builtin.firstCells,sizeOf,typeInfo,hin,hin1,goInt,storeCells]
    rw[aXq,M5,zD hb (by simp)] at h;refine .inl ⟨.value (.int .i64 (min s.size 0:Nat)),.int .i64 (min s.size 0:Nat),w,_,F,γ, ?_,.inl rfl,h,gA.refl _ _ _ _,hi,(hs.put _ (bL rfl)),hk⟩;simp[execOp,resolve,invoke,builtin,hrun]
  obtain⟨b,cap',c,hgm,hdval⟩:∃ b cap' c,γ[id]?=some (.arr (some b) cap')/\a.eval od=.slice (some ⟨b,lo,none⟩) n c:=by
    generalize a.eval od=v at hdv;cases hdv with | one c _ hcc=>cases hcc with | bls _ _ _ _ b cap' c off hgm ho hcn=>
    have:=ho (by omega);rw[aW8] at this;subst this;rcases hgm with hgm | hgm
    · exact⟨b,cap',c,hgm,rfl⟩
    · exact absurd hgm (hi.noArr hb)
  obtain⟨hcap,hec,hes,ws,T,hh,hws,hwr⟩:=hi.arr hb hgm;rw[aW8] at hws;obtain⟨dst,op,type,pos,after,guard⟩:=oper;simp only at hop;subst hop;have hsz:((s.data.toList.take n).map fun b=>Value.int .u8 b.toNat).length=min s.size n:=by simp[Nat.min_comm]
  have hinf:∃ inf,P.info? e=some inf/\inf.size=1:=by
    cases hi1:P.info? e with
    | none=>rw[hi1] at hin;cases hin
    | some inf=>rw[hi1] at hin;injection hin with hin;exact⟨inf,rfl,hin⟩
  obtain⟨inf,hin,hin1⟩:=hinf;have hall:∀ v∈((s.data.toList.take n).map fun b=>Value.int .u8 b.toNat),is1 v=true:=fun v hv=>by
    obtain⟨q,_,rfl⟩:=List.mem_map.1 hv;rfl
  have hLg:∀ q,((s.data.toList.take n).map fun b=>Value.int .u8 b.toNat)[q]?=((s.data.toList.take n)[q]?).map fun (b:UInt8)=>Value.int .u8 b.toNat:=fun q=>aWl
  have hemp:((s.data.toList.take n).map fun b=>Value.int .u8 b.toNat)=[]->s.data.toList.take n=[]:=fun h0=>by simpa using h0
  have hbl2:List.take (min s.size n) (List.map (fun b=>Value.int .u8 b.toNat) s.data.toList)=((s.data.toList.take n).map fun b=>Value.int .u8 b.toNat):=by
    rw[aW2,List.take_eq_take_iff];simp;omega
  have hlt:(s.data.toList.take n).length=min s.size n:=by simp[Nat.min_comm]
  generalize ((s.data.toList.take n).map fun b=>Value.int .u8 b.toNat)=L at hbl2 hsz hall hemp hLg
  have hst:=dE (P:=P) (off:=lo) L 0 w ws hh hall (by rw[hsz];omega);have hrun:(Builtin.copy_ #[t,u] type #[a.eval od,a.eval ox]).run P w=.ok (.int .i64 (min s.size n:Nat)) (if L=[] then w else setB w b (dN ws lo L) T):=by
    have e1:Nat.min s.size n=min s.size n:=rfl;simp[Builtin.copy_,hdval,hxv,run_underlying hu,Builtin.lenOf,Builtin.firstCells,sizeOf,typeInfo,hin,hin1,hbl2,e1,hst,goInt]
  refine .inl ⟨.value (.int .i64 (min s.size n:Nat)),.int .i64 (min s.size n:Nat),(if L=[] then w else setB w b (dN ws lo L) T),_,F,γ, ?_,.inl rfl,h, ?_, ?_,(hs.put _ (bL rfl)),hk⟩
  · simp[execOp,resolve,invoke,builtin,hrun]
  · split
    · exact gA.refl _ _ _ _
    · exact gA.setB hi hgm rfl
  · split
    · rename_i h0
      rw[hemp h0,M5,zD hb (by simp)];exact hi
    · rename_i h0
      have hfit:lo+(s.data.toList.take n).length<=es.length:=by omega
      refine hi.setObj hgm rfl ⟨hcap,by rw[aBy hfit];exact hec,fun q hq=>?_,_,T,kA hh (dH _ _ _ _),by rw[dH,hws,aW8],fun i' j e1 d v h1 h2 h3=>?_⟩
      · obtain⟨i',hi'⟩:=aXB hq
        rw[M4 hfit] at hi';split at hi'
        · obtain⟨bb,_,rfl⟩:=Option.map_eq_some_iff.1 hi';rfl
        · exact hes q (aWD hi')
      · rw[M4 hfit] at h1
        rw[pZ] at h3;simp only[aW1,aW8,hsz] at h3;split at h1
        · rename_i hc'
          obtain⟨bb,hb1,rfl⟩:=Option.map_eq_some_iff.1 h1;have hj:j=0:=by
            cases j with
            | zero=>rfl
            | succ j=>simp at h2
          subst hj;injection h2 with h2;subst h2
          rw[if_pos ⟨by omega,by omega,by omega⟩] at h3;rw[aW1,hLg,hb1] at h3;injection h3 with h3;subst h3
          exact .raw _ rfl
        · rename_i hc'
          have hj:j=0:=by
            have h8:=hes _ (aWD h1);have:=aG h2;omega
          subst hj;rw[aW1] at h3;rw[if_neg (by
            rintro⟨a1,a2,_⟩;omega)] at h3
          exact hwr i' 0 e1 d v h1 h2 (by rw[aW8,aW1];exact h3)
end
end
section
def lC(F:Fz)(γ:List OI)(args:List AV)(vs:Array Value):Prop:=vs.size=args.length/\∀ (i:Nat) av v,args[i]?=some av->vs[i]?=some v->RV F γ av v
def AC(P:Program)(G:aF)(f:FuncId)(args:List AV)(objs:List aD)(Q:AV->List aD->Prop):Prop:=
  ∀ F γ (vs:Array Value) w,dC F γ objs w->dS F G->lC F γ args vs->
    Calls P f vs w fun e w'=>∃ r av objs' F' γ',e=.returned r/\Q av objs'/\objs.length<=objs'.length/\gA objs.length F γ w F' γ' w'/\dC F' γ' objs' w'/\RV F' γ' av r
def QC(P:Program)(G:aF)(f:FuncId)(args:List AV)(r:AV):Prop:=AC P G f args [] fun av objs'=>av=r/\objs'=[]
mutual
def iV(ρ:Nat->Nat):aR->aR
  | .ptr id o=>.ptr (ρ id) o
  | .bld id n=>.bld (ρ id) n
  | .ept id i s o=>.ept (ρ id) i s o
  | .bls id l n s=>.bls (ρ id) l n s
  | .fn f caps=>.fn f (renL ρ caps)
  | .dc d=>.dc d
  | .ref cs=>.ref cs
  | .mpc es=>.mpc es
  | .junk=>.junk
def renL(ρ:Nat->Nat):List aR->List aR
  | []=>[]
  | c::cs=>iV ρ c::renL ρ cs
end
def Fa(ρ:Nat->Nat):TV->TV
  | .one c=>.one (iV ρ c)
  | .agg cs=>.agg (cs.map (iV ρ))
def dB(ρ:Nat->Nat):AV->AV
  | .one c=>.one (iV ρ c)
  | .agg cs=>.agg (cs.map (iV ρ))
  | .tup l=>.tup (l.map (Fa ρ))
  | .junk=>.junk
def dP(ρ:Nat->Nat):aD->aD
  | .box cs=>.box (cs.map (iV ρ))
  | o=>o
section
variable {P:Program} {G:aF} {k:Nat} {F F':Fz} {γ γ':List OI} {w w':World} {ρ:Nat->Nat}
theorem Fb:∀ (cs:List aR) (i:Nat),(renL ρ cs)[i]?=(cs[i]?).map (iV ρ)
  | [],i=>by simp[renL]
  | c::cs,0=>by simp[renL]
  | c::cs,i+1=>by simp[renL,Fb cs i]
theorem Fc:∀ (cs:List aR),(renL ρ cs).length=cs.length
  | []=>rfl
  | c::cs=>by simp[renL,Fc cs]
theorem RC.ren(hg:∀ (id:Nat) (o:OI),γ[id]?=some o->γ'[ρ id]?=some o){c:aR}{v:Value}(h:RC F γ c v):RC F γ' (iV ρ c) v:=by
  induction h with
  | dc d v h=>exact .dc d v h
  | ptr id off b h=>exact .ptr _ _ _ (hg _ _ h)
  | bldN id cap h=>exact .bldN _ _ (hg _ _ h)
  | bld id n b cap h=>exact .bld _ _ _ _ (hg _ _ h)
  | ept id i size off b cap h=>exact .ept _ _ _ _ _ _ (hg _ _ h)
  | bls id lo n size b cap c off h ho hc=>exact .bls _ _ _ _ _ _ _ _ (h.imp (hg _ _) (hg _ _)) ho hc
  | ref cs b off g hr hc=>exact .ref cs b off g hr hc
  | mpc es r clk ents h he h1=>exact .mpc es r clk ents h he h1
  | fn f caps g hr ih=>
    simp only[iV];rw[<- Fc (ρ:=ρ) caps];refine .fn f (renL ρ caps) g (fun i c hc=>?_)
    rw[Fb] at hc;cases hci:caps[i]? with
    | none=>simp[hci] at hc
    | some c0=>simp[hci] at hc;subst hc;exact ih i c0 hci
  | junk v h=>exact .junk v h
theorem RC.unren{c:aR}:∀ {v:Value},RC F γ (iV ρ c) v->(∀ (id:Nat) (o:OI),γ[ρ id]?=some o->γ'[id]?=some o)->RC F γ' c v:=by
  have key:∀ n,∀ c:aR,SizeOf.sizeOf c<=n->∀ {v:Value},RC F γ (iV ρ c) v->(∀ (id:Nat) (o:OI),γ[ρ id]?=some o->γ'[id]?=some o)->RC F γ' c v:=by
    intro n
    induction n with
    | zero=>intro c h;cases c<;>simp at h
    | succ n ih=>
      intro c hsz v h hg;cases c with
      | dc d=>cases h with | dc _ _ h=>exact .dc _ _ h
      | ptr id off=>cases h with | ptr _ _ b h=>exact .ptr _ _ _ (hg _ _ h)
      | bld id n=>cases h with
        | bldN _ cap h=>exact .bldN _ _ (hg _ _ h)
        | bld _ _ b cap h=>exact .bld _ _ _ _ (hg _ _ h)
      | ept id i size off=>cases h with | ept _ _ _ _ b cap h=>exact .ept _ _ _ _ _ _ (hg _ _ h)
      | bls id lo n size=>cases h with | bls _ _ _ _ b cap c off h ho hc=>exact .bls _ _ _ _ _ _ _ _ (h.imp (hg _ _) (hg _ _)) ho hc
      | ref cs=>cases h with | ref _ b off g hr hc=>exact .ref _ b off g hr hc
      | mpc es=>cases h with | mpc _ r clk ents h he h1=>exact .mpc es r clk ents h he h1
      | junk=>cases h with | junk _ h=>exact .junk _ h
      | fn f caps=>
        simp only[iV] at h;have hmem:∀ c∈caps,SizeOf.sizeOf c < SizeOf.sizeOf caps:=fun c hc=>List.sizeOf_lt_of_mem hc
        have hs':SizeOf.sizeOf caps<=n:=by simp at hsz;omega
        generalize hx:renL ρ caps=cs at h;cases h with
        | fn _ _ g hr=>
          have hl:cs.length=caps.length:=by rw[<- hx,Fc]
          rw[hl];refine .fn f caps g (fun i c hc=>?_)
          have h1:cs[i]?=some (iV ρ c):=by rw[<- hx,Fb,hc];rfl
          exact ih c (by have:=hmem c (aWD hc);omega) (hr i _ h1) hg
  intro v h hg;exact key _ c (aWj _) h hg
theorem RCs.renAll{cs:List aR}{vs:Array Value}(hg:∀ (id:Nat) (o:OI),γ[id]?=some o->γ'[ρ id]?=some o)(h:∀ (i:Nat) c v,cs[i]?=some c->vs[i]?=some v->RC F γ c v):
    ∀ (i:Nat) c v,(cs.map (iV ρ))[i]?=some c->vs[i]?=some v->RC F γ' c v:=by
  intro i c v hc hv;rw[aWl] at hc;cases hci:cs[i]? with
  | none=>simp[hci] at hc
  | some c0=>simp[hci] at hc;subst hc;exact (h i c0 v hci hv).ren hg
theorem RCs.unrenAll{cs:List aR}{vs:Array Value}(hg:∀ (id:Nat) (o:OI),γ[ρ id]?=some o->γ'[id]?=some o)(h:∀ (i:Nat) c v,(cs.map (iV ρ))[i]?=some c->vs[i]?=some v->RC F γ c v):
    ∀ (i:Nat) c v,cs[i]?=some c->vs[i]?=some v->RC F γ' c v:=by
  intro i c v hc hv;exact (h i (iV ρ c) v (by rw[aWl,hc];rfl) hv).unren hg
theorem RV.ren(hg:∀ (id:Nat) (o:OI),γ[id]?=some o->γ'[ρ id]?=some o){av:AV}{v:Value}(h:RV F γ av v):RV F γ' (dB ρ av) v:=by
  cases h with
  | one c v h=>exact .one _ _ (h.ren hg)
  | agg cs vs hs h=>exact .agg _ _ (by simpa using hs) (RCs.renAll hg h)
  | tup l vs hs h=>
    refine .tup _ _ (by simpa using hs) (fun i t v ht hv=>?_)
    rw[aWl] at ht;cases hti:l[i]? with
    | none=>simp[hti] at ht
    | some t0=>
      simp[hti] at ht;subst ht;cases h i t0 v hti hv with
      | one c v h=>exact .one _ _ (h.ren hg)
      | agg cs vs hs h=>exact .agg _ _ (by simpa using hs) (RCs.renAll hg h)
  | junk v=>exact .junk v
theorem RV.unren(hg:∀ (id:Nat) (o:OI),γ[ρ id]?=some o->γ'[id]?=some o){av:AV}{v:Value}(h:RV F γ (dB ρ av) v):RV F γ' av v:=by
  cases av with
  | one c=>cases h with | one _ _ h=>exact .one _ _ (h.unren hg)
  | agg cs=>cases h with | agg _ vs hs h=>exact .agg _ _ (by simpa using hs) (RCs.unrenAll hg h)
  | junk=>exact .junk _
  | tup l=>
    cases h with
    | tup _ vs hs h=>
      refine .tup _ _ (by simpa using hs) (fun i t v ht hv=>?_)
      have:=h i (Fa ρ t) v (by rw[aWl,ht];rfl) hv;cases t with
      | one c=>cases this with | one _ _ h=>exact .one _ _ (h.unren hg)
      | agg cs=>cases this with | agg _ vs hs h=>exact .agg _ _ (by simpa using hs) (RCs.unrenAll hg h)
theorem OK.ren{o:aD}{x:OI}(hg:∀ (id:Nat) (o:OI),γ[id]?=some o->γ'[ρ id]?=some o)(h:OK F γ w o x):OK F γ' w (dP ρ o) x:=by
  cases o with
  | box cs=>
    cases x with
    | box b=>obtain⟨vs,T,h1,h2,h3⟩:=h;exact⟨vs,T,h1,by simpa using h2,RCs.renAll hg h3⟩
    | arr b c=>exact h.elim
    | dead=>exact h.elim
  | arr cap size es=>cases x with
    | box b=>exact h.elim
    | arr b c=>cases b with
      | none=>exact h
      | some b=>exact h
    | dead=>exact h.elim
  | dead=>cases x<;>exact h
theorem OK.unren{o:aD}{x:OI}(hg:∀ (id:Nat) (o:OI),γ[ρ id]?=some o->γ'[id]?=some o)(h:OK F γ w (dP ρ o) x):OK F γ' w o x:=by
  cases o with
  | box cs=>
    cases x with
    | box b=>obtain⟨vs,T,h1,h2,h3⟩:=h;exact⟨vs,T,h1,by simpa using h2,RCs.unrenAll hg h3⟩
    | arr b c=>exact h.elim
    | dead=>exact h.elim
  | arr cap size es=>cases x with
    | box b=>exact h.elim
    | arr b c=>cases b with
      | none=>exact h
      | some b=>exact h
    | dead=>exact h.elim
  | dead=>cases x<;>exact h
end
end
section
def cG(J:List Nat)(n:Nat)(t:Nat):Nat:=match J[t]? with | some j=>j | none=>n+(t - J.length)
def jT{α:Type}:List Nat->List α->List α->List α
  | j::J,x::xs,l=>jT J xs (l.set j x)
  | _,_,l=>l
def gQ:aD->Bool
  | .box _=>true
  | _=>false
section
variable {α:Type}
theorem fR:∀ (J:List Nat) (xs l:List α),(jT J xs l).length=l.length
  | [],_,l=>by simp[jT]
  | j::J,[],l=>by simp[jT]
  | j::J,x::xs,l=>by simp[jT,fR J xs]
theorem rH:∀ (J:List Nat) (xs l:List α) (i:Nat),i∉J->(jT J xs l)[i]?=l[i]?
  | [],_,l,i,_=>by simp[jT]
  | j::J,[],l,i,_=>by simp[jT]
  | j::J,x::xs,l,i,h=>by
    simp only[jT];rw[rH J xs _ i (fun hm=>h (aWG _ hm)),aWz (fun e=>h (by subst e;exact aWy))]
theorem zE:∀ (J:List Nat) (xs l:List α) (t j:Nat) (x:α),J.Nodup->J[t]?=some j->xs[t]?=some x->j < l.length->(jT J xs l)[j]?=some x
  | [],_,l,t,j,x,_,h,_,_=>by simp at h
  | j0::J,[],l,t,j,x,_,_,h,_=>by simp at h
  | j0::J,x0::xs,l,t,j,x,hn,hj,hx,hl=>by
    simp only[jT];rw[List.nodup_cons] at hn;cases t with
    | zero=>
      simp at hj hx;subst hj;subst hx;rw[rH J xs _ j0 hn.1,aWI hl]
    | succ t=>exact zE J xs _ t j x hn.2 (by simpa using hj) (by simpa using hx) (by simpa using hl)
end
theorem Yc{J:List Nat}(h:J.Nodup){s t j:Nat}(hs:J[s]?=some j)(ht:J[t]?=some j):s=t:=by
  have h1:=aG hs;have h2:=aG ht;have e1:=(List.getElem?_eq_some_iff.1 hs).2;have e2:=(List.getElem?_eq_some_iff.1 ht).2;exact (List.getElem_inj h).1 (e1.trans e2.symm)
section
variable {P:Program} {G:aF} {k:Nat} {F:Fz} {γ:List OI} {w:World} {as:AS} {a:Act}
theorem Iw{f:FuncId}{cargs:List AV}{objs:List aD}{J:List Nat}{Qc:AV->List aD->Prop}(hac:AC P G f cargs objs Qc)(hJ:J.Nodup)(hlen:objs.length=J.length)
    (hobj:∀ (t j:Nat) o,J[t]?=some j->objs[t]?=some o->as.hp[j]?=some (dP (cG J as.hp.length) o))
    (hi:dC F γ as.hp w) (hs:bT F γ as.sl a) (hg:dS F G) (hk:k<=γ.length) {vs:Array Value} (hv:lC F γ (cargs.map (dB (cG J as.hp.length))) vs):
    Calls P f vs w fun e w'=>∃ r av objs',e=.returned r/\Qc av objs'/\∃ F' γ',gA k F γ w F' γ' w'/\
      dC F' γ' (jT J (objs'.map (dP (cG J as.hp.length))) (as.hp.map (cI fun id=>J.contains id&&!gQ (aI as.hp id)))++(objs'.drop J.length).map (dP (cG J as.hp.length))) w'/\
      bT F' γ' (as.sl.map (bA fun id=>J.contains id&&!gQ (aI as.hp id))) a/\RV F' γ' (dB (cG J as.hp.length) av) r/\k<=γ'.length:=by
  generalize hρ:cG J as.hp.length=ρ at *;have ρ1:∀ (t j:Nat),J[t]?=some j->ρ t=j:=fun t j h=>by rw[<- hρ];simp[cG,h]
  have ρ2:∀ t,J.length<=t->ρ t=as.hp.length+(t - J.length):=fun t h=>by rw[<- hρ];simp[cG,aXb h]
  
  have hJlt:∀ (t j:Nat),J[t]?=some j->j < as.hp.length:=by
    intro t j h;have ht:t < objs.length:=hlen ▸ aG h;exact aG (hobj t j _ h (aWo ht))
  let γe:List OI:=J.map fun j=>γ.getD j .dead
  have ge:∀ (t j:Nat),J[t]?=some j->γe[t]?=γ[j]?:=by
    intro t j h;have hj:j < γ.length:=by rw[hi.len];exact hJlt t j h
    simp[γe,h,aWn,aWo hj]
  have geN:∀ (t:Nat),J.length<=t->γe[t]?=none:=fun t h=>aXb (by simpa[γe] using h)
  have hback:∀ (id:Nat) (o:OI),γ[ρ id]?=some o->γe[id]?=some o:=by
    intro id o h;by_cases hid:id < J.length
    · have hj:J[id]?=some (J[id]'hid):=aWo hid
      rw[ρ1 _ _ hj] at h;rw[ge _ _ hj];exact h
    · rw[ρ2 id (by omega)] at h
      rw[aXb (by rw[hi.len];omega)] at h;cases h
  have be:∀ t b,bX γe t=some b->∃ j,J[t]?=some j/\bX γ j=some b:=by
    intro t b h;obtain⟨y,hy,hyb⟩:=cQ h;have ht:t < J.length:=by have:=aG hy;simpa[γe] using this
    have hj:J[t]?=some (J[t]'ht):=aWo ht;rw[ge _ _ hj] at hy;exact⟨_,hj,bJ hy hyb⟩
  have hie:dC F γe objs w:=by
    refine⟨hi.fz,by simp[γe,hlen], ?_, ?_, ?_⟩
    · intro s t b h1 h2
      obtain⟨j1,hj1,hb1⟩:=be s b h1;obtain⟨j2,hj2,hb2⟩:=be t b h2;have:=hi.nd _ _ _ hb1 hb2;subst this;exact Yc hJ hj1 hj2
    · intro t b h
      obtain⟨j,_,hb⟩:=be t b h;exact hi.disj j b hb
    · intro t o x h1 h2
      have ht:t < J.length:=by have:=aG h2;simpa[γe] using this
      have hj:J[t]?=some (J[t]'ht):=aWo ht;rw[ge _ _ hj] at h2;exact (hi.ok _ _ x (hobj t _ o hj h1) h2).unren hback
  have hve:lC F γe cargs vs:=by
    refine⟨by simpa using hv.1,fun i av v h1 h2=>?_⟩
    exact (hv.2 i (dB ρ av) v (by rw[aWl,h1];rfl) h2).unren hback
  refine (hac F γe vs w hie hg hve).mono ?_;rintro e w' ⟨r,av,objs',F',γ',rfl,hq,hlo,hE,hI,hR⟩;refine⟨r,av,objs',rfl,hq,F',jT J γ' γ++γ'.drop J.length, ?_⟩;have hγl:γ'.length=objs'.length:=hI.len
  
  have hfwd:∀ (id:Nat) (o:OI),γ'[id]?=some o->(jT J γ' γ++γ'.drop J.length)[ρ id]?=some o:=by
    intro id o h;by_cases hid:id < J.length
    · have hj:J[id]?=some (J[id]'hid):=aWo hid
      rw[ρ1 _ _ hj];have hjl:J[id]'hid < γ.length:=by rw[hi.len];exact hJlt _ _ hj
      exact bN (zE J γ' γ id _ o hJ hj h hjl)
    · rw[ρ2 id (by omega),aWB (by rw[fR,hi.len];omega),fR,hi.len,aXP,aWK]
      rw[show J.length+(id - J.length)=id by omega];exact h
  have hold:∀ (i:Nat) (o:OI),i∉J->γ[i]?=some o->(jT J γ' γ++γ'.drop J.length)[i]?=some o:=fun i o hn h=>bN (by rw[rH J γ' γ i hn];exact h)
  have hkeep:∀ (id:Nat) (o:OI),(J.contains id&&!gQ (aI as.hp id))=false->γ[id]?=some o->(jT J γ' γ++γ'.drop J.length)[id]?=some o:=by
    intro id o hp h;by_cases hm:id∈J
    · simp only[Bool.and_eq_false_iff,List.contains_eq_mem,decide_eq_false_iff_not,Bool.not_eq_false'] at hp
      rcases hp with hp | hp
      · exact absurd hm hp
      · obtain⟨t,ht⟩:=aXB hm
        have hl:id < as.hp.length:=by rw[<- hi.len];exact aG h
        have hgd:as.hp[id]?=some (aI as.hp id):=by simp[aI,aWn,aWo hl]
        have hok:=hi.ok id _ o hgd h;cases hob:aI as.hp id with
        | box cs=>
          rw[hob] at hok;cases o with
          | box b=>
            have htl:=aG ht;have:=hE.box t (by omega) b (by rw[ge _ _ ht];exact h);have h2:=hfwd t _ this;rwa[ρ1 _ _ ht] at h2
          | arr b c=>exact hok.elim
          | dead=>exact hok.elim
        | arr _ _ _=>rw[hob] at hp;simp[gQ] at hp
        | dead=>rw[hob] at hp;simp[gQ] at hp
    · exact hold id o hm h
  
  have hnew:∀ i b,bX (jT J γ' γ++γ'.drop J.length) i=some b->(i∉J/\bX γ i=some b)\/(∃ t,ρ t=i/\bX γ' t=some b):=by
    intro i b h;obtain⟨y,hy,hyb⟩:=cQ h;by_cases hil:i < γ.length
    · rw[aWx (by rw[fR];exact hil)] at hy
      by_cases hm:i∈J
      · obtain⟨t,ht⟩:=aXB hm
        have htl:=aG ht;have htγ:t < γ'.length:=by omega
        have h2:=zE J γ' γ t i _ hJ ht (aWo htγ) hil;rw[h2] at hy;injection hy with hy
        subst hy;exact .inr ⟨t,ρ1 _ _ ht,bJ (aWo htγ) hyb⟩
      · rw[rH J γ' γ i hm] at hy
        exact .inl ⟨hm,bJ hy hyb⟩
    · rw[aWB (by rw[fR];omega),fR,aWK] at hy
      refine .inr ⟨J.length+(i - γ.length), ?_,bJ hy hyb⟩;rw[ρ2 _ (by omega),<- hi.len];omega
  have hlt':∀ t b,bX γ' t=some b->(∃ j,j∈J/\bX γ j=some b)\/w.heap.size<=b:=by
    intro t b h;rcases hE.blk t b h with⟨s,hs'⟩ | h
    · obtain⟨j,hj,hb⟩:=be s b hs'
      exact .inl ⟨j,aWD hj,hb⟩
    · exact .inr h
  have hfar:∀ i b,i∉J->bX γ i=some b->w'.heap[b]?=w.heap[b]?:=by
    intro i b hn hb;refine hE.far b (hi.lt hb) (fun t ht=>?_)
    obtain⟨j,hj,hjb⟩:=be t b ht;exact hn (by rw[hi.nd _ _ _ hb hjb];exact aWD hj)
  have hρinj:∀ s t b,bX γ' s=some b->bX γ' t=some b->ρ s=ρ t:=fun s t b h1 h2=>by rw[hI.nd _ _ _ h1 h2]
  refine⟨?_, ?_,hs.kill hE.sub hkeep,hR.ren hfwd,by simp[fR];omega⟩
  · refine⟨hE.sub,hE.os,hE.tape,hE.output,hE.size,fun b hb hn=>?_,fun b o h=>?_,fun i b h=>?_,fun i hik b h=>?_⟩
    · exact hE.far b hb (fun t ht=>by obtain⟨j,_,hjb⟩:=be t b ht;exact hn j hjb)
    · rcases hE.new b o h with h | h | ⟨t,ht⟩
      · exact .inl h
      · exact .inr (.inl h)
      · obtain⟨j,_,hjb⟩:=be t b ht;exact .inr (.inr ⟨j,hjb⟩)
    · rcases hnew i b h with⟨_,h⟩ | ⟨t,_,h⟩
      · exact .inl ⟨i,h⟩
      · rcases hlt' t b h with⟨j,_,h⟩ | h
        · exact .inl ⟨j,h⟩
        · exact .inr h
    · have hl:i < as.hp.length:=by rw[<- hi.len];exact aG h
      have hgd:as.hp[i]?=some (aI as.hp i):=by simp[aI,aWn,aWo hl]
      have hok:=hi.ok i _ _ hgd h;refine hkeep i _ ?_ h;cases hob:aI as.hp i with
      | box cs=>simp[gQ]
      | arr _ _ _=>rw[hob] at hok;exact hok.elim
      | dead=>rw[hob] at hok;exact hok.elim
  · refine⟨hI.fz,by simp[fR,hi.len,hγl], ?_, ?_, ?_⟩
    · intro i j b h1 h2
      rcases hnew i b h1 with⟨a1,a2⟩ | ⟨t,a1,a2⟩<;>rcases hnew j b h2 with⟨c1,c2⟩ | ⟨s,c1,c2⟩
      · exact hi.nd _ _ _ a2 c2
      · exfalso
        rcases hlt' s b c2 with⟨j',hj',hb'⟩ | h
        · exact a1 (by rw[hi.nd _ _ _ a2 hb'];exact hj')
        · have:=hi.lt a2;omega
      · exfalso
        rcases hlt' t b a2 with⟨j',hj',hb'⟩ | h
        · exact c1 (by rw[hi.nd _ _ _ c2 hb'];exact hj')
        · have:=hi.lt c2;omega
      · rw[<- a1,<- c1];exact hρinj _ _ _ a2 c2
    · intro i b h
      rcases hnew i b h with⟨a1,a2⟩ | ⟨t,_,a2⟩
      · cases hF:F' b with
        | none=>rfl
        | some o=>
          exfalso;rcases hE.new b o hF with h | h | ⟨t,ht⟩
          · rw[hi.disj i b a2] at h;cases h
          · have:=hi.lt a2;omega
          · obtain⟨j,hj,hjb⟩:=be t b ht
            exact a1 (by rw[hi.nd _ _ _ a2 hjb];exact aWD hj)
      · exact hI.disj t b a2
    · intro i o x h1 h2
      by_cases hil:i < γ.length
      · rw[aWx (by rw[fR];exact hil)] at h2
        rw[aWx (by rw[fR,aWf,<- hi.len];exact hil)] at h1;by_cases hm:i∈J
        · obtain⟨t,ht⟩:=aXB hm
          have htl:=aG ht;have htγ:t < γ'.length:=by omega
          have hto:t < objs'.length:=by omega
          rw[zE J γ' γ t i _ hJ ht (aWo htγ) hil] at h2;rw[zE J _ _ t i (dP ρ (objs'[t]'hto)) hJ ht (by rw[aWl,aWo hto];rfl) (by rw[aWf,<- hi.len];exact hil)] at h1;injection h1 with h1;injection h2 with h2;subst h1;subst h2
          exact (hI.ok t _ _ (aWo hto) (aWo htγ)).ren hfwd
        · rw[rH J _ _ i hm] at h1 h2
          rw[aWl] at h1;cases ho:as.hp[i]? with
          | none=>simp[ho] at h1
          | some o0=>
            simp only[ho,aWi,Option.some.injEq] at h1;subst h1;exact (hi.ok i o0 x ho h2).kill hE.sub hkeep (fun b hb=>hfar i b hm (bJ h2 hb))
      · rw[aWB (by rw[fR];omega),fR,aWK] at h2
        rw[aWB (by rw[fR,aWf,<- hi.len];omega),fR,aWf,<- hi.len,aWl,aWK] at h1;cases ho:objs'[J.length+(i - γ.length)]? with
        | none=>simp[ho] at h1
        | some o0=>
          simp[ho] at h1;subst h1;exact (hI.ok _ o0 x ho h2).ren hfwd
end
end
section
theorem uM{p:Nat->Bool}(hp:∀ id,p id=false)(c:aR):cE p c=c:=by
  have:p=fun _=>false:=funext hp
  subst this;simp[cE,aR.keep_none]
theorem Rl{p:Nat->Bool}(hp:∀ id,p id=false)(t:TV):qZ p t=t:=by
  cases t<;>simp[qZ,uM hp,List.map_id'']
theorem Rm{p:Nat->Bool}(hp:∀ id,p id=false)(v:AV):bA p v=v:=by
  cases v<;>simp[bA,uM hp,Rl hp,List.map_id'']
theorem Rn{p:Nat->Bool}(hp:∀ id,p id=false)(o:aD):cI p o=o:=by
  cases o<;>simp[cI,uM hp,List.map_id'']
theorem pD{p:Nat->Bool}(hp:∀ id,p id=false)(l:List AV):l.map (bA p)=l:=by simp[Rm hp,List.map_id'']
theorem pE{p:Nat->Bool}(hp:∀ id,p id=false)(l:List aD):l.map (cI p)=l:=by simp[Rn hp,List.map_id'']
def Uv(P:Program)(f:FuncId):Bool:=
  match P.funcs[f]? with
  | some fn=>!(fn.name=="runtime.NumGoroutine"||fn.body.isNone)
  | none=>false
section
variable {P:Program} {G:aF} {k:Nat} {Q:AS->Prop} {as as':AS} {o:aM} {rest ops:List aM} {F:Fz} {γ:List OI} {w:World} {a:Act}
theorem kK{f:FuncId}(h:Uv P f=true)(args:Array Value):(callFunc f args).run P w=.ok (.enter f args) w:=by
  unfold Uv at h;cases hf:P.funcs[f]? with
  | none=>simp[hf] at h
  | some fn=>
    simp only[hf,aXg,Bool.or_eq_false_iff] at h;obtain⟨h1,h2⟩:=h;have h1':¬ fn.name="runtime.NumGoroutine":=by simpa using h1
    have h2':¬ fn.body=none:=by intro h;simp[h] at h2
    simp[callFunc,hf,h1',h2']
theorem zF{oper:Oper}{f:FuncId}{args:List aH}(hc:aY P oper=some (.call f args)):
    ∃ c,oper.op=.call c/\c.callee=.value (.func f)/\args=c.args.toList.map aS/\Uv P f=true:=by
  have hk:=gI hc rfl;obtain⟨c,he⟩:=Kc (.inl hk);obtain⟨dst,op,type,pos,after,guard⟩:=oper;obtain⟨callee,cargs,argTypes⟩:=c;simp only at he;subst he;simp only[cA] at hk;split at hk
  · rename_i f'
    simp only[aY,eG] at hc;cases hf:P.funcs[f']? with
    | none=>simp[hf] at hc
    | some fn=>
      simp only[hf] at hc;split at hc
      · cases hc
      · rename_i hcond
        simp only[Option.some.injEq,AI.call.injEq] at hc;obtain⟨rfl,rfl⟩:=hc;exact⟨_,rfl,rfl,rfl,by simp only[Uv,hf,aXg];exact aXA.2 hcond⟩
  · simp[eY] at hk
  · simp[eY] at hk
  · simp[eY] at hk
  · simp[eY] at hk
  · simp[eY] at hk
theorem Yd{oper:Oper}{x:aH}{args:List aH}(hc:aY P oper=some (.callv x args)):
    ∃ c t,oper.op=.call c/\c.callee=.value (.tmp t)/\args=c.args.toList.map aS/\x=.t t:=by
  have hk:=gI hc rfl;obtain⟨c,he⟩:=Kc (.inr (.inl hk));obtain⟨dst,op,type,pos,after,guard⟩:=oper;obtain⟨callee,cargs,argTypes⟩:=c;simp only at he;subst he;simp only[cA] at hk;split at hk
  · simp[eY] at hk
  · rename_i f' hne
    cases f' with
    | tmp t=>
      simp only[aY,eG,Option.some.injEq,AI.callv.injEq] at hc;obtain⟨rfl,rfl⟩:=hc;exact⟨_,t,rfl,rfl,rfl,rfl⟩
    | const v=>simp[aY,eG] at hc
    | global g=>simp[aY,eG] at hc
    | func f=>exact absurd rfl (hne f)
  · simp[eY] at hk
  · simp[eY] at hk
  · simp[eY] at hk
  · simp[eY] at hk
theorem zG(hs:bT F γ as.sl a)(hg:dS F G)(xs:Array Operand):lC F γ ((xs.toList.map aS).map (aJ G as.sl)) (xs.map a.eval):=by
  refine⟨by simp,fun i av v h1 h2=>?_⟩
  simp only[aWE,aWl,Array.getElem?_map,aXa] at h1 h2;cases hx:xs[i]? with
  | none=>simp[hx] at h1
  | some x=>
    simp[hx] at h1 h2;subst h1;subst h2;exact cP hs hg x
def gR(J:List Nat)(as:AS)(dst:Option Nat)(av:AV)(objs':List aD):AS:=
  ⟨aP (as.sl.map (bA fun id=>J.contains id&&!gQ (aI as.hp id))) dst (dB (cG J as.hp.length) av),
   jT J (objs'.map (dP (cG J as.hp.length))) (as.hp.map (cI fun id=>J.contains id&&!gQ (aI as.hp id)))++(objs'.drop J.length).map (dP (cG J as.hp.length))⟩
theorem WR.call{f:FuncId}{args:List aH}{cargs:List AV}{objs:List aD}{J:List Nat}{Qc:AV->List aD->Prop}(hgd:iG G as o.guard)(ha:o.ai=.call f args)(hac:AC P G f cargs objs Qc)(hJ:J.Nodup)
    (hlen:objs.length=J.length) (hobj:∀ (t j:Nat) o,J[t]?=some j->objs[t]?=some o->as.hp[j]?=some (dP (cG J as.hp.length) o))
    (hargs:args.map (aJ G as.sl)=cargs.map (dB (cG J as.hp.length))) (h:∀ av objs',Qc av objs'->WR P G k rest Q (gR J as o.dst av objs')):WR P G k (o::rest) Q as:=by
  refine WR.step hgd (fun F γ a w oper hc hd hi hs hg hk=>?_)
  rw[ha] at hc;obtain⟨c,hop,hcal,rfl,hok⟩:=zF hc;obtain⟨dst,op,type,pos,after,guard⟩:=oper;simp only at hop;subst hop;have hv:=zG (G:=G) hs hg c.args;rw[hargs] at hv;refine .inr ⟨f,c.args.map a.eval, ?_,(Iw hac hJ hlen hobj hi hs hg hk hv).mono ?_⟩
  · simp[execOp,resolve,hcal,Act.eval,Deferred.ofValue,invoke,kK hok]
  · rintro e w' ⟨r,av,objs',rfl,hq,F',γ',hE,hI,hS,hR,hk'⟩
    exact⟨r,_,F',γ',rfl,h av objs' hq,hE,hI,hS.put _ hR,hk'⟩
theorem WR.callv{f:FuncId}{caps:List aR}{x:aH}{args:List aH}{cargs:List AV}{objs:List aD}{J:List Nat}{Qc:AV->List aD->Prop}(hgd:iG G as o.guard)(ha:o.ai=.callv x args)(hx:aJ G as.sl x=.one (.fn f caps))
    (hok:Uv P f=true) (hac:AC P G f cargs objs Qc) (hJ:J.Nodup)
    (hlen:objs.length=J.length) (hobj:∀ (t j:Nat) o,J[t]?=some j->objs[t]?=some o->as.hp[j]?=some (dP (cG J as.hp.length) o))
    (hargs:args.map (aJ G as.sl)++caps.map AV.one=cargs.map (dB (cG J as.hp.length))) (h:∀ av objs',Qc av objs'->WR P G k rest Q (gR J as o.dst av objs')):WR P G k (o::rest) Q as:=by
  refine WR.step hgd (fun F γ a w oper hc hd hi hs hg hk=>?_)
  rw[ha] at hc;obtain⟨c,t,hop,hcal,rfl,rfl⟩:=Yd hc;obtain⟨dst,op,type,pos,after,guard⟩:=oper;simp only at hop;subst hop;have hv:=zG (G:=G) hs hg c.args;have hf:=cP (G:=G) hs hg (.tmp t);rw[show aS (.tmp t)=.t t from rfl,hx] at hf
  generalize hfv:a.eval (.tmp t)=fv at hf;cases hf with | one _ _ hf=>cases hf with | fn _ _ g hr=>
  have hv2:lC F γ (cargs.map (dB (cG J as.hp.length))) (c.args.map a.eval++((List.range caps.length).map g).toArray):=by
    rw[<- hargs];refine⟨by simp,fun i av v h1 h2=>?_⟩
    by_cases hi':i < c.args.size
    · rw[aWx (by simpa using hi')] at h1
      rw[Array.getElem?_append_left (by simpa using hi')] at h2;exact hv.2 i av v h1 h2
    · rw[aWB (by simpa using hi')] at h1
      rw[Array.getElem?_append_right (by simpa using hi')] at h2;simp only[aWf,aXG,Array.size_map] at h1 h2;simp only[aWl,aXM] at h1 h2;cases hcp:caps[i - c.args.size]? with
      | none=>simp[hcp] at h1
      | some cc=>
        simp[hcp] at h1;have hlt:=aG hcp;simp[aXw hlt] at h2;subst h1;subst h2;exact .one _ _ (hr _ _ hcp)
  refine .inr ⟨f,c.args.map a.eval++((List.range caps.length).map g).toArray, ?_,(Iw hac hJ hlen hobj hi hs hg hk hv2).mono ?_⟩
  · simp[execOp,resolve,hcal,hfv,Deferred.ofValue,invoke,kK hok]
  · rintro e w' ⟨r,av,objs',rfl,hq,F',γ',hE,hI,hS,hR,hk'⟩
    exact⟨r,_,F',γ',rfl,h av objs' hq,hE,hI,hS.put _ hR,hk'⟩
theorem WR.callQ{f:FuncId}{args:List aH}{cargs:List AV}{r:AV}(hgd:iG G as o.guard)(ha:o.ai=.call f args)(hac:QC P G f cargs r)
    (hargs:args.map (aJ G as.sl)=cargs.map (dB (cG [] as.hp.length))) (h:WR P G k rest Q ⟨aP as.sl o.dst (dB (cG [] as.hp.length) r),as.hp⟩):WR P G k (o::rest) Q as:=by
  refine WR.call (J:=[]) hgd ha hac List.nodup_nil rfl (fun t j o h=>by simp at h) hargs (fun av objs' hq=>?_)
  obtain⟨rfl,rfl⟩:=hq;have e1:gR [] as o.dst av []=⟨aP as.sl o.dst (dB (cG [] as.hp.length) av),as.hp⟩:=by
    simp only[gR,jT,aWw,List.drop_nil,aXr];rw[pD (by simp),pE (by simp)]
  rw[e1];exact h
theorem WR.callN{f:FuncId}{args:List aH}{cargs:List AV}{Qc:AV->List aD->Prop}(hgd:iG G as o.guard)(ha:o.ai=.call f args)(hac:AC P G f cargs [] Qc)
    (hargs:args.map (aJ G as.sl)=cargs.map (dB (cG [] as.hp.length)))
    (h:∀ av objs',Qc av objs'->WR P G k rest Q ⟨aP as.sl o.dst (dB (cG [] as.hp.length) av),as.hp++objs'.map (dP (cG [] as.hp.length))⟩):WR P G k (o::rest) Q as:=by
  refine WR.call (J:=[]) hgd ha hac List.nodup_nil rfl (fun t j o h=>by simp at h) hargs (fun av objs' hq=>?_)
  have e1:gR [] as o.dst av objs'=⟨aP as.sl o.dst (dB (cG [] as.hp.length) av),as.hp++objs'.map (dP (cG [] as.hp.length))⟩:=by
    simp only[gR,jT,aWk,aW7];rw[pD (by simp),pE (by simp)]
  rw[e1];exact h av objs' hq
end
end
end Go.Proofs.YthepfneloomngaaGreatDoor
