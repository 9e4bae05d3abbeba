/- Calls in a region; the forms of code; functions by their bodies. Conditions: none. -/
import Derived.Test.YthepfneloomngaaGreatDoorLk
import Derived.Lib.ConvBytes
namespace Go.Proofs.YthepfneloomngaaGreatDoor
section
section
variable {P:Program}{G:aE}{k:Nat}{Q:AS->Prop}{as as':AS}{o:aN}{rest ops:List aN}{F:Fz}{γ:List OI}{w w':World}{hp:List aC}
theorem D5{α:Type}{es news:List α}{n i:Nat}{e:α}(hn:n<=es.length)(h:(es.take n++news)[i]?=some e):(i<n/\es[i]?=some e)\/(n<=i/\news[i-n]?=some e):=by
 by_cases hi:i<n;rw[aXU (by simp;omega),aX2,if_pos hi] at h;exact .inl ⟨hi,h⟩;rw[aXY (by simp;omega)] at h;have:min n es.length=n:=by omega
 simp only[aXK,this] at h;exact .inr ⟨by omega,h⟩
theorem O4{t u ty e:TypeId}{du:TypeDesc}{i:TypeInfo}{z:Value}(ht:P.underlying t=some (.slice e))(hu:P.underlying u=some du)(hdu:du=.slice e\/du=.string)(hin:P.info? e=some i)(hz:i.zero=some z)
  (hzs:z.cells.size=i.size) (hby:0<i.bytes) {id n cap:Nat}{es news:List (List DC)}{x sv:Value} (hi:dE F γ hp w) (hb:aI hp id=.arr cap i.size es) (hsv:RC F γ (.bld id n) sv) (hn:n<=es.length)
  (hns:∀e∈news,e.length=i.size) (hub:(n+news.length)*i.bytes<=140737488355328) (nv:List Value) (hnl:nv.length=news.length*i.size)
  (hx:∀w':World,w'.heap=w.heap->(Builtin.firstCells i.size news.length x).run P w'=.ok nv.toArray w') (hxl:(Builtin.lenOf x).run P w=.ok news.length w)
  (hnr:∀(i' j:Nat) e d v,news[i']?=some e->e[j]?=some d->nv[i'*i.size+j]?=some v->RD F d v) (hn1:∀v∈nv,is1 v=true):
  ∃r w' x' cap',(Builtin.append_ #[t,u] ty #[sv,x]).run P w=.ok r w'/\n+news.length<=cap'/\gU k F γ w F (γ.set id x') w'/\
   dE F (γ.set id x') ((hp.map (cJ (·==id))).set id (.arr cap' i.size (es.take n++news))) w'/\RC F (γ.set id x') (.bld id (n+news.length)) r:=by
 have hbyte:∀q,0<i.bytes->q<=q*i.bytes:=fun q h=>Nat.le_mul_of_pos_right _ h
 have hes':∀(hes:∀e∈es,e.length=i.size),∀e∈es.take n++news,e.length=i.size:=by
  intro hes e he;rcases aYV.1 he with h|h
  exact hes e (aX6 h);exact hns e h
 have hlen':(es.take n++news).length=n+news.length:=by simp;omega
 
 have fresh:∀(xo:OI) (hx0:γ[id]?=some xo) (hnb:∀b,xo≠.box b) (old:List Value) (c:Nat) (rest:List Value),old.length=n*i.size->n+news.length<=c->rest.length=(c-(n+news.length))*i.size->
   (∀(i' j:Nat) e d v,i'<n->es[i']?=some e->e[j]?=some d->old[i'*i.size+j]?=some v->RD F d v)->(∀e∈es,e.length=i.size)->
   gU k F γ w F (γ.set id (.arr (some w.heap.size) c)) (dY w.drew (.cells (old++nv++rest).toArray e))/\
   dE F (γ.set id (.arr (some w.heap.size) c)) ((hp.map (cJ (·==id))).set id (.arr c i.size (es.take n++news))) (dY w.drew (.cells (old++nv++rest).toArray e))/\
   RC F (γ.set id (.arr (some w.heap.size) c)) (.bld id (n+news.length)) (.slice (some ⟨w.heap.size,0,none⟩) (n+news.length) c):=by
  intro xo hx0 hnb old c rest hol hc hrl hor hes;have hfar:∀b,b<w.heap.size->xo.blk≠some b->(dY w.drew (.cells (old++nv++rest).toArray e)).heap[b]?=w.heap[b]?:=fun b hb' _=>nV (w:=w.drew) hb'
  have hblk:∀b,(OI.arr (some w.heap.size) c).blk=some b->xo.blk=some b\/b=w.heap.size:=by intro b hb';simp[OI.blk] at hb';exact .inr hb'.symm
  refine⟨gU.setArr hi hx0 hnb hblk hfar rfl rfl rfl (by simp[dY]),dE.setArr hi hx0 hblk hfar ?_,.bld _ _ _ c (aX7 (aG hx0))⟩;refine⟨rfl,by rw[hlen'];exact hc,hes' hes,_,e,Ax (w:=w.drew),?_,?_⟩;simp only[List.size_toArray,aXD,hol,hnl,hrl];rw[<- aYf,<- aYf];congr 1;omega;intro i' j e' d v h1 h2 h3;simp only[aY8] at h3;rcases D5 hn h1 with⟨a1,a2⟩|⟨a1,a2⟩
  have hj:j<i.size:=by have:=aG h2;have:=hes _ (aX0 a2);omega
  have:=gV a1 (aXF _) hj;rw[aXR,aXU (by omega)] at h3;exact hor i' j e' d v a1 a2 h2 h3;have hj:j<i.size:=by have:=aG h2;have:=hns _ (aX0 a2);omega
  have h5:=gV (aG a2) (aXF _) hj;have h6:i'*i.size+j=n*i.size+((i'-n)*i.size+j):=by
   rw[<- Nat.add_assoc,<- aYf];congr 2;omega
  rw[h6,aXR,aXY (by omega),hol,aY9,aXU (by omega)] at h3;exact hnr _ j e' d v a2 h2 h3
 cases hsv with
 |bldN _ cap0 hgm=>
  obtain⟨h1,h2,h3⟩:=hi.arrN hb hgm;subst h1;subst h2;subst h3;have hra:=Wd (P:=P) (ty:=ty) (A:=none) (n:=0) (cap:=0) ht hu hdu hin hz hby [] nv rfl hx hxl hub rfl;by_cases hle:0+news.length<=0;have hnn:news=[]:=aYL (by omega);subst hnn;refine⟨_,w,.arr none 0,0,by rw[hra.1 hle];rfl,by simp,?_,?_,?_⟩;exact gU.setArr hi hgm (by simp) (fun b h=>by simp[OI.blk] at h) (fun b _ _=>rfl) rfl rfl rfl (aXF _)
  exact dE.setArr hi hgm (fun b h=>by simp[OI.blk] at h) (fun b _ _=>rfl) ⟨rfl,rfl,rfl⟩
  exact .bldN _ 0 (aX7 (aG hgm));obtain⟨c,rest,hc,hrl,hrun⟩:=hra.2 hle;rw[hzs] at hrl;obtain⟨hE,hI,hR⟩:=fresh _ hgm (by simp) [] c rest (by simp) hc hrl (fun i' j e d v h=>by omega) (fun e h=>by simp at h)
  exact⟨_,_,_,c,hrun,hc,hE,hI,hR⟩
 |bld _ _ b cap' hgm=>
  obtain⟨hcc,hec,hes,vs,T,hh,hvsz,hr⟩:=hi.arr hb hgm;subst hcc;have hcap:n*i.size<=vs.size:=by rw[hvsz];exact aYD _ (by omega)
  have hold:∀w':World,w'.heap=w.heap->(Builtin.firstCells i.size n (.slice (some ⟨b,0,none⟩) n cap')).run P w'=.ok (vs.toList.take (n*i.size)).toArray w':=by
   intro w' hw;simp only[Builtin.firstCells];have hl:(vs.toList.take (n*i.size)).length=n*i.size:=by simp;omega
   have:=run_loadCells_list (P:=P) w' ⟨b,0,none⟩ (vs.toList.take (n * i.size)) (fun j v hj=>by
     rw[dI,aYi,lO (hh.of (by rw[hw]))];rw[aX2] at hj;split at hj
     · simpa using hj
     · cases hj)
   rwa[hl] at this
  have hra:=Wd (P:=P) (ty:=ty) (A:=some ⟨b,0,none⟩) (n:=n) (cap:=cap') ht hu hdu hin hz hby _ nv (hold w rfl) hx hxl hub (hold w.drew rfl);by_cases hle:n+news.length<=cap';have hfit:n*i.size+nv.length<=vs.size:=by
   rw[hnl,hvsz,<- aYf];exact aYD _ hle
  have hst:=dH (P:=P) (off:=n*i.size) nv 0 w vs hh hn1 (by omega);have hst':(storeCells ((⟨b,0,none⟩:Addr).add (n*i.size)) nv).run P w=.ok () (if nv=[] then w else setB w b (dQ vs (n*i.size) nv) T):=by
   rw[dI,aYi];exact hst
  have hblk:∀b',(OI.arr (some b) cap').blk=some b'->(OI.arr (some b) cap').blk=some b'\/b'=w.heap.size:=fun _ h=>.inl h
  have hfar:∀b',b'<w.heap.size->(OI.arr (some b) cap').blk≠some b'->(if nv=[] then w else setB w b (dQ vs (n*i.size) nv) T).heap[b']?=w.heap[b']?:=by
   intro b' _ hne;split;rfl;exact Ay (fun e=>hne (by subst e;rfl))
  refine⟨_,if nv=[] then w else setB w b (dQ vs (n*i.size) nv) T,.arr (some b) cap',cap',by rw[hra.1 hle];simp only[hst'];rfl,hle,?_,?_,.bld _ _ _ cap' (aX7 (aG hgm))⟩
  refine gU.setArr hi hgm (by simp) hblk hfar ?_ ?_ ?_ ?_<;>split<;>first|rfl|exact aXF _|simp[setB]
  refine dE.setArr hi hgm hblk hfar ⟨rfl,by rw[hlen'];exact hle,hes' hes,dQ vs (n*i.size) nv,T,?_,by rw[dJ,hvsz],?_⟩;split;rename_i h0;subst h0;exact hh;exact kK hh (dJ _ _ _ _);intro i' j e' d v h1 h2 h3;rw[qR] at h3;simp only[aYp] at h3;rcases D5 hn h1 with⟨a1,a2⟩|⟨a1,a2⟩
  have hj:j<i.size:=by have:=aG h2;have:=hes _ (aX0 a2);omega
  have:=gV a1 (aXF _) hj;rw[if_neg (by omega)] at h3;exact hr i' j e' d v a2 h2 h3;have hj:j<i.size:=by have:=aG h2;have:=hns _ (aX0 a2);omega
  have h5:=gV (aG a2) (aXF _) hj;have h6:i'*i.size+j=n*i.size+((i'-n)*i.size+j):=by
   rw[<- Nat.add_assoc,<- aYf];congr 2;omega
  rw[h6,if_pos ⟨by omega,by omega,by omega⟩,aY9] at h3;exact hnr _ j e' d v a2 h2 h3;obtain⟨c,rest,hc,hrl,hrun⟩:=hra.2 hle
  rw[hzs] at hrl;obtain⟨hE,hI,hR⟩:=fresh _ hgm (by simp) (vs.toList.take (n * i.size)) c rest (by simp;omega) hc hrl (fun i' j e' d v h1 h2 h3 h4=>by
    rw[aX2] at h4;split at h4
    · exact hr i' j e' d v h2 h3 (by simpa using h4)
    · cases h4) hes
  exact⟨_,_,_,c,hrun,hc,hE,hI,hR⟩
theorem We{oper:Oper}{size bytes:Nat}{zero:List Value}{s x:aH}(hc:bB P oper=some (.app size bytes zero s x)):
  ∃t u e i z os ox,oper.op=.call { callee:=.builtin .append,args:=#[os,ox],argTypes:=#[t,u] }/\P.underlying t=some (.slice e)/\P.underlying u=some (.slice e)/\P.info? e=some i/\i.zero=some z/\
   z.cells.size=i.size/\0<i.bytes/\size=i.size/\bytes=i.bytes/\s=aU os/\x=aU ox:=by
 have hk:=gZ hc rfl;obtain⟨c,he⟩:=Ma (.inr (.inr (.inl hk)));obtain⟨dst,op,type,pos,after,guard⟩:=oper;obtain⟨callee,args,argTypes⟩:=c;simp only at he;subst he;simp only[cD] at hk;split at hk;simp[fU] at hk;simp[fU] at hk;simp only[bB,eQ] at hc;split at hc;rename_i t u os ox hts has;have ha:args=#[os,ox]:=by rw[<- aY0];exact has
 have ht:argTypes=#[t,u]:=by rw[<- aY0];exact hts
 subst ha;subst ht;split at hc;rename_i e e' h1 h2;split at hc;rename_i hee;subst hee;cases h3:P.info? e with
 |none=>simp[h3] at hc
 | some i=>cases h4:i.zero with
   | none=>simp[h3,h4] at hc
   | some z=>
     simp only[h3,h4,aXP] at hc;split at hc
     · rename_i hz
       simp only[Option.some.injEq,AI.app.injEq] at hc;obtain⟨rfl,rfl,rfl,rfl,rfl⟩:=hc;exact⟨t,u,e,i,z,os,ox,rfl,h1,h2,h3,h4,hz.1,hz.2,rfl,rfl,rfl,rfl⟩
     · cases hc
 cases hc
 ·exfalso
  repeat' (first|(obtain⟨_,_,hc⟩:=hc)|split at hc|(simp only[aYu] at hc))
  all_goals first|(cases hc;done)|(injection hc with hc;cases hc;done)
 cases hc;cases hc;simp[fU] at hk;simp[fU] at hk;simp[fU] at hk
theorem WR.app{size bytes id n cap:Nat}{zero:List Value}{s x:aH}{es news:List (List DC)}(hgd:iY G as o.guard)(ha:o.ai=.app size bytes zero s x)
  (hs0:aK G as.sl s=.one (.bld id n)) (hb:aI as.hp id=.arr cap size es) (hn:n<=es.length) (hsrc:qS as.hp (aK G as.sl x)=some news) (hns:∀e∈news,e.length=size)
  (hub:(n+news.length)*bytes<=140737488355328)
  (h:∀cap',n+news.length<=cap'->WR P G k rest Q ⟨aQ (as.sl.map (bD (·==id))) o.dst (.one (.bld id (n+news.length))),(as.hp.map (cJ (·==id))).set id (.arr cap' size (es.take n++news))⟩):
  WR P G k (o::rest) Q as:=by
 refine WR.step hgd (fun F γ a w oper hc hd hi hs hg hk=>?_)
 rw[ha] at hc;obtain⟨t,u,e,i,z,os,ox,hop,ht,hu,hin,hz,hzs,hby,rfl,rfl,rfl,rfl⟩:=We hc;have hsv:=cR (G:=G) hs hg os;rw[hs0] at hsv;have hsv':=Zx hsv;obtain⟨A,c,hxe,nv,hnl,hfc,hnr,hn1⟩:=aCE hsrc (cR hs hg ox) hi hns;have hxl:(Builtin.lenOf (a.eval ox)).run P w=.ok news.length w:=by rw[hxe];rfl
 obtain⟨r,w',x',cap',hrun,hcap,hE,hI,hR⟩:=O4 (k:=k) (ty:=oper.type) ht hu (.inl rfl) hin hz hzs hby hi hb hsv' hn hns hub nv hnl hfc hxl hnr hn1;obtain⟨dst,op,type,pos,after,guard⟩:=oper;simp only at hop;subst hop;refine .inl ⟨_,r,w',_,F,_,?_,.inl rfl,h cap' hcap,hE,hI,?_,by simpa using hk⟩;simp only at hrun;simp[execOp,resolve,invoke,builtin,hrun];exact (hs.kill (fun _ _ h=>h) (fun i' o h1 h2=>pL h2 h1)).put _ (.one _ _ hR)
theorem dE.nilp{hp:List aC}(size:Nat)(hi:dE F γ hp w):dE F (γ++[OI.arr none 0]) (hp++[.arr 0 size []]) w/\gU k F γ w F (γ++[OI.arr none 0]) w:=by
 have hext:∀(id:Nat) (o:OI),γ[id]?=some o->(γ++[OI.arr none 0])[id]?=some o:=fun _ _ h=>bQ h
 have hb:∀i b,bZ (γ++[OI.arr none 0]) i=some b->bZ γ i=some b:=by
  intro i b h;obtain⟨y,hy,hyb⟩:=cU h;rcases gW hy with h1|⟨_,rfl⟩
  exact bM h1 hyb;simp[OI.blk] at hyb
 refine⟨⟨hi.fz,by simp[hi.len],fun i j b h1 h2=>hi.nd i j b (hb i b h1) (hb j b h2),fun i b h=>hi.disj i b (hb i b h), ?_⟩,
   ⟨fun _ _ h=>h,rfl,rfl,rfl,aXF _,fun _ _ _=>rfl,fun _ _ h=>.inl h,fun i b h=>.inl ⟨i,hb i b h⟩,fun i _ b h=>hext _ _ h⟩⟩
 intro i o x h1 h2;rcases gW h2 with h3|⟨h3,rfl⟩
 have hl:i<hp.length:=by rw[<- hi.len];exact aG h3
 rw[aXU hl] at h1;exact (hi.ok i o x h1 h3).ext (fun _ _ h=>h) hext (fun _ _=>rfl)
 rw[h3,hi.len] at h1;simp at h1;subst h1;exact⟨rfl,rfl,rfl⟩
theorem WR.appNil{size bytes:Nat}{zero:List Value}{s x:aH}{news:List (List DC)}(hgd:iY G as o.guard)(ha:o.ai=.app size bytes zero s x)
  (hs0:aK G as.sl s=dG (.slice none 0 0)) (hsrc:qS as.hp (aK G as.sl x)=some news) (hns:∀e∈news,e.length=size)
  (hub:news.length*bytes<=140737488355328)
  (h:∀cap',news.length<=cap'->WR P G k rest Q ⟨aQ as.sl o.dst (.one (.bld as.hp.length news.length)),as.hp.map (cJ (·==as.hp.length))++[.arr cap' size news]⟩):
  WR P G k (o::rest) Q as:=by
 refine WR.step hgd (fun F γ a w oper hc hd hi hs hg hk=>?_)
 rw[ha] at hc;obtain⟨t,u,e,i,z,os,ox,hop,ht,hu,hin,hz,hzs,hby,rfl,rfl,rfl,rfl⟩:=We hc;obtain⟨hi0,hE0⟩:=dE.nilp (k:=k) i.size hi;have hsv:=cR (G:=G) hs hg os;rw[hs0] at hsv;have hsv2:a.eval os=.slice none 0 0:=cO hsv;have hsv':RC F (γ++[OI.arr none 0]) (.bld as.hp.length 0) (a.eval os):=by
  rw[hsv2];exact .bldN _ 0 (by rw[<- hi.len];simp)
 obtain⟨A,c,hxe,nv,hnl,hfc,hnr,hn1⟩:=aCE hsrc (cR hs hg ox) hi hns;have hxl:(Builtin.lenOf (a.eval ox)).run P w=.ok news.length w:=by rw[hxe];rfl
 have hb:aI (as.hp++[aC.arr 0 i.size []]) as.hp.length=aC.arr 0 i.size []:=by simp[aI]
 obtain⟨r,w',x',cap',hrun,hcap,hE,hI,hR⟩:=O4 (k:=k) (ty:=oper.type) ht hu (.inl rfl) hin hz hzs hby hi0 hb hsv' (aXX _) hns (by simpa using hub) nv hnl hfc hxl hnr hn1;obtain⟨dst,op,type,pos,after,guard⟩:=oper;simp only at hop;subst hop;have e1:((as.hp++[aC.arr 0 i.size []]).map (cJ (·==as.hp.length))).set as.hp.length (aC.arr cap' i.size (([]:List (List DC)).take 0++news))=as.hp.map (cJ (·==as.hp.length))++[.arr cap' i.size news]:=by
  simp
 rw[e1] at hI;simp only[aYi] at hR hcap;refine .inl ⟨_,r,w',_,F,_,?_,.inl rfl,h cap' hcap,hE0.trans hE,hI,?_,by simp;omega⟩;simp only at hrun;simp[execOp,resolve,invoke,builtin,hrun];refine (hs.ext (fun _ _ h=>h) (fun id o h1=>?_)).put _ (.one _ _ hR)
 have hlt:=aG h1;rw[aXW (by rw[<- hi.len];omega)];exact bQ h1
theorem Z1{oper:Oper}{neg:Bool}{x:aH}(hc:bB P oper=some (.isnil false neg x)):
  ∃t e ox u,oper.op=.binOp (if neg then .neq else .eql) t ox (.const (.slice none 0 0)) u/\P.underlying t=some (.slice e)/\x=aU ox:=by
 obtain⟨b,t,ox,y,u,he⟩:=aCD (gZ hc rfl);simp only[bB,he,nU] at hc;have key:∀d,P.underlying t=some d->lN b d ox y=some (.isnil false neg x)->∃t e ox u,oper.op=.binOp (if neg then .neq else .eql) t ox (.const (.slice none 0 0)) u/\P.underlying t=some (.slice e)/\x=aU ox:=by
  intro d hd h;unfold lN at h;split at h;all_goals try (cases h;done)
  all_goals
   cases hk:Oy d y with
   |none=>simp[hk] at h
   |some p=>
    simp only[hk,aXG,Option.some.injEq,AI.isnil.injEq] at h;obtain⟨rfl,rfl,rfl⟩:=h;unfold Oy at hk;split at hk;exact⟨_,_,_,_,he,hd,rfl⟩;simp at hk;cases hk
 split at hc;all_goals try (rename_i hu;exact key _ hu hc)
 all_goals (repeat' split at hc)<;>first|(cases hc;done)|(simp[Option.map_eq_some_iff] at hc;done)
theorem WR.isnil0{neg:Bool}{x:aH}(hgd:iY G as o.guard)(ha:o.ai=.isnil false neg x)(hx:aK G as.sl x=.one (.dc (.slc [])))
  (h:∀b,WR P G k rest Q ⟨aQ as.sl o.dst (dG (.bool b)),as.hp⟩):WR P G k (o::rest) Q as:=by
 refine WR.step hgd (fun F γ a w oper hc hd hi hs hg hk=>?_)
 rw[ha] at hc;obtain⟨t,e,ox,u,hop,hu,rfl⟩:=Z1 hc;have hxv:=cR (G:=G) hs hg ox;rw[hx] at hxv;have hval:∃A n c,a.eval ox=.slice A n c:=by
  generalize a.eval ox=v at hxv;cases hxv with|one c _ hcc=>cases hcc with|dc d _ hd=>cases hd with
  |nil A c=>exact⟨_,_,_,rfl⟩
  |slc=>exact⟨_,_,_,rfl⟩
 obtain⟨A,n,c,hval⟩:=hval;obtain⟨dst,op,type,pos,after,guard⟩:=oper;simp only at hop;subst hop;have he:(Op.equal t (.slice A n c) (.slice none 0 0)).run P w=.ok A.isNone w:=by
  exact Kj 9999 hu
 refine .inl ⟨.value (.bool (A.isNone != neg)),.bool (A.isNone != neg),w,_,F,γ,?_,.inl rfl,h _,gU.refl _ _ _ _,hi,(hs.put _ (bP rfl)),hk⟩;have hn0:a.eval (.const (.slice none 0 0))=.slice none 0 0:=rfl;cases neg<;>simp[execOp,hval,hn0,eqGuard,Go.binOp,he]
def O5(es:List (List DC))(k n:Nat)(z:List DC):List (List DC):=es.take k++List.replicate n z++es.drop (k+n)
theorem aCF{es:List (List DC)}{k n:Nat}{z:List DC}(h:k+n<=es.length):(O5 es k n z).length=es.length:=by simp[O5];omega
theorem O6{es:List (List DC)}{k n:Nat}{z:List DC}(h:k+n<=es.length)(i:Nat):(O5 es k n z)[i]?=if k<=i/\i<k+n then some z else es[i]?:=by
 unfold O5;by_cases c1:i<k;rw[aXR,aXU (by simp;omega),aX2,if_pos c1,if_neg (by omega)];by_cases c2:i<k+n;rw[aXU (by simp;omega),aXY (by simp;omega),aYH,if_pos (by simp;omega),if_pos (by omega)];rw[aXY (by simp;omega),if_neg (by omega),aX9];congr 1;simp;omega
theorem Mb{oper:Oper}{size:Nat}{zero:List Value}{x:aH}(hc:bB P oper=some (.clr size zero x)):
  ∃t e i z ox,oper.op=.call ⟨.builtin .clear,#[ox],#[t]⟩/\P.underlying t=some (.slice e)/\P.info? e=some i/\i.zero=some z/\z.cells.size=i.size/\0<i.size/\z.cells.toList.all is1=true/\size=i.size/\zero=z.cells.toList/\x=aU ox:=by
 obtain⟨c,he,hcal⟩:=aMJ (gZ hc rfl);obtain⟨dst,op,type,pos,after,guard⟩:=oper;obtain⟨callee,args,argTypes⟩:=c;simp only at he hcal;subst he;subst hcal;simp only[bB,eQ] at hc;split at hc;rename_i t ox hts has;have ha:args=#[ox]:=by rw[<- aY0];exact has
 have ht:argTypes=#[t]:=by rw[<- aY0];exact hts
 subst ha;subst ht;split at hc;rename_i e h1;cases h3:P.info? e with
 |none=>simp[h3] at hc
 | some i=>cases h4:i.zero with
   | none=>simp[h3,h4] at hc
   | some z=>
     simp only[h3,h4,aXP] at hc;split at hc
     · rename_i hz
       simp only[Option.some.injEq,AI.clr.injEq] at hc;obtain⟨rfl,rfl,rfl⟩:=hc;exact⟨t,e,i,z,ox,rfl,h1,h3,h4,hz.1,hz.2.1,hz.2.2,rfl,rfl,rfl⟩
     · cases hc
 cases hc;cases hc
theorem WR.clr{size id k0 n cap:Nat}{zero:List Value}{x:aH}{es:List (List DC)}(hgd:iY G as o.guard)(ha:o.ai=.clr size zero x)
  (hx:aK G as.sl x=.one (.bls id k0 n size)\/(k0=0/\aK G as.sl x=.one (.bld id n))) (hb:aI as.hp id=.arr cap size es) (hn:0<n) (hle:k0+n<=es.length)
  (h:WR P G k rest Q ⟨aQ as.sl o.dst (.tup []),as.hp.set id (.arr cap size (O5 es k0 n (zero.map DC.raw)))⟩):WR P G k (o::rest) Q as:=by
 refine WR.step hgd (fun F γ a w oper hc hd hi hs hg hk=>?_)
 rw[ha] at hc;obtain⟨t,e,i,z,ox,hop,hu,hin,hz,hzs,hsz,hz1,rfl,rfl,rfl⟩:=Mb hc;have hxv:=cR (G:=G) hs hg ox;have hval:∃b cap' c,γ[id]?=some (.arr (some b) cap')/\a.eval ox=.slice (some ⟨b,k0*i.size,none⟩) n c:=by
  rcases hx with hx|⟨rfl,hx⟩
  ·rw[hx] at hxv;generalize a.eval ox=v at hxv;cases hxv with|one c _ hcc=>cases hcc with|bls _ _ _ _ b cap' c off hgm ho hcn=>
   have:=ho (by omega);subst this;rcases hgm with hgm|hgm
   exact⟨b,cap',c,hgm,rfl⟩;exact absurd hgm (hi.noArr hb)
  rw[hx] at hxv;generalize a.eval ox=v at hxv;cases hxv with|one c _ hcc=>cases hcc with
  |bldN _ _ _=>omega
  |bld _ _ b cap' hgm=>exact⟨b,cap',cap',hgm,by simp⟩
 obtain⟨b,cap',c,hgm,hval⟩:=hval;obtain⟨hcap,hec,hes,ws,T,hh,hws,hwr⟩:=hi.arr hb hgm;have hzl:z.cells.toList.length=i.size:=by simpa using hzs
 have hze:(Builtin.zeroCells z.cells n).toList.length=n*i.size:=by simp[Builtin.zeroCells,hzs]
 have hzget:∀q,q<n*i.size->(Builtin.zeroCells z.cells n).toList[q]?=some (z.cells[q % z.cells.size]!):=by
  intro q hq;simp[Builtin.zeroCells,hzs,hq]
 have hz1':∀v∈(Builtin.zeroCells z.cells n).toList,is1 v=true:=by
  intro v hv;obtain⟨q,hq⟩:=aYZ hv;have hlt:=aG hq;rw[hze] at hlt;rw[hzget q hlt] at hq;injection hq with hq
  subst hq;have hm:q % z.cells.size<z.cells.size:=Nat.mod_lt _ (by omega);rw[getElem!_pos z.cells _ hm];exact aY2.1 hz1 _ (by simp)
 have hfit:k0*i.size+(n*i.size)<=ws.size:=by
  rw[hws,<- aYf];exact aYD _ (by omega)
 have hst:=dH (P:=P) (off:=k0*i.size) (Builtin.zeroCells z.cells n).toList 0 w ws hh hz1' (by rw[hze];omega);have hne:(Builtin.zeroCells z.cells n).toList≠[]:=by
  intro e0;rw[e0] at hze;have:=Nat.mul_pos hn hsz;simp at hze;omega
 rw[if_neg hne] at hst;obtain⟨dst,op,type,pos,after,guard⟩:=oper;simp only at hop;subst hop;have hzv:(zeroValue e).run P w=.ok z w:=by simp[zeroValue,typeInfo,hin,hz]
 have hrun:(Builtin.clear_ #[t] type #[a.eval ox]).run P w=.ok (.tuple #[]) (setB w b (dQ ws (k0*i.size) (Builtin.zeroCells z.cells n).toList) T):=by
  obtain⟨m,rfl⟩:∃m,n=m+1:=⟨n-1,by omega⟩;rw[hval];simp[Builtin.clear_,run_underlying hu,hzv,hst]
 refine .inl ⟨.value (.tuple #[]),.tuple #[],setB w b (dQ ws (k0*i.size) (Builtin.zeroCells z.cells n).toList) T,_,F,γ,?_,.inl rfl,h,gU.setB hi hgm rfl,?_,(hs.put _ (.tup [] #[] rfl (fun i t v h=>by simp at h))),hk⟩
 simp[execOp,resolve,invoke,builtin,hrun];refine hi.setObj hgm rfl ⟨hcap,by rw[aCF hle];exact hec,fun q hq=>?_,_,T,kK hh (dJ _ _ _ _),by rw[dJ,hws],fun i' j e1 d v h1 h2 h3=>?_⟩
 obtain⟨i',hi'⟩:=aYZ hq;rw[O6 hle] at hi';split at hi';injection hi' with hi';rw[<- hi',aXC,hzl];exact hes q (aX0 hi');rw[O6 hle] at h1;rw[qR] at h3;simp only[aYp,hze] at h3;split at h1;rename_i hc';injection h1 with h1;subst h1;have hj:j<i.size:=by have:=aG h2;simpa[hzs] using this
 have h5:=gV (show i'-k0<n by omega) (aXF _) hj;have h6:i'*i.size+j=k0*i.size+((i'-k0)*i.size+j):=by
  rw[<- Nat.add_assoc,<- aYf];congr 2;omega
 rw[h6,if_pos ⟨by omega,by omega,by omega⟩,aY9,hzget _ h5] at h3;injection h3 with h3
 subst h3;have hm:((i'-k0)*i.size+j) % z.cells.size=j:=by rw[hzs,aYM,Nat.mul_add_mod,aYB hj]
 rw[hm,getElem!_pos z.cells j (by omega)];rw[aXI] at h2;obtain⟨u,hu1,rfl⟩:=Option.map_eq_some_iff.1 h2;have:u=z.cells[j]'(by omega):=by
  have h7:z.cells.toList[j]?=some (z.cells[j]'(by omega)):=by simp[hzs,hj]
  rw[h7] at hu1;injection hu1 with hu1;exact hu1.symm
 subst this;exact .raw _ (aY2.1 hz1 _ (by simp));rename_i hc';have hj:j<i.size:=by have:=aG h2;have:=hes _ (aX0 h1);omega
 rw[if_neg (by
   rintro⟨a1,a2,_⟩;rcases aYG i' k0 with c1 | c1
   · have:=gV c1 (aXF _) hj;omega
   · have h8:(k0+n) * i.size<=i' * i.size:=aYD _ (by omega)
     rw[aYf] at h8;omega)] at h3
 exact hwr i' j e1 d v h1 h2 h3
theorem WR.clrB{id k0 n:Nat}{zv:Value}{x:aH}{cs:List aT}(hgd:iY G as o.guard)(ha:o.ai=.clr 1 [zv] x)
  (hx:aK G as.sl x=.one (.bls id k0 n 1)\/(k0=0/\aK G as.sl x=.one (.bld id n))) (hb:aI as.hp id=.box cs) (hn:0<n) (hle:k0+n<=cs.length)
  (h:WR P G k rest Q ⟨aQ as.sl o.dst (.tup []),as.hp.set id (.box (cQ cs k0 (List.replicate n (dA zv))))⟩):WR P G k (o::rest) Q as:=by
 refine WR.step hgd (fun F γ a w oper hc hd hi hs hg hk=>?_)
 rw[ha] at hc;obtain⟨t,e,i,z,ox,hop,hu,hin,hz,hzs,hsz,hz1,h1s,hzl,rfl⟩:=Mb hc;have hxv:=cR (G:=G) hs hg ox;have hval:∃b c,γ[id]?=some (.box b)/\a.eval ox=.slice (some ⟨b,k0,none⟩) n c:=by
  rcases hx with hx|⟨rfl,hx⟩
  ·rw[hx] at hxv;generalize a.eval ox=v at hxv;cases hxv with|one c _ hcc=>cases hcc with|bls _ _ _ _ b cap' c off hgm ho hcn=>
   have:=ho (by omega);rw[aYv] at this;subst this;rcases hgm with hgm|hgm
   exact absurd hgm (hi.noBox hb);exact⟨b,c,hgm,rfl⟩
  rw[hx] at hxv;generalize a.eval ox=v at hxv;cases hxv with|one c _ hcc=>cases hcc with
  |bldN _ _ _=>omega
  |bld _ _ b cap' hgm=>exact absurd hgm (hi.noBox hb)
 obtain⟨b,c,hgm,hval⟩:=hval;obtain⟨ws,T,hh,hws,hwr⟩:=hi.box hb hgm;have hzc:z.cells=#[zv]:=by rw[<- aY0];exact hzl.symm
 have hi1:is1 zv=true:=aY2.1 hz1 zv (by rw[hzc];simp);have hzr:(Builtin.zeroCells z.cells n).toList=List.replicate n zv:=by
  apply aY5;intro q;by_cases hq:q<n;simp[Builtin.zeroCells,hzc,hq,aYH,Nat.mod_one];simp[Builtin.zeroCells,hzc,hq,aYH]
 have hall:∀v∈List.replicate n zv,is1 v=true:=fun v hv=>by rw[List.eq_of_mem_replicate hv];exact hi1
 have hst:=dH (P:=P) (off:=k0) (List.replicate n zv) 0 w ws hh hall (by rw[aXO];omega);have hne:List.replicate n zv≠[]:=by
  intro e0;have:=congrArg List.length e0;simp at this;omega
 rw[if_neg hne] at hst;obtain⟨dst,op,type,pos,after,guard⟩:=oper;simp only at hop;subst hop;have hzv:(zeroValue e).run P w=.ok z w:=by simp[zeroValue,typeInfo,hin,hz]
 have hrun:(Builtin.clear_ #[t] type #[a.eval ox]).run P w=.ok (.tuple #[]) (setB w b (dQ ws k0 (List.replicate n zv)) T):=by
  obtain⟨m,rfl⟩:∃m,n=m+1:=⟨n-1,by omega⟩;rw[hval];rw[<- hzr] at hst ⊢;simp[Builtin.clear_,run_underlying hu,hzv,hst]
 refine .inl ⟨.value (.tuple #[]),.tuple #[],setB w b (dQ ws k0 (List.replicate n zv)) T,_,F,γ,?_,.inl rfl,h,gU.setB hi hgm rfl,?_,(hs.put _ (.tup [] #[] rfl (fun i t v h=>by simp at h))),hk⟩
 simp[execOp,resolve,invoke,builtin,hrun];refine hi.setObj hgm rfl ?_;have hrc:RCs F γ (List.replicate n (dA zv)) (List.replicate n zv).toArray:=by
  refine⟨by simp,fun q c v h1 h2=>?_⟩
  simp only[aY8,aYH] at h1 h2;split at h1;injection h1 with h1
  rw[if_pos (by assumption)] at h2;injection h2 with h2
  subst h1;subst h2;exact .dc _ _ (.raw _ hi1);cases h1
 have:=sK (off:=k0) hws hwr hrc (by simpa using hle);exact⟨_,T,kK hh (dJ _ _ _ _),this.1,this.2⟩
theorem Z2{es:List (List DC)}{k:Nat}{z:List DC}:O5 es k 0 z=es:=by simp[O5]
theorem Az{hp:List aC}{id:Nat}{ob:aC}(hb:aI hp id=ob)(hne:ob≠.dead):hp.set id ob=hp:=by
 unfold aI at hb;cases h:hp[id]? with
 |none=>rw[aXN,h] at hb;exact absurd hb.symm hne
 |some o=>
  rw[aXN,h] at hb;simp only[aYn] at hb;subst hb;obtain⟨hl,hh⟩:=List.getElem?_eq_some_iff.1 h;rw[<- hh];exact List.set_getElem_self hl
theorem WR.clr0{size id k0:Nat}{zero:List Value}{x:aH}(hgd:iY G as o.guard)(ha:o.ai=.clr size zero x)
  (hx:aK G as.sl x=.one (.bls id k0 0 size)\/aK G as.sl x=.one (.bld id 0))
  (h:WR P G k rest Q ⟨aQ as.sl o.dst (.tup []),as.hp⟩):WR P G k (o::rest) Q as:=by
 refine WR.step hgd (fun F γ a w oper hc hd hi hs hg hk=>?_)
 rw[ha] at hc;obtain⟨t,e,i,z,ox,hop,hu,hin,hz,hzs,hsz,hz1,rfl,rfl,rfl⟩:=Mb hc;have hxv:=cR (G:=G) hs hg ox;have hval:∃p c,a.eval ox=.slice p 0 c:=by
  rcases hx with hx|hx;rw[hx] at hxv;generalize a.eval ox=v at hxv;cases hxv with|one c _ hcc=>cases hcc with|bls=>exact⟨_,_,rfl⟩
  rw[hx] at hxv;generalize a.eval ox=v at hxv;cases hxv with|one c _ hcc=>cases hcc<;>exact⟨_,_,rfl⟩
 obtain⟨p,c,hval⟩:=hval;obtain⟨dst,op,type,pos,after,guard⟩:=oper;simp only at hop;subst hop;have hrun:(Builtin.clear_ #[t] type #[a.eval ox]).run P w=.ok (.tuple #[]) w:=by
  rw[hval];cases p<;>simp[Builtin.clear_,run_underlying hu]
 refine .inl ⟨.value (.tuple #[]),.tuple #[],w,_,F,γ,?_,.inl rfl,h,gU.refl _ _ _ _,hi,(hs.put _ (.tup [] #[] rfl (fun i t v h=>by simp at h))),hk⟩
 simp[execOp,resolve,invoke,builtin,hrun]
def dZ(l:List UInt8):List aT:=l.map fun b=>dA (.int .u8 b.toNat)
def gD(s:ByteArray):List (List DC):=s.data.toList.map fun b=>[DC.raw (.int .u8 b.toNat)]
theorem O7{oper:Oper}{d x:aH}(hc:bB P oper=some (.cpys d x)):
  ∃t u e od ox,oper.op=.call ⟨.builtin .copy,#[od,ox],#[t,u]⟩/\P.underlying t=some (.slice e)/\(P.info? e).map (·.size)=some 1/\d=aU od/\x=aU ox:=by
 obtain⟨c,he,hcal⟩:=aHo (gZ hc rfl);obtain⟨dst,op,type,pos,after,guard⟩:=oper;obtain⟨callee,args,argTypes⟩:=c;simp only at he hcal;subst he;subst hcal;simp only[bB,eQ] at hc;split at hc;rename_i t u od ox hts has;have ha:args=#[od,ox]:=by rw[<- aY0];exact has
 have ht:argTypes=#[t,u]:=by rw[<- aY0];exact hts
 subst ha;subst ht;split at hc;rename_i e h1 h2;split at hc;rename_i h3;simp only[Option.some.injEq,AI.cpys.injEq] at hc;obtain⟨rfl,rfl⟩:=hc;exact⟨t,u,e,od,ox,rfl,h1,h3,rfl,rfl⟩;cases hc;cases hc;cases hc
theorem WR.cpys{id lo n:Nat}{d x:aH}{cs:List aT}{s:ByteArray}(hgd:iY G as o.guard)(ha:o.ai=.cpys d x)(hd0:aK G as.sl d=.one (.bls id lo n 1))(hx:dB (aK G as.sl x)=some s)
  (hb:aI as.hp id=.box cs) (hle:lo+n<=cs.length)
  (h:WR P G k rest Q ⟨aQ as.sl o.dst (dG (.int .i64 (min s.size n:Nat))),as.hp.set id (.box (cQ cs lo (dZ (s.data.toList.take n))))⟩):WR P G k (o::rest) Q as:=by
 refine WR.step hgd (fun F γ a w oper hc hd hi hs hg hk=>?_)
 rw[ha] at hc;obtain⟨t,u,e,od,ox,hop,hu,hin,rfl,rfl⟩:=O7 hc;have hdv:=cR (G:=G) hs hg od;rw[hd0] at hdv;have hxv:=sI (cR (G:=G) hs hg ox) hx;obtain⟨b,c,off,hgm,hdval,hoff⟩:∃b c off,γ[id]?=some (.box b)/\a.eval od=.slice (some ⟨b,off,none⟩) n c/\(n≠0->off=lo):=by
  generalize a.eval od=v at hdv;cases hdv with|one c _ hcc=>cases hcc with|bls _ _ _ _ b cap' c off hgm ho hcn=>
  rcases hgm with hgm|hgm;exact absurd hgm (hi.noBox hb);exact⟨b,c,off,hgm,rfl,fun h=>by rw[ho h,aYv]⟩
 obtain⟨ws,T,hh,hws,hwr⟩:=hi.box hb hgm;obtain⟨dst,op,type,pos,after,guard⟩:=oper;simp only at hop;subst hop
 
 have hbl:((s.extract 0 (min s.size n)).data.map fun b=>Value.int .u8 b.toNat)=((s.data.toList.take n).map fun b=>Value.int .u8 b.toNat).toArray:=by
   apply Array.ext';simp only[Array.toList_map,ByteArray.data_extract,Array.toList_extract,List.extract_eq_take_drop,Nat.sub_zero,aYq];congr 1;rw[List.take_eq_take_iff];simp;omega
 have hsz:((s.data.toList.take n).map fun b=>Value.int .u8 b.toNat).length=min s.size n:=by simp[Nat.min_comm]
 have hinf:∃inf,P.info? e=some inf/\inf.size=1:=by
  cases hi1:P.info? e with
  |none=>rw[hi1] at hin;cases hin
  |some inf=>rw[hi1] at hin;injection hin with hin;exact⟨inf,rfl,hin⟩
 obtain⟨inf,hin,hin1⟩:=hinf;have hrc:RCs F γ (dZ (s.data.toList.take n)) ((s.data.toList.take n).map fun b=>Value.int .u8 b.toNat).toArray:=by
   refine⟨by simp[dZ],fun q c v h1 h2=>?_⟩
   simp only[dZ,aXI,aY8] at h1 h2;cases hq:(s.data.toList.take n)[q]? with
   | none=>rw[hq] at h1;cases h1
   | some bb=>
     rw[hq] at h1 h2;injection h1 with h1;injection h2 with h2
     subst h1;subst h2;exact .dc _ _ (.raw _ rfl)
 have hall:∀ v∈((s.data.toList.take n).map fun b=>Value.int .u8 b.toNat),is1 v=true:=fun v hv=>by
   obtain⟨q,_,rfl⟩:=List.mem_map.1 hv;rfl
 have hemp:((s.data.toList.take n).map fun b=>Value.int .u8 b.toNat)=[]->s.data.toList.take n=[]:=fun h0=>by simpa using h0
 have hn0:n=0->((s.data.toList.take n).map fun b=>Value.int .u8 b.toNat)=[]:=fun h0=>by subst h0;rfl
 have hbl2:List.take (min s.size n) (List.map (fun b=>Value.int .u8 b.toNat) s.data.toList)=((s.data.toList.take n).map fun b=>Value.int .u8 b.toNat):=by
   rw[aYr,List.take_eq_take_iff];simp;omega
 generalize ((s.data.toList.take n).map fun b=>Value.int .u8 b.toNat)=L at hbl hbl2 hsz hrc hall hemp hn0
 have hst:(storeCells ⟨b,off,none⟩ L).run P w=.ok () (if L=[] then w else setB w b (dQ ws off L) T):=by
  by_cases h0:n=0;rw[hn0 h0];rfl;exact dH _ 0 w ws hh hall (by rw[hsz,hoff h0];omega)
 have hrun:(Builtin.copy_ #[t,u] type #[a.eval od,a.eval ox]).run P w=.ok (.int .i64 (min s.size n:Nat)) (if L=[] then w else setB w b (dQ ws off L) T):=by
  have e1:Nat.min s.size n=min s.size n:=rfl;simp[Builtin.copy_,hdval,hxv,run_underlying hu,Builtin.lenOf,Builtin.firstCells,sizeOf,typeInfo,hin,hin1,hbl2,e1,hst,goInt]
 refine .inl ⟨.value (.int .i64 (min s.size n:Nat)),.int .i64 (min s.size n:Nat),(if L=[] then w else setB w b (dQ ws off L) T),_,F,γ,?_,.inl rfl,h,?_,?_,(hs.put _ (bP rfl)),hk⟩
 simp[execOp,resolve,invoke,builtin,hrun];split;exact gU.refl _ _ _ _;exact gU.setB hi hgm rfl;split;rename_i h0;rw[hemp h0];have h2:cQ cs lo (dZ [])=cs:=by simp[dZ,cQ]
 rw[h2,Az hb (by simp)];exact hi;rename_i h0;rw[hoff (fun e=>h0 (hn0 e))]
 refine hi.setObj hgm rfl ?_;have:=sK (off:=lo) hws hwr hrc (by
   have:(dZ (s.data.toList.take n)).length<=n:=by simp[dZ];omega
   omega)
 exact⟨_,T,kK hh (dJ _ _ _ _),this.1,this.2⟩
theorem O8{oper:Oper}{x:aH}(hc:bB P oper=some (.cvsb x)):
  ∃s d e ox,oper.op=.convert s d ox/\P.underlying s=some .string/\P.underlying d=some (.slice e)/\P.underlying e=some (.int .u8)/\x=aU ox:=by
 obtain⟨s,d,ox,he⟩:=aHn (gZ hc rfl);simp only[bB,he,mC] at hc;split at hc;cases hc;cases hc;split at hc<;>cases hc;rename_i e h1 h2;split at hc;rename_i h3;injection hc with hc;injection hc with hc;exact⟨s,d,e,ox,he,h1,h2,h3,hc.symm⟩;cases hc;cases hc
theorem WR.cvsb{x:aH}{s:ByteArray}(hgd:iY G as o.guard)(ha:o.ai=.cvsb x)(hx:dB (aK G as.sl x)=some s)
  (h:WR P G k rest Q ⟨aQ as.sl o.dst (.one (.dc (.slc (gD s)))),as.hp⟩):WR P G k (o::rest) Q as:=by
 refine WR.step hgd (fun F γ a w oper hc hd hi hs hg hk=>?_)
 rw[ha] at hc;obtain⟨src,dstT,e,ox,hop,hu1,hu2,hu3,rfl⟩:=O8 hc;have hxv:=sI (cR (G:=G) hs hg ox) hx;obtain⟨dst,op,type,pos,after,guard⟩:=oper;simp only at hop;subst hop;have hrun:=Lib.run_convert_string_bytes (P:=P) w src dstT e s hu1 hu2 hu3;have hold:=Lib.bytesWorld_at_old w e s;have hnew:=Lib.bytesWorld_at_new w e s;have hlenD:(gD s).length=s.size:=by simp[gD]
 let F':Fz:=fun b=>if b=w.heap.size then some (.cells (Lib.bytesCells w e s) e ((Lib.bytesCells w e s).size,(Lib.bytesCells w e s).size+1)) else F b
 have hFold:∀ b o,F b=some o->F' b=some o:=fun b o hb=>by
   have:=hi.fzlt hb;show (if b=w.heap.size then _ else F b)=some o
   rw[if_neg (by omega)];exact hb
 have hsub:F.sub F':=hFold;have hFnew:F' w.heap.size=some (.cells (Lib.bytesCells w e s) e ((Lib.bytesCells w e s).size,(Lib.bytesCells w e s).size+1)):=if_pos rfl;have hExt:gU k F γ w F' γ (Lib.bytesWorld w e s):=by
  refine⟨hsub,rfl,rfl,rfl,by rw[Lib.bytesWorld_size];omega,fun b hb _=>hold b hb,fun b o hb=>?_,fun i b hb=>.inl ⟨i,hb⟩,fun _ _ _ h=>h⟩
  by_cases hbe:b=w.heap.size;exact .inr (.inl (by omega));have:F' b=F b:=if_neg hbe;rw[this] at hb;exact .inl hb
 have hInv:dE F' γ as.hp (Lib.bytesWorld w e s):=by
  refine⟨fun b o hb=>?_,hi.len,hi.nd,fun i b hb=>?_,fun i ob x0 h1 h2=>?_⟩
  by_cases hbe:b=w.heap.size;subst hbe;rw[hFnew] at hb;rw[hnew];exact hb;have:F' b=F b:=if_neg hbe;rw[this] at hb;rw[hold b (hi.fzlt hb)];exact hi.fz b o hb;have:=hi.lt hb;have e1:F' b=F b:=if_neg (by omega);rw[e1];exact hi.disj i b hb;have hok:=hi.ok i ob x0 h1 h2;exact hok.ext hsub (fun _ _ h=>h) (fun b hb2=>hold b (hok.lt hb2))
 have hcapge:s.size<=grownCap w s.size 0 e:=by
  show s.size<=s.size+_;exact Nat.le_add_right _ _
 have hrd:RD F' (.slc (gD s)) (.slice (some ⟨w.heap.size,0,none⟩) s.size (grownCap w s.size 0 e)):=by
  rw[<- hlenD];refine .slc w.heap.size 0 _ 1 (gD s) (fun i _=>.int .u8 (s.data.toList.getD i 0).toNat) (fun q hq=>?_) (fun i j q d h1 h2=>?_) (fun i j q d h1 h2=>?_) (by rw[hlenD];exact hcapge)
  simp only[gD,List.mem_map] at hq;obtain⟨bb,_,rfl⟩:=hq;rfl;simp only[gD,aXI] at h1;cases hq:s.data.toList[i]? with
  |none=>rw[hq] at h1;cases h1
  |some bb=>
   rw[hq] at h1;injection h1 with h1;subst h1
   cases j with
   |zero=>
    injection h2 with h2;subst h2
    rw[aXN,hq];exact .raw _ rfl
   |succ j=>simp at h2
  have hj:j=0:=by
   simp only[gD,aXI] at h1;cases hq:s.data.toList[i]? with
   |none=>rw[hq] at h1;cases h1
   |some bb=>
    rw[hq] at h1;injection h1 with h1;subst h1
    cases j with
    |zero=>rfl
    |succ j=>simp at h2
  subst hj;have hilt:i<s.size:=by have:=aG h1;omega
  have hcell:=Lib.bytesWorld_cell w e s i hilt;simp only[Fz.cell?,hFnew,Option.isSome_none,aYP,if_false,aYv,aYp,aYi];simpa[World.cell?,hnew] using hcell
 refine .inl ⟨.value (.slice (some ⟨w.heap.size,0,none⟩) s.size (grownCap w s.size 0 e)),_,_,_,F',γ,?_,.inl rfl,h,hExt,hInv,((hs.ext hsub (fun _ _ h=>h)).put _ (.one _ _ (.dc _ _ hrd))),hk⟩
 simp[execOp,hxv,hrun]
theorem WR.cvsA{x:aH}{s:ByteArray}(hgd:iY G as o.guard)(ha:o.ai=.cvsb x)(hx:dB (aK G as.sl x)=some s)
  (h:∀cap,WR P G k rest Q ⟨aQ as.sl o.dst (.one (.bld as.hp.length s.size)),as.hp++[.arr cap 1 (gD s)]⟩):WR P G k (o::rest) Q as:=by
 refine WR.step hgd (fun F γ a w oper hc hd hi hs hg hk=>?_)
 rw[ha] at hc;obtain⟨src,dstT,e,ox,hop,hu1,hu2,hu3,rfl⟩:=O8 hc;have hxv:=sI (cR (G:=G) hs hg ox) hx;obtain⟨dst,op,type,pos,after,guard⟩:=oper;simp only at hop;subst hop;have hrun:=Lib.run_convert_string_bytes (P:=P) w src dstT e s hu1 hu2 hu3;have hold:=Lib.bytesWorld_at_old w e s;have hnew:=Lib.bytesWorld_at_new w e s;have hlenD:(gD s).length=s.size:=by simp[gD]
 have hcap:s.size<=grownCap w s.size 0 e:=by
  show s.size<=s.size+_;exact Nat.le_add_right _ _
 have hbc:(Lib.bytesCells w e s).size=grownCap w s.size 0 e:=by
  simp[Lib.bytesCells];omega
 have hx':∀b,(OI.arr (some w.heap.size) (grownCap w s.size 0 e)).blk=some b->b=w.heap.size:=fun b hb=>by simp[OI.blk] at hb;exact hb.symm
 have hE:gU k F γ w F (γ++[.arr (some w.heap.size) (grownCap w s.size 0 e)]) (Lib.bytesWorld w e s):=by
  refine⟨fun _ _ h=>h,rfl,rfl,rfl,by rw[Lib.bytesWorld_size];omega,fun b hb _=>hold b hb,fun _ _ h=>.inl h,fun i b h=>?_,fun i _ b h=>bQ h⟩
  obtain⟨y,hy,hyb⟩:=cU h;rcases gW hy with h1|⟨h1,rfl⟩;exact .inl ⟨i,bM h1 hyb⟩;exact .inr (by rw[hx' b hyb];exact aXF _)
 have hI:dE F (γ++[.arr (some w.heap.size) (grownCap w s.size 0 e)]) (as.hp++[.arr (grownCap w s.size 0 e) 1 (gD s)]) (Lib.bytesWorld w e s):=by
  refine hi.pushG (fun b hb=>hold b hb) _ _ hx' ⟨rfl,by rw[hlenD];exact hcap,fun q hq=>?_,Lib.bytesCells w e s,e,⟨_,hnew,fun o ho=>by simp only;omega⟩,by rw[hbc,aYv],fun i j q d v h1 h2 h3=>?_⟩
  simp only[gD,List.mem_map] at hq;obtain⟨bb,_,rfl⟩:=hq;rfl;have hj:j=0:=by
   simp only[gD,aXI] at h1;cases hq:s.data.toList[i]? with
   |none=>rw[hq] at h1;cases h1
   |some bb=>
    rw[hq] at h1;injection h1 with h1;subst h1
    cases j with
    |zero=>rfl
    |succ j=>simp at h2
  subst hj;have hilt:i<s.size:=by have:=aG h1;omega
  have hcell:=Lib.bytesWorld_cell w e s i hilt;have h4:(Lib.bytesCells w e s)[i]?=some (.int .u8 (s.data.toList.getD i 0).toNat):=by
   simpa[World.cell?,hnew] using hcell
  rw[aYv,aYp,h4] at h3;injection h3 with h3
  subst h3;simp only[gD,aXI] at h1;cases hq:s.data.toList[i]? with
  |none=>rw[hq] at h1;cases h1
  |some bb=>
   rw[hq] at h1;injection h1 with h1;subst h1
   injection h2 with h2;subst h2
   rw[aXN,hq];exact .raw _ rfl
 have hS:bV F (γ++[.arr (some w.heap.size) (grownCap w s.size 0 e)]) (aQ as.sl o.dst (.one (.bld as.hp.length s.size))) (a.put o.dst (.slice (some ⟨w.heap.size,0,none⟩) s.size (grownCap w s.size 0 e))):=by
  refine (hs.ext (fun _ _ h=>h) (fun _ _ h=>bQ h)).put o.dst (.one _ _ (.bld _ _ _ _ ?_))
  rw[<- hi.len];simp
 refine .inl ⟨.value (.slice (some ⟨w.heap.size,0,none⟩) s.size (grownCap w s.size 0 e)),_,_,_,F,_,?_,.inl rfl,h _,hE,hI,hS,by simp;omega⟩;simp[execOp,hxv,hrun]
def O9(es:List (List DC))(k:Nat)(l:List UInt8):List (List DC):=es.take k++(l.map fun b=>[DC.raw (.int .u8 b.toNat)])++es.drop (k+l.length)
theorem aCG{es:List (List DC)}{k:Nat}{l:List UInt8}(h:k+l.length<=es.length):(O9 es k l).length=es.length:=by simp[O9];omega
theorem Pa{es:List (List DC)}{k:Nat}{l:List UInt8}(h:k+l.length<=es.length)(i:Nat):(O9 es k l)[i]?=if k<=i/\i<k+l.length then (l[i-k]?).map (fun b=>[DC.raw (.int .u8 b.toNat)]) else es[i]?:=by
 unfold O9;split;rename_i hc;rw[aXR,aXY (by simp;omega),aXU (by simp;omega),aXI];simp only[aXK,aY1 (show k<=es.length by omega)];rename_i hc;by_cases h1:i<k;rw[aXR,aXU (by simp;omega),aZd h1];rw[aXY (by simp;omega),aX9];congr 1;simp;omega
theorem Pb{es:List (List DC)}{k:Nat}:O9 es k []=es:=by simp[O9]
theorem WR.cpyA{id lo n cap:Nat}{d x:aH}{es:List (List DC)}{s:ByteArray}(hgd:iY G as o.guard)(ha:o.ai=.cpys d x)(hd0:aK G as.sl d=.one (.bls id lo n 1))(hx:dB (aK G as.sl x)=some s)
  (hb:aI as.hp id=.arr cap 1 es) (hle:lo+n<=es.length)
  (h:WR P G k rest Q ⟨aQ as.sl o.dst (dG (.int .i64 (min s.size n:Nat))),as.hp.set id (.arr cap 1 (O9 es lo (s.data.toList.take n)))⟩):WR P G k (o::rest) Q as:=by
 refine WR.step hgd (fun F γ a w oper hc hd hi hs hg hk=>?_)
 rw[ha] at hc;obtain⟨t,u,e,od,ox,hop,hu,hin,rfl,rfl⟩:=O7 hc;have hdv:=cR (G:=G) hs hg od;rw[hd0] at hdv;have hxv:=sI (cR (G:=G) hs hg ox) hx;by_cases hn0:n=0;subst hn0;obtain⟨p,c,hdval⟩:∃p c,a.eval od=.slice p 0 c:=by
  generalize a.eval od=v at hdv;cases hdv with|one c _ hcc=>cases hcc with|bls=>exact⟨_,_,rfl⟩
 obtain⟨dst,op,type,pos,after,guard⟩:=oper;simp only at hop;subst hop;have hinf:∃inf,P.info? e=some inf/\inf.size=1:=by
  cases hi1:P.info? e with
  |none=>rw[hi1] at hin;cases hin
  |some inf=>rw[hi1] at hin;injection hin with hin;exact⟨inf,rfl,hin⟩
 obtain⟨inf,hin,hin1⟩:=hinf;have hrun:(Builtin.copy_ #[t,u] type #[a.eval od,a.eval ox]).run P w=.ok (.int .i64 (min s.size 0:Nat)) w:=by
  cases p<;>simp[Builtin.copy_,hdval,hxv,run_underlying hu,Builtin.lenOf,Builtin.firstCells,sizeOf,typeInfo,hin,hin1,goInt,storeCells]
 rw[aYQ,Pb,Az hb (by simp)] at h;refine .inl ⟨.value (.int .i64 (min s.size 0:Nat)),.int .i64 (min s.size 0:Nat),w,_,F,γ,?_,.inl rfl,h,gU.refl _ _ _ _,hi,(hs.put _ (bP rfl)),hk⟩;simp[execOp,resolve,invoke,builtin,hrun];obtain⟨b,cap',c,hgm,hdval⟩:∃b cap' c,γ[id]?=some (.arr (some b) cap')/\a.eval od=.slice (some ⟨b,lo,none⟩) n c:=by
  generalize a.eval od=v at hdv;cases hdv with|one c _ hcc=>cases hcc with|bls _ _ _ _ b cap' c off hgm ho hcn=>
  have:=ho (by omega);rw[aYv] at this;subst this;rcases hgm with hgm|hgm
  exact⟨b,cap',c,hgm,rfl⟩;exact absurd hgm (hi.noArr hb)
 obtain⟨hcap,hec,hes,ws,T,hh,hws,hwr⟩:=hi.arr hb hgm;rw[aYv] at hws;obtain⟨dst,op,type,pos,after,guard⟩:=oper;simp only at hop;subst hop;have hsz:((s.data.toList.take n).map fun b=>Value.int .u8 b.toNat).length=min s.size n:=by simp[Nat.min_comm]
 have hinf:∃inf,P.info? e=some inf/\inf.size=1:=by
  cases hi1:P.info? e with
  |none=>rw[hi1] at hin;cases hin
  |some inf=>rw[hi1] at hin;injection hin with hin;exact⟨inf,rfl,hin⟩
 obtain⟨inf,hin,hin1⟩:=hinf;have hall:∀ v∈((s.data.toList.take n).map fun b=>Value.int .u8 b.toNat),is1 v=true:=fun v hv=>by
   obtain⟨q,_,rfl⟩:=List.mem_map.1 hv;rfl
 have hLg:∀q,((s.data.toList.take n).map fun b=>Value.int .u8 b.toNat)[q]?=((s.data.toList.take n)[q]?).map fun (b:UInt8)=>Value.int .u8 b.toNat:=fun q=>aXI
 have hemp:((s.data.toList.take n).map fun b=>Value.int .u8 b.toNat)=[]->s.data.toList.take n=[]:=fun h0=>by simpa using h0
 have hbl2:List.take (min s.size n) (List.map (fun b=>Value.int .u8 b.toNat) s.data.toList)=((s.data.toList.take n).map fun b=>Value.int .u8 b.toNat):=by
   rw[aYr,List.take_eq_take_iff];simp;omega
 have hlt:(s.data.toList.take n).length=min s.size n:=by simp[Nat.min_comm]
 generalize ((s.data.toList.take n).map fun b=>Value.int .u8 b.toNat)=L at hbl2 hsz hall hemp hLg
 have hst:=dH (P:=P) (off:=lo) L 0 w ws hh hall (by rw[hsz];omega);have hrun:(Builtin.copy_ #[t,u] type #[a.eval od,a.eval ox]).run P w=.ok (.int .i64 (min s.size n:Nat)) (if L=[] then w else setB w b (dQ ws lo L) T):=by
  have e1:Nat.min s.size n=min s.size n:=rfl;simp[Builtin.copy_,hdval,hxv,run_underlying hu,Builtin.lenOf,Builtin.firstCells,sizeOf,typeInfo,hin,hin1,hbl2,e1,hst,goInt]
 refine .inl ⟨.value (.int .i64 (min s.size n:Nat)),.int .i64 (min s.size n:Nat),(if L=[] then w else setB w b (dQ ws lo L) T),_,F,γ,?_,.inl rfl,h,?_,?_,(hs.put _ (bP rfl)),hk⟩
 simp[execOp,resolve,invoke,builtin,hrun];split;exact gU.refl _ _ _ _;exact gU.setB hi hgm rfl;split;rename_i h0;rw[hemp h0,Pb,Az hb (by simp)];exact hi;rename_i h0;have hfit:lo+(s.data.toList.take n).length<=es.length:=by omega
 refine hi.setObj hgm rfl ⟨hcap,by rw[aCG hfit];exact hec,fun q hq=>?_,_,T,kK hh (dJ _ _ _ _),by rw[dJ,hws,aYv],fun i' j e1 d v h1 h2 h3=>?_⟩
 obtain⟨i',hi'⟩:=aYZ hq;rw[Pa hfit] at hi';split at hi';obtain⟨bb,_,rfl⟩:=Option.map_eq_some_iff.1 hi';rfl;exact hes q (aX0 hi');rw[Pa hfit] at h1;rw[qR] at h3;simp only[aYp,aYv,hsz] at h3;split at h1;rename_i hc';obtain⟨bb,hb1,rfl⟩:=Option.map_eq_some_iff.1 h1;have hj:j=0:=by
  cases j with
  |zero=>rfl
  |succ j=>simp at h2
 subst hj;injection h2 with h2;subst h2
 rw[if_pos ⟨by omega,by omega,by omega⟩] at h3;rw[aYp,hLg,hb1] at h3;injection h3 with h3;subst h3
 exact .raw _ rfl;rename_i hc';have hj:j=0:=by
  have h8:=hes _ (aX0 h1);have:=aG h2;omega
 subst hj;rw[aYp] at h3;rw[if_neg (by
   rintro⟨a1,a2,_⟩;omega)] at h3
 exact hwr i' 0 e1 d v h1 h2 (by rw[aYv,aYp];exact h3)
end
end
section
def lP(F:Fz)(γ:List OI)(args:List AV)(vs:Array Value):Prop:=vs.size=args.length/\∀(i:Nat) av v,args[i]?=some av->vs[i]?=some v->RV F γ av v
def AC(P:Program)(G:aE)(f:FuncId)(args:List AV)(objs:List aC)(Q:AV->List aC->Prop):Prop:=
 ∀F γ (vs:Array Value) w,dE F γ objs w->eU F G->lP F γ args vs->
  Calls P f vs w fun e w'=>∃r av objs' F' γ',e=.returned r/\Q av objs'/\objs.length<=objs'.length/\gU objs.length F γ w F' γ' w'/\dE F' γ' objs' w'/\RV F' γ' av r
def QC(P:Program)(G:aE)(f:FuncId)(args:List AV)(r:AV):Prop:=AC P G f args [] fun av objs'=>av=r/\objs'=[]
mutual
def jN(ρ:Nat->Nat):aT->aT
 |.ptr id o=>.ptr (ρ id) o
 |.bld id n=>.bld (ρ id) n
 |.ept id i s o=>.ept (ρ id) i s o
 |.bls id l n s=>.bls (ρ id) l n s
 |.fn f caps=>.fn f (renL ρ caps)
 |.dc d=>.dc d
 |.ref cs=>.ref cs
 |.mpc es=>.mpc es
 |.junk=>.junk
def renL(ρ:Nat->Nat):List aT->List aT
 |[]=>[]
 |c::cs=>jN ρ c::renL ρ cs
end
def Gw(ρ:Nat->Nat):TV->TV
 |.one c=>.one (jN ρ c)
 |.agg cs=>.agg (cs.map (jN ρ))
def cY(ρ:Nat->Nat):AV->AV
 |.one c=>.one (jN ρ c)
 |.agg cs=>.agg (cs.map (jN ρ))
 |.tup l=>.tup (l.map (Gw ρ))
 |.junk=>.junk
def dC(ρ:Nat->Nat):aC->aC
 |.box cs=>.box (cs.map (jN ρ))
 |o=>o
section
variable {P:Program}{G:aE}{k:Nat}{F F':Fz}{γ γ':List OI}{w w':World}{ρ:Nat->Nat}
theorem Gx:∀(cs:List aT) (i:Nat),(renL ρ cs)[i]?=(cs[i]?).map (jN ρ)
 |[],i=>by simp[renL]
 |c::cs,0=>by simp[renL]
 |c::cs,i+1=>by simp[renL,Gx cs i]
theorem Gy:∀(cs:List aT),(renL ρ cs).length=cs.length
 |[]=>rfl
 |c::cs=>by simp[renL,Gy cs]
theorem RC.ren(hg:∀(id:Nat) (o:OI),γ[id]?=some o->γ'[ρ id]?=some o){c:aT}{v:Value}(h:RC F γ c v):RC F γ' (jN ρ c) v:=by
 induction h with
 |dc d v h=>exact .dc d v h
 |ptr id off b h=>exact .ptr _ _ _ (hg _ _ h)
 |bldN id cap h=>exact .bldN _ _ (hg _ _ h)
 |bld id n b cap h=>exact .bld _ _ _ _ (hg _ _ h)
 |ept id i size off b cap h=>exact .ept _ _ _ _ _ _ (hg _ _ h)
 |bls id lo n size b cap c off h ho hc=>exact .bls _ _ _ _ _ _ _ _ (h.imp (hg _ _) (hg _ _)) ho hc
 |ref cs b off g hr hc=>exact .ref cs b off g hr hc
 |mpc es r clk ents h he h1=>exact .mpc es r clk ents h he h1
 |fn f caps g hr ih=>
  simp only[jN];rw[<- Gy (ρ:=ρ) caps];refine .fn f (renL ρ caps) g (fun i c hc=>?_)
  rw[Gx] at hc;cases hci:caps[i]? with
  |none=>simp[hci] at hc
  |some c0=>simp[hci] at hc;subst hc;exact ih i c0 hci
 |junk v h=>exact .junk v h
theorem RC.unren{c:aT}:∀{v:Value},RC F γ (jN ρ c) v->(∀(id:Nat) (o:OI),γ[ρ id]?=some o->γ'[id]?=some o)->RC F γ' c v:=by
 have key:∀n,∀c:aT,SizeOf.sizeOf c<=n->∀{v:Value},RC F γ (jN ρ c) v->(∀(id:Nat) (o:OI),γ[ρ id]?=some o->γ'[id]?=some o)->RC F γ' c v:=by
  intro n
  induction n with
  |zero=>intro c h;cases c<;>simp at h
  |succ n ih=>
   intro c hsz v h hg;cases c with
   |dc d=>cases h with|dc _ _ h=>exact .dc _ _ h
   |ptr id off=>cases h with|ptr _ _ b h=>exact .ptr _ _ _ (hg _ _ h)
   | bld id n=>cases h with
     | bldN _ cap h=>exact .bldN _ _ (hg _ _ h)
     | bld _ _ b cap h=>exact .bld _ _ _ _ (hg _ _ h)
   |ept id i size off=>cases h with|ept _ _ _ _ b cap h=>exact .ept _ _ _ _ _ _ (hg _ _ h)
   |bls id lo n size=>cases h with|bls _ _ _ _ b cap c off h ho hc=>exact .bls _ _ _ _ _ _ _ _ (h.imp (hg _ _) (hg _ _)) ho hc
   |ref cs=>cases h with|ref _ b off g hr hc=>exact .ref _ b off g hr hc
   |mpc es=>cases h with|mpc _ r clk ents h he h1=>exact .mpc es r clk ents h he h1
   |junk=>cases h with|junk _ h=>exact .junk _ h
   |fn f caps=>
    simp only[jN] at h;have hmem:∀c∈caps,SizeOf.sizeOf c<SizeOf.sizeOf caps:=fun c hc=>List.sizeOf_lt_of_mem hc
    have hs':SizeOf.sizeOf caps<=n:=by simp at hsz;omega
    generalize hx:renL ρ caps=cs at h;cases h with
    |fn _ _ g hr=>
     have hl:cs.length=caps.length:=by rw[<- hx,Gy]
     rw[hl];refine .fn f caps g (fun i c hc=>?_)
     have h1:cs[i]?=some (jN ρ c):=by rw[<- hx,Gx,hc];rfl
     exact ih c (by have:=hmem c (aX0 hc);omega) (hr i _ h1) hg
 intro v h hg;exact key _ c (aXF _) h hg
theorem RCs.renAll{cs:List aT}{vs:Array Value}(hg:∀(id:Nat) (o:OI),γ[id]?=some o->γ'[ρ id]?=some o)(h:∀(i:Nat) c v,cs[i]?=some c->vs[i]?=some v->RC F γ c v):
  ∀(i:Nat) c v,(cs.map (jN ρ))[i]?=some c->vs[i]?=some v->RC F γ' c v:=by
 intro i c v hc hv;rw[aXI] at hc;cases hci:cs[i]? with
 |none=>simp[hci] at hc
 |some c0=>simp[hci] at hc;subst hc;exact (h i c0 v hci hv).ren hg
theorem RCs.unrenAll{cs:List aT}{vs:Array Value}(hg:∀(id:Nat) (o:OI),γ[ρ id]?=some o->γ'[id]?=some o)(h:∀(i:Nat) c v,(cs.map (jN ρ))[i]?=some c->vs[i]?=some v->RC F γ c v):
  ∀(i:Nat) c v,cs[i]?=some c->vs[i]?=some v->RC F γ' c v:=by
 intro i c v hc hv;exact (h i (jN ρ c) v (by rw[aXI,hc];rfl) hv).unren hg
theorem RV.ren(hg:∀(id:Nat) (o:OI),γ[id]?=some o->γ'[ρ id]?=some o){av:AV}{v:Value}(h:RV F γ av v):RV F γ' (cY ρ av) v:=by
 cases h with
 |one c v h=>exact .one _ _ (h.ren hg)
 |agg cs vs hs h=>exact .agg _ _ (by simpa using hs) (RCs.renAll hg h)
 |tup l vs hs h=>
  refine .tup _ _ (by simpa using hs) (fun i t v ht hv=>?_)
  rw[aXI] at ht;cases hti:l[i]? with
  |none=>simp[hti] at ht
  |some t0=>
   simp[hti] at ht;subst ht;cases h i t0 v hti hv with
   |one c v h=>exact .one _ _ (h.ren hg)
   |agg cs vs hs h=>exact .agg _ _ (by simpa using hs) (RCs.renAll hg h)
 |junk v=>exact .junk v
theorem RV.unren(hg:∀(id:Nat) (o:OI),γ[ρ id]?=some o->γ'[id]?=some o){av:AV}{v:Value}(h:RV F γ (cY ρ av) v):RV F γ' av v:=by
 cases av with
 |one c=>cases h with|one _ _ h=>exact .one _ _ (h.unren hg)
 |agg cs=>cases h with|agg _ vs hs h=>exact .agg _ _ (by simpa using hs) (RCs.unrenAll hg h)
 |junk=>exact .junk _
 |tup l=>
  cases h with
  |tup _ vs hs h=>
   refine .tup _ _ (by simpa using hs) (fun i t v ht hv=>?_)
   have:=h i (Gw ρ t) v (by rw[aXI,ht];rfl) hv;cases t with
   |one c=>cases this with|one _ _ h=>exact .one _ _ (h.unren hg)
   |agg cs=>cases this with|agg _ vs hs h=>exact .agg _ _ (by simpa using hs) (RCs.unrenAll hg h)
theorem OK.ren{o:aC}{x:OI}(hg:∀(id:Nat) (o:OI),γ[id]?=some o->γ'[ρ id]?=some o)(h:OK F γ w o x):OK F γ' w (dC ρ o) x:=by
 cases o with
 |box cs=>
  cases x with
  |box b=>obtain⟨vs,T,h1,h2,h3⟩:=h;exact⟨vs,T,h1,by simpa using h2,RCs.renAll hg h3⟩
  |arr b c=>exact h.elim
  |dead=>exact h.elim
 | arr cap size es=>cases x with
   | box b=>exact h.elim
   | arr b c=>cases b with
     | none=>exact h
     | some b=>exact h
   | dead=>exact h.elim
 |dead=>cases x<;>exact h
theorem OK.unren{o:aC}{x:OI}(hg:∀(id:Nat) (o:OI),γ[ρ id]?=some o->γ'[id]?=some o)(h:OK F γ w (dC ρ o) x):OK F γ' w o x:=by
 cases o with
 |box cs=>
  cases x with
  |box b=>obtain⟨vs,T,h1,h2,h3⟩:=h;exact⟨vs,T,h1,by simpa using h2,RCs.unrenAll hg h3⟩
  |arr b c=>exact h.elim
  |dead=>exact h.elim
 | arr cap size es=>cases x with
   | box b=>exact h.elim
   | arr b c=>cases b with
     | none=>exact h
     | some b=>exact h
   | dead=>exact h.elim
 |dead=>cases x<;>exact h
end
end
section
def cF(J:List Nat)(n:Nat)(t:Nat):Nat:=match J[t]? with|some j=>j|none=>n+(t-J.length)
def kE{α:Type}:List Nat->List α->List α->List α
 |j::J,x::xs,l=>kE J xs (l.set j x)
 |_,_,l=>l
def hZ:aC->Bool
 |.box _=>true
 |_=>false
section
variable {α:Type}
theorem gJ:∀(J:List Nat) (xs l:List α),(kE J xs l).length=l.length
 |[],_,l=>by simp[kE]
 |j::J,[],l=>by simp[kE]
 |j::J,x::xs,l=>by simp[kE,gJ J xs]
theorem sN:∀(J:List Nat) (xs l:List α) (i:Nat),i∉J->(kE J xs l)[i]?=l[i]?
 |[],_,l,i,_=>by simp[kE]
 |j::J,[],l,i,_=>by simp[kE]
 | j::J,x::xs,l,i,h=>by
   simp only[kE];rw[sN J xs _ i (fun hm=>h (aX3 _ hm)),aXW (fun e=>h (by subst e;exact aXV))]
theorem A0:∀(J:List Nat) (xs l:List α) (t j:Nat) (x:α),J.Nodup->J[t]?=some j->xs[t]?=some x->j<l.length->(kE J xs l)[j]?=some x
 |[],_,l,t,j,x,_,h,_,_=>by simp at h
 |j0::J,[],l,t,j,x,_,_,h,_=>by simp at h
 | j0::J,x0::xs,l,t,j,x,hn,hj,hx,hl=>by
   simp only[kE];rw[List.nodup_cons] at hn;cases t with
   | zero=>
     simp at hj hx;subst hj;subst hx;rw[sN J xs _ j0 hn.1,aX7 hl]
   | succ t=>exact A0 J xs _ t j x hn.2 (by simpa using hj) (by simpa using hx) (by simpa using hl)
end
theorem Z3{J:List Nat}(h:J.Nodup){s t j:Nat}(hs:J[s]?=some j)(ht:J[t]?=some j):s=t:=by
 have h1:=aG hs;have h2:=aG ht;have e1:=(List.getElem?_eq_some_iff.1 hs).2;have e2:=(List.getElem?_eq_some_iff.1 ht).2;exact (List.getElem_inj h).1 (e1.trans e2.symm)
section
variable {P:Program}{G:aE}{k:Nat}{F:Fz}{γ:List OI}{w:World}{as:AS}{a:Act}
theorem Km{f:FuncId}{cargs:List AV}{objs:List aC}{J:List Nat}{Qc:AV->List aC->Prop}(hac:AC P G f cargs objs Qc)(hJ:J.Nodup)(hlen:objs.length=J.length)
  (hobj:∀(t j:Nat) o,J[t]?=some j->objs[t]?=some o->as.hp[j]?=some (dC (cF J as.hp.length) o))
  (hi:dE F γ as.hp w) (hs:bV F γ as.sl a) (hg:eU F G) (hk:k<=γ.length) {vs:Array Value} (hv:lP F γ (cargs.map (cY (cF J as.hp.length))) vs):
  Calls P f vs w fun e w'=>∃ r av objs',e=.returned r/\Qc av objs'/\∃ F' γ',gU k F γ w F' γ' w'/\
    dE F' γ' (kE J (objs'.map (dC (cF J as.hp.length))) (as.hp.map (cJ fun id=>J.contains id&&!hZ (aI as.hp id)))++(objs'.drop J.length).map (dC (cF J as.hp.length))) w'/\
    bV F' γ' (as.sl.map (bD fun id=>J.contains id&&!hZ (aI as.hp id))) a/\RV F' γ' (cY (cF J as.hp.length) av) r/\k<=γ'.length:=by
 generalize hρ:cF J as.hp.length=ρ at *;have ρ1:∀(t j:Nat),J[t]?=some j->ρ t=j:=fun t j h=>by rw[<- hρ];simp[cF,h]
 have ρ2:∀t,J.length<=t->ρ t=as.hp.length+(t-J.length):=fun t h=>by rw[<- hρ];simp[cF,aYz h]
 
 have hJlt:∀(t j:Nat),J[t]?=some j->j<as.hp.length:=by
  intro t j h;have ht:t<objs.length:=hlen ▸ aG h;exact aG (hobj t j _ h (aXJ ht))
 let γe:List OI:=J.map fun j=>γ.getD j .dead
 have ge:∀(t j:Nat),J[t]?=some j->γe[t]?=γ[j]?:=by
  intro t j h;have hj:j<γ.length:=by rw[hi.len];exact hJlt t j h
  simp[γe,h,aXN,aXJ hj]
 have geN:∀(t:Nat),J.length<=t->γe[t]?=none:=fun t h=>aYz (by simpa[γe] using h)
 have hback:∀(id:Nat) (o:OI),γ[ρ id]?=some o->γe[id]?=some o:=by
  intro id o h;by_cases hid:id<J.length;have hj:J[id]?=some (J[id]'hid):=aXJ hid;rw[ρ1 _ _ hj] at h;rw[ge _ _ hj];exact h;rw[ρ2 id (by omega)] at h;rw[aYz (by rw[hi.len];omega)] at h;cases h
 have be:∀t b,bZ γe t=some b->∃j,J[t]?=some j/\bZ γ j=some b:=by
  intro t b h;obtain⟨y,hy,hyb⟩:=cU h;have ht:t<J.length:=by have:=aG hy;simpa[γe] using this
  have hj:J[t]?=some (J[t]'ht):=aXJ ht;rw[ge _ _ hj] at hy;exact⟨_,hj,bM hy hyb⟩
 have hie:dE F γe objs w:=by
  refine⟨hi.fz,by simp[γe,hlen],?_,?_,?_⟩;intro s t b h1 h2;obtain⟨j1,hj1,hb1⟩:=be s b h1;obtain⟨j2,hj2,hb2⟩:=be t b h2;have:=hi.nd _ _ _ hb1 hb2;subst this;exact Z3 hJ hj1 hj2;intro t b h;obtain⟨j,_,hb⟩:=be t b h;exact hi.disj j b hb;intro t o x h1 h2;have ht:t<J.length:=by have:=aG h2;simpa[γe] using this
  have hj:J[t]?=some (J[t]'ht):=aXJ ht;rw[ge _ _ hj] at h2;exact (hi.ok _ _ x (hobj t _ o hj h1) h2).unren hback
 have hve:lP F γe cargs vs:=by
  refine⟨by simpa using hv.1,fun i av v h1 h2=>?_⟩
  exact (hv.2 i (cY ρ av) v (by rw[aXI,h1];rfl) h2).unren hback
 refine (hac F γe vs w hie hg hve).mono ?_;rintro e w' ⟨r,av,objs',F',γ',rfl,hq,hlo,hE,hI,hR⟩;refine⟨r,av,objs',rfl,hq,F',kE J γ' γ++γ'.drop J.length,?_⟩;have hγl:γ'.length=objs'.length:=hI.len
 
 have hfwd:∀(id:Nat) (o:OI),γ'[id]?=some o->(kE J γ' γ++γ'.drop J.length)[ρ id]?=some o:=by
  intro id o h;by_cases hid:id<J.length;have hj:J[id]?=some (J[id]'hid):=aXJ hid;rw[ρ1 _ _ hj];have hjl:J[id]'hid<γ.length:=by rw[hi.len];exact hJlt _ _ hj
  exact bQ (A0 J γ' γ id _ o hJ hj h hjl);rw[ρ2 id (by omega),aXY (by rw[gJ,hi.len];omega),gJ,hi.len,aY9,aX9];rw[show J.length+(id-J.length)=id by omega];exact h
 have hold:∀(i:Nat) (o:OI),i∉J->γ[i]?=some o->(kE J γ' γ++γ'.drop J.length)[i]?=some o:=fun i o hn h=>bQ (by rw[sN J γ' γ i hn];exact h)
 have hkeep:∀(id:Nat) (o:OI),(J.contains id&&!hZ (aI as.hp id))=false->γ[id]?=some o->(kE J γ' γ++γ'.drop J.length)[id]?=some o:=by
  intro id o hp h;by_cases hm:id∈J;simp only[Bool.and_eq_false_iff,List.contains_eq_mem,decide_eq_false_iff_not,Bool.not_eq_false'] at hp;rcases hp with hp|hp
  exact absurd hm hp;obtain⟨t,ht⟩:=aYZ hm;have hl:id<as.hp.length:=by rw[<- hi.len];exact aG h
  have hgd:as.hp[id]?=some (aI as.hp id):=by simp[aI,aXN,aXJ hl]
  have hok:=hi.ok id _ o hgd h;cases hob:aI as.hp id with
  |box cs=>
   rw[hob] at hok;cases o with
   |box b=>
    have htl:=aG ht;have:=hE.box t (by omega) b (by rw[ge _ _ ht];exact h);have h2:=hfwd t _ this;rwa[ρ1 _ _ ht] at h2
   |arr b c=>exact hok.elim
   |dead=>exact hok.elim
  |arr _ _ _=>rw[hob] at hp;simp[hZ] at hp
  |dead=>rw[hob] at hp;simp[hZ] at hp
  exact hold id o hm h
 
 have hnew:∀i b,bZ (kE J γ' γ++γ'.drop J.length) i=some b->(i∉J/\bZ γ i=some b)\/(∃t,ρ t=i/\bZ γ' t=some b):=by
  intro i b h;obtain⟨y,hy,hyb⟩:=cU h;by_cases hil:i<γ.length;rw[aXU (by rw[gJ];exact hil)] at hy;by_cases hm:i∈J;obtain⟨t,ht⟩:=aYZ hm;have htl:=aG ht;have htγ:t<γ'.length:=by omega
  have h2:=A0 J γ' γ t i _ hJ ht (aXJ htγ) hil;rw[h2] at hy;injection hy with hy
  subst hy;exact .inr ⟨t,ρ1 _ _ ht,bM (aXJ htγ) hyb⟩;rw[sN J γ' γ i hm] at hy;exact .inl ⟨hm,bM hy hyb⟩;rw[aXY (by rw[gJ];omega),gJ,aX9] at hy;refine .inr ⟨J.length+(i-γ.length),?_,bM hy hyb⟩;rw[ρ2 _ (by omega),<- hi.len];omega
 have hlt':∀t b,bZ γ' t=some b->(∃j,j∈J/\bZ γ j=some b)\/w.heap.size<=b:=by
  intro t b h;rcases hE.blk t b h with⟨s,hs'⟩|h
  obtain⟨j,hj,hb⟩:=be s b hs';exact .inl ⟨j,aX0 hj,hb⟩;exact .inr h
 have hfar:∀i b,i∉J->bZ γ i=some b->w'.heap[b]?=w.heap[b]?:=by
  intro i b hn hb;refine hE.far b (hi.lt hb) (fun t ht=>?_)
  obtain⟨j,hj,hjb⟩:=be t b ht;exact hn (by rw[hi.nd _ _ _ hb hjb];exact aX0 hj)
 have hρinj:∀s t b,bZ γ' s=some b->bZ γ' t=some b->ρ s=ρ t:=fun s t b h1 h2=>by rw[hI.nd _ _ _ h1 h2]
 refine⟨?_,?_,hs.kill hE.sub hkeep,hR.ren hfwd,by simp[gJ];omega⟩;refine⟨hE.sub,hE.os,hE.tape,hE.output,hE.size,fun b hb hn=>?_,fun b o h=>?_,fun i b h=>?_,fun i hik b h=>?_⟩
 exact hE.far b hb (fun t ht=>by obtain⟨j,_,hjb⟩:=be t b ht;exact hn j hjb)
 rcases hE.new b o h with h|h|⟨t,ht⟩;exact .inl h;exact .inr (.inl h);obtain⟨j,_,hjb⟩:=be t b ht;exact .inr (.inr ⟨j,hjb⟩);rcases hnew i b h with⟨_,h⟩|⟨t,_,h⟩;exact .inl ⟨i,h⟩;rcases hlt' t b h with⟨j,_,h⟩|h;exact .inl ⟨j,h⟩;exact .inr h;have hl:i<as.hp.length:=by rw[<- hi.len];exact aG h
 have hgd:as.hp[i]?=some (aI as.hp i):=by simp[aI,aXN,aXJ hl]
 have hok:=hi.ok i _ _ hgd h;refine hkeep i _ ?_ h;cases hob:aI as.hp i with
 |box cs=>simp[hZ]
 |arr _ _ _=>rw[hob] at hok;exact hok.elim
 |dead=>rw[hob] at hok;exact hok.elim
 refine⟨hI.fz,by simp[gJ,hi.len,hγl],?_,?_,?_⟩;intro i j b h1 h2;rcases hnew i b h1 with⟨a1,a2⟩|⟨t,a1,a2⟩<;>rcases hnew j b h2 with⟨c1,c2⟩|⟨s,c1,c2⟩
 exact hi.nd _ _ _ a2 c2;exfalso;rcases hlt' s b c2 with⟨j',hj',hb'⟩|h
 exact a1 (by rw[hi.nd _ _ _ a2 hb'];exact hj');have:=hi.lt a2;omega;exfalso;rcases hlt' t b a2 with⟨j',hj',hb'⟩|h
 exact c1 (by rw[hi.nd _ _ _ c2 hb'];exact hj');have:=hi.lt c2;omega;rw[<- a1,<- c1];exact hρinj _ _ _ a2 c2;intro i b h;rcases hnew i b h with⟨a1,a2⟩|⟨t,_,a2⟩
 cases hF:F' b with
 |none=>rfl
 |some o=>
  exfalso;rcases hE.new b o hF with h|h|⟨t,ht⟩
  rw[hi.disj i b a2] at h;cases h;have:=hi.lt a2;omega;obtain⟨j,hj,hjb⟩:=be t b ht;exact a1 (by rw[hi.nd _ _ _ a2 hjb];exact aX0 hj)
 exact hI.disj t b a2;intro i o x h1 h2;by_cases hil:i<γ.length;rw[aXU (by rw[gJ];exact hil)] at h2;rw[aXU (by rw[gJ,aXC,<- hi.len];exact hil)] at h1;by_cases hm:i∈J;obtain⟨t,ht⟩:=aYZ hm;have htl:=aG ht;have htγ:t<γ'.length:=by omega
 have hto:t<objs'.length:=by omega
 rw[A0 J γ' γ t i _ hJ ht (aXJ htγ) hil] at h2;rw[A0 J _ _ t i (dC ρ (objs'[t]'hto)) hJ ht (by rw[aXI,aXJ hto];rfl) (by rw[aXC,<- hi.len];exact hil)] at h1;injection h1 with h1;injection h2 with h2;subst h1;subst h2
 exact (hI.ok t _ _ (aXJ hto) (aXJ htγ)).ren hfwd;rw[sN J _ _ i hm] at h1 h2;rw[aXI] at h1;cases ho:as.hp[i]? with
 |none=>simp[ho] at h1
 |some o0=>
  simp only[ho,aXG,Option.some.injEq] at h1;subst h1;exact (hi.ok i o0 x ho h2).kill hE.sub hkeep (fun b hb=>hfar i b hm (bM h2 hb))
 rw[aXY (by rw[gJ];omega),gJ,aX9] at h2;rw[aXY (by rw[gJ,aXC,<- hi.len];omega),gJ,aXC,<- hi.len,aXI,aX9] at h1;cases ho:objs'[J.length+(i-γ.length)]? with
 |none=>simp[ho] at h1
 |some o0=>
  simp[ho] at h1;subst h1;exact (hI.ok _ o0 x ho h2).ren hfwd
end
end
section
theorem Ac{p:Nat->Bool}(hp:∀id,p id=false)(c:aT):cG p c=c:=by
 have:p=fun _=>false:=funext hp
 subst this;simp[cG,aT.keep_none]
theorem S8{p:Nat->Bool}(hp:∀id,p id=false)(t:TV):sG p t=t:=by
 cases t<;>simp[sG,Ac hp,List.map_id'']
theorem S9{p:Nat->Bool}(hp:∀id,p id=false)(v:AV):bD p v=v:=by
 cases v<;>simp[bD,Ac hp,S8 hp,List.map_id'']
theorem Ta{p:Nat->Bool}(hp:∀id,p id=false)(o:aC):cJ p o=o:=by
 cases o<;>simp[cJ,Ac hp,List.map_id'']
theorem pS{p:Nat->Bool}(hp:∀id,p id=false)(l:List AV):l.map (bD p)=l:=by simp[S9 hp,List.map_id'']
theorem pT{p:Nat->Bool}(hp:∀id,p id=false)(l:List aC):l.map (cJ p)=l:=by simp[Ta hp,List.map_id'']
def Wf(P:Program)(f:FuncId):Bool:=
 match P.funcs[f]? with
 | some fn=>!(fn.name=="runtime.NumGoroutine"||fn.body.isNone)
 |none=>false
section
variable {P:Program}{G:aE}{k:Nat}{Q:AS->Prop}{as as':AS}{o:aN}{rest ops:List aN}{F:Fz}{γ:List OI}{w:World}{a:Act}
theorem kU{f:FuncId}(h:Wf P f=true)(args:Array Value):(callFunc f args).run P w=.ok (.enter f args) w:=by
 unfold Wf at h;cases hf:P.funcs[f]? with
 |none=>simp[hf] at h
 |some fn=>
  simp only[hf,aYC,Bool.or_eq_false_iff] at h;obtain⟨h1,h2⟩:=h;have h1':¬ fn.name="runtime.NumGoroutine":=by simpa using h1
  have h2':¬ fn.body=none:=by intro h;simp[h] at h2
  simp[callFunc,hf,h1',h2']
theorem A1{oper:Oper}{f:FuncId}{args:List aH}(hc:bB P oper=some (.call f args)):
  ∃c,oper.op=.call c/\c.callee=.value (.func f)/\args=c.args.toList.map aU/\Wf P f=true:=by
 have hk:=gZ hc rfl;obtain⟨c,he⟩:=Ma (.inl hk);obtain⟨dst,op,type,pos,after,guard⟩:=oper;obtain⟨callee,cargs,argTypes⟩:=c;simp only at he;subst he;simp only[cD] at hk;split at hk;rename_i f';simp only[bB,eQ] at hc;cases hf:P.funcs[f']? with
 |none=>simp[hf] at hc
 |some fn=>
  simp only[hf] at hc;split at hc;cases hc;rename_i hcond;simp only[Option.some.injEq,AI.call.injEq] at hc;obtain⟨rfl,rfl⟩:=hc;exact⟨_,rfl,rfl,rfl,by simp only[Wf,hf,aYC];exact aYY.2 hcond⟩
 simp[fU] at hk;simp[fU] at hk;simp[fU] at hk;simp[fU] at hk;simp[fU] at hk
theorem Z4{oper:Oper}{x:aH}{args:List aH}(hc:bB P oper=some (.callv x args)):
  ∃c t,oper.op=.call c/\c.callee=.value (.tmp t)/\args=c.args.toList.map aU/\x=.t t:=by
 have hk:=gZ hc rfl;obtain⟨c,he⟩:=Ma (.inr (.inl hk));obtain⟨dst,op,type,pos,after,guard⟩:=oper;obtain⟨callee,cargs,argTypes⟩:=c;simp only at he;subst he;simp only[cD] at hk;split at hk;simp[fU] at hk;rename_i f' hne;cases f' with
 |tmp t=>
  simp only[bB,eQ,Option.some.injEq,AI.callv.injEq] at hc;obtain⟨rfl,rfl⟩:=hc;exact⟨_,t,rfl,rfl,rfl,rfl⟩
 |const v=>simp[bB,eQ] at hc
 |global g=>simp[bB,eQ] at hc
 |func f=>exact absurd rfl (hne f)
 simp[fU] at hk;simp[fU] at hk;simp[fU] at hk;simp[fU] at hk
theorem A2(hs:bV F γ as.sl a)(hg:eU F G)(xs:Array Operand):lP F γ ((xs.toList.map aU).map (aK G as.sl)) (xs.map a.eval):=by
 refine⟨by simp,fun i av v h1 h2=>?_⟩
 simp only[aX1,aXI,Array.getElem?_map,aYy] at h1 h2;cases hx:xs[i]? with
 |none=>simp[hx] at h1
 |some x=>
  simp[hx] at h1 h2;subst h1;subst h2;exact cR hs hg x
def iA(J:List Nat)(as:AS)(dst:Option Nat)(av:AV)(objs':List aC):AS:=
 ⟨aQ (as.sl.map (bD fun id=>J.contains id&&!hZ (aI as.hp id))) dst (cY (cF J as.hp.length) av),
  kE J (objs'.map (dC (cF J as.hp.length))) (as.hp.map (cJ fun id=>J.contains id&&!hZ (aI as.hp id)))++(objs'.drop J.length).map (dC (cF J as.hp.length))⟩
theorem WR.call{f:FuncId}{args:List aH}{cargs:List AV}{objs:List aC}{J:List Nat}{Qc:AV->List aC->Prop}(hgd:iY G as o.guard)(ha:o.ai=.call f args)(hac:AC P G f cargs objs Qc)(hJ:J.Nodup)
  (hlen:objs.length=J.length) (hobj:∀(t j:Nat) o,J[t]?=some j->objs[t]?=some o->as.hp[j]?=some (dC (cF J as.hp.length) o))
  (hargs:args.map (aK G as.sl)=cargs.map (cY (cF J as.hp.length))) (h:∀av objs',Qc av objs'->WR P G k rest Q (iA J as o.dst av objs')):WR P G k (o::rest) Q as:=by
 refine WR.step hgd (fun F γ a w oper hc hd hi hs hg hk=>?_)
 rw[ha] at hc;obtain⟨c,hop,hcal,rfl,hok⟩:=A1 hc;obtain⟨dst,op,type,pos,after,guard⟩:=oper;simp only at hop;subst hop;have hv:=A2 (G:=G) hs hg c.args;rw[hargs] at hv;refine .inr ⟨f,c.args.map a.eval,?_,(Km hac hJ hlen hobj hi hs hg hk hv).mono ?_⟩;simp[execOp,resolve,hcal,Act.eval,Deferred.ofValue,invoke,kU hok];rintro e w' ⟨r,av,objs',rfl,hq,F',γ',hE,hI,hS,hR,hk'⟩;exact⟨r,_,F',γ',rfl,h av objs' hq,hE,hI,hS.put _ hR,hk'⟩
theorem WR.callv{f:FuncId}{caps:List aT}{x:aH}{args:List aH}{cargs:List AV}{objs:List aC}{J:List Nat}{Qc:AV->List aC->Prop}(hgd:iY G as o.guard)(ha:o.ai=.callv x args)(hx:aK G as.sl x=.one (.fn f caps))
  (hok:Wf P f=true) (hac:AC P G f cargs objs Qc) (hJ:J.Nodup)
  (hlen:objs.length=J.length) (hobj:∀(t j:Nat) o,J[t]?=some j->objs[t]?=some o->as.hp[j]?=some (dC (cF J as.hp.length) o))
  (hargs:args.map (aK G as.sl)++caps.map AV.one=cargs.map (cY (cF J as.hp.length))) (h:∀av objs',Qc av objs'->WR P G k rest Q (iA J as o.dst av objs')):WR P G k (o::rest) Q as:=by
 refine WR.step hgd (fun F γ a w oper hc hd hi hs hg hk=>?_)
 rw[ha] at hc;obtain⟨c,t,hop,hcal,rfl,rfl⟩:=Z4 hc;obtain⟨dst,op,type,pos,after,guard⟩:=oper;simp only at hop;subst hop;have hv:=A2 (G:=G) hs hg c.args;have hf:=cR (G:=G) hs hg (.tmp t);rw[show aU (.tmp t)=.t t from rfl,hx] at hf
 generalize hfv:a.eval (.tmp t)=fv at hf;cases hf with|one _ _ hf=>cases hf with|fn _ _ g hr=>
 have hv2:lP F γ (cargs.map (cY (cF J as.hp.length))) (c.args.map a.eval++((List.range caps.length).map g).toArray):=by
  rw[<- hargs];refine⟨by simp,fun i av v h1 h2=>?_⟩
  by_cases hi':i<c.args.size;rw[aXU (by simpa using hi')] at h1;rw[Array.getElem?_append_left (by simpa using hi')] at h2;exact hv.2 i av v h1 h2;rw[aXY (by simpa using hi')] at h1;rw[Array.getElem?_append_right (by simpa using hi')] at h2;simp only[aXC,aY4,Array.size_map] at h1 h2;simp only[aXI,aY8] at h1 h2;cases hcp:caps[i-c.args.size]? with
  |none=>simp[hcp] at h1
  |some cc=>
   simp[hcp] at h1;have hlt:=aG hcp;simp[aYU hlt] at h2;subst h1;subst h2;exact .one _ _ (hr _ _ hcp)
 refine .inr ⟨f,c.args.map a.eval++((List.range caps.length).map g).toArray,?_,(Km hac hJ hlen hobj hi hs hg hk hv2).mono ?_⟩;simp[execOp,resolve,hcal,hfv,Deferred.ofValue,invoke,kU hok];rintro e w' ⟨r,av,objs',rfl,hq,F',γ',hE,hI,hS,hR,hk'⟩;exact⟨r,_,F',γ',rfl,h av objs' hq,hE,hI,hS.put _ hR,hk'⟩
theorem WR.callQ{f:FuncId}{args:List aH}{cargs:List AV}{r:AV}(hgd:iY G as o.guard)(ha:o.ai=.call f args)(hac:QC P G f cargs r)
  (hargs:args.map (aK G as.sl)=cargs.map (cY (cF [] as.hp.length))) (h:WR P G k rest Q ⟨aQ as.sl o.dst (cY (cF [] as.hp.length) r),as.hp⟩):WR P G k (o::rest) Q as:=by
 refine WR.call (J:=[]) hgd ha hac List.nodup_nil rfl (fun t j o h=>by simp at h) hargs (fun av objs' hq=>?_)
 obtain⟨rfl,rfl⟩:=hq;have e1:iA [] as o.dst av []=⟨aQ as.sl o.dst (cY (cF [] as.hp.length) av),as.hp⟩:=by
  simp only[iA,kE,aXT,List.drop_nil,aYE];rw[pS (by simp),pT (by simp)]
 rw[e1];exact h
theorem WR.callN{f:FuncId}{args:List aH}{cargs:List AV}{Qc:AV->List aC->Prop}(hgd:iY G as o.guard)(ha:o.ai=.call f args)(hac:AC P G f cargs [] Qc)
  (hargs:args.map (aK G as.sl)=cargs.map (cY (cF [] as.hp.length)))
  (h:∀av objs',Qc av objs'->WR P G k rest Q ⟨aQ as.sl o.dst (cY (cF [] as.hp.length) av),as.hp++objs'.map (dC (cF [] as.hp.length))⟩):WR P G k (o::rest) Q as:=by
 refine WR.call (J:=[]) hgd ha hac List.nodup_nil rfl (fun t j o h=>by simp at h) hargs (fun av objs' hq=>?_)
 have e1:iA [] as o.dst av objs'=⟨aQ as.sl o.dst (cY (cF [] as.hp.length) av),as.hp++objs'.map (dC (cF [] as.hp.length))⟩:=by
  simp only[iA,kE,aXH,aYq];rw[pS (by simp),pT (by simp)]
 rw[e1];exact h av objs' hq
end
end
end Go.Proofs.YthepfneloomngaaGreatDoor
