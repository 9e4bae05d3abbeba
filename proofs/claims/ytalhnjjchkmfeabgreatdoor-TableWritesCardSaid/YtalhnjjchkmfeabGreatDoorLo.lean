/- Part. Conditions: none. -/
import Derived.Test.YtalhnjjchkmfeabGreatDoorLk
import Derived.Lib.ConvBytes
namespace Go.Proofs.YtalhnjjchkmfeabGreatDoor
set_option linter.unusedSimpArgs false
set_option linter.unusedVariables false
section
section
variable {P:Program}{G:aE}{k:Nat}{Q:AS->Prop}{as as':AS}{o:aO}{rest ops:L aO}{F:Fz}{γ:L OI}{w w':World}{hp:L aD}
theorem Fv{α:Type}{es b:L α}{n i:Nat}{e:α}(d:n<=es.length)(h:(es.take n++b)[i]?=some e):(i<n/\es[i]?=some e)\/(n<=i/\b[i-n]?=some e):=by
 by_cases c:i<n;rw[aZv (by simp;omega),aZL,if_pos c] at h;exact .inl ⟨c,h⟩;rw[aZD (by simp;omega)] at h;have:min n es.length=n:=by omega
 simp only[aZd,this] at h;exact .inr ⟨by omega,h⟩
theorem Q7{t u ty e:TypeId}{du:TypeDesc}{i:TypeInfo}{z:Value}(ht:P.underlying t=some (.slice e))(hu:P.underlying u=some du)(hdu:du=.slice e\/du=.string)(hin:P.info? e=some i)(hz:i.zero=some z) (hzs:z.cells.size=i.size) (hby:0<i.bytes) {id n cap:Nat}{es f:L (L DC)}{x sv:Value} (W:eG F γ hp w) (hb:aL hp id=.arr cap i.size es) (hsv:RC F γ (.bld id n) sv) (hn:n<=es.length) (hns:∀e∈f,e.length=i.size) (hub:(n+f.length)*i.bytes<=140737488355328) (p:L Value) (hnl:p.length=f.length*i.size) (hx:∀w':World,w'.heap=w.heap->(Builtin.firstCells i.size f.length x).run P w'=.ok p.toArray w') (hxl:(Builtin.lenOf x).run P w=.ok f.length w) (hnr:∀(C j:Nat) e d v,f[C]?=some e->e[j]?=some d->p[C*i.size+j]?=some v->RD F d v) (hn1:∀v∈p,is1 v=true):∃r w' x' g,(Builtin.append_ #[t,u] ty #[sv,x]).run P w=.ok r w'/\n+f.length<=g/\iU k F γ w F (γ.set id x') w'/\ eG F (γ.set id x') ((hp.map (cU (·==id))).set id (.arr g i.size (es.take n++f))) w'/\RC F (γ.set id x') (.bld id (n+f.length)) r:=by
 have hbyte:∀q,0<i.bytes->q<=q*i.bytes:=fun q h=>Nat.le_mul_of_pos_right _ h
 have V:∀(m:∀e∈es,e.length=i.size),∀e∈es.take n++f,e.length=i.size:=by
  intro m e he;rcases bAB.1 he with h|h
  exact m e (aZA h);exact hns e h
 have M:(es.take n++f).length=n+f.length:=by simp;omega
 
 have K:∀(xo:OI)(U:γ[id]?=some xo)(hnb:∀b,xo≠.box b)(I:L Value)(c:Nat)(rest:L Value),I.length=n*i.size->n+f.length<=c->rest.length=(c-(n+f.length))*i.size->
   (∀(C j:Nat) e d v,C<n->es[C]?=some e->e[j]?=some d->I[C*i.size+j]?=some v->RD F d v)->(∀e∈es,e.length=i.size)->
   iU k F γ w F (γ.set id (.arr (some w.heap.size) c)) (fG w.drew (.cells (I++p++rest).toArray e))/\
   eG F (γ.set id (.arr (some w.heap.size) c)) ((hp.map (cU (·==id))).set id (.arr c i.size (es.take n++f))) (fG w.drew (.cells (I++p++rest).toArray e))/\
   RC F (γ.set id (.arr (some w.heap.size) c)) (.bld id (n+f.length)) (.slice (some ⟨w.heap.size,0,none⟩) (n+f.length) c):=by
  intro xo U hnb I c rest hol Z D hor m;have y:∀b,b<w.heap.size->xo.blk≠some b->(fG w.drew (.cells (I++p++rest).toArray e)).heap[b]?=w.heap[b]?:=fun b S _=>pO (w:=w.drew) S
  have s:∀b,(OI.arr (some w.heap.size) c).blk=some b->xo.blk=some b\/b=w.heap.size:=by intro b S;simp[OI.blk] at S;exact .inr S.symm
  refine⟨iU.setArr W U hnb s y rfl rfl rfl (by simp[fG]),eG.setArr W U s y ?_,.bld _ _ _ c (aZH (aJ U))⟩;refine⟨rfl,by rw[M];exact Z,V m,_,e,Ct (w:=w.drew),?_,?_⟩;simp only[List.size_toArray,aZa,hol,hnl,D];rw[<- aZV,<- aZV];congr 1;omega;intro C j Y d v h1 H h3;simp only[List.getElem?_toArray] at h3;rcases Fv hn h1 with⟨a1,E⟩|⟨a1,E⟩
  have J:j<i.size:=by have:=aJ H;have:=m _ (aZE E);omega
  have:=iQ a1 (aZe _) J;rw[aZr,aZv (by omega)] at h3;exact hor C j Y d v a1 E H h3;have J:j<i.size:=by have:=aJ H;have:=hns _ (aZE E);omega
  have h5:=iQ (aJ E) (aZe _) J;have h6:C*i.size+j=n*i.size+((C-n)*i.size+j):=by
   rw[<- Nat.add_assoc,<- aZV];congr 2;omega
  rw[h6,aZr,aZD (by omega),hol,bAy,aZv (by omega)] at h3;exact hnr _ j Y d v E H h3
 cases hsv with
 |bldN _ cap0 l=>
  obtain⟨h1,H,h3⟩:=W.arrN hb l;subst h1;subst H;subst h3;have N:=Yn (P:=P) (ty:=ty) (A:=none) (n:=0) (cap:=0) ht hu hdu hin hz hby [] p rfl hx hxl hub rfl;by_cases B:0+f.length<=0;have hnn:f=[]:=bAk (by omega);subst hnn;refine⟨_,w,.arr none 0,0,by rw[N.1 B];rfl,by simp,?_,?_,?_⟩;exact iU.setArr W l (by simp) (fun b h=>by simp[OI.blk] at h) (fun b _ _=>rfl) rfl rfl rfl (aZe _)
  exact eG.setArr W l (fun b h=>by simp[OI.blk] at h) (fun b _ _=>rfl) ⟨rfl,rfl,rfl⟩
  exact .bldN _ 0 (aZH (aJ l));obtain⟨c,rest,Z,D,O⟩:=N.2 B;rw[hzs] at D;obtain⟨hE,hI,hR⟩:=K _ l (by simp) [] c rest (by simp) Z D (fun C j e d v h=>by omega) (fun e h=>by simp at h)
  exact⟨_,_,_,c,O,Z,hE,hI,hR⟩
 |bld _ _ b g l=>
  obtain⟨hcc,hec,m,vs,T,hh,R,hr⟩:=W.arr hb l;subst hcc;have hcap:n*i.size<=vs.size:=by rw[R];exact bAj _ (by omega)
  have X:∀w':World,w'.heap=w.heap->(Builtin.firstCells i.size n (.slice (some ⟨b,0,none⟩) n g)).run P w'=.ok (vs.toList.take (n*i.size)).toArray w':=by
   intro w' hw;simp only[Builtin.firstCells];have hl:(vs.toList.take (n*i.size)).length=n*i.size:=by simp;omega
   have:=run_loadCells_list (P:=P) w' ⟨b,0,none⟩ (vs.toList.take (n * i.size)) (fun j v J=>by
     rw[dY,aZ0,mW (hh.of (by rw[hw]))];rw[aZL] at J;split at J
     · simpa using J
     · cases J)
   rwa[hl] at this
  have N:=Yn (P:=P) (ty:=ty) (A:=some ⟨b,0,none⟩) (n:=n) (cap:=g) ht hu hdu hin hz hby _ p (X w rfl) hx hxl hub (X w.drew rfl);by_cases B:n+f.length<=g;have hfit:n*i.size+p.length<=vs.size:=by
   rw[hnl,R,<- aZV];exact bAj _ B
  have hst:=dU (P:=P) (off:=n*i.size) p 0 w vs hh hn1 (by omega);have hst':(storeCells ((⟨b,0,none⟩:Addr).add (n*i.size)) p).run P w=.ok () (if p=[] then w else setB w b (eO vs (n*i.size) p) T):=by
   rw[dY,aZ0];exact hst
  have s:∀b',(OI.arr (some b) g).blk=some b'->(OI.arr (some b) g).blk=some b'\/b'=w.heap.size:=fun _ h=>.inl h
  have y:∀b',b'<w.heap.size->(OI.arr (some b) g).blk≠some b'->(if p=[] then w else setB w b (eO vs (n*i.size) p) T).heap[b']?=w.heap[b']?:=by
   intro b' _ hne;split;rfl;exact Cu (fun e=>hne (by subst e;rfl))
  refine⟨_,if p=[] then w else setB w b (eO vs (n*i.size) p) T,.arr (some b) g,g,by rw[N.1 B];simp only[hst'];rfl,B,?_,?_,.bld _ _ _ g (aZH (aJ l))⟩
  refine iU.setArr W l (by simp) s y ?_ ?_ ?_ ?_<;>split<;>first|rfl|exact aZe _|simp[setB]
  refine eG.setArr W l s y ⟨rfl,by rw[M];exact B,V m,eO vs (n*i.size) p,T,?_,by rw[dZ,R],?_⟩;split;rename_i h0;subst h0;exact hh;exact lQ hh (dZ _ _ _ _);intro C j Y d v h1 H h3;rw[sU] at h3;simp only[aZY] at h3;rcases Fv hn h1 with⟨a1,E⟩|⟨a1,E⟩
  have J:j<i.size:=by have:=aJ H;have:=m _ (aZE E);omega
  have:=iQ a1 (aZe _) J;rw[if_neg (by omega)] at h3;exact hr C j Y d v E H h3;have J:j<i.size:=by have:=aJ H;have:=hns _ (aZE E);omega
  have h5:=iQ (aJ E) (aZe _) J;have h6:C*i.size+j=n*i.size+((C-n)*i.size+j):=by
   rw[<- Nat.add_assoc,<- aZV];congr 2;omega
  rw[h6,if_pos ⟨by omega,by omega,by omega⟩,bAy] at h3;exact hnr _ j Y d v E H h3;obtain⟨c,rest,Z,D,O⟩:=N.2 B
  rw[hzs] at D;obtain⟨hE,hI,hR⟩:=K _ l (by simp) (vs.toList.take (n * i.size)) c rest (by simp;omega) Z D (fun C j Y d v h1 H h3 h4=>by
    rw[aZL] at h4;split at h4
    · exact hr C j Y d v H h3 (by simpa using h4)
    · cases h4) m
  exact⟨_,_,_,c,O,Z,hE,hI,hR⟩
theorem Yo{d:Oper}{size bytes:Nat}{g:L Value}{s x:aI}(b:bE P d=some (.app size bytes g s x)):
  ∃t u e i z os ox,d.op=.call { callee:=.builtin .append,args:=#[os,ox],argTypes:=#[t,u] }/\P.underlying t=some (.slice e)/\P.underlying u=some (.slice e)/\P.info? e=some i/\i.zero=some z/\
   z.cells.size=i.size/\0<i.bytes/\size=i.size/\bytes=i.bytes/\s=aW os/\x=aW ox:=by
 have f:=jA b rfl;obtain⟨c,p⟩:=Nx (.inr (.inr (.inl f)));obtain⟨v,H,r,D,h,j⟩:=d;obtain⟨callee,args,argTypes⟩:=c;simp only at p;subst p;simp only[cK] at f;split at f;simp[gT] at f;simp[gT] at f;simp only[bE,fY] at b;split at b;rename_i t u os ox n l;have B:args=#[os,ox]:=by rw[<- bAz];exact l
 have C:argTypes=#[t,u]:=by rw[<- bAz];exact n
 subst B;subst C;split at b;rename_i e E y A;split at b;rename_i m;subst m;cases h3:P.info? e with
 |none=>simp[h3] at b
 | some i=>cases h4:i.zero with
   | none=>simp[h3,h4] at b
   | some z=>
     simp only[h3,h4,aZs] at b;split at b
     · rename_i q
       simp only[Option.some.injEq,AI.app.injEq] at b;obtain⟨rfl,rfl,rfl,rfl,rfl⟩:=b;exact⟨t,u,e,i,z,os,ox,rfl,y,A,h3,h4,q.1,q.2,rfl,rfl,rfl,rfl⟩
     · cases b
 cases b
 ·exfalso
  repeat' (first|(obtain⟨_,_,b⟩:=b)|split at b|(simp only[aZT] at b))
  all_goals first|(cases b;done)|(injection b with b;cases b;done)
 cases b;cases b;simp[gT] at f;simp[gT] at f;simp[gT] at f
theorem WR.app{size bytes id n cap:Nat}{y:L Value}{s x:aI}{es b:L (L DC)}(H:kB G as o.guard)(ha:o.ai=.app size bytes y s x) (O:aM G as.sl s=.one (.bld id n)) (hb:aL as.hp id=.arr cap size es) (hn:n<=es.length) (p:sV as.hp (aM G as.sl x)=some b) (l:∀e∈b,e.length=size) (R:(n+b.length)*bytes<=140737488355328) (h:∀d,n+b.length<=d->WR P G k rest Q ⟨aS (as.sl.map (bG (·==id))) o.dst (.one (.bld id (n+b.length))),(as.hp.map (cU (·==id))).set id (.arr d size (es.take n++b))⟩):WR P G k (o::rest) Q as:=by
 refine WR.step H (fun F γ a w g V hd X N W hk=>?_)
 rw[ha] at V;obtain⟨t,u,e,i,z,os,Y,m,ht,hu,I,hz,U,D,rfl,rfl,rfl,rfl⟩:=Yo V;have q:=dC (G:=G) N W os;rw[O] at q;have v:=aBe q;obtain⟨A,c,S,nv,K,E,M,J⟩:=aD1 p (dC N W Y) X l;have T:(Builtin.lenOf (a.eval Y)).run P w=.ok b.length w:=by rw[S];rfl
 obtain⟨r,w',x',d,f,j,hE,hI,hR⟩:=Q7 (k:=k) (ty:=g.type) ht hu (.inl rfl) I hz U D X hb v hn l R nv K E T M J;obtain⟨dst,op,Z,pos,B,C⟩:=g;simp only at m;subst m;refine .inl ⟨_,r,w',_,F,_,?_,.inl rfl,h d j,hE,hI,?_,by simpa using hk⟩;simp only at f;simp[execOp,resolve,invoke,builtin,f];exact (N.kill (fun _ _ h=>h) (fun i' o h1 h2=>rC h2 h1)).put _ (.one _ _ hR)
theorem eG.nilp{hp:L aD}(size:Nat)(e:eG F γ hp w):eG F (γ++[OI.arr none 0]) (hp++[.arr 0 size []]) w/\iU k F γ w F (γ++[OI.arr none 0]) w:=by
 have d:∀(id:Nat)(o:OI),γ[id]?=some o->(γ++[OI.arr none 0])[id]?=some o:=fun _ _ h=>bX h
 have g:∀i b,cG (γ++[OI.arr none 0]) i=some b->cG γ i=some b:=by
  intro i b h;obtain⟨y,n,f⟩:=dD h;rcases iR n with c|⟨_,rfl⟩
  exact bV c f;simp[OI.blk] at f
 refine⟨⟨e.fz,by simp[e.len],fun i j b c l=>e.nd i j b (g i b c) (g j b l),fun i b h=>e.disj i b (g i b h), ?_⟩,
   ⟨fun _ _ h=>h,rfl,rfl,rfl,aZe _,fun _ _ _=>rfl,fun _ _ h=>.inl h,fun i b h=>.inl ⟨i,g i b h⟩,fun i _ b h=>d _ _ h⟩⟩
 intro i o x c l;rcases iR l with h3|⟨h3,rfl⟩
 have m:i<hp.length:=by rw[<- e.len];exact aJ h3
 rw[aZv m] at c;exact (e.ok i o x c h3).ext (fun _ _ h=>h) d (fun _ _=>rfl)
 rw[h3,e.len] at c;simp at c;subst c;exact⟨rfl,rfl,rfl⟩
theorem WR.appNil{size bytes:Nat}{y:L Value}{s x:aI}{b:L (L DC)}(J:kB G as o.guard)(ha:o.ai=.app size bytes y s x) (T:aM G as.sl s=dS (.slice none 0 0)) (n:sV as.hp (aM G as.sl x)=some b) (l:∀e∈b,e.length=size) (U:b.length*bytes<=140737488355328) (h:∀d,b.length<=d->WR P G k rest Q ⟨aS as.sl o.dst (.one (.bld as.hp.length b.length)),as.hp.map (cU (·==as.hp.length))++[.arr d size b]⟩):WR P G k (o::rest) Q as:=by
 refine WR.step J (fun F γ a w j hc hd B S hg hk=>?_)
 rw[ha] at hc;obtain⟨t,u,e,i,z,os,ox,m,ht,hu,M,hz,X,H,rfl,rfl,rfl,rfl⟩:=Yo hc;obtain⟨K,E⟩:=eG.nilp (k:=k) i.size B;have p:=dC (G:=G) S hg os;rw[T] at p;have v:a.eval os=.slice none 0 0:=cX p;have q:RC F (γ++[OI.arr none 0]) (.bld as.hp.length 0) (a.eval os):=by
  rw[v];exact .bldN _ 0 (by rw[<- B.len];simp)
 obtain⟨A,c,V,nv,O,I,R,N⟩:=aD1 n (dC S hg ox) B l;have W:(Builtin.lenOf (a.eval ox)).run P w=.ok b.length w:=by rw[V];rfl
 have hb:aL (as.hp++[aD.arr 0 i.size []]) as.hp.length=aD.arr 0 i.size []:=by simp[aL]
 obtain⟨r,w',x',d,g,f,hE,Z,hR⟩:=Q7 (k:=k) (ty:=j.type) ht hu (.inl rfl) M hz X H K hb q (aZx _) l (by simpa using U) nv O I W R N;obtain⟨dst,op,type,pos,C,D⟩:=j;simp only at m;subst m;have e1:((as.hp++[aD.arr 0 i.size []]).map (cU (·==as.hp.length))).set as.hp.length (aD.arr d i.size (([]:L (L DC)).take 0++b))=as.hp.map (cU (·==as.hp.length))++[.arr d i.size b]:=by
  simp
 rw[e1] at Z;simp only[aZ0] at hR f;refine .inl ⟨_,r,w',_,F,_,?_,.inl rfl,h d f,E.trans hE,Z,?_,by simp;omega⟩;simp only at g;simp[execOp,resolve,invoke,builtin,g];refine (S.ext (fun _ _ h=>h) (fun id o Y=>?_)).put _ (.one _ _ hR)
 have hlt:=aJ Y;rw[aZw (by rw[<- B.len];omega)];exact bX Y
theorem aBi{c:Oper}{neg:Bool}{x:aI}(f:bE P c=some (.isnil false neg x)):∃t e ox u,c.op=.binOp (if neg then .neq else .eql) t ox (.const (.slice none 0 0)) u/\P.underlying t=some (.slice e)/\x=aW ox:=by
 obtain⟨b,t,ox,y,u,j⟩:=aD0 (jA f rfl);simp only[bE,j,pN] at f;have i:∀d,P.underlying t=some d->mV b d ox y=some (.isnil false neg x)->∃t e ox u,c.op=.binOp (if neg then .neq else .eql) t ox (.const (.slice none 0 0)) u/\P.underlying t=some (.slice e)/\x=aW ox:=by
  intro d l h;unfold mV at h;split at h;all_goals try (cases h;done)
  all_goals
   cases g:Q1 d y with
   |none=>simp[g] at h
   |some p=>
    simp only[g,aZf,Option.some.injEq,AI.isnil.injEq] at h;obtain⟨rfl,rfl,rfl⟩:=h;unfold Q1 at g;split at g;exact⟨_,_,_,_,j,l,rfl⟩;simp at g;cases g
 split at f;all_goals try (rename_i m;exact i _ m f)
 all_goals (repeat' split at f)<;>first|(cases f;done)|(simp[Option.map_eq_some_iff] at f;done)
theorem WR.isnil0{neg:Bool}{x:aI}(q:kB G as o.guard)(E:o.ai=.isnil false neg x)(N:aM G as.sl x=.one (.dc (.slc []))) (h:∀b,WR P G k rest Q ⟨aS as.sl o.dst (dS (.bool b)),as.hp⟩):WR P G k (o::rest) Q as:=by
 refine WR.step q (fun F γ a w j y z J B I K=>?_)
 rw[E] at y;obtain⟨t,e,s,u,i,M,rfl⟩:=aBi y;have g:=dC (G:=G) B I s;rw[N] at g;have f:∃A n c,a.eval s=.slice A n c:=by
  generalize a.eval s=v at g;cases g with|one c _ p=>cases p with|dc d _ z=>cases z with
  |nil A c=>exact⟨_,_,_,rfl⟩
  |slc=>exact⟨_,_,_,rfl⟩
 obtain⟨A,n,c,f⟩:=f;obtain⟨D,R,C,O,l,m⟩:=j;simp only at i;subst i;have H:(Op.equal t (.slice A n c) (.slice none 0 0)).run P w=.ok A.isNone w:=by
  exact Lz 9999 M
 refine .inl ⟨.value (.bool (A.isNone != neg)),.bool (A.isNone != neg),w,_,F,γ,?_,.inl rfl,h _,iU.refl _ _ _ _,J,(B.put _ (bU rfl)),K⟩;have r:a.eval (.const (.slice none 0 0))=.slice none 0 0:=rfl;cases neg<;>simp[execOp,f,r,eqGuard,Go.binOp,H]
def Q8(es:L (L DC))(k n:Nat)(z:L DC):L (L DC):=es.take k++List.replicate n z++es.drop (k+n)
theorem aD2{es:L (L DC)}{k n:Nat}{z:L DC}(h:k+n<=es.length):(Q8 es k n z).length=es.length:=by simp[Q8];omega
theorem Q9{es:L (L DC)}{k n:Nat}{z:L DC}(h:k+n<=es.length)(i:Nat):(Q8 es k n z)[i]?=if k<=i/\i<k+n then some z else es[i]?:=by
 unfold Q8;by_cases b:i<k;rw[aZr,aZv (by simp;omega),aZL,if_pos b,if_neg (by omega)];by_cases c:i<k+n;rw[aZv (by simp;omega),aZD (by simp;omega),bAf,if_pos (by simp;omega),if_pos (by omega)];rw[aZD (by simp;omega),if_neg (by omega),aZK];congr 1;simp;omega
theorem Ny{f:Oper}{size:Nat}{h:L Value}{x:aI}(d:bE P f=some (.clr size h x)):∃t e i z ox,f.op=.call ⟨.builtin .clear,#[ox],#[t]⟩/\P.underlying t=some (.slice e)/\P.info? e=some i/\i.zero=some z/\z.cells.size=i.size/\0<i.size/\z.cells.toList.all is1=true/\size=i.size/\h=z.cells.toList/\x=aW ox:=by
 obtain⟨c,s,g⟩:=aOa (jA d rfl);obtain⟨v,D,u,C,m,n⟩:=f;obtain⟨l,j,b⟩:=c;simp only at s g;subst s;subst g;simp only[bE,fY] at d;split at d;rename_i t ox q p;have A:j=#[ox]:=by rw[<- bAz];exact p
 have B:b=#[t]:=by rw[<- bAz];exact q
 subst A;subst B;split at d;rename_i e y;cases h3:P.info? e with
 |none=>simp[h3] at d
 | some i=>cases h4:i.zero with
   | none=>simp[h3,h4] at d
   | some z=>
     simp only[h3,h4,aZs] at d;split at d
     · rename_i r
       simp only[Option.some.injEq,AI.clr.injEq] at d;obtain⟨rfl,rfl,rfl⟩:=d;exact⟨t,e,i,z,ox,rfl,y,h3,h4,r.1,r.2.1,r.2.2,rfl,rfl,rfl⟩
     · cases d
 cases d;cases d
theorem WR.clr{size id k0 n cap:Nat}{E:L Value}{x:aI}{es:L (L DC)}(hgd:kB G as o.guard)(ha:o.ai=.clr size E x) (X:aM G as.sl x=.one (.bls id k0 n size)\/(k0=0/\aM G as.sl x=.one (.bld id n))) (hb:aL as.hp id=.arr cap size es) (hn:0<n) (J:k0+n<=es.length) (h:WR P G k rest Q ⟨aS as.sl o.dst (.tup []),as.hp.set id (.arr cap size (Q8 es k0 n (E.map DC.raw)))⟩):WR P G k (o::rest) Q as:=by
 refine WR.step hgd (fun F γ a w oper hc hd hi hs hg hk=>?_)
 rw[ha] at hc;obtain⟨t,e,i,z,ox,S,hu,hin,hz,r,hsz,Y,rfl,rfl,rfl⟩:=Ny hc;have p:=dC (G:=G) hs hg ox;have s:∃b f c,γ[id]?=some (.arr (some b) f)/\a.eval ox=.slice (some ⟨b,k0*i.size,none⟩) n c:=by
  rcases X with X|⟨rfl,X⟩
  ·rw[X] at p;generalize a.eval ox=v at p;cases p with|one c _ I=>cases I with|bls _ _ _ _ b f c off g ho hcn=>
   have:=ho (by omega);subst this;rcases g with g|g
   exact⟨b,f,c,g,rfl⟩;exact absurd g (hi.noArr hb)
  rw[X] at p;generalize a.eval ox=v at p;cases p with|one c _ I=>cases I with
  |bldN _ _ _=>omega
  |bld _ _ b f g=>exact⟨b,f,f,g,by simp⟩
 obtain⟨b,f,c,g,s⟩:=s;obtain⟨M,hec,N,ws,T,hh,W,hwr⟩:=hi.arr hb g;have hzl:z.cells.toList.length=i.size:=by simpa using r
 have y:(Builtin.zeroCells z.cells n).toList.length=n*i.size:=by simp[Builtin.zeroCells,r]
 have A:∀q,q<n*i.size->(Builtin.zeroCells z.cells n).toList[q]?=some (z.cells[q % z.cells.size]!):=by
  intro q B;simp[Builtin.zeroCells,r,B]
 have Z:∀v∈(Builtin.zeroCells z.cells n).toList,is1 v=true:=by
  intro v hv;obtain⟨q,B⟩:=bAI hv;have R:=aJ B;rw[y] at R;rw[A q R] at B;injection B with B
  subst B;have hm:q % z.cells.size<z.cells.size:=Nat.mod_lt _ (by omega);rw[getElem!_pos z.cells _ hm];exact bAr.1 Y _ (by simp)
 have hfit:k0*i.size+(n*i.size)<=ws.size:=by
  rw[W,<- aZV];exact bAj _ (by omega)
 have V:=dU (P:=P) (off:=k0*i.size) (Builtin.zeroCells z.cells n).toList 0 w ws hh Z (by rw[y];omega);have hne:(Builtin.zeroCells z.cells n).toList≠[]:=by
  intro e0;rw[e0] at y;have:=Nat.mul_pos hn hsz;simp at y;omega
 rw[if_neg hne] at V;obtain⟨dst,op,type,pos,after,guard⟩:=oper;simp only at S;subst S;have hzv:(zeroValue e).run P w=.ok z w:=by simp[zeroValue,typeInfo,hin,hz]
 have U:(Builtin.clear_ #[t] type #[a.eval ox]).run P w=.ok (.tuple #[]) (setB w b (eO ws (k0*i.size) (Builtin.zeroCells z.cells n).toList) T):=by
  obtain⟨m,rfl⟩:∃m,n=m+1:=⟨n-1,by omega⟩;rw[s];simp[Builtin.clear_,run_underlying hu,hzv,V]
 refine .inl ⟨.value (.tuple #[]),.tuple #[],setB w b (eO ws (k0*i.size) (Builtin.zeroCells z.cells n).toList) T,_,F,γ,?_,.inl rfl,h,iU.setB hi g rfl,?_,(hs.put _ (.tup [] #[] rfl (fun i t v h=>by simp at h))),hk⟩
 simp[execOp,resolve,invoke,builtin,U];refine hi.setObj g rfl ⟨M,by rw[aD2 J];exact hec,fun q B=>?_,_,T,lQ hh (dZ _ _ _ _),by rw[dZ,W],fun D j e1 d v H K h3=>?_⟩
 obtain⟨D,l⟩:=bAI B;rw[Q9 J] at l;split at l;injection l with l;rw[<- l,aY9,hzl];exact N q (aZE l);rw[Q9 J] at H;rw[sU] at h3;simp only[aZY,y] at h3;split at H;rename_i hc';injection H with H;subst H;have O:j<i.size:=by have:=aJ K;simpa[r] using this
 have h5:=iQ (show D-k0<n by omega) (aZe _) O;have h6:D*i.size+j=k0*i.size+((D-k0)*i.size+j):=by
  rw[<- Nat.add_assoc,<- aZV];congr 2;omega
 rw[h6,if_pos ⟨by omega,by omega,by omega⟩,bAy,A _ h5] at h3;injection h3 with h3
 subst h3;have hm:((D-k0)*i.size+j) % z.cells.size=j:=by rw[r,Nat.mul_comm,Nat.mul_add_mod,bAa O]
 rw[hm,getElem!_pos z.cells j (by omega)];rw[aZj] at K;obtain⟨u,C,rfl⟩:=Option.map_eq_some_iff.1 K;have:u=z.cells[j]'(by omega):=by
  have h7:z.cells.toList[j]?=some (z.cells[j]'(by omega)):=by simp[r,O]
  rw[h7] at C;injection C with C;exact C.symm
 subst this;exact .raw _ (bAr.1 Y _ (by simp));rename_i hc';have O:j<i.size:=by have:=aJ K;have:=N _ (aZE H);omega
 rw[if_neg (by
   rintro⟨a1,a2,_⟩;rcases bAp D k0 with c1 | c1
   · have:=iQ c1 (aZe _) O;omega
   · have h8:(k0+n) * i.size<=D * i.size:=bAj _ (by omega)
     rw[aZV] at h8;omega)] at h3
 exact hwr D j e1 d v H K h3
theorem WR.clrB{id k0 n:Nat}{zv:Value}{x:aI}{cs:L aU}(O:kB G as o.guard)(ha:o.ai=.clr 1 [zv] x) (E:aM G as.sl x=.one (.bls id k0 n 1)\/(k0=0/\aM G as.sl x=.one (.bld id n))) (N:aL as.hp id=.box cs) (hn:0<n) (S:k0+n<=cs.length) (h:WR P G k rest Q ⟨aS as.sl o.dst (.tup []),as.hp.set id (.box (dB cs k0 (List.replicate n (cN zv))))⟩):WR P G k (o::rest) Q as:=by
 refine WR.step O (fun F γ a w H hc hd A hs hg hk=>?_)
 rw[ha] at hc;obtain⟨t,e,i,z,I,C,hu,R,hz,hzs,hsz,Y,h1s,Z,rfl⟩:=Ny hc;have f:=dC (G:=G) hs hg I;have g:∃b c,γ[id]?=some (.box b)/\a.eval I=.slice (some ⟨b,k0,none⟩) n c:=by
  rcases E with E|⟨rfl,E⟩
  ·rw[E] at f;generalize a.eval I=v at f;cases f with|one c _ j=>cases j with|bls _ _ _ _ b s c off d ho hcn=>
   have:=ho (by omega);rw[aZ2] at this;subst this;rcases d with d|d
   exact absurd d (A.noBox N);exact⟨b,c,d,rfl⟩
  rw[E] at f;generalize a.eval I=v at f;cases f with|one c _ j=>cases j with
  |bldN _ _ _=>omega
  |bld _ _ b s d=>exact absurd d (A.noBox N)
 obtain⟨b,c,d,g⟩:=g;obtain⟨ws,T,hh,X,W⟩:=A.box N d;have p:z.cells=#[zv]:=by rw[<- bAz];exact Z.symm
 have B:is1 zv=true:=bAr.1 Y zv (by rw[p];simp);have hzr:(Builtin.zeroCells z.cells n).toList=List.replicate n zv:=by
  apply List.ext_getElem?;intro q;by_cases hq:q<n;simp[Builtin.zeroCells,p,hq,bAf,Nat.mod_one];simp[Builtin.zeroCells,p,hq,bAf]
 have y:∀v∈List.replicate n zv,is1 v=true:=fun v hv=>by rw[List.eq_of_mem_replicate hv];exact B
 have l:=dU (P:=P) (off:=k0) (List.replicate n zv) 0 w ws hh y (by rw[aZg];omega);have U:List.replicate n zv≠[]:=by
  intro e0;have:=congrArg List.length e0;simp at this;omega
 rw[if_neg U] at l;obtain⟨dst,op,J,pos,K,M⟩:=H;simp only at C;subst C;have hzv:(zeroValue e).run P w=.ok z w:=by simp[zeroValue,typeInfo,R,hz]
 have D:(Builtin.clear_ #[t] J #[a.eval I]).run P w=.ok (.tuple #[]) (setB w b (eO ws k0 (List.replicate n zv)) T):=by
  obtain⟨m,rfl⟩:∃m,n=m+1:=⟨n-1,by omega⟩;rw[g];rw[<- hzr] at l ⊢;simp[Builtin.clear_,run_underlying hu,hzv,l]
 refine .inl ⟨.value (.tuple #[]),.tuple #[],setB w b (eO ws k0 (List.replicate n zv)) T,_,F,γ,?_,.inl rfl,h,iU.setB A d rfl,?_,(hs.put _ (.tup [] #[] rfl (fun i t v h=>by simp at h))),hk⟩
 simp[execOp,resolve,invoke,builtin,D];refine A.setObj d rfl ?_;have V:RCs F γ (List.replicate n (cN zv)) (List.replicate n zv).toArray:=by
  refine⟨by simp,fun q c v r u=>?_⟩
  simp only[List.getElem?_toArray,bAf] at r u;split at r;injection r with r
  rw[if_pos (by assumption)] at u;injection u with u
  subst r;subst u;exact .dc _ _ (.raw _ B);cases r
 have:=uN (off:=k0) X W V (by simpa using S);exact⟨_,T,lQ hh (dZ _ _ _ _),this.1,this.2⟩
theorem aBj{es:L (L DC)}{k:Nat}{z:L DC}:Q8 es k 0 z=es:=by simp[Q8]
theorem Cv{hp:L aD}{id:Nat}{d:aD}(b:aL hp id=d)(c:d≠.dead):hp.set id d=hp:=by
 unfold aL at b;cases h:hp[id]? with
 |none=>rw[aZo,h] at b;exact absurd b.symm c
 |some o=>
  rw[aZo,h] at b;simp only[aZU] at b;subst b;obtain⟨f,e⟩:=List.getElem?_eq_some_iff.1 h;rw[<- e];exact List.set_getElem_self f
theorem WR.clr0{size id k0:Nat}{r:L Value}{x:aI}(y:kB G as o.guard)(D:o.ai=.clr size r x) (l:aM G as.sl x=.one (.bls id k0 0 size)\/aM G as.sl x=.one (.bld id 0)) (h:WR P G k rest Q ⟨aS as.sl o.dst (.tup []),as.hp⟩):WR P G k (o::rest) Q as:=by
 refine WR.step y (fun F γ a w m A S H B E J=>?_)
 rw[D] at A;obtain⟨t,e,i,z,n,g,M,I,T,O,K,N,rfl,rfl,rfl⟩:=Ny A;have b:=dC (G:=G) B E n;have d:∃p c,a.eval n=.slice p 0 c:=by
  rcases l with l|l;rw[l] at b;generalize a.eval n=v at b;cases b with|one c _ f=>cases f with|bls=>exact⟨_,_,rfl⟩
  rw[l] at b;generalize a.eval n=v at b;cases b with|one c _ f=>cases f<;>exact⟨_,_,rfl⟩
 obtain⟨p,c,d⟩:=d;obtain⟨C,U,q,R,s,u⟩:=m;simp only at g;subst g;have j:(Builtin.clear_ #[t] q #[a.eval n]).run P w=.ok (.tuple #[]) w:=by
  rw[d];cases p<;>simp[Builtin.clear_,run_underlying M]
 refine .inl ⟨.value (.tuple #[]),.tuple #[],w,_,F,γ,?_,.inl rfl,h,iU.refl _ _ _ _,H,(B.put _ (.tup [] #[] rfl (fun i t v h=>by simp at h))),J⟩
 simp[execOp,resolve,invoke,builtin,j]
def fH(l:L UInt8):L aU:=l.map fun b=>cN (.int .u8 b.toNat)
def iA(s:ByteArray):L (L DC):=s.data.toList.map fun b=>[DC.raw (.int .u8 b.toNat)]
theorem Ra{f:Oper}{d x:aI}(g:bE P f=some (.cpys d x)):∃t u e j ox,f.op=.call ⟨.builtin .copy,#[j,ox],#[t,u]⟩/\P.underlying t=some (.slice e)/\(P.info? e).map (·.size)=some 1/\d=aW j/\x=aW ox:=by
 obtain⟨c,r,h⟩:=aI9 (jA g rfl);obtain⟨v,D,s,B,m,n⟩:=f;obtain⟨l,i,b⟩:=c;simp only at r h;subst r;subst h;simp only[bE,fY] at g;split at g;rename_i t u j ox q p;have z:i=#[j,ox]:=by rw[<- bAz];exact p
 have A:b=#[t,u]:=by rw[<- bAz];exact q
 subst z;subst A;split at g;rename_i e y C;split at g;rename_i h3;simp only[Option.some.injEq,AI.cpys.injEq] at g;obtain⟨rfl,rfl⟩:=g;exact⟨t,u,e,j,ox,rfl,y,h3,rfl,rfl⟩;cases g;cases g;cases g
theorem WR.cpys{id D n:Nat}{d x:aI}{cs:List aU}{s:ByteArray}(hgd:kB G as o.guard)(ha:o.ai=.cpys d x)(hd0:aM G as.sl d=.one (.bls id D n 1))(hx:dN (aM G as.sl x)=some s) (Y:aL as.hp id=.box cs) (hle:D+n<=cs.length) (h:WR P G k rest Q ⟨aS as.sl o.dst (dS (.int .i64 (min s.size n:Nat))),as.hp.set id (.box (dB cs D (fH (s.data.toList.take n))))⟩):WR P G k (o::rest) Q as:=by
 refine WR.step hgd (fun F γ a w R hc hd E hs hg hk=>?_)
 rw[ha] at hc;obtain⟨t,u,e,U,ox,K,hu,g,rfl,rfl⟩:=Ra hc;have A:=dC (G:=G) hs hg U;rw[hd0] at A;have hxv:=uL (dC (G:=G) hs hg ox) hx;obtain⟨b,c,off,f,B,r⟩:∃b c off,γ[id]?=some (.box b)/\a.eval U=.slice (some ⟨b,off,none⟩) n c/\(n≠0->off=D):=by
  generalize a.eval U=v at A;cases A with|one c _ hcc=>cases hcc with|bls _ _ _ _ b cap' c off f ho hcn=>
  rcases f with f|f;exact absurd f (E.noBox Y);exact⟨b,c,off,f,rfl,fun h=>by rw[ho h,aZ2]⟩
 obtain⟨V,T,hh,hws,hwr⟩:=E.box Y f;obtain⟨dst,op,S,pos,W,X⟩:=R;simp only at K;subst K
 
 have Z:((s.extract 0 (min s.size n)).data.map fun b=>Value.int .u8 b.toNat)=((s.data.toList.take n).map fun b=>Value.int .u8 b.toNat).toArray:=by
   apply Array.ext';simp only[Array.toList_map,ByteArray.data_extract,Array.toList_extract,List.extract_eq_take_drop,Nat.sub_zero,aZW];congr 1;rw[List.take_eq_take_iff];simp;omega
 have O:((s.data.toList.take n).map fun b=>Value.int .u8 b.toNat).length=min s.size n:=by simp[Nat.min_comm]
 have J:∃i,P.info? e=some i/\i.size=1:=by
  cases H:P.info? e with
  |none=>rw[H] at g;cases g
  |some i=>rw[H] at g;injection g with g;exact⟨i,rfl,g⟩
 obtain⟨i,g,I⟩:=J;have M:RCs F γ (fH (s.data.toList.take n)) ((s.data.toList.take n).map fun b=>Value.int .u8 b.toNat).toArray:=by
   refine⟨by simp[fH],fun q c v y z=>?_⟩
   simp only[fH,aZj,List.getElem?_toArray] at y z;cases hq:(s.data.toList.take n)[q]? with
   | none=>rw[hq] at y;cases y
   | some bb=>
     rw[hq] at y z;injection y with y;injection z with z
     subst y;subst z;exact .dc _ _ (.raw _ rfl)
 have l:∀ v∈((s.data.toList.take n).map fun b=>Value.int .u8 b.toNat),is1 v=true:=fun v hv=>by
   obtain⟨q,_,rfl⟩:=List.mem_map.1 hv;rfl
 have p:((s.data.toList.take n).map fun b=>Value.int .u8 b.toNat)=[]->s.data.toList.take n=[]:=fun j=>by simpa using j
 have C:n=0->((s.data.toList.take n).map fun b=>Value.int .u8 b.toNat)=[]:=fun j=>by subst j;rfl
 have m:List.take (min s.size n) (List.map (fun b=>Value.int .u8 b.toNat) s.data.toList)=((s.data.toList.take n).map fun b=>Value.int .u8 b.toNat):=by
   rw[aZZ,List.take_eq_take_iff];simp;omega
 generalize ((s.data.toList.take n).map fun b=>Value.int .u8 b.toNat)=L at Z m O M l p C
 have hst:(storeCells ⟨b,off,none⟩ L).run P w=.ok () (if L=[] then w else setB w b (eO V off L) T):=by
  by_cases j:n=0;rw[C j];rfl;exact dU _ 0 w V hh l (by rw[O,r j];omega)
 have N:(Builtin.copy_ #[t,u] S #[a.eval U,a.eval ox]).run P w=.ok (.int .i64 (min s.size n:Nat)) (if L=[] then w else setB w b (eO V off L) T):=by
  have e1:Nat.min s.size n=min s.size n:=rfl;simp[Builtin.copy_,B,hxv,run_underlying hu,Builtin.lenOf,Builtin.firstCells,sizeOf,typeInfo,g,I,m,e1,hst,goInt]
 refine .inl ⟨.value (.int .i64 (min s.size n:Nat)),.int .i64 (min s.size n:Nat),(if L=[] then w else setB w b (eO V off L) T),_,F,γ,?_,.inl rfl,h,?_,?_,(hs.put _ (bU rfl)),hk⟩
 simp[execOp,resolve,invoke,builtin,N];split;exact iU.refl _ _ _ _;exact iU.setB E f rfl;split;rename_i j;rw[p j];have z:dB cs D (fH [])=cs:=by simp[fH,dB]
 rw[z,Cv Y (by simp)];exact E;rename_i j;rw[r (fun e=>j (C e))]
 refine E.setObj f rfl ?_;have:=uN (off:=D) hws hwr M (by
   have:(fH (s.data.toList.take n)).length<=n:=by simp[fH];omega
   omega)
 exact⟨_,T,lQ hh (dZ _ _ _ _),this.1,this.2⟩
theorem Rb{c:Oper}{x:aI}(b:bE P c=some (.cvsb x)):∃s d e ox,c.op=.convert s d ox/\P.underlying s=some .string/\P.underlying d=some (.slice e)/\P.underlying e=some (.int .u8)/\x=aW ox:=by
 obtain⟨s,d,ox,f⟩:=aI8 (jA b rfl);simp only[bE,f,nL] at b;split at b;cases b;cases b;split at b<;>cases b;rename_i e g h;split at b;rename_i h3;injection b with b;injection b with b;exact⟨s,d,e,ox,f,g,h,h3,b.symm⟩;cases b;cases b
theorem WR.cvsb{x:aI}{s:ByteArray}(R:kB G as o.guard)(ha:o.ai=.cvsb x)(hx:dN (aM G as.sl x)=some s) (h:WR P G k rest Q ⟨aS as.sl o.dst (.one (.dc (.slc (iA s)))),as.hp⟩):WR P G k (o::rest) Q as:=by
 refine WR.step R (fun F γ a w K Y hd v Z hg hk=>?_)
 rw[ha] at Y;obtain⟨X,B,e,ox,I,T,U,V,rfl⟩:=Rb Y;have W:=uL (dC (G:=G) Z hg ox) hx;obtain⟨dst,op,type,pos,M,N⟩:=K;simp only at I;subst I;have J:=Lib.run_convert_string_bytes (P:=P) w X B e s T U V;have m:=Lib.bytesWorld_at_old w e s;have y:=Lib.bytesWorld_at_new w e s;have l:(iA s).length=s.size:=by simp[iA]
 let F':Fz:=fun b=>if b=w.heap.size then some (.cells (Lib.bytesCells w e s) e ((Lib.bytesCells w e s).size,(Lib.bytesCells w e s).size+1)) else F b
 have z:∀ b o,F b=some o->F' b=some o:=fun b o f=>by
   have:=v.fzlt f;show (if b=w.heap.size then _ else F b)=some o
   rw[if_neg (by omega)];exact f
 have n:F.sub F':=z;have g:F' w.heap.size=some (.cells (Lib.bytesCells w e s) e ((Lib.bytesCells w e s).size,(Lib.bytesCells w e s).size+1)):=if_pos rfl;have C:iU k F γ w F' γ (Lib.bytesWorld w e s):=by
  refine⟨n,rfl,rfl,rfl,by rw[Lib.bytesWorld_size];omega,fun b f _=>m b f,fun b o f=>?_,fun i b f=>.inl ⟨i,f⟩,fun _ _ _ h=>h⟩
  by_cases p:b=w.heap.size;exact .inr (.inl (by omega));have:F' b=F b:=if_neg p;rw[this] at f;exact .inl f
 have D:eG F' γ as.hp (Lib.bytesWorld w e s):=by
  refine⟨fun b o f=>?_,v.len,v.nd,fun i b f=>?_,fun i ob x0 c u=>?_⟩
  by_cases p:b=w.heap.size;subst p;rw[g] at f;rw[y];exact f;have:F' b=F b:=if_neg p;rw[this] at f;rw[m b (v.fzlt f)];exact v.fz b o f;have:=v.lt f;have e1:F' b=F b:=if_neg (by omega);rw[e1];exact v.disj i b f;have H:=v.ok i ob x0 c u;exact H.ext n (fun _ _ h=>h) (fun b O=>m b (H.lt O))
 have r:s.size<=grownCap w s.size 0 e:=by
  show s.size<=s.size+_;exact Nat.le_add_right _ _
 have S:RD F' (.slc (iA s)) (.slice (some ⟨w.heap.size,0,none⟩) s.size (grownCap w s.size 0 e)):=by
  rw[<- l];refine .slc w.heap.size 0 _ 1 (iA s) (fun i _=>.int .u8 (s.data.toList.getD i 0).toNat) (fun q t=>?_) (fun i j q d c u=>?_) (fun i j q d c u=>?_) (by rw[l];exact r)
  simp only[iA,List.mem_map] at t;obtain⟨bb,_,rfl⟩:=t;rfl;simp only[iA,aZj] at c;cases t:s.data.toList[i]? with
  |none=>rw[t] at c;cases c
  |some bb=>
   rw[t] at c;injection c with c;subst c
   cases j with
   |zero=>
    injection u with u;subst u
    rw[aZo,t];exact .raw _ rfl
   |succ j=>simp at u
  have hj:j=0:=by
   simp only[iA,aZj] at c;cases t:s.data.toList[i]? with
   |none=>rw[t] at c;cases c
   |some bb=>
    rw[t] at c;injection c with c;subst c
    cases j with
    |zero=>rfl
    |succ j=>simp at u
  subst hj;have E:i<s.size:=by have:=aJ c;omega
  have A:=Lib.bytesWorld_cell w e s i E;simp only[Fz.cell?,g,Option.isSome_none,bAq,if_false,aZ2,aZY,aZ0];simpa[World.cell?,y] using A
 refine .inl ⟨.value (.slice (some ⟨w.heap.size,0,none⟩) s.size (grownCap w s.size 0 e)),_,_,_,F',γ,?_,.inl rfl,h,C,D,((Z.ext n (fun _ _ h=>h)).put _ (.one _ _ (.dc _ _ S))),hk⟩
 simp[execOp,W,J]
theorem WR.cvsA{x:aI}{s:ByteArray}(K:kB G as o.guard)(ha:o.ai=.cvsb x)(hx:dN (aM G as.sl x)=some s) (h:∀cap,WR P G k rest Q ⟨aS as.sl o.dst (.one (.bld as.hp.length s.size)),as.hp++[.arr cap 1 (iA s)]⟩):WR P G k (o::rest) Q as:=by
 refine WR.step K (fun F γ a w D T hd U V hg hk=>?_)
 rw[ha] at T;obtain⟨S,r,e,ox,z,M,N,O,rfl⟩:=Rb T;have R:=uL (dC (G:=G) V hg ox) hx;obtain⟨X,op,W,pos,H,I⟩:=D;simp only at z;subst z;have A:=Lib.run_convert_string_bytes (P:=P) w S r e s M N O;have l:=Lib.bytesWorld_at_old w e s;have g:=Lib.bytesWorld_at_new w e s;have n:(iA s).length=s.size:=by simp[iA]
 have t:s.size<=grownCap w s.size 0 e:=by
  show s.size<=s.size+_;exact Nat.le_add_right _ _
 have J:(Lib.bytesCells w e s).size=grownCap w s.size 0 e:=by
  simp[Lib.bytesCells];omega
 have B:∀b,(OI.arr (some w.heap.size) (grownCap w s.size 0 e)).blk=some b->b=w.heap.size:=fun b p=>by simp[OI.blk] at p;exact p.symm
 have Y:iU k F γ w F (γ++[.arr (some w.heap.size) (grownCap w s.size 0 e)]) (Lib.bytesWorld w e s):=by
  refine⟨fun _ _ h=>h,rfl,rfl,rfl,by rw[Lib.bytesWorld_size];omega,fun b p _=>l b p,fun _ _ h=>.inl h,fun i b h=>?_,fun i _ b h=>bX h⟩
  obtain⟨y,hy,C⟩:=dD h;rcases iR hy with c|⟨c,rfl⟩;exact .inl ⟨i,bV c C⟩;exact .inr (by rw[B b C];exact aZe _)
 have Z:eG F (γ++[.arr (some w.heap.size) (grownCap w s.size 0 e)]) (as.hp++[.arr (grownCap w s.size 0 e) 1 (iA s)]) (Lib.bytesWorld w e s):=by
  refine U.pushG (fun b p=>l b p) _ _ B ⟨rfl,by rw[n];exact t,fun q f=>?_,Lib.bytesCells w e s,e,⟨_,g,fun o ho=>by simp only;omega⟩,by rw[J,aZ2],fun i j q d v c E h3=>?_⟩
  simp only[iA,List.mem_map] at f;obtain⟨bb,_,rfl⟩:=f;rfl;have hj:j=0:=by
   simp only[iA,aZj] at c;cases f:s.data.toList[i]? with
   |none=>rw[f] at c;cases c
   |some bb=>
    rw[f] at c;injection c with c;subst c
    cases j with
    |zero=>rfl
    |succ j=>simp at E
  subst hj;have u:i<s.size:=by have:=aJ c;omega
  have m:=Lib.bytesWorld_cell w e s i u;have h4:(Lib.bytesCells w e s)[i]?=some (.int .u8 (s.data.toList.getD i 0).toNat):=by
   simpa[World.cell?,g] using m
  rw[aZ2,aZY,h4] at h3;injection h3 with h3
  subst h3;simp only[iA,aZj] at c;cases f:s.data.toList[i]? with
  |none=>rw[f] at c;cases c
  |some bb=>
   rw[f] at c;injection c with c;subst c
   injection E with E;subst E
   rw[aZo,f];exact .raw _ rfl
 have hS:bY F (γ++[.arr (some w.heap.size) (grownCap w s.size 0 e)]) (aS as.sl o.dst (.one (.bld as.hp.length s.size))) (a.put o.dst (.slice (some ⟨w.heap.size,0,none⟩) s.size (grownCap w s.size 0 e))):=by
  refine (V.ext (fun _ _ h=>h) (fun _ _ h=>bX h)).put o.dst (.one _ _ (.bld _ _ _ _ ?_))
  rw[<- U.len];simp
 refine .inl ⟨.value (.slice (some ⟨w.heap.size,0,none⟩) s.size (grownCap w s.size 0 e)),_,_,_,F,_,?_,.inl rfl,h _,Y,Z,hS,by simp;omega⟩;simp[execOp,R,A]
def Rc(es:L (L DC))(k:Nat)(l:L UInt8):L (L DC):=es.take k++(l.map fun b=>[DC.raw (.int .u8 b.toNat)])++es.drop (k+l.length)
theorem aD3{es:L (L DC)}{k:Nat}{l:L UInt8}(h:k+l.length<=es.length):(Rc es k l).length=es.length:=by simp[Rc];omega
theorem Rd{es:L (L DC)}{k:Nat}{l:L UInt8}(h:k+l.length<=es.length)(i:Nat):(Rc es k l)[i]?=if k<=i/\i<k+l.length then (l[i-k]?).map (fun b=>[DC.raw (.int .u8 b.toNat)]) else es[i]?:=by
 unfold Rc;split;rename_i d;rw[aZr,aZD (by simp;omega),aZv (by simp;omega),aZj];simp only[aZd,bAA (show k<=es.length by omega)];rename_i d;by_cases c:i<k;rw[aZr,aZv (by simp;omega),List.getElem?_take_of_lt c];rw[aZD (by simp;omega),aZK];congr 1;simp;omega
theorem Re{es:L (L DC)}{k:Nat}:Rc es k []=es:=by simp[Rc]
theorem WR.cpyA{id M n cap:Nat}{d x:aI}{es:List (List DC)}{s:ByteArray}(hgd:kB G as o.guard)(ha:o.ai=.cpys d x)(hd0:aM G as.sl d=.one (.bls id M n 1))(hx:dN (aM G as.sl x)=some s) (hb:aL as.hp id=.arr cap 1 es) (hle:M+n<=es.length) (h:WR P G k rest Q ⟨aS as.sl o.dst (dS (.int .i64 (min s.size n:Nat))),as.hp.set id (.arr cap 1 (Rc es M (s.data.toList.take n)))⟩):WR P G k (o::rest) Q as:=by
 refine WR.step hgd (fun F γ a w N hc hd X hs hg hk=>?_)
 rw[ha] at hc;obtain⟨t,u,e,V,ox,H,hu,f,rfl,rfl⟩:=Ra hc;have r:=dC (G:=G) hs hg V;rw[hd0] at r;have hxv:=uL (dC (G:=G) hs hg ox) hx;by_cases hn0:n=0;subst hn0;obtain⟨p,c,l⟩:∃p c,a.eval V=.slice p 0 c:=by
  generalize a.eval V=v at r;cases r with|one c _ S=>cases S with|bls=>exact⟨_,_,rfl⟩
 obtain⟨dst,op,D,pos,O,R⟩:=N;simp only at H;subst H;have B:∃g,P.info? e=some g/\g.size=1:=by
  cases z:P.info? e with
  |none=>rw[z] at f;cases f
  |some g=>rw[z] at f;injection f with f;exact⟨g,rfl,f⟩
 obtain⟨g,f,A⟩:=B;have C:(Builtin.copy_ #[t,u] D #[a.eval V,a.eval ox]).run P w=.ok (.int .i64 (min s.size 0:Nat)) w:=by
  cases p<;>simp[Builtin.copy_,l,hxv,run_underlying hu,Builtin.lenOf,Builtin.firstCells,sizeOf,typeInfo,f,A,goInt,storeCells]
 rw[bAg,Re,Cv hb (by simp)] at h;refine .inl ⟨.value (.int .i64 (min s.size 0:Nat)),.int .i64 (min s.size 0:Nat),w,_,F,γ,?_,.inl rfl,h,iU.refl _ _ _ _,X,(hs.put _ (bU rfl)),hk⟩;simp[execOp,resolve,invoke,builtin,C];obtain⟨b,m,c,i,l⟩:∃b m c,γ[id]?=some (.arr (some b) m)/\a.eval V=.slice (some ⟨b,M,none⟩) n c:=by
  generalize a.eval V=v at r;cases r with|one c _ S=>cases S with|bls _ _ _ _ b m c off i ho hcn=>
  have:=ho (by omega);rw[aZ2] at this;subst this;rcases i with i|i
  exact⟨b,m,c,i,rfl⟩;exact absurd i (X.noArr hb)
 obtain⟨hcap,hec,hes,ws,T,hh,hws,hwr⟩:=X.arr hb i;rw[aZ2] at hws;obtain⟨dst,op,D,pos,O,R⟩:=N;simp only at H;subst H;have U:((s.data.toList.take n).map fun b=>Value.int .u8 b.toNat).length=min s.size n:=by simp[Nat.min_comm]
 have B:∃g,P.info? e=some g/\g.size=1:=by
  cases z:P.info? e with
  |none=>rw[z] at f;cases f
  |some g=>rw[z] at f;injection f with f;exact⟨g,rfl,f⟩
 obtain⟨g,f,A⟩:=B;have I:∀ v∈((s.data.toList.take n).map fun b=>Value.int .u8 b.toNat),is1 v=true:=fun v hv=>by
   obtain⟨q,_,rfl⟩:=List.mem_map.1 hv;rfl
 have Z:∀q,((s.data.toList.take n).map fun b=>Value.int .u8 b.toNat)[q]?=((s.data.toList.take n)[q]?).map fun (b:UInt8)=>Value.int .u8 b.toNat:=fun q=>aZj
 have K:((s.data.toList.take n).map fun b=>Value.int .u8 b.toNat)=[]->s.data.toList.take n=[]:=fun h0=>by simpa using h0
 have J:List.take (min s.size n) (List.map (fun b=>Value.int .u8 b.toNat) s.data.toList)=((s.data.toList.take n).map fun b=>Value.int .u8 b.toNat):=by
   rw[aZZ,List.take_eq_take_iff];simp;omega
 have hlt:(s.data.toList.take n).length=min s.size n:=by simp[Nat.min_comm]
 generalize ((s.data.toList.take n).map fun b=>Value.int .u8 b.toNat)=L at J U I K Z
 have hst:=dU (P:=P) (off:=M) L 0 w ws hh I (by rw[U];omega);have C:(Builtin.copy_ #[t,u] D #[a.eval V,a.eval ox]).run P w=.ok (.int .i64 (min s.size n:Nat)) (if L=[] then w else setB w b (eO ws M L) T):=by
  have e1:Nat.min s.size n=min s.size n:=rfl;simp[Builtin.copy_,l,hxv,run_underlying hu,Builtin.lenOf,Builtin.firstCells,sizeOf,typeInfo,f,A,J,e1,hst,goInt]
 refine .inl ⟨.value (.int .i64 (min s.size n:Nat)),.int .i64 (min s.size n:Nat),(if L=[] then w else setB w b (eO ws M L) T),_,F,γ,?_,.inl rfl,h,?_,?_,(hs.put _ (bU rfl)),hk⟩
 simp[execOp,resolve,invoke,builtin,C];split;exact iU.refl _ _ _ _;exact iU.setB X i rfl;split;rename_i h0;rw[K h0,Re,Cv hb (by simp)];exact X;rename_i h0;have y:M+(s.data.toList.take n).length<=es.length:=by omega
 refine X.setObj i rfl ⟨hcap,by rw[aD3 y];exact hec,fun q hq=>?_,_,T,lQ hh (dZ _ _ _ _),by rw[dZ,hws,aZ2],fun i' j e1 d v Y W h3=>?_⟩
 obtain⟨i',E⟩:=bAI hq;rw[Rd y] at E;split at E;obtain⟨bb,_,rfl⟩:=Option.map_eq_some_iff.1 E;rfl;exact hes q (aZE E);rw[Rd y] at Y;rw[sU] at h3;simp only[aZY,aZ2,U] at h3;split at Y;rename_i hc';obtain⟨bb,hb1,rfl⟩:=Option.map_eq_some_iff.1 Y;have hj:j=0:=by
  cases j with
  |zero=>rfl
  |succ j=>simp at W
 subst hj;injection W with W;subst W
 rw[if_pos ⟨by omega,by omega,by omega⟩] at h3;rw[aZY,Z,hb1] at h3;injection h3 with h3;subst h3
 exact .raw _ rfl;rename_i hc';have hj:j=0:=by
  have h8:=hes _ (aZE Y);have:=aJ W;omega
 subst hj;rw[aZY] at h3;rw[if_neg (by
   rintro⟨a1,a2,_⟩;omega)] at h3
 exact hwr i' 0 e1 d v Y W (by rw[aZ2,aZY];exact h3)
end
end
section
def mX(F:Fz)(γ:L OI)(b:L AV)(vs:Array Value):Prop:=vs.size=b.length/\∀(i:Nat) av v,b[i]?=some av->vs[i]?=some v->RV F γ av v
def AC(P:Program)(G:aE)(f:FuncId)(c:L AV)(objs:L aD)(Q:AV->L aD->Prop):Prop:=
 ∀F γ (vs:Array Value) w,eG F γ objs w->fZ F G->mX F γ c vs->
  Calls P f vs w fun e w'=>∃r av b F' γ',e=.returned r/\Q av b/\objs.length<=b.length/\iU objs.length F γ w F' γ' w'/\eG F' γ' b w'/\RV F' γ' av r
def QC(P:Program)(G:aE)(f:FuncId)(c:L AV)(r:AV):Prop:=AC P G f c [] fun av b=>av=r/\b=[]
mutual
def kT(ρ:Nat->Nat):aU->aU
 |.ptr id o=>.ptr (ρ id) o
 |.bld id n=>.bld (ρ id) n
 |.ept id i s o=>.ept (ρ id) i s o
 |.bls id l n s=>.bls (ρ id) l n s
 |.fn f b=>.fn f (renL ρ b)
 |.dc d=>.dc d
 |.ref cs=>.ref cs
 |.mpc es=>.mpc es
 |.junk=>.junk
def renL(ρ:Nat->Nat):L aU->L aU
 |[]=>[]
 |c::cs=>kT ρ c::renL ρ cs
end
def H7(ρ:Nat->Nat):TV->TV
 |.one c=>.one (kT ρ c)
 |.agg cs=>.agg (cs.map (kT ρ))
def dO(ρ:Nat->Nat):AV->AV
 |.one c=>.one (kT ρ c)
 |.agg cs=>.agg (cs.map (kT ρ))
 |.tup l=>.tup (l.map (H7 ρ))
 |.junk=>.junk
def eL(ρ:Nat->Nat):aD->aD
 |.box cs=>.box (cs.map (kT ρ))
 |o=>o
section
variable {P:Program}{G:aE}{k:Nat}{F F':Fz}{γ γ':L OI}{w w':World}{ρ:Nat->Nat}
theorem H8:∀(cs:L aU)(i:Nat),(renL ρ cs)[i]?=(cs[i]?).map (kT ρ)
 |[],i=>by simp[renL]
 |c::cs,0=>by simp[renL]
 |c::cs,i+1=>by simp[renL,H8 cs i]
theorem H9:∀(cs:L aU),(renL ρ cs).length=cs.length
 |[]=>rfl
 |c::cs=>by simp[renL,H9 cs]
theorem RC.ren(m:∀(id:Nat)(o:OI),γ[id]?=some o->γ'[ρ id]?=some o){c:aU}{v:Value}(h:RC F γ c v):RC F γ' (kT ρ c) v:=by
 induction h with
 |dc d v h=>exact .dc d v h
 |ptr id off b h=>exact .ptr _ _ _ (m _ _ h)
 |bldN id cap h=>exact .bldN _ _ (m _ _ h)
 |bld id n b cap h=>exact .bld _ _ _ _ (m _ _ h)
 |ept id i size off b cap h=>exact .ept _ _ _ _ _ _ (m _ _ h)
 |bls id A n size b cap c off h y j=>exact .bls _ _ _ _ _ _ _ _ (h.imp (m _ _) (m _ _)) y j
 |ref cs b off g s j=>exact .ref cs b off g s j
 |mpc es r q p h x u=>exact .mpc es r q p h x u
 |fn f e g s z=>
  simp only[kT];rw[<- H9 (ρ:=ρ) e];refine .fn f (renL ρ e) g (fun i c j=>?_)
  rw[H8] at j;cases l:e[i]? with
  |none=>simp[l] at j
  |some t=>simp[l] at j;subst j;exact z i t l
 |junk v h=>exact .junk v h
theorem RC.unren{c:aU}:∀{v:Value},RC F γ (kT ρ c) v->(∀(id:Nat)(o:OI),γ[ρ id]?=some o->γ'[id]?=some o)->RC F γ' c v:=by
 have u:∀n,∀c:aU,SizeOf.sizeOf c<=n->∀{v:Value},RC F γ (kT ρ c) v->(∀(id:Nat)(o:OI),γ[ρ id]?=some o->γ'[id]?=some o)->RC F γ' c v:=by
  intro n
  induction n with
  |zero=>intro c h;cases c<;>simp at h
  |succ n C=>
   intro c t v h e;cases c with
   |dc d=>cases h with|dc _ _ h=>exact .dc _ _ h
   |ptr id off=>cases h with|ptr _ _ b h=>exact .ptr _ _ _ (e _ _ h)
   | bld id n=>cases h with
     | bldN _ cap h=>exact .bldN _ _ (e _ _ h)
     | bld _ _ b cap h=>exact .bld _ _ _ _ (e _ _ h)
   |ept id i size off=>cases h with|ept _ _ _ _ b cap h=>exact .ept _ _ _ _ _ _ (e _ _ h)
   |bls id D n size=>cases h with|bls _ _ _ _ b cap c off h A j=>exact .bls _ _ _ _ _ _ _ _ (h.imp (e _ _) (e _ _)) A j
   |ref cs=>cases h with|ref _ b off g s j=>exact .ref _ b off g s j
   |mpc es=>cases h with|mpc _ r p l h y q=>exact .mpc es r p l h y q
   |junk=>cases h with|junk _ h=>exact .junk _ h
   |fn f caps=>
    simp only[kT] at h;have m:∀c∈caps,SizeOf.sizeOf c<SizeOf.sizeOf caps:=fun c j=>List.sizeOf_lt_of_mem j
    have B:SizeOf.sizeOf caps<=n:=by simp at t;omega
    generalize x:renL ρ caps=cs at h;cases h with
    |fn _ _ g s=>
     have z:cs.length=caps.length:=by rw[<- x,H9]
     rw[z];refine .fn f caps g (fun i c j=>?_)
     have q:cs[i]?=some (kT ρ c):=by rw[<- x,H8,j];rfl
     exact C c (by have:=m c (aZE j);omega) (s i _ q) e
 intro v h e;exact u _ c (aZe _) h e
theorem RCs.renAll{cs:L aU}{vs:Array Value}(f:∀(id:Nat)(o:OI),γ[id]?=some o->γ'[ρ id]?=some o)(h:∀(i:Nat) c v,cs[i]?=some c->vs[i]?=some v->RC F γ c v):∀(i:Nat) c v,(cs.map (kT ρ))[i]?=some c->vs[i]?=some v->RC F γ' c v:=by
 intro i c v d g;rw[aZj] at d;cases b:cs[i]? with
 |none=>simp[b] at d
 |some e=>simp[b] at d;subst d;exact (h i e v b g).ren f
theorem RCs.unrenAll{cs:L aU}{vs:Array Value}(d:∀(id:Nat)(o:OI),γ[ρ id]?=some o->γ'[id]?=some o)(h:∀(i:Nat) c v,(cs.map (kT ρ))[i]?=some c->vs[i]?=some v->RC F γ c v):∀(i:Nat) c v,cs[i]?=some c->vs[i]?=some v->RC F γ' c v:=by
 intro i c v b e;exact (h i (kT ρ c) v (by rw[aZj,b];rfl) e).unren d
theorem RV.ren(e:∀(id:Nat)(o:OI),γ[id]?=some o->γ'[ρ id]?=some o){av:AV}{v:Value}(h:RV F γ av v):RV F γ' (dO ρ av) v:=by
 cases h with
 |one c v h=>exact .one _ _ (h.ren e)
 |agg cs vs d h=>exact .agg _ _ (by simpa using d) (RCs.renAll e h)
 |tup l vs d h=>
  refine .tup _ _ (by simpa using d) (fun i t v f g=>?_)
  rw[aZj] at f;cases b:l[i]? with
  |none=>simp[b] at f
  |some j=>
   simp[b] at f;subst f;cases h i j v b g with
   |one c v h=>exact .one _ _ (h.ren e)
   |agg cs vs d h=>exact .agg _ _ (by simpa using d) (RCs.renAll e h)
 |junk v=>exact .junk v
theorem RV.unren(d:∀(id:Nat)(o:OI),γ[ρ id]?=some o->γ'[id]?=some o){av:AV}{v:Value}(h:RV F γ (dO ρ av) v):RV F γ' av v:=by
 cases av with
 |one c=>cases h with|one _ _ h=>exact .one _ _ (h.unren d)
 |agg cs=>cases h with|agg _ vs b h=>exact .agg _ _ (by simpa using b) (RCs.unrenAll d h)
 |junk=>exact .junk _
 |tup l=>
  cases h with
  |tup _ vs b h=>
   refine .tup _ _ (by simpa using b) (fun i t v e f=>?_)
   have:=h i (H7 ρ t) v (by rw[aZj,e];rfl) f;cases t with
   |one c=>cases this with|one _ _ h=>exact .one _ _ (h.unren d)
   |agg cs=>cases this with|agg _ vs b h=>exact .agg _ _ (by simpa using b) (RCs.unrenAll d h)
theorem OK.ren{o:aD}{x:OI}(f:∀(id:Nat)(o:OI),γ[id]?=some o->γ'[ρ id]?=some o)(h:OK F γ w o x):OK F γ' w (eL ρ o) x:=by
 cases o with
 |box cs=>
  cases x with
  |box b=>obtain⟨vs,T,d,e,h3⟩:=h;exact⟨vs,T,d,by simpa using e,RCs.renAll f h3⟩
  |arr b c=>exact h.elim
  |dead=>exact h.elim
 | arr cap size es=>cases x with
   | box b=>exact h.elim
   | arr b c=>cases b with
     | none=>exact h
     | some b=>exact h
   | dead=>exact h.elim
 |dead=>cases x<;>exact h
theorem OK.unren{o:aD}{x:OI}(f:∀(id:Nat)(o:OI),γ[ρ id]?=some o->γ'[id]?=some o)(h:OK F γ w (eL ρ o) x):OK F γ' w o x:=by
 cases o with
 |box cs=>
  cases x with
  |box b=>obtain⟨vs,T,d,e,h3⟩:=h;exact⟨vs,T,d,by simpa using e,RCs.unrenAll f h3⟩
  |arr b c=>exact h.elim
  |dead=>exact h.elim
 | arr cap size es=>cases x with
   | box b=>exact h.elim
   | arr b c=>cases b with
     | none=>exact h
     | some b=>exact h
   | dead=>exact h.elim
 |dead=>cases x<;>exact h
end
end
section
def cQ(J:L Nat)(n:Nat)(t:Nat):Nat:=match J[t]? with|some j=>j|none=>n+(t-J.length)
def lJ{α:Type}:L Nat->L α->L α->L α
 |j::J,x::b,l=>lJ J b (l.set j x)
 |_,_,l=>l
def jC:aD->Bool
 |.box _=>true
 |_=>false
section
variable {α:Type}
theorem iD:∀(J:L Nat)(b l:L α),(lJ J b l).length=l.length
 |[],_,l=>by simp[lJ]
 |j::J,[],l=>by simp[lJ]
 |j::J,x::b,l=>by simp[lJ,iD J b]
theorem uQ:∀(J:L Nat)(b l:L α)(i:Nat),i∉J->(lJ J b l)[i]?=l[i]?
 |[],_,l,i,_=>by simp[lJ]
 |j::J,[],l,i,_=>by simp[lJ]
 | j::J,x::b,l,i,h=>by
   simp only[lJ];rw[uQ J b _ i (fun c=>h (aZB _ c)),aZw (fun e=>h (by subst e;exact aZt))]
theorem Cw:∀(J:L Nat)(b l:L α)(t j:Nat)(x:α),J.Nodup->J[t]?=some j->b[t]?=some x->j<l.length->(lJ J b l)[j]?=some x
 |[],_,l,t,j,x,_,h,_,_=>by simp at h
 |g::J,[],l,t,j,x,_,_,h,_=>by simp at h
 | g::J,i::b,l,t,j,x,d,c,e,f=>by
   simp only[lJ];rw[List.nodup_cons] at d;cases t with
   | zero=>
     simp at c e;subst c;subst e;rw[uQ J b _ g d.1,aZH f]
   | succ t=>exact Cw J b _ t j x d.2 (by simpa using c) (by simpa using e) (by simpa using f)
end
theorem aBk{J:L Nat}(h:J.Nodup){s t j:Nat}(b:J[s]?=some j)(c:J[t]?=some j):s=t:=by
 have f:=aJ b;have g:=aJ c;have d:=(List.getElem?_eq_some_iff.1 b).2;have e:=(List.getElem?_eq_some_iff.1 c).2;exact (List.getElem_inj h).1 (d.trans e.symm)
section
variable {P:Program}{G:aE}{k:Nat}{F:Fz}{γ:L OI}{w:World}{as:AS}{a:Act}
theorem L3{f:FuncId}{A:L AV}{objs:L aD}{J:L Nat}{Qc:AV->L aD->Prop}(hac:AC P G f A objs Qc)(hJ:J.Nodup)(hlen:objs.length=J.length) (hobj:∀(t j:Nat) o,J[t]?=some j->objs[t]?=some o->as.hp[j]?=some (eL (cQ J as.hp.length) o)) (g:eG F γ as.hp w) (hs:bY F γ as.sl a) (hg:fZ F G) (hk:k<=γ.length) {vs:Array Value} (hv:mX F γ (A.map (dO (cQ J as.hp.length))) vs):
  Calls P f vs w fun e w'=>∃ r av d,e=.returned r/\Qc av d/\∃ F' γ',iU k F γ w F' γ' w'/\
    eG F' γ' (lJ J (d.map (eL (cQ J as.hp.length))) (as.hp.map (cU fun id=>J.contains id&&!jC (aL as.hp id)))++(d.drop J.length).map (eL (cQ J as.hp.length))) w'/\
    bY F' γ' (as.sl.map (bG fun id=>J.contains id&&!jC (aL as.hp id))) a/\RV F' γ' (dO (cQ J as.hp.length) av) r/\k<=γ'.length:=by
 generalize hρ:cQ J as.hp.length=ρ at *;have X:∀(t j:Nat),J[t]?=some j->ρ t=j:=fun t j h=>by rw[<- hρ];simp[cQ,h]
 have ρ2:∀t,J.length<=t->ρ t=as.hp.length+(t-J.length):=fun t h=>by rw[<- hρ];simp[cQ,bAi h]
 
 have Z:∀(t j:Nat),J[t]?=some j->j<as.hp.length:=by
  intro t j h;have l:t<objs.length:=hlen ▸ aJ h;exact aJ (hobj t j _ h (aZi l))
 let n:L OI:=J.map fun j=>γ.getD j .dead
 have ge:∀(t j:Nat),J[t]?=some j->n[t]?=γ[j]?:=by
  intro t j h;have q:j<γ.length:=by rw[g.len];exact Z t j h
  simp[n,h,aZo,aZi q]
 have geN:∀(t:Nat),J.length<=t->n[t]?=none:=fun t h=>bAi (by simpa[n] using h)
 have R:∀(id:Nat)(o:OI),γ[ρ id]?=some o->n[id]?=some o:=by
  intro id o h;by_cases K:id<J.length;have q:J[id]?=some (J[id]'K):=aZi K;rw[X _ _ q] at h;rw[ge _ _ q];exact h;rw[ρ2 id (by omega)] at h;rw[bAi (by rw[g.len];omega)] at h;cases h
 have Y:∀t b,cG n t=some b->∃j,J[t]?=some j/\cG γ j=some b:=by
  intro t b h;obtain⟨y,N,U⟩:=dD h;have l:t<J.length:=by have:=aJ N;simpa[n] using this
  have q:J[t]?=some (J[t]'l):=aZi l;rw[ge _ _ q] at N;exact⟨_,q,bV N U⟩
 have hie:eG F n objs w:=by
  refine⟨g.fz,by simp[n,hlen],?_,?_,?_⟩;intro s t b p m;obtain⟨j1,hj1,hb1⟩:=Y s b p;obtain⟨j2,hj2,hb2⟩:=Y t b m;have:=g.nd _ _ _ hb1 hb2;subst this;exact aBk hJ hj1 hj2;intro t b h;obtain⟨j,_,V⟩:=Y t b h;exact g.disj j b V;intro t o x p m;have l:t<J.length:=by have:=aJ m;simpa[n] using this
  have q:J[t]?=some (J[t]'l):=aZi l;rw[ge _ _ q] at m;exact (g.ok _ _ x (hobj t _ o q p) m).unren R
 have hve:mX F n A vs:=by
  refine⟨by simpa using hv.1,fun i av v p m=>?_⟩
  exact (hv.2 i (dO ρ av) v (by rw[aZj,p];rfl) m).unren R
 refine (hac F n vs w hie hg hve).mono ?_;rintro e w' ⟨r,av,d,F',γ',rfl,hq,hlo,I,hI,hR⟩;refine⟨r,av,d,rfl,hq,F',lJ J γ' γ++γ'.drop J.length,?_⟩;have hγl:γ'.length=d.length:=hI.len
 
 have E:∀(id:Nat)(o:OI),γ'[id]?=some o->(lJ J γ' γ++γ'.drop J.length)[ρ id]?=some o:=by
  intro id o h;by_cases K:id<J.length;have q:J[id]?=some (J[id]'K):=aZi K;rw[X _ _ q];have hjl:J[id]'K<γ.length:=by rw[g.len];exact Z _ _ q
  exact bX (Cw J γ' γ id _ o hJ q h hjl);rw[ρ2 id (by omega),aZD (by rw[iD,g.len];omega),iD,g.len,bAy,aZK];rw[show J.length+(id-J.length)=id by omega];exact h
 have hold:∀(i:Nat)(o:OI),i∉J->γ[i]?=some o->(lJ J γ' γ++γ'.drop J.length)[i]?=some o:=fun i o hn h=>bX (by rw[uQ J γ' γ i hn];exact h)
 have D:∀(id:Nat)(o:OI),(J.contains id&&!jC (aL as.hp id))=false->γ[id]?=some o->(lJ J γ' γ++γ'.drop J.length)[id]?=some o:=by
  intro id o hp h;by_cases T:id∈J;simp only[Bool.and_eq_false_iff,List.contains_eq_mem,decide_eq_false_iff_not,Bool.not_eq_false'] at hp;rcases hp with hp|hp
  exact absurd T hp;obtain⟨t,l⟩:=bAI T;have hl:id<as.hp.length:=by rw[<- g.len];exact aJ h
  have hgd:as.hp[id]?=some (aL as.hp id):=by simp[aL,aZo,aZi hl]
  have u:=g.ok id _ o hgd h;cases M:aL as.hp id with
  |box cs=>
   rw[M] at u;cases o with
   |box b=>
    have htl:=aJ l;have:=I.box t (by omega) b (by rw[ge _ _ l];exact h);have m:=E t _ this;rwa[X _ _ l] at m
   |arr b c=>exact u.elim
   |dead=>exact u.elim
  |arr _ _ _=>rw[M] at hp;simp[jC] at hp
  |dead=>rw[M] at hp;simp[jC] at hp
  exact hold id o T h
 
 have H:∀i b,cG (lJ J γ' γ++γ'.drop J.length) i=some b->(i∉J/\cG γ i=some b)\/(∃t,ρ t=i/\cG γ' t=some b):=by
  intro i b h;obtain⟨y,N,U⟩:=dD h;by_cases B:i<γ.length;rw[aZv (by rw[iD];exact B)] at N;by_cases T:i∈J;obtain⟨t,l⟩:=bAI T;have htl:=aJ l;have z:t<γ'.length:=by omega
  have m:=Cw J γ' γ t i _ hJ l (aZi z) B;rw[m] at N;injection N with N
  subst N;exact .inr ⟨t,X _ _ l,bV (aZi z) U⟩;rw[uQ J γ' γ i T] at N;exact .inl ⟨T,bV N U⟩;rw[aZD (by rw[iD];omega),iD,aZK] at N;refine .inr ⟨J.length+(i-γ.length),?_,bV N U⟩;rw[ρ2 _ (by omega),<- g.len];omega
 have S:∀t b,cG γ' t=some b->(∃j,j∈J/\cG γ j=some b)\/w.heap.size<=b:=by
  intro t b h;rcases I.blk t b h with⟨s,hs'⟩|h
  obtain⟨j,q,V⟩:=Y s b hs';exact .inl ⟨j,aZE q,V⟩;exact .inr h
 have hfar:∀i b,i∉J->cG γ i=some b->w'.heap[b]?=w.heap[b]?:=by
  intro i b hn V;refine I.far b (g.lt V) (fun t l=>?_)
  obtain⟨j,q,C⟩:=Y t b l;exact hn (by rw[g.nd _ _ _ V C];exact aZE q)
 have W:∀s t b,cG γ' s=some b->cG γ' t=some b->ρ s=ρ t:=fun s t b p m=>by rw[hI.nd _ _ _ p m]
 refine⟨?_,?_,hs.kill I.sub D,hR.ren E,by simp[iD];omega⟩;refine⟨I.sub,I.os,I.tape,I.output,I.size,fun b V hn=>?_,fun b o h=>?_,fun i b h=>?_,fun i hik b h=>?_⟩
 exact I.far b V (fun t l=>by obtain⟨j,_,C⟩:=Y t b l;exact hn j C)
 rcases I.new b o h with h|h|⟨t,l⟩;exact .inl h;exact .inr (.inl h);obtain⟨j,_,C⟩:=Y t b l;exact .inr (.inr ⟨j,C⟩);rcases H i b h with⟨_,h⟩|⟨t,_,h⟩;exact .inl ⟨i,h⟩;rcases S t b h with⟨j,_,h⟩|h;exact .inl ⟨j,h⟩;exact .inr h;have hl:i<as.hp.length:=by rw[<- g.len];exact aJ h
 have hgd:as.hp[i]?=some (aL as.hp i):=by simp[aL,aZo,aZi hl]
 have u:=g.ok i _ _ hgd h;refine D i _ ?_ h;cases M:aL as.hp i with
 |box cs=>simp[jC]
 |arr _ _ _=>rw[M] at u;exact u.elim
 |dead=>rw[M] at u;exact u.elim
 refine⟨hI.fz,by simp[iD,g.len,hγl],?_,?_,?_⟩;intro i j b p m;rcases H i b p with⟨a1,O⟩|⟨t,a1,O⟩<;>rcases H j b m with⟨c1,c2⟩|⟨s,c1,c2⟩
 exact g.nd _ _ _ O c2;exfalso;rcases S s b c2 with⟨j',hj',hb'⟩|h
 exact a1 (by rw[g.nd _ _ _ O hb'];exact hj');have:=g.lt O;omega;exfalso;rcases S t b O with⟨j',hj',hb'⟩|h
 exact c1 (by rw[g.nd _ _ _ c2 hb'];exact hj');have:=g.lt c2;omega;rw[<- a1,<- c1];exact W _ _ _ O c2;intro i b h;rcases H i b h with⟨a1,O⟩|⟨t,_,O⟩
 cases hF:F' b with
 |none=>rfl
 |some o=>
  exfalso;rcases I.new b o hF with h|h|⟨t,l⟩
  rw[g.disj i b O] at h;cases h;have:=g.lt O;omega;obtain⟨j,q,C⟩:=Y t b l;exact a1 (by rw[g.nd _ _ _ O C];exact aZE q)
 exact hI.disj t b O;intro i o x p m;by_cases B:i<γ.length;rw[aZv (by rw[iD];exact B)] at m;rw[aZv (by rw[iD,aY9,<- g.len];exact B)] at p;by_cases T:i∈J;obtain⟨t,l⟩:=bAI T;have htl:=aJ l;have z:t<γ'.length:=by omega
 have hto:t<d.length:=by omega
 rw[Cw J γ' γ t i _ hJ l (aZi z) B] at m;rw[Cw J _ _ t i (eL ρ (d[t]'hto)) hJ l (by rw[aZj,aZi hto];rfl) (by rw[aY9,<- g.len];exact B)] at p;injection p with p;injection m with m;subst p;subst m
 exact (hI.ok t _ _ (aZi hto) (aZi z)).ren E;rw[uQ J _ _ i T] at p m;rw[aZj] at p;cases ho:as.hp[i]? with
 |none=>simp[ho] at p
 |some o0=>
  simp only[ho,aZf,Option.some.injEq] at p;subst p;exact (g.ok i o0 x ho m).kill I.sub D (fun b V=>hfar i b T (bV m V))
 rw[aZD (by rw[iD];omega),iD,aZK] at m;rw[aZD (by rw[iD,aY9,<- g.len];omega),iD,aY9,<- g.len,aZj,aZK] at p;cases ho:d[J.length+(i-γ.length)]? with
 |none=>simp[ho] at p
 |some o0=>
  simp[ho] at p;subst p;exact (hI.ok _ o0 x ho m).ren E
end
end
section
theorem Bz{p:Nat->Bool}(hp:∀id,p id=false)(c:aU):cO p c=c:=by
 have:p=fun _=>false:=funext hp
 subst this;simp[cO,aU.keep_none]
theorem Vn{p:Nat->Bool}(hp:∀id,p id=false)(t:TV):uJ p t=t:=by
 cases t<;>simp[uJ,Bz hp,List.map_id'']
theorem Vo{p:Nat->Bool}(hp:∀id,p id=false)(v:AV):bG p v=v:=by
 cases v<;>simp[bG,Bz hp,Vn hp,List.map_id'']
theorem Vp{p:Nat->Bool}(hp:∀id,p id=false)(o:aD):cU p o=o:=by
 cases o<;>simp[cU,Bz hp,List.map_id'']
theorem rP{p:Nat->Bool}(hp:∀id,p id=false)(l:L AV):l.map (bG p)=l:=by simp[Vo hp,List.map_id'']
theorem rQ{p:Nat->Bool}(hp:∀id,p id=false)(l:L aD):l.map (cU p)=l:=by simp[Vp hp,List.map_id'']
def Vq(P:Program)(f:FuncId):Bool:=
 match P.funcs[f]? with
 | some b=>!(b.name=="runtime.NumGoroutine"||b.body.isNone)
 |none=>false
section
variable {P:Program}{G:aE}{k:Nat}{Q:AS->Prop}{as as':AS}{o:aO}{rest ops:L aO}{F:Fz}{γ:L OI}{w:World}{a:Act}
theorem mB{f:FuncId}(h:Vq P f=true)(b:Array Value):(callFunc f b).run P w=.ok (.enter f b) w:=by
 unfold Vq at h;cases hf:P.funcs[f]? with
 |none=>simp[hf] at h
 |some e=>
  simp only[hf,bAb,Bool.or_eq_false_iff] at h;obtain⟨g,i⟩:=h;have c:¬ e.name="runtime.NumGoroutine":=by simpa using g
  have d:¬ e.body=none:=by intro h;simp[h] at i
  simp[callFunc,hf,c,d]
theorem Cx{b:Oper}{f:FuncId}{d:L aI}(e:bE P b=some (.call f d)):∃c,b.op=.call c/\c.callee=.value (.func f)/\d=c.args.toList.map aW/\Vq P f=true:=by
 have g:=jA e rfl;obtain⟨c,p⟩:=Nx (.inl g);obtain⟨r,v,q,t,l,n⟩:=b;obtain⟨j,m,i⟩:=c;simp only at p;subst p;simp only[cK] at g;split at g;rename_i s;simp only[bE,fY] at e;cases hf:P.funcs[s]? with
 |none=>simp[hf] at e
 |some u=>
  simp only[hf] at e;split at e;cases e;rename_i h;simp only[Option.some.injEq,AI.call.injEq] at e;obtain⟨rfl,rfl⟩:=e;exact⟨_,rfl,rfl,rfl,by simp only[Vq,hf,bAb];exact bAw.2 h⟩
 simp[gT] at g;simp[gT] at g;simp[gT] at g;simp[gT] at g;simp[gT] at g
theorem aBl{b:Oper}{x:aI}{d:L aI}(i:bE P b=some (.callv x d)):∃c t,b.op=.call c/\c.callee=.value (.tmp t)/\d=c.args.toList.map aW/\x=.t t:=by
 have e:=jA i rfl;obtain⟨c,q⟩:=Nx (.inr (.inl e));obtain⟨s,z,r,y,l,n⟩:=b;obtain⟨j,m,h⟩:=c;simp only at q;subst q;simp only[cK] at e;split at e;simp[gT] at e;rename_i u p;cases u with
 |tmp t=>
  simp only[bE,fY,Option.some.injEq,AI.callv.injEq] at i;obtain⟨rfl,rfl⟩:=i;exact⟨_,t,rfl,rfl,rfl,rfl⟩
 |const v=>simp[bE,fY] at i
 |global g=>simp[bE,fY] at i
 |func f=>exact absurd rfl (p f)
 simp[gT] at e;simp[gT] at e;simp[gT] at e;simp[gT] at e
theorem Cy(g:bY F γ as.sl a)(f:fZ F G)(d:Array Operand):mX F γ ((d.toList.map aW).map (aM G as.sl)) (d.map a.eval):=by
 refine⟨by simp,fun i av v b c=>?_⟩
 simp only[aZG,aZj,Array.getElem?_map,bAe] at b c;cases e:d[i]? with
 |none=>simp[e] at b
 |some x=>
  simp[e] at b c;subst b;subst c;exact dC g f x
def jD(J:L Nat)(as:AS)(c:Option Nat)(av:AV)(b:L aD):AS:=
 ⟨aS (as.sl.map (bG fun id=>J.contains id&&!jC (aL as.hp id))) c (dO (cQ J as.hp.length) av),
  lJ J (b.map (eL (cQ J as.hp.length))) (as.hp.map (cU fun id=>J.contains id&&!jC (aL as.hp id)))++(b.drop J.length).map (eL (cQ J as.hp.length))⟩
theorem WR.call{f:FuncId}{g:L aI}{d:L AV}{objs:L aD}{J:L Nat}{A:AV->L aD->Prop}(x:kB G as o.guard)(S:o.ai=.call f g)(v:AC P G f d objs A)(N:J.Nodup) (m:objs.length=J.length) (n:∀(t j:Nat) o,J[t]?=some j->objs[t]?=some o->as.hp[j]?=some (eL (cQ J as.hp.length) o)) (i:g.map (aM G as.sl)=d.map (dO (cQ J as.hp.length))) (h:∀av b,A av b->WR P G k rest Q (jD J as o.dst av b)):WR P G k (o::rest) Q as:=by
 refine WR.step x (fun F γ a w q B X T D C U=>?_)
 rw[S] at B;obtain⟨c,p,l,rfl,z⟩:=Cx B;obtain⟨I,Y,H,W,s,u⟩:=q;simp only at p;subst p;have E:=Cy (G:=G) D C c.args;rw[i] at E;refine .inr ⟨f,c.args.map a.eval,?_,(L3 v N m n T D C U E).mono ?_⟩;simp[execOp,resolve,l,Act.eval,Deferred.ofValue,invoke,mB z];rintro e w' ⟨r,av,b,rfl,V,F',γ',K,M,R,O,y⟩;exact⟨r,_,F',γ',rfl,h av b V,K,M,R.put _ O,y⟩
theorem WR.callv{f:FuncId}{d:L aU}{x:aI}{p:L aI}{l:L AV}{objs:L aD}{J:L Nat}{U:AV->L aD->Prop}(M:kB G as o.guard)(ha:o.ai=.callv x p)(hx:aM G as.sl x=.one (.fn f d)) (R:Vq P f=true) (H:AC P G f l objs U) (hJ:J.Nodup) (z:objs.length=J.length) (A:∀(t j:Nat) o,J[t]?=some j->objs[t]?=some o->as.hp[j]?=some (eL (cQ J as.hp.length) o)) (u:p.map (aM G as.sl)++d.map AV.one=l.map (dO (cQ J as.hp.length))) (h:∀av b,U av b->WR P G k rest Q (jD J as o.dst av b)):WR P G k (o::rest) Q as:=by
 refine WR.step M (fun F γ a w C V hd hi S K hk=>?_)
 rw[ha] at V;obtain⟨c,t,B,y,rfl,rfl⟩:=aBl V;obtain⟨X,op,W,pos,D,E⟩:=C;simp only at B;subst B;have hv:=Cy (G:=G) S K c.args;have hf:=dC (G:=G) S K (.tmp t);rw[show aW (.tmp t)=.t t from rfl,hx] at hf
 generalize I:a.eval (.tmp t)=fv at hf;cases hf with|one _ _ hf=>cases hf with|fn _ _ g hr=>
 have T:mX F γ (l.map (dO (cQ J as.hp.length))) (c.args.map a.eval++((List.range d.length).map g).toArray):=by
  rw[<- u];refine⟨by simp,fun i av v q s=>?_⟩
  by_cases n:i<c.args.size;rw[aZv (by simpa using n)] at q;rw[Array.getElem?_append_left (by simpa using n)] at s;exact hv.2 i av v q s;rw[aZD (by simpa using n)] at q;rw[Array.getElem?_append_right (by simpa using n)] at s;simp only[aY9,bAH,Array.size_map] at q s;simp only[aZj,List.getElem?_toArray] at q s;cases m:d[i-c.args.size]? with
  |none=>simp[m] at q
  |some cc=>
   simp[m] at q;have O:=aJ m;simp[bAx O] at s;subst q;subst s;exact .one _ _ (hr _ _ m)
 refine .inr ⟨f,c.args.map a.eval++((List.range d.length).map g).toArray,?_,(L3 H hJ z A hi S K hk T).mono ?_⟩;simp[execOp,resolve,y,I,Deferred.ofValue,invoke,mB R];rintro e w' ⟨r,av,b,rfl,hq,F',γ',Y,Z,hS,hR,N⟩;exact⟨r,_,F',γ',rfl,h av b hq,Y,Z,hS.put _ hR,N⟩
theorem WR.callQ{f:FuncId}{c:L aI}{b:L AV}{r:AV}(g:kB G as o.guard)(m:o.ai=.call f c)(e:QC P G f b r) (d:c.map (aM G as.sl)=b.map (dO (cQ [] as.hp.length))) (h:WR P G k rest Q ⟨aS as.sl o.dst (dO (cQ [] as.hp.length) r),as.hp⟩):WR P G k (o::rest) Q as:=by
 refine WR.call (J:=[]) g m e List.nodup_nil rfl (fun t j o h=>by simp at h) d (fun av i n=>?_)
 obtain⟨rfl,rfl⟩:=n;have l:jD [] as o.dst av []=⟨aS as.sl o.dst (dO (cQ [] as.hp.length) av),as.hp⟩:=by
  simp only[jD,lJ,aZm,List.drop_nil,aZ9];rw[rP (by simp),rQ (by simp)]
 rw[l];exact h
theorem WR.callN{f:FuncId}{d:L aI}{c:L AV}{l:AV->L aD->Prop}(i:kB G as o.guard)(n:o.ai=.call f d)(g:AC P G f c [] l) (e:d.map (aM G as.sl)=c.map (dO (cQ [] as.hp.length))) (h:∀av b,l av b->WR P G k rest Q ⟨aS as.sl o.dst (dO (cQ [] as.hp.length) av),as.hp++b.map (eL (cQ [] as.hp.length))⟩):WR P G k (o::rest) Q as:=by
 refine WR.call (J:=[]) i n g List.nodup_nil rfl (fun t j o h=>by simp at h) e (fun av b p=>?_)
 have m:jD [] as o.dst av b=⟨aS as.sl o.dst (dO (cQ [] as.hp.length) av),as.hp++b.map (eL (cQ [] as.hp.length))⟩:=by
  simp only[jD,lJ,aZc,aZW];rw[rP (by simp),rQ (by simp)]
 rw[m];exact h av b p
