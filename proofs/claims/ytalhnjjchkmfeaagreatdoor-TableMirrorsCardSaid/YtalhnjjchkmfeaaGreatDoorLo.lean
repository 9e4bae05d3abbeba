/- Part. Conditions: none. -/
import Derived.Test.YtalhnjjchkmfeaaGreatDoorLk
import Derived.Lib.ConvBytes
namespace Go.Proofs.YtalhnjjchkmfeaaGreatDoor
set_option linter.unusedSimpArgs false
set_option linter.unusedVariables false
section
section
variable {P:Program}{G:aF}{k:Nat}{Q:AS->Prop}{as as':AS}{o:aN}{rest ops:L aN}{F:Fz}{γ:L OI}{w w':World}{hp:L aD}
theorem Gc{α:Type}{es b:L α}{n i:Nat}{e:α}(d:n<=es.length)(h:(es.take n++b)[i]?=some e):(i<n/\es[i]?=some e)\/(n<=i/\b[i-n]?=some e):=by
 by_cases c:i<n;rw[aZU (by simp;omega),bAb,if_pos c] at h;exact .inl ⟨c,h⟩;rw[aZ0 (by simp;omega)] at h;have:min n es.length=n:=by omega
 simp only[aZD,this] at h;exact .inr ⟨by omega,h⟩
theorem Rp{t u ty e:TypeId}{du:TypeDesc}{i:TypeInfo}{z:Value}(ht:P.underlying t=some (.slice e))(hu:P.underlying u=some du)(hdu:du=.slice e\/du=.string)(hin:P.info? e=some i)(hz:i.zero=some z) (hzs:z.cells.size=i.size) (hby:0<i.bytes) {id n cap:Nat}{es f:L (L DC)}{x sv:Value} (W:dV F γ hp w) (hb:aL hp id=.arr cap i.size es) (hsv:RC F γ (.bld id n) sv) (hn:n<=es.length) (hns:∀e∈f,e.length=i.size) (hub:(n+f.length)*i.bytes<=140737488355328) (p:L Value) (hnl:p.length=f.length*i.size) (hx:∀w':World,w'.heap=w.heap->(Builtin.firstCells i.size f.length x).run P w'=.ok p.toArray w') (hxl:(Builtin.lenOf x).run P w=.ok f.length w) (hnr:∀(C j:Nat) e d v,f[C]?=some e->e[j]?=some d->p[C*i.size+j]?=some v->RD F d v) (hn1:∀v∈p,is1 v=true):∃r w' x' g,(Builtin.append_ #[t,u] ty #[sv,x]).run P w=.ok r w'/\n+f.length<=g/\iL k F γ w F (γ.set id x') w'/\ dV F (γ.set id x') ((hp.map (cU (·==id))).set id (.arr g i.size (es.take n++f))) w'/\RC F (γ.set id x') (.bld id (n+f.length)) r:=by
 have hbyte:∀q,0<i.bytes->q<=q*i.bytes:=fun q h=>Nat.le_mul_of_pos_right _ h
 have V:∀(m:∀e∈es,e.length=i.size),∀e∈es.take n++f,e.length=i.size:=by
  intro m e he;rcases bAY.1 he with h|h
  exact m e (aZZ h);exact hns e h
 have M:(es.take n++f).length=n+f.length:=by simp;omega
 
 have K:∀(xo:OI)(U:γ[id]?=some xo)(hnb:∀b,xo≠.box b)(I:L Value)(c:Nat)(rest:L Value),I.length=n*i.size->n+f.length<=c->rest.length=(c-(n+f.length))*i.size->
   (∀(C j:Nat) e d v,C<n->es[C]?=some e->e[j]?=some d->I[C*i.size+j]?=some v->RD F d v)->(∀e∈es,e.length=i.size)->
   iL k F γ w F (γ.set id (.arr (some w.heap.size) c)) (fF w.drew (.cells (I++p++rest).toArray e))/\
   dV F (γ.set id (.arr (some w.heap.size) c)) ((hp.map (cU (·==id))).set id (.arr c i.size (es.take n++f))) (fF w.drew (.cells (I++p++rest).toArray e))/\
   RC F (γ.set id (.arr (some w.heap.size) c)) (.bld id (n+f.length)) (.slice (some ⟨w.heap.size,0,none⟩) (n+f.length) c):=by
  intro xo U hnb I c rest hol Z D hor m;have y:∀b,b<w.heap.size->xo.blk≠some b->(fF w.drew (.cells (I++p++rest).toArray e)).heap[b]?=w.heap[b]?:=fun b S _=>pC (w:=w.drew) S
  have s:∀b,(OI.arr (some w.heap.size) c).blk=some b->xo.blk=some b\/b=w.heap.size:=by intro b S;simp[OI.blk] at S;exact .inr S.symm
  refine⟨iL.setArr W U hnb s y rfl rfl rfl (by simp[fF]),dV.setArr W U s y ?_,.bld _ _ _ c (aZ7 (aK U))⟩;refine⟨rfl,by rw[M];exact Z,V m,_,e,Cz (w:=w.drew),?_,?_⟩;simp only[List.size_toArray,aZA,hol,hnl,D];rw[<- bAj,<- bAj];congr 1;omega;intro C j Y d v h1 H h3;simp only[List.getElem?_toArray] at h3;rcases Gc hn h1 with⟨a1,E⟩|⟨a1,E⟩
  have J:j<i.size:=by have:=aK H;have:=m _ (aZ4 E);omega
  have:=iM a1 (aZE _) J;rw[aZP,aZU (by omega)] at h3;exact hor C j Y d v a1 E H h3;have J:j<i.size:=by have:=aK H;have:=hns _ (aZ4 E);omega
  have h5:=iM (aK E) (aZE _) J;have h6:C*i.size+j=n*i.size+((C-n)*i.size+j):=by
   rw[<- Nat.add_assoc,<- bAj];congr 2;omega
  rw[h6,aZP,aZ0 (by omega),hol,bA5,aZU (by omega)] at h3;exact hnr _ j Y d v E H h3
 cases hsv with
 |bldN _ cap0 l=>
  obtain⟨h1,H,h3⟩:=W.arrN hb l;subst h1;subst H;subst h3;have N:=Zr (P:=P) (ty:=ty) (A:=none) (n:=0) (cap:=0) ht hu hdu hin hz hby [] p rfl hx hxl hub rfl;by_cases B:0+f.length<=0;have hnn:f=[]:=bAL (by omega);subst hnn;refine⟨_,w,.arr none 0,0,by rw[N.1 B];rfl,by simp,?_,?_,?_⟩;exact iL.setArr W l (by simp) (fun b h=>by simp[OI.blk] at h) (fun b _ _=>rfl) rfl rfl rfl (aZE _)
  exact dV.setArr W l (fun b h=>by simp[OI.blk] at h) (fun b _ _=>rfl) ⟨rfl,rfl,rfl⟩
  exact .bldN _ 0 (aZ7 (aK l));obtain⟨c,rest,Z,D,O⟩:=N.2 B;rw[hzs] at D;obtain⟨hE,hI,hR⟩:=K _ l (by simp) [] c rest (by simp) Z D (fun C j e d v h=>by omega) (fun e h=>by simp at h)
  exact⟨_,_,_,c,O,Z,hE,hI,hR⟩
 |bld _ _ b g l=>
  obtain⟨hcc,hec,m,vs,T,hh,R,hr⟩:=W.arr hb l;subst hcc;have hcap:n*i.size<=vs.size:=by rw[R];exact bAC _ (by omega)
  have X:∀w':World,w'.heap=w.heap->(Builtin.firstCells i.size n (.slice (some ⟨b,0,none⟩) n g)).run P w'=.ok (vs.toList.take (n*i.size)).toArray w':=by
   intro w' hw;simp only[Builtin.firstCells];have hl:(vs.toList.take (n*i.size)).length=n*i.size:=by simp;omega
   have:=run_loadCells_list (P:=P) w' ⟨b,0,none⟩ (vs.toList.take (n * i.size)) (fun j v J=>by
     rw[eB,bAm,mQ (hh.of (by rw[hw]))];rw[bAb] at J;split at J
     · simpa using J
     · cases J)
   rwa[hl] at this
  have N:=Zr (P:=P) (ty:=ty) (A:=some ⟨b,0,none⟩) (n:=n) (cap:=g) ht hu hdu hin hz hby _ p (X w rfl) hx hxl hub (X w.drew rfl);by_cases B:n+f.length<=g;have hfit:n*i.size+p.length<=vs.size:=by
   rw[hnl,R,<- bAj];exact bAC _ B
  have hst:=dY (P:=P) (off:=n*i.size) p 0 w vs hh hn1 (by omega);have hst':(storeCells ((⟨b,0,none⟩:Addr).add (n*i.size)) p).run P w=.ok () (if p=[] then w else setB w b (eO vs (n*i.size) p) T):=by
   rw[eB,bAm];exact hst
  have s:∀b',(OI.arr (some b) g).blk=some b'->(OI.arr (some b) g).blk=some b'\/b'=w.heap.size:=fun _ h=>.inl h
  have y:∀b',b'<w.heap.size->(OI.arr (some b) g).blk≠some b'->(if p=[] then w else setB w b (eO vs (n*i.size) p) T).heap[b']?=w.heap[b']?:=by
   intro b' _ hne;split;rfl;exact C0 (fun e=>hne (by subst e;rfl))
  refine⟨_,if p=[] then w else setB w b (eO vs (n*i.size) p) T,.arr (some b) g,g,by rw[N.1 B];simp only[hst'];rfl,B,?_,?_,.bld _ _ _ g (aZ7 (aK l))⟩
  refine iL.setArr W l (by simp) s y ?_ ?_ ?_ ?_<;>split<;>first|rfl|exact aZE _|simp[setB]
  refine dV.setArr W l s y ⟨rfl,by rw[M];exact B,V m,eO vs (n*i.size) p,T,?_,by rw[eG,R],?_⟩;split;rename_i h0;subst h0;exact hh;exact lJ hh (eG _ _ _ _);intro C j Y d v h1 H h3;rw[sD] at h3;simp only[bAn] at h3;rcases Gc hn h1 with⟨a1,E⟩|⟨a1,E⟩
  have J:j<i.size:=by have:=aK H;have:=m _ (aZ4 E);omega
  have:=iM a1 (aZE _) J;rw[if_neg (by omega)] at h3;exact hr C j Y d v E H h3;have J:j<i.size:=by have:=aK H;have:=hns _ (aZ4 E);omega
  have h5:=iM (aK E) (aZE _) J;have h6:C*i.size+j=n*i.size+((C-n)*i.size+j):=by
   rw[<- Nat.add_assoc,<- bAj];congr 2;omega
  rw[h6,if_pos ⟨by omega,by omega,by omega⟩,bA5] at h3;exact hnr _ j Y d v E H h3;obtain⟨c,rest,Z,D,O⟩:=N.2 B
  rw[hzs] at D;obtain⟨hE,hI,hR⟩:=K _ l (by simp) (vs.toList.take (n * i.size)) c rest (by simp;omega) Z D (fun C j Y d v h1 H h3 h4=>by
    rw[bAb] at h4;split at h4
    · exact hr C j Y d v H h3 (by simpa using h4)
    · cases h4) m
  exact⟨_,_,_,c,O,Z,hE,hI,hR⟩
theorem Zs{d:Oper}{size bytes:Nat}{g:L Value}{s x:aH}(b:bE P d=some (.app size bytes g s x)):
  ∃t u e i z os ox,d.op=.call { callee:=.builtin .append,args:=#[os,ox],argTypes:=#[t,u] }/\P.underlying t=some (.slice e)/\P.underlying u=some (.slice e)/\P.info? e=some i/\i.zero=some z/\
   z.cells.size=i.size/\0<i.bytes/\size=i.size/\bytes=i.bytes/\s=aY os/\x=aY ox:=by
 have f:=iU b rfl;obtain⟨c,p⟩:=O1 (.inr (.inr (.inl f)));obtain⟨v,H,r,D,h,j⟩:=d;obtain⟨callee,args,argTypes⟩:=c;simp only at p;subst p;simp only[cH] at f;split at f;simp[gS] at f;simp[gS] at f;simp only[bE,fY] at b;split at b;rename_i t u os ox n l;have B:args=#[os,ox]:=by rw[<- bA6];exact l
 have C:argTypes=#[t,u]:=by rw[<- bA6];exact n
 subst B;subst C;split at b;rename_i e E y A;split at b;rename_i m;subst m;cases h3:P.info? e with
 |none=>simp[h3] at b
 | some i=>cases h4:i.zero with
   | none=>simp[h3,h4] at b
   | some z=>
     simp only[h3,h4,aZQ] at b;split at b
     · rename_i q
       simp only[Option.some.injEq,AI.app.injEq] at b;obtain⟨rfl,rfl,rfl,rfl,rfl⟩:=b;exact⟨t,u,e,i,z,os,ox,rfl,y,A,h3,h4,q.1,q.2,rfl,rfl,rfl,rfl⟩
     · cases b
 cases b
 ·exfalso
  repeat' (first|(obtain⟨_,_,b⟩:=b)|split at b|(simp only[bAk] at b))
  all_goals first|(cases b;done)|(injection b with b;cases b;done)
 cases b;cases b;simp[gS] at f;simp[gS] at f;simp[gS] at f
theorem WR.app{size bytes id n cap:Nat}{y:L Value}{s x:aH}{es b:L (L DC)}(H:jR G as o.guard)(ha:o.ai=.app size bytes y s x) (O:aM G as.sl s=.one (.bld id n)) (hb:aL as.hp id=.arr cap size es) (hn:n<=es.length) (p:sF as.hp (aM G as.sl x)=some b) (l:∀e∈b,e.length=size) (R:(n+b.length)*bytes<=140737488355328) (h:∀d,n+b.length<=d->WR P G k rest Q ⟨aR (as.sl.map (bG (·==id))) o.dst (.one (.bld id (n+b.length))),(as.hp.map (cU (·==id))).set id (.arr d size (es.take n++b))⟩):WR P G k (o::rest) Q as:=by
 refine WR.step H (fun F γ a w g V hd X N W hk=>?_)
 rw[ha] at V;obtain⟨t,u,e,i,z,os,Y,m,ht,hu,I,hz,U,D,rfl,rfl,rfl,rfl⟩:=Zs V;have q:=dB (G:=G) N W os;rw[O] at q;have v:=aBQ q;obtain⟨A,c,S,nv,K,E,M,J⟩:=aEE p (dB N W Y) X l;have T:(Builtin.lenOf (a.eval Y)).run P w=.ok b.length w:=by rw[S];rfl
 obtain⟨r,w',x',d,f,j,hE,hI,hR⟩:=Rp (k:=k) (ty:=g.type) ht hu (.inl rfl) I hz U D X hb v hn l R nv K E T M J;obtain⟨dst,op,Z,pos,B,C⟩:=g;simp only at m;subst m;refine .inl ⟨_,r,w',_,F,_,?_,.inl rfl,h d j,hE,hI,?_,by simpa using hk⟩;simp only at f;simp[execOp,resolve,invoke,builtin,f];exact (N.kill (fun _ _ h=>h) (fun i' o h1 h2=>qR h2 h1)).put _ (.one _ _ hR)
theorem dV.nilp{hp:L aD}(size:Nat)(e:dV F γ hp w):dV F (γ++[OI.arr none 0]) (hp++[.arr 0 size []]) w/\iL k F γ w F (γ++[OI.arr none 0]) w:=by
 have d:∀(id:Nat)(o:OI),γ[id]?=some o->(γ++[OI.arr none 0])[id]?=some o:=fun _ _ h=>bY h
 have g:∀i b,cF (γ++[OI.arr none 0]) i=some b->cF γ i=some b:=by
  intro i b h;obtain⟨y,n,f⟩:=dC h;rcases iN n with c|⟨_,rfl⟩
  exact bT c f;simp[OI.blk] at f
 refine⟨⟨e.fz,by simp[e.len],fun i j b c l=>e.nd i j b (g i b c) (g j b l),fun i b h=>e.disj i b (g i b h), ?_⟩,
   ⟨fun _ _ h=>h,rfl,rfl,rfl,aZE _,fun _ _ _=>rfl,fun _ _ h=>.inl h,fun i b h=>.inl ⟨i,g i b h⟩,fun i _ b h=>d _ _ h⟩⟩
 intro i o x c l;rcases iN l with h3|⟨h3,rfl⟩
 have m:i<hp.length:=by rw[<- e.len];exact aK h3
 rw[aZU m] at c;exact (e.ok i o x c h3).ext (fun _ _ h=>h) d (fun _ _=>rfl)
 rw[h3,e.len] at c;simp at c;subst c;exact⟨rfl,rfl,rfl⟩
theorem WR.appNil{size bytes:Nat}{y:L Value}{s x:aH}{b:L (L DC)}(J:jR G as o.guard)(ha:o.ai=.app size bytes y s x) (T:aM G as.sl s=dX (.slice none 0 0)) (n:sF as.hp (aM G as.sl x)=some b) (l:∀e∈b,e.length=size) (U:b.length*bytes<=140737488355328) (h:∀d,b.length<=d->WR P G k rest Q ⟨aR as.sl o.dst (.one (.bld as.hp.length b.length)),as.hp.map (cU (·==as.hp.length))++[.arr d size b]⟩):WR P G k (o::rest) Q as:=by
 refine WR.step J (fun F γ a w j hc hd B S hg hk=>?_)
 rw[ha] at hc;obtain⟨t,u,e,i,z,os,ox,m,ht,hu,M,hz,X,H,rfl,rfl,rfl,rfl⟩:=Zs hc;obtain⟨K,E⟩:=dV.nilp (k:=k) i.size B;have p:=dB (G:=G) S hg os;rw[T] at p;have v:a.eval os=.slice none 0 0:=cX p;have q:RC F (γ++[OI.arr none 0]) (.bld as.hp.length 0) (a.eval os):=by
  rw[v];exact .bldN _ 0 (by rw[<- B.len];simp)
 obtain⟨A,c,V,nv,O,I,R,N⟩:=aEE n (dB S hg ox) B l;have W:(Builtin.lenOf (a.eval ox)).run P w=.ok b.length w:=by rw[V];rfl
 have hb:aL (as.hp++[aD.arr 0 i.size []]) as.hp.length=aD.arr 0 i.size []:=by simp[aL]
 obtain⟨r,w',x',d,g,f,hE,Z,hR⟩:=Rp (k:=k) (ty:=j.type) ht hu (.inl rfl) M hz X H K hb q (aZV _) l (by simpa using U) nv O I W R N;obtain⟨dst,op,type,pos,C,D⟩:=j;simp only at m;subst m;have e1:((as.hp++[aD.arr 0 i.size []]).map (cU (·==as.hp.length))).set as.hp.length (aD.arr d i.size (([]:L (L DC)).take 0++b))=as.hp.map (cU (·==as.hp.length))++[.arr d i.size b]:=by
  simp
 rw[e1] at Z;simp only[bAm] at hR f;refine .inl ⟨_,r,w',_,F,_,?_,.inl rfl,h d f,E.trans hE,Z,?_,by simp;omega⟩;simp only at g;simp[execOp,resolve,invoke,builtin,g];refine (S.ext (fun _ _ h=>h) (fun id o Y=>?_)).put _ (.one _ _ hR)
 have hlt:=aK Y;rw[aZY (by rw[<- B.len];omega)];exact bY Y
theorem aBU{c:Oper}{neg:Bool}{x:aH}(f:bE P c=some (.isnil false neg x)):∃t e ox u,c.op=.binOp (if neg then .neq else .eql) t ox (.const (.slice none 0 0)) u/\P.underlying t=some (.slice e)/\x=aY ox:=by
 obtain⟨b,t,ox,y,u,j⟩:=aED (iU f rfl);simp only[bE,j,pB] at f;have i:∀d,P.underlying t=some d->mP b d ox y=some (.isnil false neg x)->∃t e ox u,c.op=.binOp (if neg then .neq else .eql) t ox (.const (.slice none 0 0)) u/\P.underlying t=some (.slice e)/\x=aY ox:=by
  intro d l h;unfold mP at h;split at h;all_goals try (cases h;done)
  all_goals
   cases g:Rj d y with
   |none=>simp[g] at h
   |some p=>
    simp only[g,aZF,Option.some.injEq,AI.isnil.injEq] at h;obtain⟨rfl,rfl,rfl⟩:=h;unfold Rj at g;split at g;exact⟨_,_,_,_,j,l,rfl⟩;simp at g;cases g
 split at f;all_goals try (rename_i m;exact i _ m f)
 all_goals (repeat' split at f)<;>first|(cases f;done)|(simp[Option.map_eq_some_iff] at f;done)
theorem WR.isnil0{neg:Bool}{x:aH}(q:jR G as o.guard)(E:o.ai=.isnil false neg x)(N:aM G as.sl x=.one (.dc (.slc []))) (h:∀b,WR P G k rest Q ⟨aR as.sl o.dst (dX (.bool b)),as.hp⟩):WR P G k (o::rest) Q as:=by
 refine WR.step q (fun F γ a w j y z J B I K=>?_)
 rw[E] at y;obtain⟨t,e,s,u,i,M,rfl⟩:=aBU y;have g:=dB (G:=G) B I s;rw[N] at g;have f:∃A n c,a.eval s=.slice A n c:=by
  generalize a.eval s=v at g;cases g with|one c _ p=>cases p with|dc d _ z=>cases z with
  |nil A c=>exact⟨_,_,_,rfl⟩
  |slc=>exact⟨_,_,_,rfl⟩
 obtain⟨A,n,c,f⟩:=f;obtain⟨D,R,C,O,l,m⟩:=j;simp only at i;subst i;have H:(Op.equal t (.slice A n c) (.slice none 0 0)).run P w=.ok A.isNone w:=by
  exact Mp 9999 M
 refine .inl ⟨.value (.bool (A.isNone != neg)),.bool (A.isNone != neg),w,_,F,γ,?_,.inl rfl,h _,iL.refl _ _ _ _,J,(B.put _ (bR rfl)),K⟩;have r:a.eval (.const (.slice none 0 0))=.slice none 0 0:=rfl;cases neg<;>simp[execOp,f,r,eqGuard,Go.binOp,H]
def Rq(es:L (L DC))(k n:Nat)(z:L DC):L (L DC):=es.take k++List.replicate n z++es.drop (k+n)
theorem aEF{es:L (L DC)}{k n:Nat}{z:L DC}(h:k+n<=es.length):(Rq es k n z).length=es.length:=by simp[Rq];omega
theorem Rr{es:L (L DC)}{k n:Nat}{z:L DC}(h:k+n<=es.length)(i:Nat):(Rq es k n z)[i]?=if k<=i/\i<k+n then some z else es[i]?:=by
 unfold Rq;by_cases b:i<k;rw[aZP,aZU (by simp;omega),bAb,if_pos b,if_neg (by omega)];by_cases c:i<k+n;rw[aZU (by simp;omega),aZ0 (by simp;omega),bAG,if_pos (by simp;omega),if_pos (by omega)];rw[aZ0 (by simp;omega),if_neg (by omega),aZ9];congr 1;simp;omega
theorem O2{f:Oper}{size:Nat}{h:L Value}{x:aH}(d:bE P f=some (.clr size h x)):∃t e i z ox,f.op=.call ⟨.builtin .clear,#[ox],#[t]⟩/\P.underlying t=some (.slice e)/\P.info? e=some i/\i.zero=some z/\z.cells.size=i.size/\0<i.size/\z.cells.toList.all is1=true/\size=i.size/\h=z.cells.toList/\x=aY ox:=by
 obtain⟨c,s,g⟩:=aOC (iU d rfl);obtain⟨v,D,u,C,m,n⟩:=f;obtain⟨l,j,b⟩:=c;simp only at s g;subst s;subst g;simp only[bE,fY] at d;split at d;rename_i t ox q p;have A:j=#[ox]:=by rw[<- bA6];exact p
 have B:b=#[t]:=by rw[<- bA6];exact q
 subst A;subst B;split at d;rename_i e y;cases h3:P.info? e with
 |none=>simp[h3] at d
 | some i=>cases h4:i.zero with
   | none=>simp[h3,h4] at d
   | some z=>
     simp only[h3,h4,aZQ] at d;split at d
     · rename_i r
       simp only[Option.some.injEq,AI.clr.injEq] at d;obtain⟨rfl,rfl,rfl⟩:=d;exact⟨t,e,i,z,ox,rfl,y,h3,h4,r.1,r.2.1,r.2.2,rfl,rfl,rfl⟩
     · cases d
 cases d;cases d
theorem WR.clr{size id k0 n cap:Nat}{E:L Value}{x:aH}{es:L (L DC)}(hgd:jR G as o.guard)(ha:o.ai=.clr size E x) (X:aM G as.sl x=.one (.bls id k0 n size)\/(k0=0/\aM G as.sl x=.one (.bld id n))) (hb:aL as.hp id=.arr cap size es) (hn:0<n) (J:k0+n<=es.length) (h:WR P G k rest Q ⟨aR as.sl o.dst (.tup []),as.hp.set id (.arr cap size (Rq es k0 n (E.map DC.raw)))⟩):WR P G k (o::rest) Q as:=by
 refine WR.step hgd (fun F γ a w oper hc hd hi hs hg hk=>?_)
 rw[ha] at hc;obtain⟨t,e,i,z,ox,S,hu,hin,hz,r,hsz,Y,rfl,rfl,rfl⟩:=O2 hc;have p:=dB (G:=G) hs hg ox;have s:∃b f c,γ[id]?=some (.arr (some b) f)/\a.eval ox=.slice (some ⟨b,k0*i.size,none⟩) n c:=by
  rcases X with X|⟨rfl,X⟩
  ·rw[X] at p;generalize a.eval ox=v at p;cases p with|one c _ I=>cases I with|bls _ _ _ _ b f c off g ho hcn=>
   have:=ho (by omega);subst this;rcases g with g|g
   exact⟨b,f,c,g,rfl⟩;exact absurd g (hi.noArr hb)
  rw[X] at p;generalize a.eval ox=v at p;cases p with|one c _ I=>cases I with
  |bldN _ _ _=>omega
  |bld _ _ b f g=>exact⟨b,f,f,g,by simp⟩
 obtain⟨b,f,c,g,s⟩:=s;obtain⟨M,hec,N,ws,T,hh,W,hwr⟩:=hi.arr hb g;have hzl:z.cells.toList.length=i.size:=by simpa using r
 have y:(Builtin.zeroCells z.cells n).toList.length=n*i.size:=by simp[Builtin.zeroCells,r]
 have A:∀q,q<n*i.size->(Builtin.zeroCells z.cells n).toList[q]?=some (z.cells[q % z.cells.size]!):=by
  intro q B;simp[Builtin.zeroCells,r,B]
 have Z:∀v∈(Builtin.zeroCells z.cells n).toList,is1 v=true:=by
  intro v hv;obtain⟨q,B⟩:=bA4 hv;have R:=aK B;rw[y] at R;rw[A q R] at B;injection B with B
  subst B;have hm:q % z.cells.size<z.cells.size:=Nat.mod_lt _ (by omega);rw[getElem!_pos z.cells _ hm];exact bA0.1 Y _ (by simp)
 have hfit:k0*i.size+(n*i.size)<=ws.size:=by
  rw[W,<- bAj];exact bAC _ (by omega)
 have V:=dY (P:=P) (off:=k0*i.size) (Builtin.zeroCells z.cells n).toList 0 w ws hh Z (by rw[y];omega);have hne:(Builtin.zeroCells z.cells n).toList≠[]:=by
  intro e0;rw[e0] at y;have:=Nat.mul_pos hn hsz;simp at y;omega
 rw[if_neg hne] at V;obtain⟨dst,op,type,pos,after,guard⟩:=oper;simp only at S;subst S;have hzv:(zeroValue e).run P w=.ok z w:=by simp[zeroValue,typeInfo,hin,hz]
 have U:(Builtin.clear_ #[t] type #[a.eval ox]).run P w=.ok (.tuple #[]) (setB w b (eO ws (k0*i.size) (Builtin.zeroCells z.cells n).toList) T):=by
  obtain⟨m,rfl⟩:∃m,n=m+1:=⟨n-1,by omega⟩;rw[s];simp[Builtin.clear_,run_underlying hu,hzv,V]
 refine .inl ⟨.value (.tuple #[]),.tuple #[],setB w b (eO ws (k0*i.size) (Builtin.zeroCells z.cells n).toList) T,_,F,γ,?_,.inl rfl,h,iL.setB hi g rfl,?_,(hs.put _ (.tup [] #[] rfl (fun i t v h=>by simp at h))),hk⟩
 simp[execOp,resolve,invoke,builtin,U];refine hi.setObj g rfl ⟨M,by rw[aEF J];exact hec,fun q B=>?_,_,T,lJ hh (eG _ _ _ _),by rw[eG,W],fun D j e1 d v H K h3=>?_⟩
 obtain⟨D,l⟩:=bA4 B;rw[Rr J] at l;split at l;injection l with l;rw[<- l,aZz,hzl];exact N q (aZ4 l);rw[Rr J] at H;rw[sD] at h3;simp only[bAn,y] at h3;split at H;rename_i hc';injection H with H;subst H;have O:j<i.size:=by have:=aK K;simpa[r] using this
 have h5:=iM (show D-k0<n by omega) (aZE _) O;have h6:D*i.size+j=k0*i.size+((D-k0)*i.size+j):=by
  rw[<- Nat.add_assoc,<- bAj];congr 2;omega
 rw[h6,if_pos ⟨by omega,by omega,by omega⟩,bA5,A _ h5] at h3;injection h3 with h3
 subst h3;have hm:((D-k0)*i.size+j) % z.cells.size=j:=by rw[r,bAM,Nat.mul_add_mod,bAz O]
 rw[hm,getElem!_pos z.cells j (by omega)];rw[aZI] at K;obtain⟨u,C,rfl⟩:=Option.map_eq_some_iff.1 K;have:u=z.cells[j]'(by omega):=by
  have h7:z.cells.toList[j]?=some (z.cells[j]'(by omega)):=by simp[r,O]
  rw[h7] at C;injection C with C;exact C.symm
 subst this;exact .raw _ (bA0.1 Y _ (by simp));rename_i hc';have O:j<i.size:=by have:=aK K;have:=N _ (aZ4 H);omega
 rw[if_neg (by
   rintro⟨a1,a2,_⟩;rcases bAT D k0 with c1 | c1
   · have:=iM c1 (aZE _) O;omega
   · have h8:(k0+n) * i.size<=D * i.size:=bAC _ (by omega)
     rw[bAj] at h8;omega)] at h3
 exact hwr D j e1 d v H K h3
theorem WR.clrB{id k0 n:Nat}{zv:Value}{x:aH}{cs:L aV}(O:jR G as o.guard)(ha:o.ai=.clr 1 [zv] x) (E:aM G as.sl x=.one (.bls id k0 n 1)\/(k0=0/\aM G as.sl x=.one (.bld id n))) (N:aL as.hp id=.box cs) (hn:0<n) (S:k0+n<=cs.length) (h:WR P G k rest Q ⟨aR as.sl o.dst (.tup []),as.hp.set id (.box (dA cs k0 (List.replicate n (cK zv))))⟩):WR P G k (o::rest) Q as:=by
 refine WR.step O (fun F γ a w H hc hd A hs hg hk=>?_)
 rw[ha] at hc;obtain⟨t,e,i,z,I,C,hu,R,hz,hzs,hsz,Y,h1s,Z,rfl⟩:=O2 hc;have f:=dB (G:=G) hs hg I;have g:∃b c,γ[id]?=some (.box b)/\a.eval I=.slice (some ⟨b,k0,none⟩) n c:=by
  rcases E with E|⟨rfl,E⟩
  ·rw[E] at f;generalize a.eval I=v at f;cases f with|one c _ j=>cases j with|bls _ _ _ _ b s c off d ho hcn=>
   have:=ho (by omega);rw[bAs] at this;subst this;rcases d with d|d
   exact absurd d (A.noBox N);exact⟨b,c,d,rfl⟩
  rw[E] at f;generalize a.eval I=v at f;cases f with|one c _ j=>cases j with
  |bldN _ _ _=>omega
  |bld _ _ b s d=>exact absurd d (A.noBox N)
 obtain⟨b,c,d,g⟩:=g;obtain⟨ws,T,hh,X,W⟩:=A.box N d;have p:z.cells=#[zv]:=by rw[<- bA6];exact Z.symm
 have B:is1 zv=true:=bA0.1 Y zv (by rw[p];simp);have hzr:(Builtin.zeroCells z.cells n).toList=List.replicate n zv:=by
  apply List.ext_getElem?;intro q;by_cases hq:q<n;simp[Builtin.zeroCells,p,hq,bAG,Nat.mod_one];simp[Builtin.zeroCells,p,hq,bAG]
 have y:∀v∈List.replicate n zv,is1 v=true:=fun v hv=>by rw[List.eq_of_mem_replicate hv];exact B
 have l:=dY (P:=P) (off:=k0) (List.replicate n zv) 0 w ws hh y (by rw[aZH];omega);have U:List.replicate n zv≠[]:=by
  intro e0;have:=congrArg List.length e0;simp at this;omega
 rw[if_neg U] at l;obtain⟨dst,op,J,pos,K,M⟩:=H;simp only at C;subst C;have hzv:(zeroValue e).run P w=.ok z w:=by simp[zeroValue,typeInfo,R,hz]
 have D:(Builtin.clear_ #[t] J #[a.eval I]).run P w=.ok (.tuple #[]) (setB w b (eO ws k0 (List.replicate n zv)) T):=by
  obtain⟨m,rfl⟩:∃m,n=m+1:=⟨n-1,by omega⟩;rw[g];rw[<- hzr] at l ⊢;simp[Builtin.clear_,run_underlying hu,hzv,l]
 refine .inl ⟨.value (.tuple #[]),.tuple #[],setB w b (eO ws k0 (List.replicate n zv)) T,_,F,γ,?_,.inl rfl,h,iL.setB A d rfl,?_,(hs.put _ (.tup [] #[] rfl (fun i t v h=>by simp at h))),hk⟩
 simp[execOp,resolve,invoke,builtin,D];refine A.setObj d rfl ?_;have V:RCs F γ (List.replicate n (cK zv)) (List.replicate n zv).toArray:=by
  refine⟨by simp,fun q c v r u=>?_⟩
  simp only[List.getElem?_toArray,bAG] at r u;split at r;injection r with r
  rw[if_pos (by assumption)] at u;injection u with u
  subst r;subst u;exact .dc _ _ (.raw _ B);cases r
 have:=uH (off:=k0) X W V (by simpa using S);exact⟨_,T,lJ hh (eG _ _ _ _),this.1,this.2⟩
theorem aBV{es:L (L DC)}{k:Nat}{z:L DC}:Rq es k 0 z=es:=by simp[Rq]
theorem C1{hp:L aD}{id:Nat}{d:aD}(b:aL hp id=d)(c:d≠.dead):hp.set id d=hp:=by
 unfold aL at b;cases h:hp[id]? with
 |none=>rw[aZN,h] at b;exact absurd b.symm c
 |some o=>
  rw[aZN,h] at b;simp only[bAl] at b;subst b;obtain⟨f,e⟩:=List.getElem?_eq_some_iff.1 h;rw[<- e];exact List.set_getElem_self f
theorem WR.clr0{size id k0:Nat}{r:L Value}{x:aH}(y:jR G as o.guard)(D:o.ai=.clr size r x) (l:aM G as.sl x=.one (.bls id k0 0 size)\/aM G as.sl x=.one (.bld id 0)) (h:WR P G k rest Q ⟨aR as.sl o.dst (.tup []),as.hp⟩):WR P G k (o::rest) Q as:=by
 refine WR.step y (fun F γ a w m A S H B E J=>?_)
 rw[D] at A;obtain⟨t,e,i,z,n,g,M,I,T,O,K,N,rfl,rfl,rfl⟩:=O2 A;have b:=dB (G:=G) B E n;have d:∃p c,a.eval n=.slice p 0 c:=by
  rcases l with l|l;rw[l] at b;generalize a.eval n=v at b;cases b with|one c _ f=>cases f with|bls=>exact⟨_,_,rfl⟩
  rw[l] at b;generalize a.eval n=v at b;cases b with|one c _ f=>cases f<;>exact⟨_,_,rfl⟩
 obtain⟨p,c,d⟩:=d;obtain⟨C,U,q,R,s,u⟩:=m;simp only at g;subst g;have j:(Builtin.clear_ #[t] q #[a.eval n]).run P w=.ok (.tuple #[]) w:=by
  rw[d];cases p<;>simp[Builtin.clear_,run_underlying M]
 refine .inl ⟨.value (.tuple #[]),.tuple #[],w,_,F,γ,?_,.inl rfl,h,iL.refl _ _ _ _,H,(B.put _ (.tup [] #[] rfl (fun i t v h=>by simp at h))),J⟩
 simp[execOp,resolve,invoke,builtin,j]
def fG(l:L UInt8):L aV:=l.map fun b=>cK (.int .u8 b.toNat)
def iA(s:ByteArray):L (L DC):=s.data.toList.map fun b=>[DC.raw (.int .u8 b.toNat)]
theorem Rs{f:Oper}{d x:aH}(g:bE P f=some (.cpys d x)):∃t u e j ox,f.op=.call ⟨.builtin .copy,#[j,ox],#[t,u]⟩/\P.underlying t=some (.slice e)/\(P.info? e).map (·.size)=some 1/\d=aY j/\x=aY ox:=by
 obtain⟨c,r,h⟩:=aJA (iU g rfl);obtain⟨v,D,s,B,m,n⟩:=f;obtain⟨l,i,b⟩:=c;simp only at r h;subst r;subst h;simp only[bE,fY] at g;split at g;rename_i t u j ox q p;have z:i=#[j,ox]:=by rw[<- bA6];exact p
 have A:b=#[t,u]:=by rw[<- bA6];exact q
 subst z;subst A;split at g;rename_i e y C;split at g;rename_i h3;simp only[Option.some.injEq,AI.cpys.injEq] at g;obtain⟨rfl,rfl⟩:=g;exact⟨t,u,e,j,ox,rfl,y,h3,rfl,rfl⟩;cases g;cases g;cases g
theorem WR.cpys{id D n:Nat}{d x:aH}{cs:List aV}{s:ByteArray}(hgd:jR G as o.guard)(ha:o.ai=.cpys d x)(hd0:aM G as.sl d=.one (.bls id D n 1))(hx:dO (aM G as.sl x)=some s) (Y:aL as.hp id=.box cs) (hle:D+n<=cs.length) (h:WR P G k rest Q ⟨aR as.sl o.dst (dX (.int .i64 (min s.size n:Nat))),as.hp.set id (.box (dA cs D (fG (s.data.toList.take n))))⟩):WR P G k (o::rest) Q as:=by
 refine WR.step hgd (fun F γ a w R hc hd E hs hg hk=>?_)
 rw[ha] at hc;obtain⟨t,u,e,U,ox,K,hu,g,rfl,rfl⟩:=Rs hc;have A:=dB (G:=G) hs hg U;rw[hd0] at A;have hxv:=uF (dB (G:=G) hs hg ox) hx;obtain⟨b,c,off,f,B,r⟩:∃b c off,γ[id]?=some (.box b)/\a.eval U=.slice (some ⟨b,off,none⟩) n c/\(n≠0->off=D):=by
  generalize a.eval U=v at A;cases A with|one c _ hcc=>cases hcc with|bls _ _ _ _ b cap' c off f ho hcn=>
  rcases f with f|f;exact absurd f (E.noBox Y);exact⟨b,c,off,f,rfl,fun h=>by rw[ho h,bAs]⟩
 obtain⟨V,T,hh,hws,hwr⟩:=E.box Y f;obtain⟨dst,op,S,pos,W,X⟩:=R;simp only at K;subst K
 
 have Z:((s.extract 0 (min s.size n)).data.map fun b=>Value.int .u8 b.toNat)=((s.data.toList.take n).map fun b=>Value.int .u8 b.toNat).toArray:=by
   apply Array.ext';simp only[Array.toList_map,ByteArray.data_extract,Array.toList_extract,List.extract_eq_take_drop,Nat.sub_zero,bAq];congr 1;rw[List.take_eq_take_iff];simp;omega
 have O:((s.data.toList.take n).map fun b=>Value.int .u8 b.toNat).length=min s.size n:=by simp[Nat.min_comm]
 have J:∃i,P.info? e=some i/\i.size=1:=by
  cases H:P.info? e with
  |none=>rw[H] at g;cases g
  |some i=>rw[H] at g;injection g with g;exact⟨i,rfl,g⟩
 obtain⟨i,g,I⟩:=J;have M:RCs F γ (fG (s.data.toList.take n)) ((s.data.toList.take n).map fun b=>Value.int .u8 b.toNat).toArray:=by
   refine⟨by simp[fG],fun q c v y z=>?_⟩
   simp only[fG,aZI,List.getElem?_toArray] at y z;cases hq:(s.data.toList.take n)[q]? with
   | none=>rw[hq] at y;cases y
   | some bb=>
     rw[hq] at y z;injection y with y;injection z with z
     subst y;subst z;exact .dc _ _ (.raw _ rfl)
 have l:∀ v∈((s.data.toList.take n).map fun b=>Value.int .u8 b.toNat),is1 v=true:=fun v hv=>by
   obtain⟨q,_,rfl⟩:=List.mem_map.1 hv;rfl
 have p:((s.data.toList.take n).map fun b=>Value.int .u8 b.toNat)=[]->s.data.toList.take n=[]:=fun j=>by simpa using j
 have C:n=0->((s.data.toList.take n).map fun b=>Value.int .u8 b.toNat)=[]:=fun j=>by subst j;rfl
 have m:List.take (min s.size n) (List.map (fun b=>Value.int .u8 b.toNat) s.data.toList)=((s.data.toList.take n).map fun b=>Value.int .u8 b.toNat):=by
   rw[bAo,List.take_eq_take_iff];simp;omega
 generalize ((s.data.toList.take n).map fun b=>Value.int .u8 b.toNat)=L at Z m O M l p C
 have hst:(storeCells ⟨b,off,none⟩ L).run P w=.ok () (if L=[] then w else setB w b (eO V off L) T):=by
  by_cases j:n=0;rw[C j];rfl;exact dY _ 0 w V hh l (by rw[O,r j];omega)
 have N:(Builtin.copy_ #[t,u] S #[a.eval U,a.eval ox]).run P w=.ok (.int .i64 (min s.size n:Nat)) (if L=[] then w else setB w b (eO V off L) T):=by
  have e1:Nat.min s.size n=min s.size n:=rfl;simp[Builtin.copy_,B,hxv,run_underlying hu,Builtin.lenOf,Builtin.firstCells,sizeOf,typeInfo,g,I,m,e1,hst,goInt]
 refine .inl ⟨.value (.int .i64 (min s.size n:Nat)),.int .i64 (min s.size n:Nat),(if L=[] then w else setB w b (eO V off L) T),_,F,γ,?_,.inl rfl,h,?_,?_,(hs.put _ (bR rfl)),hk⟩
 simp[execOp,resolve,invoke,builtin,N];split;exact iL.refl _ _ _ _;exact iL.setB E f rfl;split;rename_i j;rw[p j];have z:dA cs D (fG [])=cs:=by simp[fG,dA]
 rw[z,C1 Y (by simp)];exact E;rename_i j;rw[r (fun e=>j (C e))]
 refine E.setObj f rfl ?_;have:=uH (off:=D) hws hwr M (by
   have:(fG (s.data.toList.take n)).length<=n:=by simp[fG];omega
   omega)
 exact⟨_,T,lJ hh (eG _ _ _ _),this.1,this.2⟩
theorem Rt{c:Oper}{x:aH}(b:bE P c=some (.cvsb x)):∃s d e ox,c.op=.convert s d ox/\P.underlying s=some .string/\P.underlying d=some (.slice e)/\P.underlying e=some (.int .u8)/\x=aY ox:=by
 obtain⟨s,d,ox,f⟩:=aJz (iU b rfl);simp only[bE,f,nH] at b;split at b;cases b;cases b;split at b<;>cases b;rename_i e g h;split at b;rename_i h3;injection b with b;injection b with b;exact⟨s,d,e,ox,f,g,h,h3,b.symm⟩;cases b;cases b
theorem WR.cvsb{x:aH}{s:ByteArray}(R:jR G as o.guard)(ha:o.ai=.cvsb x)(hx:dO (aM G as.sl x)=some s) (h:WR P G k rest Q ⟨aR as.sl o.dst (.one (.dc (.slc (iA s)))),as.hp⟩):WR P G k (o::rest) Q as:=by
 refine WR.step R (fun F γ a w K Y hd v Z hg hk=>?_)
 rw[ha] at Y;obtain⟨X,B,e,ox,I,T,U,V,rfl⟩:=Rt Y;have W:=uF (dB (G:=G) Z hg ox) hx;obtain⟨dst,op,type,pos,M,N⟩:=K;simp only at I;subst I;have J:=Lib.run_convert_string_bytes (P:=P) w X B e s T U V;have m:=Lib.bytesWorld_at_old w e s;have y:=Lib.bytesWorld_at_new w e s;have l:(iA s).length=s.size:=by simp[iA]
 let F':Fz:=fun b=>if b=w.heap.size then some (.cells (Lib.bytesCells w e s) e ((Lib.bytesCells w e s).size,(Lib.bytesCells w e s).size+1)) else F b
 have z:∀ b o,F b=some o->F' b=some o:=fun b o f=>by
   have:=v.fzlt f;show (if b=w.heap.size then _ else F b)=some o
   rw[if_neg (by omega)];exact f
 have n:F.sub F':=z;have g:F' w.heap.size=some (.cells (Lib.bytesCells w e s) e ((Lib.bytesCells w e s).size,(Lib.bytesCells w e s).size+1)):=if_pos rfl;have C:iL k F γ w F' γ (Lib.bytesWorld w e s):=by
  refine⟨n,rfl,rfl,rfl,by rw[Lib.bytesWorld_size];omega,fun b f _=>m b f,fun b o f=>?_,fun i b f=>.inl ⟨i,f⟩,fun _ _ _ h=>h⟩
  by_cases p:b=w.heap.size;exact .inr (.inl (by omega));have:F' b=F b:=if_neg p;rw[this] at f;exact .inl f
 have D:dV F' γ as.hp (Lib.bytesWorld w e s):=by
  refine⟨fun b o f=>?_,v.len,v.nd,fun i b f=>?_,fun i ob x0 c u=>?_⟩
  by_cases p:b=w.heap.size;subst p;rw[g] at f;rw[y];exact f;have:F' b=F b:=if_neg p;rw[this] at f;rw[m b (v.fzlt f)];exact v.fz b o f;have:=v.lt f;have e1:F' b=F b:=if_neg (by omega);rw[e1];exact v.disj i b f;have H:=v.ok i ob x0 c u;exact H.ext n (fun _ _ h=>h) (fun b O=>m b (H.lt O))
 have r:s.size<=grownCap w s.size 0 e:=by
  show s.size<=s.size+_;exact Nat.le_add_right _ _
 have S:RD F' (.slc (iA s)) (.slice (some ⟨w.heap.size,0,none⟩) s.size (grownCap w s.size 0 e)):=by
  rw[<- l];refine .slc w.heap.size 0 _ 1 (iA s) (fun i _=>.int .u8 (s.data.toList.getD i 0).toNat) (fun q t=>?_) (fun i j q d c u=>?_) (fun i j q d c u=>?_) (by rw[l];exact r)
  simp only[iA,List.mem_map] at t;obtain⟨bb,_,rfl⟩:=t;rfl;simp only[iA,aZI] at c;cases t:s.data.toList[i]? with
  |none=>rw[t] at c;cases c
  |some bb=>
   rw[t] at c;injection c with c;subst c
   cases j with
   |zero=>
    injection u with u;subst u
    rw[aZN,t];exact .raw _ rfl
   |succ j=>simp at u
  have hj:j=0:=by
   simp only[iA,aZI] at c;cases t:s.data.toList[i]? with
   |none=>rw[t] at c;cases c
   |some bb=>
    rw[t] at c;injection c with c;subst c
    cases j with
    |zero=>rfl
    |succ j=>simp at u
  subst hj;have E:i<s.size:=by have:=aK c;omega
  have A:=Lib.bytesWorld_cell w e s i E;simp only[Fz.cell?,g,Option.isSome_none,bAU,if_false,bAs,bAn,bAm];simpa[World.cell?,y] using A
 refine .inl ⟨.value (.slice (some ⟨w.heap.size,0,none⟩) s.size (grownCap w s.size 0 e)),_,_,_,F',γ,?_,.inl rfl,h,C,D,((Z.ext n (fun _ _ h=>h)).put _ (.one _ _ (.dc _ _ S))),hk⟩
 simp[execOp,W,J]
theorem WR.cvsA{x:aH}{s:ByteArray}(K:jR G as o.guard)(ha:o.ai=.cvsb x)(hx:dO (aM G as.sl x)=some s) (h:∀cap,WR P G k rest Q ⟨aR as.sl o.dst (.one (.bld as.hp.length s.size)),as.hp++[.arr cap 1 (iA s)]⟩):WR P G k (o::rest) Q as:=by
 refine WR.step K (fun F γ a w D T hd U V hg hk=>?_)
 rw[ha] at T;obtain⟨S,r,e,ox,z,M,N,O,rfl⟩:=Rt T;have R:=uF (dB (G:=G) V hg ox) hx;obtain⟨X,op,W,pos,H,I⟩:=D;simp only at z;subst z;have A:=Lib.run_convert_string_bytes (P:=P) w S r e s M N O;have l:=Lib.bytesWorld_at_old w e s;have g:=Lib.bytesWorld_at_new w e s;have n:(iA s).length=s.size:=by simp[iA]
 have t:s.size<=grownCap w s.size 0 e:=by
  show s.size<=s.size+_;exact Nat.le_add_right _ _
 have J:(Lib.bytesCells w e s).size=grownCap w s.size 0 e:=by
  simp[Lib.bytesCells];omega
 have B:∀b,(OI.arr (some w.heap.size) (grownCap w s.size 0 e)).blk=some b->b=w.heap.size:=fun b p=>by simp[OI.blk] at p;exact p.symm
 have Y:iL k F γ w F (γ++[.arr (some w.heap.size) (grownCap w s.size 0 e)]) (Lib.bytesWorld w e s):=by
  refine⟨fun _ _ h=>h,rfl,rfl,rfl,by rw[Lib.bytesWorld_size];omega,fun b p _=>l b p,fun _ _ h=>.inl h,fun i b h=>?_,fun i _ b h=>bY h⟩
  obtain⟨y,hy,C⟩:=dC h;rcases iN hy with c|⟨c,rfl⟩;exact .inl ⟨i,bT c C⟩;exact .inr (by rw[B b C];exact aZE _)
 have Z:dV F (γ++[.arr (some w.heap.size) (grownCap w s.size 0 e)]) (as.hp++[.arr (grownCap w s.size 0 e) 1 (iA s)]) (Lib.bytesWorld w e s):=by
  refine U.pushG (fun b p=>l b p) _ _ B ⟨rfl,by rw[n];exact t,fun q f=>?_,Lib.bytesCells w e s,e,⟨_,g,fun o ho=>by simp only;omega⟩,by rw[J,bAs],fun i j q d v c E h3=>?_⟩
  simp only[iA,List.mem_map] at f;obtain⟨bb,_,rfl⟩:=f;rfl;have hj:j=0:=by
   simp only[iA,aZI] at c;cases f:s.data.toList[i]? with
   |none=>rw[f] at c;cases c
   |some bb=>
    rw[f] at c;injection c with c;subst c
    cases j with
    |zero=>rfl
    |succ j=>simp at E
  subst hj;have u:i<s.size:=by have:=aK c;omega
  have m:=Lib.bytesWorld_cell w e s i u;have h4:(Lib.bytesCells w e s)[i]?=some (.int .u8 (s.data.toList.getD i 0).toNat):=by
   simpa[World.cell?,g] using m
  rw[bAs,bAn,h4] at h3;injection h3 with h3
  subst h3;simp only[iA,aZI] at c;cases f:s.data.toList[i]? with
  |none=>rw[f] at c;cases c
  |some bb=>
   rw[f] at c;injection c with c;subst c
   injection E with E;subst E
   rw[aZN,f];exact .raw _ rfl
 have hS:bZ F (γ++[.arr (some w.heap.size) (grownCap w s.size 0 e)]) (aR as.sl o.dst (.one (.bld as.hp.length s.size))) (a.put o.dst (.slice (some ⟨w.heap.size,0,none⟩) s.size (grownCap w s.size 0 e))):=by
  refine (V.ext (fun _ _ h=>h) (fun _ _ h=>bY h)).put o.dst (.one _ _ (.bld _ _ _ _ ?_))
  rw[<- U.len];simp
 refine .inl ⟨.value (.slice (some ⟨w.heap.size,0,none⟩) s.size (grownCap w s.size 0 e)),_,_,_,F,_,?_,.inl rfl,h _,Y,Z,hS,by simp;omega⟩;simp[execOp,R,A]
def Ru(es:L (L DC))(k:Nat)(l:L UInt8):L (L DC):=es.take k++(l.map fun b=>[DC.raw (.int .u8 b.toNat)])++es.drop (k+l.length)
theorem aEG{es:L (L DC)}{k:Nat}{l:L UInt8}(h:k+l.length<=es.length):(Ru es k l).length=es.length:=by simp[Ru];omega
theorem Rv{es:L (L DC)}{k:Nat}{l:L UInt8}(h:k+l.length<=es.length)(i:Nat):(Ru es k l)[i]?=if k<=i/\i<k+l.length then (l[i-k]?).map (fun b=>[DC.raw (.int .u8 b.toNat)]) else es[i]?:=by
 unfold Ru;split;rename_i d;rw[aZP,aZ0 (by simp;omega),aZU (by simp;omega),aZI];simp only[aZD,bAt (show k<=es.length by omega)];rename_i d;by_cases c:i<k;rw[aZP,aZU (by simp;omega),bBh c];rw[aZ0 (by simp;omega),aZ9];congr 1;simp;omega
theorem Rw{es:L (L DC)}{k:Nat}:Ru es k []=es:=by simp[Ru]
theorem WR.cpyA{id M n cap:Nat}{d x:aH}{es:List (List DC)}{s:ByteArray}(hgd:jR G as o.guard)(ha:o.ai=.cpys d x)(hd0:aM G as.sl d=.one (.bls id M n 1))(hx:dO (aM G as.sl x)=some s) (hb:aL as.hp id=.arr cap 1 es) (hle:M+n<=es.length) (h:WR P G k rest Q ⟨aR as.sl o.dst (dX (.int .i64 (min s.size n:Nat))),as.hp.set id (.arr cap 1 (Ru es M (s.data.toList.take n)))⟩):WR P G k (o::rest) Q as:=by
 refine WR.step hgd (fun F γ a w N hc hd X hs hg hk=>?_)
 rw[ha] at hc;obtain⟨t,u,e,V,ox,H,hu,f,rfl,rfl⟩:=Rs hc;have r:=dB (G:=G) hs hg V;rw[hd0] at r;have hxv:=uF (dB (G:=G) hs hg ox) hx;by_cases hn0:n=0;subst hn0;obtain⟨p,c,l⟩:∃p c,a.eval V=.slice p 0 c:=by
  generalize a.eval V=v at r;cases r with|one c _ S=>cases S with|bls=>exact⟨_,_,rfl⟩
 obtain⟨dst,op,D,pos,O,R⟩:=N;simp only at H;subst H;have B:∃g,P.info? e=some g/\g.size=1:=by
  cases z:P.info? e with
  |none=>rw[z] at f;cases f
  |some g=>rw[z] at f;injection f with f;exact⟨g,rfl,f⟩
 obtain⟨g,f,A⟩:=B;have C:(Builtin.copy_ #[t,u] D #[a.eval V,a.eval ox]).run P w=.ok (.int .i64 (min s.size 0:Nat)) w:=by
  cases p<;>simp[Builtin.copy_,l,hxv,run_underlying hu,Builtin.lenOf,Builtin.firstCells,sizeOf,typeInfo,f,A,goInt,storeCells]
 rw[bAO,Rw,C1 hb (by simp)] at h;refine .inl ⟨.value (.int .i64 (min s.size 0:Nat)),.int .i64 (min s.size 0:Nat),w,_,F,γ,?_,.inl rfl,h,iL.refl _ _ _ _,X,(hs.put _ (bR rfl)),hk⟩;simp[execOp,resolve,invoke,builtin,C];obtain⟨b,m,c,i,l⟩:∃b m c,γ[id]?=some (.arr (some b) m)/\a.eval V=.slice (some ⟨b,M,none⟩) n c:=by
  generalize a.eval V=v at r;cases r with|one c _ S=>cases S with|bls _ _ _ _ b m c off i ho hcn=>
  have:=ho (by omega);rw[bAs] at this;subst this;rcases i with i|i
  exact⟨b,m,c,i,rfl⟩;exact absurd i (X.noArr hb)
 obtain⟨hcap,hec,hes,ws,T,hh,hws,hwr⟩:=X.arr hb i;rw[bAs] at hws;obtain⟨dst,op,D,pos,O,R⟩:=N;simp only at H;subst H;have U:((s.data.toList.take n).map fun b=>Value.int .u8 b.toNat).length=min s.size n:=by simp[Nat.min_comm]
 have B:∃g,P.info? e=some g/\g.size=1:=by
  cases z:P.info? e with
  |none=>rw[z] at f;cases f
  |some g=>rw[z] at f;injection f with f;exact⟨g,rfl,f⟩
 obtain⟨g,f,A⟩:=B;have I:∀ v∈((s.data.toList.take n).map fun b=>Value.int .u8 b.toNat),is1 v=true:=fun v hv=>by
   obtain⟨q,_,rfl⟩:=List.mem_map.1 hv;rfl
 have Z:∀q,((s.data.toList.take n).map fun b=>Value.int .u8 b.toNat)[q]?=((s.data.toList.take n)[q]?).map fun (b:UInt8)=>Value.int .u8 b.toNat:=fun q=>aZI
 have K:((s.data.toList.take n).map fun b=>Value.int .u8 b.toNat)=[]->s.data.toList.take n=[]:=fun h0=>by simpa using h0
 have J:List.take (min s.size n) (List.map (fun b=>Value.int .u8 b.toNat) s.data.toList)=((s.data.toList.take n).map fun b=>Value.int .u8 b.toNat):=by
   rw[bAo,List.take_eq_take_iff];simp;omega
 have hlt:(s.data.toList.take n).length=min s.size n:=by simp[Nat.min_comm]
 generalize ((s.data.toList.take n).map fun b=>Value.int .u8 b.toNat)=L at J U I K Z
 have hst:=dY (P:=P) (off:=M) L 0 w ws hh I (by rw[U];omega);have C:(Builtin.copy_ #[t,u] D #[a.eval V,a.eval ox]).run P w=.ok (.int .i64 (min s.size n:Nat)) (if L=[] then w else setB w b (eO ws M L) T):=by
  have e1:Nat.min s.size n=min s.size n:=rfl;simp[Builtin.copy_,l,hxv,run_underlying hu,Builtin.lenOf,Builtin.firstCells,sizeOf,typeInfo,f,A,J,e1,hst,goInt]
 refine .inl ⟨.value (.int .i64 (min s.size n:Nat)),.int .i64 (min s.size n:Nat),(if L=[] then w else setB w b (eO ws M L) T),_,F,γ,?_,.inl rfl,h,?_,?_,(hs.put _ (bR rfl)),hk⟩
 simp[execOp,resolve,invoke,builtin,C];split;exact iL.refl _ _ _ _;exact iL.setB X i rfl;split;rename_i h0;rw[K h0,Rw,C1 hb (by simp)];exact X;rename_i h0;have y:M+(s.data.toList.take n).length<=es.length:=by omega
 refine X.setObj i rfl ⟨hcap,by rw[aEG y];exact hec,fun q hq=>?_,_,T,lJ hh (eG _ _ _ _),by rw[eG,hws,bAs],fun i' j e1 d v Y W h3=>?_⟩
 obtain⟨i',E⟩:=bA4 hq;rw[Rv y] at E;split at E;obtain⟨bb,_,rfl⟩:=Option.map_eq_some_iff.1 E;rfl;exact hes q (aZ4 E);rw[Rv y] at Y;rw[sD] at h3;simp only[bAn,bAs,U] at h3;split at Y;rename_i hc';obtain⟨bb,hb1,rfl⟩:=Option.map_eq_some_iff.1 Y;have hj:j=0:=by
  cases j with
  |zero=>rfl
  |succ j=>simp at W
 subst hj;injection W with W;subst W
 rw[if_pos ⟨by omega,by omega,by omega⟩] at h3;rw[bAn,Z,hb1] at h3;injection h3 with h3;subst h3
 exact .raw _ rfl;rename_i hc';have hj:j=0:=by
  have h8:=hes _ (aZ4 Y);have:=aK W;omega
 subst hj;rw[bAn] at h3;rw[if_neg (by
   rintro⟨a1,a2,_⟩;omega)] at h3
 exact hwr i' 0 e1 d v Y W (by rw[bAs,bAn];exact h3)
end
end
section
def mR(F:Fz)(γ:L OI)(b:L AV)(vs:Array Value):Prop:=vs.size=b.length/\∀(i:Nat) c v,b[i]?=some c->vs[i]?=some v->RV F γ c v
def AC(P:Program)(G:aF)(f:FuncId)(c:L AV)(objs:L aD)(Q:AV->L aD->Prop):Prop:=
 ∀F γ (vs:Array Value) w,dV F γ objs w->fZ F G->mR F γ c vs->
  Calls P f vs w fun e w'=>∃r d b F' γ',e=.returned r/\Q d b/\objs.length<=b.length/\iL objs.length F γ w F' γ' w'/\dV F' γ' b w'/\RV F' γ' d r
def QC(P:Program)(G:aF)(f:FuncId)(c:L AV)(r:AV):Prop:=AC P G f c [] fun d b=>d=r/\b=[]
mutual
def kD(ρ:Nat->Nat):aV->aV
 |.ptr id o=>.ptr (ρ id) o
 |.bld id n=>.bld (ρ id) n
 |.ept id i s o=>.ept (ρ id) i s o
 |.bls id l n s=>.bls (ρ id) l n s
 |.fn f b=>.fn f (renL ρ b)
 |.dc d=>.dc d
 |.ref cs=>.ref cs
 |.mpc es=>.mpc es
 |.junk=>.junk
def renL(ρ:Nat->Nat):L aV->L aV
 |[]=>[]
 |c::cs=>kD ρ c::renL ρ cs
end
def It(ρ:Nat->Nat):TV->TV
 |.one c=>.one (kD ρ c)
 |.agg cs=>.agg (cs.map (kD ρ))
def dP(ρ:Nat->Nat):AV->AV
 |.one c=>.one (kD ρ c)
 |.agg cs=>.agg (cs.map (kD ρ))
 |.tup l=>.tup (l.map (It ρ))
 |.junk=>.junk
def fA(ρ:Nat->Nat):aD->aD
 |.box cs=>.box (cs.map (kD ρ))
 |o=>o
section
variable {P:Program}{G:aF}{k:Nat}{F F':Fz}{γ γ':L OI}{w w':World}{ρ:Nat->Nat}
theorem Iu:∀(cs:L aV)(i:Nat),(renL ρ cs)[i]?=(cs[i]?).map (kD ρ)
 |[],i=>by simp[renL]
 |c::cs,0=>by simp[renL]
 |c::cs,i+1=>by simp[renL,Iu cs i]
theorem Iv:∀(cs:L aV),(renL ρ cs).length=cs.length
 |[]=>rfl
 |c::cs=>by simp[renL,Iv cs]
theorem RC.ren(m:∀(id:Nat)(o:OI),γ[id]?=some o->γ'[ρ id]?=some o){c:aV}{v:Value}(h:RC F γ c v):RC F γ' (kD ρ c) v:=by
 induction h with
 |dc d v h=>exact .dc d v h
 |ptr id off b h=>exact .ptr _ _ _ (m _ _ h)
 |bldN id cap h=>exact .bldN _ _ (m _ _ h)
 |bld id n b cap h=>exact .bld _ _ _ _ (m _ _ h)
 |ept id i size off b cap h=>exact .ept _ _ _ _ _ _ (m _ _ h)
 |bls id A n size b cap c off h y j=>exact .bls _ _ _ _ _ _ _ _ (h.imp (m _ _) (m _ _)) y j
 |ref cs b off g s j=>exact .ref cs b off g s j
 |mpc es r q p h x u=>exact .mpc es r q p h x u
 |fn f e g s z=>
  simp only[kD];rw[<- Iv (ρ:=ρ) e];refine .fn f (renL ρ e) g (fun i c j=>?_)
  rw[Iu] at j;cases l:e[i]? with
  |none=>simp[l] at j
  |some t=>simp[l] at j;subst j;exact z i t l
 |junk v h=>exact .junk v h
theorem RC.unren{c:aV}:∀{v:Value},RC F γ (kD ρ c) v->(∀(id:Nat)(o:OI),γ[ρ id]?=some o->γ'[id]?=some o)->RC F γ' c v:=by
 have u:∀n,∀c:aV,SizeOf.sizeOf c<=n->∀{v:Value},RC F γ (kD ρ c) v->(∀(id:Nat)(o:OI),γ[ρ id]?=some o->γ'[id]?=some o)->RC F γ' c v:=by
  intro n
  induction n with
  |zero=>intro c h;cases c<;>simp at h
  |succ n C=>
   intro c t v h e;cases c with
   |dc d=>cases h with|dc _ _ h=>exact .dc _ _ h
   |ptr id off=>cases h with|ptr _ _ b h=>exact .ptr _ _ _ (e _ _ h)
   | bld id n=>cases h with
     | bldN _ cap h=>exact .bldN _ _ (e _ _ h)
     | bld _ _ b cap h=>exact .bld _ _ _ _ (e _ _ h)
   |ept id i size off=>cases h with|ept _ _ _ _ b cap h=>exact .ept _ _ _ _ _ _ (e _ _ h)
   |bls id D n size=>cases h with|bls _ _ _ _ b cap c off h A j=>exact .bls _ _ _ _ _ _ _ _ (h.imp (e _ _) (e _ _)) A j
   |ref cs=>cases h with|ref _ b off g s j=>exact .ref _ b off g s j
   |mpc es=>cases h with|mpc _ r p l h y q=>exact .mpc es r p l h y q
   |junk=>cases h with|junk _ h=>exact .junk _ h
   |fn f caps=>
    simp only[kD] at h;have m:∀c∈caps,SizeOf.sizeOf c<SizeOf.sizeOf caps:=fun c j=>List.sizeOf_lt_of_mem j
    have B:SizeOf.sizeOf caps<=n:=by simp at t;omega
    generalize x:renL ρ caps=cs at h;cases h with
    |fn _ _ g s=>
     have z:cs.length=caps.length:=by rw[<- x,Iv]
     rw[z];refine .fn f caps g (fun i c j=>?_)
     have q:cs[i]?=some (kD ρ c):=by rw[<- x,Iu,j];rfl
     exact C c (by have:=m c (aZ4 j);omega) (s i _ q) e
 intro v h e;exact u _ c (aZE _) h e
theorem RCs.renAll{cs:L aV}{vs:Array Value}(f:∀(id:Nat)(o:OI),γ[id]?=some o->γ'[ρ id]?=some o)(h:∀(i:Nat) c v,cs[i]?=some c->vs[i]?=some v->RC F γ c v):∀(i:Nat) c v,(cs.map (kD ρ))[i]?=some c->vs[i]?=some v->RC F γ' c v:=by
 intro i c v d g;rw[aZI] at d;cases b:cs[i]? with
 |none=>simp[b] at d
 |some e=>simp[b] at d;subst d;exact (h i e v b g).ren f
theorem RCs.unrenAll{cs:L aV}{vs:Array Value}(d:∀(id:Nat)(o:OI),γ[ρ id]?=some o->γ'[id]?=some o)(h:∀(i:Nat) c v,(cs.map (kD ρ))[i]?=some c->vs[i]?=some v->RC F γ c v):∀(i:Nat) c v,cs[i]?=some c->vs[i]?=some v->RC F γ' c v:=by
 intro i c v b e;exact (h i (kD ρ c) v (by rw[aZI,b];rfl) e).unren d
theorem RV.ren(e:∀(id:Nat)(o:OI),γ[id]?=some o->γ'[ρ id]?=some o){g:AV}{v:Value}(h:RV F γ g v):RV F γ' (dP ρ g) v:=by
 cases h with
 |one c v h=>exact .one _ _ (h.ren e)
 |agg cs vs d h=>exact .agg _ _ (by simpa using d) (RCs.renAll e h)
 |tup l vs d h=>
  refine .tup _ _ (by simpa using d) (fun i t v f j=>?_)
  rw[aZI] at f;cases b:l[i]? with
  |none=>simp[b] at f
  |some m=>
   simp[b] at f;subst f;cases h i m v b j with
   |one c v h=>exact .one _ _ (h.ren e)
   |agg cs vs d h=>exact .agg _ _ (by simpa using d) (RCs.renAll e h)
 |junk v=>exact .junk v
theorem RV.unren(d:∀(id:Nat)(o:OI),γ[ρ id]?=some o->γ'[id]?=some o){e:AV}{v:Value}(h:RV F γ (dP ρ e) v):RV F γ' e v:=by
 cases e with
 |one c=>cases h with|one _ _ h=>exact .one _ _ (h.unren d)
 |agg cs=>cases h with|agg _ vs b h=>exact .agg _ _ (by simpa using b) (RCs.unrenAll d h)
 |junk=>exact .junk _
 |tup l=>
  cases h with
  |tup _ vs b h=>
   refine .tup _ _ (by simpa using b) (fun i t v f g=>?_)
   have:=h i (It ρ t) v (by rw[aZI,f];rfl) g;cases t with
   |one c=>cases this with|one _ _ h=>exact .one _ _ (h.unren d)
   |agg cs=>cases this with|agg _ vs b h=>exact .agg _ _ (by simpa using b) (RCs.unrenAll d h)
theorem OK.ren{o:aD}{x:OI}(f:∀(id:Nat)(o:OI),γ[id]?=some o->γ'[ρ id]?=some o)(h:OK F γ w o x):OK F γ' w (fA ρ o) x:=by
 cases o with
 |box cs=>
  cases x with
  |box b=>obtain⟨vs,T,d,e,h3⟩:=h;exact⟨vs,T,d,by simpa using e,RCs.renAll f h3⟩
  |arr b c=>exact h.elim
  |dead=>exact h.elim
 | arr cap size es=>cases x with
   | box b=>exact h.elim
   | arr b c=>cases b with
     | none=>exact h
     | some b=>exact h
   | dead=>exact h.elim
 |dead=>cases x<;>exact h
theorem OK.unren{o:aD}{x:OI}(f:∀(id:Nat)(o:OI),γ[ρ id]?=some o->γ'[id]?=some o)(h:OK F γ w (fA ρ o) x):OK F γ' w o x:=by
 cases o with
 |box cs=>
  cases x with
  |box b=>obtain⟨vs,T,d,e,h3⟩:=h;exact⟨vs,T,d,by simpa using e,RCs.unrenAll f h3⟩
  |arr b c=>exact h.elim
  |dead=>exact h.elim
 | arr cap size es=>cases x with
   | box b=>exact h.elim
   | arr b c=>cases b with
     | none=>exact h
     | some b=>exact h
   | dead=>exact h.elim
 |dead=>cases x<;>exact h
end
end
section
def cQ(J:L Nat)(n:Nat)(t:Nat):Nat:=match J[t]? with|some j=>j|none=>n+(t-J.length)
def lB{α:Type}:L Nat->L α->L α->L α
 |j::J,x::b,l=>lB J b (l.set j x)
 |_,_,l=>l
def iW:aD->Bool
 |.box _=>true
 |_=>false
section
variable {α:Type}
theorem iD:∀(J:L Nat)(b l:L α),(lB J b l).length=l.length
 |[],_,l=>by simp[lB]
 |j::J,[],l=>by simp[lB]
 |j::J,x::b,l=>by simp[lB,iD J b]
theorem uK:∀(J:L Nat)(b l:L α)(i:Nat),i∉J->(lB J b l)[i]?=l[i]?
 |[],_,l,i,_=>by simp[lB]
 |j::J,[],l,i,_=>by simp[lB]
 | j::J,x::b,l,i,h=>by
   simp only[lB];rw[uK J b _ i (fun c=>h (aZ3 _ c)),aZY (fun e=>h (by subst e;exact aZT))]
theorem C2:∀(J:L Nat)(b l:L α)(t j:Nat)(x:α),J.Nodup->J[t]?=some j->b[t]?=some x->j<l.length->(lB J b l)[j]?=some x
 |[],_,l,t,j,x,_,h,_,_=>by simp at h
 |g::J,[],l,t,j,x,_,_,h,_=>by simp at h
 | g::J,i::b,l,t,j,x,d,c,e,f=>by
   simp only[lB];rw[List.nodup_cons] at d;cases t with
   | zero=>
     simp at c e;subst c;subst e;rw[uK J b _ g d.1,aZ7 f]
   | succ t=>exact C2 J b _ t j x d.2 (by simpa using c) (by simpa using e) (by simpa using f)
end
theorem aBW{J:L Nat}(h:J.Nodup){s t j:Nat}(b:J[s]?=some j)(c:J[t]?=some j):s=t:=by
 have f:=aK b;have g:=aK c;have d:=(List.getElem?_eq_some_iff.1 b).2;have e:=(List.getElem?_eq_some_iff.1 c).2;exact (List.getElem_inj h).1 (d.trans e.symm)
section
variable {P:Program}{G:aF}{k:Nat}{F:Fz}{γ:L OI}{w:World}{as:AS}{a:Act}
theorem Ms{f:FuncId}{A:L AV}{objs:L aD}{J:L Nat}{Qc:AV->L aD->Prop}(hac:AC P G f A objs Qc)(hJ:J.Nodup)(hlen:objs.length=J.length) (hobj:∀(t j:Nat) o,J[t]?=some j->objs[t]?=some o->as.hp[j]?=some (fA (cQ J as.hp.length) o)) (g:dV F γ as.hp w) (hs:bZ F γ as.sl a) (hg:fZ F G) (hk:k<=γ.length) {vs:Array Value} (hv:mR F γ (A.map (dP (cQ J as.hp.length))) vs):
  Calls P f vs w fun e w'=>∃ r av d,e=.returned r/\Qc av d/\∃ F' γ',iL k F γ w F' γ' w'/\
    dV F' γ' (lB J (d.map (fA (cQ J as.hp.length))) (as.hp.map (cU fun id=>J.contains id&&!iW (aL as.hp id)))++(d.drop J.length).map (fA (cQ J as.hp.length))) w'/\
    bZ F' γ' (as.sl.map (bG fun id=>J.contains id&&!iW (aL as.hp id))) a/\RV F' γ' (dP (cQ J as.hp.length) av) r/\k<=γ'.length:=by
 generalize hρ:cQ J as.hp.length=ρ at *;have X:∀(t j:Nat),J[t]?=some j->ρ t=j:=fun t j h=>by rw[<- hρ];simp[cQ,h]
 have ρ2:∀t,J.length<=t->ρ t=as.hp.length+(t-J.length):=fun t h=>by rw[<- hρ];simp[cQ,bAK h]
 
 have Z:∀(t j:Nat),J[t]?=some j->j<as.hp.length:=by
  intro t j h;have l:t<objs.length:=hlen ▸ aK h;exact aK (hobj t j _ h (aZJ l))
 let n:L OI:=J.map fun j=>γ.getD j .dead
 have ge:∀(t j:Nat),J[t]?=some j->n[t]?=γ[j]?:=by
  intro t j h;have q:j<γ.length:=by rw[g.len];exact Z t j h
  simp[n,h,aZN,aZJ q]
 have geN:∀(t:Nat),J.length<=t->n[t]?=none:=fun t h=>bAK (by simpa[n] using h)
 have R:∀(id:Nat)(o:OI),γ[ρ id]?=some o->n[id]?=some o:=by
  intro id o h;by_cases K:id<J.length;have q:J[id]?=some (J[id]'K):=aZJ K;rw[X _ _ q] at h;rw[ge _ _ q];exact h;rw[ρ2 id (by omega)] at h;rw[bAK (by rw[g.len];omega)] at h;cases h
 have Y:∀t b,cF n t=some b->∃j,J[t]?=some j/\cF γ j=some b:=by
  intro t b h;obtain⟨y,N,U⟩:=dC h;have l:t<J.length:=by have:=aK N;simpa[n] using this
  have q:J[t]?=some (J[t]'l):=aZJ l;rw[ge _ _ q] at N;exact⟨_,q,bT N U⟩
 have hie:dV F n objs w:=by
  refine⟨g.fz,by simp[n,hlen],?_,?_,?_⟩;intro s t b p m;obtain⟨j1,hj1,hb1⟩:=Y s b p;obtain⟨j2,hj2,hb2⟩:=Y t b m;have:=g.nd _ _ _ hb1 hb2;subst this;exact aBW hJ hj1 hj2;intro t b h;obtain⟨j,_,V⟩:=Y t b h;exact g.disj j b V;intro t o x p m;have l:t<J.length:=by have:=aK m;simpa[n] using this
  have q:J[t]?=some (J[t]'l):=aZJ l;rw[ge _ _ q] at m;exact (g.ok _ _ x (hobj t _ o q p) m).unren R
 have hve:mR F n A vs:=by
  refine⟨by simpa using hv.1,fun i av v p m=>?_⟩
  exact (hv.2 i (dP ρ av) v (by rw[aZI,p];rfl) m).unren R
 refine (hac F n vs w hie hg hve).mono ?_;rintro e w' ⟨r,av,d,F',γ',rfl,hq,hlo,I,hI,hR⟩;refine⟨r,av,d,rfl,hq,F',lB J γ' γ++γ'.drop J.length,?_⟩;have hγl:γ'.length=d.length:=hI.len
 
 have E:∀(id:Nat)(o:OI),γ'[id]?=some o->(lB J γ' γ++γ'.drop J.length)[ρ id]?=some o:=by
  intro id o h;by_cases K:id<J.length;have q:J[id]?=some (J[id]'K):=aZJ K;rw[X _ _ q];have hjl:J[id]'K<γ.length:=by rw[g.len];exact Z _ _ q
  exact bY (C2 J γ' γ id _ o hJ q h hjl);rw[ρ2 id (by omega),aZ0 (by rw[iD,g.len];omega),iD,g.len,bA5,aZ9];rw[show J.length+(id-J.length)=id by omega];exact h
 have hold:∀(i:Nat)(o:OI),i∉J->γ[i]?=some o->(lB J γ' γ++γ'.drop J.length)[i]?=some o:=fun i o hn h=>bY (by rw[uK J γ' γ i hn];exact h)
 have D:∀(id:Nat)(o:OI),(J.contains id&&!iW (aL as.hp id))=false->γ[id]?=some o->(lB J γ' γ++γ'.drop J.length)[id]?=some o:=by
  intro id o hp h;by_cases T:id∈J;simp only[Bool.and_eq_false_iff,List.contains_eq_mem,decide_eq_false_iff_not,Bool.not_eq_false'] at hp;rcases hp with hp|hp
  exact absurd T hp;obtain⟨t,l⟩:=bA4 T;have hl:id<as.hp.length:=by rw[<- g.len];exact aK h
  have hgd:as.hp[id]?=some (aL as.hp id):=by simp[aL,aZN,aZJ hl]
  have u:=g.ok id _ o hgd h;cases M:aL as.hp id with
  |box cs=>
   rw[M] at u;cases o with
   |box b=>
    have htl:=aK l;have:=I.box t (by omega) b (by rw[ge _ _ l];exact h);have m:=E t _ this;rwa[X _ _ l] at m
   |arr b c=>exact u.elim
   |dead=>exact u.elim
  |arr _ _ _=>rw[M] at hp;simp[iW] at hp
  |dead=>rw[M] at hp;simp[iW] at hp
  exact hold id o T h
 
 have H:∀i b,cF (lB J γ' γ++γ'.drop J.length) i=some b->(i∉J/\cF γ i=some b)\/(∃t,ρ t=i/\cF γ' t=some b):=by
  intro i b h;obtain⟨y,N,U⟩:=dC h;by_cases B:i<γ.length;rw[aZU (by rw[iD];exact B)] at N;by_cases T:i∈J;obtain⟨t,l⟩:=bA4 T;have htl:=aK l;have z:t<γ'.length:=by omega
  have m:=C2 J γ' γ t i _ hJ l (aZJ z) B;rw[m] at N;injection N with N
  subst N;exact .inr ⟨t,X _ _ l,bT (aZJ z) U⟩;rw[uK J γ' γ i T] at N;exact .inl ⟨T,bT N U⟩;rw[aZ0 (by rw[iD];omega),iD,aZ9] at N;refine .inr ⟨J.length+(i-γ.length),?_,bT N U⟩;rw[ρ2 _ (by omega),<- g.len];omega
 have S:∀t b,cF γ' t=some b->(∃j,j∈J/\cF γ j=some b)\/w.heap.size<=b:=by
  intro t b h;rcases I.blk t b h with⟨s,hs'⟩|h
  obtain⟨j,q,V⟩:=Y s b hs';exact .inl ⟨j,aZ4 q,V⟩;exact .inr h
 have hfar:∀i b,i∉J->cF γ i=some b->w'.heap[b]?=w.heap[b]?:=by
  intro i b hn V;refine I.far b (g.lt V) (fun t l=>?_)
  obtain⟨j,q,C⟩:=Y t b l;exact hn (by rw[g.nd _ _ _ V C];exact aZ4 q)
 have W:∀s t b,cF γ' s=some b->cF γ' t=some b->ρ s=ρ t:=fun s t b p m=>by rw[hI.nd _ _ _ p m]
 refine⟨?_,?_,hs.kill I.sub D,hR.ren E,by simp[iD];omega⟩;refine⟨I.sub,I.os,I.tape,I.output,I.size,fun b V hn=>?_,fun b o h=>?_,fun i b h=>?_,fun i hik b h=>?_⟩
 exact I.far b V (fun t l=>by obtain⟨j,_,C⟩:=Y t b l;exact hn j C)
 rcases I.new b o h with h|h|⟨t,l⟩;exact .inl h;exact .inr (.inl h);obtain⟨j,_,C⟩:=Y t b l;exact .inr (.inr ⟨j,C⟩);rcases H i b h with⟨_,h⟩|⟨t,_,h⟩;exact .inl ⟨i,h⟩;rcases S t b h with⟨j,_,h⟩|h;exact .inl ⟨j,h⟩;exact .inr h;have hl:i<as.hp.length:=by rw[<- g.len];exact aK h
 have hgd:as.hp[i]?=some (aL as.hp i):=by simp[aL,aZN,aZJ hl]
 have u:=g.ok i _ _ hgd h;refine D i _ ?_ h;cases M:aL as.hp i with
 |box cs=>simp[iW]
 |arr _ _ _=>rw[M] at u;exact u.elim
 |dead=>rw[M] at u;exact u.elim
 refine⟨hI.fz,by simp[iD,g.len,hγl],?_,?_,?_⟩;intro i j b p m;rcases H i b p with⟨a1,O⟩|⟨t,a1,O⟩<;>rcases H j b m with⟨c1,c2⟩|⟨s,c1,c2⟩
 exact g.nd _ _ _ O c2;exfalso;rcases S s b c2 with⟨j',hj',hb'⟩|h
 exact a1 (by rw[g.nd _ _ _ O hb'];exact hj');have:=g.lt O;omega;exfalso;rcases S t b O with⟨j',hj',hb'⟩|h
 exact c1 (by rw[g.nd _ _ _ c2 hb'];exact hj');have:=g.lt c2;omega;rw[<- a1,<- c1];exact W _ _ _ O c2;intro i b h;rcases H i b h with⟨a1,O⟩|⟨t,_,O⟩
 cases hF:F' b with
 |none=>rfl
 |some o=>
  exfalso;rcases I.new b o hF with h|h|⟨t,l⟩
  rw[g.disj i b O] at h;cases h;have:=g.lt O;omega;obtain⟨j,q,C⟩:=Y t b l;exact a1 (by rw[g.nd _ _ _ O C];exact aZ4 q)
 exact hI.disj t b O;intro i o x p m;by_cases B:i<γ.length;rw[aZU (by rw[iD];exact B)] at m;rw[aZU (by rw[iD,aZz,<- g.len];exact B)] at p;by_cases T:i∈J;obtain⟨t,l⟩:=bA4 T;have htl:=aK l;have z:t<γ'.length:=by omega
 have hto:t<d.length:=by omega
 rw[C2 J γ' γ t i _ hJ l (aZJ z) B] at m;rw[C2 J _ _ t i (fA ρ (d[t]'hto)) hJ l (by rw[aZI,aZJ hto];rfl) (by rw[aZz,<- g.len];exact B)] at p;injection p with p;injection m with m;subst p;subst m
 exact (hI.ok t _ _ (aZJ hto) (aZJ z)).ren E;rw[uK J _ _ i T] at p m;rw[aZI] at p;cases ho:as.hp[i]? with
 |none=>simp[ho] at p
 |some o0=>
  simp only[ho,aZF,Option.some.injEq] at p;subst p;exact (g.ok i o0 x ho m).kill I.sub D (fun b V=>hfar i b T (bT m V))
 rw[aZ0 (by rw[iD];omega),iD,aZ9] at m;rw[aZ0 (by rw[iD,aZz,<- g.len];omega),iD,aZz,<- g.len,aZI,aZ9] at p;cases ho:d[J.length+(i-γ.length)]? with
 |none=>simp[ho] at p
 |some o0=>
  simp[ho] at p;subst p;exact (hI.ok _ o0 x ho m).ren E
end
end
section
theorem Ca{p:Nat->Bool}(hp:∀id,p id=false)(c:aV):cN p c=c:=by
 have:p=fun _=>false:=funext hp
 subst this;simp[cN,aV.keep_none]
theorem Wn{p:Nat->Bool}(hp:∀id,p id=false)(t:TV):uD p t=t:=by
 cases t<;>simp[uD,Ca hp,List.map_id'']
theorem Wo{p:Nat->Bool}(hp:∀id,p id=false)(v:AV):bG p v=v:=by
 cases v<;>simp[bG,Ca hp,Wn hp,List.map_id'']
theorem Wp{p:Nat->Bool}(hp:∀id,p id=false)(o:aD):cU p o=o:=by
 cases o<;>simp[cU,Ca hp,List.map_id'']
theorem rC{p:Nat->Bool}(hp:∀id,p id=false)(l:L AV):l.map (bG p)=l:=by simp[Wo hp,List.map_id'']
theorem rE{p:Nat->Bool}(hp:∀id,p id=false)(l:L aD):l.map (cU p)=l:=by simp[Wp hp,List.map_id'']
def Zt(P:Program)(f:FuncId):Bool:=
 match P.funcs[f]? with
 | some b=>!(b.name=="runtime.NumGoroutine"||b.body.isNone)
 |none=>false
section
variable {P:Program}{G:aF}{k:Nat}{Q:AS->Prop}{as as':AS}{o:aN}{rest ops:L aN}{F:Fz}{γ:L OI}{w:World}{a:Act}
theorem lS{f:FuncId}(h:Zt P f=true)(b:Array Value):(callFunc f b).run P w=.ok (.enter f b) w:=by
 unfold Zt at h;cases hf:P.funcs[f]? with
 |none=>simp[hf] at h
 |some e=>
  simp only[hf,bAD,Bool.or_eq_false_iff] at h;obtain⟨g,i⟩:=h;have c:¬ e.name="runtime.NumGoroutine":=by simpa using g
  have d:¬ e.body=none:=by intro h;simp[h] at i
  simp[callFunc,hf,c,d]
theorem C3{b:Oper}{f:FuncId}{d:L aH}(e:bE P b=some (.call f d)):∃c,b.op=.call c/\c.callee=.value (.func f)/\d=c.args.toList.map aY/\Zt P f=true:=by
 have g:=iU e rfl;obtain⟨c,p⟩:=O1 (.inl g);obtain⟨r,v,q,t,l,n⟩:=b;obtain⟨j,m,i⟩:=c;simp only at p;subst p;simp only[cH] at g;split at g;rename_i s;simp only[bE,fY] at e;cases hf:P.funcs[s]? with
 |none=>simp[hf] at e
 |some u=>
  simp only[hf] at e;split at e;cases e;rename_i h;simp only[Option.some.injEq,AI.call.injEq] at e;obtain⟨rfl,rfl⟩:=e;exact⟨_,rfl,rfl,rfl,by simp only[Zt,hf,bAD];exact bA2.2 h⟩
 simp[gS] at g;simp[gS] at g;simp[gS] at g;simp[gS] at g;simp[gS] at g
theorem aBX{b:Oper}{x:aH}{d:L aH}(i:bE P b=some (.callv x d)):∃c t,b.op=.call c/\c.callee=.value (.tmp t)/\d=c.args.toList.map aY/\x=.t t:=by
 have e:=iU i rfl;obtain⟨c,q⟩:=O1 (.inr (.inl e));obtain⟨s,z,r,y,l,n⟩:=b;obtain⟨j,m,h⟩:=c;simp only at q;subst q;simp only[cH] at e;split at e;simp[gS] at e;rename_i u p;cases u with
 |tmp t=>
  simp only[bE,fY,Option.some.injEq,AI.callv.injEq] at i;obtain⟨rfl,rfl⟩:=i;exact⟨_,t,rfl,rfl,rfl,rfl⟩
 |const v=>simp[bE,fY] at i
 |global g=>simp[bE,fY] at i
 |func f=>exact absurd rfl (p f)
 simp[gS] at e;simp[gS] at e;simp[gS] at e;simp[gS] at e
theorem C4(g:bZ F γ as.sl a)(f:fZ F G)(d:Array Operand):mR F γ ((d.toList.map aY).map (aM G as.sl)) (d.map a.eval):=by
 refine⟨by simp,fun i h v b c=>?_⟩
 simp only[aZ5,aZI,Array.getElem?_map,bAF] at b c;cases e:d[i]? with
 |none=>simp[e] at b
 |some x=>
  simp[e] at b c;subst b;subst c;exact dB g f x
def iX(J:L Nat)(as:AS)(c:Option Nat)(d:AV)(b:L aD):AS:=
 ⟨aR (as.sl.map (bG fun id=>J.contains id&&!iW (aL as.hp id))) c (dP (cQ J as.hp.length) d),
  lB J (b.map (fA (cQ J as.hp.length))) (as.hp.map (cU fun id=>J.contains id&&!iW (aL as.hp id)))++(b.drop J.length).map (fA (cQ J as.hp.length))⟩
theorem WR.call{f:FuncId}{g:L aH}{d:L AV}{objs:L aD}{J:L Nat}{B:AV->L aD->Prop}(y:jR G as o.guard)(T:o.ai=.call f g)(x:AC P G f d objs B)(O:J.Nodup) (m:objs.length=J.length) (n:∀(t j:Nat) o,J[t]?=some j->objs[t]?=some o->as.hp[j]?=some (fA (cQ J as.hp.length) o)) (i:g.map (aM G as.sl)=d.map (dP (cQ J as.hp.length))) (h:∀s b,B s b->WR P G k rest Q (iX J as o.dst s b)):WR P G k (o::rest) Q as:=by
 refine WR.step y (fun F γ a w q C Y U E D V=>?_)
 rw[T] at C;obtain⟨c,p,l,rfl,A⟩:=C3 C;obtain⟨K,Z,I,X,u,v⟩:=q;simp only at p;subst p;have H:=C4 (G:=G) E D c.args;rw[i] at H;refine .inr ⟨f,c.args.map a.eval,?_,(Ms x O m n U E D V H).mono ?_⟩;simp[execOp,resolve,l,Act.eval,Deferred.ofValue,invoke,lS A];rintro e w' ⟨r,s,b,rfl,W,F',γ',M,N,S,R,z⟩;exact⟨r,_,F',γ',rfl,h s b W,M,N,S.put _ R,z⟩
theorem WR.callv{f:FuncId}{d:L aV}{x:aH}{p:L aH}{l:L AV}{objs:L aD}{J:L Nat}{V:AV->L aD->Prop}(N:jR G as o.guard)(ha:o.ai=.callv x p)(hx:aM G as.sl x=.one (.fn f d)) (S:Zt P f=true) (I:AC P G f l objs V) (hJ:J.Nodup) (A:objs.length=J.length) (B:∀(t j:Nat) o,J[t]?=some j->objs[t]?=some o->as.hp[j]?=some (fA (cQ J as.hp.length) o)) (u:p.map (aM G as.sl)++d.map AV.one=l.map (dP (cQ J as.hp.length))) (h:∀y b,V y b->WR P G k rest Q (iX J as o.dst y b)):WR P G k (o::rest) Q as:=by
 refine WR.step N (fun F γ a w D W hd hi T M hk=>?_)
 rw[ha] at W;obtain⟨c,t,C,z,rfl,rfl⟩:=aBX W;obtain⟨Y,op,X,pos,E,H⟩:=D;simp only at C;subst C;have hv:=C4 (G:=G) T M c.args;have hf:=dB (G:=G) T M (.tmp t);rw[show aY (.tmp t)=.t t from rfl,hx] at hf
 generalize K:a.eval (.tmp t)=fv at hf;cases hf with|one _ _ hf=>cases hf with|fn _ _ g hr=>
 have U:mR F γ (l.map (dP (cQ J as.hp.length))) (c.args.map a.eval++((List.range d.length).map g).toArray):=by
  rw[<- u];refine⟨by simp,fun i y v q s=>?_⟩
  by_cases n:i<c.args.size;rw[aZU (by simpa using n)] at q;rw[Array.getElem?_append_left (by simpa using n)] at s;exact hv.2 i y v q s;rw[aZ0 (by simpa using n)] at q;rw[Array.getElem?_append_right (by simpa using n)] at s;simp only[aZz,bBb,Array.size_map] at q s;simp only[aZI,List.getElem?_toArray] at q s;cases m:d[i-c.args.size]? with
  |none=>simp[m] at q
  |some cc=>
   simp[m] at q;have R:=aK m;simp[bAX R] at s;subst q;subst s;exact .one _ _ (hr _ _ m)
 refine .inr ⟨f,c.args.map a.eval++((List.range d.length).map g).toArray,?_,(Ms I hJ A B hi T M hk U).mono ?_⟩;simp[execOp,resolve,z,K,Deferred.ofValue,invoke,lS S];rintro e w' ⟨r,y,b,rfl,hq,F',γ',Z,hI,hS,hR,O⟩;exact⟨r,_,F',γ',rfl,h y b hq,Z,hI,hS.put _ hR,O⟩
theorem WR.callQ{f:FuncId}{c:L aH}{b:L AV}{r:AV}(g:jR G as o.guard)(n:o.ai=.call f c)(e:QC P G f b r) (d:c.map (aM G as.sl)=b.map (dP (cQ [] as.hp.length))) (h:WR P G k rest Q ⟨aR as.sl o.dst (dP (cQ [] as.hp.length) r),as.hp⟩):WR P G k (o::rest) Q as:=by
 refine WR.call (J:=[]) g n e List.nodup_nil rfl (fun t j o h=>by simp at h) d (fun l i p=>?_)
 obtain⟨rfl,rfl⟩:=p;have m:iX [] as o.dst l []=⟨aR as.sl o.dst (dP (cQ [] as.hp.length) l),as.hp⟩:=by
  simp only[iX,lB,aZM,List.drop_nil,bAy];rw[rC (by simp),rE (by simp)]
 rw[m];exact h
theorem WR.callN{f:FuncId}{d:L aH}{c:L AV}{m:AV->L aD->Prop}(l:jR G as o.guard)(p:o.ai=.call f d)(i:AC P G f c [] m) (e:d.map (aM G as.sl)=c.map (dP (cQ [] as.hp.length))) (h:∀g b,m g b->WR P G k rest Q ⟨aR as.sl o.dst (dP (cQ [] as.hp.length) g),as.hp++b.map (fA (cQ [] as.hp.length))⟩):WR P G k (o::rest) Q as:=by
 refine WR.call (J:=[]) l p i List.nodup_nil rfl (fun t j o h=>by simp at h) e (fun g b q=>?_)
 have n:iX [] as o.dst g b=⟨aR as.sl o.dst (dP (cQ [] as.hp.length) g),as.hp++b.map (fA (cQ [] as.hp.length))⟩:=by
  simp only[iX,lB,aZC,bAq];rw[rC (by simp),rE (by simp)]
 rw[n];exact h g b q
