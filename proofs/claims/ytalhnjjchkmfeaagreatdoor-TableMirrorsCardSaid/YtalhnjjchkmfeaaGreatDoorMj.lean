/- Part. Conditions: none. -/
import Derived.Test.YtalhnjjchkmfeaaGreatDoorTa
import Derived.Shelf.SlSortCmp.WholeK
namespace Go.Proofs.YtalhnjjchkmfeaaGreatDoor
set_option linter.unusedSimpArgs false
set_option linter.unusedVariables false
open Go.Sort
section
variable {α:Type} [Inhabited α]
theorem Yc(enc:α->L Value)(k:Nat){w:World}{b m:Nat}{d:Array α}{os:Array Obj}{vs:Array Value}{T:TypeId}{f:Nat×Nat}(h:w.heap[b]?=some (.cells vs T f)):(sortWorldK enc k w b 0 m d os).heap[b]?=some (.cells (putCells id 0 (flatK enc k d) vs) T f)/\(∀b',b'<w.heap.size->b'≠b->(sortWorldK enc k w b 0 m d os).heap[b']?=w.heap[b']?)/\ w.heap.size<=(sortWorldK enc k w b 0 m d os).heap.size:=by
 have g:=(Array.getElem?_eq_some_iff.1 h).1;have e:(sortWorldK enc k w b 0 m d os).heap=w.heap.modify b (onCells (putCells id 0 (flatK enc k d)))++os:=rfl;rw[e];refine⟨?_,fun b' a c=>?_,?_⟩
 rw[Array.getElem?_append_left (by simpa using g),bBc,if_pos rfl,h];rfl;rw[Array.getElem?_append_left (by simpa using a),bBc,if_neg (Ne.symm c)];simp
theorem aL8(enc:α->L Value)(k:Nat)(f:∀x,(enc x).length=k)(d:Array α)(vs:Array Value)(i j:Nat)(e:i<d.size)(a:j<k)(g:d.size*k<=vs.size):(putCells id 0 (flatK enc k d) vs)[i*k+j]?=(enc d[i]!)[j]?:=by
 have b:i*k+j<d.size*k:=by
  have:(i+1)*k<=d.size*k:=bAC _ e;rw[bAj] at this;omega
 have c:(i*k+j) / k=i:=by
  rw[bAM,Nat.mul_add_div (by omega),Nat.div_eq_of_lt a,bAn]
 have h3:(i*k+j) % k=j:=by
  rw[bAM,Nat.mul_add_mod,bAz a]
 unfold putCells;rw[Array.getElem?_mapIdx,bAe (by omega),aZF,if_pos ⟨aZV _,by rw[size_flatK];omega⟩,Nat.sub_zero,get_flatK enc k d _ b,c,h3];have h4:j<(enc d[i]!).length:=by rw[f];exact a
 rw[aZJ h4,getElem!_pos _ j h4];rfl
end
theorem aAW{b:Type}(a:Array b){n:Nat}(h:a.size<=n):a.extract 0 n=a:=by
 apply Array.ext;simp;omega;intro i c d;simp
theorem Ue{v:Value}(h:is1 v=true):v.oneCell'=true:=by
 cases v<;>first|rfl|cases h
theorem aDp{F:Fz}{w w':World}{b:Nat}{cs cs':L aV}{a:Array Value}{T:TypeId}(o:dV F [OI.box b] [.box cs] w) (d:∀b',b'<w.heap.size->b'≠b->w'.heap[b']?=w.heap[b']?) (k:w'.os=w.os) (l:w'.tape=w.tape) (h3:w'.output=w.output) (h4:w.heap.size<=w'.heap.size) (n:Ow w' b a T) (j:cs'.length<=a.size) (q:∀(i:Nat) c v,cs'[i]?=some c->a[i]?=some v->RC F [OI.box b] c v):iL 1 F [OI.box b] w F [OI.box b] w'/\dV F [OI.box b] [.box cs'] w':=by
 have r:[OI.box b][0]?=some (OI.box b):=rfl;have m:∀b',(OI.box b).blk=some b'->(OI.box b).blk=some b'\/b'=w.heap.size:=fun b' h=>.inl h
 have hf:∀b',b'<w.heap.size->(OI.box b).blk≠some b'->w'.heap[b']?=w.heap[b']?:=fun b' f g=>d b' f (fun e=>g (by rw[e];rfl))
 refine⟨⟨fun _ _ h=>h,k,l,h3,h4,fun b' f p=>d b' f (fun e=>p 0 (by rw[e];rfl)),fun _ _ h=>.inl h,fun i b h=>.inl ⟨i,h⟩,fun i _ b h=>h⟩,?_⟩
 exact dV.setArr o r m hf ⟨a,T,n,j,q⟩
theorem aAX{α:Type}{s:Nat}:∀(es:L (L α)),(∀e∈es,e.length=s)->∀(i j:Nat) e d,es[i]?=some e->e[j]?=some d->es.flatten[i*s+j]?=some d
 |[],_,i,j,e,d,h,_=>by simp at h
 | x::es,f,i,j,e,d,a,c=>by
  have b:=f x (aZT ..);rw[bAx];cases i with
  | zero=>
   simp only[bBi,Option.some.injEq] at a;subst a;rw[Nat.zero_mul,bAm,aZU (aK c)];exact c
  | succ i=>
   rw[bBf] at a;rw[aZ0 (by rw[b,Nat.succ_mul];omega),b,show (i+1) * s+j - s=i * s+j by rw[Nat.succ_mul];omega];exact aAX es (fun x b=>f x (aZ3 _ b)) i j e d a c
theorem aL9{P:Program}{G:aF}{f g:FuncId}{k:Nat}(hk0:0<k) (hS:∀ (α:Type) [Inhabited α] (enc:α->L Value) (cf:α->α->Int) (u cap:Nat) (d:Array α) (w:World),(∀ x,(enc x).length=k)->(∀ x,∀ v∈enc x,v.oneCell'=true)->SWO (ltOf cf)->CmpLays P g #[] enc k cf u 0 d.size w->HoldsK enc k w u 0 d->u < w.heap.size->d.size < 4611686018427387904->
   Calls P f #[.slice (some ⟨u,0,none⟩) d.size cap,.func (.func g) #[] #[]] w fun e w'=>e=.returned (.tuple #[])/\∃ d' n os,PermIn 0 d.size d d'/\SortedIn (ltOf cf) 0 d.size d'/\w'=sortWorldK enc k w u 0 n d' os)
  {es:L (L DC)} (hn:es≠[]) (hz:∀e∈es,e.length=k) (W:es.length<4611686018427387904) (z:L DC->L DC->Int)
  (hO:SWO (fun i j:_root_.Fin es.length=>decide (z es[i] es[j]<0)))
  (hc:∀ (F:Fz) (w:World) (dx dy:L DC) (vx vy:L Value),dx∈es->dy∈es->vx.length=k->vy.length=k->(∀ (j:Nat) d v,dx[j]?=some d->vx[j]?=some v->RD F d v)->(∀ (j:Nat) d v,dy[j]?=some d->vy[j]?=some v->RD F d v)->
   Calls P g #[.agg vx.toArray,.agg vy.toArray] w fun e w'=>e=.returned (.int .i64 (z dx dy))/\∃ q os',w'=grow (w.drewN q) os'):
  AC P G f [.one (.bls 0 0 es.length k),.one (.fn g [])] [.box (kY es.flatten)] fun av o=>av=.tup []/\∃A:L (L DC),A.Perm es/\(∀(i j:Nat) a b,i<j->A[i]?=some a->A[j]?=some b->¬ z b a<0)/\o=[.box (kY A.flatten)]:=by
 intro F γ vs w hi hg s;obtain⟨hz2,s⟩:=s;obtain⟨l⟩:=vs
 match l,hz2 with
 |[x,y],_=>
  have hx:=s 0 _ _ rfl rfl;have hy:=s 1 _ _ rfl rfl;have hyv:y=.func (.func g) #[] #[]:=by
   cases hy with|one _ _ hy=>cases hy with
   |fn f' caps g' hr=>rfl
  subst hyv;have hpos:0<es.length:=List.length_pos_iff.2 hn;have hγ:γ.length=1:=hi.len
  match γ,hγ with
  |[o0],_=>
   cases hx with|one _ _ hx=>
   generalize hnn:es.length=n0 at hx;cases hx with
   |bls id lo n size b cap c off hgm ho hcn=>
    have Z:off=0:=by rw[ho (by omega)];simp
    subst Z;have hok:=hi.ok 0 _ o0 rfl rfl;have h0:o0=.box b:=by
     rcases hgm with h|h;injection h with h;subst h;exact hok.elim;injection h
    subst h0;obtain⟨p,T,⟨fz,hh,Y⟩,hsz,hrc⟩:=hok;subst hnn;obtain⟨hfl,hfg⟩:=rK es hz;have X:es.length*k<=p.size:=by rw[<- hfl];rw[kY,aZz] at hsz;exact hsz
    have hr:∀ (i j:Nat) e d v,es[i]?=some e->e[j]?=some d->p[i * k+j]?=some v->RD F d v:=fun i j e d v E h2 h3=>by
     have h4:=aAX es hz i j e d E h2;have h5:=hrc (i * k+j) (.dc d) v (by simp only[kY,aZI,h4,aZF]) h3;cases h5 with | dc _ _ h=>exact h
    have hb:=(Array.getElem?_eq_some_iff.1 hh).1
    letI:Inhabited (_root_.Fin es.length):=⟨⟨0,hpos⟩⟩
    have hin:∀ (i:_root_.Fin es.length) (j:Nat),j < k->i.1 * k+j < p.size:=fun i j r=>by
     have:(i.1+1) * k<=es.length * k:=bAC _ i.2;rw[bAj] at this;omega
    have hk:∀x:_root_.Fin es.length,((List.range k).map fun j=>p[x.1*k+j]!).length=k:=fun x=>by simp
    have D:∀ (x:_root_.Fin es.length) (j:Nat) v,((List.range k).map fun j=>p[x.1 * k+j]!)[j]?=some v->j < k/\p[x.1 * k+j]?=some v:=fun x j v s=>by
     have r:j < k:=by
      have:=(List.getElem?_eq_some_iff.1 s).1;simpa using this
     rw[aZI,bAX r] at s;simp only[aZF,Option.some.injEq] at s;have:=hin x j r;exact⟨r,by rw[bAe this,<- s,getElem!_pos p _ this]⟩
    have B:∀(x:_root_.Fin es.length)(j:Nat) d v,(es[x.1])[j]?=some d->((List.range k).map fun j=>p[x.1*k+j]!)[j]?=some v->RD F d v:=fun x j d v J s=>
     hr x.1 j _ d v (aZJ x.2) J (D x j v s).2
    have E:∀ x:_root_.Fin es.length,∀ v∈(List.range k).map (fun j=>p[x.1 * k+j]!),v.oneCell'=true:=fun x v s=>by
     obtain⟨j,r⟩:=bA4 s;have hjk:=(D x j v r).1;have S:(es[x.1]).length=k:=hz _ (aZG x.2);exact Ue (B x j _ v (aZJ (by omega)) r).is1
    have J:(Array.ofFn fun i:_root_.Fin es.length=>i).size=es.length:=by simp
    have hdg:∀ t (ht:t < es.length),(Array.ofFn fun i:_root_.Fin es.length=>i)[t]! = ⟨t,ht⟩:=fun t ht=>by
     rw[getElem!_pos _ t (by simpa using ht)];simp
    have hq:=hS (_root_.Fin es.length) (fun x=>(List.range k).map fun j=>p[x.1 * k+j]!) (fun x y=>z es[x.1] es[y.1]) b c (Array.ofFn fun i:_root_.Fin es.length=>i) w hk E hO
     (fun m os dk _ x y=>by
      have:=hc F (sortWorldK (fun x:_root_.Fin es.length=>(List.range k).map fun j=>p[x.1 * k+j]!) k w b 0 m dk os) es[x.1] es[y.1] _ _ (aZG x.2) (aZG y.2) (hk x) (hk y) (B x) (B y)
      exact this)
     (fun j r=>by
      rw[size_flatK,J] at r;have K:j < p.size:=by omega
      have O:(flatK (fun x:_root_.Fin es.length=>(List.range k).map fun j=>p[x.1 * k+j]!) k (Array.ofFn fun i:_root_.Fin es.length=>i))[j]! = p[j]:=by
       have hjd:j / k < es.length:=Nat.div_lt_of_lt_mul (by rw[bAM];exact r);have hjm:j % k < k:=Nat.mod_lt _ hk0;rw[get_flatK _ _ _ _ (by rw[J];exact r),hdg _ hjd,getElem!_pos _ _ (by simpa using hjm)];simp only[aZS,List.getElem_range];have:j / k * k+j % k=j:=by rw[bAM];exact Nat.div_add_mod j k
       rw[this,getElem!_pos p j K]
      rw[O,bAm];refine⟨?_, ?_⟩
      ·unfold World.cell?;simp only[hh];simp[K]
      ·have h9:=Y j K;unfold World.frozen?;simp only[hh];simpa using h9)
     hb (by rw[J];exact W)
    rw[J] at hq;refine hq.mono ?_;rintro e w' ⟨rfl,d',n',os,hp,hs,rfl⟩;obtain⟨s1,s2,s3⟩:=Yc (fun x:_root_.Fin es.length=>(List.range k).map fun j=>p[x.1*k+j]!) k (m:=n') (d:=d') (os:=os) hh
    have hds:d'.size=es.length:=by rw[hp.1,J]
    have R:d'.toList.Perm (List.finRange es.length):=by
     have h3:=hp.2.2;have O:d'.extract 0 es.length=d':=aAW d' (by omega);have e2:(Array.ofFn fun i:_root_.Fin es.length=>i).extract 0 es.length=Array.ofFn fun i:_root_.Fin es.length=>i:=aAW _ (by simp)
     rw[O,e2] at h3;have e3:(Array.ofFn fun i:_root_.Fin es.length=>i).toList=List.finRange es.length:=by simp[List.finRange,Array.toList_ofFn]
     rw[e3] at h3;exact h3
    have M:(d'.toList.map fun i=>es[i.1]).Perm es:=by
     have h4:=R.map (fun i:_root_.Fin es.length=>es[i.1])
     have e4:(List.finRange es.length).map (fun i:_root_.Fin es.length=>es[i.1])=es:=by
      apply List.ext_getElem
      ·simp
      ·intro i E h2;simp
     rw[e4] at h4;exact h4
    have S:(d'.toList.map fun i=>es[i.1]).length=es.length:=M.length_eq
    have H:∀ (i:Nat) a,(d'.toList.map fun i=>es[i.1])[i]?=some a->∃ h:i < d'.size,a=es[d'[i].1]:=fun i a N=>by
     have h5:=(List.getElem?_eq_some_iff.1 N).1;have h6:i < d'.size:=by simpa using h5
     refine⟨h6, ?_⟩;rw[aZI,aZJ (by simpa using h6)] at N;simp only[aZF,Option.some.injEq] at N;rw[<- N];simp
    have hzz:∀e∈d'.toList.map fun i=>es[i.1],e.length=k:=fun e he=>hz e (M.mem_iff.1 he)
    obtain⟨V,U⟩:=rK _ hzz;have Q:=aDp (cs':=kY (d'.toList.map fun i=>es[i.1]).flatten) hi (fun b' I hne=>s2 b' I hne) rfl rfl rfl s3 ⟨_,s1,by simpa[putCells] using Y⟩ (by
     have O:(kY (d'.toList.map fun i=>es[i.1]).flatten).length=es.length * k:=by
      rw[kY,aZz,V,S]
     rw[O];simpa[putCells] using X) (fun m c v E h3=>by
     simp only[kY,aZI] at E;obtain⟨d,h2,rfl⟩:=Option.map_eq_some_iff.1 E;obtain⟨i,j,e,h4,h5,rfl⟩:=U m d h2;obtain⟨C,rfl⟩:=H i e h4;have r:j < k:=by
      have:=(List.getElem?_eq_some_iff.1 h5).1;rw[hz _ (aZG _)] at this;exact this
     rw[aL8 _ k hk d' p i j C r (by rw[hds];omega),getElem!_pos d' i C] at h3;exact .dc _ _ (B d'[i] j d v h5 h3))
    refine⟨_,.tup [],_,F,_,rfl,⟨rfl,_,M,fun i j a b' hij N I=>?_,rfl⟩,aZE _,Q.1,Q.2,.tup _ _ rfl (fun i t v h=>by simp at h)⟩
    obtain⟨C,rfl⟩:=H i a N;obtain⟨hj',rfl⟩:=H j b' I;have h7:=hs i j (aZV _) hij (by omega);unfold ltOf at h7;rw[getElem!_pos d' i C,getElem!_pos d' j hj'] at h7;simpa using h7
