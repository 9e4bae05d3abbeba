/- Part. Conditions: none. -/
import Derived.Test.YtalhnjjchkmfeabGreatDoorLg
namespace Go.Proofs.YtalhnjjchkmfeabGreatDoor
set_option linter.unusedSimpArgs false
set_option linter.unusedVariables false
section
def mA(opsA:Array Oper):Option (Nat×Bool)->Option (Option (Nat×Bool))
 |none=>some none
 |some (j,b)=>((opsA[j]?).bind (·.dst)).map fun d=>some (d,b)
def cH(P:Program)(opsA:Array Oper)(o:Oper):Option aO:=
 (bE P o).bind fun a=>(mA opsA o.guard).map fun g=>⟨o.dst,a,g⟩
def bF(P:Program)(opsA:Array Oper):L Oper->Option (L aO)
 |[]=>some []
 |o::l=>(cH P opsA o).bind fun x=>(bF P opsA l).map (x::·)
def WR(P:Program)(G:aE)(k:Nat)(b:L aO)(Q:AS->Prop)(as:AS):Prop:=
 ∀(opsA:Array Oper)(l:L Oper),bF P opsA l=some b->∀F γ a w,eG F γ as.hp w->bY F γ as.sl a->fZ F G->k<=γ.length->
  ∀c:Exit->Act->World->Prop,(∀d w' F' γ' as',Q as'->iU k F γ w F' γ' w'->eG F' γ' as'.hp w'->bY F' γ' as'.sl d->k<=γ'.length->c .normal d w')->wpList P opsA c l a w
def Gh(k:Nat)(as as':AS):Prop:=
 ∀F γ a w,eG F γ as.hp w->bY F γ as.sl a->k<=γ.length->∃F' γ',iU k F γ w F' γ' w/\eG F' γ' as'.hp w/\bY F' γ' as'.sl a/\k<=γ'.length
def kB(G:aE)(as:AS):Option (Nat×Bool)->Prop
 |none=>True
 |some (g,b)=>cP (aM G as.sl (.t g))=some b
def Gf(G:aE)(as:AS):Option (Nat×Bool)->Prop
 |none=>False
 |some (g,b)=>cP (aM G as.sl (.t g))=some (!b)\/aM G as.sl (.t g)=.tup []
section
variable {P:Program}{G:aE}{k:Nat}{Q:AS->Prop}{as as':AS}{o:aO}{rest ops:L aO}
theorem WR.nil(h:Q as):WR P G k [] Q as:=by
 intro opsA l b F γ a w d g j e i f;cases l with
 |nil=>exact f a w F γ as h (iU.refl _ _ _ _) d g e
 |cons o l=>
  simp only[bF] at b;cases c:cH P opsA o with
  |none=>simp[c] at b
  |some x=>simp[c] at b
theorem WR.ghost(h:Gh k as as')(x:WR P G k ops Q as'):WR P G k ops Q as:=by
 intro opsA l q F γ a w s v r t j u;obtain⟨F',γ',i,e,g,f⟩:=h F γ a w s v t;exact x opsA l q F' γ' a w e g (r.sub i.sub) f j (fun m w' d c b n p h3 h4=>u m w' d c b n (i.trans p) h3 h4)
theorem WR.mono{c:AS->Prop}(h:WR P G k ops Q as)(n:∀as,Q as->c as):WR P G k ops c as:=by
 intro opsA l g F γ a w j p i m d b;exact h opsA l g F γ a w j p i m d (fun e w' F' γ' as' f=>b e w' F' γ' as' (n _ f))
def aN8(P:Program)(k:Nat)(b:Oper)(c:Option Nat)(a:Act)(w:World)(F:Fz)(γ:L OI)(R:AS->Prop):Prop:=
 (∃d v w' as' F' γ',(execOp a.eval b).run P w=.ok d w'/\(d=.value v\/(d=.skip/\v=undef))/\R as'/\iU k F γ w F' γ' w'/\eG F' γ' as'.hp w'/\bY F' γ' as'.sl (a.put c v)/\k<=γ'.length)\/
 (∃f vs,(execOp a.eval b).run P w=.ok (.enter f vs) w/\Calls P f vs w fun e w'=>∃r as' F' γ',e=.returned r/\R as'/\iU k F γ w F' γ' w'/\eG F' γ' as'.hp w'/\bY F' γ' as'.sl (a.put c r)/\k<=γ'.length)
theorem H4{F:Fz}{γ:L OI}{a:Act}{d:Nat}{b:Bool}(f:bY F γ as.sl a)(h:cP (aM G as.sl (.t d))=some b):a.tmps[d]?=some (.bool b):=by
 simp only[aM,aZo] at h;cases e:as.sl[d]? with
 |none=>simp[e,cP] at h
 |some av=>
  simp[e] at h;have c:d<a.tmps.size:=f.2.1 ▸ aJ e;have g:a.tmps[d]?=some (a.tmps[d]'c):=aZR c;rw[g,Nt (f.2.2 d av _ e g) h]
theorem Q4{F:Fz}{γ:L OI}:RV F γ (.tup []) undef:=.tup [] #[] rfl (fun i t v h=>by simp at h)
theorem aBg{F:Fz}{γ:L OI}{a:Act}{d:Nat}(f:bY F γ as.sl a)(h:aM G as.sl (.t d)=.tup []):a.tmps[d]?=some undef\/a.tmps[d]?=none:=by
 simp only[aM,aZo] at h;cases c:as.sl[d]? with
 |none=>simp[c] at h
 |some av=>
  simp[c] at h;subst h;have b:d<a.tmps.size:=f.2.1 ▸ aJ c;have g:a.tmps[d]?=some (a.tmps[d]'b):=aZR b;have h3:=f.2.2 d _ _ c g
  left
  rw[g];generalize a.tmps[d]'b=x at h3;cases h3 with
  |tup l vs e i=>
   have:vs=#[]:=Array.eq_empty_of_size_eq_zero (by simpa using e);subst this;rfl
theorem pC{F:Fz}{γ:L OI}{a:Act}{opsA:Array Oper}{l:Option (Nat×Bool)}{c:Oper}{b':Bool}(i:bY F γ as.sl a)(e:mA opsA c.guard=some l):(kB G as l->Region.wanted c (yielded opsA a.tmps)=true)/\(Gf G as l->Region.wanted c (yielded opsA a.tmps)=false):=by
 unfold mA at e;unfold Region.wanted;split at e;injection e with e;subst e
 rename_i g;rw[g];exact⟨fun _=>rfl,fun h=>h.elim⟩
 rename_i j b g;rw[g];cases f:(opsA[j]?).bind (·.dst) with
 |none=>simp[f] at e
 |some d=>
  simp only[f,aZf,Option.some.injEq] at e;subst e;refine⟨fun h=>?_,fun h=>?_⟩
  have:=H4 i h;simp[yielded,f,this];rcases h with h|h
  have:=H4 i h;simp[yielded,f,this];have:=aBg i h;rcases this with this|this<;>simp[yielded,f,this,undef]
theorem oT{opsA:Array Oper}{l:L Oper}(b:bF P opsA l=some (o::rest)):∃a d,l=a::d/\bE P a=some o.ai/\mA opsA a.guard=some o.guard/\a.dst=o.dst/\bF P opsA d=some rest:=by
 cases l with
 |nil=>simp[bF] at b
 |cons a d=>
  simp only[bF,cH] at b;cases c:bE P a with
  |none=>simp[c] at b
  |some f=>
   cases e:mA opsA a.guard with
   |none=>simp[c,e] at b
   |some g=>
    cases h3:bF P opsA d with
    |none=>simp[c,e,h3] at b
    |some r=>
     simp only[c,e,h3,aZs,aZf,Option.some.injEq,List.cons.injEq] at b;obtain⟨rfl,rfl⟩:=b;exact⟨a,d,rfl,(by first|exact c|rfl),(by first|exact e|rfl),rfl,h3⟩
theorem WR.step(x:kB G as o.guard)
  (h:∀F γ a w (b:Oper),bE P b=some o.ai->b.dst=o.dst->eG F γ as.hp w->bY F γ as.sl a->fZ F G->k<=γ.length->aN8 P k b o.dst a w F γ (fun as'=>WR P G k rest Q as')):
  WR P G k (o::rest) Q as:=by
 intro opsA l R F γ a w S J u T D I;obtain⟨b,M,rfl,N,O,h3,h4⟩:=oT R;refine wpList_step (fun K H=>?_)
 rw[(pC (b':=true) J O).1 x,if_pos rfl];unfold Oper.wp;rcases h F γ a w b N h3 S J u T with⟨V,v,w',as',F',γ',y,U,q,n,p,s,j⟩|⟨f,vs,y,t⟩
 have E:K (a.put b.dst v) w':=by
  rw[h3];exact H _ _ (q opsA M h4 F' γ' _ w' p s (u.sub n.sub) j D (fun i m g d c z A B C=>I i m g d c z (n.trans A) B C))
 rw[y];rcases U with rfl|⟨rfl,rfl⟩
 exact E;exact E;rw[y,Oper.upon_enter];refine t.mono ?_;rintro e w' ⟨r,as',F',γ',rfl,q,n,p,s,j⟩;show K (a.put b.dst r) w';rw[h3];exact H _ _ (q opsA M h4 F' γ' _ w' p s (u.sub n.sub) j D (fun i m g d c z A B C=>I i m g d c z (n.trans A) B C))
theorem WR.skip(b:Gf G as o.guard)(h:WR P G k rest Q ⟨aS as.sl o.dst (.tup []),as.hp⟩):WR P G k (o::rest) Q as:=by
 intro opsA l i F γ a w m c j n e p;obtain⟨d,q,rfl,r,f,h3,h4⟩:=oT i;refine wpList_step (fun K g=>?_)
 rw[(pC (b':=true) c f).2 b,if_neg (by simp),h3];exact g _ _ (h opsA q h4 F γ _ w m (c.put _ Q4) j n e p)
theorem WR.pur{v:AV}(b:kB G as o.guard)(g:dJ G as o.ai=some v)(h:WR P G k rest Q ⟨aS as.sl o.dst v,as.hp⟩):WR P G k (o::rest) Q as:=by
 refine WR.step b (fun F γ a w e f n c d i j=>?_)
 obtain⟨x,l,m⟩:=aDX f g c d i;exact .inl ⟨_,x,w,⟨aS as.sl o.dst v,as.hp⟩,F,γ,l,.inl rfl,h,iU.refl _ _ _ _,c,d.put _ m,j⟩
def AI.isPure:AI->Bool
 |.alloc _=>false
 |.box _=>false
 |.store _ _ _=>false
 |.bslc _ _ _ _=>false
 |.call _ _=>false
 |.callv _ _=>false
 |.app _ _ _ _ _=>false
 |.apps _ _=>false
 |.mk _ _ _ _ _=>false
 |.clr _ _ _=>false
 |.cpys _ _=>false
 |.cvsb _=>false
 |_=>true
def aDY(G:aE):L aO->AS->Option (L aO×AS)
 |[],as=>some ([],as)
 |o::rest,as=>
  match o.guard,o.ai.isPure with
  |none,true=>(dJ G as o.ai).bind fun v=>aDY G rest ⟨aS as.sl o.dst v,as.hp⟩
  |_,_=>some (o::rest,as)
theorem WR.run:∀(ops:L aO)(as:AS)(rest:L aO)(as':AS),aDY G ops as=some (rest,as')->WR P G k rest Q as'->WR P G k ops Q as
 |[],as,rest,as',h,a=>by simp[aDY] at h;obtain⟨rfl,rfl⟩:=h;exact a
 | o::ops,as,rest,as',h,a=>by
  simp only[aDY] at h;split at h
  ·rename_i e _;cases b:dJ G as o.ai with
   | none=>simp[b] at h
   | some v=>
    simp only[b,aZs] at h;exact WR.pur (by rw[e];trivial) b (WR.run ops _ rest as' h a)
  ·injection h with h;injection h with c d;subst c;subst d;exact a
def runG(G:aE)(g:Nat)(b:Bool):L aO->AS->Option (L aO×AS)
 |[],as=>some ([],as)
 |o::rest,as=>
  if o.guard=some (g,b)/\o.ai.isPure=true/\o.dst≠some g then (dJ G as o.ai).bind fun v=>runG G g b rest ⟨aS as.sl o.dst v,as.hp⟩
  else some (o::rest,as)
theorem qR{sl:L AV}{d:Option Nat}{v:AV}{g:Nat}(h:d≠some g):aM G (aS sl d v) (.t g)=aM G sl (.t g):=by
 cases d with
 |none=>rfl
 |some d=>
  have a:d≠g:=fun e=>h (by rw[e])
  simp only[aM,aS,aZo,aZw a]
theorem WR.runG{g:Nat}{b:Bool}:∀(ops:L aO)(as:AS)(rest:L aO)(as':AS),cP (aM G as.sl (.t g))=some b->runG G g b ops as=some (rest,as')->WR P G k rest Q as'->WR P G k ops Q as
 |[],as,rest,as',c,h,a=>by simp[Go.Proofs.YtalhnjjchkmfeabGreatDoor.runG] at h;obtain⟨rfl,rfl⟩:=h;exact a
 | o::ops,as,rest,as',c,h,a=>by
  simp only[Go.Proofs.YtalhnjjchkmfeabGreatDoor.runG] at h;split at h
  ·rename_i e;cases d:dJ G as o.ai with
   | none=>simp[d] at h
   | some v=>
    simp only[d,aZs] at h;exact WR.pur (by rw[e.1];exact c) d (WR.runG ops _ rest as' (by rw[qR e.2.2];exact c) h a)
  ·injection h with h;injection h with f i;subst f;subst i;exact a
def skipG(g:Nat)(b:Bool):L aO->AS->L aO×AS
 |[],as=>([],as)
 |o::rest,as=>
  if o.guard=some (g,b)/\o.dst≠some g then skipG g b rest ⟨aS as.sl o.dst (.tup []),as.hp⟩
  else (o::rest,as)
theorem WR.skipG{g:Nat}{b:Bool}:∀(ops:L aO)(as:AS)(rest:L aO)(as':AS),Gf G as (some (g,b))->skipG g b ops as=(rest,as')->WR P G k rest Q as'->WR P G k ops Q as
 |[],as,rest,as',c,h,a=>by simp[Go.Proofs.YtalhnjjchkmfeabGreatDoor.skipG] at h;obtain⟨rfl,rfl⟩:=h;exact a
 | o::ops,as,rest,as',c,h,a=>by
  simp only[Go.Proofs.YtalhnjjchkmfeabGreatDoor.skipG] at h;split at h
  ·rename_i d;exact WR.skip (by rw[d.1];exact c) (WR.skipG ops _ rest as' (by simp only[Gf];rw[qR d.2];exact c) h a)
  ·injection h with e f;subst e;subst f;exact a
end
end
section
def gT:AI->Nat
 |.alloc _=>1|.box _=>2|.store _ _ _=>3|.bslc _ _ _ _=>4|.call _ _=>5|.callv _ _=>6|.app _ _ _ _ _=>7|.apps _ _=>8|.mk _ _ _ _ _=>9|.clr _ _ _=>10|.isnil _ _ _=>11|.cpys _ _=>12|.cvsb _=>13|_=>0
def cK:Op->L Nat
 |.alloc _=>[1]|.box _ _=>[2]|.store _ _ _=>[3]|.buildSlice _ _ _=>[4]|.makeSlice _ _ _=>[9]|.binOp _ _ _ _ _=>[0,11]|.convert _ _ _=>[0,13]
 | .call c=>match c.callee with
  | .value (.func _)=>[5]
  | .value _=>[6]
  | .builtin .append=>[7,8]
  | .builtin .clear=>[10]
  | .builtin .copy=>[12]
  | _=>[0]
 |_=>[0]
theorem aI7{P:Program}{o:Oper}{f:AI}(c:bE P o=some f):gT f∈cK o.op:=by
 obtain⟨h,op,g,i,d,e⟩:=o;unfold bE at c;cases op
 case makeFunc fn a b=>
  cases fn<;>simp only[reduceCtorEq] at c;split at c;cases c;simp[cK,gT];cases c
 all_goals simp only[reduceCtorEq] at c
 all_goals try unfold pN at c
 all_goals try unfold mV at c
 all_goals try unfold nL at c
 all_goals try unfold fY at c
 all_goals repeat' (first|(obtain⟨_,_,c⟩:=c)|split at c|(simp only[aZT,Option.map_eq_some_iff] at c))
 all_goals first|(simp[cK,gT];done)|(simp[cK,gT, *];done)|contradiction|(cases c;done)|(simp[cK,gT, *];done)|(injection c with c;subst c;simp[cK,gT, *];done)|(subst c;simp[cK,gT, *];done)
theorem jA{P:Program}{o:Oper}{a:AI}{n:Nat}(b:bE P o=some a)(c:gT a=n):n∈cK o.op:=c ▸ aI7 b
theorem Q5{a:Op}(h:1∈cK a):∃e,a=.alloc e:=by
 cases a<;>first|(exact⟨_,rfl⟩)|(simp[cK] at h;done)|(simp only[cK] at h;repeat' split at h)<;>simp at h
theorem aN9{a:Op}(h:2∈cK a):∃e x,a=.box e x:=by
 cases a<;>first|(exact⟨_,_,rfl⟩)|(simp[cK] at h;done)|(simp only[cK] at h;repeat' split at h)<;>simp at h
theorem aDZ{a:Op}(h:3∈cK a):∃e x y,a=.store e x y:=by
 cases a<;>first|(exact⟨_,_,_,rfl⟩)|(simp[cK] at h;done)|(simp only[cK] at h;repeat' split at h)<;>simp at h
theorem Nw{a:Op}(h:4∈cK a):∃e x y,a=.buildSlice e x y:=by
 cases a<;>first|(exact⟨_,_,_,rfl⟩)|(simp[cK] at h;done)|(simp only[cK] at h;repeat' split at h)<;>simp at h
theorem aNd{a:Op}(h:9∈cK a):∃e x y,a=.makeSlice e x y:=by
 cases a<;>first|(exact⟨_,_,_,rfl⟩)|(simp[cK] at h;done)|(simp only[cK] at h;repeat' split at h)<;>simp at h
theorem aD0{a:Op}(h:11∈cK a):∃b t x y u,a=.binOp b t x y u:=by
 cases a<;>first|(exact⟨_,_,_,_,_,rfl⟩)|(simp[cK] at h;done)|(simp only[cK] at h;repeat' split at h)<;>simp at h
theorem aI8{a:Op}(h:13∈cK a):∃s d x,a=.convert s d x:=by
 cases a<;>first|(exact⟨_,_,_,rfl⟩)|(simp[cK] at h;done)|(simp only[cK] at h;repeat' split at h)<;>simp at h
theorem aI9{a:Op}(h:12∈cK a):∃c,a=.call c/\c.callee=.builtin .copy:=by
 cases a<;>first|(simp[cK] at h;done)|skip
 rename_i c;refine⟨c,rfl,?_⟩;simp only[cK] at h;split at h<;>simp_all
theorem aOa{a:Op}(h:10∈cK a):∃c,a=.call c/\c.callee=.builtin .clear:=by
 cases a<;>first|(simp[cK] at h;done)|skip
 rename_i c;refine⟨c,rfl,?_⟩;simp only[cK] at h;split at h<;>simp_all
theorem Nx{a:Op}(h:5∈cK a\/6∈cK a\/7∈cK a\/8∈cK a):∃c,a=.call c:=by
 cases a<;>first|(exact⟨_,rfl⟩)|(simp[cK] at h;done)
section
variable {P:Program}{G:aE}{k:Nat}{Q:AS->Prop}{as as':AS}{o:aO}{rest ops:L aO}{F:Fz}{γ:L OI}{w:World}
theorem RCs.ext{F':Fz}{γ':L OI}{cs:L aU}{vs:Array Value}(h:RCs F γ cs vs)(e:F.sub F')(d:∀(id:Nat)(o:OI),γ[id]?=some o->γ'[id]?=some o):RCs F' γ' cs vs:=
 ⟨h.1,fun i c v a b=>(h.2 i c v a b).ext e d⟩
theorem H5(d:eG F γ as.hp w){a:Act}(f:bY F γ as.sl a)(g:k<=γ.length){cs:L aU}{vs:Array Value}{T:TypeId}(h:RCs F γ cs vs)(c:Option Nat):iU k F γ w F (γ++[.box w.heap.size]) (fG w (.cells vs T))/\eG F (γ++[.box w.heap.size]) (as.hp++[.box cs]) (fG w (.cells vs T))/\ bY F (γ++[.box w.heap.size]) (aS as.sl c (.one (.ptr as.hp.length 0))) (a.put c (.pointer (some ⟨w.heap.size,0,none⟩)))/\k<=(γ++[OI.box w.heap.size]).length:=by
 have e:∀b,(OI.box w.heap.size).blk=some b->b=w.heap.size:=by intro b hb;simp[OI.blk] at hb;exact hb.symm
 refine⟨iU.push d _ _ e,eG.push d _ _ _ e ?_,?_,by simp;omega⟩;have:=h.ext (fun _ _ h=>h) (γ':=γ++[.box w.heap.size]) (fun _ _ h=>bX h)
 exact⟨vs,T,Ct,Nat.le_of_eq this.1.symm,this.2⟩;refine (f.ext (fun _ _ h=>h) (fun _ _ h=>bX h)).put c (.one _ _ (.ptr _ _ _ ?_))
 rw[<- d.len];simp
theorem WR.alloc{c:L Value}(n:kB G as o.guard)(A:o.ai=.alloc c) (h:WR P G k rest Q ⟨aS as.sl o.dst (.one (.ptr as.hp.length 0)),as.hp++[.box (c.map cN)]⟩):WR P G k (o::rest) Q as:=by
 refine WR.step n (fun F γ a w f b I B D J C=>?_)
 rw[A] at b;obtain⟨e,r⟩:=Q5 (jA b rfl);obtain⟨t,K,s,H,j,l⟩:=f;simp only at r;subst r;simp only[bE] at b;cases g:P.info? e with
 |none=>simp[g] at b
 | some i=>cases m:i.zero with
  | none=>simp[g,m] at b
  | some z=>
   simp only[g,m,aZs] at b;split at b
   ·rename_i d;injection b with b;injection b with b;subst b
    have q:RCs F γ (z.cells.toList.map cN) z.cells:=by
     have:=RCs.raw (F:=F) (γ:=γ) (vs:=z.cells.toList) (fun v E=>bAr.1 d v E)
     simpa using this
    obtain⟨u,x,y,p⟩:=H5 (T:=e) B D C q o.dst;refine .inl ⟨_,_,_,_,F,_, ?_,.inl rfl,h,u,x,y,p⟩;simp only[execOp,Instr.alloc,zeroValue,typeInfo,g,m,newVar,newRow,Sem.run_bind,run_program,Result.andThen_ok,Sem.run_pure,run_newObj,fG]
   ·cases b
theorem WR.box{x:aI}{cs:L aU}(g:kB G as o.guard)(s:o.ai=.box x)(A:cellsOf (aM G as.sl x)=some cs) (h:WR P G k rest Q ⟨aS as.sl o.dst (.one (.ptr as.hp.length 0)),as.hp++[.box cs]⟩):WR P G k (o::rest) Q as:=by
 refine WR.step g (fun F γ a w b c C u l t v=>?_)
 rw[s] at c;obtain⟨e,y,j⟩:=aN9 (jA c rfl);obtain⟨n,D,m,B,d,f⟩:=b;simp only at j;subst j;simp only[bE,Option.some.injEq,AI.box.injEq] at c;subst c;have z:=(dC l t y).cells A;obtain⟨p,q,r,i⟩:=H5 (T:=e) u l v z o.dst;refine .inl ⟨_,_,_,_,F,_,?_,.inl rfl,h,p,q,r,i⟩;simp only[execOp,Instr.box,newVar,newRow,Sem.run_bind,Result.andThen_ok,Sem.run_pure,run_newObj,fG]
theorem RCs.is1{cs:L aU}{vs:Array Value}(h:RCs F γ cs vs):∀v∈vs.toList,is1 v=true:=by
 intro v d;obtain⟨i,b⟩:=bAI d;have a:i<vs.size:=by have:=aJ b;simpa using this
 have c:cs[i]?=some (cs[i]'(h.1 ▸ a)):=aZi _;exact (h.2 i _ v c (by simpa using b)).is1
theorem sU(l:L Value):∀(k0:Nat)(vs:Array Value)(n q:Nat),(eO vs q l k0)[n]?=if q+k0<=n/\n<q+k0+l.length/\n<vs.size then l[n-(q+k0)]? else vs[n]?:=by
 induction l with
 |nil=>intro k0 vs n q;simp[eO];intro e b;omega
 |cons x l d=>
  intro k0 vs n q;simp only[eO,List.zipIdx_cons,List.foldl_cons];have b:=d (k0+1) (vs.setIfInBounds (q+k0) x) n q;simp only[eO] at b;rw[b];simp only[Array.size_setIfInBounds,aZb,Array.getElem?_setIfInBounds];by_cases c:n=q+k0;subst c;rw[if_neg (by omega)];by_cases a:q+k0<vs.size;rw[if_pos (by omega),if_pos a,if_pos (by omega)];simp;rw[if_pos (by omega),if_neg a,if_neg (by omega)];simp[Array.getElem?_eq_none (Nat.le_of_not_lt a)];rw[if_neg (show ¬ q+k0=n by omega)];by_cases a:q+(k0+1)<=n/\n<q+(k0+1)+l.length/\n<vs.size;rw[if_pos a,if_pos (by omega)];rw[show n-(q+k0)=(n-(q+(k0+1)))+1 by omega];simp;rw[if_neg a,if_neg (by omega)]
theorem uN{cs vs:L aU}{as bs:Array Value}{off:Nat}(m:cs.length<=as.size)(h:∀(i:Nat) c v,cs[i]?=some c->as[i]?=some v->RC F γ c v)(e:RCs F γ vs bs)(g:off+vs.length<=cs.length):(dB cs off vs).length<=(eO as off bs.toList).size/\∀(i:Nat) c v,(dB cs off vs)[i]?=some c->(eO as off bs.toList)[i]?=some v->RC F γ c v:=by
 have l:=e.1;refine⟨by rw[dZ];unfold dB;simp;omega,fun i c v a b=>?_⟩
 rw[sU] at b;unfold dB at a;simp only[aZY,bAH] at b;have d:min off cs.length=off:=by omega
 by_cases f:i<off;rw[if_neg (by omega)] at b;rw[aZr,aZv (by simp;omega),aZL,if_pos f] at a;exact h i c v a b;by_cases j:i<off+vs.length;rw[if_pos ⟨by omega,by omega,by omega⟩] at b;rw[aZr,aZD (by simp;omega),aZv (by simp;omega)] at a;simp only[aZd,d] at a;exact e.2 (i-off) c v a (by simpa using b);rw[if_neg (by omega)] at b;rw[aZD (by simp;omega)] at a;simp only[aZa,aZd,d,aZK] at a;rw[show off+vs.length+(i-(off+vs.length))=i by omega] at a;exact h i c v a b
theorem aBh(cs:L aU)(off:Nat):dB cs off []=cs:=by simp[dB]
theorem L1{a:Oper}{size:Nat}{x v:aI}(b:bE P a=some (.store size x v)):∃t c ov,a.op=.store t c ov/\dL P t=some size/\x=aW c/\v=aW ov:=by
 obtain⟨t,c,ov,g⟩:=aDZ (jA b rfl);obtain⟨i,l,h,j,d,e⟩:=a;simp only at g;subst g;simp only[bE] at b;cases f:dL P t with
 |none=>simp[f] at b
 |some s=>
  simp only[f,aZf,Option.some.injEq,AI.store.injEq] at b;obtain⟨rfl,rfl,rfl⟩:=b;exact⟨t,c,ov,rfl,f,rfl,rfl⟩
theorem WR.store{size id off:Nat}{x v:aI}{cs vs:L aU}(A:kB G as o.guard)(V:o.ai=.store size x v)(z:o.dst=none) (Z:aM G as.sl x=.one (.ptr id off)) (Y:cellsOf (aM G as.sl v)=some vs) (I:aL as.hp id=.box cs) (D:vs.length=size) (X:off+size<=cs.length) (h:WR P G k rest Q ⟨as.sl,as.hp.set id (.box (dB cs off vs))⟩):WR P G k (o::rest) Q as:=by
 refine WR.step A (fun F γ a w n J hd q B M W=>?_)
 rw[V] at J;obtain⟨t,O,p,K,C,rfl,rfl⟩:=L1 J;have g:=dC (G:=G) B M O;rw[Z] at g;generalize u:a.eval O=ax at g;cases g with|one c _ y=>cases y with|ptr _ _ b f=>
 have d:=(dC B M p).cells Y;obtain⟨ws,T,N,H,E⟩:=q.box I f;have e:(a.eval p).cells.size=size:=by rw[d.1,D]
 have l:=rO (P:=P) (off:=off) N (by rw[e];exact C) d.is1 (by rw[e];omega);obtain⟨S,op,R,pos,r,s⟩:=n;simp only at K;subst K;refine .inl ⟨.skip,undef,if (a.eval p).cells.toList=[] then w else setB w b (eO ws off (a.eval p).cells.toList) T,_,F,γ,?_,.inr ⟨rfl,rfl⟩,h,?_,?_,?_,W⟩
 simp only[execOp,u,Sem.run_bind,l,Result.andThen_ok,Sem.run_pure];split;exact iU.refl _ _ _ _;exact iU.setB q f rfl;split;rename_i U;have:vs=[]:=by
  have h1:=d.1;have h2:(a.eval p).cells.size=0:=by rw[<- bAH,U];rfl
  exact bAk (by omega)
 subst this;rw[aBh];have m:as.hp.set id (.box cs)=as.hp:=by
  apply List.ext_getElem?;intro i;by_cases j:id=i;subst j;have:=fK I (by simp);rw[aZH (aJ this),this];rw[aZw j]
 rw[m];exact q;refine q.setObj f rfl ?_;have:=uN (off:=off) H E d (by omega);exact⟨_,T,lQ N (dZ _ _ _ _),this.1,this.2⟩;rw[z];exact B
def oR:L DC->L aU:=List.map .dc
theorem WR.storeE{size id i s off cap:Nat}{x v:aI}{es:L (L DC)}{e ds K:L DC}(hgd:kB G as o.guard)(ha:o.ai=.store size x v)(hd0:o.dst=none) (hx:aM G as.sl x=.one (.ept id i s off)) (hv:cellsOf (aM G as.sl v)=some (oR ds)) (hb:aL as.hp id=.arr cap s es) (N:es[i]?=some e) (X:ds.length=size) (hle:off+size<=e.length) (A:K=e.take off++ds++e.drop (off+size)) (h:WR P G k rest Q ⟨as.sl,as.hp.set id (.arr cap s (es.set i K))⟩):WR P G k (o::rest) Q as:=by
 refine WR.step hgd (fun F γ a w Z hc hd hi hs hg hk=>?_)
 rw[ha] at hc;obtain⟨t,ox,I,U,hst,rfl,rfl⟩:=L1 hc;have E:=dC (G:=G) hs hg ox;rw[hx] at E;generalize hax:a.eval ox=ax at E;cases E with|one c _ hcc=>cases hcc with|ept _ _ _ _ b cap' C=>
 have D:=(dC hs hg I).cells hv;obtain⟨M,hec,B,ws,T,hh,Y,H⟩:=hi.arr hb C;have hel:e.length=s:=B e (aZE N);have S:=aJ N;have r:(a.eval I).cells.size=size:=by rw[D.1,oR,aY9,X]
 have O:i*s+off+size<=ws.size:=by
  rw[Y];have f:(i+1)*s<=cap*s:=bAj s (by omega);rw[aZV] at f;omega
 have V:=rO (P:=P) (off:=i*s+off) hh (by rw[r];exact hst) D.is1 (by rw[r];exact O);have p:K.length=s:=by rw[A];simp;omega
 have hok:∀u:Array Value,u.size=ws.size->(∀(n:Nat),u[n]?=if i*s+off<=n/\n<i*s+off+size then (a.eval I).cells[n-(i*s+off)]? else ws[n]?)->
   ∀(z j:Nat) y d v,(es.set i K)[z]?=some y->y[j]?=some d->u[z*s+j]?=some v->RD F d v:=by
  intro u hsz1 R z j y d v f g h3;rw[R] at h3;by_cases m:i=z;subst m;rw[aZH S] at f;injection f with f;subst f
  have hj:j<s:=p ▸ aJ g;subst A;by_cases hj1:j<off;rw[if_neg (by omega)] at h3;rw[aZr,aZv (by simp;omega),aZL,if_pos hj1] at g;exact H i j e d v N g h3;by_cases hj2:j<off+size;rw[if_pos (by omega)] at h3;rw[aZr,aZD (by simp;omega),aZv (by simp;omega)] at g;have y:min off e.length=off:=by omega
  simp only[aZd,y] at g;rw[show i*s+j-(i*s+off)=j-off by omega] at h3;have:=D.2 (j-off) (.dc d) v (by simp[oR,g]) h3;cases this with|dc _ _ h=>exact h
  rw[if_neg (by omega)] at h3;have y:min off e.length=off:=by omega
  rw[aZD (by simp;omega)] at g;simp only[aZa,aZd,y,aZK,X] at g;rw[show off+size+(j-(off+size))=j by omega] at g;exact H i j e d v N g h3;rw[aZw m] at f;have hj:j<s:=by have:=B _ (aZE f);have:=aJ g;omega
  rw[if_neg (by
   rintro⟨a1,a2⟩;rcases Nat.lt_trichotomy i z with c | c | c
   ·have:=bAj s (show i+1<=z by omega);rw[aZV] at this;omega
   ·exact m c
   ·have:=bAj s (show z+1<=i by omega);rw[aZV] at this;omega)] at h3
  exact H z j y d v f g h3
 obtain⟨dst,op,type,pos,after,guard⟩:=Z;simp only at U;subst U;have hsp:∀(l:L Value)(k0:Nat)(vs:Array Value)(n q:Nat),(eO vs q l k0)[n]?=if q+k0<=n/\n<q+k0+l.length/\n<vs.size then l[n-(q+k0)]? else vs[n]?:=by
  intro l
  induction l with
  |nil=>intro k0 vs n q;simp[eO];intro f g;omega
  |cons x l ih=>
   intro k0 vs n q;simp only[eO,List.zipIdx_cons,List.foldl_cons];have g:=ih (k0+1) (vs.setIfInBounds (q+k0) x) n q;simp only[eO] at g;rw[g];simp only[Array.size_setIfInBounds,aZb,Array.getElem?_setIfInBounds];by_cases c1:n=q+k0;subst c1;rw[if_neg (by omega)];by_cases J:q+k0<vs.size;rw[if_pos (by omega),if_pos J,if_pos (by omega)];simp;rw[if_pos (by omega),if_neg J,if_neg (by omega)];simp[Array.getElem?_eq_none (Nat.le_of_not_lt J)];rw[if_neg (show ¬ q+k0=n by omega)];by_cases J:q+(k0+1)<=n/\n<q+(k0+1)+l.length/\n<vs.size;rw[if_pos J,if_pos (by omega)];rw[show n-(q+k0)=(n-(q+(k0+1)))+1 by omega];simp;rw[if_neg J,if_neg (by omega)]
 have hn0:¬ ((a.eval I).cells.toList=[]/\size≠0):=by
  rintro⟨f,g⟩;have:(a.eval I).cells.size=0:=by rw[<- bAH,f];rfl
  omega
 refine .inl ⟨.skip,undef,if (a.eval I).cells.toList=[] then w else setB w b (eO ws (i*s+off) (a.eval I).cells.toList) T,_,F,γ,?_,.inr ⟨rfl,rfl⟩,h,?_,?_,?_,hk⟩
 simp only[execOp,hax,Sem.run_bind,V,Result.andThen_ok,Sem.run_pure];split;exact iU.refl _ _ _ _;exact iU.setB hi C rfl;split;rename_i h0;have hs0:size=0:=by
  rcases Nat.eq_zero_or_pos size with h|h;exact h;exact absurd ⟨h0,by omega⟩ hn0
 have hds:ds=[]:=bAk (by omega);have hee:K=e:=by rw[A,hds,hs0];simp
 have f:es.set i K=es:=by
  apply List.ext_getElem?;intro n;by_cases hn:i=n;subst hn;rw[aZH S,N,hee];rw[aZw hn]
 rw[f];have W:as.hp.set id (.arr cap s es)=as.hp:=by
  apply List.ext_getElem?;intro i;by_cases m:id=i;subst m;have:=fK hb (by simp);rw[aZH (aJ this),this];rw[aZw m]
 rw[W];exact hi;refine hi.setObj C rfl ⟨M,by simpa using hec,fun x hx=>?_,_,T,lQ hh (dZ _ _ _ _),by rw[dZ,Y],hok _ (dZ _ _ _ _) (fun n=>?_)⟩
 rcases List.mem_or_eq_of_mem_set hx with f|f;exact B x f;rw[f];exact p;rw[hsp];simp only[aZY,bAH,r,bAe];by_cases c:i*s+off<=n/\n<i*s+off+size;rw[if_pos ⟨c.1,c.2,by omega⟩,if_pos c]
 rw[if_neg (fun c'=>c ⟨c'.1,c'.2.1⟩),if_neg c]
 rw[hd0];exact hs
end
end
section
section
variable {P:Program}{G:aE}{k:Nat}{Q:AS->Prop}{as as':AS}{o:aO}{rest ops:L aO}{F:Fz}{γ:L OI}{w:World}
theorem uO{α:Type}{size:Nat}:∀(es:L (L α)),(∀e∈es,e.length=size)->∀(i j:Nat) e d,es[i]?=some e->e[j]?=some d->es.flatten[i*size+j]?=some d
 |[],_,i,j,e,d,h,_=>by simp at h
 | x::es,b,i,j,e,d,h,a=>by
  have f:x.length=size:=b x (aZt);cases i with
  | zero=>
   simp at h;subst h;simp only[aZ7,Nat.zero_mul,aZ0];rw[aZv (aJ a)];exact a
  | succ i=>
   simp only[aZ7];rw[aZD (by grind),f];rw[show (i+1) * size+j - size=i * size+j by grind];exact uO es (fun e c=>b e (aZB _ c)) i j e d (by grind) a
theorem uP{α:Type}{size:Nat}:∀(es:L (L α)),(∀e∈es,e.length=size)->es.flatten.length=es.length*size
 |[],_=>by simp
 | x::es,a=>by
  simp only[aZ7,aZa,aZb,a x (aZt),uP es (fun e b=>a e (aZB _ b)),aZV]
  omega
theorem Q6(l:eG F γ as.hp w){a:Act}(r:bY F γ as.sl a)(s:k<=γ.length){cap size n:Nat}{es:L (L DC)}{vs:Array Value}{T:TypeId}(g:∀e∈es,e.length=size) (f:es.length<=cap) (m:vs.size=cap*size) (q:∀(i j:Nat) e d v,es[i]?=some e->e[j]?=some d->vs[i*size+j]?=some v->RD F d v) (c:Option Nat):iU k F γ w F (γ++[.arr (some w.heap.size) cap]) (fG w (.cells vs T))/\eG F (γ++[.arr (some w.heap.size) cap]) (as.hp++[.arr cap size es]) (fG w (.cells vs T))/\ bY F (γ++[.arr (some w.heap.size) cap]) (aS as.sl c (.one (.bld as.hp.length n))) (a.put c (.slice (some ⟨w.heap.size,0,none⟩) n cap))/\k<=(γ++[OI.arr (some w.heap.size) cap]).length:=by
 have p:∀b,(OI.arr (some w.heap.size) cap).blk=some b->b=w.heap.size:=by grind[OI.blk]
 refine⟨iU.push l _ _ p,eG.push l _ _ _ p ?_,?_,by grind⟩;exact⟨rfl,f,g,vs,T,Ct,m,q⟩;refine (r.ext (fun _ _ h=>h) (fun _ _ h=>bX h)).put c (.one _ _ (.bld _ _ _ _ ?_))
 rw[<- l.len];simp
theorem H6(z:L Value)(n:Nat)(h:0<z.length)(f:∀v∈z,is1 v=true):RCs F γ ((List.range n).map fun i=>cN (z.getD (i % z.length) undef)) ((Array.range n).map (z.toArray[· % z.toArray.size]!)):=by
 refine⟨by simp,fun i c v b g=>?_⟩
 simp only[aZj] at b;have e:i<n:=by
  grind
 rw[bAx e] at b;simp at b;subst b;simp[e] at g;have a:i % z.length<z.length:=Nat.mod_lt _ h;have d:z[i % z.length]=v:=by simp_all
 subst d;rw[show z[i % z.length]?.getD undef=z[i % z.length] by simp[a]];exact .dc _ _ (.raw _ (f _ (aZk a)))
theorem WR.bslc{size len:Nat}{l:L Value}{g:L (Nat×aI)}{es:L (L DC)}(O:kB G as o.guard)(ha:o.ai=.bslc size len l g)
  (hf:iV ((List.range (len*size)).map fun i=>cN (l.getD (i % l.length) undef)) (g.map fun (j,x)=>(j*size,size,aM G as.sl x))=some (oR es.flatten))
  (p:∀e∈es,e.length=size) (y:es.length=len)
  (h:WR P G k rest Q ⟨aS as.sl o.dst (.one (.bld as.hp.length len)),as.hp++[.arr len size es]⟩):WR P G k (o::rest) Q as:=by
 refine WR.step O (fun F γ a w C f hd hi hs hg hk=>?_)
 rw[ha] at f;obtain⟨t,b,D,A⟩:=Nw (jA f rfl);obtain⟨dst,op,type,pos,H,J⟩:=C;simp only at A;subst A;simp only[bE] at f;split at f;rename_i e hu;cases u:P.info? e with
 |none=>simp[u] at f
 | some i=>cases K:i.zero with
  | none=>simp[u,K] at f
  | some z=>
   simp only[u,K,aZs] at f;split at f
   ·rename_i m;obtain⟨hc1,M,hc3,N⟩:=m;injection f with f;injection f with e1 e2 e3 e4
    subst e1;subst e2;subst e3;subst e4;have hzl:z.cells.toList.length=i.size:=by simpa using M
    have hz:RCs F γ ((List.range (b * i.size)).map fun n=>cN (z.cells.toList.getD (n % z.cells.toList.length) undef)) ((Array.range (b * i.size)).map (z.cells[· % z.cells.size]!)):=by
     have:=H6 (F:=F) (γ:=γ) z.cells.toList (b * i.size) (by omega) (fun v hv=>bAr.1 N v hv)
     have I:z.cells.toList.toArray=z.cells:=by simp
     rw[I] at this;exact this
    obtain⟨r,V,B⟩:=Cr (place:=fun j=>some (j * i.size,i.size)) _ (D.toList.map fun (j,x)=>(j,a.eval x)) _ _ _ hz hf (by simp) (fun n o s av j x E R=>by
     simp only[aZG,aZj] at E R;cases hp:D.toList[n]? with
     | none=>simp[hp] at E
     | some q=>
      obtain⟨j',x'⟩:=q;simp[hp] at E R;obtain⟨rfl,rfl,rfl⟩:=E;obtain⟨rfl,rfl⟩:=R;exact⟨rfl,dC hs hg x'⟩)
    have X:r.size=b * i.size:=by rw[B.1,oR,aY9,uP es p,y]
    have W:∀ (n j:Nat) e d v,es[n]?=some e->e[j]?=some d->r[n * i.size+j]?=some v->RD F d v:=by
     intro n j e d v h3 h4 h5;have:=B.2 (n * i.size+j) (.dc d) v (by show (List.map aU.dc es.flatten)[n * i.size+j]?=_;rw[aZj,uO es p n j e d h3 h4];rfl) h5;cases this with | dc _ _ h=>exact h
    obtain⟨hE,hI,hS,S⟩:=Q6 (T:=e) (n:=b) hi hs hk p (by omega) X W o.dst;refine .inl ⟨_,_,_,_,F,_, ?_,.inl rfl,h,hE,hI,hS,S⟩;have U:¬ (b * i.size > 2 ^ 24):=by omega
    have c:Instr.fill (fun j=>some (j * i.size,i.size)) ((Array.range (b * i.size)).map ((if b * i.size=0 then #[] else z.cells)[· % (if b * i.size=0 then #[] else z.cells).size]!)) (D.map fun (j,x)=>(j,a.eval x)).toList=some r:=by
     have I:(D.map fun (j,x)=>(j,a.eval x)).toList=D.toList.map fun (j,x)=>(j,a.eval x):=by simp
     rw[I,<- V];congr 1;split
     ·simp_all
     ·rfl
    have Y:(zeroValue e).run P w=.ok z w:=by simp[zeroValue,typeInfo,u,K]
    simp only[execOp,Instr.buildSlice,run_underlying hu,Sem.run_bind,Result.andThen_ok,sizeOf,typeInfo,run_program,u,Sem.run_pure,Sem.run_ite,if_neg U,Y];by_cases Z:b * i.size=0
    ·simp only[if_pos Z] at c ⊢;simp only[c,Sem.run_bind,Result.andThen_ok,Sem.run_pure,newRow,run_newObj,fG]
    ·simp only[if_neg Z] at c ⊢;simp only[c,Sem.run_bind,Result.andThen_ok,Sem.run_pure,newRow,run_newObj,fG]
   ·cases f
 cases f
theorem Yn{t u ty e:TypeId}{v:TypeDesc}{i:TypeInfo}{z:Value}(I:P.underlying t=some (.slice e))(r:P.underlying u=some v)(d:v=.slice e\/v=.string)(D:P.info? e=some i)(T:i.zero=some z)(y:0<i.bytes) {A:Option Addr}{n cap m:Nat}{x:Value} (h b:L Value) (O:(Builtin.firstCells i.size n (.slice A n cap)).run P w=.ok h.toArray w) (J:∀w',w'.heap=w.heap->(Builtin.firstCells i.size m x).run P w'=.ok b.toArray w') (g:(Builtin.lenOf x).run P w=.ok m w) (q:(n+m)*i.bytes<=140737488355328) (f:(Builtin.firstCells i.size n (.slice A n cap)).run P (w.drew)=.ok h.toArray (w.drew)):
  (n+m<=cap->(Builtin.append_ #[t,u] ty #[.slice A n cap,x]).run P w=(match A with|some a=>(storeCells (a.add (n*i.size)) b).run P w|none=>.ok () w).andThen fun _ w'=>.ok (.slice A (n+m) cap) w')/\
  (¬ n+m<=cap->∃c rest,n+m<=c/\rest.length=(c-(n+m))*z.cells.size/\(Builtin.append_ #[t,u] ty #[.slice A n cap,x]).run P w=.ok (.slice (some ⟨w.heap.size,0,none⟩) (n+m) c) (fG (w.drew) (.cells (h++b++rest).toArray e))):=by
 have s:(match (#[t,u]:Array TypeId)[1]? with
  | some j=>do pure ((<- underlying j) matches .int _)
  | none=>pure false:Sem Bool).run P w=.ok false w:=by
  rcases d with rfl | rfl<;>simp[run_underlying r]
 have S:n+m<=140737488355328:=Nat.le_trans (Nat.le_mul_of_pos_right _ y) q;refine⟨fun p=>?_,fun C=>?_⟩
 cases A with
 |none=>
  simp only[Builtin.append_];rcases d with rfl|rfl<;>simp[run_underlying I,run_underlying r,sizeOf,typeInfo,D,g,p,J w rfl]
 |some a=>
  simp only[Builtin.append_];rcases d with rfl|rfl<;>simp[run_underlying I,run_underlying r,sizeOf,typeInfo,D,g,p,J w rfl]
 ·have l:cap<n+m:=by omega
  have B:=growslice_fits (bytes:=i.bytes) l q;have N:¬ ((n:Int)+(m:Int) > IntKind.i64.max):=by rw[aDL];omega
  refine⟨n+m+w.tape w.drawn (.appendCap (n+m) cap e) % (2 ^ 63-(n+m)),(Builtin.zeroCells z.cells (n+m+w.tape w.drawn (.appendCap (n+m) cap e) % (2 ^ 63-(n+m))-(n+m))).toList,by omega,by simp[Builtin.zeroCells],?_⟩;simp only[Builtin.append_];have K:=J (w.drew) rfl;have H:¬ (281474976710656<Builtin.nextslicecap (n+m) cap*i.bytes):=by omega
  have R:(choose (.appendCap (n+m) cap e)).run P w=.ok (n+m+w.tape w.drawn (.appendCap (n+m) cap e) % (2 ^ 63-(n+m))) (w.drew):=rfl;have E:¬ (9223372036854775807<(n:Int)+(m:Int)/\i.bytes=0):=by omega
  have M:∀w',(zeroValue e).run P w'=.ok z w':=fun w'=>by simp_all[zeroValue,typeInfo]
  rcases d with rfl|rfl;all_goals
   simp[run_underlying I,run_underlying r,sizeOf,typeInfo,D,g,C];rw[if_neg E,if_neg H];simp[Question.forced,f,K,M,newRow,Question.cut];refine congrArg (fun c=>World.alloc w.drew (Obj.cells c e)) ?_
   simp_all
theorem aJa{z:L Value}{n:Nat}{size cap:Nat}(h:z.length=size)(f:∀v∈z,is1 v=true):∀(i j:Nat) e d v,(List.replicate n (z.map DC.raw))[i]?=some e->e[j]?=some d-> ((Array.range (cap*size)).map (z.toArray[· % z.toArray.size]!))[i*size+j]?=some v->RD F d v:=by
 intro i j e d v a h3 h4;rw[bAf] at a;split at a;injection a with a;subst a
 rw[aZj] at h3;obtain⟨x,h5,rfl⟩:=Option.map_eq_some_iff.1 h3;have g:j<size:=by grind
 have b:i*size+j<cap*size:=by
  grind
 simp[b] at h4;have c:(i*size+j) % z.length=j:=by grind[Nat.mul_comm,Nat.mul_add_mod,Nat.mod_eq_of_lt]
 rw[c,h5] at h4;simp at h4;subst h4;exact .raw _ (f _ (aZE h5));grind
theorem Bp{n:Nat}(h:n<=140737488355328):IntKind.i64.wrap (n:Int)=n:=by rw[IntKind.wrap_i64];omega
theorem WR.mk{size bytes:Nat}{d:L Value}{l c:aI}{n m:Nat}(C:kB G as o.guard)(ha:o.ai=.mk size bytes d l c) (hl:bH (aM G as.sl l)=some (n:Int)) (hm:bH (aM G as.sl c)=some (m:Int)) (hnm:n<=m) (hb:m*bytes<=140737488355328) (h:WR P G k rest Q ⟨aS as.sl o.dst (.one (.bld as.hp.length n)),as.hp++[.arr m size (List.replicate n (d.map DC.raw))]⟩):WR P G k (o::rest) Q as:=by
 refine WR.step C (fun F γ a w q b hd hi I R hk=>?_)
 rw[ha] at b;obtain⟨t,lo,U,j⟩:=aNd (jA b rfl);obtain⟨V,op,S,pos,s,u⟩:=q;simp only at j;subst j;simp only[bE] at b;split at b;rename_i e hu;cases r:P.info? e with
 |none=>simp_all
 | some i=>cases O:i.zero with
  | none=>simp_all
  | some z=>
   simp only[r,O,aZs] at b;split at b
   ·rename_i f;obtain⟨hc1,A,hc3,B⟩:=f;injection b with b;injection b with X Y Z e4 e5
    subst X;subst Y;subst Z;subst e4;subst e5;have M:z.cells.toList.length=i.size:=by omega
    have K:∀ v∈z.cells.toList,is1 v=true:=fun v hv=>bAr.1 B v hv
    obtain⟨k1,E⟩:=rB (dC I R lo) hl;obtain⟨k2,H⟩:=rB (dC I R U) hm;have hm':m<=140737488355328:=Nat.le_trans (Nat.le_mul_of_pos_right _ A) hb;have J:((Array.range (m * i.size)).map (z.cells[· % z.cells.size]!)).size=m * i.size:=by simp
    have p:=aJa (F:=F) (n:=n) (cap:=m) M K;have W:z.cells.toList.toArray=z.cells:=by simp
    rw[W] at p;obtain⟨hE,hI,hS,D⟩:=Q6 (T:=e) (n:=n) (cap:=m) (size:=i.size) (es:=List.replicate n (z.cells.toList.map DC.raw)) hi I hk
     (fun e he=>by simp_all) (by simp_all) J p o.dst
    refine .inl ⟨_,_,_,_,F,_, ?_,.inl rfl,h,hE,hI,hS,D⟩;have w1:IntKind.i64.wrap (n:Int)=n:=Bp (by omega);have w2:IntKind.i64.wrap (m:Int)=m:=Bp (by omega);have N:(zeroValue e).run P w=.ok z w:=by simp[zeroValue,typeInfo,r,O]
    have y:¬ ((i.bytes:Int) * (m:Int) > 2 ^ 48):=by
     grind
    have g:¬ (m * i.bytes > roomBytes):=by grind[roomBytes]
    have n1:¬ ((m:Int) < 0):=by omega
    have n2:¬ ((n:Int) < 0):=by omega
    have n3:¬ ((n:Int) > (m:Int)):=by omega
    simp only[execOp,Instr.makeSlice,run_underlying hu,Sem.run_bind,Result.andThen_ok,E,H,asInt,asIntOf,Sem.run_pure];simp only[typeInfo,run_program,Sem.run_bind,Result.andThen_ok,r,Sem.run_pure,w1,w2];simp only[n1,n2,n3,y,decide_false,Bool.or_self,bAq,if_false,aZy,askRoom,if_neg g,Sem.run_bind,Result.andThen_ok,Sem.run_pure,sizeOf,typeInfo,run_program,r];by_cases x:m * i.size=0
    ·simp only[if_pos x,Sem.run_bind,Result.andThen_ok,Sem.run_pure,newRow,run_newObj,fG,x,if_true]
     grind
    ·simp only[if_neg x,Sem.run_bind,Result.andThen_ok,Sem.run_pure,newRow,run_newObj,fG,N]
   grind
 grind
theorem L2(e:eG F γ as.hp w){a:Act}(l:bY F γ as.sl a)(i:k<=γ.length){cs:L aU}{vs:Array Value}{T:TypeId}{n c:Nat}(h:RCs F γ cs vs)(j:n<=c)(b:Option Nat):iU k F γ w F (γ++[.box w.heap.size]) (fG w (.cells vs T))/\eG F (γ++[.box w.heap.size]) (as.hp++[.box cs]) (fG w (.cells vs T))/\ bY F (γ++[.box w.heap.size]) (aS as.sl b (.one (.bls as.hp.length 0 n 1))) (a.put b (.slice (some ⟨w.heap.size,0,none⟩) n c))/\k<=(γ++[OI.box w.heap.size]).length:=by
 obtain⟨f,g,h3,h4⟩:=H5 e l i h (T:=T) none;have d:bY F (γ++[.box w.heap.size]) as.sl a:=h3;exact⟨f,g,d.put _ (.one _ _ (.bls _ _ _ _ _ 0 _ _ (.inr (by rw[<- e.len];simp)) (fun _=>by simp) j)),h4⟩
theorem WR.mkB{bytes:Nat}{v0:Value}{l c:aI}{n m:Nat}(B:kB G as o.guard)(ha:o.ai=.mk 1 bytes [v0] l c) (hl:bH (aM G as.sl l)=some (n:Int)) (hm:bH (aM G as.sl c)=some (m:Int)) (H:n<=m) (hb:m*bytes<=140737488355328) (h:WR P G k rest Q ⟨aS as.sl o.dst (.one (.bls as.hp.length 0 n 1)),as.hp++[.box (List.replicate m (cN v0))]⟩):WR P G k (o::rest) Q as:=by
 refine WR.step B (fun F γ a w p d hd hi J R hk=>?_)
 rw[ha] at d;obtain⟨t,lo,V,j⟩:=aNd (jA d rfl);obtain⟨W,op,U,pos,r,s⟩:=p;simp only at j;subst j;simp only[bE] at d;split at d;rename_i e hu;cases b:P.info? e with
 |none=>simp_all
 | some i=>cases O:i.zero with
  | none=>simp_all
  | some z=>
   simp only[b,O,aZs] at d;split at d
   ·rename_i f;obtain⟨hc1,y,hc3,A⟩:=f;injection d with d;injection d with X Y e3 Z e5
    subst Y;subst Z;subst e5;have hzl:z.cells.toList.length=i.size:=by omega
    have M:∀ v∈z.cells.toList,is1 v=true:=fun v hv=>bAr.1 A v hv
    obtain⟨k1,D⟩:=rB (dC J R lo) hl;obtain⟨k2,E⟩:=rB (dC J R V) hm;have hm':m<=140737488355328:=Nat.le_trans (Nat.le_mul_of_pos_right _ y) hb;have hvs:((Array.range (m * i.size)).map (z.cells[· % z.cells.size]!)).size=m * i.size:=by simp
    have hz0:z.cells[0]?=some v0:=by grind
    have K:is1 v0=true:=M v0 (by grind);have I:RCs F γ (List.replicate m (cN v0)) ((Array.range (m * i.size)).map (z.cells[· % z.cells.size]!)):=by
     refine⟨by simp[X],fun q c v b O=>?_⟩
     rw[bAf] at b;split at b
     ·rename_i hq;injection b with b;subst b
      have S:z.cells.size=1:=by omega
      have:v=v0:=by
       grind
      subst this;exact .dc _ _ (.raw _ K)
     grind
    obtain⟨hE,hI,hS,C⟩:=L2 (T:=e) (n:=n) (c:=m) hi J hk I H o.dst;refine .inl ⟨_,_,_,_,F,_, ?_,.inl rfl,h,hE,hI,hS,C⟩;have w1:IntKind.i64.wrap (n:Int)=n:=Bp (by omega);have w2:IntKind.i64.wrap (m:Int)=m:=Bp (by omega);have N:(zeroValue e).run P w=.ok z w:=by simp_all[zeroValue,typeInfo]
    have x:¬ ((i.bytes:Int) * (m:Int) > 2 ^ 48):=by
     grind
    have g:¬ (m * i.bytes > roomBytes):=by grind[roomBytes]
    have n1:¬ ((m:Int) < 0):=by omega
    have n2:¬ ((n:Int) < 0):=by omega
    have n3:¬ ((n:Int) > (m:Int)):=by omega
    simp only[execOp,Instr.makeSlice,run_underlying hu,Sem.run_bind,Result.andThen_ok,D,E,asInt,asIntOf,Sem.run_pure];simp only[typeInfo,run_program,Sem.run_bind,Result.andThen_ok,b,Sem.run_pure,w1,w2];simp only[n1,n2,n3,x,decide_false,Bool.or_self,bAq,if_false,aZy,askRoom,if_neg g,Sem.run_bind,Result.andThen_ok,Sem.run_pure,sizeOf,typeInfo,run_program,b];by_cases u:m * i.size=0
    ·simp only[if_pos u,Sem.run_bind,Result.andThen_ok,Sem.run_pure,newRow,run_newObj,fG,u,if_true]
     grind
    ·simp only[if_neg u,Sem.run_bind,Result.andThen_ok,Sem.run_pure,newRow,run_newObj,fG,N]
   grind
 grind
theorem WR.bslcB{size len:Nat}{l:L Value}{g:L (Nat×aI)}{cs:L aU}(K:kB G as o.guard)(ha:o.ai=.bslc size len l g)(h11:size=1)
  (hf:iV ((List.range (len*size)).map fun i=>cN (l.getD (i % l.length) undef)) (g.map fun (j,x)=>(j*size,size,aM G as.sl x))=some cs)
  (h:WR P G k rest Q ⟨aS as.sl o.dst (.one (.bls as.hp.length 0 len 1)),as.hp++[.box cs]⟩):WR P G k (o::rest) Q as:=by
 refine WR.step K (fun F γ a w y f hd hi W hg hk=>?_)
 rw[ha] at f;obtain⟨t,b,A,u⟩:=Nw (jA f rfl);obtain⟨Y,op,X,pos,C,E⟩:=y;simp only at u;subst u;simp only[bE] at f;split at f;rename_i e hu;cases p:P.info? e with
 |none=>simp[p] at f
 | some i=>cases H:i.zero with
  | none=>simp[p,H] at f
  | some z=>
   simp only[p,H,aZs] at f;split at f
   ·rename_i m;obtain⟨hc1,I,hc3,J⟩:=m;injection f with f;injection f with Z e2 e3 e4
    subst Z;subst e2;subst e3;subst e4;have hzl:z.cells.toList.length=i.size:=by simpa using I
    have hz:RCs F γ ((List.range (b * i.size)).map fun n=>cN (z.cells.toList.getD (n % z.cells.toList.length) undef)) ((Array.range (b * i.size)).map (z.cells[· % z.cells.size]!)):=by
     have:=H6 (F:=F) (γ:=γ) z.cells.toList (b * i.size) (by omega) (fun v hv=>bAr.1 J v hv)
     have D:z.cells.toList.toArray=z.cells:=by simp
     rw[D] at this;exact this
    obtain⟨r,R,S⟩:=Cr (place:=fun j=>some (j * i.size,i.size)) _ (A.toList.map fun (j,x)=>(j,a.eval x)) _ _ _ hz hf (by simp) (fun n o s av j x B M=>by
     simp only[aZG,aZj] at B M;cases hp:A.toList[n]? with
     | none=>simp[hp] at B
     | some q=>
      obtain⟨j',x'⟩:=q;simp[hp] at B M;obtain⟨rfl,rfl,rfl⟩:=B;obtain⟨rfl,rfl⟩:=M;exact⟨rfl,dC W hg x'⟩)
    obtain⟨hE,hI,hS,N⟩:=L2 (T:=e) (n:=b) (c:=b) hi W hk S (aZe _) o.dst;refine .inl ⟨_,_,_,_,F,_, ?_,.inl rfl,h,hE,hI,hS,N⟩;have O:¬ (b * i.size > 2 ^ 24):=by omega
    have d:Instr.fill (fun j=>some (j * i.size,i.size)) ((Array.range (b * i.size)).map ((if b * i.size=0 then #[] else z.cells)[· % (if b * i.size=0 then #[] else z.cells).size]!)) (A.map fun (j,x)=>(j,a.eval x)).toList=some r:=by
     have D:(A.map fun (j,x)=>(j,a.eval x)).toList=A.toList.map fun (j,x)=>(j,a.eval x):=by simp
     rw[D,<- R];congr 1;split
     ·simp_all
     ·rfl
    have U:(zeroValue e).run P w=.ok z w:=by simp[zeroValue,typeInfo,p,H]
    simp only[execOp,Instr.buildSlice,run_underlying hu,Sem.run_bind,Result.andThen_ok,sizeOf,typeInfo,run_program,p,Sem.run_pure,Sem.run_ite,if_neg O,U];by_cases V:b * i.size=0
    ·simp only[if_pos V] at d ⊢;simp only[d,Sem.run_bind,Result.andThen_ok,Sem.run_pure,newRow,run_newObj,fG]
    ·simp only[if_neg V] at d ⊢;simp only[d,Sem.run_bind,Result.andThen_ok,Sem.run_pure,newRow,run_newObj,fG]
   ·cases f
 cases f
end
end
section
section
variable {P:Program}{G:aE}{k:Nat}{Q:AS->Prop}{as as':AS}{o:aO}{rest ops:L aO}{F:Fz}{γ:L OI}{w w':World}{hp:L aD}
theorem rC{γ:L OI}{id i:Nat}{x b:OI}(h:γ[i]?=some x)(a:(i==id)=false):(γ.set id b)[i]?=some x:=by
 rw[aZw (by simp at a;exact Ne.symm a)];exact h
theorem eG.setArr(a:eG F γ hp w){id:Nat}{x s:OI}{E:aD}(q:γ[id]?=some x)(f:∀b,s.blk=some b->x.blk=some b\/b=w.heap.size) (n:∀b,b<w.heap.size->x.blk≠some b->w'.heap[b]?=w.heap[b]?) (C:OK F (γ.set id s) w' E s):eG F (γ.set id s) ((hp.map (cU (·==id))).set id E) w':=by
 have p:id<γ.length:=aJ q;have z:∀i b,cG (γ.set id s) i=some b->(i≠id/\cG γ i=some b)\/(i=id/\s.blk=some b):=by
  intro i b h;obtain⟨y,r,g⟩:=dD h;by_cases c:id=i;subst c;rw[aZH p] at r;injection r with r;subst r
  exact .inr ⟨rfl,g⟩;rw[aZw c] at r;exact .inl ⟨Ne.symm c,bV r g⟩
 have A:∀b o,F b=some o->w'.heap[b]?=w.heap[b]?:=fun b o h=>n b (a.fzlt h) (fun e=>by rw[a.disj id b (bV q e)] at h;cases h)
 refine⟨fun b o h=>(A b o h).trans (a.fz b o h),by simp[a.len],?_,?_,?_⟩
 intro i j b d l;rcases z i b d with⟨u,m⟩|⟨u,m⟩<;>rcases z j b l with⟨D,t⟩|⟨D,t⟩
 exact a.nd i j b m t;exfalso;rcases f b t with h|h
 exact u (a.nd i id b m (bV q h));have:=a.lt m;omega;exfalso;rcases f b m with h|h
 exact D (a.nd j id b t (bV q h));have:=a.lt t;omega;omega;intro i b h;rcases z i b h with⟨u,m⟩|⟨u,m⟩
 exact a.disj i b m;rcases f b m with h|h
 exact a.disj id b (bV q h);cases I:F b with
 |none=>rfl
 |some o=>have:=a.fzlt I;omega
 intro i o y d l;by_cases c:id=i;subst c;rw[aZH p] at l;rw[aZH (by simpa[<- a.len] using p)] at d;injection d with d;injection l with l;subst d;subst l
 exact C;rw[aZw c] at d l;rw[aZj] at d;cases v:hp[i]? with
 |none=>simp[v] at d
 |some H=>
  simp[v] at d;subst d;refine (a.ok i H y v l).kill (fun _ _ h=>h) (fun J o B h=>rC h B) (fun b g=>?_)
  exact n b ((a.ok i H y v l).lt g) (fun e=>c (a.nd _ _ _ (bV q e) (bV l g)))
theorem iU.setArr(t:eG F γ hp w){id:Nat}{x n:OI}(j:γ[id]?=some x)(m:∀b,x≠.box b)(d:∀b,n.blk=some b->x.blk=some b\/b=w.heap.size) (f:∀b,b<w.heap.size->x.blk≠some b->w'.heap[b]?=w.heap[b]?) (p:w'.os=w.os) (q:w'.tape=w.tape) (h3:w'.output=w.output) (h4:w.heap.size<=w'.heap.size):iU k F γ w F (γ.set id n) w':=by
 have l:id<γ.length:=aJ j;refine⟨fun _ _ h=>h,p,q,h3,h4,fun b r s=>f b r (fun e=>s id (bV j e)),fun _ _ h=>.inl h,fun i b h=>?_,fun i _ b h=>?_⟩
 obtain⟨y,c,g⟩:=dD h;by_cases a:id=i;subst a;rw[aZH l] at c;injection c with c;subst c;rcases d b g with h|h;exact .inl ⟨id,bV j h⟩;exact .inr (by omega)
 rw[aZw a] at c;exact .inl ⟨i,bV c g⟩;by_cases a:id=i;subst a;rw[j] at h;injection h with h
 exact absurd h (m b);rw[aZw a];exact h
def sV(hp:L aD):AV->Option (L (L DC))
 |.one (.dc (.slc es))=>some es
 |.one (.dc (.raw (.slice none 0 0)))=>some []
 |.one (.bld id n)=>
  match aL hp id with
  |.arr _ _ es=>if n<=es.length then some (es.take n) else none
  |_=>none
 |_=>none
theorem aD1{av:AV}{x:Value}{es:L (L DC)}{size:Nat}(h:sV hp av=some es)(hx:RV F γ av x)(hi:eG F γ hp w)(t:∀e∈es,e.length=size):∃ A c,x=.slice A es.length c/\∃ y:L Value,y.length=es.length * size/\(∀ w':World,w'.heap=w.heap->(Builtin.firstCells size es.length x).run P w'=.ok y.toArray w')/\ (∀ (i j:Nat) e d v,es[i]?=some e->e[j]?=some d->y[i * size+j]?=some v->RD F d v)/\(∀ v∈y,is1 v=true):=by
 have q:∀(b off:Nat)(c:Nat)(f:Nat->Value),(∀j,j<es.length*size->w.cell? ⟨b,off+j,none⟩=some (f j))->∀w':World,w'.heap=w.heap->
   (Builtin.firstCells size es.length (.slice (some ⟨b,off,none⟩) es.length c)).run P w'=.ok ((List.range (es.length*size)).map f).toArray w':=by
  intro b off c f hf w' hw;simp only[Builtin.firstCells];refine run_loadCells w' _ _ f (fun j p=>?_)
  rw[dY];have:=hf j p;unfold World.cell? at this ⊢;rw[hw];exact this
 have split:∀j,j<es.length*size->0<size/\j / size<es.length/\j=(j / size)*size+j % size/\j % size<size:=by
  intro j p;have O:0<size:=by
   rcases Nat.eq_zero_or_pos size with h|h;subst h;simp at p;exact h
  refine⟨O,Nat.div_lt_of_lt_mul (by rw[Nat.mul_comm];exact p),?_,Nat.mod_lt _ O⟩;have:=Nat.div_add_mod j size;rw[Nat.mul_comm];omega
 unfold sV at h;split at h;rename_i l;injection h with h;subst h
 cases hx with|one c v hc=>cases hc with|dc d v I=>cases I with
 |nil A c=>
  refine⟨A,c,rfl,[],by simp,fun w' _=>?_,fun i j e d v h=>by simp at h,fun v h=>by simp at h⟩
  cases A with
  |none=>rfl
  |some a=>simp[Builtin.firstCells,loadCells,loadCellsFrom]
 |slc b off c size' es g X W S hcap=>
  refine⟨_,c,rfl,(List.range (l.length*size)).map fun j=>g (j / size) (j % size),by simp,q b off c _ (fun j p=>?_),fun i j e d v m D h3=>?_,fun v Y=>?_⟩
  obtain⟨O,m,D,h3⟩:=split j p;have B:l[j / size]?=some (l[j / size]'m):=aZi m;have z:=t _ (aZE B);have r:=X _ (aZE B);have I:(l[j / size]'m)[j % size]?=some ((l[j / size]'m)[j % size]'(by omega)):=aZi _;have:=S _ _ _ _ B I;rw[<- r,z,<- D] at this;exact Fz.cell_world hi.fz this;have p:j<size:=by have:=aJ D;have:=t _ (aZE m);omega
  have E:=iQ (aJ m) (aZe _) p;simp only[aZj,bAx E,aZf,Option.some.injEq] at h3;have e1:(i*size+j) / size=i:=by rw[Nat.mul_comm,Nat.mul_add_div (by omega),Nat.div_eq_of_lt p,aZY]
  have e2:(i*size+j) % size=j:=by rw[Nat.mul_comm,Nat.mul_add_mod,bAa p]
  rw[e1,e2] at h3;subst h3;exact W i j e d m D;simp only[List.mem_map,List.mem_range] at Y;obtain⟨j,p,rfl⟩:=Y;obtain⟨O,m,D,h3⟩:=split j p;have B:l[j / size]?=some (l[j / size]'m):=aZi m;have z:=t _ (aZE B);have I:(l[j / size]'m)[j % size]?=some ((l[j / size]'m)[j % size]'(by omega)):=aZi _;exact (W _ _ _ _ B I).is1
 injection h with h;subst h
 rw[cX hx];exact⟨none,0,rfl,[],by simp,fun w' _=>rfl,fun i j e d v h=>by simp at h,fun v h=>by simp at h⟩
 rename_i id n;split at h;rename_i cap R l hb;split at h;rename_i hne;injection h with h;subst h
 have s:(l.take n).length=n:=by simp;omega
 cases hx with|one c v hc=>cases hc with
 |bldN _ C V=>
  refine⟨none,0,by simp,[],by simp,fun w' _=>by simp[Builtin.firstCells],fun i j e d v h=>by simp at h,fun v h=>by simp at h⟩
 |bld _ _ b C V=>
  obtain⟨S,hec,J,vs,T,hh,Z,W⟩:=hi.arr hb V;rw[s] at q ⊢;have N:∀j,j<n*size->∃u,vs[j]?=some u:=by
   intro j p;rw[<- s] at p;obtain⟨O,m,D,h3⟩:=split j p;have B:(l.take n)[j / size]?=some ((l.take n)[j / size]'m):=aZi m;have z:=t _ (aZE B);have r:=J _ (aZA (aZE B));have:j<vs.size:=by
    rw[Z,<- r,z];rw[s] at p;exact Nat.lt_of_lt_of_le p (bAj _ (by omega))
   exact⟨_,aZR this⟩
  refine⟨_,C,rfl,(List.range (n*size)).map fun j=>vs.toList.getD j undef,by simp,q b 0 C _ (fun j p=>?_),fun i j e d v m D h3=>?_,fun v Y=>?_⟩
  obtain⟨u,H⟩:=N j p;rw[aZ0,mW hh,H];simp[aZo,H];have K:i<n:=by have:=aJ m;omega
  have p:j<size:=by have:=aJ D;have:=t _ (aZE m);omega
  have E:=iQ K (aZe _) p;simp only[aZj,bAx E,aZf,Option.some.injEq] at h3;obtain⟨u,H⟩:=N _ E;simp[aZo,H] at h3;subst h3;rw[aZL,if_pos K] at m;have z:=J _ (aZE m);have r:=t e (by rw[List.mem_iff_getElem?];exact⟨i,by rw[aZL,if_pos K];exact m⟩);have M:R=size:=by omega
  subst M;exact W i j e d u m D H;simp only[List.mem_map,List.mem_range] at Y;obtain⟨j,p,rfl⟩:=Y;obtain⟨u,H⟩:=N j p;simp only[aZo,bAe,H,aZU];rw[<- s] at p;obtain⟨O,m,D,h3⟩:=split j p;rw[s] at m;have U:(l.take n)[j / size]?=some ((l.take n)[j / size]'(by omega)):=aZi _;have z:=t _ (aZE U);have B:l[j / size]?=some ((l.take n)[j / size]'(by omega)):=by rw[<- U,aZL,if_pos m]
  have r:=J _ (aZE B);have M:R=size:=by omega
  subst M;have I:((l.take n)[j / R]'(by omega))[j % R]?=some (((l.take n)[j / R]'(by omega))[j % R]'(by omega)):=aZi _;exact (W _ _ _ _ u B I (by rw[<- D];exact H)).is1
 cases h;cases h;cases h
