/- Part. Conditions: none. -/
import Derived.Test.YtalhnjjchkmfeabGreatDoorNa
namespace Go.Proofs.YtalhnjjchkmfeabGreatDoor
set_option linter.unusedSimpArgs false
set_option linter.unusedVariables false
section
section
variable {α:Type}
theorem Wk{f:Nat->Option α}(j:∀n r,f n=some r->f (n+1)=some r){n:Nat}{r:α}(h:f n=some r):lim f=some r:=by
 have a:∀n r,f n=some r->∀m,n<=m->f m=some r:=by
  intro n r h m b
  induction m with
  |zero=>simp at b;subst b;exact h
  |succ m l=>
   by_cases i:n=m+1;subst i;exact h;exact j _ _ (l (by omega))
 have d:∃n r,f n=some r:=⟨n,r,h⟩;unfold lim;rw[dif_pos d];obtain⟨o,c⟩:=d.choose_spec;have e:=a _ _ c (max d.choose n) (Nat.le_max_left _ _);have g:=a _ _ h (max d.choose n) (Nat.le_max_right _ _);rw[c,<- e,g]
theorem iH{f:Nat->Option α}{r:α}(h:lim f=some r):∃n,f n=some r:=by
 unfold lim at h;split at h;exact⟨_,h⟩;cases h
end
section
variable {run:AS->Option (Exit×AS)}{L:List Nat}{m:Nat}
theorem Iz:∀(n:Nat)(st:AS) r,K6 run L m n st=some r->K6 run L m (n+1) st=some r
 |0,st,r,h=>by simp[K6] at h
 | n+1,st,r,h=>by
   rw[K6] at h ⊢;split at h
   · exact Iz n _ r h
   · exact h
theorem De{n:Nat}{st:AS}{r:Exit×AS}(h:K6 run L m n st=some r):Bv run L m st=some r:=Wk (fun n r h=>Iz n st r h) h
theorem aES(st:AS){s:AS}(h:run st=some (.normal,s)):Bv run L m st=Bv run L m (lA L m s):=by
 have e:∀n,K6 run L m (n+1) st=K6 run L m n (lA L m s):=fun n=>by rw[K6,h]
 cases b:Bv run L m (lA L m s) with
 |some r=>
  obtain⟨n,a⟩:=iH b;exact De (n:=n+1) (by rw[e];exact a)
 |none=>
  cases c:Bv run L m st with
  |none=>rfl
  |some r=>
   obtain⟨n,a⟩:=iH c;have:Bv run L m (lA L m s)=some r:=De (n:=n) (by rw[<- e];exact Iz _ _ _ a);rw[b] at this;cases this
theorem aB1{st:AS}{e:Exit}{s:AS}(h:run st=some (e,s))(b:e≠.normal):Bv run L m st=some (e,s):=by
 refine De (n:=1) ?_;rw[K6,h];split;rename_i a;injection a with a;injection a with a;exact absurd a b
 rfl
end
def G4(calls:Nat->aN)(call:aN):Prop:=∀f a hp r,call f a hp=some r->∃n,∀m,n<=m->calls m f a hp=some r
section
variable {calls:Nat->aN}{call:aN}{G:aE}
theorem Y8(i:G4 calls call){d:Option Nat}{f:FuncId}{a:List aI}{st s:AS}(h:We call G d f a st=some s):∃n,∀m,n<=m->We (calls m) G d f a st=some s:=by
 unfold We at *;cases c:(lN G st.sl a).all (dH fun _=>true) with
 |false=>rw[c] at h;cases h
 |true=>
  rw[c] at h;simp only[cond_true] at h ⊢;cases b:call f (lN G st.sl a) [] with
  |none=>rw[b] at h;cases h
  |some r=>
   obtain⟨n,g⟩:=i _ _ _ _ b;rw[b] at h;exact⟨n,fun m e=>by rw[g m e];exact h⟩
theorem Y9(i:G4 calls call){d:Option Nat}{f:FuncId}{a:List aI}{st s:AS}(h:dnZ call G d f a st=some s):∃n,∀m,n<=m->dnZ (calls m) G d f a st=some s:=by
 unfold dnZ at *;cases c:(lN G st.sl a).all (dH fun _=>true) with
 |false=>rw[c] at h;cases h
 |true=>
  rw[c] at h;simp only[cond_true] at h ⊢;cases b:call f (lN G st.sl a) [] with
  |none=>rw[b] at h;cases h
  |some r=>
   obtain⟨n,g⟩:=i _ _ _ _ b;rw[b] at h;exact⟨n,fun m e=>by rw[g m e];exact h⟩
theorem aJM(j:G4 calls call){d:Option Nat}{f:FuncId}{b:List aI}{st s:AS}(h:vwK call G d f b st (call f (Gl G st b) [])=some s):∃n,∀m,n<=m->vwK (calls m) G d f b st (calls m f (Gl G st b) [])=some s:=by
 cases e:call f (Gl G st b) [] with
 |none=>rw[e] at h;cases h
 |some r=>
  rw[e] at h;obtain⟨n,i⟩:=j _ _ _ _ e;obtain⟨av,os⟩:=r;cases os with
  |nil=>
   simp only[vwK] at h;cases c:mS av with
   |true=>rw[c] at h;exact⟨n,fun m g=>by rw[i m g];simp only[vwK,c];exact h⟩
   |false=>
    rw[c] at h;obtain⟨l,a⟩:=Y8 j h;exact⟨max n l,fun m g=>by rw[i m (by omega)];simp only[vwK,c];exact a m (by omega)⟩
  |cons o os=>
   obtain⟨l,a⟩:=Y8 j (st:=bZ (mT G st.sl b) st) h;exact⟨max n l,fun m g=>by rw[i m (by omega)];exact a m (by omega)⟩
theorem aJN(j:G4 calls call){d:Option Nat}{f:FuncId}{b:List aI}{st s:AS}(h:dvK call G d f b st (call f (Db G st b) [])=some s):∃n,∀m,n<=m->dvK (calls m) G d f b st (calls m f (Db G st b) [])=some s:=by
 cases e:call f (Db G st b) [] with
 |none=>rw[e] at h;cases h
 |some r=>
  rw[e] at h;obtain⟨n,i⟩:=j _ _ _ _ e;obtain⟨av,os⟩:=r;cases os with
  |nil=>
   simp only[dvK] at h;cases c:mS av with
   |true=>rw[c] at h;exact⟨n,fun m g=>by rw[i m g];simp only[dvK,c];exact h⟩
   |false=>
    rw[c] at h;obtain⟨l,a⟩:=Y9 j h;exact⟨max n l,fun m g=>by rw[i m (by omega)];simp only[dvK,c];exact a m (by omega)⟩
  |cons o os=>
   obtain⟨l,a⟩:=Y9 j (st:=st) h;exact⟨max n l,fun m g=>by rw[i m (by omega)];exact a m (by omega)⟩
theorem B6(j:G4 calls call){d:Option Nat}{f:FuncId}{a:List AV}{st s:AS}(h:lM call d f a st=some s):∃n,∀m,n<=m->lM (calls m) d f a st=some s:=by
 unfold lM at *;simp only at h ⊢;split at h;rename_i e;simp only[e,if_true];obtain⟨r,b,c⟩:=Option.map_eq_some_iff.1 h;obtain⟨n,i⟩:=j _ _ _ _ b;exact⟨n,fun m g=>by rw[i m g];exact congrArg some c⟩
 cases h
theorem tD(b:G4 calls call):G4 (fun n=>lO (calls n)) (lO call):=fun f a hp r h=>b f (a.map Gj) hp r h
theorem aJO(b:G4 calls call){d:Option Nat}{f:FuncId}{a:List aI}{st s:AS}(h:clZ call G d f a st=some s):∃n,∀m,n<=m->clZ (calls m) G d f a st=some s:=by
 unfold clZ at *;cases hp:tC G st.sl a with
 |true=>rw[hp] at h;exact aJM b h
 |false=>rw[hp] at h;exact B6 (tD b) h
theorem Za(b:G4 calls call){d:Option Nat}{x:aI}{a:List aI}{st s:AS}(h:cvZ call G d x a st=some s):∃n,∀m,n<=m->cvZ (calls m) G d x a st=some s:=by
 unfold cvZ at *;unfold cvK at *;split at h;exact B6 (tD b) h;cases h
theorem Zb(b:G4 calls call){st s:AS}{l:List aO}{d:Option Nat}{a:AI}(h:mU call G st l d a=some s):∃n,∀m,n<=m->mU (calls m) G st l d a=some s:=by
 cases a with
 |call f c=>exact aJO b h
 |callv x c=>exact Za b h
 |_=>exact⟨0,fun _ _=>h⟩
theorem Zc(e:G4 calls call){st s:AS}{l:List aO}{d:Option Nat}{a:AI}{g:Option (Nat×Bool)}(h:Wg call G st l d a g=some s):∃n,∀m,n<=m->Wg (calls m) G st l d a g=some s:=by
 cases g with
 |none=>exact Zb e h
 |some g=>
  simp only[Wg] at h ⊢;cases c:gK g.2 (aM G st.sl (.t g.1)) with
  |none=>rw[c] at h;cases h
  |some b=>
   rw[c] at h;cases b with
   |true=>exact Zb e h
   |false=>exact⟨0,fun _ _=>h⟩
theorem Zd(b:G4 calls call):∀(l:List aO)(st s:AS),evR call G l (some st)=some s->∃n,∀m,n<=m->evR (calls m) G l (some st)=some s
 |[],st,s,h=>⟨0,fun _ _=>h⟩
 | o::l,st,s,h=>by
   simp only[evR] at h ⊢;cases a:Wg call G st l o.dst o.ai o.guard with
   | none=>rw[a] at h;cases l<;>cases h
   | some f=>
     rw[a] at h;obtain⟨n1,c⟩:=Zc b a;obtain⟨e,d⟩:=Zd b l f s h;exact⟨max n1 e,fun m g=>by rw[c m (by omega)];exact d m (by omega)⟩
theorem Ze(e:G4 calls call){L:List Nat}{st s:AS}{l:List aO}{d:Option Nat}{a:AI}{g:Option (Nat×Bool)}{b:Bool}(h:Iy call G L st l d a g b=some s):∃n,∀m,n<=m->Iy (calls m) G L st l d a g b=some s:=by
 cases b with
 |false=>exact Zc e h
 |true=>
  cases a with
  |call f p=>
   simp only[Iy,Sb] at h ⊢;cases i:Oq L (f+100000) with
   |false=>rw[i] at h;exact B6 (tD e) h
   |true=>
    rw[i] at h;simp only[aEP] at h ⊢;cases c:call f (Db G st p) [] with
    |none=>rw[c] at h;cases h
    |some r=>
     obtain⟨n,o⟩:=e _ _ _ _ c;rw[c] at h;exact⟨n,fun m j=>by rw[o m j];exact h⟩
  |mk=>exact⟨0,fun _ _=>h⟩
  |cvsb=>exact⟨0,fun _ _=>h⟩
  |_=>cases h
theorem Sd(b:G4 calls call){L:List Nat}:∀(l:List aO)(st s:AS),Gm call G L l (some st)=some s->∃n,∀m,n<=m->Gm (calls m) G L l (some st)=some s
 |[],st,s,h=>⟨0,fun _ _=>h⟩
 | o::l,st,s,h=>by
   simp only[Gm] at h ⊢;cases a:Iy call G L st l o.dst o.ai o.guard (kQ L o.ai o.guard) with
   | none=>rw[a] at h;cases l<;>cases h
   | some f=>
     rw[a] at h;obtain⟨n1,c⟩:=Ze b a;obtain⟨e,d⟩:=Sd b l f s h;exact⟨max n1 e,fun m g=>by rw[c m (by omega)];exact d m (by omega)⟩
theorem I0{n0:Nat}{a b:Option AS}{s:AS}(h:F5 n0 a b=some s):a=some s/\∃c p,b=some c/\pOK n0 c.hp.length p/\prm p c=s:=by
 unfold F5 at h;split at h;rename_i e;obtain⟨g,c,p,d,f,h3,h4⟩:=e;rw[d] at h;injection h with h;subst h;exact⟨d,c,p,f,h3,h4⟩
 cases h
theorem Se{n0:Nat}{a b:Option AS}{s c:AS}{p:List (Nat×Nat)}(d:a=some s)(e:b=some c)(h3:pOK n0 c.hp.length p)(h4:prm p c=s):F5 n0 a b=some s:=by
 unfold F5;rw[if_pos ⟨s,c,p,d,e,h3,h4⟩,d]
theorem aJP(v:G4 calls call){L:List Nat}{n0:Nat}{ops:List aO}:∀(t:IT)(st s:AS),F6 call G L n0 ops t (some st)=some s->∃n,∀m,n<=m->F6 (calls m) G L n0 ops t (some st)=some s:=by
 have a:∀(t:IT),(∀(st s:AS),F6 call G L n0 ops t (some st)=some s->∃n,∀m,n<=m->F6 (calls m) G L n0 ops t (some st)=some s)->∀(st s:AS)(i:Nat),
   F6 call G L n0 ops t (Iy call G L st ops (iW ops i).dst (iW ops i).ai (iW ops i).guard (kQ L (iW ops i).ai (iW ops i).guard))=some s->
   ∃n,∀m,n<=m->F6 (calls m) G L n0 ops t (Iy (calls m) G L st ops (iW ops i).dst (iW ops i).ai (iW ops i).guard (kQ L (iW ops i).ai (iW ops i).guard))=some s:=by
  intro t f st s i h;cases e:Iy call G L st ops (iW ops i).dst (iW ops i).ai (iW ops i).guard (kQ L (iW ops i).ai (iW ops i).guard) with
  |none=>rw[e] at h;cases t<;>cases h
  |some x=>
   rw[e] at h;obtain⟨n1,c⟩:=Ze v e;obtain⟨j,d⟩:=f x s h;exact⟨max n1 j,fun m u=>by rw[c m (by omega)];exact d m (by omega)⟩
 intro t
 induction t with
 |nil=>exact fun st s h=>⟨0,fun _ _=>h⟩
 |stop=>exact fun st s h=>by cases h
 |st i t f=>exact fun st s h=>a t f st s i h
 |br i t r b g=>
  intro st s h;simp only[F6] at h ⊢;cases l:N6 r with
  |true=>rw[l] at h;exact a t b st s i h
  |false=>
   rw[l] at h;obtain⟨c,w,p,d,h3,h4⟩:=I0 h;obtain⟨n1,o⟩:=a t b st s i c;obtain⟨j,q⟩:=g st w d;exact⟨max n1 j,fun m u=>Se (o m (by omega)) (q m (by omega)) h3 h4⟩
theorem Ot(e:G4 calls call){st s:AS}{q:Bool}{d:Option Nat}{a:AI}(h:drZ call G st d a q=some s):∃n,∀m,n<=m->drZ (calls m) G st d a q=some s:=by
 cases q with
 |true=>
  simp only[drZ] at h ⊢;cases a with
  |call f b=>
   simp only[Cn] at h ⊢;cases g:(lN G st.sl b).all (dH fun _=>true) with
   |false=>rw[g] at h;cases h
   |true=>
    rw[g] at h;simp only[cond_true] at h ⊢;cases c:call f (lN G st.sl b) [] with
    |none=>rw[c] at h;cases h
    |some r=>
     obtain⟨n,j⟩:=e _ _ _ _ c;rw[c] at h;exact⟨n,fun m i=>by rw[j m i];exact h⟩
  |_=>exact⟨0,fun _ _=>h⟩
 |false=>
  simp only[drZ] at h ⊢;cases a with
  |call f b=>exact aJN e h
  |callv x b=>exact Za e h
  |_=>exact⟨0,fun _ _=>h⟩
theorem aJQ(e:G4 calls call){st s:AS}{q:Bool}{d:Option Nat}{a:AI}{g:Option (Nat×Bool)}(h:drO call G st q d a g=some s):∃n,∀m,n<=m->drO (calls m) G st q d a g=some s:=by
 cases g with
 |none=>exact Ot e h
 |some g=>
  simp only[drO] at h ⊢;cases c:gK g.2 (aM G st.sl (.t g.1)) with
  |none=>rw[c] at h;cases h
  |some b=>
   rw[c] at h;cases b with
   |true=>exact Ot e h
   |false=>exact⟨0,fun _ _=>h⟩
theorem Sf(b:G4 calls call):∀(l:List (Bool×aO)) (st s:AS),Gn call G l (some st)=some s->∃n,∀m,n<=m->Gn (calls m) G l (some st)=some s
 |[],st,s,h=>⟨0,fun _ _=>h⟩
 | o::l,st,s,h=>by
   simp only[Gn] at h ⊢;cases a:drO call G st o.1 o.2.dst o.2.ai o.2.guard with
   | none=>rw[a] at h;cases l<;>cases h
   | some f=>
     rw[a] at h;obtain⟨n1,c⟩:=aJQ b a;obtain⟨e,d⟩:=Sf b l f s h;exact⟨max n1 e,fun m g=>by rw[c m (by omega)];exact d m (by omega)⟩
theorem lB{x:Option AS}{r:Exit×AS}(h:nrm x=some r):∃s,x=some s/\r=(.normal,s):=by
 cases x with
 |none=>cases h
 |some s=>injection h with h;exact⟨s,rfl,h.symm⟩
theorem aJR{R:List Nat}{x:Nat->Option AS}{y:Option AS}{q:AS×FP}(h:Vj R y=some q)(c:∀s,y=some s->∃n,∀m,n<=m->x m=some s):∃n,∀m,n<=m->Vj R (x m)=some q:=by
 cases y with
 |none=>cases h
 |some s=>
  obtain⟨n,b⟩:=c s rfl;exact⟨n,fun m a=>by rw[b m a];exact h⟩
theorem Zf(i:G4 calls call){st:AS}{d:Option Nat}{r:Nat}{b:AI}{q:AS×FP}(h:Lg call G st d r b=some q):∃n,∀m,n<=m->Lg (calls m) G st d r b=some q:=by
 cases b with
 |call f a=>
  simp only[Lg] at h ⊢;generalize (a.map (aM G st.sl)).flatMap kK=J at h ⊢
  match J with
  |[]=>exact aJR (x:=fun m=>Cn (calls m) G st d (.call f a)) h (fun s o=>Ot i (show drZ call G st d (.call f a) true=some s from o))
  |[id]=>
   simp only[fvC] at h ⊢;unfold fvB at h ⊢;split at h;rename_i cs _;cases g:(keepL (fun _=>true) cs&&(a.map (aM G st.sl)).all (dH (lL [id]))) with
   |false=>rw[g] at h;cases h
   |true=>
    rw[g] at h;simp only[cond_true] at h ⊢;cases c:lO call f ((a.map (aM G st.sl)).map (dO (mO [id]))) [.box cs] with
    |none=>rw[c] at h;cases h
    |some q=>
     obtain⟨n,l⟩:=tD i _ _ _ _ c;refine⟨n,fun m j=>?_⟩
     have e:=l m j;simp only at e;rw[e,<- c];exact h
   cases h
  |_::_::_=>cases h
 |alloc z=>exact⟨0,fun _ _=>h⟩
 |store size x v=>exact⟨0,fun _ _=>h⟩
 |cpys x y=>exact⟨0,fun _ _=>h⟩
 |_=>exact⟨0,fun _ _=>h⟩
theorem aJS(e:G4 calls call){st:AS}{d:Option Nat}{r:Nat}{a:AI}{g:Option (Nat×Bool)}{q:AS×FP}(h:fvO call G st d r a g=some q):∃n,∀m,n<=m->fvO (calls m) G st d r a g=some q:=by
 cases g with
 |none=>exact Zf e h
 |some g=>
  simp only[fvO] at h ⊢;cases c:gK g.2 (aM G st.sl (.t g.1)) with
  |none=>rw[c] at h;cases h
  |some b=>
   rw[c] at h;cases b with
   |true=>exact Zf e h
   |false=>exact⟨0,fun _ _=>h⟩
theorem Zg(d:G4 calls call){b:List (Nat×Nat)}:∀(l:List aO)(a:List FP)(r:Nat)(st s:AS),Wh call G b a r l (some st)=some s->∃n,∀m,n<=m->Wh (calls m) G b a r l (some st)=some s
 |[],a,r,st,s,h=>⟨0,fun _ _=>h⟩
 | o::l,a,r,st,s,h=>by
   simp only[Wh] at h ⊢;cases c:fvO call G st o.dst r o.ai o.guard with
   | none=>rw[c] at h;cases h
   | some q=>
     obtain⟨j,f⟩:=q;rw[c] at h;obtain⟨n1,e⟩:=aJS d c;obtain⟨i,g⟩:=Zg d l _ _ j s h;exact⟨max n1 i,fun m p=>by rw[e m (by omega)];exact g m (by omega)⟩
theorem Zh{runs:Nat->AS->Option (Exit×AS)}{run:AS->Option (Exit×AS)}(d:∀st r,run st=some r->∃n,∀m,n<=m->runs m st=some r){L:List Nat}{k:Nat}:∀(i:Nat)(st:AS) r,K6 run L k i st=some r->∃n,∀m,n<=m->K6 (runs m) L k i st=some r
 |0,st,r,h=>by simp[K6] at h
 | i+1,st,r,h=>by
   simp only[K6] at h;cases a:run st with
   | none=>rw[a] at h;cases h
   | some q=>
     obtain⟨n1,b⟩:=d _ _ a;rw[a] at h;obtain⟨e,s⟩:=q;cases e with
     | normal=>
       simp only at h;obtain⟨g,f⟩:=Zh d i _ r h;exact⟨max n1 g,fun m c=>by rw[K6,b m (by omega)];exact f m (by omega)⟩
     | _=>exact⟨n1,fun m c=>by rw[K6,b m c];exact h⟩
theorem aOG(u:G4 calls call):∀(c:HC)(st:AS) r,EC call G c st=some r->∃n,∀m,n<=m->EC (calls m) G c st=some r:=by
 intro c
 induction c with
 |skip=>exact fun st r h=>⟨0,fun _ _=>h⟩
 |ret=>exact fun st r h=>⟨0,fun _ _=>h⟩
 |exit id=>exact fun st r h=>⟨0,fun _ _=>h⟩
 |region ops=>
  intro st r h;simp only[EC] at h ⊢;obtain⟨s,j,rfl⟩:=lB h;obtain⟨n,l⟩:=Zd u ops st s j;exact⟨n,fun m f=>by rw[l m f];rfl⟩
 |regR L ops=>
  intro st r h;simp only[EC] at h ⊢;obtain⟨s,j,rfl⟩:=lB h;obtain⟨n,l⟩:=Sd u ops st s j;exact⟨n,fun m f=>by rw[l m f];rfl⟩
 |drawnT L t ops=>
  intro st r h;simp only[EC] at h ⊢;obtain⟨s,j,rfl⟩:=lB h;obtain⟨n,l⟩:=aJP u t st s j;exact⟨n,fun m f=>by rw[l m f];rfl⟩
 |drawnF z ops=>
  intro st r h;simp only[EC] at h ⊢;obtain⟨s,j,rfl⟩:=lB h;obtain⟨n,l⟩:=Zg u ops _ _ _ s j;exact⟨n,fun m f=>by rw[l m f];rfl⟩
 |drawn ops=>
  intro st r h;simp only[EC] at h ⊢;obtain⟨s,j,rfl⟩:=lB h;obtain⟨n,l⟩:=Sf u ops st s j;exact⟨n,fun m f=>by rw[l m f];rfl⟩
 |seq a b d p=>
  intro st r h;simp only[EC] at h ⊢;cases o:EC call G a st with
  |none=>rw[o] at h;cases h
  |some q=>
   obtain⟨n1,j⟩:=d _ _ o;rw[o] at h;obtain⟨e,s⟩:=q;cases e with
   |normal=>
    obtain⟨y,w⟩:=p s r h;exact⟨max n1 y,fun m f=>by rw[j m (by omega)];exact w m (by omega)⟩
   |_=>exact⟨n1,fun m f=>by rw[j m f];exact h⟩
 |cond c a b d p=>
  intro st r h;simp only[EC] at h ⊢;cases v:cP (aM G st.sl c) with
  |none=>rw[v] at h;cases h
  | some t=>rw[v] at h;cases t with
    | true=>exact d st r h
    | false=>exact p st r h
 |block id a d=>
  intro st r h;simp only[EC] at h ⊢;cases o:EC call G a st with
  |none=>rw[o] at h;cases h
  |some q=>
   obtain⟨n1,j⟩:=d _ _ o;rw[o] at h;exact⟨n1,fun m f=>by rw[j m f];exact h⟩
 |loop L a d=>
  intro st r h;simp only[EC] at h ⊢;obtain⟨i,x⟩:=iH h;obtain⟨n,l⟩:=Zh (runs:=fun m=>EC (calls m) G a) (fun st r h=>d st r h) i _ r x
  exact⟨n,fun m f=>De (l m f)⟩
 |gh g a d=>exact fun st r h=>d _ r h
 |trm L a d=>exact fun st r h=>d _ r h
 |bad=>intro st r h;cases h
theorem I1(f:G4 calls call){h:HF}{a:List AV}{hp:List aD}{r:AV×List aD}(b:Wj call G h a hp=some r):∃n,∀m,n<=m->Wj (calls m) G h a hp=some r:=by
 unfold Wj at *;cases c:EC call G h.code ⟨a++tW (h.nt-a.length),hp⟩ with
 |none=>rw[c] at b;cases b
 |some q=>
  obtain⟨n,e⟩:=aOG f _ _ _ c;rw[c] at b;exact⟨n,fun m d=>by rw[e m d];exact b⟩
theorem tF{T:HT}:∀(n:Nat)(f:FuncId)(b:List AV)(hp:List aD)(r:AV×List aD),callN G T n f b hp=some r->callN G T (n+1) f b hp=some r
 |0,f,b,hp,r,h=>by simp[callN] at h
 | n+1,f,b,hp,r,h=>by
   rw[callN] at h ⊢;cases c:T.tab f with
   | none=>rw[c] at h;exact h
   | some x=>
     rw[c] at h;obtain⟨m,d⟩:=I1 (calls:=fun _=>callN G T (n+1)) (fun f a hp r h=>⟨0,fun _ _=>tF n f a hp r h⟩) h
     exact d m (aZe _)
theorem aB2(T:HT):G4 (callN G T) (EV G T):=by
 intro f a hp r h;obtain⟨n,c⟩:=iH h;refine⟨n,fun m b=>?_⟩
 induction m with
 |zero=>simp at b;subst b;exact c
 |succ m e=>
  by_cases d:n=m+1;subst d;exact c;exact tF _ _ _ _ _ (e (by omega))
theorem aNr{T:HT}{f:FuncId}{h:HF}{a:List AV}{hp:List aD}{r:AV×List aD}(b:T.tab f=some h)(c:Wj (EV G T) G h a hp=some r):EV G T f a hp=some r:=by
 obtain⟨n,d⟩:=I1 (aB2 T) c;refine Wk (n:=n+1) (fun n r h=>tF n f a hp r h) ?_
 rw[callN,b];exact d n (aZe _)
theorem jO{T:HT}{f:FuncId}{a:List AV}{hp:List aD}{r:AV×List aD}(b:T.tab f=none)(c:T.base f a hp=some r):EV G T f a hp=some r:=by
 refine Wk (n:=1) (fun n r h=>tF n f a hp r h) ?_
 rw[callN,b];exact c
end
end
section
section
variable {P:Program}{G:aE}{k:Nat}{st st' s:AS}{K R Q:AS->Prop}{call:aN}
theorem AC.nzArgs{f:FuncId}{a:List AV}{objs:List aD}{Q:AV->List aD->Prop}(h:AC P G f (a.map Gj) objs Q):AC P G f a objs Q:=
 fun F γ vs w j g c=>h F γ vs w j g ⟨by simpa using c.1,fun i av v b e=>by
   rw[aZj] at b;obtain⟨d,h3,rfl⟩:=Option.map_eq_some_iff.1 b;exact aEA (c.2 i d v h3 e)⟩
theorem I2{p:Nat->Bool}(c:aU):(nzC c).keep p=c.keep p:=by
 unfold nzC;grind[aU.keep]
theorem I3{p:Nat->Bool}:∀(cs:List aU),keepL p (cs.map nzC)=keepL p cs
 |[]=>rfl
 |c::cs=>by simp[keepL,I2,I3 cs]
theorem I4{p:Nat->Bool}(v:AV):dH p (Gj v)=dH p v:=by
 cases v with
 |one c=>grind[Gj,dH,I2]
 |agg cs=>grind[Gj,dH,I3]
 |tup l=>
  simp only[Gj,dH,List.all_map];congr 1;funext t;cases t with
  |one c=>simp only[Function.comp_apply,nzT,F4,I2]
  |agg cs=>simp only[Function.comp_apply,nzT,F4,I3]
 |junk=>rfl
theorem qS{sl:List AV}:∀a:List aI,lN G sl a=(a.map (aM G sl)).map Gj
 |[]=>rfl
 |x::a=>by simp[lN,qS a]
theorem Zj:∀a:List aI,Gl G st a=(a.map fun x=>vwA st.hp (aM G st.sl x)).map Gj
 |[]=>rfl
 |x::a=>by simp[Gl,Zj a]
theorem Df{hp:List aD}(c:aU):Y3 (hp.map aR) c=Y3 hp c:=by
 cases c<;>simp only[Y3];rw[bL];cases aL hp _<;>rfl
theorem aET{hp:List aD}(v:AV):vwA (hp.map aR) v=vwA hp v:=by
 simp_all[vwA,Df,aZC]
theorem Sg{hp:List aD}(c:aU):vwN (hp.map aR) c=vwN hp c:=by grind[vwN,Df]
theorem aEU{hp:List aD}{off:Nat}(o:aD):vpP (hp.map aR) off (aR o)=vpP hp off o:=by
 cases o<;>simp only[aR,vpP,Oc];grind[List.map_congr_left,Sg]
theorem aEV{hp:List aD}(c:aU):vwM (hp.map aR) c=vwM hp c:=by
 simp_all[vwM,Sg,bL,aEU]
theorem aEW{hp:List aD}(c:aU):vp0 (hp.map aR) c=vp0 hp c:=by
 cases c<;>simp only[vp0,Df];rw[bL];cases aL hp _<;>simp only[aR,vqP,Oe];grind[List.map_congr_left,aEV]
theorem aEX{hp:List aD}(c:aU):vpC (hp.map aR) c=vpC hp c:=by
 simp_all[vpC,aEW,Od,aZC]
theorem aEY{hp:List aD}(v:AV):vpA (hp.map aR) v=vpA hp v:=by
 simp_all[vpA,aEX,aZC,Df]
theorem Zk:∀a:List aI,Db G st a=(a.map fun x=>vpA st.hp (aM G st.sl x)).map Gj
 |[]=>rfl
 |x::a=>by simp[Db,Zk a]
theorem Sh{o:aO}(h:exX G (aF s) o=some st'):∃j,exX G s o=some j/\aF j=st':=by
 obtain⟨d,l,g⟩:=o;have f:((dJ G (aF s) l).map fun v=>(⟨aS (aF s).sl d v,(aF s).hp⟩:AS))=some st'->∃ j,((dJ G s l).map fun v=>(⟨aS s.sl d v,s.hp⟩:AS))=some j/\aF j=st':=by
   intro h;rw[rS] at h;obtain⟨v,a,rfl⟩:=Option.map_eq_some_iff.1 h;exact⟨_,by rw[a];rfl,rfl⟩
 cases l<;>try exact f h
 case alloc z=>
  simp only[exX,Option.some.injEq] at h ⊢;exact⟨_,rfl,by rw[<- h];simp[aF,aR]⟩
 case box x=>
  simp only[exX] at h ⊢;obtain⟨cs,a,rfl⟩:=Option.map_eq_some_iff.1 h;rw[show (aF s).sl=s.sl from rfl] at a
  exact⟨_,by rw[a];rfl,by simp[aF,aR]⟩
 case store size x v=>
  simp only[exX] at h ⊢;cases d with
  |some d=>cases h
  |none=>
   simp only[stX,show (aF s).sl=s.sl from rfl] at h ⊢
   split at h;rename_i id off y;split at h;rename_i vs w;split at h;rename_i cs b;rw[aF,bL] at b;split at h;rename_i p;injection h with h
   simp only[rT b,if_pos p];exact⟨_,rfl,by rw[<- h];simp[aF,aR,aZN]⟩;cases h;cases h;cases h;rename_i id i z off y;split at h;rename_i r w;split at h;rename_i c A es b;rw[aF,bL] at b;obtain⟨cap,n,rfl⟩:=pF b;split at h;rename_i e q;split at h;rename_i p;injection h with h
   simp only[n,q,if_pos p];exact⟨_,rfl,by simp_all[aF,aR,aZN]⟩;cases h;cases h;cases h;cases h;cases h
 case bslc size len z ps=>
  simp only[exX,bsX] at h ⊢;cases len with
  |zero=>
   simp only at h ⊢;split at h;rename_i q;injection h with h
   simp only[if_pos q];exact⟨_,rfl,by rw[<- h];simp[aF,aR]⟩;cases h
  |succ len=>
   simp only at h ⊢;obtain⟨cs,a,h⟩:=aZT.1 h;obtain⟨r,t,h⟩:=aZT.1 h;rw[show (aF s).sl=s.sl from rfl] at a
   split at h;rename_i u;injection h with h
   exact⟨⟨aS s.sl d (vl (gZ size (len+1) r)),s.hp⟩,by rw[a];simp only[aZs,t,if_pos u],by rw[<- h];simp[aF]⟩;cases h
theorem E0{size:Nat}:∀{es:List (List DC)},gG size es=true->∀e∈es,e.length=size
 |[],_=>by simp
 | x::es,h=>by
   simp only[gG,aZq,jT,beq_iff_eq] at h;intro e a;rcases bAl.1 a with rfl | a
   · exact h.1
   · exact E0 h.2 e a
theorem aEZ(id:Nat)(c:aU):klC id c=cO (·==id) c:=by
 cases c<;>simp only[klC,cO,aU.keep,jT,if_true];all_goals simp_all
theorem G5(id:Nat):∀cs,Om id cs=cs.map (cO (·==id))
 |[]=>rfl
 |c::cs=>by simp[Om,aEZ,G5 id cs]
theorem aOH(id:Nat)(v:AV):klV id v=bG (·==id) v:=by
 cases v<;>simp only[klV,bG,aEZ,G5]
theorem aE0(id:Nat):∀l,klS id l=l.map (bG (·==id))
 |[]=>rfl
 |c::cs=>by simp[klS,aOH,aE0 id cs]
theorem aOI(id:Nat)(o:aD):klO id o=cU (·==id) o:=by
 cases o<;>simp only[klO,cU,G5]
theorem Wl(id:Nat):∀l,klH id l=l.map (cU (·==id))
 |[]=>rfl
 |c::cs=>by simp[klH,aOI,Wl id cs]
theorem Zl{d:Option Nat}{size bytes:Nat}{z:List Value}{a x:aI}(h:apZ d size bytes (aF s) (aM G s.sl a) (aM G s.sl x)=some st')(q:∀r,aF r=st'->K r):uT P G k d (.app size bytes z a x) K s.sl s.hp:=by
 unfold apZ at h;split at h;rename_i t u id n p
 right
 rw[aF,bL,Aq] at h;unfold apB at h;split at h;rename_i c sz es b i g;split at h;rename_i f;injection h with h
 obtain⟨cap,i,_⟩:=pF i;obtain⟨rfl,j,l,o⟩:=f;exact⟨id,n,cap,es,b,p,i,j,g,E0 l,o,fun e _=>q _ (by rw[<- h];simp only[aF,aZN,uY,aE0,Wl];rfl)⟩
 cases h;cases h;rename_i t u p
 left
 rw[aF,Aq] at h;unfold apN at h;split at h;rename_i b g;split at h;rename_i f;injection h with h
 exact⟨p,b,g,E0 f.1,f.2,fun e _=>q _ (by rw[<- h];simp only[aF,aZQ,uY,aY9,Wl];rfl)⟩
 cases h;cases h;cases h
theorem Zm{d:Option Nat}{size len:Nat}{z:List Value}{g:List (Nat×aI)}(h:bsO G (aF s) d size len z g=some st')(f:∀i,aF i=st'->K i):uT P G k d (.bslc size len z g) K s.sl s.hp:=by
 unfold bsO at h;obtain⟨cs,a,h⟩:=aZT.1 h;cases b:dcs cs with
 |none=>
  rw[b] at h;simp only[bsP] at h;split at h;rename_i c;injection h with h
  rw[Mg] at a;exact .inr ⟨c,cs,a,f _ (by simp_all[aF,aR])⟩;cases h
 |some e=>
 rw[b] at h;simp only[bsP] at h;split at h;rename_i c;injection h with h
 obtain⟨j,l,n⟩:=nA size len e c;rw[Mg] at a;refine .inl ⟨gZ size len e,by rw[j,<- oV b];exact a,l,n,f _ (by simp_all[aF,aR])⟩;cases h
theorem aOJ(b:cJ P G call){d:Option Nat}{f:FuncId}{c:List aI}(h:We call G d f c (aF s)=some st'):
  ∃ av os,(∀ n,c.map (aM G s.sl)=(c.map (aM G s.sl)).map (dO (cQ [] n)))/\AC P G f (c.map (aM G s.sl)) [] (fun a o=>a=av/\o.map aR=os)/\
    (⟨aS s.sl d (dO (cQ [] s.hp.length) av),s.hp.map aR++os.map (eL (cQ [] s.hp.length))⟩:AS)=st':=by
 unfold We at h;cases g:(lN G (aF s).sl c).all (dH fun _=>true) with
 |false=>simp_all
 |true=>
  rw[g] at h;simp only[cond_true] at h;cases e:call f (lN G (aF s).sl c) [] with
  |none=>rw[e] at h;cases h
  |some r=>
   obtain⟨av,os⟩:=r;rw[e] at h;simp only[nwK,Option.some.injEq] at h;obtain⟨_,i⟩:=b _ _ _ _ _ e [] rfl;refine⟨av,os,fun n=>?_,(by rw[qS] at i;exact i.nzArgs),by simp_all[aF]⟩
   conv=>lhs;rw[<- List.map_id (c.map (aM G s.sl))]
   refine aZC (fun v j=>(rnV v ?_).symm)
   rw[qS,List.all_map] at g;have:=bAr.1 g v j;rwa[Function.comp_apply,I4] at this
theorem aE1:∀{os:List aD},aBR os=true->os.map aR=os
 |[],_=>rfl
 | o::os,h=>by
   simp only[aBR,aZq] at h;rw[aZl,aE1 h.2];congr 1;cases o<;>try rfl
   simp_all[aOy,jT,beq_iff_eq,aR]
theorem aOK(c:cJ P G call){d:Option Nat}{f:FuncId}{b:List aI}(h:dnZ call G d f b (aF s)=some st'):
  ∃ av os,os.map aR=os/\(∀ n,b.map (aM G s.sl)=(b.map (aM G s.sl)).map (dO (cQ [] n)))/\AC P G f (b.map (aM G s.sl)) [] (fun a o=>a=av/\o.map aR=os)/\
    (⟨aS s.sl d (dO (cQ [] s.hp.length) av),s.hp.map aR++os.map (eL (cQ [] s.hp.length))⟩:AS)=st':=by
 unfold dnZ at h;cases g:(lN G (aF s).sl b).all (dH fun _=>true) with
 |false=>simp_all
 |true=>
  rw[g,cond_true] at h;cases e:call f (lN G (aF s).sl b) [] with
  |none=>rw[e] at h;cases h
  |some r=>
   obtain⟨av,os⟩:=r;rw[e] at h;simp only[dnK] at h;cases j:aBR os with
   |false=>simp_all
   |true=>
    rw[j,cond_true] at h;have p:We call G d f b (aF s)=some st':=by
     unfold We;rw[g,cond_true,e];exact h
    obtain⟨_,i⟩:=c _ _ _ _ _ e [] rfl;refine⟨av,os,aE1 j,fun n=>?_,(by rw[qS] at i;exact i.nzArgs),by simp_all[aF]⟩
    conv=>lhs;rw[<- List.map_id (b.map (aM G s.sl))]
    refine aZC (fun v l=>(rnV v ?_).symm)
    rw[qS,List.all_map] at g;have:=bAr.1 g v l;rwa[Function.comp_apply,I4] at this
theorem Zn(b:cJ P G call){d:Option Nat}{f:FuncId}{c:List aI}(h:We call G d f c (aF s)=some st')(j:∀e,aF e=st'->K e):WR P G k [⟨d,.call f c,none⟩] K s:=by
 obtain⟨av,os,g,i,h3⟩:=aOJ b h;refine WR.callN (o:=⟨d,.call f c,none⟩) trivial rfl i (g _) (fun a o ⟨h4,h5⟩=>WR.nil (j _ ?_))
 subst h4;rw[<- h3,<- h5];simp only[aF,aZQ,aZG];simp_all[aZC,pE]
theorem aJT{c:List aI}(b:cJ P G call){f:FuncId}{av:AV}(h:call f (Gl G (aF s) c) []=some (av,[])):QC P G f (c.map fun x=>vwA s.hp (aM G s.sl x)) av:=by
 obtain⟨_,d⟩:=b _ _ _ _ _ h [] rfl;rw[Zj] at d;have e:(c.map fun x=>vwA (aF s).hp (aM G (aF s).sl x))=c.map fun x=>vwA s.hp (aM G s.sl x):=aZC (fun x _=>aET _)
 rw[e] at d;exact d.nzArgs.gh (fun a o ⟨g,i⟩ _=>⟨a,o,Gh.refl,aZx _,g,by simp_all⟩)
theorem Zo{c:List aI}(b:cJ P G call){f:FuncId}{av:AV}(h:call f (Db G (aF s) c) []=some (av,[])):QC P G f (c.map fun x=>vpA s.hp (aM G s.sl x)) av:=by
 obtain⟨_,d⟩:=b _ _ _ _ _ h [] rfl;rw[Zk] at d;have e:(c.map fun x=>vpA (aF s).hp (aM G (aF s).sl x))=c.map fun x=>vpA s.hp (aM G s.sl x):=aZC (fun x _=>aEY _)
 rw[e] at d;exact d.nzArgs.gh (fun a o ⟨g,i⟩ _=>⟨a,o,Gh.refl,aZx _,g,by simp_all⟩)
theorem Au(a:cJ P G call):cJ P G (lO call):=fun f c hp av e h b d=>⟨(a f _ hp av e h b d).1,(a f _ hp av e h b d).2.nzArgs⟩
theorem aJU(b:cJ P G call){d:Option Nat}{f:FuncId}{c:List aI}(h:clZ call G d f c (aF s)=some st')(l:∀p,aF p=st'->K p):WR P G k [⟨d,.call f c,none⟩] K s:=by
 unfold clZ at h;obtain⟨A,i,n⟩:=gE (k:=k) (mT G (aF s).sl c) s;cases hp:tC G (aF s).sl c with
 |false=>
  rw[hp,cond_false,<- n] at h;obtain⟨J,objs,av,z,y,q,t,u,v,w,x⟩:=rU (Au b) h;exact WR.ghost i (WR.call (o:=⟨d,.call f c,none⟩) trivial rfl q t u v w (fun a o e=>WR.nil (l _ (x a o e))))
 |true=>
  rw[hp,cond_true] at h;cases g:call f (Gl G (aF s) c) [] with
  |none=>rw[g] at h;cases h
  |some r=>
   obtain⟨av,os⟩:=r;rw[g] at h;cases os with
   |nil=>
    simp only[vwK] at h;cases j:mS av with
    |true=>
     rw[j] at h;injection h with h
     exact WR.callV (o:=⟨d,.call f c,none⟩) trivial rfl (aJT b g) j rfl (WR.nil (l _ (by rw[<- h];rfl)))
    |false=>
     rw[j,cond_false,<- n] at h;grind[WR.ghost,Zn]
   |cons o os=>
    grind[vwK,WR.ghost,Zn]
theorem Zp(b:cJ P G call){d:Option Nat}{x:aI}{c:List aI}(h:cvZ call G d x c (aF s)=some st')(v:∀j,aF j=st'->K j):WR P G k [⟨d,.callv x c,none⟩] K s:=by
 unfold cvZ at h;obtain⟨A,g,w⟩:=gE (k:=k) (mT G (aF s).sl c) s;rw[<- w] at h;unfold cvK at h;split at h;rename_i f i y;obtain⟨J,objs,av,z,l,n,p,q,r,t,u⟩:=rU (Au b) h;exact WR.ghost g (WR.callv (o:=⟨d,.callv x c,none⟩) trivial rfl y l n p q r t (fun a o e=>WR.nil (v _ (u a o e))))
 cases h
theorem Zq{d:Option Nat}{size bytes:Nat}{z:List Value}{x y:aI}(h:mkZ G (aF s) d size bytes z x y=some st')(f:∀b,aF b=st'->K b):WR P G k [⟨d,.mk size bytes z x y,none⟩] K s:=by
 unfold mkZ mkK at h;split at h;rename_i n m c e;split at h;rename_i a;injection h with h
 exact WR.mk (o:=⟨d,.mk size bytes z x y,none⟩) trivial rfl c e a.1 a.2 (WR.nil (f _ (by simp_all[aF,aR])));cases h;cases h
theorem Si{d:Option Nat}{size id k0 n:Nat}{z:List Value}{x:aI}(g:aM G s.sl x=.one (.bls id k0 n size)\/(k0=0/\aM G s.sl x=.one (.bld id n))) (h:Wf d (aF s) id k0 n size z (aL (aF s).hp id)=some st') (c:∀i,aF i=st'->K i):WR P G k [⟨d,.clr size z x,none⟩] K s:=by
 have j:aL (aF s).hp id=aR (aL s.hp id):=bL id;rw[j] at h;cases b:aL s.hp id with
 |box cs=>
  rw[b] at h;simp only[aR,Wf] at h;unfold aSI at h;split at h;split at h;rename_i e;obtain⟨rfl,f,a⟩:=e;injection h with h
  refine WR.clrB (o:=⟨d,.clr 1 [_] x,none⟩) trivial rfl g b f a (WR.nil (c _ ?_));simp_all[aF,aR,aZN];cases h;cases h
 |dead=>rw[b] at h;cases h
 |arr cap sz es=>
  rw[b] at h;simp only[aR,Wf] at h;split at h;rename_i e;obtain⟨rfl,a⟩:=e;injection h with h
  by_cases f:n=0;subst f;refine WR.clr0 (o:=⟨d,.clr sz z x,none⟩) (id:=id) (k0:=k0) trivial rfl (g.imp (fun h=>h) And.right) (WR.nil (c _ ?_))
  rw[<- h,aBj];simp only[aF];congr 1;exact (Cv (by rw[bL,b];rfl) (by simp)).symm;refine WR.clr (o:=⟨d,.clr sz z x,none⟩) trivial rfl g b (by omega) a (WR.nil (c _ ?_));simp_all[aF,aR,aZN];cases h
theorem Sj{d:Option Nat}{size:Nat}{z:List Value}{x:aI}(h:aBT G (aF s) d size z x=some st')(f:∀b,aF b=st'->K b):WR P G k [⟨d,.clr size z x,none⟩] K s:=by
 unfold aBT at h;have e:(aF s).sl=s.sl:=rfl;rw[e] at h;cases a:aM G s.sl x with
 |one c=>
  rw[a] at h;cases c with
  |bls id k0 n sz=>
   grind[aOC,Si]
  |bld id n=>exact Si (.inr ⟨rfl,a⟩) h f
  |_=>cases h
 |_=>rw[a] at h;cases h
theorem Sk{d:Option Nat}{x y:aI}(h:aBU G (aF s) d x y=some st')(e:∀i,aF i=st'->K i):WR P G k [⟨d,.cpys x y,none⟩] K s:=by
 unfold aBU at h;have j:(aF s).sl=s.sl:=rfl;rw[j] at h;unfold aOD at h;split at h;rename_i id q n z sv f g;split at h;rename_i p;subst p;have l:aL (aF s).hp id=aR (aL s.hp id):=bL id;rw[l] at h;cases a:aL s.hp id with
 |arr c sz es=>
  rw[a] at h;simp only[aR,aEO] at h;split at h;rename_i b;obtain⟨rfl,b⟩:=b;injection h with h;refine WR.cpyA (o:=⟨d,.cpys x y,none⟩) trivial rfl f g a b (WR.nil (e _ ?_))
  simp_all[aF,aR,aZN]
  cases h
 |dead=>rw[a] at h;cases h
 |box cs=>
  rw[a] at h;simp only[aR,aEO] at h;split at h;rename_i b;injection h with h
  refine WR.cpys (o:=⟨d,.cpys x y,none⟩) trivial rfl f g a b (WR.nil (e _ ?_));simp_all[aF,aR,aZN];cases h
 cases h;cases h
theorem Sl{d:Option Nat}{x:aI}(h:aBV G (aF s) d x=some st')(e:∀b,aF b=st'->K b):WR P G k [⟨d,.cvsb x,none⟩] K s:=by
 unfold aBV at h;have c:(aF s).sl=s.sl:=rfl;rw[c] at h;cases a:dN (aM G s.sl x) with
 |none=>rw[a] at h;cases h
 |some sv=>
  rw[a] at h;injection h with h
  exact WR.cvsb (o:=⟨d,.cvsb x,none⟩) trivial rfl a (WR.nil (e _ (by rw[<- h];rfl)))
theorem aE2{d:Option Nat}{x:aI}(h:aJJ d (aF s) (dN (aM G (aF s).sl x))=some st')(e:∀b,aF b=st'->K b):WR P G k [⟨d,.cvsb x,none⟩] K s:=by
 have c:(aF s).sl=s.sl:=rfl;rw[c] at h;cases a:dN (aM G s.sl x) with
 |none=>rw[a] at h;cases h
 |some sv=>
  rw[a] at h;injection h with h
  exact WR.cvsA (o:=⟨d,.cvsb x,none⟩) trivial rfl a (fun cap=>WR.nil (e _ (by simp_all[aF,aR])))
theorem aJV{d:Option Nat}{size bytes:Nat}{z:List Value}{x y:aI}(h:mbK d size bytes (aF s) z (bH (aM G (aF s).sl x)) (bH (aM G (aF s).sl y))=some st')(g:∀b,aF b=st'->K b):WR P G k [⟨d,.mk size bytes z x y,none⟩] K s:=by
 have c:(aF s).sl=s.sl:=rfl;rw[c] at h;unfold mbK at h;split at h;rename_i v n m e f;split at h;rename_i j;obtain⟨rfl,a,i⟩:=j;injection h with h;exact WR.mkB (o:=⟨d,.mk 1 bytes [v] x y,none⟩) trivial rfl e f a i (WR.nil (g _ (by simp_all[aF,aR])))
 cases h;cases h
theorem G6(b:cJ P G call){l:List aO}{d:Option Nat}{c:AI}(h:mU call G (aF s) l d c=some st')(e:∀j,aF j=st'->K j):WR P G k [⟨d,c,none⟩] K s:=by
 have g:c.isCall=false->G3 G (aF s) d c=some st'->WR P G k [⟨d,c,none⟩] K s:=by
  intro t h;rw[show G3 G (aF s) d c=exX G (aF s) ⟨d,c,none⟩ from B5 G (aF s) ⟨d,c,none⟩] at h
  obtain⟨j,n,p⟩:=Sh h;exact WR.exX (o:=⟨d,c,none⟩) trivial t n (WR.nil (e _ p))
 cases c<;>first|exact g rfl h|skip
 case call f xs=>exact aJU b h e
 case callv x xs=>exact Zp b h e
 case mk size bytes z x y=>exact Zq h e
 case clr size z x=>exact Sj h e
 case cpys x y=>exact Sk h e
 case cvsb x=>exact Sl h e
 case app size bytes z a x=>exact uT.run (o:=⟨d,.app size bytes z a x,none⟩) trivial (Zl h e)
 case apps a x=>cases h
 case bslc size len z ps=>
  simp only[mU] at h;obtain⟨u,i,r⟩:=gE (k:=k) (Ix G (aF s).sl ps) s;cases q:aJI d l with
  |true=>
   rw[q] at h;simp only[bsZ,<- r] at h;obtain⟨j,n,p⟩:=Sh (o:=⟨d,.bslc size len z ps,none⟩) h;exact WR.ghost i (WR.exX (o:=⟨d,.bslc size len z ps,none⟩) trivial rfl n (WR.nil (e _ p)))
  |false=>
   rw[q] at h;simp only[bsZ,<- r] at h;exact WR.ghost i (uT.run (o:=⟨d,.bslc size len z ps,none⟩) trivial (Zm h e))
theorem I5{g:Nat}{b:Bool}(h:gK b (aM G (aF s).sl (.t g))=some true):kB G s (some (g,b)):=aJr (st:=aF s) h
theorem I6{g:Nat}{b:Bool}(h:gK b (aM G (aF s).sl (.t g))=some false):Gf G s (some (g,b)):=aEB (st:=aF s) h
theorem Sm(b:cJ P G call){L:List Nat}{d:Option Nat}{e:AI}(h:Sb call G L (aF s) d e=some st')(c:∀p,aF p=st'->K p):WR P G k [⟨d,e,none⟩] K s:=by
 cases e with
 |call f j=>
  simp only[Sb] at h;cases l:Oq L (f+100000) with
  |false=>
   rw[l] at h;obtain⟨J,objs,av,C,B,q,t,u,v,w,A⟩:=rU (Au b) h;exact WR.call (o:=⟨d,.call f j,none⟩) trivial rfl q t u v w (fun a o g=>WR.nil (c _ (A a o g)))
  |true=>
   rw[l] at h;simp only[aEP] at h;cases i:call f (Db G (aF s) j) [] with
   |none=>rw[i] at h;cases h
   |some r=>
    obtain⟨av,os⟩:=r;rw[i] at h;cases os with
    |cons o os=>cases h
    |nil=>
     simp only[vpK] at h;cases n:mS av with
     |false=>simp_all
     |true=>
      rw[n] at h;injection h with h
      exact WR.callP (o:=⟨d,.call f j,none⟩) trivial rfl (Zo b i) n rfl (WR.nil (c _ (by rw[<- h];rfl)))
 |mk size bytes z x y=>exact aJV h c
 |cvsb x=>exact aE2 h c
 |_=>cases h
theorem Zr(a:cJ P G call){l:List aO}{o:aO}{h:AS}(c:Wg call G (aF s) l o.dst o.ai o.guard=some h)(next:∀f,aF f=h->WR P G k l K f):WR P G k (o::l) K s:=by
 obtain⟨d,i,g⟩:=o;cases g with
 |none=>exact WR.cons (G6 a c next)
 |some g=>
  simp only[Wg] at c;cases e:gK g.2 (aM G (aF s).sl (.t g.1)) with
  |none=>rw[e] at c;cases c
  |some b=>
   rw[e] at c;cases b with
   |true=>exact WR.cons (WR.guard (I5 e) rfl (G6 a c next))
   |false=>
    injection c with c
    exact WR.skip (I6 e) (next _ (by rw[<- c];rfl))
theorem aE3(a:cJ P G call):∀(ops:List aO)(s:AS)(st':AS),evR call G ops (some (aF s))=some st'->WR P G k ops (fun c=>aF c=st') s
 |[],s,st',h=>by simp only[evR,Option.some.injEq] at h;exact WR.nil h
 | o::l,s,st',h=>by
   simp only[evR] at h;cases b:Wg call G (aF s) l o.dst o.ai o.guard with
   | none=>rw[b] at h;cases l<;>cases h
   | some e=>
     rw[b] at h;exact Zr a b (fun c d=>aE3 a l c st' (by simp_all))
theorem Zs(a:cJ P G call){L:List Nat}:∀(ops:List aO)(s:AS)(st':AS),Gm call G L ops (some (aF s))=some st'->WR P G k ops (fun s'=>aF s'=st') s
 |[],s,st',h=>by grind[Gm,Option.some.injEq,WR.nil]
 | o::l,s,st',h=>by
   simp only[Gm] at h;cases b:Iy call G L (aF s) l o.dst o.ai o.guard (kQ L o.ai o.guard) with
   | none=>rw[b] at h;cases l<;>cases h
   | some f=>
     rw[b] at h;have next:∀ s',aF s'=f->WR P G k l (fun s'=>aF s'=st') s':=fun s' c=>Zs a l s' st' (by rw[c];exact h)
     cases e:kQ L o.ai o.guard with
     | false=>rw[e] at b;exact Zr a b next
     | true=>
       rw[e] at b;obtain⟨d,i,g⟩:=o;cases g with
       | some g=>grind[kQ]
       | none=>exact WR.cons (Sm a b next)
theorem aSM(c:cJ P G call){L:List Nat}{l:List aO}{o:aO}{s1:AS}(a:Iy call G L (aF s) l o.dst o.ai o.guard (kQ L o.ai o.guard)=some s1)(next:∀q,aF q=s1->K q):AN P G k o K s:=by
 obtain⟨d,e,g⟩:=o;unfold AN;simp only at a ⊢;split;rename_i hp;have n:kQ L e g=false:=by cases e<;>first|rfl|cases hp
 rw[n] at a;simp only[Iy] at a;have i:∀{s1},mU call G (aF s) l d e=some s1->∃v,dJ G s e=some v/\aF ⟨aS s.sl d v,s.hp⟩=s1:=by
  intro s1 h;have j:G3 G (aF s) d e=some s1:=by cases e<;>first|exact h|cases hp
  rw[show G3 G (aF s) d e=exX G (aF s) ⟨d,e,none⟩ from B5 G (aF s) ⟨d,e,none⟩] at j
  have h3:(dJ G (aF s) e).map (fun v=>(⟨aS (aF s).sl d v,(aF s).hp⟩:AS))=some s1:=by cases e<;>first|exact j|cases hp
  rw[rS] at h3;obtain⟨v,h4,h5⟩:=Option.map_eq_some_iff.1 h3;exact⟨v,h4,h5⟩
 cases g with
 |none=>
  obtain⟨v,p,j⟩:=i a;exact .inr ⟨trivial,v,p,next _ j⟩
 |some g=>
  simp only[Wg] at a;cases f:gK g.2 (aM G (aF s).sl (.t g.1)) with
  |none=>rw[f] at a;cases a
  |some b=>
   rw[f] at a;cases b with
   |true=>
    obtain⟨v,p,j⟩:=i a;grind[I5]
   |false=>
    injection a with a
    exact .inl ⟨I6 f,next _ (by rw[<- a];rfl)⟩
 cases n:kQ L e g with
 |true=>
  rw[n] at a;cases g with
  |some g=>grind[kQ]
  |none=>exact Sm c a next
 |false=>
  rw[n] at a;simp only[Iy] at a;cases g with
  |none=>exact G6 c a next
  |some g=>
   simp only[Wg] at a;cases f:gK g.2 (aM G (aF s).sl (.t g.1)) with
   |none=>rw[f] at a;cases a
   |some b=>
    rw[f] at a;cases b with
    |true=>exact WR.guard (I5 f) rfl (G6 c a next)
    |false=>
     injection a with a
     exact WR.skip (I6 f) (WR.nil (next _ (by rw[<- a];rfl)))
theorem aOL(e:cJ P G call){L:List Nat}{n0:Nat}{ops:List aO}:∀(t:IT)(s st':AS),F6 call G L n0 ops t (some (aF s))=some st'->TW P G k ops (fun b=>∃p,pOK n0 b.hp.length p/\aF (prm p b)=st') t s:=by
 have a:∀ (t:IT),(∀ (s st':AS),F6 call G L n0 ops t (some (aF s))=some st'->TW P G k ops (fun b=>∃ p,pOK n0 b.hp.length p/\aF (prm p b)=st') t s)->∀ (s st':AS) (i:Nat),
     F6 call G L n0 ops t (Iy call G L (aF s) ops (iW ops i).dst (iW ops i).ai (iW ops i).guard (kQ L (iW ops i).ai (iW ops i).guard))=some st'->AN P G k (iW ops i) (TW P G k ops (fun b=>∃ p,pOK n0 b.hp.length p/\aF (prm p b)=st') t) s:=by
   intro t j s st' i h;cases w:Iy call G L (aF s) ops (iW ops i).dst (iW ops i).ai (iW ops i).guard (kQ L (iW ops i).ai (iW ops i).guard) with
   | none=>rw[w] at h;cases t<;>cases h
   | some z=>
     grind[aSM]
 intro t
 induction t with
 |nil=>intro s st' h;simp only[F6,Option.some.injEq] at h;exact⟨[],(fun x c=>by cases c),h⟩
 |stop=>intro s st' h;cases h
 |st i t j=>exact fun s st' h=>a t j s st' i h
 |br i t r d g=>
  intro s st' h;simp only[F6] at h;cases f:N6 r with
  |true=>
   rw[f] at h;refine⟨a t d s st' i h,?_⟩;cases r<;>simp[N6] at f;trivial
  |false=>
   rw[f] at h;obtain⟨o,l,p,u,h3,h4⟩:=I0 h;refine⟨a t d s st' i o,TW.mono (fun b ⟨q,n,y⟩=>?_) r s (g s l u)⟩
   have v:l.hp.length=b.hp.length:=by grind[R8,Y4]
   refine⟨q++p,fun x c=>?_,?_⟩
   rcases bAB.1 c with c|c;exact n x c;rw[<- v];exact h3 x c;grind[Y5,R7]
theorem aJW{ai:AI}:dJ G ⟨(aF s).sl,N0 ai (aF s).hp⟩ ai=dJ G ⟨s.sl,N0 ai s.hp⟩ ai:=by
 cases ai<;>first|rfl|exact rS (s:=⟨s.sl,s.hp⟩)
theorem aE4(g:cJ P G call){d:Option Nat}{b:AI}(h:Cn call G (aF s) d b=some st'):∃v,(dJ G ⟨s.sl,N0 b s.hp⟩ b=some v\/∃f j e r,b=.call f j/\QC P G f e r/\∀n,j.map (aM G s.sl)=e.map (dO (cQ [] n))/\v=dO (cQ [] n) r)/\(⟨aS (aF s).sl d v,(aF s).hp⟩:AS)=st':=by
 have p:gO (aF s) d (evX G (aF s).sl (N0 b (aF s).hp) b)=some st'->∃v,dJ G ⟨s.sl,N0 b s.hp⟩ b=some v/\(⟨aS (aF s).sl d v,(aF s).hp⟩:AS)=st':=by
  intro h;rw[aEv,aJW] at h;cases t:dJ G ⟨s.sl,N0 b s.hp⟩ b with
  |none=>rw[t] at h;cases h
  |some v=>rw[t] at h;injection h with h;simp_all
 have y:(∀ f c,b≠.call f c)->∃ v,dJ G ⟨s.sl,N0 b s.hp⟩ b=some v/\(⟨aS (aF s).sl d v,(aF s).hp⟩:AS)=st':=fun A=>p (by
   cases b<;>first | exact h | simp_all)
 by_cases w:∃f c,b=.call f c;obtain⟨f,c,rfl⟩:=w;simp only[Cn] at h;cases x:(lN G (aF s).sl c).all (dH fun _=>true) with
 |false=>simp_all
 |true=>
  rw[x] at h;simp only[cond_true] at h;cases u:call f (lN G (aF s).sl c) [] with
  |none=>rw[u] at h;cases h
  |some r=>
   obtain⟨av,os⟩:=r;rw[u] at h;have l:∀ n,c.map (aM G s.sl)=(c.map (aM G s.sl)).map (dO (cQ [] n)):=fun n=>by
     conv=>lhs;rw[<- List.map_id (c.map (aM G s.sl))]
     refine aZC (fun v t=>(rnV v ?_).symm)
     rw[qS,List.all_map] at x;have:=bAr.1 x v t;rwa[Function.comp_apply,I4] at this
   cases os with
   |cons o os=>
    simp only[qcK,qcF] at h;generalize B:bG (fun id=>decide (0<=id)) ((bZ (kK av) ⟨[av],o::os⟩).sl.getD 0 .junk)=v at h
    cases i:dH (fun _=>true) v with
    |false=>simp_all
    |true=>
     rw[i] at h;injection h with h
     have q:QC P G f (lN G (aF s).sl c) v:=QC.quiet g (by
       grind[As])
     refine⟨v,.inr ⟨f,c,c.map (aM G s.sl),v,rfl,?_,fun n=>⟨l n,(rnV v i).symm⟩⟩,h⟩
     rw[qS] at q;exact AC.nzArgs q
   |nil=>
    simp only[qcK] at h;cases i:dH (fun _=>true) av with
    |false=>simp_all
    |true=>
     rw[i] at h;injection h with h
     obtain⟨_,q⟩:=g _ _ _ _ _ u [] rfl;refine⟨av,.inr ⟨f,c,c.map (aM G s.sl),av,rfl,?_,fun n=>⟨?_,(rnV av i).symm⟩⟩,h⟩
     rw[qS] at q;exact q.nzArgs.gh (fun a o ⟨z,C⟩ _=>⟨a,o,Gh.refl,aZx _,z,by simp_all⟩)
     grind
 simp_all
theorem aJX(b:cJ P G call){d:Option Nat}{p:AI}(h:ldZ call G (aF s) d p=some st')(g:∀C,aF C=st'->K C):uT P G k d p K s.sl s.hp:=by
 have F:∀{f l},dnZ call G d f l (aF s)=some st'->uT P G k d (.call f l) K s.sl s.hp:=by
  intro f l h;obtain⟨av,os,H,I,J,h3⟩:=aOK b h;refine⟨_,C0.of J (I _),⟨_,_,av,os,⟨rfl,H⟩,rfl,rfl⟩,?_⟩;rintro a o ⟨D,S,⟨rfl,h5⟩,rfl,rfl⟩;refine g _ ?_;rw[<- h3,<- h5];simp only[aF,aZQ,aZG];simp_all[aZC,pE]
 cases p<;>first|(cases h;done)|skip
 case call f l=>
  simp only[ldZ] at h;cases j:call f (Db G (aF s) l) [] with
  |none=>rw[j] at h;cases h
  |some r=>
   obtain⟨av,os⟩:=r;rw[j] at h;cases os with
   |nil=>
    simp only[dvK] at h;cases B:mS av with
    |true=>
     rw[B] at h;injection h with h
     refine⟨_,C0.viewP (Zo b j) B (by simp_all),⟨av,[],rfl,rfl⟩,?_⟩;rintro a o ⟨rfl,rfl⟩;rw[aZ9];exact g _ (by rw[<- h];rfl)
    |false=>simp_all
   |cons o os=>exact F h
 case callv x l=>exact Zp b h g
 case mk size bytes z x y=>exact Zq h g
 case clr size z x=>exact Sj h g
 case cpys x y=>exact Sk h g
 case cvsb x=>exact Sl h g
 case app size bytes z a x=>exact Zl h g
 case bslc size len z ps=>exact Zm h g
 case alloc z=>
  simp only[ldZ,G3,Option.some.injEq] at h;exact g _ (by simp_all[aF,aR])
 case box x=>
  simp only[ldZ,G3] at h;cases j:cellsOf (aM G (aF s).sl x) with
  |none=>rw[j] at h;cases h
  |some cs=>rw[j] at h;injection h with h;exact⟨cs,j,g _ (by simp_all[aF,aR])⟩
 case store size x v=>
  simp only[ldZ,G3] at h;cases d with
  |some d=>cases h
  |none=>
   refine⟨rfl,?_⟩;simp only[stD,stX,show (aF s).sl=s.sl from rfl] at h
   split at h;rename_i id off A
   left
   split at h;rename_i vs w;split at h;rename_i cs n;rw[aF,bL] at n;split at h;rename_i j;injection h with h
   exact⟨id,off,cs,vs,A,w,rT n,j.1,j.2,g _ (by simp_all[aF,aR,aZN])⟩;cases h;cases h;cases h;rename_i id i z off A
   right
   split at h;rename_i E w;split at h;rename_i c T es n;rw[aF,bL] at n;obtain⟨cap,q,rfl⟩:=pF n;split at h;rename_i e O;split at h;rename_i j;injection h with h
   obtain⟨rfl,t,u⟩:=j;obtain⟨cs,M,N⟩:=aZT.1 w;exact⟨id,i,z,off,cap,es,e,E,A,by grind[oV],q,O,t,u,g _ (by simp_all[aF,aR,aZN])⟩;cases h;cases h;cases h;cases h;cases h
theorem Zt(a:cJ P G call):∀(ops:List (Bool×aO)) (s:AS) (st':AS),Gn call G ops (some (aF s))=some st'->kH P G k (fun s'=>aF s'=st') ops s
 |[],s,st',h=>by simp only[Gn,Option.some.injEq] at h;exact h
 | (q,o)::l,s,st',h=>by
   simp only[Gn] at h;cases c:drO call G (aF s) q o.dst o.ai o.guard with
   | none=>rw[c] at h;cases l<;>cases h
   | some j=>
     rw[c] at h;have next:∀ s',aF s'=j->kH P G k (fun s'=>aF s'=st') l s':=fun s' r=>Zt a l s' st' (by simp_all)
     have i:kB G s o.guard->drZ call G (aF s) o.dst o.ai q=some j->kH P G k (fun s'=>aF s'=st') ((q,o)::l) s:=by
       intro e f;cases q with
       | true=>
         obtain⟨v,n,p⟩:=aE4 a f;exact⟨v,.inr ⟨e,n⟩,next _ (by rw[<- p];rfl)⟩
       | false=>exact .inr ⟨e,aJX a f next⟩
     cases d:o.guard with
     | none=>rw[d] at c;exact i (by rw[d];trivial) c
     | some g=>
       rw[d] at c;simp only[drO] at c;cases e:gK g.2 (aM G (aF s).sl (.t g.1)) with
       | none=>rw[e] at c;cases c
       | some b=>
         rw[e] at c;cases b with
         | true=>exact i (by grind[I5]) c
         | false=>
           injection c with c
           exact WD.skip (by grind[I6]) (next _ (by rw[<- c];rfl))
theorem Zu{sl:List AV}:∀{c:List aI}{x:aI}{id:Nat},x∈c->id∈Qr (aM G sl x)->id∈fpA G sl c
 | y::c,x,id,b,a=>by
   rw[fpA,bAB];rcases bAl.1 b with rfl | b
   · exact .inl a
   · exact .inr (Zu b a)
theorem G7(s:AS)(id:Nat):(aF s).hp[id]?=(s.hp[id]?).map aR:=by simp[aF]
theorem aE5(q:cJ P G call){o:aO}{r:Nat}{s1:AS}{f:FP}(E:k<=r)(i:kB G s o.guard)(h:Lg call G (aF s) o.dst r o.ai=some (s1,f)):∃v u,kZ P G k o s v u f.2/\wrU u=f.1/\aF (L6 o s v u)=s1:=by
 have N:o.ai.isPure=true->Vj (fpA G (aF s).sl (bK o.ai)) (mU call G (aF s) [] o.dst o.ai)=some (s1,f)->mU call G (aF s) [] o.dst o.ai=G3 G (aF s) o.dst o.ai->(∀ st':AS,G3 G st' o.dst o.ai=(dJ G st' o.ai).map fun v=>⟨aS st'.sl o.dst v,st'.hp⟩)->∃ v u,kZ P G k o s v u f.2/\wrU u=f.1/\aF (L6 o s v u)=s1:=by
   intro _ h S T;rw[S,T,rS] at h;cases w:dJ G s o.ai with
   | none=>rw[w] at h;cases h
   | some v=>
     rw[w] at h;simp only[aZf,Vj,Option.some.injEq,Prod.mk.injEq] at h;obtain⟨t,p⟩:=h;subst p;exact⟨v,none,.pur v _ i w (fun x M id U=>Zu M U),rfl,by rw[<- t];rfl⟩
 have ex:∀ st':AS,o.ai.isPure=true->G3 G st' o.dst o.ai=(dJ G st' o.ai).map fun v=>⟨aS st'.sl o.dst v,st'.hp⟩:=by
   grind[B5,exX,AI.isPure]
 cases b:o.ai with
 |alloc z=>
  rw[b] at h;simp only[Lg,G7] at h;cases e:s.hp[r]? with
  |none=>rw[e] at h;cases h
  |some C=>
   rw[e] at h;cases C with
   |dead=>
    simp only[aZf,aR,fvN,Option.some.injEq,Prod.mk.injEq] at h;obtain⟨t,p⟩:=h;subst p;exact⟨_,_,.alloc z r i b e E,rfl,by simp_all[aF,L6,C4,aR,aZN]⟩
   |box cs=>cases h
   |arr c sz es=>cases h
 |store size x v=>
  rw[b] at h;simp only[Lg] at h;unfold fvS at h;split at h;rename_i id off vs M w;cases H:o.dst with
  |some d=>simp_all
  |none=>
   rw[H] at h;simp only[G7] at h;cases e:s.hp[id]? with
   |none=>rw[e] at h;cases h
   |some C=>
    rw[e] at h;cases C with
    |dead=>cases h
    |arr c sz es=>cases h
    |box cs=>
     simp only[aZf,aR,fvT] at h;split at h;rename_i D;simp only[Option.some.injEq,Prod.mk.injEq] at h;obtain⟨t,p⟩:=h;subst p;exact⟨_,_,.store size x v id off cs vs i b H M w e D.1 D.2,rfl,by simp_all[aF,L6,C4,aR,aZN,aS]⟩;cases h
  cases h
 |bslc size len z W=>
  rw[b] at h;simp only[Lg] at h;cases len with
  |zero=>cases h
  |succ len=>
   simp only[fvL] at h;cases l:bsX G (aF s) o.dst size (len+1) z W with
   |none=>rw[l] at h;cases h
   |some s2=>
    rw[l] at h;simp only[Vj,Option.some.injEq,Prod.mk.injEq] at h;obtain⟨t,p⟩:=h;subst p;unfold bsX at l;simp only at l;cases hf:iV (zs z ((len+1)*size)) (W.map fun (j,x)=>(j*size,size,aM G (aF s).sl x)) with
    |none=>simp_all
    |some cs=>
     simp only[hf,aZs] at l;cases H:dcs cs with
     |none=>simp_all
     |some Y=>
      simp only[H,aZs] at l;split at l;rename_i V;injection l with l
      obtain⟨g1,g2,g3⟩:=nA size (len+1) Y V;rw[Mg] at hf;exact⟨_,none,.lit size (len+1) z W (gZ size (len+1) Y) i b (by rw[g1,<- oV H];exact hf) g2 g3,rfl,by rw[<- t,<- l];rfl⟩;grind
 |cpys x y=>
  rw[b] at h;simp only[Lg] at h;unfold fvY at h;split at h;rename_i id lo n z bs M hy;split at h;rename_i hz;subst hz;rw[G7] at h;cases e:s.hp[id]? with
  |none=>rw[e] at h;cases h
  |some C=>
   rw[e] at h;cases C with
   |dead=>cases h
   |arr c z es=>cases h
   |box cs=>
    simp only[aZf,aR,aJK] at h;split at h;rename_i D;simp only[Option.some.injEq,Prod.mk.injEq] at h;obtain⟨t,p⟩:=h;subst p;exact⟨_,_,.cpy x y id lo n bs cs i b M hy e D,rfl,by simp_all[aF,L6,C4,aR,aZN]⟩;cases h
  cases h;cases h
 |call g O=>
  rw[b] at h;simp only[Lg] at h;generalize ((O.map (aM G (aF s).sl)).flatMap kK)=J at h
  match J with
  |[]=>
   simp only[fvC] at h;cases l:Cn call G (aF s) o.dst (.call g O) with
   |none=>rw[l] at h;cases h
   |some s2=>
    rw[l] at h;simp only[Vj,Option.some.injEq,Prod.mk.injEq] at h;obtain⟨t,p⟩:=h;subst p;obtain⟨v,w,he⟩:=aE4 q l;rcases w with w|⟨f',F,A,r',S,T,e3⟩
    grind[dJ]
    exact⟨v,none,.call f' F A r' v i (b.trans S) T e3,rfl,by rw[<- t,<- he];rfl⟩
  |[id]=>
   simp only[fvC,G7] at h;cases e:s.hp[id]? with
   |none=>rw[e] at h;cases h
   |some C=>
    rw[e] at h;cases C with
    |dead=>cases h
    |arr c z es=>cases h
    |box cs=>
     simp only[aZf,aR,fvB] at h;cases E:(keepL (fun _=>true) cs&&(O.map (aM G (aF s).sl)).all (dH (lL [id]))) with
     |false=>grind
     |true=>
      rw[E] at h;simp only[cond_true] at h;simp only[aZq] at E;unfold aEQ at h;split at h;rename_i B D;cases I:keepL (fun _=>true) B with
      |false=>simp_all
      |true=>
       rw[I] at h;simp only[cond_true,Option.some.injEq,Prod.mk.injEq] at h;obtain⟨t,p⟩:=h;subst p;obtain⟨_,hA⟩:=Au q _ _ _ _ _ D [.box cs] rfl;refine⟨.tup [],some (id,.box B),.callB g O _ id cs B i b e (hA.gh (fun a Z ⟨q1,X⟩ V=>⟨a,Z,Gh.refl,V,q1,?_⟩)) (fun n=>?_) (fun n=>⟨?_,?_⟩),rfl,by rw[<- t];simp[aF,L6,C4,aR,aZN]⟩
       obtain⟨x,rfl⟩:=List.length_eq_one_iff.1 (by have:=congrArg List.length X;simpa using this:Z.length=1);simp only[aZl,aZm,List.cons.injEq,and_true] at X;rw[rT X]
       ·rw[aZG]
        conv=>lhs;rw[<- List.map_id (O.map (aM G s.sl))]
        exact aZC (fun v w=>(rtV v (bAr.1 E.2 v w)).symm)
       simp only[eL,<- pS,rnL _ E.1];simp only[eL,<- pS,rnL _ I]
      cases h
  |_::_::_=>cases h
 |_=>
  rw[b] at h;first
   |(refine N (by rw[b];rfl) (by rw[b];exact h) (by rw[b];rfl) (fun st'=>ex st' (by rw[b];rfl)))
   |(cases h;done)
theorem aOM(a:cJ P G call){o:aO}{r:Nat}{s1:AS}{f:FP}(e:k<=r)(h:fvO call G (aF s) o.dst r o.ai o.guard=some (s1,f)):∃v u,kZ P G k o s v u f.2/\wrU u=f.1/\aF (L6 o s v u)=s1:=by
 cases c:o.guard with
 |none=>rw[c] at h;exact aE5 a e (by rw[c];trivial) h
 |some g=>
  rw[c] at h;simp only[fvO] at h;cases d:gK g.2 (aM G (aF s).sl (.t g.1)) with
  |none=>rw[d] at h;cases h
  |some b=>
   rw[d] at h;cases b with
   |true=>exact aE5 a e (by rw[c];exact I5 d) h
   |false=>
    simp only[fvG,Option.some.injEq,Prod.mk.injEq] at h;obtain⟨i,j⟩:=h;subst j;exact⟨_,none,.skip (by rw[c];exact I6 d),rfl,by rw[<- i];rfl⟩
theorem aE6(b:cJ P G call){c:List (Nat×Nat)}:∀(ops:List aO)(a:List FP)(r:Nat)(s:AS)(st':AS),k<=r->Wh call G c a r ops (some (aF s))=some st'-> ∃L:List FE,L.map (·.1)=ops/\mD P G k (fun w=>aF w=st') L s/\Lh c (a++L.map (·.2))=true
 | [],a,r,s,st',g,h=>by
   simp only[Wh] at h;cases d:Lh c a with
   | false=>rw[d] at h;cases h
   | true=>
     rw[d] at h;injection h with h
     exact⟨[],rfl,h,by simpa using d⟩
 | o::ops,a,r,s,st',g,h=>by
   simp only[Wh] at h;cases e:fvO call G (aF s) o.dst r o.ai o.guard with
   | none=>rw[e] at h;cases h
   | some q=>
     obtain⟨x,f⟩:=q;rw[e] at h;obtain⟨v,u,p,t,n⟩:=aOM b g e;simp only[<- n] at h;obtain⟨L,j,l,i⟩:=aE6 b ops (a++[f]) _ (L6 o s v u) st' (by cases aBZ o.ai<;>simp<;>omega) h;exact⟨(o,f)::L,by simp[j],⟨v,u,f.2,p,t,rfl,l⟩,by simpa using i⟩
theorem Zv:∀(L:List Nat)(n:Nat),Sc L n=L.contains n
 |[],n=>rfl
 | x::L,n=>by
   rw[Sc,Zv L n,jT,List.contains_cons]
theorem Zw:∀(a b:List Nat),Gp a b=uV a b
 |[],b=>rfl
 |x::a,b=>by rw[Gp,Zw a b,Zv];rfl
theorem Wm:∀(a:List FE)(n:Nat),atF (a.map (·.2)) n=(a.getD n pP).2
 |[],n=>by cases n<;>rfl
 |f::a,0=>rfl
 |f::a,n+1=>by rw[aZl,atF,Wm a n];simp[aZo]
theorem aB3{a b c:List Nat}:uV a (b++c)=(uV a b&&uV a c):=by
 unfold uV;rw[bAv];simp only[bAr,aZq,bAb,List.contains_eq_mem,decide_eq_false_iff_not,bAB,not_or];exact⟨fun h=>⟨fun x d=>(h x d).1,fun x d=>(h x d).2⟩,fun h x d=>⟨h.1 x d,h.2 x d⟩⟩
theorem Zx{L:List FE}:∀(c:List (Nat×Nat)),Lh c (L.map (·.2))=true->∀p∈c,dsj (L.getD p.1 pP).2 (L.getD p.2 pP).2=true
 |[],_,p,hp=>by cases hp
 | (a,b)::c,h,p,hp=>by
   simp only[Lh,aZq] at h;rcases bAl.1 hp with rfl | hp
   · have d:=h.1
     rw[Wm,Wm] at d;show dsj (L.getD a pP).2 (L.getD b pP).2=true;revert d;generalize (L.getD a pP).2=x;generalize (L.getD b pP).2=y;obtain⟨w,r⟩:=x;obtain⟨w',e⟩:=y;intro d;simp only[dsM,Zw] at d;simp only[dsj,aB3];simp only[aZq] at d ⊢;exact⟨⟨d.1,d.2.1⟩,d.2.2⟩
   · exact Zx c h.2 p hp
theorem Sn:∀n,Dd n=List.replicate n .dead
 |0=>rfl
 |n+1=>by rw[Dd,Sn n,List.replicate_succ]
theorem Wn(a:cJ P G call){b:List (Nat×Nat)}{ops:List aO}{s st':AS}(j:k<=s.hp.length)(h:Wh call G b [] (aF s).hp.length ops (some ⟨(aF s).sl,(aF s).hp++Dd (nAl ops)⟩)=some st'){Q:Exit->AS->Prop}(g:∀c,aF c=st'->Q .normal c):AW P G k (.drawnF b ops) Q s:=by
 refine AW.ghost (Gh.dead (nAl ops)) ?_;have e:(⟨(aF s).sl,(aF s).hp++Dd (nAl ops)⟩:AS)=aF ⟨s.sl,s.hp++List.replicate (nAl ops) .dead⟩:=by
  simp[aF,Sn,aR]
 rw[e] at h;obtain⟨L,f,i,d⟩:=aE6 a ops [] _ _ st' (by simpa[aF] using j) h;exact AW.drawnF f (Zx b (by simpa using d)) (mD.mono g i)
end
end
section
section
variable {P:Program}{G:aE}{k:Nat}{st st' s:AS}{call:aN}
theorem aON(g:GH)(s:AS):∃b,Gh k s b/\aF b=ghE g (aF s):=by
 cases g with
 |nil d sz=>
  simp only[ghE,ghN];split;rename_i a;refine⟨_,Gh.nil (d:=d) sz ?_,by simp[aF,aR]⟩;rw[show (aF s).sl=s.sl from rfl,aZo] at a
  cases h:s.sl[d]? with
  |none=>rw[h] at a;cases a
  |some x=>rw[h] at a;simp only[aZU] at a;rw[a]
  exact⟨s,Gh.refl,rfl⟩
 |nilB d j sz=>
  simp only[ghE,ghB];split;rename_i id off a;simp only[aF,bL];unfold aJF;split;rename_i cs c;unfold aJE;split;rename_i e;exact⟨_,Gh.nilB sz (rT c) e,by simp[aF,aR,aZN]⟩;exact⟨s,Gh.refl,rfl⟩;exact⟨s,Gh.refl,rfl⟩;exact⟨s,Gh.refl,rfl⟩
 |frz d=>exact gE _ s
 |bv d=>exact zW _ s
theorem aE7(m:Nat)(c:aU):ctC m c=cO (fun id=>decide (m<=id)) c:=by
 cases c<;>simp only[ctC,cO,aU.keep,if_true]
 case ptr j o=>by_cases h:m<=j<;>simp[h]
 case bld j n=>by_cases h:m<=j<;>simp[h]
 case ept j i s o=>by_cases h:m<=j<;>simp[h]
 case bls j i s o=>by_cases h:m<=j<;>simp[h]
theorem Dg(m:Nat):∀cs,Gq m cs=cs.map (cO fun id=>decide (m<=id))
 |[]=>rfl
 |c::cs=>by simp[Gq,aE7,Dg m cs]
theorem aOO(m:Nat)(v:AV):ctV m v=bG (fun id=>decide (m<=id)) v:=by
 cases v<;>simp only[ctV,bG,aE7,Dg]
theorem aOP(m:Nat)(o:aD):ctO m o=cU (fun id=>decide (m<=id)) o:=by
 cases o<;>simp only[ctO,cU,Dg]
theorem aE8(m:Nat):∀(n:Nat)(l:List aD),ctH m n l=(l.take n).map (cU fun id=>decide (m<=id))
 |0,l=>by simp[ctH]
 |n+1,[]=>by simp[ctH]
 |n+1,o::os=>by simp[ctH,aOP,aE8 m n os]
theorem Ou(m:Nat):∀(l:List AV)(L:List Nat),SLe (l.map (bG fun id=>decide (m<=id))) (ctS m L l)
 |[],[]=>trivial
 |[],_::_=>trivial
 |x::a,[]=>⟨.junk _,Ou m a []⟩
 |x::a,0::L=>⟨by rw[aOO];exact .refl _,Ou m a L⟩
 |x::a,(n+1)::L=>⟨.junk _,Ou m a (n::L)⟩
theorem Ov(L:List Nat)(m:Nat)(a:k<=m)(s:AS):Gh k s (lA L m s):=Gh.dropS m a (Ou m s.sl L) (aE8 m m s.hp).symm
theorem aB4(m:Nat)(o:aD):aR (ctO m o)=ctO m (aR o):=by cases o<;>rfl
theorem Ml(m:Nat):∀(n:Nat)(l:List aD),(ctH m n l).map aR=ctH m n (l.map aR)
 |0,l=>by simp[ctH]
 |n+1,[]=>by simp[ctH]
 |n+1,o::os=>by simp[ctH,aB4,Ml m n os]
theorem E1(L:List Nat)(m:Nat)(s:AS):aF (lA L m s)=lA L m (aF s):=by
 simp only[aF,lA,Ml]
theorem AW.le{x:eK}{Q:Exit->AS->Prop}(h:k<=st.hp.length->AW P G k x Q st):AW P G k x Q st:=
 fun c e F γ a w b g f d=>h (by rw[<- b.len];exact d) c e F γ a w b g f d
theorem aNs(d:cJ P G call):∀(c:HC)(s:AS)(e:Exit)(st':AS),EC call G c (aF s)=some (e,st')->∀k,AW P G k c.er (fun v l=>v=e/\aF l=st') s:=by
 intro c
 induction c with
 |bad=>intro s e st' h k;simp only[EC] at h;cases h
 |skip=>intro s e st' h k;simp only[EC,Option.some.injEq,Prod.mk.injEq] at h;obtain⟨rfl,rfl⟩:=h;exact AW.skip ⟨rfl,rfl⟩
 |ret=>intro s e st' h k;simp only[EC,Option.some.injEq,Prod.mk.injEq] at h;obtain⟨rfl,rfl⟩:=h;exact AW.ret ⟨rfl,rfl⟩
 |exit id=>intro s e st' h k;simp only[EC,Option.some.injEq,Prod.mk.injEq] at h;obtain⟨rfl,rfl⟩:=h;exact AW.exit ⟨rfl,rfl⟩
 |region ops=>
  intro s e st' h k;simp only[EC] at h;obtain⟨r,o,j⟩:=lB h;injection j with j h3
  subst j;subst h3;exact AW.region ((aE3 d ops s st' o).mono (fun l h=>⟨rfl,h⟩))
 |regR L ops=>
  intro s e st' h k;simp only[EC] at h;obtain⟨r,o,j⟩:=lB h;injection j with j h3
  subst j;subst h3;exact AW.region ((Zs d ops s st' o).mono (fun l h=>⟨rfl,h⟩))
 |drawnT L t ops=>
  intro s e st' h k;simp only[EC] at h;obtain⟨r,o,j⟩:=lB h;injection j with j h3
  subst j;subst h3;refine AW.prm (AW.drawnT (TW.mono (fun l ⟨p,F,I⟩=>?_) t s (aOL d t s _ o)))
  exact⟨p,by rw[R8] at F;exact F,rfl,I⟩
 |drawnF N ops=>
  intro s e st' h k;simp only[EC] at h;obtain⟨r,o,j⟩:=lB h;injection j with j h3
  subst j;subst h3;exact AW.le (fun A=>Wn d A o (fun l h=>⟨rfl,h⟩))
 |drawn ops=>
  intro s e st' h k;simp only[EC] at h;obtain⟨r,o,j⟩:=lB h;injection j with j h3
  subst j;subst h3;exact AW.drawn (kH.mono (fun l h=>⟨rfl,h⟩) _ _ (Zt d ops s st' o))
 |seq a b f y=>
  intro s e st' h k;simp only[EC] at h;cases w:EC call G a (aF s) with
  |none=>rw[w] at h;cases h
  |some q=>
   obtain⟨B,r⟩:=q;rw[w] at h;refine AW.seq ((f s B r w k).mono ?_);rintro v l ⟨rfl,rfl⟩;cases v with
   |normal=>exact y l e st' h k
   |_=>simp only[Option.some.injEq,Prod.mk.injEq] at h;obtain⟨rfl,rfl⟩:=h;exact⟨rfl,rfl⟩
 |cond c a b f y=>
  intro s e st' h k;simp only[EC] at h;cases C:cP (aM G (aF s).sl c) with
  |none=>rw[C] at h;cases h
  |some t=>
   rw[C] at h;refine AW.cond C (fun E=>?_) (fun E=>?_)
   subst E;exact f s e st' h k;subst E;exact y s e st' h k
 |block id a f=>
  intro s e st' h k;simp only[EC] at h;cases w:EC call G a (aF s) with
  |none=>rw[w] at h;cases h
  |some q=>
   obtain⟨B,r⟩:=q;rw[w] at h;refine AW.block ((f s B r w k).mono ?_);rintro v l ⟨rfl,rfl⟩;cases v with
   |exit M=>
    simp only[Bg,aJL] at h ⊢;split at h;rename_i x;simp only[Option.some.injEq,Prod.mk.injEq] at h;obtain⟨rfl,rfl⟩:=h;rw[if_pos x];exact⟨rfl,rfl⟩;rename_i x;simp only[Option.some.injEq,Prod.mk.injEq] at h;obtain⟨rfl,rfl⟩:=h;rw[if_neg x];exact⟨rfl,rfl⟩
   |_=>simp only[Bg,aJL,Option.some.injEq,Prod.mk.injEq] at h;obtain⟨rfl,rfl⟩:=h;exact⟨rfl,rfl⟩
 |loop L a f=>
  intro s e st' h k;simp only[EC] at h;obtain⟨n,H⟩:=iH h;have J:(aF s).hp.length=s.hp.length:=by simp[aF]
  rw[J,<- E1] at H;refine AW.le (fun A=>?_)
  refine AW.loopG (α:=Nat×AS) (fun z=>z.2) (fun z=>K6 (EC call G a) L s.hp.length z.1 (aF z.2)=some (e,st')) (fun z=>z.1) (n,lA L s.hp.length s) H (Ov L _ A s) (fun z u=>?_)
  obtain⟨i,r⟩:=z;cases i with
  |zero=>simp[K6] at u
  |succ i=>
   simp only[K6] at u;cases D:EC call G a (aF r) with
   |none=>rw[D] at u;cases u
   |some q=>
    obtain⟨B,O⟩:=q;rw[D] at u;refine (f r B O D k).mono ?_;rintro v l ⟨rfl,rfl⟩;cases v with
    |normal=>
     simp only[<- E1] at u;exact Le.n (i,lA L s.hp.length l) u (Nat.lt_succ_self i) (Ov L _ A l)
    |_=>simp only[Option.some.injEq,Prod.mk.injEq] at u;obtain⟨rfl,rfl⟩:=u;unfold Le;exact⟨rfl,rfl⟩
 |gh g a f=>
  intro s e st' h k;simp only[EC] at h;obtain⟨l,o,j⟩:=aON (k:=k) g s;exact AW.ghost o (f l e st' (by rw[j];exact h) k)
 |trm L a f=>
  intro s e st' h k;simp only[EC] at h;refine AW.le (fun A=>?_)
  exact AW.ghost (Ov L _ A s) (f _ e st' (by rw[E1];simpa[aF] using h) k)
def Ow(P:Program)(T:HT):Prop:=∀f h,T.tab f=some h->Vq P f=true/\∃a,P.funcs[f]?=some a/\a.ntmps=h.nt/\a.body.bind (bN P)=some h.code.er/\a.results.toList.mapM (iG P)=some h.rs
theorem zX:∀(a:List Nat)(st:AS),(bZ a st).hp.length=st.hp.length
 |[],st=>rfl
 | id::r,st=>by
   simp only[bZ];split
   · rw[zX r];simp
   · exact zX r st
theorem I7{n:Nat}{o:List aD}:(o.take n).map aR=(o.map aR).take n:=aZZ
theorem aJY{T:HT}(X:Ow P T)(n:cJ P G call){f:FuncId}{h:HF}(hf:T.tab f=some h){c:List AV}{b:List aD}{av:AV}{o':List aD}(g:Wj call G h c (b.map aR)=some (av,o')):Vq P f=true/\AC P G f c b fun a o=>a=av/\o.map aR=o':=by
 obtain⟨ho,fn,S,U,V,W⟩:=X f h hf;refine⟨ho,?_⟩;unfold Wj at g;cases C:EC call G h.code ⟨c++tW (h.nt-c.length),b.map aR⟩ with
 |none=>rw[C] at g;cases g
 |some q=>
  obtain⟨e,r⟩:=q;rw[C] at g;simp only[qL,aY9] at g;split at g;rename_i j;cases I:uC r h.rs with
  |none=>rw[I] at g;cases g
  |some v=>
   rw[I] at g;simp only[Wi,Option.some.injEq] at g;have B:AC P G f c b (fun a o=>a=v/\o.map aR=r.hp):=by
     refine AC.of_codeJ S U V W ((aNs n h.code ⟨c++tW (h.nt - c.length),b⟩ e r C b.length).mono ?_);rintro N s' ⟨rfl,rfl⟩;unfold Fin;refine⟨?_,by simpa[aF] using j.2,v,by rw[<- Ex];exact I,rfl,rfl⟩;cases N<;>simp[Mc] at j ⊢
   unfold aOF at g;cases l:h.own with
   |true=>
    rw[l,cond_true] at g;refine AC.nz ?_;cases d:(dH (fun id=>decide (b.length<=id)) v&&(r.hp.take b.length).all (pQ fun id=>decide (b.length<=id))) with
    |true=>
     rw[d,cond_true] at g;simp only[Prod.mk.injEq] at g;obtain⟨rfl,rfl⟩:=g;simp only[aZq] at d;refine B.gh (fun a o ⟨z,p⟩ F=>?_)
     subst z;refine⟨a,o.take b.length, ?_,by simp only[aZd];omega,rfl,by rw[I7,p]⟩;have:=Gh.drop (k:=b.length) (as:=⟨[a],o⟩) b.length (aZe _);have O:(o.take b.length).map (cU fun id=>decide (b.length<=id))=o.take b.length:=by
       conv=>rhs;rw[<- List.map_id (o.take b.length)]
       refine aZC (fun x hx=>Iq ?_)
       have:=bAr.1 d.2 (aR x) (by rw[<- p,<- aZZ];exact List.mem_map.2 ⟨x,hx,rfl⟩);rwa[uZ] at this
     simpa[Ip d.1,O] using this
    |false=>
     rw[d,cond_false] at g;simp only[Prod.mk.injEq] at g;obtain⟨rfl,rfl⟩:=g;exact B.gh (fun a o ⟨z,p⟩ F=>⟨a,o,Gh.refl,F,by rw[z],p⟩)
   |false=>
    rw[l,cond_false] at g;simp only[Prod.mk.injEq] at g;obtain⟨rfl,rfl⟩:=g;refine AC.nz ?_;refine B.gh (fun a o ⟨z,p⟩ F=>?_)
    subst z;obtain⟨s0,t,H⟩:=aOv (k:=b.length) (aZe b.length) (kK a) ⟨[a],o⟩ (Wb a);obtain⟨A,u,Z⟩:=gE (k:=b.length) (kK a) s0;have E:=t.trans u;have i:aF A=bZ (kK a) (bxW b.length (kK a) ⟨[a],r.hp⟩ (Wb a)):=by rw[Z,H];simp only[aF,p]
    have w:A.sl.length=1:=by
     have:=congrArg (fun q=>q.sl.length) i
     simp only[aF,mZ,(Y7 _ _ _ _).1] at this;simpa using this
    have Y:A.hp.length=o.length:=by
     have:=congrArg (fun q=>q.hp.length) i
     simp only[aF,zX,aY9,(Y7 _ _ _ _).2] at this;rw[this,<- p,aY9]
    obtain⟨y,M⟩:=List.length_eq_one_iff.1 w;have D:=Gh.drop (k:=b.length) (as:=A) b.length (aZe _);have J:(bZ (kK a) (bxW b.length (kK a) ⟨[a],r.hp⟩ (Wb a))).sl.getD 0 .junk=y:=by rw[<- i];simp[aF,M]
    refine⟨bG (fun id=>decide (b.length<=id)) y,(A.hp.take b.length).map (cU fun id=>decide (b.length<=id)),?_,by simp only[aY9,aZd];omega,by rw[J],?_⟩
    have:=E.trans D;rw[M] at this;simpa using this;rw[<- i,uY,I7];simp[aF]
  cases g
theorem nN{T:HT}(d:Ow P T)(c:cJ P G T.base):∀n,cJ P G (callN G T n)
 |0=>fun f a hp av e h=>by simp[callN] at h
 | n+1=>fun f a hp av e h b g=>by
   subst g;rw[callN] at h;cases hf:T.tab f with
   | none=>rw[hf] at h;exact c f a _ av e h b rfl
   | some x=>rw[hf] at h;exact aJY d (nN d c n) hf h
theorem Zy{T:HT}(i:Ow P T)(g:cJ P G T.base){f:FuncId}{b:List AV}{r:AV}(h:EV G T f b []=some (r,[])):QC P G f b r:=by
 obtain⟨n,j⟩:=iH h;obtain⟨_,e⟩:=nN i g n f b [] r [] j [] rfl;exact e.gh (fun a o ⟨c,d⟩ _=>⟨a,o,Gh.refl,aZx _,c,by simpa using d⟩)
