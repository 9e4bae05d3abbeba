/- Part. Conditions: none. -/
import Derived.Test.YtgdjbbnicgfohacGreatDoorNa
namespace Go.Proofs.YtgdjbbnicgfohacGreatDoor
set_option linter.unusedSimpArgs false
set_option linter.unusedVariables false
section
section
variable {α:Type}
theorem Wy{f:Nat->Option α}(j:∀n r,f n=some r->f (n+1)=some r){n:Nat}{r:α}(h:f n=some r):lim f=some r:=by
 have a:∀n r,f n=some r->∀m,n<=m->f m=some r:=by
  intro n r h m b
  induction m with
  |zero=>simp at b;subst b;exact h
  |succ m l=>
   by_cases i:n=m+1;subst i;exact h;exact j _ _ (l (by omega))
 have d:∃n r,f n=some r:=⟨n,r,h⟩;unfold lim;rw[dif_pos d];obtain⟨o,c⟩:=d.choose_spec;have e:=a _ _ c (max d.choose n) (Nat.le_max_left _ _);have g:=a _ _ h (max d.choose n) (Nat.le_max_right _ _);rw[c,<- e,g]
theorem jV{f:Nat->Option α}{r:α}(h:lim f=some r):∃n,f n=some r:=by
 unfold lim at h;split at h;exact⟨_,h⟩;cases h
end
section
variable {run:AS->Option (Exit×AS)}{L:List Nat}{m:Nat}
theorem Jb:∀(n:Nat)(st:AS) r,Le run L m n st=some r->Le run L m (n+1) st=some r
 |0,st,r,h=>by simp[Le] at h
 | n+1,st,r,h=>by
   rw[Le] at h ⊢;split at h
   · exact Jb n _ r h
   · exact h
theorem Da{n:Nat}{st:AS}{r:Exit×AS}(h:Le run L m n st=some r):Bw run L m st=some r:=Wy (fun n r h=>Jb n st r h) h
theorem aFd(st:AS){s:AS}(h:run st=some (.normal,s)):Bw run L m st=Bw run L m (kN L m s):=by
 have e:∀n,Le run L m (n+1) st=Le run L m n (kN L m s):=fun n=>by rw[Le,h]
 cases b:Bw run L m (kN L m s) with
 |some r=>
  obtain⟨n,a⟩:=jV b;exact Da (n:=n+1) (by rw[e];exact a)
 |none=>
  cases c:Bw run L m st with
  |none=>rfl
  |some r=>
   obtain⟨n,a⟩:=jV c;have:Bw run L m (kN L m s)=some r:=Da (n:=n) (by rw[<- e];exact Jb _ _ _ a);rw[b] at this;cases this
theorem aCo{st:AS}{e:Exit}{s:AS}(h:run st=some (e,s))(b:e≠.normal):Bw run L m st=some (e,s):=by
 refine Da (n:=1) ?_;rw[Le,h];split;rename_i a;injection a with a;injection a with a;exact absurd a b
 rfl
end
def Hh(calls:Nat->aO)(call:aO):Prop:=∀f a hp r,call f a hp=some r->∃n,∀m,n<=m->calls m f a hp=some r
section
variable {calls:Nat->aO}{call:aO}{G:aF}
theorem Zv(i:Hh calls call){d:Option Nat}{f:FuncId}{a:List aH}{st s:AS}(h:Ws call G d f a st=some s):∃n,∀m,n<=m->Ws (calls m) G d f a st=some s:=by
 unfold Ws at *;cases c:(lC G st.sl a).all (dE fun _=>true) with
 |false=>rw[c] at h;cases h
 |true=>
  rw[c] at h;simp only[cond_true] at h ⊢;cases b:call f (lC G st.sl a) [] with
  |none=>rw[b] at h;cases h
  |some r=>
   obtain⟨n,g⟩:=i _ _ _ _ b;rw[b] at h;exact⟨n,fun m e=>by rw[g m e];exact h⟩
theorem Zw(i:Hh calls call){d:Option Nat}{f:FuncId}{a:List aH}{st s:AS}(h:dnZ call G d f a st=some s):∃n,∀m,n<=m->dnZ (calls m) G d f a st=some s:=by
 unfold dnZ at *;cases c:(lC G st.sl a).all (dE fun _=>true) with
 |false=>rw[c] at h;cases h
 |true=>
  rw[c] at h;simp only[cond_true] at h ⊢;cases b:call f (lC G st.sl a) [] with
  |none=>rw[b] at h;cases h
  |some r=>
   obtain⟨n,g⟩:=i _ _ _ _ b;rw[b] at h;exact⟨n,fun m e=>by rw[g m e];exact h⟩
theorem aJM(j:Hh calls call){d:Option Nat}{f:FuncId}{b:List aH}{st s:AS}(h:vwK call G d f b st (call f (Gt G st b) [])=some s):∃n,∀m,n<=m->vwK (calls m) G d f b st (calls m f (Gt G st b) [])=some s:=by
 cases e:call f (Gt G st b) [] with
 |none=>rw[e] at h;cases h
 |some r=>
  rw[e] at h;obtain⟨n,i⟩:=j _ _ _ _ e;obtain⟨p,os⟩:=r;cases os with
  |nil=>
   simp only[vwK] at h;cases c:mI p with
   |true=>rw[c] at h;exact⟨n,fun m g=>by rw[i m g];simp only[vwK,c];exact h⟩
   |false=>
    rw[c] at h;obtain⟨l,a⟩:=Zv j h;exact⟨max n l,fun m g=>by rw[i m (by omega)];simp only[vwK,c];exact a m (by omega)⟩
  |cons o os=>
   obtain⟨l,a⟩:=Zv j (st:=bV (mJ G st.sl b) st) h;exact⟨max n l,fun m g=>by rw[i m (by omega)];exact a m (by omega)⟩
theorem aJN(j:Hh calls call){d:Option Nat}{f:FuncId}{b:List aH}{st s:AS}(h:dvK call G d f b st (call f (C8 G st b) [])=some s):∃n,∀m,n<=m->dvK (calls m) G d f b st (calls m f (C8 G st b) [])=some s:=by
 cases e:call f (C8 G st b) [] with
 |none=>rw[e] at h;cases h
 |some r=>
  rw[e] at h;obtain⟨n,i⟩:=j _ _ _ _ e;obtain⟨p,os⟩:=r;cases os with
  |nil=>
   simp only[dvK] at h;cases c:mI p with
   |true=>rw[c] at h;exact⟨n,fun m g=>by rw[i m g];simp only[dvK,c];exact h⟩
   |false=>
    rw[c] at h;obtain⟨l,a⟩:=Zw j h;exact⟨max n l,fun m g=>by rw[i m (by omega)];simp only[dvK,c];exact a m (by omega)⟩
  |cons o os=>
   obtain⟨l,a⟩:=Zw j (st:=st) h;exact⟨max n l,fun m g=>by rw[i m (by omega)];exact a m (by omega)⟩
theorem B7(j:Hh calls call){d:Option Nat}{f:FuncId}{a:List AV}{st s:AS}(h:lA call d f a st=some s):∃n,∀m,n<=m->lA (calls m) d f a st=some s:=by
 unfold lA at *;simp only at h ⊢;split at h;rename_i e;simp only[e,if_true];obtain⟨r,b,c⟩:=Option.map_eq_some_iff.1 h;obtain⟨n,i⟩:=j _ _ _ _ b;exact⟨n,fun m g=>by rw[i m g];exact congrArg some c⟩
 cases h
theorem sK(b:Hh calls call):Hh (fun n=>lD (calls n)) (lD call):=fun f a hp r h=>b f (a.map Gr) hp r h
theorem aJO(b:Hh calls call){d:Option Nat}{f:FuncId}{a:List aH}{st s:AS}(h:clZ call G d f a st=some s):∃n,∀m,n<=m->clZ (calls m) G d f a st=some s:=by
 unfold clZ at *;cases hp:sJ G st.sl a with
 |true=>rw[hp] at h;exact aJM b h
 |false=>rw[hp] at h;exact B7 (sK b) h
theorem Zx(b:Hh calls call){d:Option Nat}{x:aH}{a:List aH}{st s:AS}(h:cvZ call G d x a st=some s):∃n,∀m,n<=m->cvZ (calls m) G d x a st=some s:=by
 unfold cvZ at *;unfold cvK at *;split at h;exact B7 (sK b) h;cases h
theorem Zy(b:Hh calls call){st s:AS}{l:List aN}{d:Option Nat}{a:AI}(h:mK call G st l d a=some s):∃n,∀m,n<=m->mK (calls m) G st l d a=some s:=by
 cases a with
 |call f c=>exact aJO b h
 |callv x c=>exact Zx b h
 |_=>exact⟨0,fun _ _=>h⟩
theorem Zz(e:Hh calls call){st s:AS}{l:List aN}{d:Option Nat}{a:AI}{g:Option (Nat×Bool)}(h:Wu call G st l d a g=some s):∃n,∀m,n<=m->Wu (calls m) G st l d a g=some s:=by
 cases g with
 |none=>exact Zy e h
 |some g=>
  simp only[Wu] at h ⊢;cases c:gK g.2 (aM G st.sl (.t g.1)) with
  |none=>rw[c] at h;cases h
  |some b=>
   rw[c] at h;cases b with
   |true=>exact Zy e h
   |false=>exact⟨0,fun _ _=>h⟩
theorem Z0(b:Hh calls call):∀(l:List aN)(st s:AS),evR call G l (some st)=some s->∃n,∀m,n<=m->evR (calls m) G l (some st)=some s
 |[],st,s,h=>⟨0,fun _ _=>h⟩
 | o::l,st,s,h=>by
   simp only[evR] at h ⊢;cases a:Wu call G st l o.dst o.ai o.guard with
   | none=>rw[a] at h;cases l<;>cases h
   | some g=>
     rw[a] at h;obtain⟨e,c⟩:=Zz b a;obtain⟨f,d⟩:=Z0 b l g s h;exact⟨max e f,fun m i=>by rw[c m (by omega)];exact d m (by omega)⟩
theorem Z1(e:Hh calls call){L:List Nat}{st s:AS}{l:List aN}{d:Option Nat}{a:AI}{g:Option (Nat×Bool)}{b:Bool}(h:Ja call G L st l d a g b=some s):∃n,∀m,n<=m->Ja (calls m) G L st l d a g b=some s:=by
 cases b with
 |false=>exact Zz e h
 |true=>
  cases a with
  |call f p=>
   simp only[Ja,Sf] at h ⊢;cases i:O7 L (f+100000) with
   |false=>rw[i] at h;exact B7 (sK e) h
   |true=>
    rw[i] at h;simp only[aFa] at h ⊢;cases c:call f (C8 G st p) [] with
    |none=>rw[c] at h;cases h
    |some r=>
     obtain⟨n,o⟩:=e _ _ _ _ c;rw[c] at h;exact⟨n,fun m j=>by rw[o m j];exact h⟩
  |mk=>exact⟨0,fun _ _=>h⟩
  |cvsb=>exact⟨0,fun _ _=>h⟩
  |_=>cases h
theorem Sh(b:Hh calls call){L:List Nat}:∀(l:List aN)(st s:AS),Gu call G L l (some st)=some s->∃n,∀m,n<=m->Gu (calls m) G L l (some st)=some s
 |[],st,s,h=>⟨0,fun _ _=>h⟩
 | o::l,st,s,h=>by
   simp only[Gu] at h ⊢;cases a:Ja call G L st l o.dst o.ai o.guard (kI L o.ai o.guard) with
   | none=>rw[a] at h;cases l<;>cases h
   | some g=>
     rw[a] at h;obtain⟨e,c⟩:=Z1 b a;obtain⟨f,d⟩:=Sh b l g s h;exact⟨max e f,fun m i=>by rw[c m (by omega)];exact d m (by omega)⟩
theorem Jc{f:Nat}{a b:Option AS}{s:AS}(h:F6 f a b=some s):a=some s/\∃c p,b=some c/\pOK f c.hp.length p/\prm p c=s:=by
 unfold F6 at h;split at h;rename_i e;obtain⟨i,c,p,d,g,h3,h4⟩:=e;rw[d] at h;injection h with h;subst h;exact⟨d,c,p,g,h3,h4⟩
 cases h
theorem Si{e:Nat}{a b:Option AS}{s c:AS}{p:List (Nat×Nat)}(d:a=some s)(f:b=some c)(h3:pOK e c.hp.length p)(h4:prm p c=s):F6 e a b=some s:=by
 unfold F6;rw[if_pos ⟨s,c,p,d,f,h3,h4⟩,d]
theorem aJP(x:Hh calls call){L:List Nat}{b:Nat}{ops:List aN}:∀(t:IT)(st s:AS),F7 call G L b ops t (some st)=some s->∃n,∀m,n<=m->F7 (calls m) G L b ops t (some st)=some s:=by
 have a:∀(t:IT),(∀(st s:AS),F7 call G L b ops t (some st)=some s->∃n,∀m,n<=m->F7 (calls m) G L b ops t (some st)=some s)->∀(st s:AS)(i:Nat),
   F7 call G L b ops t (Ja call G L st ops (iM ops i).dst (iM ops i).ai (iM ops i).guard (kI L (iM ops i).ai (iM ops i).guard))=some s->
   ∃n,∀m,n<=m->F7 (calls m) G L b ops t (Ja (calls m) G L st ops (iM ops i).dst (iM ops i).ai (iM ops i).guard (kI L (iM ops i).ai (iM ops i).guard))=some s:=by
  intro t g st s i h;cases f:Ja call G L st ops (iM ops i).dst (iM ops i).ai (iM ops i).guard (kI L (iM ops i).ai (iM ops i).guard) with
  |none=>rw[f] at h;cases t<;>cases h
  |some z=>
   rw[f] at h;obtain⟨l,d⟩:=Z1 x f;obtain⟨o,e⟩:=g z s h;exact⟨max l o,fun m w=>by rw[d m (by omega)];exact e m (by omega)⟩
 intro t
 induction t with
 |nil=>exact fun st s h=>⟨0,fun _ _=>h⟩
 |stop=>exact fun st s h=>by cases h
 |st i t g=>exact fun st s h=>a t g st s i h
 |br i t r c j=>
  intro st s h;simp only[F7] at h ⊢;cases q:Ot r with
  |true=>rw[q] at h;exact a t c st s i h
  |false=>
   rw[q] at h;obtain⟨d,y,p,e,h3,h4⟩:=Jc h;obtain⟨l,u⟩:=a t c st s i d;obtain⟨o,v⟩:=j st y e;exact⟨max l o,fun m w=>Si (u m (by omega)) (v m (by omega)) h3 h4⟩
theorem O8(e:Hh calls call){st s:AS}{q:Bool}{d:Option Nat}{a:AI}(h:drZ call G st d a q=some s):∃n,∀m,n<=m->drZ (calls m) G st d a q=some s:=by
 cases q with
 |true=>
  simp only[drZ] at h ⊢;cases a with
  |call f b=>
   simp only[Cj] at h ⊢;cases g:(lC G st.sl b).all (dE fun _=>true) with
   |false=>rw[g] at h;cases h
   |true=>
    rw[g] at h;simp only[cond_true] at h ⊢;cases c:call f (lC G st.sl b) [] with
    |none=>rw[c] at h;cases h
    |some r=>
     obtain⟨n,j⟩:=e _ _ _ _ c;rw[c] at h;exact⟨n,fun m i=>by rw[j m i];exact h⟩
  |_=>exact⟨0,fun _ _=>h⟩
 |false=>
  simp only[drZ] at h ⊢;cases a with
  |call f b=>exact aJN e h
  |callv x b=>exact Zx e h
  |_=>exact⟨0,fun _ _=>h⟩
theorem aJQ(e:Hh calls call){st s:AS}{q:Bool}{d:Option Nat}{a:AI}{g:Option (Nat×Bool)}(h:drO call G st q d a g=some s):∃n,∀m,n<=m->drO (calls m) G st q d a g=some s:=by
 cases g with
 |none=>exact O8 e h
 |some g=>
  simp only[drO] at h ⊢;cases c:gK g.2 (aM G st.sl (.t g.1)) with
  |none=>rw[c] at h;cases h
  |some b=>
   rw[c] at h;cases b with
   |true=>exact O8 e h
   |false=>exact⟨0,fun _ _=>h⟩
theorem Sj(b:Hh calls call):∀(l:List (Bool×aN)) (st s:AS),Gv call G l (some st)=some s->∃n,∀m,n<=m->Gv (calls m) G l (some st)=some s
 |[],st,s,h=>⟨0,fun _ _=>h⟩
 | o::l,st,s,h=>by
   simp only[Gv] at h ⊢;cases a:drO call G st o.1 o.2.dst o.2.ai o.2.guard with
   | none=>rw[a] at h;cases l<;>cases h
   | some g=>
     rw[a] at h;obtain⟨e,c⟩:=aJQ b a;obtain⟨f,d⟩:=Sj b l g s h;exact⟨max e f,fun m i=>by rw[c m (by omega)];exact d m (by omega)⟩
theorem kO{x:Option AS}{r:Exit×AS}(h:nrm x=some r):∃s,x=some s/\r=(.normal,s):=by
 cases x with
 |none=>cases h
 |some s=>injection h with h;exact⟨s,rfl,h.symm⟩
theorem aJR{R:List Nat}{x:Nat->Option AS}{y:Option AS}{q:AS×FP}(h:Vw R y=some q)(c:∀s,y=some s->∃n,∀m,n<=m->x m=some s):∃n,∀m,n<=m->Vw R (x m)=some q:=by
 cases y with
 |none=>cases h
 |some s=>
  obtain⟨n,b⟩:=c s rfl;exact⟨n,fun m a=>by rw[b m a];exact h⟩
theorem Z2(i:Hh calls call){st:AS}{d:Option Nat}{r:Nat}{b:AI}{q:AS×FP}(h:Lo call G st d r b=some q):∃n,∀m,n<=m->Lo (calls m) G st d r b=some q:=by
 cases b with
 |call f a=>
  simp only[Lo] at h ⊢;generalize (a.map (aM G st.sl)).flatMap jU=J at h ⊢
  match J with
  |[]=>exact aJR (x:=fun m=>Cj (calls m) G st d (.call f a)) h (fun s o=>O8 i (show drZ call G st d (.call f a) true=some s from o))
  |[id]=>
   simp only[fvC] at h ⊢;unfold fvB at h ⊢;split at h;rename_i cs _;cases g:(keepL (fun _=>true) cs&&(a.map (aM G st.sl)).all (dE (kZ [id]))) with
   |false=>rw[g] at h;cases h
   |true=>
    rw[g] at h;simp only[cond_true] at h ⊢;cases c:lD call f ((a.map (aM G st.sl)).map (dL (mG [id]))) [.box cs] with
    |none=>rw[c] at h;cases h
    |some q=>
     obtain⟨n,l⟩:=sK i _ _ _ _ c;refine⟨n,fun m j=>?_⟩
     have e:=l m j;simp only at e;rw[e,<- c];exact h
   cases h
  |_::_::_=>cases h
 |alloc z=>exact⟨0,fun _ _=>h⟩
 |store size x v=>exact⟨0,fun _ _=>h⟩
 |cpys x y=>exact⟨0,fun _ _=>h⟩
 |_=>exact⟨0,fun _ _=>h⟩
theorem aJS(e:Hh calls call){st:AS}{d:Option Nat}{r:Nat}{a:AI}{g:Option (Nat×Bool)}{q:AS×FP}(h:fvO call G st d r a g=some q):∃n,∀m,n<=m->fvO (calls m) G st d r a g=some q:=by
 cases g with
 |none=>exact Z2 e h
 |some g=>
  simp only[fvO] at h ⊢;cases c:gK g.2 (aM G st.sl (.t g.1)) with
  |none=>rw[c] at h;cases h
  |some b=>
   rw[c] at h;cases b with
   |true=>exact Z2 e h
   |false=>exact⟨0,fun _ _=>h⟩
theorem Z3(d:Hh calls call){b:List (Nat×Nat)}:∀(l:List aN)(a:List FP)(r:Nat)(st s:AS),Wv call G b a r l (some st)=some s->∃n,∀m,n<=m->Wv (calls m) G b a r l (some st)=some s
 |[],a,r,st,s,h=>⟨0,fun _ _=>h⟩
 | o::l,a,r,st,s,h=>by
   simp only[Wv] at h ⊢;cases c:fvO call G st o.dst r o.ai o.guard with
   | none=>rw[c] at h;cases h
   | some q=>
     obtain⟨p,f⟩:=q;rw[c] at h;obtain⟨i,e⟩:=aJS d c;obtain⟨j,g⟩:=Z3 d l _ _ p s h;exact⟨max i j,fun m t=>by rw[e m (by omega)];exact g m (by omega)⟩
theorem Z4{runs:Nat->AS->Option (Exit×AS)}{run:AS->Option (Exit×AS)}(d:∀st r,run st=some r->∃n,∀m,n<=m->runs m st=some r){L:List Nat}{k:Nat}:∀(i:Nat)(st:AS) r,Le run L k i st=some r->∃n,∀m,n<=m->Le (runs m) L k i st=some r
 |0,st,r,h=>by simp[Le] at h
 | i+1,st,r,h=>by
   simp only[Le] at h;cases a:run st with
   | none=>rw[a] at h;cases h
   | some q=>
     obtain⟨f,b⟩:=d _ _ a;rw[a] at h;obtain⟨e,s⟩:=q;cases e with
     | normal=>
       simp only at h;obtain⟨j,g⟩:=Z4 d i _ r h;exact⟨max f j,fun m c=>by rw[Le,b m (by omega)];exact g m (by omega)⟩
     | _=>exact⟨f,fun m c=>by rw[Le,b m c];exact h⟩
theorem aOG(u:Hh calls call):∀(c:HC)(st:AS) r,EC call G c st=some r->∃n,∀m,n<=m->EC (calls m) G c st=some r:=by
 intro c
 induction c with
 |skip=>exact fun st r h=>⟨0,fun _ _=>h⟩
 |ret=>exact fun st r h=>⟨0,fun _ _=>h⟩
 |exit id=>exact fun st r h=>⟨0,fun _ _=>h⟩
 |region ops=>
  intro st r h;simp only[EC] at h ⊢;obtain⟨s,j,rfl⟩:=kO h;obtain⟨n,l⟩:=Z0 u ops st s j;exact⟨n,fun m f=>by rw[l m f];rfl⟩
 |regR L ops=>
  intro st r h;simp only[EC] at h ⊢;obtain⟨s,j,rfl⟩:=kO h;obtain⟨n,l⟩:=Sh u ops st s j;exact⟨n,fun m f=>by rw[l m f];rfl⟩
 |drawnT L t ops=>
  intro st r h;simp only[EC] at h ⊢;obtain⟨s,j,rfl⟩:=kO h;obtain⟨n,l⟩:=aJP u t st s j;exact⟨n,fun m f=>by rw[l m f];rfl⟩
 |drawnF A ops=>
  intro st r h;simp only[EC] at h ⊢;obtain⟨s,j,rfl⟩:=kO h;obtain⟨n,l⟩:=Z3 u ops _ _ _ s j;exact⟨n,fun m f=>by rw[l m f];rfl⟩
 |drawn ops=>
  intro st r h;simp only[EC] at h ⊢;obtain⟨s,j,rfl⟩:=kO h;obtain⟨n,l⟩:=Sj u ops st s j;exact⟨n,fun m f=>by rw[l m f];rfl⟩
 |seq a b d p=>
  intro st r h;simp only[EC] at h ⊢;cases o:EC call G a st with
  |none=>rw[o] at h;cases h
  |some q=>
   obtain⟨v,j⟩:=d _ _ o;rw[o] at h;obtain⟨e,s⟩:=q;cases e with
   |normal=>
    obtain⟨z,x⟩:=p s r h;exact⟨max v z,fun m f=>by rw[j m (by omega)];exact x m (by omega)⟩
   |_=>exact⟨v,fun m f=>by rw[j m f];exact h⟩
 |cond c a b d p=>
  intro st r h;simp only[EC] at h ⊢;cases w:cK (aM G st.sl c) with
  |none=>rw[w] at h;cases h
  | some t=>rw[w] at h;cases t with
    | true=>exact d st r h
    | false=>exact p st r h
 |block id a d=>
  intro st r h;simp only[EC] at h ⊢;cases o:EC call G a st with
  |none=>rw[o] at h;cases h
  |some q=>
   obtain⟨v,j⟩:=d _ _ o;rw[o] at h;exact⟨v,fun m f=>by rw[j m f];exact h⟩
 |loop L a d=>
  intro st r h;simp only[EC] at h ⊢;obtain⟨i,y⟩:=jV h;obtain⟨n,l⟩:=Z4 (runs:=fun m=>EC (calls m) G a) (fun st r h=>d st r h) i _ r y
  exact⟨n,fun m f=>Da (l m f)⟩
 |gh g a d=>exact fun st r h=>d _ r h
 |trm L a d=>exact fun st r h=>d _ r h
 |bad=>intro st r h;cases h
theorem Jd(f:Hh calls call){h:HF}{a:List AV}{hp:List aD}{r:AV×List aD}(b:Wx call G h a hp=some r):∃n,∀m,n<=m->Wx (calls m) G h a hp=some r:=by
 unfold Wx at *;cases c:EC call G h.code ⟨a++tC (h.nt-a.length),hp⟩ with
 |none=>rw[c] at b;cases b
 |some q=>
  obtain⟨n,e⟩:=aOG f _ _ _ c;rw[c] at b;exact⟨n,fun m d=>by rw[e m d];exact b⟩
theorem sL{T:HT}:∀(n:Nat)(f:FuncId)(b:List AV)(hp:List aD)(r:AV×List aD),callN G T n f b hp=some r->callN G T (n+1) f b hp=some r
 |0,f,b,hp,r,h=>by simp[callN] at h
 | n+1,f,b,hp,r,h=>by
   rw[callN] at h ⊢;cases c:T.tab f with
   | none=>rw[c] at h;exact h
   | some x=>
     rw[c] at h;obtain⟨m,d⟩:=Jd (calls:=fun _=>callN G T (n+1)) (fun f a hp r h=>⟨0,fun _ _=>sL n f a hp r h⟩) h
     exact d m (aZe _)
theorem aCp(T:HT):Hh (callN G T) (EV G T):=by
 intro f a hp r h;obtain⟨n,c⟩:=jV h;refine⟨n,fun m b=>?_⟩
 induction m with
 |zero=>simp at b;subst b;exact c
 |succ m e=>
  by_cases d:n=m+1;subst d;exact c;exact sL _ _ _ _ _ (e (by omega))
theorem aNt{T:HT}{f:FuncId}{h:HF}{a:List AV}{hp:List aD}{r:AV×List aD}(b:T.tab f=some h)(c:Wx (EV G T) G h a hp=some r):EV G T f a hp=some r:=by
 obtain⟨n,d⟩:=Jd (aCp T) c;refine Wy (n:=n+1) (fun n r h=>sL n f a hp r h) ?_
 rw[callN,b];exact d n (aZe _)
theorem jC{T:HT}{f:FuncId}{a:List AV}{hp:List aD}{r:AV×List aD}(b:T.tab f=none)(c:T.base f a hp=some r):EV G T f a hp=some r:=by
 refine Wy (n:=1) (fun n r h=>sL n f a hp r h) ?_
 rw[callN,b];exact c
end
end
section
section
variable {P:Program}{G:aF}{k:Nat}{st st' s:AS}{K R Q:AS->Prop}{call:aO}
theorem AC.nzArgs{f:FuncId}{a:List AV}{objs:List aD}{Q:AV->List aD->Prop}(h:AC P G f (a.map Gr) objs Q):AC P G f a objs Q:=
 fun F γ vs w j g c=>h F γ vs w j g ⟨by simpa using c.1,fun i l v b e=>by
   rw[aZi] at b;obtain⟨d,h3,rfl⟩:=Option.map_eq_some_iff.1 b;exact aEV (c.2 i d v h3 e)⟩
theorem Je{p:Nat->Bool}(c:aU):(nzC c).keep p=c.keep p:=by
 unfold nzC;grind[aU.keep]
theorem Jf{p:Nat->Bool}:∀(cs:List aU),keepL p (cs.map nzC)=keepL p cs
 |[]=>rfl
 |c::cs=>by simp[keepL,Je,Jf cs]
theorem Jg{p:Nat->Bool}(v:AV):dE p (Gr v)=dE p v:=by
 cases v with
 |one c=>grind[Gr,dE,Je]
 |agg cs=>grind[Gr,dE,Jf]
 |tup l=>
  simp only[Gr,dE,List.all_map];congr 1;funext t;cases t with
  |one c=>simp only[Function.comp_apply,nzT,F5,Je]
  |agg cs=>simp only[Function.comp_apply,nzT,F5,Jf]
 |junk=>rfl
theorem qD{sl:List AV}:∀a:List aH,lC G sl a=(a.map (aM G sl)).map Gr
 |[]=>rfl
 |x::a=>by simp[lC,qD a]
theorem Z5:∀a:List aH,Gt G st a=(a.map fun x=>vwA st.hp (aM G st.sl x)).map Gr
 |[]=>rfl
 |x::a=>by simp[Gt,Z5 a]
theorem Db{hp:List aD}(c:aU):Zq (hp.map aP) c=Zq hp c:=by
 cases c<;>simp only[Zq];rw[bK];cases aL hp _<;>rfl
theorem aFe{hp:List aD}(v:AV):vwA (hp.map aP) v=vwA hp v:=by
 simp_all[vwA,Db,aZz]
theorem Sk{hp:List aD}(c:aU):vwN (hp.map aP) c=vwN hp c:=by grind[vwN,Db]
theorem aFf{hp:List aD}{off:Nat}(o:aD):vpP (hp.map aP) off (aP o)=vpP hp off o:=by
 cases o<;>simp only[aP,vpP,Oz];grind[List.map_congr_left,Sk]
theorem aFg{hp:List aD}(c:aU):vwM (hp.map aP) c=vwM hp c:=by
 simp_all[vwM,Sk,bK,aFf]
theorem aFh{hp:List aD}(c:aU):vp0 (hp.map aP) c=vp0 hp c:=by
 cases c<;>simp only[vp0,Db];rw[bK];cases aL hp _<;>simp only[aP,vqP,O1];grind[List.map_congr_left,aFg]
theorem aFi{hp:List aD}(c:aU):vpC (hp.map aP) c=vpC hp c:=by
 simp_all[vpC,aFh,O0,aZz]
theorem aFj{hp:List aD}(v:AV):vpA (hp.map aP) v=vpA hp v:=by
 simp_all[vpA,aFi,aZz,Db]
theorem Z6:∀a:List aH,C8 G st a=(a.map fun x=>vpA st.hp (aM G st.sl x)).map Gr
 |[]=>rfl
 |x::a=>by simp[C8,Z6 a]
theorem Sl{o:aN}(h:exX G (aE s) o=some st'):∃j,exX G s o=some j/\aE j=st':=by
 obtain⟨d,l,g⟩:=o;have f:((dH G (aE s) l).map fun v=>(⟨aQ (aE s).sl d v,(aE s).hp⟩:AS))=some st'->∃ j,((dH G s l).map fun v=>(⟨aQ s.sl d v,s.hp⟩:AS))=some j/\aE j=st':=by
   intro h;rw[rB] at h;obtain⟨v,a,rfl⟩:=Option.map_eq_some_iff.1 h;exact⟨_,by rw[a];rfl,rfl⟩
 cases l<;>try exact f h
 case alloc z=>
  simp only[exX,Option.some.injEq] at h ⊢;exact⟨_,rfl,by rw[<- h];simp[aE,aP]⟩
 case box x=>
  simp only[exX] at h ⊢;obtain⟨cs,a,rfl⟩:=Option.map_eq_some_iff.1 h;rw[show (aE s).sl=s.sl from rfl] at a
  exact⟨_,by rw[a];rfl,by simp[aE,aP]⟩
 case store size x v=>
  simp only[exX] at h ⊢;cases d with
  |some d=>cases h
  |none=>
   simp only[stX,show (aE s).sl=s.sl from rfl] at h ⊢
   split at h;rename_i id off y;split at h;rename_i vs w;split at h;rename_i cs b;rw[aE,bK] at b;split at h;rename_i p;injection h with h
   simp only[rC b,if_pos p];exact⟨_,rfl,by rw[<- h];simp[aE,aP,aZO]⟩;cases h;cases h;cases h;rename_i id i z off y;split at h;rename_i r w;split at h;rename_i c A es b;rw[aE,bK] at b;obtain⟨cap,n,rfl⟩:=oU b;split at h;rename_i e q;split at h;rename_i p;injection h with h
   simp only[n,q,if_pos p];exact⟨_,rfl,by simp_all[aE,aP,aZO]⟩;cases h;cases h;cases h;cases h;cases h
 case bslc size len z ps=>
  simp only[exX,bsX] at h ⊢;cases len with
  |zero=>
   simp only at h ⊢;split at h;rename_i q;injection h with h
   simp only[if_pos q];exact⟨_,rfl,by rw[<- h];simp[aE,aP]⟩;cases h
  |succ len=>
   simp only at h ⊢;obtain⟨cs,a,h⟩:=aZV.1 h;obtain⟨r,t,h⟩:=aZV.1 h;rw[show (aE s).sl=s.sl from rfl] at a
   split at h;rename_i u;injection h with h
   exact⟨⟨aQ s.sl d (vl (fY size (len+1) r)),s.hp⟩,by rw[a];simp only[aZq,t,if_pos u],by rw[<- h];simp[aE]⟩;cases h
theorem Ez{size:Nat}:∀{es:List (List DC)},gC size es=true->∀e∈es,e.length=size
 |[],_=>by simp
 | x::es,h=>by
   simp only[gC,aZp,jG,beq_iff_eq] at h;intro e a;rcases bAl.1 a with rfl | a
   · exact h.1
   · exact Ez h.2 e a
theorem aFk(id:Nat)(c:aU):klC id c=cJ (·==id) c:=by
 cases c<;>simp only[klC,cJ,aU.keep,jG,if_true];all_goals simp_all
theorem Hi(id:Nat):∀cs,O6 id cs=cs.map (cJ (·==id))
 |[]=>rfl
 |c::cs=>by simp[O6,aFk,Hi id cs]
theorem aOH(id:Nat)(v:AV):klV id v=bF (·==id) v:=by
 cases v<;>simp only[klV,bF,aFk,Hi]
theorem aFl(id:Nat):∀l,klS id l=l.map (bF (·==id))
 |[]=>rfl
 |c::cs=>by simp[klS,aOH,aFl id cs]
theorem aOI(id:Nat)(o:aD):klO id o=cO (·==id) o:=by
 cases o<;>simp only[klO,cO,Hi]
theorem Wz(id:Nat):∀l,klH id l=l.map (cO (·==id))
 |[]=>rfl
 |c::cs=>by simp[klH,aOI,Wz id cs]
theorem Z7{d:Option Nat}{size bytes:Nat}{z:List Value}{a x:aH}(h:apZ d size bytes (aE s) (aM G s.sl a) (aM G s.sl x)=some st')(q:∀r,aE r=st'->K r):uF P G k d (.app size bytes z a x) K s.sl s.hp:=by
 unfold apZ at h;split at h;rename_i t u id n p
 right
 rw[aE,bK,Am] at h;unfold apB at h;split at h;rename_i c sz es b i g;split at h;rename_i f;injection h with h
 obtain⟨cap,i,_⟩:=oU i;obtain⟨rfl,j,l,o⟩:=f;exact⟨id,n,cap,es,b,p,i,j,g,Ez l,o,fun e _=>q _ (by rw[<- h];simp only[aE,aZO,uK,aFl,Wz];rfl)⟩
 cases h;cases h;rename_i t u p
 left
 rw[aE,Am] at h;unfold apN at h;split at h;rename_i b g;split at h;rename_i f;injection h with h
 exact⟨p,b,g,Ez f.1,f.2,fun e _=>q _ (by rw[<- h];simp only[aE,aZR,uK,aZa,Wz];rfl)⟩
 cases h;cases h;cases h
theorem Z8{d:Option Nat}{size len:Nat}{z:List Value}{g:List (Nat×aH)}(h:bsO G (aE s) d size len z g=some st')(f:∀i,aE i=st'->K i):uF P G k d (.bslc size len z g) K s.sl s.hp:=by
 unfold bsO at h;obtain⟨cs,a,h⟩:=aZV.1 h;cases b:dcs cs with
 |none=>
  rw[b] at h;simp only[bsP] at h;split at h;rename_i c;injection h with h
  rw[Ms] at a;exact .inr ⟨c,cs,a,f _ (by simp_all[aE,aP])⟩;cases h
 |some e=>
 rw[b] at h;simp only[bsP] at h;split at h;rename_i c;injection h with h
 obtain⟨j,l,n⟩:=lB size len e c;rw[Ms] at a;refine .inl ⟨fY size len e,by rw[j,<- mW b];exact a,l,n,f _ (by simp_all[aE,aP])⟩;cases h
theorem aOJ(b:cH P G call){d:Option Nat}{f:FuncId}{c:List aH}(h:Ws call G d f c (aE s)=some st'):
  ∃ e os,(∀ n,c.map (aM G s.sl)=(c.map (aM G s.sl)).map (dL (cN [] n)))/\AC P G f (c.map (aM G s.sl)) [] (fun a o=>a=e/\o.map aP=os)/\
    (⟨aQ s.sl d (dL (cN [] s.hp.length) e),s.hp.map aP++os.map (dY (cN [] s.hp.length))⟩:AS)=st':=by
 unfold Ws at h;cases i:(lC G (aE s).sl c).all (dE fun _=>true) with
 |false=>simp_all
 |true=>
  rw[i] at h;simp only[cond_true] at h;cases g:call f (lC G (aE s).sl c) [] with
  |none=>rw[g] at h;cases h
  |some r=>
   obtain⟨e,os⟩:=r;rw[g] at h;simp only[nwK,Option.some.injEq] at h;obtain⟨_,j⟩:=b _ _ _ _ _ g [] rfl;refine⟨e,os,fun n=>?_,(by rw[qD] at j;exact j.nzArgs),by simp_all[aE]⟩
   conv=>lhs;rw[<- List.map_id (c.map (aM G s.sl))]
   refine aZz (fun v l=>(rnV v ?_).symm)
   rw[qD,List.all_map] at i;have:=bAw.1 i v l;rwa[Function.comp_apply,Jg] at this
theorem aFm:∀{os:List aD},aCe os=true->os.map aP=os
 |[],_=>rfl
 | o::os,h=>by
   simp only[aCe,aZp] at h;rw[aZl,aFm h.2];congr 1;cases o<;>try rfl
   simp_all[aOx,jG,beq_iff_eq,aP]
theorem aOK(c:cH P G call){d:Option Nat}{f:FuncId}{b:List aH}(h:dnZ call G d f b (aE s)=some st'):
  ∃ e os,os.map aP=os/\(∀ n,b.map (aM G s.sl)=(b.map (aM G s.sl)).map (dL (cN [] n)))/\AC P G f (b.map (aM G s.sl)) [] (fun a o=>a=e/\o.map aP=os)/\
    (⟨aQ s.sl d (dL (cN [] s.hp.length) e),s.hp.map aP++os.map (dY (cN [] s.hp.length))⟩:AS)=st':=by
 unfold dnZ at h;cases i:(lC G (aE s).sl b).all (dE fun _=>true) with
 |false=>simp_all
 |true=>
  rw[i,cond_true] at h;cases g:call f (lC G (aE s).sl b) [] with
  |none=>rw[g] at h;cases h
  |some r=>
   obtain⟨e,os⟩:=r;rw[g] at h;simp only[dnK] at h;cases l:aCe os with
   |false=>simp_all
   |true=>
    rw[l,cond_true] at h;have q:Ws call G d f b (aE s)=some st':=by
     unfold Ws;rw[i,cond_true,g];exact h
    obtain⟨_,j⟩:=c _ _ _ _ _ g [] rfl;refine⟨e,os,aFm l,fun n=>?_,(by rw[qD] at j;exact j.nzArgs),by simp_all[aE]⟩
    conv=>lhs;rw[<- List.map_id (b.map (aM G s.sl))]
    refine aZz (fun v p=>(rnV v ?_).symm)
    rw[qD,List.all_map] at i;have:=bAw.1 i v p;rwa[Function.comp_apply,Jg] at this
theorem Z9(b:cH P G call){d:Option Nat}{f:FuncId}{c:List aH}(h:Ws call G d f c (aE s)=some st')(j:∀e,aE e=st'->K e):WR P G k [⟨d,.call f c,none⟩] K s:=by
 obtain⟨l,os,g,i,h3⟩:=aOJ b h;refine WR.callN (o:=⟨d,.call f c,none⟩) trivial rfl i (g _) (fun a o ⟨h4,h5⟩=>WR.nil (j _ ?_))
 subst h4;rw[<- h3,<- h5];simp only[aE,aZR,aZE];simp_all[aZz,oT]
theorem aJT{c:List aH}(b:cH P G call){f:FuncId}{av:AV}(h:call f (Gt G (aE s) c) []=some (av,[])):QC P G f (c.map fun x=>vwA s.hp (aM G s.sl x)) av:=by
 obtain⟨_,d⟩:=b _ _ _ _ _ h [] rfl;rw[Z5] at d;have e:(c.map fun x=>vwA (aE s).hp (aM G (aE s).sl x))=c.map fun x=>vwA s.hp (aM G s.sl x):=aZz (fun x _=>aFe _)
 rw[e] at d;exact d.nzArgs.gh (fun a o ⟨g,i⟩ _=>⟨a,o,Gh.refl,aZv _,g,by simp_all⟩)
theorem aAa{c:List aH}(b:cH P G call){f:FuncId}{av:AV}(h:call f (C8 G (aE s) c) []=some (av,[])):QC P G f (c.map fun x=>vpA s.hp (aM G s.sl x)) av:=by
 obtain⟨_,d⟩:=b _ _ _ _ _ h [] rfl;rw[Z6] at d;have e:(c.map fun x=>vpA (aE s).hp (aM G (aE s).sl x))=c.map fun x=>vpA s.hp (aM G s.sl x):=aZz (fun x _=>aFj _)
 rw[e] at d;exact d.nzArgs.gh (fun a o ⟨g,i⟩ _=>⟨a,o,Gh.refl,aZv _,g,by simp_all⟩)
theorem Aq(a:cH P G call):cH P G (lD call):=fun f c hp d g h b e=>⟨(a f _ hp d g h b e).1,(a f _ hp d g h b e).2.nzArgs⟩
theorem aJU(b:cH P G call){d:Option Nat}{f:FuncId}{c:List aH}(h:clZ call G d f c (aE s)=some st')(n:∀q,aE q=st'->K q):WR P G k [⟨d,.call f c,none⟩] K s:=by
 unfold clZ at h;obtain⟨B,i,p⟩:=fX (k:=k) (mJ G (aE s).sl c) s;cases hp:sJ G (aE s).sl c with
 |false=>
  rw[hp,cond_false,<- p] at h;obtain⟨J,objs,l,A,z,t,u,v,w,x,y⟩:=rE (Aq b) h;exact WR.ghost i (WR.call (o:=⟨d,.call f c,none⟩) trivial rfl t u v w x (fun a o e=>WR.nil (n _ (y a o e))))
 |true=>
  rw[hp,cond_true] at h;cases g:call f (Gt G (aE s) c) [] with
  |none=>rw[g] at h;cases h
  |some r=>
   obtain⟨l,os⟩:=r;rw[g] at h;cases os with
   |nil=>
    simp only[vwK] at h;cases j:mI l with
    |true=>
     rw[j] at h;injection h with h
     exact WR.callV (o:=⟨d,.call f c,none⟩) trivial rfl (aJT b g) j rfl (WR.nil (n _ (by rw[<- h];rfl)))
    |false=>
     rw[j,cond_false,<- p] at h;grind[WR.ghost,Z9]
   |cons o os=>
    grind[vwK,WR.ghost,Z9]
theorem aAb(b:cH P G call){d:Option Nat}{x:aH}{c:List aH}(h:cvZ call G d x c (aE s)=some st')(v:∀j,aE j=st'->K j):WR P G k [⟨d,.callv x c,none⟩] K s:=by
 unfold cvZ at h;obtain⟨B,g,w⟩:=fX (k:=k) (mJ G (aE s).sl c) s;rw[<- w] at h;unfold cvK at h;split at h;rename_i f i y;obtain⟨J,objs,z,A,l,n,p,q,r,t,u⟩:=rE (Aq b) h;exact WR.ghost g (WR.callv (o:=⟨d,.callv x c,none⟩) trivial rfl y l n p q r t (fun a o e=>WR.nil (v _ (u a o e))))
 cases h
theorem aAc{d:Option Nat}{size bytes:Nat}{z:List Value}{x y:aH}(h:mkZ G (aE s) d size bytes z x y=some st')(f:∀b,aE b=st'->K b):WR P G k [⟨d,.mk size bytes z x y,none⟩] K s:=by
 unfold mkZ mkK at h;split at h;rename_i n m c e;split at h;rename_i a;injection h with h
 exact WR.mk (o:=⟨d,.mk size bytes z x y,none⟩) trivial rfl c e a.1 a.2 (WR.nil (f _ (by simp_all[aE,aP])));cases h;cases h
theorem Sm{d:Option Nat}{size id k0 n:Nat}{z:List Value}{x:aH}(g:aM G s.sl x=.one (.bls id k0 n size)\/(k0=0/\aM G s.sl x=.one (.bld id n)))(h:Wt d (aE s) id k0 n size z (aL (aE s).hp id)=some st') (c:∀i,aE i=st'->K i):WR P G k [⟨d,.clr size z x,none⟩] K s:=by
 have j:aL (aE s).hp id=aP (aL s.hp id):=bK id;rw[j] at h;cases b:aL s.hp id with
 |box cs=>
  rw[b] at h;simp only[aP,Wt] at h;unfold aSL at h;split at h;split at h;rename_i e;obtain⟨rfl,f,a⟩:=e;injection h with h
  refine WR.clrB (o:=⟨d,.clr 1 [_] x,none⟩) trivial rfl g b f a (WR.nil (c _ ?_));simp_all[aE,aP,aZO];cases h;cases h
 |dead=>rw[b] at h;cases h
 |arr cap sz es=>
  rw[b] at h;simp only[aP,Wt] at h;split at h;rename_i e;obtain⟨rfl,a⟩:=e;injection h with h
  by_cases f:n=0;subst f;refine WR.clr0 (o:=⟨d,.clr sz z x,none⟩) (id:=id) (k0:=k0) trivial rfl (g.imp (fun h=>h) And.right) (WR.nil (c _ ?_))
  rw[<- h,aBF];simp only[aE];congr 1;exact (Cs (by rw[bK,b];rfl) (by simp)).symm;refine WR.clr (o:=⟨d,.clr sz z x,none⟩) trivial rfl g b (by omega) a (WR.nil (c _ ?_));simp_all[aE,aP,aZO];cases h
theorem Sn{d:Option Nat}{size:Nat}{z:List Value}{x:aH}(h:aCg G (aE s) d size z x=some st')(f:∀b,aE b=st'->K b):WR P G k [⟨d,.clr size z x,none⟩] K s:=by
 unfold aCg at h;have e:(aE s).sl=s.sl:=rfl;rw[e] at h;cases a:aM G s.sl x with
 |one c=>
  rw[a] at h;cases c with
  |bls id k0 n sz=>
   grind[aOB,Sm]
  |bld id n=>exact Sm (.inr ⟨rfl,a⟩) h f
  |_=>cases h
 |_=>rw[a] at h;cases h
theorem So{d:Option Nat}{x y:aH}(h:aCh G (aE s) d x y=some st')(e:∀i,aE i=st'->K i):WR P G k [⟨d,.cpys x y,none⟩] K s:=by
 unfold aCh at h;have j:(aE s).sl=s.sl:=rfl;rw[j] at h;unfold aOC at h;split at h;rename_i id q n z sv f g;split at h;rename_i p;subst p;have l:aL (aE s).hp id=aP (aL s.hp id):=bK id;rw[l] at h;cases a:aL s.hp id with
 |arr c sz es=>
  rw[a] at h;simp only[aP,aE9] at h;split at h;rename_i b;obtain⟨rfl,b⟩:=b;injection h with h;refine WR.cpyA (o:=⟨d,.cpys x y,none⟩) trivial rfl f g a b (WR.nil (e _ ?_))
  simp_all[aE,aP,aZO]
  cases h
 |dead=>rw[a] at h;cases h
 |box cs=>
  rw[a] at h;simp only[aP,aE9] at h;split at h;rename_i b;injection h with h
  refine WR.cpys (o:=⟨d,.cpys x y,none⟩) trivial rfl f g a b (WR.nil (e _ ?_));simp_all[aE,aP,aZO];cases h
 cases h;cases h
theorem Sp{d:Option Nat}{x:aH}(h:aCi G (aE s) d x=some st')(e:∀b,aE b=st'->K b):WR P G k [⟨d,.cvsb x,none⟩] K s:=by
 unfold aCi at h;have c:(aE s).sl=s.sl:=rfl;rw[c] at h;cases a:dJ (aM G s.sl x) with
 |none=>rw[a] at h;cases h
 |some sv=>
  rw[a] at h;injection h with h
  exact WR.cvsb (o:=⟨d,.cvsb x,none⟩) trivial rfl a (WR.nil (e _ (by rw[<- h];rfl)))
theorem aFn{d:Option Nat}{x:aH}(h:aJJ d (aE s) (dJ (aM G (aE s).sl x))=some st')(e:∀b,aE b=st'->K b):WR P G k [⟨d,.cvsb x,none⟩] K s:=by
 have c:(aE s).sl=s.sl:=rfl;rw[c] at h;cases a:dJ (aM G s.sl x) with
 |none=>rw[a] at h;cases h
 |some sv=>
  rw[a] at h;injection h with h
  exact WR.cvsA (o:=⟨d,.cvsb x,none⟩) trivial rfl a (fun cap=>WR.nil (e _ (by simp_all[aE,aP])))
theorem aJV{d:Option Nat}{size bytes:Nat}{z:List Value}{x y:aH}(h:mbK d size bytes (aE s) z (bH (aM G (aE s).sl x)) (bH (aM G (aE s).sl y))=some st')(g:∀b,aE b=st'->K b):WR P G k [⟨d,.mk size bytes z x y,none⟩] K s:=by
 have c:(aE s).sl=s.sl:=rfl;rw[c] at h;unfold mbK at h;split at h;rename_i v n m e f;split at h;rename_i j;obtain⟨rfl,a,i⟩:=j;injection h with h;exact WR.mkB (o:=⟨d,.mk 1 bytes [v] x y,none⟩) trivial rfl e f a i (WR.nil (g _ (by simp_all[aE,aP])))
 cases h;cases h
theorem Hj(b:cH P G call){l:List aN}{d:Option Nat}{c:AI}(h:mK call G (aE s) l d c=some st')(e:∀j,aE j=st'->K j):WR P G k [⟨d,c,none⟩] K s:=by
 have g:c.isCall=false->Hg G (aE s) d c=some st'->WR P G k [⟨d,c,none⟩] K s:=by
  intro t h;rw[show Hg G (aE s) d c=exX G (aE s) ⟨d,c,none⟩ from B6 G (aE s) ⟨d,c,none⟩] at h
  obtain⟨j,n,p⟩:=Sl h;exact WR.exX (o:=⟨d,c,none⟩) trivial t n (WR.nil (e _ p))
 cases c<;>first|exact g rfl h|skip
 case call f xs=>exact aJU b h e
 case callv x xs=>exact aAb b h e
 case mk size bytes z x y=>exact aAc h e
 case clr size z x=>exact Sn h e
 case cpys x y=>exact So h e
 case cvsb x=>exact Sp h e
 case app size bytes z a x=>exact uF.run (o:=⟨d,.app size bytes z a x,none⟩) trivial (Z7 h e)
 case apps a x=>cases h
 case bslc size len z ps=>
  simp only[mK] at h;obtain⟨u,i,r⟩:=fX (k:=k) (I9 G (aE s).sl ps) s;cases q:aJI d l with
  |true=>
   rw[q] at h;simp only[bsZ,<- r] at h;obtain⟨j,n,p⟩:=Sl (o:=⟨d,.bslc size len z ps,none⟩) h;exact WR.ghost i (WR.exX (o:=⟨d,.bslc size len z ps,none⟩) trivial rfl n (WR.nil (e _ p)))
  |false=>
   rw[q] at h;simp only[bsZ,<- r] at h;exact WR.ghost i (uF.run (o:=⟨d,.bslc size len z ps,none⟩) trivial (Z8 h e))
theorem Jh{g:Nat}{b:Bool}(h:gK b (aM G (aE s).sl (.t g))=some true):jP G s (some (g,b)):=aJr (st:=aE s) h
theorem Ji{g:Nat}{b:Bool}(h:gK b (aM G (aE s).sl (.t g))=some false):Gn G s (some (g,b)):=aEW (st:=aE s) h
theorem Sq(b:cH P G call){L:List Nat}{d:Option Nat}{e:AI}(h:Sf call G L (aE s) d e=some st')(c:∀q,aE q=st'->K q):WR P G k [⟨d,e,none⟩] K s:=by
 cases e with
 |call f j=>
  simp only[Sf] at h;cases n:O7 L (f+100000) with
  |false=>
   rw[n] at h;obtain⟨J,objs,l,D,C,t,u,v,w,A,B⟩:=rE (Aq b) h;exact WR.call (o:=⟨d,.call f j,none⟩) trivial rfl t u v w A (fun a o g=>WR.nil (c _ (B a o g)))
  |true=>
   rw[n] at h;simp only[aFa] at h;cases i:call f (C8 G (aE s) j) [] with
   |none=>rw[i] at h;cases h
   |some r=>
    obtain⟨l,os⟩:=r;rw[i] at h;cases os with
    |cons o os=>cases h
    |nil=>
     simp only[vpK] at h;cases p:mI l with
     |false=>simp_all
     |true=>
      rw[p] at h;injection h with h
      exact WR.callP (o:=⟨d,.call f j,none⟩) trivial rfl (aAa b i) p rfl (WR.nil (c _ (by rw[<- h];rfl)))
 |mk size bytes z x y=>exact aJV h c
 |cvsb x=>exact aFn h c
 |_=>cases h
theorem aAd(a:cH P G call){l:List aN}{o:aN}{h:AS}(c:Wu call G (aE s) l o.dst o.ai o.guard=some h)(next:∀f,aE f=h->WR P G k l K f):WR P G k (o::l) K s:=by
 obtain⟨d,i,g⟩:=o;cases g with
 |none=>exact WR.cons (Hj a c next)
 |some g=>
  simp only[Wu] at c;cases e:gK g.2 (aM G (aE s).sl (.t g.1)) with
  |none=>rw[e] at c;cases c
  |some b=>
   rw[e] at c;cases b with
   |true=>exact WR.cons (WR.guard (Jh e) rfl (Hj a c next))
   |false=>
    injection c with c
    exact WR.skip (Ji e) (next _ (by rw[<- c];rfl))
theorem aFo(a:cH P G call):∀(ops:List aN)(s:AS)(st':AS),evR call G ops (some (aE s))=some st'->WR P G k ops (fun c=>aE c=st') s
 |[],s,st',h=>by simp only[evR,Option.some.injEq] at h;exact WR.nil h
 | o::l,s,st',h=>by
   simp only[evR] at h;cases b:Wu call G (aE s) l o.dst o.ai o.guard with
   | none=>rw[b] at h;cases l<;>cases h
   | some e=>
     rw[b] at h;exact aAd a b (fun c d=>aFo a l c st' (by simp_all))
theorem aAe(a:cH P G call){L:List Nat}:∀(ops:List aN)(s:AS)(st':AS),Gu call G L ops (some (aE s))=some st'->WR P G k ops (fun s'=>aE s'=st') s
 |[],s,st',h=>by grind[Gu,Option.some.injEq,WR.nil]
 | o::l,s,st',h=>by
   simp only[Gu] at h;cases b:Ja call G L (aE s) l o.dst o.ai o.guard (kI L o.ai o.guard) with
   | none=>rw[b] at h;cases l<;>cases h
   | some f=>
     rw[b] at h;have next:∀ s',aE s'=f->WR P G k l (fun s'=>aE s'=st') s':=fun s' c=>aAe a l s' st' (by rw[c];exact h)
     cases e:kI L o.ai o.guard with
     | false=>rw[e] at b;exact aAd a b next
     | true=>
       rw[e] at b;obtain⟨d,i,g⟩:=o;cases g with
       | some g=>grind[kI]
       | none=>exact WR.cons (Sq a b next)
theorem aSP(c:cH P G call){L:List Nat}{l:List aN}{o:aN}{s1:AS}(a:Ja call G L (aE s) l o.dst o.ai o.guard (kI L o.ai o.guard)=some s1)(next:∀q,aE q=s1->K q):AN P G k o K s:=by
 obtain⟨d,e,g⟩:=o;unfold AN;simp only at a ⊢;split;rename_i hp;have n:kI L e g=false:=by cases e<;>first|rfl|cases hp
 rw[n] at a;simp only[Ja] at a;have i:∀{s1},mK call G (aE s) l d e=some s1->∃v,dH G s e=some v/\aE ⟨aQ s.sl d v,s.hp⟩=s1:=by
  intro s1 h;have j:Hg G (aE s) d e=some s1:=by cases e<;>first|exact h|cases hp
  rw[show Hg G (aE s) d e=exX G (aE s) ⟨d,e,none⟩ from B6 G (aE s) ⟨d,e,none⟩] at j
  have h3:(dH G (aE s) e).map (fun v=>(⟨aQ (aE s).sl d v,(aE s).hp⟩:AS))=some s1:=by cases e<;>first|exact j|cases hp
  rw[rB] at h3;obtain⟨v,h4,h5⟩:=Option.map_eq_some_iff.1 h3;exact⟨v,h4,h5⟩
 cases g with
 |none=>
  obtain⟨v,p,j⟩:=i a;exact .inr ⟨trivial,v,p,next _ j⟩
 |some g=>
  simp only[Wu] at a;cases f:gK g.2 (aM G (aE s).sl (.t g.1)) with
  |none=>rw[f] at a;cases a
  |some b=>
   rw[f] at a;cases b with
   |true=>
    obtain⟨v,p,j⟩:=i a;grind[Jh]
   |false=>
    injection a with a
    exact .inl ⟨Ji f,next _ (by rw[<- a];rfl)⟩
 cases n:kI L e g with
 |true=>
  rw[n] at a;cases g with
  |some g=>grind[kI]
  |none=>exact Sq c a next
 |false=>
  rw[n] at a;simp only[Ja] at a;cases g with
  |none=>exact Hj c a next
  |some g=>
   simp only[Wu] at a;cases f:gK g.2 (aM G (aE s).sl (.t g.1)) with
   |none=>rw[f] at a;cases a
   |some b=>
    rw[f] at a;cases b with
    |true=>exact WR.guard (Jh f) rfl (Hj c a next)
    |false=>
     injection a with a
     exact WR.skip (Ji f) (WR.nil (next _ (by rw[<- a];rfl)))
theorem aOL(f:cH P G call){L:List Nat}{d:Nat}{ops:List aN}:∀(t:IT)(s st':AS),F7 call G L d ops t (some (aE s))=some st'->TW P G k ops (fun b=>∃p,pOK d b.hp.length p/\aE (prm p b)=st') t s:=by
 have a:∀ (t:IT),(∀ (s st':AS),F7 call G L d ops t (some (aE s))=some st'->TW P G k ops (fun b=>∃ p,pOK d b.hp.length p/\aE (prm p b)=st') t s)->∀ (s st':AS) (i:Nat),
     F7 call G L d ops t (Ja call G L (aE s) ops (iM ops i).dst (iM ops i).ai (iM ops i).guard (kI L (iM ops i).ai (iM ops i).guard))=some st'->AN P G k (iM ops i) (TW P G k ops (fun b=>∃ p,pOK d b.hp.length p/\aE (prm p b)=st') t) s:=by
   intro t l s st' i h;cases y:Ja call G L (aE s) ops (iM ops i).dst (iM ops i).ai (iM ops i).guard (kI L (iM ops i).ai (iM ops i).guard) with
   | none=>rw[y] at h;cases t<;>cases h
   | some A=>
     grind[aSP]
 intro t
 induction t with
 |nil=>intro s st' h;simp only[F7,Option.some.injEq] at h;exact⟨[],(fun x c=>by cases c),h⟩
 |stop=>intro s st' h;cases h
 |st i t l=>exact fun s st' h=>a t l s st' i h
 |br i t r e j=>
  intro s st' h;simp only[F7] at h;cases g:Ot r with
  |true=>
   rw[g] at h;refine⟨a t e s st' i h,?_⟩;cases r<;>simp[Ot] at g;trivial
  |false=>
   rw[g] at h;obtain⟨u,n,p,v,h3,h4⟩:=Jc h;refine⟨a t e s st' i u,TW.mono (fun b ⟨q,o,z⟩=>?_) r s (j s n v)⟩
   have w:n.hp.length=b.hp.length:=by grind[Sc,Zr]
   refine⟨q++p,fun x c=>?_,?_⟩
   rcases bAv.1 c with c|c;exact o x c;rw[<- w];exact h3 x c;grind[Zs,Sb]
theorem aJW{ai:AI}:dH G ⟨(aE s).sl,Oj ai (aE s).hp⟩ ai=dH G ⟨s.sl,Oj ai s.hp⟩ ai:=by
 cases ai<;>first|rfl|exact rB (s:=⟨s.sl,s.hp⟩)
theorem aFp(g:cH P G call){d:Option Nat}{b:AI}(h:Cj call G (aE s) d b=some st'):∃v,(dH G ⟨s.sl,Oj b s.hp⟩ b=some v\/∃f j e r,b=.call f j/\QC P G f e r/\∀n,j.map (aM G s.sl)=e.map (dL (cN [] n))/\v=dL (cN [] n) r)/\(⟨aQ (aE s).sl d v,(aE s).hp⟩:AS)=st':=by
 have p:gH (aE s) d (evX G (aE s).sl (Oj b (aE s).hp) b)=some st'->∃v,dH G ⟨s.sl,Oj b s.hp⟩ b=some v/\(⟨aQ (aE s).sl d v,(aE s).hp⟩:AS)=st':=by
  intro h;rw[aEQ,aJW] at h;cases u:dH G ⟨s.sl,Oj b s.hp⟩ b with
  |none=>rw[u] at h;cases h
  |some v=>rw[u] at h;injection h with h;simp_all
 have z:(∀ f c,b≠.call f c)->∃ v,dH G ⟨s.sl,Oj b s.hp⟩ b=some v/\(⟨aQ (aE s).sl d v,(aE s).hp⟩:AS)=st':=fun B=>p (by
   cases b<;>first | exact h | simp_all)
 by_cases x:∃f c,b=.call f c;obtain⟨f,c,rfl⟩:=x;simp only[Cj] at h;cases y:(lC G (aE s).sl c).all (dE fun _=>true) with
 |false=>simp_all
 |true=>
  rw[y] at h;simp only[cond_true] at h;cases w:call f (lC G (aE s).sl c) [] with
  |none=>rw[w] at h;cases h
  |some r=>
   obtain⟨q,os⟩:=r;rw[w] at h;have l:∀ n,c.map (aM G s.sl)=(c.map (aM G s.sl)).map (dL (cN [] n)):=fun n=>by
     conv=>lhs;rw[<- List.map_id (c.map (aM G s.sl))]
     refine aZz (fun v u=>(rnV v ?_).symm)
     rw[qD,List.all_map] at y;have:=bAw.1 y v u;rwa[Function.comp_apply,Jg] at this
   cases os with
   |cons o os=>
    simp only[qcK,qcF] at h;generalize C:bF (fun id=>decide (0<=id)) ((bV (jU q) ⟨[q],o::os⟩).sl.getD 0 .junk)=v at h
    cases i:dE (fun _=>true) v with
    |false=>simp_all
    |true=>
     rw[i] at h;injection h with h
     have t:QC P G f (lC G (aE s).sl c) v:=QC.quiet g (by
       grind[Ao])
     refine⟨v,.inr ⟨f,c,c.map (aM G s.sl),v,rfl,?_,fun n=>⟨l n,(rnV v i).symm⟩⟩,h⟩
     rw[qD] at t;exact AC.nzArgs t
   |nil=>
    simp only[qcK] at h;cases i:dE (fun _=>true) q with
    |false=>simp_all
    |true=>
     rw[i] at h;injection h with h
     obtain⟨_,t⟩:=g _ _ _ _ _ w [] rfl;refine⟨q,.inr ⟨f,c,c.map (aM G s.sl),q,rfl,?_,fun n=>⟨?_,(rnV q i).symm⟩⟩,h⟩
     rw[qD] at t;exact t.nzArgs.gh (fun a o ⟨A,D⟩ _=>⟨a,o,Gh.refl,aZv _,A,by simp_all⟩)
     grind
 simp_all
theorem aJX(b:cH P G call){d:Option Nat}{q:AI}(h:ldZ call G (aE s) d q=some st')(g:∀D,aE D=st'->K D):uF P G k d q K s.sl s.hp:=by
 have H:∀{f l},dnZ call G d f l (aE s)=some st'->uF P G k d (.call f l) K s.sl s.hp:=by
  intro f l h;obtain⟨p,os,h0,I,J,h3⟩:=aOK b h;refine⟨_,Cx.of J (I _),⟨_,_,p,os,⟨rfl,h0⟩,rfl,rfl⟩,?_⟩;rintro a o ⟨E,S,⟨rfl,h5⟩,rfl,rfl⟩;refine g _ ?_;rw[<- h3,<- h5];simp only[aE,aZR,aZE];simp_all[aZz,oT]
 cases q<;>first|(cases h;done)|skip
 case call f l=>
  simp only[ldZ] at h;cases j:call f (C8 G (aE s) l) [] with
  |none=>rw[j] at h;cases h
  |some r=>
   obtain⟨p,os⟩:=r;rw[j] at h;cases os with
   |nil=>
    simp only[dvK] at h;cases C:mI p with
    |true=>
     rw[C] at h;injection h with h
     refine⟨_,Cx.viewP (aAa b j) C (by simp_all),⟨p,[],rfl,rfl⟩,?_⟩;rintro a o ⟨rfl,rfl⟩;rw[aZ7];exact g _ (by rw[<- h];rfl)
    |false=>simp_all
   |cons o os=>exact H h
 case callv x l=>exact aAb b h g
 case mk size bytes z x y=>exact aAc h g
 case clr size z x=>exact Sn h g
 case cpys x y=>exact So h g
 case cvsb x=>exact Sp h g
 case app size bytes z a x=>exact Z7 h g
 case bslc size len z ps=>exact Z8 h g
 case alloc z=>
  simp only[ldZ,Hg,Option.some.injEq] at h;exact g _ (by simp_all[aE,aP])
 case box x=>
  simp only[ldZ,Hg] at h;cases j:cellsOf (aM G (aE s).sl x) with
  |none=>rw[j] at h;cases h
  |some cs=>rw[j] at h;injection h with h;exact⟨cs,j,g _ (by simp_all[aE,aP])⟩
 case store size x v=>
  simp only[ldZ,Hg] at h;cases d with
  |some d=>cases h
  |none=>
   refine⟨rfl,?_⟩;simp only[stD,stX,show (aE s).sl=s.sl from rfl] at h
   split at h;rename_i id off B
   left
   split at h;rename_i vs A;split at h;rename_i cs n;rw[aE,bK] at n;split at h;rename_i j;injection h with h
   exact⟨id,off,cs,vs,B,A,rC n,j.1,j.2,g _ (by simp_all[aE,aP,aZO])⟩;cases h;cases h;cases h;rename_i id i z off B
   right
   split at h;rename_i F A;split at h;rename_i c T es n;rw[aE,bK] at n;obtain⟨cap,t,rfl⟩:=oU n;split at h;rename_i e O;split at h;rename_i j;injection h with h
   obtain⟨rfl,u,w⟩:=j;obtain⟨cs,M,N⟩:=aZV.1 A;exact⟨id,i,z,off,cap,es,e,F,B,by grind[mW],t,O,u,w,g _ (by simp_all[aE,aP,aZO])⟩;cases h;cases h;cases h;cases h;cases h
theorem aAf(a:cH P G call):∀(ops:List (Bool×aN)) (s:AS) (st':AS),Gv call G ops (some (aE s))=some st'->jZ P G k (fun s'=>aE s'=st') ops s
 |[],s,st',h=>by simp only[Gv,Option.some.injEq] at h;exact h
 | (q,o)::l,s,st',h=>by
   simp only[Gv] at h;cases c:drO call G (aE s) q o.dst o.ai o.guard with
   | none=>rw[c] at h;cases l<;>cases h
   | some j=>
     rw[c] at h;have next:∀ s',aE s'=j->jZ P G k (fun s'=>aE s'=st') l s':=fun s' r=>aAf a l s' st' (by simp_all)
     have i:jP G s o.guard->drZ call G (aE s) o.dst o.ai q=some j->jZ P G k (fun s'=>aE s'=st') ((q,o)::l) s:=by
       intro e f;cases q with
       | true=>
         obtain⟨v,n,p⟩:=aFp a f;exact⟨v,.inr ⟨e,n⟩,next _ (by rw[<- p];rfl)⟩
       | false=>exact .inr ⟨e,aJX a f next⟩
     cases d:o.guard with
     | none=>rw[d] at c;exact i (by rw[d];trivial) c
     | some g=>
       rw[d] at c;simp only[drO] at c;cases e:gK g.2 (aM G (aE s).sl (.t g.1)) with
       | none=>rw[e] at c;cases c
       | some b=>
         rw[e] at c;cases b with
         | true=>exact i (by grind[Jh]) c
         | false=>
           injection c with c
           exact WD.skip (by grind[Ji]) (next _ (by rw[<- c];rfl))
theorem aAg{sl:List AV}:∀{c:List aH}{x:aH}{id:Nat},x∈c->id∈Qy (aM G sl x)->id∈fpA G sl c
 | y::c,x,id,b,a=>by
   rw[fpA,bAv];rcases bAl.1 b with rfl | b
   · exact .inl a
   · exact .inr (aAg b a)
theorem Hk(s:AS)(id:Nat):(aE s).hp[id]?=(s.hp[id]?).map aP:=by simp[aE]
theorem aFq(q:cH P G call){o:aN}{r:Nat}{s1:AS}{f:FP}(D:k<=r)(i:jP G s o.guard)(h:Lo call G (aE s) o.dst r o.ai=some (s1,f)):∃v u,kM P G k o s v u f.2/\wrU u=f.1/\aE (Mh o s v u)=s1:=by
 have M:o.ai.isPure=true->Vw (fpA G (aE s).sl (bJ o.ai)) (mK call G (aE s) [] o.dst o.ai)=some (s1,f)->mK call G (aE s) [] o.dst o.ai=Hg G (aE s) o.dst o.ai->(∀ st':AS,Hg G st' o.dst o.ai=(dH G st' o.ai).map fun v=>⟨aQ st'.sl o.dst v,st'.hp⟩)->∃ v u,kM P G k o s v u f.2/\wrU u=f.1/\aE (Mh o s v u)=s1:=by
   intro _ h O S;rw[O,S,rB] at h;cases w:dH G s o.ai with
   | none=>rw[w] at h;cases h
   | some v=>
     rw[w] at h;simp only[aZg,Vw,Option.some.injEq,Prod.mk.injEq] at h;obtain⟨t,p⟩:=h;subst p;exact⟨v,none,.pur v _ i w (fun x I id T=>aAg I T),rfl,by rw[<- t];rfl⟩
 have ex:∀ st':AS,o.ai.isPure=true->Hg G st' o.dst o.ai=(dH G st' o.ai).map fun v=>⟨aQ st'.sl o.dst v,st'.hp⟩:=by
   grind[B6,exX,AI.isPure]
 cases b:o.ai with
 |alloc z=>
  rw[b] at h;simp only[Lo,Hk] at h;cases e:s.hp[r]? with
  |none=>rw[e] at h;cases h
  |some B=>
   rw[e] at h;cases B with
   |dead=>
    simp only[aZg,aP,fvN,Option.some.injEq,Prod.mk.injEq] at h;obtain⟨t,p⟩:=h;subst p;exact⟨_,_,.alloc z r i b e D,rfl,by simp_all[aE,Mh,C1,aP,aZO]⟩
   |box cs=>cases h
   |arr c sz es=>cases h
 |store size x v=>
  rw[b] at h;simp only[Lo] at h;unfold fvS at h;split at h;rename_i id off vs I w;cases F:o.dst with
  |some d=>simp_all
  |none=>
   rw[F] at h;simp only[Hk] at h;cases e:s.hp[id]? with
   |none=>rw[e] at h;cases h
   |some B=>
    rw[e] at h;cases B with
    |dead=>cases h
    |arr c sz es=>cases h
    |box cs=>
     simp only[aZg,aP,fvT] at h;split at h;rename_i C;simp only[Option.some.injEq,Prod.mk.injEq] at h;obtain⟨t,p⟩:=h;subst p;exact⟨_,_,.store size x v id off cs vs i b F I w e C.1 C.2,rfl,by simp_all[aE,Mh,C1,aP,aZO,aQ]⟩;cases h
  cases h
 |bslc size len z V=>
  rw[b] at h;simp only[Lo] at h;cases len with
  |zero=>cases h
  |succ len=>
   simp only[fvL] at h;cases l:bsX G (aE s) o.dst size (len+1) z V with
   |none=>rw[l] at h;cases h
   |some s2=>
    rw[l] at h;simp only[Vw,Option.some.injEq,Prod.mk.injEq] at h;obtain⟨t,p⟩:=h;subst p;unfold bsX at l;simp only at l;cases hf:iL (zs z ((len+1)*size)) (V.map fun (j,x)=>(j*size,size,aM G (aE s).sl x)) with
    |none=>simp_all
    |some cs=>
     simp only[hf,aZq] at l;cases F:dcs cs with
     |none=>simp_all
     |some X=>
      simp only[F,aZq] at l;split at l;rename_i U;injection l with l
      obtain⟨g1,g2,g3⟩:=lB size (len+1) X U;rw[Ms] at hf;exact⟨_,none,.lit size (len+1) z V (fY size (len+1) X) i b (by rw[g1,<- mW F];exact hf) g2 g3,rfl,by rw[<- t,<- l];rfl⟩;grind
 |cpys x y=>
  rw[b] at h;simp only[Lo] at h;unfold fvY at h;split at h;rename_i id lo n z bs I hy;split at h;rename_i hz;subst hz;rw[Hk] at h;cases e:s.hp[id]? with
  |none=>rw[e] at h;cases h
  |some B=>
   rw[e] at h;cases B with
   |dead=>cases h
   |arr c z es=>cases h
   |box cs=>
    simp only[aZg,aP,aJK] at h;split at h;rename_i C;simp only[Option.some.injEq,Prod.mk.injEq] at h;obtain⟨t,p⟩:=h;subst p;exact⟨_,_,.cpy x y id lo n bs cs i b I hy e C,rfl,by simp_all[aE,Mh,C1,aP,aZO]⟩;cases h
  cases h;cases h
 |call g N=>
  rw[b] at h;simp only[Lo] at h;generalize ((N.map (aM G (aE s).sl)).flatMap jU)=J at h
  match J with
  |[]=>
   simp only[fvC] at h;cases l:Cj call G (aE s) o.dst (.call g N) with
   |none=>rw[l] at h;cases h
   |some s2=>
    rw[l] at h;simp only[Vw,Option.some.injEq,Prod.mk.injEq] at h;obtain⟨t,p⟩:=h;subst p;obtain⟨v,w,he⟩:=aFp q l;rcases w with w|⟨f',E,A,r',O,S,Z⟩
    grind[dH]
    exact⟨v,none,.call f' E A r' v i (b.trans O) S Z,rfl,by rw[<- t,<- he];rfl⟩
  |[id]=>
   simp only[fvC,Hk] at h;cases e:s.hp[id]? with
   |none=>rw[e] at h;cases h
   |some B=>
    rw[e] at h;cases B with
    |dead=>cases h
    |arr c z es=>cases h
    |box cs=>
     simp only[aZg,aP,fvB] at h;cases D:(keepL (fun _=>true) cs&&(N.map (aM G (aE s).sl)).all (dE (kZ [id]))) with
     |false=>grind
     |true=>
      rw[D] at h;simp only[cond_true] at h;simp only[aZp] at D;unfold aFb at h;split at h;rename_i cs' C;cases H:keepL (fun _=>true) cs' with
      |false=>simp_all
      |true=>
       rw[H] at h;simp only[cond_true,Option.some.injEq,Prod.mk.injEq] at h;obtain⟨t,p⟩:=h;subst p;obtain⟨_,hA⟩:=Aq q _ _ _ _ _ C [.box cs] rfl;refine⟨.tup [],some (id,.box cs'),.callB g N _ id cs cs' i b e (hA.gh (fun a Y ⟨q1,W⟩ U=>⟨a,Y,Gh.refl,U,q1,?_⟩)) (fun n=>?_) (fun n=>⟨?_,?_⟩),rfl,by rw[<- t];simp[aE,Mh,C1,aP,aZO]⟩
       obtain⟨x,rfl⟩:=List.length_eq_one_iff.1 (by have:=congrArg List.length W;simpa using this:Y.length=1);simp only[aZl,aZm,List.cons.injEq,and_true] at W;rw[rC W]
       ·rw[aZE]
        conv=>lhs;rw[<- List.map_id (N.map (aM G s.sl))]
        exact aZz (fun v w=>(rtV v (bAw.1 D.2 v w)).symm)
       simp only[dY,<- pD,rnL _ D.1];simp only[dY,<- pD,rnL _ H]
      cases h
  |_::_::_=>cases h
 |_=>
  rw[b] at h;first
   |(refine M (by rw[b];rfl) (by rw[b];exact h) (by rw[b];rfl) (fun st'=>ex st' (by rw[b];rfl)))
   |(cases h;done)
theorem aOM(a:cH P G call){o:aN}{r:Nat}{s1:AS}{f:FP}(e:k<=r)(h:fvO call G (aE s) o.dst r o.ai o.guard=some (s1,f)):∃v u,kM P G k o s v u f.2/\wrU u=f.1/\aE (Mh o s v u)=s1:=by
 cases c:o.guard with
 |none=>rw[c] at h;exact aFq a e (by rw[c];trivial) h
 |some g=>
  rw[c] at h;simp only[fvO] at h;cases d:gK g.2 (aM G (aE s).sl (.t g.1)) with
  |none=>rw[d] at h;cases h
  |some b=>
   rw[d] at h;cases b with
   |true=>exact aFq a e (by rw[c];exact Jh d) h
   |false=>
    simp only[fvG,Option.some.injEq,Prod.mk.injEq] at h;obtain⟨i,j⟩:=h;subst j;exact⟨_,none,.skip (by rw[c];exact Ji d),rfl,by rw[<- i];rfl⟩
theorem aFr(b:cH P G call){c:List (Nat×Nat)}:∀(ops:List aN)(a:List FP)(r:Nat)(s:AS)(st':AS),k<=r->Wv call G c a r ops (some (aE s))=some st'-> ∃L:List FE,L.map (·.1)=ops/\lT P G k (fun w=>aE w=st') L s/\Lp c (a++L.map (·.2))=true
 | [],a,r,s,st',g,h=>by
   simp only[Wv] at h;cases d:Lp c a with
   | false=>rw[d] at h;cases h
   | true=>
     rw[d] at h;injection h with h
     exact⟨[],rfl,h,by simpa using d⟩
 | o::ops,a,r,s,st',g,h=>by
   simp only[Wv] at h;cases e:fvO call G (aE s) o.dst r o.ai o.guard with
   | none=>rw[e] at h;cases h
   | some q=>
     obtain⟨x,f⟩:=q;rw[e] at h;obtain⟨v,u,p,t,n⟩:=aOM b g e;simp only[<- n] at h;obtain⟨L,j,l,i⟩:=aFr b ops (a++[f]) _ (Mh o s v u) st' (by cases aCm o.ai<;>simp<;>omega) h;exact⟨(o,f)::L,by simp[j],⟨v,u,f.2,p,t,rfl,l⟩,by simpa using i⟩
theorem aAh:∀(L:List Nat)(n:Nat),Sg L n=L.contains n
 |[],n=>rfl
 | x::L,n=>by
   rw[Sg,aAh L n,jG,List.contains_cons]
theorem aAi:∀(a b:List Nat),Gw a b=uH a b
 |[],b=>rfl
 |x::a,b=>by rw[Gw,aAi a b,aAh];rfl
theorem W0:∀(a:List FE)(n:Nat),atF (a.map (·.2)) n=(a.getD n pA).2
 |[],n=>by cases n<;>rfl
 |f::a,0=>rfl
 |f::a,n+1=>by rw[aZl,atF,W0 a n];simp[aZo]
theorem aCq{a b c:List Nat}:uH a (b++c)=(uH a b&&uH a c):=by
 unfold uH;rw[bAy];simp only[bAw,aZp,bAc,List.contains_eq_mem,decide_eq_false_iff_not,bAv,not_or];exact⟨fun h=>⟨fun x d=>(h x d).1,fun x d=>(h x d).2⟩,fun h x d=>⟨h.1 x d,h.2 x d⟩⟩
theorem aAj{L:List FE}:∀(c:List (Nat×Nat)),Lp c (L.map (·.2))=true->∀p∈c,dsj (L.getD p.1 pA).2 (L.getD p.2 pA).2=true
 |[],_,p,hp=>by cases hp
 | (a,b)::c,h,p,hp=>by
   simp only[Lp,aZp] at h;rcases bAl.1 hp with rfl | hp
   · have d:=h.1
     rw[W0,W0] at d;show dsj (L.getD a pA).2 (L.getD b pA).2=true;revert d;generalize (L.getD a pA).2=x;generalize (L.getD b pA).2=y;obtain⟨w,r⟩:=x;obtain⟨w',e⟩:=y;intro d;simp only[dsM,aAi] at d;simp only[dsj,aCq];simp only[aZp] at d ⊢;exact⟨⟨d.1,d.2.1⟩,d.2.2⟩
   · exact aAj c h.2 p hp
theorem Sr:∀n,C9 n=List.replicate n .dead
 |0=>rfl
 |n+1=>by rw[C9,Sr n,List.replicate_succ]
theorem W4(a:cH P G call){b:List (Nat×Nat)}{ops:List aN}{s st':AS}(j:k<=s.hp.length)(h:Wv call G b [] (aE s).hp.length ops (some ⟨(aE s).sl,(aE s).hp++C9 (nAl ops)⟩)=some st'){Q:Exit->AS->Prop}(g:∀c,aE c=st'->Q .normal c):AW P G k (.drawnF b ops) Q s:=by
 refine AW.ghost (Gh.dead (nAl ops)) ?_;have e:(⟨(aE s).sl,(aE s).hp++C9 (nAl ops)⟩:AS)=aE ⟨s.sl,s.hp++List.replicate (nAl ops) .dead⟩:=by
  simp[aE,Sr,aP]
 rw[e] at h;obtain⟨L,f,i,d⟩:=aFr a ops [] _ _ st' (by simpa[aE] using j) h;exact AW.drawnF f (aAj b (by simpa using d)) (lT.mono g i)
end
end
section
section
variable {P:Program}{G:aF}{k:Nat}{st st' s:AS}{call:aO}
theorem aON(g:GH)(s:AS):∃b,Gh k s b/\aE b=ghE g (aE s):=by
 cases g with
 |nil d sz=>
  simp only[ghE,ghN];split;rename_i a;refine⟨_,Gh.nil (d:=d) sz ?_,by simp[aE,aP]⟩;rw[show (aE s).sl=s.sl from rfl,aZo] at a
  cases h:s.sl[d]? with
  |none=>rw[h] at a;cases a
  |some x=>rw[h] at a;simp only[aZW] at a;rw[a]
  exact⟨s,Gh.refl,rfl⟩
 |nilB d j sz=>
  simp only[ghE,ghB];split;rename_i id off a;simp only[aE,bK];unfold aJF;split;rename_i cs c;unfold aJE;split;rename_i e;exact⟨_,Gh.nilB sz (rC c) e,by simp[aE,aP,aZO]⟩;exact⟨s,Gh.refl,rfl⟩;exact⟨s,Gh.refl,rfl⟩;exact⟨s,Gh.refl,rfl⟩
 |frz d=>exact fX _ s
 |bv d=>exact uO _ s
theorem aFs(m:Nat)(c:aU):ctC m c=cJ (fun id=>decide (m<=id)) c:=by
 cases c<;>simp only[ctC,cJ,aU.keep,if_true]
 case ptr j o=>by_cases h:m<=j<;>simp[h]
 case bld j n=>by_cases h:m<=j<;>simp[h]
 case ept j i s o=>by_cases h:m<=j<;>simp[h]
 case bls j i s o=>by_cases h:m<=j<;>simp[h]
theorem Dd(m:Nat):∀cs,Gx m cs=cs.map (cJ fun id=>decide (m<=id))
 |[]=>rfl
 |c::cs=>by simp[Gx,aFs,Dd m cs]
theorem aOO(m:Nat)(v:AV):ctV m v=bF (fun id=>decide (m<=id)) v:=by
 cases v<;>simp only[ctV,bF,aFs,Dd]
theorem aOP(m:Nat)(o:aD):ctO m o=cO (fun id=>decide (m<=id)) o:=by
 cases o<;>simp only[ctO,cO,Dd]
theorem aFt(m:Nat):∀(n:Nat)(l:List aD),ctH m n l=(l.take n).map (cO fun id=>decide (m<=id))
 |0,l=>by simp[ctH]
 |n+1,[]=>by simp[ctH]
 |n+1,o::os=>by simp[ctH,aOP,aFt m n os]
theorem O9(m:Nat):∀(l:List AV)(L:List Nat),SLe (l.map (bF fun id=>decide (m<=id))) (ctS m L l)
 |[],[]=>trivial
 |[],_::_=>trivial
 |x::a,[]=>⟨.junk _,O9 m a []⟩
 |x::a,0::L=>⟨by rw[aOO];exact .refl _,O9 m a L⟩
 |x::a,(n+1)::L=>⟨.junk _,O9 m a (n::L)⟩
theorem Pa(L:List Nat)(m:Nat)(a:k<=m)(s:AS):Gh k s (kN L m s):=Gh.dropS m a (O9 m s.sl L) (aFt m m s.hp).symm
theorem aCr(m:Nat)(o:aD):aP (ctO m o)=ctO m (aP o):=by cases o<;>rfl
theorem Mx(m:Nat):∀(n:Nat)(l:List aD),(ctH m n l).map aP=ctH m n (l.map aP)
 |0,l=>by simp[ctH]
 |n+1,[]=>by simp[ctH]
 |n+1,o::os=>by simp[ctH,aCr,Mx m n os]
theorem E0(L:List Nat)(m:Nat)(s:AS):aE (kN L m s)=kN L m (aE s):=by
 simp only[aE,kN,Mx]
theorem AW.le{x:eG}{Q:Exit->AS->Prop}(h:k<=st.hp.length->AW P G k x Q st):AW P G k x Q st:=
 fun c e F γ a w b g f d=>h (by rw[<- b.len];exact d) c e F γ a w b g f d
theorem aNu(d:cH P G call):∀(c:HC)(s:AS)(e:Exit)(st':AS),EC call G c (aE s)=some (e,st')->∀k,AW P G k c.er (fun v l=>v=e/\aE l=st') s:=by
 intro c
 induction c with
 |bad=>intro s e st' h k;simp only[EC] at h;cases h
 |skip=>intro s e st' h k;simp only[EC,Option.some.injEq,Prod.mk.injEq] at h;obtain⟨rfl,rfl⟩:=h;exact AW.skip ⟨rfl,rfl⟩
 |ret=>intro s e st' h k;simp only[EC,Option.some.injEq,Prod.mk.injEq] at h;obtain⟨rfl,rfl⟩:=h;exact AW.ret ⟨rfl,rfl⟩
 |exit id=>intro s e st' h k;simp only[EC,Option.some.injEq,Prod.mk.injEq] at h;obtain⟨rfl,rfl⟩:=h;exact AW.exit ⟨rfl,rfl⟩
 |region ops=>
  intro s e st' h k;simp only[EC] at h;obtain⟨r,o,j⟩:=kO h;injection j with j h3
  subst j;subst h3;exact AW.region ((aFo d ops s st' o).mono (fun l h=>⟨rfl,h⟩))
 |regR L ops=>
  intro s e st' h k;simp only[EC] at h;obtain⟨r,o,j⟩:=kO h;injection j with j h3
  subst j;subst h3;exact AW.region ((aAe d ops s st' o).mono (fun l h=>⟨rfl,h⟩))
 |drawnT L t ops=>
  intro s e st' h k;simp only[EC] at h;obtain⟨r,o,j⟩:=kO h;injection j with j h3
  subst j;subst h3;refine AW.prm (AW.drawnT (TW.mono (fun l ⟨p,F,I⟩=>?_) t s (aOL d t s _ o)))
  exact⟨p,by rw[Sc] at F;exact F,rfl,I⟩
 |drawnF N ops=>
  intro s e st' h k;simp only[EC] at h;obtain⟨r,o,j⟩:=kO h;injection j with j h3
  subst j;subst h3;exact AW.le (fun A=>W4 d A o (fun l h=>⟨rfl,h⟩))
 |drawn ops=>
  intro s e st' h k;simp only[EC] at h;obtain⟨r,o,j⟩:=kO h;injection j with j h3
  subst j;subst h3;exact AW.drawn (jZ.mono (fun l h=>⟨rfl,h⟩) _ _ (aAf d ops s st' o))
 |seq a b f y=>
  intro s e st' h k;simp only[EC] at h;cases w:EC call G a (aE s) with
  |none=>rw[w] at h;cases h
  |some q=>
   obtain⟨B,r⟩:=q;rw[w] at h;refine AW.seq ((f s B r w k).mono ?_);rintro v l ⟨rfl,rfl⟩;cases v with
   |normal=>exact y l e st' h k
   |_=>simp only[Option.some.injEq,Prod.mk.injEq] at h;obtain⟨rfl,rfl⟩:=h;exact⟨rfl,rfl⟩
 |cond c a b f y=>
  intro s e st' h k;simp only[EC] at h;cases C:cK (aM G (aE s).sl c) with
  |none=>rw[C] at h;cases h
  |some t=>
   rw[C] at h;refine AW.cond C (fun E=>?_) (fun E=>?_)
   subst E;exact f s e st' h k;subst E;exact y s e st' h k
 |block id a f=>
  intro s e st' h k;simp only[EC] at h;cases w:EC call G a (aE s) with
  |none=>rw[w] at h;cases h
  |some q=>
   obtain⟨B,r⟩:=q;rw[w] at h;refine AW.block ((f s B r w k).mono ?_);rintro v l ⟨rfl,rfl⟩;cases v with
   |exit M=>
    simp only[Bf,aJL] at h ⊢;split at h;rename_i x;simp only[Option.some.injEq,Prod.mk.injEq] at h;obtain⟨rfl,rfl⟩:=h;rw[if_pos x];exact⟨rfl,rfl⟩;rename_i x;simp only[Option.some.injEq,Prod.mk.injEq] at h;obtain⟨rfl,rfl⟩:=h;rw[if_neg x];exact⟨rfl,rfl⟩
   |_=>simp only[Bf,aJL,Option.some.injEq,Prod.mk.injEq] at h;obtain⟨rfl,rfl⟩:=h;exact⟨rfl,rfl⟩
 |loop L a f=>
  intro s e st' h k;simp only[EC] at h;obtain⟨n,H⟩:=jV h;have J:(aE s).hp.length=s.hp.length:=by simp[aE]
  rw[J,<- E0] at H;refine AW.le (fun A=>?_)
  refine AW.loopG (α:=Nat×AS) (fun z=>z.2) (fun z=>Le (EC call G a) L s.hp.length z.1 (aE z.2)=some (e,st')) (fun z=>z.1) (n,kN L s.hp.length s) H (Pa L _ A s) (fun z u=>?_)
  obtain⟨i,r⟩:=z;cases i with
  |zero=>simp[Le] at u
  |succ i=>
   simp only[Le] at u;cases D:EC call G a (aE r) with
   |none=>rw[D] at u;cases u
   |some q=>
    obtain⟨B,O⟩:=q;rw[D] at u;refine (f r B O D k).mono ?_;rintro v l ⟨rfl,rfl⟩;cases v with
    |normal=>
     simp only[<- E0] at u;exact Ll.n (i,kN L s.hp.length l) u (Nat.lt_succ_self i) (Pa L _ A l)
    |_=>simp only[Option.some.injEq,Prod.mk.injEq] at u;obtain⟨rfl,rfl⟩:=u;unfold Ll;exact⟨rfl,rfl⟩
 |gh g a f=>
  intro s e st' h k;simp only[EC] at h;obtain⟨l,o,j⟩:=aON (k:=k) g s;exact AW.ghost o (f l e st' (by rw[j];exact h) k)
 |trm L a f=>
  intro s e st' h k;simp only[EC] at h;refine AW.le (fun A=>?_)
  exact AW.ghost (Pa L _ A s) (f _ e st' (by rw[E0];simpa[aE] using h) k)
def W5(P:Program)(T:HT):Prop:=∀f h,T.tab f=some h->Za P f=true/\∃a,P.funcs[f]?=some a/\a.ntmps=h.nt/\a.body.bind (bU P)=some h.code.er/\a.results.toList.mapM (jQ P)=some h.rs
theorem uP:∀(a:List Nat)(st:AS),(bV a st).hp.length=st.hp.length
 |[],st=>rfl
 | id::r,st=>by
   simp only[bV];split
   · rw[uP r];simp
   · exact uP r st
theorem Jj{n:Nat}{o:List aD}:(o.take n).map aP=(o.map aP).take n:=aZZ
theorem aJY{T:HT}(Y:W5 P T)(n:cH P G call){f:FuncId}{h:HF}(hf:T.tab f=some h){c:List AV}{b:List aD}{M:AV}{o':List aD}(g:Wx call G h c (b.map aP)=some (M,o')):Za P f=true/\AC P G f c b fun a o=>a=M/\o.map aP=o':=by
 obtain⟨ho,fn,U,V,W,X⟩:=Y f h hf;refine⟨ho,?_⟩;unfold Wx at g;cases C:EC call G h.code ⟨c++tC (h.nt-c.length),b.map aP⟩ with
 |none=>rw[C] at g;cases g
 |some q=>
  obtain⟨e,r⟩:=q;rw[C] at g;simp only[pX,aZa] at g;split at g;rename_i j;cases I:tJ r h.rs with
  |none=>rw[I] at g;cases g
  |some v=>
   rw[I] at g;simp only[Ww,Option.some.injEq] at g;have B:AC P G f c b (fun a o=>a=v/\o.map aP=r.hp):=by
     refine AC.of_codeJ U V W X ((aNu n h.code ⟨c++tC (h.nt - c.length),b⟩ e r C b.length).mono ?_);rintro O s' ⟨rfl,rfl⟩;unfold Fin;refine⟨?_,by simpa[aE] using j.2,v,by rw[<- Ew];exact I,rfl,rfl⟩;cases O<;>simp[Mo] at j ⊢
   unfold aOF at g;cases l:h.own with
   |true=>
    rw[l,cond_true] at g;refine AC.nz ?_;cases d:(dE (fun id=>decide (b.length<=id)) v&&(r.hp.take b.length).all (pB fun id=>decide (b.length<=id))) with
    |true=>
     rw[d,cond_true] at g;simp only[Prod.mk.injEq] at g;obtain⟨rfl,rfl⟩:=g;simp only[aZp] at d;refine B.gh (fun a o ⟨z,p⟩ F=>?_)
     subst z;refine⟨a,o.take b.length, ?_,by simp only[aZf];omega,rfl,by rw[Jj,p]⟩;have:=Gh.drop (k:=b.length) (as:=⟨[a],o⟩) b.length (aZe _);have S:(o.take b.length).map (cO fun id=>decide (b.length<=id))=o.take b.length:=by
       conv=>rhs;rw[<- List.map_id (o.take b.length)]
       refine aZz (fun x hx=>I3 ?_)
       have:=bAw.1 d.2 (aP x) (by rw[<- p,<- aZZ];exact List.mem_map.2 ⟨x,hx,rfl⟩);rwa[uL] at this
     simpa[I2 d.1,S] using this
    |false=>
     rw[d,cond_false] at g;simp only[Prod.mk.injEq] at g;obtain⟨rfl,rfl⟩:=g;exact B.gh (fun a o ⟨z,p⟩ F=>⟨a,o,Gh.refl,F,by rw[z],p⟩)
   |false=>
    rw[l,cond_false] at g;simp only[Prod.mk.injEq] at g;obtain⟨rfl,rfl⟩:=g;refine AC.nz ?_;refine B.gh (fun a o ⟨z,p⟩ F=>?_)
    subst z;obtain⟨s0,t,H⟩:=aOu (k:=b.length) (aZe b.length) (jU a) ⟨[a],o⟩ (Wp a);obtain⟨A,u,hn⟩:=fX (k:=b.length) (jU a) s0;have E:=t.trans u;have i:aE A=bV (jU a) (bxW b.length (jU a) ⟨[a],r.hp⟩ (Wp a)):=by rw[hn,H];simp only[aE,p]
    have w:A.sl.length=1:=by
     have:=congrArg (fun q=>q.sl.length) i
     simp only[aE,mR,(Zu _ _ _ _).1] at this;simpa using this
    have Z:A.hp.length=o.length:=by
     have:=congrArg (fun q=>q.hp.length) i
     simp only[aE,uP,aZa,(Zu _ _ _ _).2] at this;rw[this,<- p,aZa]
    obtain⟨y,N⟩:=List.length_eq_one_iff.1 w;have D:=Gh.drop (k:=b.length) (as:=A) b.length (aZe _);have J:(bV (jU a) (bxW b.length (jU a) ⟨[a],r.hp⟩ (Wp a))).sl.getD 0 .junk=y:=by rw[<- i];simp[aE,N]
    refine⟨bF (fun id=>decide (b.length<=id)) y,(A.hp.take b.length).map (cO fun id=>decide (b.length<=id)),?_,by simp only[aZa,aZf];omega,by rw[J],?_⟩
    have:=E.trans D;rw[N] at this;simpa using this;rw[<- i,uK,Jj];simp[aE]
  cases g
theorem uQ{T:HT}(e:W5 P T)(d:cH P G T.base):∀n,cH P G (callN G T n)
 |0=>fun f a hp c g h=>by simp[callN] at h
 | n+1=>fun f a hp c g h b i=>by
   subst i;rw[callN] at h;cases hf:T.tab f with
   | none=>rw[hf] at h;exact d f a _ c g h b rfl
   | some x=>rw[hf] at h;exact aJY e (uQ e d n) hf h
theorem aAk{T:HT}(i:W5 P T)(g:cH P G T.base){f:FuncId}{b:List AV}{r:AV}(h:EV G T f b []=some (r,[])):QC P G f b r:=by
 obtain⟨n,j⟩:=jV h;obtain⟨_,e⟩:=uQ i g n f b [] r [] j [] rfl;exact e.gh (fun a o ⟨c,d⟩ _=>⟨a,o,Gh.refl,aZv _,c,by simpa using d⟩)
