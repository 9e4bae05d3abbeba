/- Part. Conditions: none. -/
import Derived.Test.YtalhnjjchkmfeaaGreatDoorNa
namespace Go.Proofs.YtalhnjjchkmfeaaGreatDoor
set_option linter.unusedSimpArgs false
set_option linter.unusedVariables false
section
section
variable {α:Type}
theorem Xm{f:Nat->Option α}(j:∀n r,f n=some r->f (n+1)=some r){n:Nat}{r:α}(h:f n=some r):lim f=some r:=by
 have a:∀n r,f n=some r->∀m,n<=m->f m=some r:=by
  intro n r h m b
  induction m with
  |zero=>simp at b;subst b;exact h
  |succ m l=>
   by_cases i:n=m+1;subst i;exact h;exact j _ _ (l (by omega))
 have d:∃n r,f n=some r:=⟨n,r,h⟩;unfold lim;rw[dif_pos d];obtain⟨o,c⟩:=d.choose_spec;have e:=a _ _ c (max d.choose n) (Nat.le_max_left _ _);have g:=a _ _ h (max d.choose n) (Nat.le_max_right _ _);rw[c,<- e,g]
theorem jW{f:Nat->Option α}{r:α}(h:lim f=some r):∃n,f n=some r:=by
 unfold lim at h;split at h;exact⟨_,h⟩;cases h
end
section
variable {run:AS->Option (Exit×AS)}{L:List Nat}{m:Nat}
theorem Ji:∀(n:Nat)(st:AS) r,Ls run L m n st=some r->Ls run L m (n+1) st=some r
 |0,st,r,h=>by simp[Ls] at h
 | n+1,st,r,h=>by
   rw[Ls] at h ⊢;split at h
   · exact Ji n _ r h
   · exact h
theorem Dk{n:Nat}{st:AS}{r:Exit×AS}(h:Ls run L m n st=some r):B6 run L m st=some r:=Xm (fun n r h=>Ji n st r h) h
theorem aFv(st:AS){s:AS}(h:run st=some (.normal,s)):B6 run L m st=B6 run L m (kO L m s):=by
 have e:∀n,Ls run L m (n+1) st=Ls run L m n (kO L m s):=fun n=>by rw[Ls,h]
 cases b:B6 run L m (kO L m s) with
 |some r=>
  obtain⟨n,a⟩:=jW b;exact Dk (n:=n+1) (by rw[e];exact a)
 |none=>
  cases c:B6 run L m st with
  |none=>rfl
  |some r=>
   obtain⟨n,a⟩:=jW c;have:B6 run L m (kO L m s)=some r:=Dk (n:=n) (by rw[<- e];exact Ji _ _ _ a);rw[b] at this;cases this
theorem aCE{st:AS}{e:Exit}{s:AS}(h:run st=some (e,s))(b:e≠.normal):B6 run L m st=some (e,s):=by
 refine Dk (n:=1) ?_;rw[Ls,h];split;rename_i a;injection a with a;injection a with a;exact absurd a b
 rfl
end
def Hq(calls:Nat->aO)(call:aO):Prop:=∀f a hp r,call f a hp=some r->∃n,∀m,n<=m->calls m f a hp=some r
section
variable {calls:Nat->aO}{call:aO}{G:aF}
theorem aAd(i:Hq calls call){d:Option Nat}{f:FuncId}{a:List aH}{st s:AS}(h:Xg call G d f a st=some s):∃n,∀m,n<=m->Xg (calls m) G d f a st=some s:=by
 unfold Xg at *;cases c:(lG G st.sl a).all (dH fun _=>true) with
 |false=>rw[c] at h;cases h
 |true=>
  rw[c] at h;simp only[cond_true] at h ⊢;cases b:call f (lG G st.sl a) [] with
  |none=>rw[b] at h;cases h
  |some r=>
   obtain⟨n,g⟩:=i _ _ _ _ b;rw[b] at h;exact⟨n,fun m e=>by rw[g m e];exact h⟩
theorem aAe(i:Hq calls call){d:Option Nat}{f:FuncId}{a:List aH}{st s:AS}(h:dnZ call G d f a st=some s):∃n,∀m,n<=m->dnZ (calls m) G d f a st=some s:=by
 unfold dnZ at *;cases c:(lG G st.sl a).all (dH fun _=>true) with
 |false=>rw[c] at h;cases h
 |true=>
  rw[c] at h;simp only[cond_true] at h ⊢;cases b:call f (lG G st.sl a) [] with
  |none=>rw[b] at h;cases h
  |some r=>
   obtain⟨n,g⟩:=i _ _ _ _ b;rw[b] at h;exact⟨n,fun m e=>by rw[g m e];exact h⟩
theorem aKd(j:Hq calls call){d:Option Nat}{f:FuncId}{b:List aH}{st s:AS}(h:vwK call G d f b st (call f (G5 G st b) [])=some s):∃n,∀m,n<=m->vwK (calls m) G d f b st (calls m f (G5 G st b) [])=some s:=by
 cases e:call f (G5 G st b) [] with
 |none=>rw[e] at h;cases h
 |some r=>
  rw[e] at h;obtain⟨n,i⟩:=j _ _ _ _ e;obtain⟨p,os⟩:=r;cases os with
  |nil=>
   simp only[vwK] at h;cases c:mL p with
   |true=>rw[c] at h;exact⟨n,fun m g=>by rw[i m g];simp only[vwK,c];exact h⟩
   |false=>
    rw[c] at h;obtain⟨l,a⟩:=aAd j h;exact⟨max n l,fun m g=>by rw[i m (by omega)];simp only[vwK,c];exact a m (by omega)⟩
  |cons o os=>
   obtain⟨l,a⟩:=aAd j (st:=bX (mM G st.sl b) st) h;exact⟨max n l,fun m g=>by rw[i m (by omega)];exact a m (by omega)⟩
theorem aKe(j:Hq calls call){d:Option Nat}{f:FuncId}{b:List aH}{st s:AS}(h:dvK call G d f b st (call f (Di G st b) [])=some s):∃n,∀m,n<=m->dvK (calls m) G d f b st (calls m f (Di G st b) [])=some s:=by
 cases e:call f (Di G st b) [] with
 |none=>rw[e] at h;cases h
 |some r=>
  rw[e] at h;obtain⟨n,i⟩:=j _ _ _ _ e;obtain⟨p,os⟩:=r;cases os with
  |nil=>
   simp only[dvK] at h;cases c:mL p with
   |true=>rw[c] at h;exact⟨n,fun m g=>by rw[i m g];simp only[dvK,c];exact h⟩
   |false=>
    rw[c] at h;obtain⟨l,a⟩:=aAe j h;exact⟨max n l,fun m g=>by rw[i m (by omega)];simp only[dvK,c];exact a m (by omega)⟩
  |cons o os=>
   obtain⟨l,a⟩:=aAe j (st:=st) h;exact⟨max n l,fun m g=>by rw[i m (by omega)];exact a m (by omega)⟩
theorem Cf(j:Hq calls call){d:Option Nat}{f:FuncId}{a:List AV}{st s:AS}(h:lE call d f a st=some s):∃n,∀m,n<=m->lE (calls m) d f a st=some s:=by
 unfold lE at *;simp only at h ⊢;split at h;rename_i e;simp only[e,if_true];obtain⟨r,b,c⟩:=Option.map_eq_some_iff.1 h;obtain⟨n,i⟩:=j _ _ _ _ b;exact⟨n,fun m g=>by rw[i m g];exact congrArg some c⟩
 cases h
theorem sN(b:Hq calls call):Hq (fun n=>lI (calls n)) (lI call):=fun f a hp r h=>b f (a.map G3) hp r h
theorem aKf(b:Hq calls call){d:Option Nat}{f:FuncId}{a:List aH}{st s:AS}(h:clZ call G d f a st=some s):∃n,∀m,n<=m->clZ (calls m) G d f a st=some s:=by
 unfold clZ at *;cases hp:sM G st.sl a with
 |true=>rw[hp] at h;exact aKd b h
 |false=>rw[hp] at h;exact Cf (sN b) h
theorem aAf(b:Hq calls call){d:Option Nat}{x:aH}{a:List aH}{st s:AS}(h:cvZ call G d x a st=some s):∃n,∀m,n<=m->cvZ (calls m) G d x a st=some s:=by
 unfold cvZ at *;unfold cvK at *;split at h;exact Cf (sN b) h;cases h
theorem aAg(b:Hq calls call){st s:AS}{l:List aN}{d:Option Nat}{a:AI}(h:mN call G st l d a=some s):∃n,∀m,n<=m->mN (calls m) G st l d a=some s:=by
 cases a with
 |call f c=>exact aKf b h
 |callv x c=>exact aAf b h
 |_=>exact⟨0,fun _ _=>h⟩
theorem aAh(e:Hq calls call){st s:AS}{l:List aN}{d:Option Nat}{a:AI}{g:Option (Nat×Bool)}(h:Xi call G st l d a g=some s):∃n,∀m,n<=m->Xi (calls m) G st l d a g=some s:=by
 cases g with
 |none=>exact aAg e h
 |some g=>
  simp only[Xi] at h ⊢;cases c:gK g.2 (aM G st.sl (.t g.1)) with
  |none=>rw[c] at h;cases h
  |some b=>
   rw[c] at h;cases b with
   |true=>exact aAg e h
   |false=>exact⟨0,fun _ _=>h⟩
theorem aAi(b:Hq calls call):∀(l:List aN)(st s:AS),evR call G l (some st)=some s->∃n,∀m,n<=m->evR (calls m) G l (some st)=some s
 |[],st,s,h=>⟨0,fun _ _=>h⟩
 | o::l,st,s,h=>by
   simp only[evR] at h ⊢;cases a:Xi call G st l o.dst o.ai o.guard with
   | none=>rw[a] at h;cases l<;>cases h
   | some g=>
     rw[a] at h;obtain⟨e,c⟩:=aAh b a;obtain⟨f,d⟩:=aAi b l g s h;exact⟨max e f,fun m i=>by rw[c m (by omega)];exact d m (by omega)⟩
theorem aAj(e:Hq calls call){L:List Nat}{st s:AS}{l:List aN}{d:Option Nat}{a:AI}{g:Option (Nat×Bool)}{b:Bool}(h:Jh call G L st l d a g b=some s):∃n,∀m,n<=m->Jh (calls m) G L st l d a g b=some s:=by
 cases b with
 |false=>exact aAh e h
 |true=>
  cases a with
  |call f p=>
   simp only[Jh,St] at h ⊢;cases i:Pn L (f+100000) with
   |false=>rw[i] at h;exact Cf (sN e) h
   |true=>
    rw[i] at h;simp only[aFs] at h ⊢;cases c:call f (Di G st p) [] with
    |none=>rw[c] at h;cases h
    |some r=>
     obtain⟨n,o⟩:=e _ _ _ _ c;rw[c] at h;exact⟨n,fun m j=>by rw[o m j];exact h⟩
  |mk=>exact⟨0,fun _ _=>h⟩
  |cvsb=>exact⟨0,fun _ _=>h⟩
  |_=>cases h
theorem Sv(b:Hq calls call){L:List Nat}:∀(l:List aN)(st s:AS),G6 call G L l (some st)=some s->∃n,∀m,n<=m->G6 (calls m) G L l (some st)=some s
 |[],st,s,h=>⟨0,fun _ _=>h⟩
 | o::l,st,s,h=>by
   simp only[G6] at h ⊢;cases a:Jh call G L st l o.dst o.ai o.guard (kL L o.ai o.guard) with
   | none=>rw[a] at h;cases l<;>cases h
   | some g=>
     rw[a] at h;obtain⟨e,c⟩:=aAj b a;obtain⟨f,d⟩:=Sv b l g s h;exact⟨max e f,fun m i=>by rw[c m (by omega)];exact d m (by omega)⟩
theorem Jj{f:Nat}{a b:Option AS}{s:AS}(h:Gj f a b=some s):a=some s/\∃c p,b=some c/\pOK f c.hp.length p/\prm p c=s:=by
 unfold Gj at h;split at h;rename_i e;obtain⟨i,c,p,d,g,h3,h4⟩:=e;rw[d] at h;injection h with h;subst h;exact⟨d,c,p,g,h3,h4⟩
 cases h
theorem Sw{e:Nat}{a b:Option AS}{s c:AS}{p:List (Nat×Nat)}(d:a=some s)(f:b=some c)(h3:pOK e c.hp.length p)(h4:prm p c=s):Gj e a b=some s:=by
 unfold Gj;rw[if_pos ⟨s,c,p,d,f,h3,h4⟩,d]
theorem aKg(x:Hq calls call){L:List Nat}{b:Nat}{ops:List aN}:∀(t:IT)(st s:AS),Gk call G L b ops t (some st)=some s->∃n,∀m,n<=m->Gk (calls m) G L b ops t (some st)=some s:=by
 have a:∀(t:IT),(∀(st s:AS),Gk call G L b ops t (some st)=some s->∃n,∀m,n<=m->Gk (calls m) G L b ops t (some st)=some s)->∀(st s:AS)(i:Nat),
   Gk call G L b ops t (Jh call G L st ops (iR ops i).dst (iR ops i).ai (iR ops i).guard (kL L (iR ops i).ai (iR ops i).guard))=some s->
   ∃n,∀m,n<=m->Gk (calls m) G L b ops t (Jh (calls m) G L st ops (iR ops i).dst (iR ops i).ai (iR ops i).guard (kL L (iR ops i).ai (iR ops i).guard))=some s:=by
  intro t g st s i h;cases f:Jh call G L st ops (iR ops i).dst (iR ops i).ai (iR ops i).guard (kL L (iR ops i).ai (iR ops i).guard) with
  |none=>rw[f] at h;cases t<;>cases h
  |some z=>
   rw[f] at h;obtain⟨l,d⟩:=aAj x f;obtain⟨o,e⟩:=g z s h;exact⟨max l o,fun m w=>by rw[d m (by omega)];exact e m (by omega)⟩
 intro t
 induction t with
 |nil=>exact fun st s h=>⟨0,fun _ _=>h⟩
 |stop=>exact fun st s h=>by cases h
 |st i t g=>exact fun st s h=>a t g st s i h
 |br i t r c j=>
  intro st s h;simp only[Gk] at h ⊢;cases q:O8 r with
  |true=>rw[q] at h;exact a t c st s i h
  |false=>
   rw[q] at h;obtain⟨d,y,p,e,h3,h4⟩:=Jj h;obtain⟨l,u⟩:=a t c st s i d;obtain⟨o,v⟩:=j st y e;exact⟨max l o,fun m w=>Sw (u m (by omega)) (v m (by omega)) h3 h4⟩
theorem Po(e:Hq calls call){st s:AS}{q:Bool}{d:Option Nat}{a:AI}(h:drZ call G st d a q=some s):∃n,∀m,n<=m->drZ (calls m) G st d a q=some s:=by
 cases q with
 |true=>
  simp only[drZ] at h ⊢;cases a with
  |call f b=>
   simp only[Ct] at h ⊢;cases g:(lG G st.sl b).all (dH fun _=>true) with
   |false=>rw[g] at h;cases h
   |true=>
    rw[g] at h;simp only[cond_true] at h ⊢;cases c:call f (lG G st.sl b) [] with
    |none=>rw[c] at h;cases h
    |some r=>
     obtain⟨n,j⟩:=e _ _ _ _ c;rw[c] at h;exact⟨n,fun m i=>by rw[j m i];exact h⟩
  |_=>exact⟨0,fun _ _=>h⟩
 |false=>
  simp only[drZ] at h ⊢;cases a with
  |call f b=>exact aKe e h
  |callv x b=>exact aAf e h
  |_=>exact⟨0,fun _ _=>h⟩
theorem aKh(e:Hq calls call){st s:AS}{q:Bool}{d:Option Nat}{a:AI}{g:Option (Nat×Bool)}(h:drO call G st q d a g=some s):∃n,∀m,n<=m->drO (calls m) G st q d a g=some s:=by
 cases g with
 |none=>exact Po e h
 |some g=>
  simp only[drO] at h ⊢;cases c:gK g.2 (aM G st.sl (.t g.1)) with
  |none=>rw[c] at h;cases h
  |some b=>
   rw[c] at h;cases b with
   |true=>exact Po e h
   |false=>exact⟨0,fun _ _=>h⟩
theorem Sx(b:Hq calls call):∀(l:List (Bool×aN)) (st s:AS),G7 call G l (some st)=some s->∃n,∀m,n<=m->G7 (calls m) G l (some st)=some s
 |[],st,s,h=>⟨0,fun _ _=>h⟩
 | o::l,st,s,h=>by
   simp only[G7] at h ⊢;cases a:drO call G st o.1 o.2.dst o.2.ai o.2.guard with
   | none=>rw[a] at h;cases l<;>cases h
   | some g=>
     rw[a] at h;obtain⟨e,c⟩:=aKh b a;obtain⟨f,d⟩:=Sx b l g s h;exact⟨max e f,fun m i=>by rw[c m (by omega)];exact d m (by omega)⟩
theorem kP{x:Option AS}{r:Exit×AS}(h:nrm x=some r):∃s,x=some s/\r=(.normal,s):=by
 cases x with
 |none=>cases h
 |some s=>injection h with h;exact⟨s,rfl,h.symm⟩
theorem aKi{R:List Nat}{x:Nat->Option AS}{y:Option AS}{q:AS×FP}(h:Wg R y=some q)(c:∀s,y=some s->∃n,∀m,n<=m->x m=some s):∃n,∀m,n<=m->Wg R (x m)=some q:=by
 cases y with
 |none=>cases h
 |some s=>
  obtain⟨n,b⟩:=c s rfl;exact⟨n,fun m a=>by rw[b m a];exact h⟩
theorem aAk(i:Hq calls call){st:AS}{d:Option Nat}{r:Nat}{b:AI}{q:AS×FP}(h:L3 call G st d r b=some q):∃n,∀m,n<=m->L3 (calls m) G st d r b=some q:=by
 cases b with
 |call f a=>
  simp only[L3] at h ⊢;generalize (a.map (aM G st.sl)).flatMap jV=J at h ⊢
  match J with
  |[]=>exact aKi (x:=fun m=>Ct (calls m) G st d (.call f a)) h (fun s o=>Po i (show drZ call G st d (.call f a) true=some s from o))
  |[id]=>
   simp only[fvC] at h ⊢;unfold fvB at h ⊢;split at h;rename_i cs _;cases g:(keepL (fun _=>true) cs&&(a.map (aM G st.sl)).all (dH (lD [id]))) with
   |false=>rw[g] at h;cases h
   |true=>
    rw[g] at h;simp only[cond_true] at h ⊢;cases c:lI call f ((a.map (aM G st.sl)).map (dP (mJ [id]))) [.box cs] with
    |none=>rw[c] at h;cases h
    |some q=>
     obtain⟨n,l⟩:=sN i _ _ _ _ c;refine⟨n,fun m j=>?_⟩
     have e:=l m j;simp only at e;rw[e,<- c];exact h
   cases h
  |_::_::_=>cases h
 |alloc z=>exact⟨0,fun _ _=>h⟩
 |store size x v=>exact⟨0,fun _ _=>h⟩
 |cpys x y=>exact⟨0,fun _ _=>h⟩
 |_=>exact⟨0,fun _ _=>h⟩
theorem aKj(e:Hq calls call){st:AS}{d:Option Nat}{r:Nat}{a:AI}{g:Option (Nat×Bool)}{q:AS×FP}(h:fvO call G st d r a g=some q):∃n,∀m,n<=m->fvO (calls m) G st d r a g=some q:=by
 cases g with
 |none=>exact aAk e h
 |some g=>
  simp only[fvO] at h ⊢;cases c:gK g.2 (aM G st.sl (.t g.1)) with
  |none=>rw[c] at h;cases h
  |some b=>
   rw[c] at h;cases b with
   |true=>exact aAk e h
   |false=>exact⟨0,fun _ _=>h⟩
theorem aAl(d:Hq calls call){b:List (Nat×Nat)}:∀(l:List aN)(a:List FP)(r:Nat)(st s:AS),Xj call G b a r l (some st)=some s->∃n,∀m,n<=m->Xj (calls m) G b a r l (some st)=some s
 |[],a,r,st,s,h=>⟨0,fun _ _=>h⟩
 | o::l,a,r,st,s,h=>by
   simp only[Xj] at h ⊢;cases c:fvO call G st o.dst r o.ai o.guard with
   | none=>rw[c] at h;cases h
   | some q=>
     obtain⟨p,f⟩:=q;rw[c] at h;obtain⟨i,e⟩:=aKj d c;obtain⟨j,g⟩:=aAl d l _ _ p s h;exact⟨max i j,fun m t=>by rw[e m (by omega)];exact g m (by omega)⟩
theorem aAm{runs:Nat->AS->Option (Exit×AS)}{run:AS->Option (Exit×AS)}(d:∀st r,run st=some r->∃n,∀m,n<=m->runs m st=some r){L:List Nat}{k:Nat}:∀(i:Nat)(st:AS) r,Ls run L k i st=some r->∃n,∀m,n<=m->Ls (runs m) L k i st=some r
 |0,st,r,h=>by simp[Ls] at h
 | i+1,st,r,h=>by
   simp only[Ls] at h;cases a:run st with
   | none=>rw[a] at h;cases h
   | some q=>
     obtain⟨f,b⟩:=d _ _ a;rw[a] at h;obtain⟨e,s⟩:=q;cases e with
     | normal=>
       simp only at h;obtain⟨j,g⟩:=aAm d i _ r h;exact⟨max f j,fun m c=>by rw[Ls,b m (by omega)];exact g m (by omega)⟩
     | _=>exact⟨f,fun m c=>by rw[Ls,b m c];exact h⟩
theorem aO9(u:Hq calls call):∀(c:HC)(st:AS) r,EC call G c st=some r->∃n,∀m,n<=m->EC (calls m) G c st=some r:=by
 intro c
 induction c with
 |skip=>exact fun st r h=>⟨0,fun _ _=>h⟩
 |ret=>exact fun st r h=>⟨0,fun _ _=>h⟩
 |exit id=>exact fun st r h=>⟨0,fun _ _=>h⟩
 |region ops=>
  intro st r h;simp only[EC] at h ⊢;obtain⟨s,j,rfl⟩:=kP h;obtain⟨n,l⟩:=aAi u ops st s j;exact⟨n,fun m f=>by rw[l m f];rfl⟩
 |regR L ops=>
  intro st r h;simp only[EC] at h ⊢;obtain⟨s,j,rfl⟩:=kP h;obtain⟨n,l⟩:=Sv u ops st s j;exact⟨n,fun m f=>by rw[l m f];rfl⟩
 |drawnT L t ops=>
  intro st r h;simp only[EC] at h ⊢;obtain⟨s,j,rfl⟩:=kP h;obtain⟨n,l⟩:=aKg u t st s j;exact⟨n,fun m f=>by rw[l m f];rfl⟩
 |drawnF A ops=>
  intro st r h;simp only[EC] at h ⊢;obtain⟨s,j,rfl⟩:=kP h;obtain⟨n,l⟩:=aAl u ops _ _ _ s j;exact⟨n,fun m f=>by rw[l m f];rfl⟩
 |drawn ops=>
  intro st r h;simp only[EC] at h ⊢;obtain⟨s,j,rfl⟩:=kP h;obtain⟨n,l⟩:=Sx u ops st s j;exact⟨n,fun m f=>by rw[l m f];rfl⟩
 |seq a b d p=>
  intro st r h;simp only[EC] at h ⊢;cases o:EC call G a st with
  |none=>rw[o] at h;cases h
  |some q=>
   obtain⟨v,j⟩:=d _ _ o;rw[o] at h;obtain⟨e,s⟩:=q;cases e with
   |normal=>
    obtain⟨z,x⟩:=p s r h;exact⟨max v z,fun m f=>by rw[j m (by omega)];exact x m (by omega)⟩
   |_=>exact⟨v,fun m f=>by rw[j m f];exact h⟩
 |cond c a b d p=>
  intro st r h;simp only[EC] at h ⊢;cases w:cO (aM G st.sl c) with
  |none=>rw[w] at h;cases h
  | some t=>rw[w] at h;cases t with
    | true=>exact d st r h
    | false=>exact p st r h
 |block id a d=>
  intro st r h;simp only[EC] at h ⊢;cases o:EC call G a st with
  |none=>rw[o] at h;cases h
  |some q=>
   obtain⟨v,j⟩:=d _ _ o;rw[o] at h;exact⟨v,fun m f=>by rw[j m f];exact h⟩
 |loop L a d=>
  intro st r h;simp only[EC] at h ⊢;obtain⟨i,y⟩:=jW h;obtain⟨n,l⟩:=aAm (runs:=fun m=>EC (calls m) G a) (fun st r h=>d st r h) i _ r y
  exact⟨n,fun m f=>Dk (l m f)⟩
 |gh g a d=>exact fun st r h=>d _ r h
 |trm L a d=>exact fun st r h=>d _ r h
 |bad=>intro st r h;cases h
theorem Jk(f:Hq calls call){h:HF}{a:List AV}{hp:List aD}{r:AV×List aD}(b:Xl call G h a hp=some r):∃n,∀m,n<=m->Xl (calls m) G h a hp=some r:=by
 unfold Xl at *;cases c:EC call G h.code ⟨a++tK (h.nt-a.length),hp⟩ with
 |none=>rw[c] at b;cases b
 |some q=>
  obtain⟨n,e⟩:=aO9 f _ _ _ c;rw[c] at b;exact⟨n,fun m d=>by rw[e m d];exact b⟩
theorem sO{T:HT}:∀(n:Nat)(f:FuncId)(b:List AV)(hp:List aD)(r:AV×List aD),callN G T n f b hp=some r->callN G T (n+1) f b hp=some r
 |0,f,b,hp,r,h=>by simp[callN] at h
 | n+1,f,b,hp,r,h=>by
   rw[callN] at h ⊢;cases c:T.tab f with
   | none=>rw[c] at h;exact h
   | some x=>
     rw[c] at h;obtain⟨m,d⟩:=Jk (calls:=fun _=>callN G T (n+1)) (fun f a hp r h=>⟨0,fun _ _=>sO n f a hp r h⟩) h
     exact d m (aZE _)
theorem aCF(T:HT):Hq (callN G T) (EV G T):=by
 intro f a hp r h;obtain⟨n,c⟩:=jW h;refine⟨n,fun m b=>?_⟩
 induction m with
 |zero=>simp at b;subst b;exact c
 |succ m e=>
  by_cases d:n=m+1;subst d;exact c;exact sO _ _ _ _ _ (e (by omega))
theorem aNX{T:HT}{f:FuncId}{h:HF}{a:List AV}{hp:List aD}{r:AV×List aD}(b:T.tab f=some h)(c:Xl (EV G T) G h a hp=some r):EV G T f a hp=some r:=by
 obtain⟨n,d⟩:=Jk (aCF T) c;refine Xm (n:=n+1) (fun n r h=>sO n f a hp r h) ?_
 rw[callN,b];exact d n (aZE _)
theorem jG{T:HT}{f:FuncId}{a:List AV}{hp:List aD}{r:AV×List aD}(b:T.tab f=none)(c:T.base f a hp=some r):EV G T f a hp=some r:=by
 refine Xm (n:=1) (fun n r h=>sO n f a hp r h) ?_
 rw[callN,b];exact c
end
end
section
section
variable {P:Program}{G:aF}{k:Nat}{st st' s:AS}{K R Q:AS->Prop}{call:aO}
theorem AC.nzArgs{f:FuncId}{a:List AV}{objs:List aD}{Q:AV->List aD->Prop}(h:AC P G f (a.map G3) objs Q):AC P G f a objs Q:=
 fun F γ vs w j g c=>h F γ vs w j g ⟨by simpa using c.1,fun i l v b e=>by
   rw[aZI] at b;obtain⟨d,h3,rfl⟩:=Option.map_eq_some_iff.1 b;exact aFd (c.2 i d v h3 e)⟩
theorem Jl{p:Nat->Bool}(c:aV):(nzC c).keep p=c.keep p:=by
 unfold nzC;grind[aV.keep]
theorem Jm{p:Nat->Bool}:∀(cs:List aV),keepL p (cs.map nzC)=keepL p cs
 |[]=>rfl
 |c::cs=>by simp[keepL,Jl,Jm cs]
theorem Jn{p:Nat->Bool}(v:AV):dH p (G3 v)=dH p v:=by
 cases v with
 |one c=>grind[G3,dH,Jl]
 |agg cs=>grind[G3,dH,Jm]
 |tup l=>
  simp only[G3,dH,List.all_map];congr 1;funext t;cases t with
  |one c=>simp only[Function.comp_apply,nzT,Gi,Jl]
  |agg cs=>simp only[Function.comp_apply,nzT,Gi,Jm]
 |junk=>rfl
theorem qI{sl:List AV}:∀a:List aH,lG G sl a=(a.map (aM G sl)).map G3
 |[]=>rfl
 |x::a=>by simp[lG,qI a]
theorem aAn:∀a:List aH,G5 G st a=(a.map fun x=>vwA st.hp (aM G st.sl x)).map G3
 |[]=>rfl
 |x::a=>by simp[G5,aAn a]
theorem Dl{hp:List aD}(c:aV):Z8 (hp.map aP) c=Z8 hp c:=by
 cases c<;>simp only[Z8];rw[bL];cases aL hp _<;>rfl
theorem aFw{hp:List aD}(v:AV):vwA (hp.map aP) v=vwA hp v:=by
 simp_all[vwA,Dl,aZ1]
theorem Sy{hp:List aD}(c:aV):vwN (hp.map aP) c=vwN hp c:=by grind[vwN,Dl]
theorem aFx{hp:List aD}{off:Nat}(o:aD):vpP (hp.map aP) off (aP o)=vpP hp off o:=by
 cases o<;>simp only[aP,vpP,Pe];grind[List.map_congr_left,Sy]
theorem aFy{hp:List aD}(c:aV):vwM (hp.map aP) c=vwM hp c:=by
 simp_all[vwM,Sy,bL,aFx]
theorem aFz{hp:List aD}(c:aV):vp0 (hp.map aP) c=vp0 hp c:=by
 cases c<;>simp only[vp0,Dl];rw[bL];cases aL hp _<;>simp only[aP,vqP,Pg];grind[List.map_congr_left,aFy]
theorem aFA{hp:List aD}(c:aV):vpC (hp.map aP) c=vpC hp c:=by
 simp_all[vpC,aFz,Pf,aZ1]
theorem aFB{hp:List aD}(v:AV):vpA (hp.map aP) v=vpA hp v:=by
 simp_all[vpA,aFA,aZ1,Dl]
theorem aAo:∀a:List aH,Di G st a=(a.map fun x=>vpA st.hp (aM G st.sl x)).map G3
 |[]=>rfl
 |x::a=>by simp[Di,aAo a]
theorem Sz{o:aN}(h:exX G (aE s) o=some st'):∃j,exX G s o=some j/\aE j=st':=by
 obtain⟨d,l,g⟩:=o;have f:((dL G (aE s) l).map fun v=>(⟨aR (aE s).sl d v,(aE s).hp⟩:AS))=some st'->∃ j,((dL G s l).map fun v=>(⟨aR s.sl d v,s.hp⟩:AS))=some j/\aE j=st':=by
   intro h;rw[rG] at h;obtain⟨v,a,rfl⟩:=Option.map_eq_some_iff.1 h;exact⟨_,by rw[a];rfl,rfl⟩
 cases l<;>try exact f h
 case alloc z=>
  simp only[exX,Option.some.injEq] at h ⊢;exact⟨_,rfl,by rw[<- h];simp[aE,aP]⟩
 case box x=>
  simp only[exX] at h ⊢;obtain⟨cs,a,rfl⟩:=Option.map_eq_some_iff.1 h;rw[show (aE s).sl=s.sl from rfl] at a
  exact⟨_,by rw[a];rfl,by simp[aE,aP]⟩
 case store size x v=>
  simp only[exX] at h ⊢;cases d with
  |some d=>cases h
  |none=>
   simp only[stX,show (aE s).sl=s.sl from rfl] at h ⊢
   split at h;rename_i id off y;split at h;rename_i vs w;split at h;rename_i cs b;rw[aE,bL] at b;split at h;rename_i p;injection h with h
   simp only[rH b,if_pos p];exact⟨_,rfl,by rw[<- h];simp[aE,aP,bAd]⟩;cases h;cases h;cases h;rename_i id i z off y;split at h;rename_i r w;split at h;rename_i c A es b;rw[aE,bL] at b;obtain⟨cap,n,rfl⟩:=oX b;split at h;rename_i e q;split at h;rename_i p;injection h with h
   simp only[n,q,if_pos p];exact⟨_,rfl,by simp_all[aE,aP,bAd]⟩;cases h;cases h;cases h;cases h;cases h
 case bslc size len z ps=>
  simp only[exX,bsX] at h ⊢;cases len with
  |zero=>
   simp only at h ⊢;split at h;rename_i q;injection h with h
   simp only[if_pos q];exact⟨_,rfl,by rw[<- h];simp[aE,aP]⟩;cases h
  |succ len=>
   simp only at h ⊢;obtain⟨cs,a,h⟩:=bAk.1 h;obtain⟨r,t,h⟩:=bAk.1 h;rw[show (aE s).sl=s.sl from rfl] at a
   split at h;rename_i u;injection h with h
   exact⟨⟨aR s.sl d (vl (gD size (len+1) r)),s.hp⟩,by rw[a];simp only[aZQ,t,if_pos u],by rw[<- h];simp[aE]⟩;cases h
theorem E9{size:Nat}:∀{es:List (List DC)},gG size es=true->∀e∈es,e.length=size
 |[],_=>by simp
 | x::es,h=>by
   simp only[gG,aZO,jK,beq_iff_eq] at h;intro e a;rcases bAQ.1 a with rfl | a
   · exact h.1
   · exact E9 h.2 e a
theorem aFC(id:Nat)(c:aV):klC id c=cN (·==id) c:=by
 cases c<;>simp only[klC,cN,aV.keep,jK,if_true];all_goals simp_all
theorem Hr(id:Nat):∀cs,Pm id cs=cs.map (cN (·==id))
 |[]=>rfl
 |c::cs=>by simp[Pm,aFC,Hr id cs]
theorem aPa(id:Nat)(v:AV):klV id v=bG (·==id) v:=by
 cases v<;>simp only[klV,bG,aFC,Hr]
theorem aFD(id:Nat):∀l,klS id l=l.map (bG (·==id))
 |[]=>rfl
 |c::cs=>by simp[klS,aPa,aFD id cs]
theorem aPb(id:Nat)(o:aD):klO id o=cU (·==id) o:=by
 cases o<;>simp only[klO,cU,Hr]
theorem Xn(id:Nat):∀l,klH id l=l.map (cU (·==id))
 |[]=>rfl
 |c::cs=>by simp[klH,aPb,Xn id cs]
theorem aAp{d:Option Nat}{size bytes:Nat}{z:List Value}{a x:aH}(h:apZ d size bytes (aE s) (aM G s.sl a) (aM G s.sl x)=some st')(q:∀r,aE r=st'->K r):uN P G k d (.app size bytes z a x) K s.sl s.hp:=by
 unfold apZ at h;split at h;rename_i t u id n p
 right
 rw[aE,bL,Av] at h;unfold apB at h;split at h;rename_i c sz es b i g;split at h;rename_i f;injection h with h
 obtain⟨cap,i,_⟩:=oX i;obtain⟨rfl,j,l,o⟩:=f;exact⟨id,n,cap,es,b,p,i,j,g,E9 l,o,fun e _=>q _ (by rw[<- h];simp only[aE,bAd,uS,aFD,Xn];rfl)⟩
 cases h;cases h;rename_i t u p
 left
 rw[aE,Av] at h;unfold apN at h;split at h;rename_i b g;split at h;rename_i f;injection h with h
 exact⟨p,b,g,E9 f.1,f.2,fun e _=>q _ (by rw[<- h];simp only[aE,bAg,uS,aZz,Xn];rfl)⟩
 cases h;cases h;cases h
theorem aAq{d:Option Nat}{size len:Nat}{z:List Value}{g:List (Nat×aH)}(h:bsO G (aE s) d size len z g=some st')(f:∀i,aE i=st'->K i):uN P G k d (.bslc size len z g) K s.sl s.hp:=by
 unfold bsO at h;obtain⟨cs,a,h⟩:=bAk.1 h;cases b:dcs cs with
 |none=>
  rw[b] at h;simp only[bsP] at h;split at h;rename_i c;injection h with h
  rw[M8] at a;exact .inr ⟨c,cs,a,f _ (by simp_all[aE,aP])⟩;cases h
 |some e=>
 rw[b] at h;simp only[bsP] at h;split at h;rename_i c;injection h with h
 obtain⟨j,l,n⟩:=lF size len e c;rw[M8] at a;refine .inl ⟨gD size len e,by rw[j,<- mZ b];exact a,l,n,f _ (by simp_all[aE,aP])⟩;cases h
theorem aPc(b:cI P G call){d:Option Nat}{f:FuncId}{c:List aH}(h:Xg call G d f c (aE s)=some st'):
  ∃ e os,(∀ n,c.map (aM G s.sl)=(c.map (aM G s.sl)).map (dP (cQ [] n)))/\AC P G f (c.map (aM G s.sl)) [] (fun a o=>a=e/\o.map aP=os)/\
    (⟨aR s.sl d (dP (cQ [] s.hp.length) e),s.hp.map aP++os.map (fA (cQ [] s.hp.length))⟩:AS)=st':=by
 unfold Xg at h;cases i:(lG G (aE s).sl c).all (dH fun _=>true) with
 |false=>simp_all
 |true=>
  rw[i] at h;simp only[cond_true] at h;cases g:call f (lG G (aE s).sl c) [] with
  |none=>rw[g] at h;cases h
  |some r=>
   obtain⟨e,os⟩:=r;rw[g] at h;simp only[nwK,Option.some.injEq] at h;obtain⟨_,j⟩:=b _ _ _ _ _ g [] rfl;refine⟨e,os,fun n=>?_,(by rw[qI] at j;exact j.nzArgs),by simp_all[aE]⟩
   conv=>lhs;rw[<- List.map_id (c.map (aM G s.sl))]
   refine aZ1 (fun v l=>(rnV v ?_).symm)
   rw[qI,List.all_map] at i;have:=bA0.1 i v l;rwa[Function.comp_apply,Jn] at this
theorem aFE:∀{os:List aD},aCu os=true->os.map aP=os
 |[],_=>rfl
 | o::os,h=>by
   simp only[aCu,aZO] at h;rw[aZL,aFE h.2];congr 1;cases o<;>try rfl
   simp_all[aO0,jK,beq_iff_eq,aP]
theorem aPd(c:cI P G call){d:Option Nat}{f:FuncId}{b:List aH}(h:dnZ call G d f b (aE s)=some st'):
  ∃ e os,os.map aP=os/\(∀ n,b.map (aM G s.sl)=(b.map (aM G s.sl)).map (dP (cQ [] n)))/\AC P G f (b.map (aM G s.sl)) [] (fun a o=>a=e/\o.map aP=os)/\
    (⟨aR s.sl d (dP (cQ [] s.hp.length) e),s.hp.map aP++os.map (fA (cQ [] s.hp.length))⟩:AS)=st':=by
 unfold dnZ at h;cases i:(lG G (aE s).sl b).all (dH fun _=>true) with
 |false=>simp_all
 |true=>
  rw[i,cond_true] at h;cases g:call f (lG G (aE s).sl b) [] with
  |none=>rw[g] at h;cases h
  |some r=>
   obtain⟨e,os⟩:=r;rw[g] at h;simp only[dnK] at h;cases l:aCu os with
   |false=>simp_all
   |true=>
    rw[l,cond_true] at h;have q:Xg call G d f b (aE s)=some st':=by
     unfold Xg;rw[i,cond_true,g];exact h
    obtain⟨_,j⟩:=c _ _ _ _ _ g [] rfl;refine⟨e,os,aFE l,fun n=>?_,(by rw[qI] at j;exact j.nzArgs),by simp_all[aE]⟩
    conv=>lhs;rw[<- List.map_id (b.map (aM G s.sl))]
    refine aZ1 (fun v p=>(rnV v ?_).symm)
    rw[qI,List.all_map] at i;have:=bA0.1 i v p;rwa[Function.comp_apply,Jn] at this
theorem aAr(b:cI P G call){d:Option Nat}{f:FuncId}{c:List aH}(h:Xg call G d f c (aE s)=some st')(j:∀e,aE e=st'->K e):WR P G k [⟨d,.call f c,none⟩] K s:=by
 obtain⟨l,os,g,i,h3⟩:=aPc b h;refine WR.callN (o:=⟨d,.call f c,none⟩) trivial rfl i (g _) (fun a o ⟨h4,h5⟩=>WR.nil (j _ ?_))
 subst h4;rw[<- h3,<- h5];simp only[aE,bAg,aZ5];simp_all[aZ1,oW]
theorem aKk{c:List aH}(b:cI P G call){f:FuncId}{av:AV}(h:call f (G5 G (aE s) c) []=some (av,[])):QC P G f (c.map fun x=>vwA s.hp (aM G s.sl x)) av:=by
 obtain⟨_,d⟩:=b _ _ _ _ _ h [] rfl;rw[aAn] at d;have e:(c.map fun x=>vwA (aE s).hp (aM G (aE s).sl x))=c.map fun x=>vwA s.hp (aM G s.sl x):=aZ1 (fun x _=>aFw _)
 rw[e] at d;exact d.nzArgs.gh (fun a o ⟨g,i⟩ _=>⟨a,o,Gh.refl,aZV _,g,by simp_all⟩)
theorem aAs{c:List aH}(b:cI P G call){f:FuncId}{av:AV}(h:call f (Di G (aE s) c) []=some (av,[])):QC P G f (c.map fun x=>vpA s.hp (aM G s.sl x)) av:=by
 obtain⟨_,d⟩:=b _ _ _ _ _ h [] rfl;rw[aAo] at d;have e:(c.map fun x=>vpA (aE s).hp (aM G (aE s).sl x))=c.map fun x=>vpA s.hp (aM G s.sl x):=aZ1 (fun x _=>aFB _)
 rw[e] at d;exact d.nzArgs.gh (fun a o ⟨g,i⟩ _=>⟨a,o,Gh.refl,aZV _,g,by simp_all⟩)
theorem Az(a:cI P G call):cI P G (lI call):=fun f c hp d g h b e=>⟨(a f _ hp d g h b e).1,(a f _ hp d g h b e).2.nzArgs⟩
theorem aKl(b:cI P G call){d:Option Nat}{f:FuncId}{c:List aH}(h:clZ call G d f c (aE s)=some st')(n:∀q,aE q=st'->K q):WR P G k [⟨d,.call f c,none⟩] K s:=by
 unfold clZ at h;obtain⟨B,i,p⟩:=gC (k:=k) (mM G (aE s).sl c) s;cases hp:sM G (aE s).sl c with
 |false=>
  rw[hp,cond_false,<- p] at h;obtain⟨J,objs,l,A,z,t,u,v,w,x,y⟩:=rI (Az b) h;exact WR.ghost i (WR.call (o:=⟨d,.call f c,none⟩) trivial rfl t u v w x (fun a o e=>WR.nil (n _ (y a o e))))
 |true=>
  rw[hp,cond_true] at h;cases g:call f (G5 G (aE s) c) [] with
  |none=>rw[g] at h;cases h
  |some r=>
   obtain⟨l,os⟩:=r;rw[g] at h;cases os with
   |nil=>
    simp only[vwK] at h;cases j:mL l with
    |true=>
     rw[j] at h;injection h with h
     exact WR.callV (o:=⟨d,.call f c,none⟩) trivial rfl (aKk b g) j rfl (WR.nil (n _ (by rw[<- h];rfl)))
    |false=>
     rw[j,cond_false,<- p] at h;grind[WR.ghost,aAr]
   |cons o os=>
    grind[vwK,WR.ghost,aAr]
theorem aAt(b:cI P G call){d:Option Nat}{x:aH}{c:List aH}(h:cvZ call G d x c (aE s)=some st')(v:∀j,aE j=st'->K j):WR P G k [⟨d,.callv x c,none⟩] K s:=by
 unfold cvZ at h;obtain⟨B,g,w⟩:=gC (k:=k) (mM G (aE s).sl c) s;rw[<- w] at h;unfold cvK at h;split at h;rename_i f i y;obtain⟨J,objs,z,A,l,n,p,q,r,t,u⟩:=rI (Az b) h;exact WR.ghost g (WR.callv (o:=⟨d,.callv x c,none⟩) trivial rfl y l n p q r t (fun a o e=>WR.nil (v _ (u a o e))))
 cases h
theorem aAu{d:Option Nat}{size bytes:Nat}{z:List Value}{x y:aH}(h:mkZ G (aE s) d size bytes z x y=some st')(f:∀b,aE b=st'->K b):WR P G k [⟨d,.mk size bytes z x y,none⟩] K s:=by
 unfold mkZ mkK at h;split at h;rename_i n m c e;split at h;rename_i a;injection h with h
 exact WR.mk (o:=⟨d,.mk size bytes z x y,none⟩) trivial rfl c e a.1 a.2 (WR.nil (f _ (by simp_all[aE,aP])));cases h;cases h
theorem S0{d:Option Nat}{size id k0 n:Nat}{z:List Value}{x:aH}(g:aM G s.sl x=.one (.bls id k0 n size)\/(k0=0/\aM G s.sl x=.one (.bld id n))) (h:Xh d (aE s) id k0 n size z (aL (aE s).hp id)=some st') (c:∀i,aE i=st'->K i):WR P G k [⟨d,.clr size z x,none⟩] K s:=by
 have j:aL (aE s).hp id=aP (aL s.hp id):=bL id;rw[j] at h;cases b:aL s.hp id with
 |box cs=>
  rw[b] at h;simp only[aP,Xh] at h;unfold aS7 at h;split at h;split at h;rename_i e;obtain⟨rfl,f,a⟩:=e;injection h with h
  refine WR.clrB (o:=⟨d,.clr 1 [_] x,none⟩) trivial rfl g b f a (WR.nil (c _ ?_));simp_all[aE,aP,bAd];cases h;cases h
 |dead=>rw[b] at h;cases h
 |arr cap sz es=>
  rw[b] at h;simp only[aP,Xh] at h;split at h;rename_i e;obtain⟨rfl,a⟩:=e;injection h with h
  by_cases f:n=0;subst f;refine WR.clr0 (o:=⟨d,.clr sz z x,none⟩) (id:=id) (k0:=k0) trivial rfl (g.imp (fun h=>h) And.right) (WR.nil (c _ ?_))
  rw[<- h,aBV];simp only[aE];congr 1;exact (C1 (by rw[bL,b];rfl) (by simp)).symm;refine WR.clr (o:=⟨d,.clr sz z x,none⟩) trivial rfl g b (by omega) a (WR.nil (c _ ?_));simp_all[aE,aP,bAd];cases h
theorem S3{d:Option Nat}{size:Nat}{z:List Value}{x:aH}(h:aCw G (aE s) d size z x=some st')(f:∀b,aE b=st'->K b):WR P G k [⟨d,.clr size z x,none⟩] K s:=by
 unfold aCw at h;have e:(aE s).sl=s.sl:=rfl;rw[e] at h;cases a:aM G s.sl x with
 |one c=>
  rw[a] at h;cases c with
  |bls id k0 n sz=>
   grind[aO4,S0]
  |bld id n=>exact S0 (.inr ⟨rfl,a⟩) h f
  |_=>cases h
 |_=>rw[a] at h;cases h
theorem S4{d:Option Nat}{x y:aH}(h:aCx G (aE s) d x y=some st')(e:∀i,aE i=st'->K i):WR P G k [⟨d,.cpys x y,none⟩] K s:=by
 unfold aCx at h;have j:(aE s).sl=s.sl:=rfl;rw[j] at h;unfold aO5 at h;split at h;rename_i id q n z sv f g;split at h;rename_i p;subst p;have l:aL (aE s).hp id=aP (aL s.hp id):=bL id;rw[l] at h;cases a:aL s.hp id with
 |arr c sz es=>
  rw[a] at h;simp only[aP,aFr] at h;split at h;rename_i b;obtain⟨rfl,b⟩:=b;injection h with h;refine WR.cpyA (o:=⟨d,.cpys x y,none⟩) trivial rfl f g a b (WR.nil (e _ ?_))
  simp_all[aE,aP,bAd]
  cases h
 |dead=>rw[a] at h;cases h
 |box cs=>
  rw[a] at h;simp only[aP,aFr] at h;split at h;rename_i b;injection h with h
  refine WR.cpys (o:=⟨d,.cpys x y,none⟩) trivial rfl f g a b (WR.nil (e _ ?_));simp_all[aE,aP,bAd];cases h
 cases h;cases h
theorem S5{d:Option Nat}{x:aH}(h:aCy G (aE s) d x=some st')(e:∀b,aE b=st'->K b):WR P G k [⟨d,.cvsb x,none⟩] K s:=by
 unfold aCy at h;have c:(aE s).sl=s.sl:=rfl;rw[c] at h;cases a:dO (aM G s.sl x) with
 |none=>rw[a] at h;cases h
 |some sv=>
  rw[a] at h;injection h with h
  exact WR.cvsb (o:=⟨d,.cvsb x,none⟩) trivial rfl a (WR.nil (e _ (by rw[<- h];rfl)))
theorem aFF{d:Option Nat}{x:aH}(h:aKa d (aE s) (dO (aM G (aE s).sl x))=some st')(e:∀b,aE b=st'->K b):WR P G k [⟨d,.cvsb x,none⟩] K s:=by
 have c:(aE s).sl=s.sl:=rfl;rw[c] at h;cases a:dO (aM G s.sl x) with
 |none=>rw[a] at h;cases h
 |some sv=>
  rw[a] at h;injection h with h
  exact WR.cvsA (o:=⟨d,.cvsb x,none⟩) trivial rfl a (fun cap=>WR.nil (e _ (by simp_all[aE,aP])))
theorem aKm{d:Option Nat}{size bytes:Nat}{z:List Value}{x y:aH}(h:mbK d size bytes (aE s) z (bI (aM G (aE s).sl x)) (bI (aM G (aE s).sl y))=some st')(g:∀b,aE b=st'->K b):WR P G k [⟨d,.mk size bytes z x y,none⟩] K s:=by
 have c:(aE s).sl=s.sl:=rfl;rw[c] at h;unfold mbK at h;split at h;rename_i v n m e f;split at h;rename_i j;obtain⟨rfl,a,i⟩:=j;injection h with h;exact WR.mkB (o:=⟨d,.mk 1 bytes [v] x y,none⟩) trivial rfl e f a i (WR.nil (g _ (by simp_all[aE,aP])))
 cases h;cases h
theorem Hs(b:cI P G call){l:List aN}{d:Option Nat}{c:AI}(h:mN call G (aE s) l d c=some st')(e:∀j,aE j=st'->K j):WR P G k [⟨d,c,none⟩] K s:=by
 have g:c.isCall=false->Hp G (aE s) d c=some st'->WR P G k [⟨d,c,none⟩] K s:=by
  intro t h;rw[show Hp G (aE s) d c=exX G (aE s) ⟨d,c,none⟩ from Ce G (aE s) ⟨d,c,none⟩] at h
  obtain⟨j,n,p⟩:=Sz h;exact WR.exX (o:=⟨d,c,none⟩) trivial t n (WR.nil (e _ p))
 cases c<;>first|exact g rfl h|skip
 case call f xs=>exact aKl b h e
 case callv x xs=>exact aAt b h e
 case mk size bytes z x y=>exact aAu h e
 case clr size z x=>exact S3 h e
 case cpys x y=>exact S4 h e
 case cvsb x=>exact S5 h e
 case app size bytes z a x=>exact uN.run (o:=⟨d,.app size bytes z a x,none⟩) trivial (aAp h e)
 case apps a x=>cases h
 case bslc size len z ps=>
  simp only[mN] at h;obtain⟨u,i,r⟩:=gC (k:=k) (Jg G (aE s).sl ps) s;cases q:aJ9 d l with
  |true=>
   rw[q] at h;simp only[bsZ,<- r] at h;obtain⟨j,n,p⟩:=Sz (o:=⟨d,.bslc size len z ps,none⟩) h;exact WR.ghost i (WR.exX (o:=⟨d,.bslc size len z ps,none⟩) trivial rfl n (WR.nil (e _ p)))
  |false=>
   rw[q] at h;simp only[bsZ,<- r] at h;exact WR.ghost i (uN.run (o:=⟨d,.bslc size len z ps,none⟩) trivial (aAq h e))
theorem Jo{g:Nat}{b:Bool}(h:gK b (aM G (aE s).sl (.t g))=some true):jR G s (some (g,b)):=aJS (st:=aE s) h
theorem Jp{g:Nat}{b:Bool}(h:gK b (aM G (aE s).sl (.t g))=some false):G0 G s (some (g,b)):=aFe (st:=aE s) h
theorem S6(b:cI P G call){L:List Nat}{d:Option Nat}{e:AI}(h:St call G L (aE s) d e=some st')(c:∀q,aE q=st'->K q):WR P G k [⟨d,e,none⟩] K s:=by
 cases e with
 |call f j=>
  simp only[St] at h;cases n:Pn L (f+100000) with
  |false=>
   rw[n] at h;obtain⟨J,objs,l,D,C,t,u,v,w,A,B⟩:=rI (Az b) h;exact WR.call (o:=⟨d,.call f j,none⟩) trivial rfl t u v w A (fun a o g=>WR.nil (c _ (B a o g)))
  |true=>
   rw[n] at h;simp only[aFs] at h;cases i:call f (Di G (aE s) j) [] with
   |none=>rw[i] at h;cases h
   |some r=>
    obtain⟨l,os⟩:=r;rw[i] at h;cases os with
    |cons o os=>cases h
    |nil=>
     simp only[vpK] at h;cases p:mL l with
     |false=>simp_all
     |true=>
      rw[p] at h;injection h with h
      exact WR.callP (o:=⟨d,.call f j,none⟩) trivial rfl (aAs b i) p rfl (WR.nil (c _ (by rw[<- h];rfl)))
 |mk size bytes z x y=>exact aKm h c
 |cvsb x=>exact aFF h c
 |_=>cases h
theorem aAv(a:cI P G call){l:List aN}{o:aN}{h:AS}(c:Xi call G (aE s) l o.dst o.ai o.guard=some h)(next:∀f,aE f=h->WR P G k l K f):WR P G k (o::l) K s:=by
 obtain⟨d,i,g⟩:=o;cases g with
 |none=>exact WR.cons (Hs a c next)
 |some g=>
  simp only[Xi] at c;cases e:gK g.2 (aM G (aE s).sl (.t g.1)) with
  |none=>rw[e] at c;cases c
  |some b=>
   rw[e] at c;cases b with
   |true=>exact WR.cons (WR.guard (Jo e) rfl (Hs a c next))
   |false=>
    injection c with c
    exact WR.skip (Jp e) (next _ (by rw[<- c];rfl))
theorem aFG(a:cI P G call):∀(ops:List aN)(s:AS)(st':AS),evR call G ops (some (aE s))=some st'->WR P G k ops (fun c=>aE c=st') s
 |[],s,st',h=>by simp only[evR,Option.some.injEq] at h;exact WR.nil h
 | o::l,s,st',h=>by
   simp only[evR] at h;cases b:Xi call G (aE s) l o.dst o.ai o.guard with
   | none=>rw[b] at h;cases l<;>cases h
   | some e=>
     rw[b] at h;exact aAv a b (fun c d=>aFG a l c st' (by simp_all))
theorem aAw(a:cI P G call){L:List Nat}:∀(ops:List aN)(s:AS)(st':AS),G6 call G L ops (some (aE s))=some st'->WR P G k ops (fun s'=>aE s'=st') s
 |[],s,st',h=>by grind[G6,Option.some.injEq,WR.nil]
 | o::l,s,st',h=>by
   simp only[G6] at h;cases b:Jh call G L (aE s) l o.dst o.ai o.guard (kL L o.ai o.guard) with
   | none=>rw[b] at h;cases l<;>cases h
   | some f=>
     rw[b] at h;have next:∀ s',aE s'=f->WR P G k l (fun s'=>aE s'=st') s':=fun s' c=>aAw a l s' st' (by rw[c];exact h)
     cases e:kL L o.ai o.guard with
     | false=>rw[e] at b;exact aAv a b next
     | true=>
       rw[e] at b;obtain⟨d,i,g⟩:=o;cases g with
       | some g=>grind[kL]
       | none=>exact WR.cons (S6 a b next)
theorem aTb(c:cI P G call){L:List Nat}{l:List aN}{o:aN}{s1:AS}(a:Jh call G L (aE s) l o.dst o.ai o.guard (kL L o.ai o.guard)=some s1)(next:∀q,aE q=s1->K q):AN P G k o K s:=by
 obtain⟨d,e,g⟩:=o;unfold AN;simp only at a ⊢;split;rename_i hp;have n:kL L e g=false:=by cases e<;>first|rfl|cases hp
 rw[n] at a;simp only[Jh] at a;have i:∀{s1},mN call G (aE s) l d e=some s1->∃v,dL G s e=some v/\aE ⟨aR s.sl d v,s.hp⟩=s1:=by
  intro s1 h;have j:Hp G (aE s) d e=some s1:=by cases e<;>first|exact h|cases hp
  rw[show Hp G (aE s) d e=exX G (aE s) ⟨d,e,none⟩ from Ce G (aE s) ⟨d,e,none⟩] at j
  have h3:(dL G (aE s) e).map (fun v=>(⟨aR (aE s).sl d v,(aE s).hp⟩:AS))=some s1:=by cases e<;>first|exact j|cases hp
  rw[rG] at h3;obtain⟨v,h4,h5⟩:=Option.map_eq_some_iff.1 h3;exact⟨v,h4,h5⟩
 cases g with
 |none=>
  obtain⟨v,p,j⟩:=i a;exact .inr ⟨trivial,v,p,next _ j⟩
 |some g=>
  simp only[Xi] at a;cases f:gK g.2 (aM G (aE s).sl (.t g.1)) with
  |none=>rw[f] at a;cases a
  |some b=>
   rw[f] at a;cases b with
   |true=>
    obtain⟨v,p,j⟩:=i a;grind[Jo]
   |false=>
    injection a with a
    exact .inl ⟨Jp f,next _ (by rw[<- a];rfl)⟩
 cases n:kL L e g with
 |true=>
  rw[n] at a;cases g with
  |some g=>grind[kL]
  |none=>exact S6 c a next
 |false=>
  rw[n] at a;simp only[Jh] at a;cases g with
  |none=>exact Hs c a next
  |some g=>
   simp only[Xi] at a;cases f:gK g.2 (aM G (aE s).sl (.t g.1)) with
   |none=>rw[f] at a;cases a
   |some b=>
    rw[f] at a;cases b with
    |true=>exact WR.guard (Jo f) rfl (Hs c a next)
    |false=>
     injection a with a
     exact WR.skip (Jp f) (WR.nil (next _ (by rw[<- a];rfl)))
theorem aPe(f:cI P G call){L:List Nat}{d:Nat}{ops:List aN}:∀(t:IT)(s st':AS),Gk call G L d ops t (some (aE s))=some st'->TW P G k ops (fun b=>∃p,pOK d b.hp.length p/\aE (prm p b)=st') t s:=by
 have a:∀ (t:IT),(∀ (s st':AS),Gk call G L d ops t (some (aE s))=some st'->TW P G k ops (fun b=>∃ p,pOK d b.hp.length p/\aE (prm p b)=st') t s)->∀ (s st':AS) (i:Nat),
     Gk call G L d ops t (Jh call G L (aE s) ops (iR ops i).dst (iR ops i).ai (iR ops i).guard (kL L (iR ops i).ai (iR ops i).guard))=some st'->AN P G k (iR ops i) (TW P G k ops (fun b=>∃ p,pOK d b.hp.length p/\aE (prm p b)=st') t) s:=by
   intro t l s st' i h;cases y:Jh call G L (aE s) ops (iR ops i).dst (iR ops i).ai (iR ops i).guard (kL L (iR ops i).ai (iR ops i).guard) with
   | none=>rw[y] at h;cases t<;>cases h
   | some A=>
     grind[aTb]
 intro t
 induction t with
 |nil=>intro s st' h;simp only[Gk,Option.some.injEq] at h;exact⟨[],(fun x c=>by cases c),h⟩
 |stop=>intro s st' h;cases h
 |st i t l=>exact fun s st' h=>a t l s st' i h
 |br i t r e j=>
  intro s st' h;simp only[Gk] at h;cases g:O8 r with
  |true=>
   rw[g] at h;refine⟨a t e s st' i h,?_⟩;cases r<;>simp[O8] at g;trivial
  |false=>
   rw[g] at h;obtain⟨u,n,p,v,h3,h4⟩:=Jj h;refine⟨a t e s st' i u,TW.mono (fun b ⟨q,o,z⟩=>?_) r s (j s n v)⟩
   have w:n.hp.length=b.hp.length:=by grind[Sq,Z9]
   refine⟨q++p,fun x c=>?_,?_⟩
   rcases bAY.1 c with c|c;exact o x c;rw[<- w];exact h3 x c;grind[aAa,Sp]
theorem aKn{ai:AI}:dL G ⟨(aE s).sl,O4 ai (aE s).hp⟩ ai=dL G ⟨s.sl,O4 ai s.hp⟩ ai:=by
 cases ai<;>first|rfl|exact rG (s:=⟨s.sl,s.hp⟩)
theorem aFH(g:cI P G call){d:Option Nat}{b:AI}(h:Ct call G (aE s) d b=some st'):∃v,(dL G ⟨s.sl,O4 b s.hp⟩ b=some v\/∃f j e r,b=.call f j/\QC P G f e r/\∀n,j.map (aM G s.sl)=e.map (dP (cQ [] n))/\v=dP (cQ [] n) r)/\(⟨aR (aE s).sl d v,(aE s).hp⟩:AS)=st':=by
 have p:gO (aE s) d (evX G (aE s).sl (O4 b (aE s).hp) b)=some st'->∃v,dL G ⟨s.sl,O4 b s.hp⟩ b=some v/\(⟨aR (aE s).sl d v,(aE s).hp⟩:AS)=st':=by
  intro h;rw[aE8,aKn] at h;cases u:dL G ⟨s.sl,O4 b s.hp⟩ b with
  |none=>rw[u] at h;cases h
  |some v=>rw[u] at h;injection h with h;simp_all
 have z:(∀ f c,b≠.call f c)->∃ v,dL G ⟨s.sl,O4 b s.hp⟩ b=some v/\(⟨aR (aE s).sl d v,(aE s).hp⟩:AS)=st':=fun B=>p (by
   cases b<;>first | exact h | simp_all)
 by_cases x:∃f c,b=.call f c;obtain⟨f,c,rfl⟩:=x;simp only[Ct] at h;cases y:(lG G (aE s).sl c).all (dH fun _=>true) with
 |false=>simp_all
 |true=>
  rw[y] at h;simp only[cond_true] at h;cases w:call f (lG G (aE s).sl c) [] with
  |none=>rw[w] at h;cases h
  |some r=>
   obtain⟨q,os⟩:=r;rw[w] at h;have l:∀ n,c.map (aM G s.sl)=(c.map (aM G s.sl)).map (dP (cQ [] n)):=fun n=>by
     conv=>lhs;rw[<- List.map_id (c.map (aM G s.sl))]
     refine aZ1 (fun v u=>(rnV v ?_).symm)
     rw[qI,List.all_map] at y;have:=bA0.1 y v u;rwa[Function.comp_apply,Jn] at this
   cases os with
   |cons o os=>
    simp only[qcK,qcF] at h;generalize C:bG (fun id=>decide (0<=id)) ((bX (jV q) ⟨[q],o::os⟩).sl.getD 0 .junk)=v at h
    cases i:dH (fun _=>true) v with
    |false=>simp_all
    |true=>
     rw[i] at h;injection h with h
     have t:QC P G f (lG G (aE s).sl c) v:=QC.quiet g (by
       grind[Ax])
     refine⟨v,.inr ⟨f,c,c.map (aM G s.sl),v,rfl,?_,fun n=>⟨l n,(rnV v i).symm⟩⟩,h⟩
     rw[qI] at t;exact AC.nzArgs t
   |nil=>
    simp only[qcK] at h;cases i:dH (fun _=>true) q with
    |false=>simp_all
    |true=>
     rw[i] at h;injection h with h
     obtain⟨_,t⟩:=g _ _ _ _ _ w [] rfl;refine⟨q,.inr ⟨f,c,c.map (aM G s.sl),q,rfl,?_,fun n=>⟨?_,(rnV q i).symm⟩⟩,h⟩
     rw[qI] at t;exact t.nzArgs.gh (fun a o ⟨A,D⟩ _=>⟨a,o,Gh.refl,aZV _,A,by simp_all⟩)
     grind
 simp_all
theorem aKo(b:cI P G call){d:Option Nat}{q:AI}(h:ldZ call G (aE s) d q=some st')(g:∀D,aE D=st'->K D):uN P G k d q K s.sl s.hp:=by
 have H:∀{f l},dnZ call G d f l (aE s)=some st'->uN P G k d (.call f l) K s.sl s.hp:=by
  intro f l h;obtain⟨p,os,I,J,M,h3⟩:=aPd b h;refine⟨_,C6.of M (J _),⟨_,_,p,os,⟨rfl,I⟩,rfl,rfl⟩,?_⟩;rintro a o ⟨E,T,⟨rfl,h5⟩,rfl,rfl⟩;refine g _ ?_;rw[<- h3,<- h5];simp only[aE,bAg,aZ5];simp_all[aZ1,oW]
 cases q<;>first|(cases h;done)|skip
 case call f l=>
  simp only[ldZ] at h;cases j:call f (Di G (aE s) l) [] with
  |none=>rw[j] at h;cases h
  |some r=>
   obtain⟨p,os⟩:=r;rw[j] at h;cases os with
   |nil=>
    simp only[dvK] at h;cases C:mL p with
    |true=>
     rw[C] at h;injection h with h
     refine⟨_,C6.viewP (aAs b j) C (by simp_all),⟨p,[],rfl,rfl⟩,?_⟩;rintro a o ⟨rfl,rfl⟩;rw[bAy];exact g _ (by rw[<- h];rfl)
    |false=>simp_all
   |cons o os=>exact H h
 case callv x l=>exact aAt b h g
 case mk size bytes z x y=>exact aAu h g
 case clr size z x=>exact S3 h g
 case cpys x y=>exact S4 h g
 case cvsb x=>exact S5 h g
 case app size bytes z a x=>exact aAp h g
 case bslc size len z ps=>exact aAq h g
 case alloc z=>
  simp only[ldZ,Hp,Option.some.injEq] at h;exact g _ (by simp_all[aE,aP])
 case box x=>
  simp only[ldZ,Hp] at h;cases j:cellsOf (aM G (aE s).sl x) with
  |none=>rw[j] at h;cases h
  |some cs=>rw[j] at h;injection h with h;exact⟨cs,j,g _ (by simp_all[aE,aP])⟩
 case store size x v=>
  simp only[ldZ,Hp] at h;cases d with
  |some d=>cases h
  |none=>
   refine⟨rfl,?_⟩;simp only[stD,stX,show (aE s).sl=s.sl from rfl] at h
   split at h;rename_i id off B
   left
   split at h;rename_i vs A;split at h;rename_i cs n;rw[aE,bL] at n;split at h;rename_i j;injection h with h
   exact⟨id,off,cs,vs,B,A,rH n,j.1,j.2,g _ (by simp_all[aE,aP,bAd])⟩;cases h;cases h;cases h;rename_i id i z off B
   right
   split at h;rename_i F A;split at h;rename_i c U es n;rw[aE,bL] at n;obtain⟨cap,t,rfl⟩:=oX n;split at h;rename_i e S;split at h;rename_i j;injection h with h
   obtain⟨rfl,u,w⟩:=j;obtain⟨cs,N,O⟩:=bAk.1 A;exact⟨id,i,z,off,cap,es,e,F,B,by grind[mZ],t,S,u,w,g _ (by simp_all[aE,aP,bAd])⟩;cases h;cases h;cases h;cases h;cases h
theorem aAx(a:cI P G call):∀(ops:List (Bool×aN)) (s:AS) (st':AS),G7 call G ops (some (aE s))=some st'->kB P G k (fun s'=>aE s'=st') ops s
 |[],s,st',h=>by simp only[G7,Option.some.injEq] at h;exact h
 | (q,o)::l,s,st',h=>by
   simp only[G7] at h;cases c:drO call G (aE s) q o.dst o.ai o.guard with
   | none=>rw[c] at h;cases l<;>cases h
   | some j=>
     rw[c] at h;have next:∀ s',aE s'=j->kB P G k (fun s'=>aE s'=st') l s':=fun s' r=>aAx a l s' st' (by simp_all)
     have i:jR G s o.guard->drZ call G (aE s) o.dst o.ai q=some j->kB P G k (fun s'=>aE s'=st') ((q,o)::l) s:=by
       intro e f;cases q with
       | true=>
         obtain⟨v,n,p⟩:=aFH a f;exact⟨v,.inr ⟨e,n⟩,next _ (by rw[<- p];rfl)⟩
       | false=>exact .inr ⟨e,aKo a f next⟩
     cases d:o.guard with
     | none=>rw[d] at c;exact i (by rw[d];trivial) c
     | some g=>
       rw[d] at c;simp only[drO] at c;cases e:gK g.2 (aM G (aE s).sl (.t g.1)) with
       | none=>rw[e] at c;cases c
       | some b=>
         rw[e] at c;cases b with
         | true=>exact i (by grind[Jo]) c
         | false=>
           injection c with c
           exact WD.skip (by grind[Jp]) (next _ (by rw[<- c];rfl))
theorem aAy{sl:List AV}:∀{c:List aH}{x:aH}{id:Nat},x∈c->id∈Rd (aM G sl x)->id∈fpA G sl c
 | y::c,x,id,b,a=>by
   rw[fpA,bAY];rcases bAQ.1 b with rfl | b
   · exact .inl a
   · exact .inr (aAy b a)
theorem Ht(s:AS)(id:Nat):(aE s).hp[id]?=(s.hp[id]?).map aP:=by simp[aE]
theorem aFI(q:cI P G call){o:aN}{r:Nat}{s1:AS}{f:FP}(D:k<=r)(i:jR G s o.guard)(h:L3 call G (aE s) o.dst r o.ai=some (s1,f)):∃v u,kN P G k o s v u f.2/\wrU u=f.1/\aE (Mv o s v u)=s1:=by
 have M:o.ai.isPure=true->Wg (fpA G (aE s).sl (bK o.ai)) (mN call G (aE s) [] o.dst o.ai)=some (s1,f)->mN call G (aE s) [] o.dst o.ai=Hp G (aE s) o.dst o.ai->(∀ st':AS,Hp G st' o.dst o.ai=(dL G st' o.ai).map fun v=>⟨aR st'.sl o.dst v,st'.hp⟩)->∃ v u,kN P G k o s v u f.2/\wrU u=f.1/\aE (Mv o s v u)=s1:=by
   intro _ h O S;rw[O,S,rG] at h;cases w:dL G s o.ai with
   | none=>rw[w] at h;cases h
   | some v=>
     rw[w] at h;simp only[aZF,Wg,Option.some.injEq,Prod.mk.injEq] at h;obtain⟨t,p⟩:=h;subst p;exact⟨v,none,.pur v _ i w (fun x I id T=>aAy I T),rfl,by rw[<- t];rfl⟩
 have ex:∀ st':AS,o.ai.isPure=true->Hp G st' o.dst o.ai=(dL G st' o.ai).map fun v=>⟨aR st'.sl o.dst v,st'.hp⟩:=by
   grind[Ce,exX,AI.isPure]
 cases b:o.ai with
 |alloc z=>
  rw[b] at h;simp only[L3,Ht] at h;cases e:s.hp[r]? with
  |none=>rw[e] at h;cases h
  |some B=>
   rw[e] at h;cases B with
   |dead=>
    simp only[aZF,aP,fvN,Option.some.injEq,Prod.mk.injEq] at h;obtain⟨t,p⟩:=h;subst p;exact⟨_,_,.alloc z r i b e D,rfl,by simp_all[aE,Mv,Da,aP,bAd]⟩
   |box cs=>cases h
   |arr c sz es=>cases h
 |store size x v=>
  rw[b] at h;simp only[L3] at h;unfold fvS at h;split at h;rename_i id off vs I w;cases F:o.dst with
  |some d=>simp_all
  |none=>
   rw[F] at h;simp only[Ht] at h;cases e:s.hp[id]? with
   |none=>rw[e] at h;cases h
   |some B=>
    rw[e] at h;cases B with
    |dead=>cases h
    |arr c sz es=>cases h
    |box cs=>
     simp only[aZF,aP,fvT] at h;split at h;rename_i C;simp only[Option.some.injEq,Prod.mk.injEq] at h;obtain⟨t,p⟩:=h;subst p;exact⟨_,_,.store size x v id off cs vs i b F I w e C.1 C.2,rfl,by simp_all[aE,Mv,Da,aP,bAd,aR]⟩;cases h
  cases h
 |bslc size len z V=>
  rw[b] at h;simp only[L3] at h;cases len with
  |zero=>cases h
  |succ len=>
   simp only[fvL] at h;cases l:bsX G (aE s) o.dst size (len+1) z V with
   |none=>rw[l] at h;cases h
   |some s2=>
    rw[l] at h;simp only[Wg,Option.some.injEq,Prod.mk.injEq] at h;obtain⟨t,p⟩:=h;subst p;unfold bsX at l;simp only at l;cases hf:iQ (zs z ((len+1)*size)) (V.map fun (j,x)=>(j*size,size,aM G (aE s).sl x)) with
    |none=>simp_all
    |some cs=>
     simp only[hf,aZQ] at l;cases F:dcs cs with
     |none=>simp_all
     |some X=>
      simp only[F,aZQ] at l;split at l;rename_i U;injection l with l
      obtain⟨g1,g2,g3⟩:=lF size (len+1) X U;rw[M8] at hf;exact⟨_,none,.lit size (len+1) z V (gD size (len+1) X) i b (by rw[g1,<- mZ F];exact hf) g2 g3,rfl,by rw[<- t,<- l];rfl⟩;grind
 |cpys x y=>
  rw[b] at h;simp only[L3] at h;unfold fvY at h;split at h;rename_i id lo n z bs I hy;split at h;rename_i hz;subst hz;rw[Ht] at h;cases e:s.hp[id]? with
  |none=>rw[e] at h;cases h
  |some B=>
   rw[e] at h;cases B with
   |dead=>cases h
   |arr c z es=>cases h
   |box cs=>
    simp only[aZF,aP,aKb] at h;split at h;rename_i C;simp only[Option.some.injEq,Prod.mk.injEq] at h;obtain⟨t,p⟩:=h;subst p;exact⟨_,_,.cpy x y id lo n bs cs i b I hy e C,rfl,by simp_all[aE,Mv,Da,aP,bAd]⟩;cases h
  cases h;cases h
 |call g N=>
  rw[b] at h;simp only[L3] at h;generalize ((N.map (aM G (aE s).sl)).flatMap jV)=J at h
  match J with
  |[]=>
   simp only[fvC] at h;cases l:Ct call G (aE s) o.dst (.call g N) with
   |none=>rw[l] at h;cases h
   |some s2=>
    rw[l] at h;simp only[Wg,Option.some.injEq,Prod.mk.injEq] at h;obtain⟨t,p⟩:=h;subst p;obtain⟨v,w,he⟩:=aFH q l;rcases w with w|⟨f',E,A,r',O,S,Z⟩
    grind[dL]
    exact⟨v,none,.call f' E A r' v i (b.trans O) S Z,rfl,by rw[<- t,<- he];rfl⟩
  |[id]=>
   simp only[fvC,Ht] at h;cases e:s.hp[id]? with
   |none=>rw[e] at h;cases h
   |some B=>
    rw[e] at h;cases B with
    |dead=>cases h
    |arr c z es=>cases h
    |box cs=>
     simp only[aZF,aP,fvB] at h;cases D:(keepL (fun _=>true) cs&&(N.map (aM G (aE s).sl)).all (dH (lD [id]))) with
     |false=>grind
     |true=>
      rw[D] at h;simp only[cond_true] at h;simp only[aZO] at D;unfold aFt at h;split at h;rename_i cs' C;cases H:keepL (fun _=>true) cs' with
      |false=>simp_all
      |true=>
       rw[H] at h;simp only[cond_true,Option.some.injEq,Prod.mk.injEq] at h;obtain⟨t,p⟩:=h;subst p;obtain⟨_,hA⟩:=Az q _ _ _ _ _ C [.box cs] rfl;refine⟨.tup [],some (id,.box cs'),.callB g N _ id cs cs' i b e (hA.gh (fun a Y ⟨q1,W⟩ U=>⟨a,Y,Gh.refl,U,q1,?_⟩)) (fun n=>?_) (fun n=>⟨?_,?_⟩),rfl,by rw[<- t];simp[aE,Mv,Da,aP,bAd]⟩
       obtain⟨x,rfl⟩:=List.length_eq_one_iff.1 (by have:=congrArg List.length W;simpa using this:Y.length=1);simp only[aZL,aZM,List.cons.injEq,and_true] at W;rw[rH W]
       ·rw[aZ5]
        conv=>lhs;rw[<- List.map_id (N.map (aM G s.sl))]
        exact aZ1 (fun v w=>(rtV v (bA0.1 D.2 v w)).symm)
       simp only[fA,<- pG,rnL _ D.1];simp only[fA,<- pG,rnL _ H]
      cases h
  |_::_::_=>cases h
 |_=>
  rw[b] at h;first
   |(refine M (by rw[b];rfl) (by rw[b];exact h) (by rw[b];rfl) (fun st'=>ex st' (by rw[b];rfl)))
   |(cases h;done)
theorem aPf(a:cI P G call){o:aN}{r:Nat}{s1:AS}{f:FP}(e:k<=r)(h:fvO call G (aE s) o.dst r o.ai o.guard=some (s1,f)):∃v u,kN P G k o s v u f.2/\wrU u=f.1/\aE (Mv o s v u)=s1:=by
 cases c:o.guard with
 |none=>rw[c] at h;exact aFI a e (by rw[c];trivial) h
 |some g=>
  rw[c] at h;simp only[fvO] at h;cases d:gK g.2 (aM G (aE s).sl (.t g.1)) with
  |none=>rw[d] at h;cases h
  |some b=>
   rw[d] at h;cases b with
   |true=>exact aFI a e (by rw[c];exact Jo d) h
   |false=>
    simp only[fvG,Option.some.injEq,Prod.mk.injEq] at h;obtain⟨i,j⟩:=h;subst j;exact⟨_,none,.skip (by rw[c];exact Jp d),rfl,by rw[<- i];rfl⟩
theorem aFJ(b:cI P G call){c:List (Nat×Nat)}:∀(ops:List aN)(a:List FP)(r:Nat)(s:AS)(st':AS),k<=r->Xj call G c a r ops (some (aE s))=some st'-> ∃L:List FE,L.map (·.1)=ops/\lV P G k (fun w=>aE w=st') L s/\L4 c (a++L.map (·.2))=true
 | [],a,r,s,st',g,h=>by
   simp only[Xj] at h;cases d:L4 c a with
   | false=>rw[d] at h;cases h
   | true=>
     rw[d] at h;injection h with h
     exact⟨[],rfl,h,by simpa using d⟩
 | o::ops,a,r,s,st',g,h=>by
   simp only[Xj] at h;cases e:fvO call G (aE s) o.dst r o.ai o.guard with
   | none=>rw[e] at h;cases h
   | some q=>
     obtain⟨x,f⟩:=q;rw[e] at h;obtain⟨v,u,p,t,n⟩:=aPf b g e;simp only[<- n] at h;obtain⟨L,j,l,i⟩:=aFJ b ops (a++[f]) _ (Mv o s v u) st' (by cases aCC o.ai<;>simp<;>omega) h;exact⟨(o,f)::L,by simp[j],⟨v,u,f.2,p,t,rfl,l⟩,by simpa using i⟩
theorem aAz:∀(L:List Nat)(n:Nat),Su L n=L.contains n
 |[],n=>rfl
 | x::L,n=>by
   rw[Su,aAz L n,jK,List.contains_cons]
theorem aAA:∀(a b:List Nat),G8 a b=uP a b
 |[],b=>rfl
 |x::a,b=>by rw[G8,aAA a b,aAz];rfl
theorem Xo:∀(a:List FE)(n:Nat),atF (a.map (·.2)) n=(a.getD n pD).2
 |[],n=>by cases n<;>rfl
 |f::a,0=>rfl
 |f::a,n+1=>by rw[aZL,atF,Xo a n];simp[aZN]
theorem aCG{a b c:List Nat}:uP a (b++c)=(uP a b&&uP a c):=by
 unfold uP;rw[bA1];simp only[bA0,aZO,bAD,List.contains_eq_mem,decide_eq_false_iff_not,bAY,not_or];exact⟨fun h=>⟨fun x d=>(h x d).1,fun x d=>(h x d).2⟩,fun h x d=>⟨h.1 x d,h.2 x d⟩⟩
theorem aAB{L:List FE}:∀(c:List (Nat×Nat)),L4 c (L.map (·.2))=true->∀p∈c,dsj (L.getD p.1 pD).2 (L.getD p.2 pD).2=true
 |[],_,p,hp=>by cases hp
 | (a,b)::c,h,p,hp=>by
   simp only[L4,aZO] at h;rcases bAQ.1 hp with rfl | hp
   · have d:=h.1
     rw[Xo,Xo] at d;show dsj (L.getD a pD).2 (L.getD b pD).2=true;revert d;generalize (L.getD a pD).2=x;generalize (L.getD b pD).2=y;obtain⟨w,r⟩:=x;obtain⟨w',e⟩:=y;intro d;simp only[dsM,aAA] at d;simp only[dsj,aCG];simp only[aZO] at d ⊢;exact⟨⟨d.1,d.2.1⟩,d.2.2⟩
   · exact aAB c h.2 p hp
theorem S7:∀n,Dj n=List.replicate n .dead
 |0=>rfl
 |n+1=>by rw[Dj,S7 n,List.replicate_succ]
theorem Xp(a:cI P G call){b:List (Nat×Nat)}{ops:List aN}{s st':AS}(j:k<=s.hp.length)(h:Xj call G b [] (aE s).hp.length ops (some ⟨(aE s).sl,(aE s).hp++Dj (nAl ops)⟩)=some st'){Q:Exit->AS->Prop}(g:∀c,aE c=st'->Q .normal c):AW P G k (.drawnF b ops) Q s:=by
 refine AW.ghost (Gh.dead (nAl ops)) ?_;have e:(⟨(aE s).sl,(aE s).hp++Dj (nAl ops)⟩:AS)=aE ⟨s.sl,s.hp++List.replicate (nAl ops) .dead⟩:=by
  simp[aE,S7,aP]
 rw[e] at h;obtain⟨L,f,i,d⟩:=aFJ a ops [] _ _ st' (by simpa[aE] using j) h;exact AW.drawnF f (aAB b (by simpa using d)) (lV.mono g i)
end
end
section
section
variable {P:Program}{G:aF}{k:Nat}{st st' s:AS}{call:aO}
theorem aPg(g:GH)(s:AS):∃b,Gh k s b/\aE b=ghE g (aE s):=by
 cases g with
 |nil d sz=>
  simp only[ghE,ghN];split;rename_i a;refine⟨_,Gh.nil (d:=d) sz ?_,by simp[aE,aP]⟩;rw[show (aE s).sl=s.sl from rfl,aZN] at a
  cases h:s.sl[d]? with
  |none=>rw[h] at a;cases a
  |some x=>rw[h] at a;simp only[bAl] at a;rw[a]
  exact⟨s,Gh.refl,rfl⟩
 |nilB d j sz=>
  simp only[ghE,ghB];split;rename_i id off a;simp only[aE,bL];unfold aJ6;split;rename_i cs c;unfold aJ5;split;rename_i e;exact⟨_,Gh.nilB sz (rH c) e,by simp[aE,aP,bAd]⟩;exact⟨s,Gh.refl,rfl⟩;exact⟨s,Gh.refl,rfl⟩;exact⟨s,Gh.refl,rfl⟩
 |frz d=>exact gC _ s
 |bv d=>exact uW _ s
theorem aFK(m:Nat)(c:aV):ctC m c=cN (fun id=>decide (m<=id)) c:=by
 cases c<;>simp only[ctC,cN,aV.keep,if_true]
 case ptr j o=>by_cases h:m<=j<;>simp[h]
 case bld j n=>by_cases h:m<=j<;>simp[h]
 case ept j i s o=>by_cases h:m<=j<;>simp[h]
 case bls j i s o=>by_cases h:m<=j<;>simp[h]
theorem Dm(m:Nat):∀cs,Ha m cs=cs.map (cN fun id=>decide (m<=id))
 |[]=>rfl
 |c::cs=>by simp[Ha,aFK,Dm m cs]
theorem aPh(m:Nat)(v:AV):ctV m v=bG (fun id=>decide (m<=id)) v:=by
 cases v<;>simp only[ctV,bG,aFK,Dm]
theorem aPi(m:Nat)(o:aD):ctO m o=cU (fun id=>decide (m<=id)) o:=by
 cases o<;>simp only[ctO,cU,Dm]
theorem aFL(m:Nat):∀(n:Nat)(l:List aD),ctH m n l=(l.take n).map (cU fun id=>decide (m<=id))
 |0,l=>by simp[ctH]
 |n+1,[]=>by simp[ctH]
 |n+1,o::os=>by simp[ctH,aPi,aFL m n os]
theorem Pp(m:Nat):∀(l:List AV)(L:List Nat),SLe (l.map (bG fun id=>decide (m<=id))) (ctS m L l)
 |[],[]=>trivial
 |[],_::_=>trivial
 |x::a,[]=>⟨.junk _,Pp m a []⟩
 |x::a,0::L=>⟨by rw[aPh];exact .refl _,Pp m a L⟩
 |x::a,(n+1)::L=>⟨.junk _,Pp m a (n::L)⟩
theorem Pq(L:List Nat)(m:Nat)(a:k<=m)(s:AS):Gh k s (kO L m s):=Gh.dropS m a (Pp m s.sl L) (aFL m m s.hp).symm
theorem aCH(m:Nat)(o:aD):aP (ctO m o)=ctO m (aP o):=by cases o<;>rfl
theorem Nd(m:Nat):∀(n:Nat)(l:List aD),(ctH m n l).map aP=ctH m n (l.map aP)
 |0,l=>by simp[ctH]
 |n+1,[]=>by simp[ctH]
 |n+1,o::os=>by simp[ctH,aCH,Nd m n os]
theorem Fa(L:List Nat)(m:Nat)(s:AS):aE (kO L m s)=kO L m (aE s):=by
 simp only[aE,kO,Nd]
theorem AW.le{x:eK}{Q:Exit->AS->Prop}(h:k<=st.hp.length->AW P G k x Q st):AW P G k x Q st:=
 fun c e F γ a w b g f d=>h (by rw[<- b.len];exact d) c e F γ a w b g f d
theorem aNY(d:cI P G call):∀(c:HC)(s:AS)(e:Exit)(st':AS),EC call G c (aE s)=some (e,st')->∀k,AW P G k c.er (fun v l=>v=e/\aE l=st') s:=by
 intro c
 induction c with
 |bad=>intro s e st' h k;simp only[EC] at h;cases h
 |skip=>intro s e st' h k;simp only[EC,Option.some.injEq,Prod.mk.injEq] at h;obtain⟨rfl,rfl⟩:=h;exact AW.skip ⟨rfl,rfl⟩
 |ret=>intro s e st' h k;simp only[EC,Option.some.injEq,Prod.mk.injEq] at h;obtain⟨rfl,rfl⟩:=h;exact AW.ret ⟨rfl,rfl⟩
 |exit id=>intro s e st' h k;simp only[EC,Option.some.injEq,Prod.mk.injEq] at h;obtain⟨rfl,rfl⟩:=h;exact AW.exit ⟨rfl,rfl⟩
 |region ops=>
  intro s e st' h k;simp only[EC] at h;obtain⟨r,o,j⟩:=kP h;injection j with j h3
  subst j;subst h3;exact AW.region ((aFG d ops s st' o).mono (fun l h=>⟨rfl,h⟩))
 |regR L ops=>
  intro s e st' h k;simp only[EC] at h;obtain⟨r,o,j⟩:=kP h;injection j with j h3
  subst j;subst h3;exact AW.region ((aAw d ops s st' o).mono (fun l h=>⟨rfl,h⟩))
 |drawnT L t ops=>
  intro s e st' h k;simp only[EC] at h;obtain⟨r,o,j⟩:=kP h;injection j with j h3
  subst j;subst h3;refine AW.prm (AW.drawnT (TW.mono (fun l ⟨p,F,I⟩=>?_) t s (aPe d t s _ o)))
  exact⟨p,by rw[Sq] at F;exact F,rfl,I⟩
 |drawnF N ops=>
  intro s e st' h k;simp only[EC] at h;obtain⟨r,o,j⟩:=kP h;injection j with j h3
  subst j;subst h3;exact AW.le (fun A=>Xp d A o (fun l h=>⟨rfl,h⟩))
 |drawn ops=>
  intro s e st' h k;simp only[EC] at h;obtain⟨r,o,j⟩:=kP h;injection j with j h3
  subst j;subst h3;exact AW.drawn (kB.mono (fun l h=>⟨rfl,h⟩) _ _ (aAx d ops s st' o))
 |seq a b f y=>
  intro s e st' h k;simp only[EC] at h;cases w:EC call G a (aE s) with
  |none=>rw[w] at h;cases h
  |some q=>
   obtain⟨B,r⟩:=q;rw[w] at h;refine AW.seq ((f s B r w k).mono ?_);rintro v l ⟨rfl,rfl⟩;cases v with
   |normal=>exact y l e st' h k
   |_=>simp only[Option.some.injEq,Prod.mk.injEq] at h;obtain⟨rfl,rfl⟩:=h;exact⟨rfl,rfl⟩
 |cond c a b f y=>
  intro s e st' h k;simp only[EC] at h;cases C:cO (aM G (aE s).sl c) with
  |none=>rw[C] at h;cases h
  |some t=>
   rw[C] at h;refine AW.cond C (fun E=>?_) (fun E=>?_)
   subst E;exact f s e st' h k;subst E;exact y s e st' h k
 |block id a f=>
  intro s e st' h k;simp only[EC] at h;cases w:EC call G a (aE s) with
  |none=>rw[w] at h;cases h
  |some q=>
   obtain⟨B,r⟩:=q;rw[w] at h;refine AW.block ((f s B r w k).mono ?_);rintro v l ⟨rfl,rfl⟩;cases v with
   |exit M=>
    simp only[Bn,aKc] at h ⊢;split at h;rename_i x;simp only[Option.some.injEq,Prod.mk.injEq] at h;obtain⟨rfl,rfl⟩:=h;rw[if_pos x];exact⟨rfl,rfl⟩;rename_i x;simp only[Option.some.injEq,Prod.mk.injEq] at h;obtain⟨rfl,rfl⟩:=h;rw[if_neg x];exact⟨rfl,rfl⟩
   |_=>simp only[Bn,aKc,Option.some.injEq,Prod.mk.injEq] at h;obtain⟨rfl,rfl⟩:=h;exact⟨rfl,rfl⟩
 |loop L a f=>
  intro s e st' h k;simp only[EC] at h;obtain⟨n,H⟩:=jW h;have J:(aE s).hp.length=s.hp.length:=by simp[aE]
  rw[J,<- Fa] at H;refine AW.le (fun A=>?_)
  refine AW.loopG (α:=Nat×AS) (fun z=>z.2) (fun z=>Ls (EC call G a) L s.hp.length z.1 (aE z.2)=some (e,st')) (fun z=>z.1) (n,kO L s.hp.length s) H (Pq L _ A s) (fun z u=>?_)
  obtain⟨i,r⟩:=z;cases i with
  |zero=>simp[Ls] at u
  |succ i=>
   simp only[Ls] at u;cases D:EC call G a (aE r) with
   |none=>rw[D] at u;cases u
   |some q=>
    obtain⟨B,O⟩:=q;rw[D] at u;refine (f r B O D k).mono ?_;rintro v l ⟨rfl,rfl⟩;cases v with
    |normal=>
     simp only[<- Fa] at u;exact Lz.n (i,kO L s.hp.length l) u (Nat.lt_succ_self i) (Pq L _ A l)
    |_=>simp only[Option.some.injEq,Prod.mk.injEq] at u;obtain⟨rfl,rfl⟩:=u;unfold Lz;exact⟨rfl,rfl⟩
 |gh g a f=>
  intro s e st' h k;simp only[EC] at h;obtain⟨l,o,j⟩:=aPg (k:=k) g s;exact AW.ghost o (f l e st' (by rw[j];exact h) k)
 |trm L a f=>
  intro s e st' h k;simp only[EC] at h;refine AW.le (fun A=>?_)
  exact AW.ghost (Pq L _ A s) (f _ e st' (by rw[Fa];simpa[aE] using h) k)
def Xq(P:Program)(T:HT):Prop:=∀f h,T.tab f=some h->Zt P f=true/\∃a,P.funcs[f]?=some a/\a.ntmps=h.nt/\a.body.bind (bW P)=some h.code.er/\a.results.toList.mapM (jS P)=some h.rs
theorem uX:∀(a:List Nat)(st:AS),(bX a st).hp.length=st.hp.length
 |[],st=>rfl
 | id::r,st=>by
   simp only[bX];split
   · rw[uX r];simp
   · exact uX r st
theorem Jq{n:Nat}{o:List aD}:(o.take n).map aP=(o.map aP).take n:=bAo
theorem aKp{T:HT}(Y:Xq P T)(n:cI P G call){f:FuncId}{h:HF}(hf:T.tab f=some h){c:List AV}{b:List aD}{M:AV}{o':List aD}(g:Xl call G h c (b.map aP)=some (M,o')):Zt P f=true/\AC P G f c b fun a o=>a=M/\o.map aP=o':=by
 obtain⟨ho,fn,U,V,W,X⟩:=Y f h hf;refine⟨ho,?_⟩;unfold Xl at g;cases C:EC call G h.code ⟨c++tK (h.nt-c.length),b.map aP⟩ with
 |none=>rw[C] at g;cases g
 |some q=>
  obtain⟨e,r⟩:=q;rw[C] at g;simp only[qC,aZz] at g;split at g;rename_i j;cases I:tQ r h.rs with
  |none=>rw[I] at g;cases g
  |some v=>
   rw[I] at g;simp only[Xk,Option.some.injEq] at g;have B:AC P G f c b (fun a o=>a=v/\o.map aP=r.hp):=by
     refine AC.of_codeJ U V W X ((aNY n h.code ⟨c++tK (h.nt - c.length),b⟩ e r C b.length).mono ?_);rintro O s' ⟨rfl,rfl⟩;unfold Fin;refine⟨?_,by simpa[aE] using j.2,v,by rw[<- E6];exact I,rfl,rfl⟩;cases O<;>simp[M4] at j ⊢
   unfold aO8 at g;cases l:h.own with
   |true=>
    rw[l,cond_true] at g;refine AC.nz ?_;cases d:(dH (fun id=>decide (b.length<=id)) v&&(r.hp.take b.length).all (pE fun id=>decide (b.length<=id))) with
    |true=>
     rw[d,cond_true] at g;simp only[Prod.mk.injEq] at g;obtain⟨rfl,rfl⟩:=g;simp only[aZO] at d;refine B.gh (fun a o ⟨z,p⟩ F=>?_)
     subst z;refine⟨a,o.take b.length, ?_,by simp only[aZD];omega,rfl,by rw[Jq,p]⟩;have:=Gh.drop (k:=b.length) (as:=⟨[a],o⟩) b.length (aZE _);have S:(o.take b.length).map (cU fun id=>decide (b.length<=id))=o.take b.length:=by
       conv=>rhs;rw[<- List.map_id (o.take b.length)]
       refine aZ1 (fun x hx=>Ja ?_)
       have:=bA0.1 d.2 (aP x) (by rw[<- p,<- bAo];exact List.mem_map.2 ⟨x,hx,rfl⟩);rwa[uT] at this
     simpa[I9 d.1,S] using this
    |false=>
     rw[d,cond_false] at g;simp only[Prod.mk.injEq] at g;obtain⟨rfl,rfl⟩:=g;exact B.gh (fun a o ⟨z,p⟩ F=>⟨a,o,Gh.refl,F,by rw[z],p⟩)
   |false=>
    rw[l,cond_false] at g;simp only[Prod.mk.injEq] at g;obtain⟨rfl,rfl⟩:=g;refine AC.nz ?_;refine B.gh (fun a o ⟨z,p⟩ F=>?_)
    subst z;obtain⟨s0,t,H⟩:=aOX (k:=b.length) (aZE b.length) (jV a) ⟨[a],o⟩ (Xd a);obtain⟨A,u,hn⟩:=gC (k:=b.length) (jV a) s0;have E:=t.trans u;have i:aE A=bX (jV a) (bxW b.length (jV a) ⟨[a],r.hp⟩ (Xd a)):=by rw[hn,H];simp only[aE,p]
    have w:A.sl.length=1:=by
     have:=congrArg (fun q=>q.sl.length) i
     simp only[aE,mT,(aAc _ _ _ _).1] at this;simpa using this
    have Z:A.hp.length=o.length:=by
     have:=congrArg (fun q=>q.hp.length) i
     simp only[aE,uX,aZz,(aAc _ _ _ _).2] at this;rw[this,<- p,aZz]
    obtain⟨y,N⟩:=List.length_eq_one_iff.1 w;have D:=Gh.drop (k:=b.length) (as:=A) b.length (aZE _);have J:(bX (jV a) (bxW b.length (jV a) ⟨[a],r.hp⟩ (Xd a))).sl.getD 0 .junk=y:=by rw[<- i];simp[aE,N]
    refine⟨bG (fun id=>decide (b.length<=id)) y,(A.hp.take b.length).map (cU fun id=>decide (b.length<=id)),?_,by simp only[aZz,aZD];omega,by rw[J],?_⟩
    have:=E.trans D;rw[N] at this;simpa using this;rw[<- i,uS,Jq];simp[aE]
  cases g
theorem uY{T:HT}(e:Xq P T)(d:cI P G T.base):∀n,cI P G (callN G T n)
 |0=>fun f a hp c g h=>by simp[callN] at h
 | n+1=>fun f a hp c g h b i=>by
   subst i;rw[callN] at h;cases hf:T.tab f with
   | none=>rw[hf] at h;exact d f a _ c g h b rfl
   | some x=>rw[hf] at h;exact aKp e (uY e d n) hf h
theorem aAC{T:HT}(i:Xq P T)(g:cI P G T.base){f:FuncId}{b:List AV}{r:AV}(h:EV G T f b []=some (r,[])):QC P G f b r:=by
 obtain⟨n,j⟩:=jW h;obtain⟨_,e⟩:=uY i g n f b [] r [] j [] rfl;exact e.gh (fun a o ⟨c,d⟩ _=>⟨a,o,Gh.refl,aZV _,c,by simpa using d⟩)
