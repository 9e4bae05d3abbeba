/- Part. Conditions: none. -/
import Derived.Test.YtgdjbbnicgfohabGreatDoorNa
namespace Go.Proofs.YtgdjbbnicgfohabGreatDoor
set_option linter.unusedSimpArgs false
set_option linter.unusedVariables false
section
section
variable {α:Type}
theorem Xn{f:Nat->Option α}(j:∀n r,f n=some r->f (n+1)=some r){n:Nat}{r:α}(h:f n=some r):lim f=some r:=by
 have a:∀n r,f n=some r->∀m,n<=m->f m=some r:=by
  intro n r h m b
  induction m with
  |zero=>simp at b;subst b;exact h
  |succ m l=>
   by_cases i:n=m+1;subst i;exact h;exact j _ _ (l (by omega))
 have d:∃n r,f n=some r:=⟨n,r,h⟩;unfold lim;rw[dif_pos d];obtain⟨o,c⟩:=d.choose_spec;have e:=a _ _ c (max d.choose n) (Nat.le_max_left _ _);have g:=a _ _ h (max d.choose n) (Nat.le_max_right _ _);rw[c,<- e,g]
theorem jZ{f:Nat->Option α}{r:α}(h:lim f=some r):∃n,f n=some r:=by
 unfold lim at h;split at h;exact⟨_,h⟩;cases h
end
section
variable {run:AS->Option (Exit×AS)}{L:List Nat}{m:Nat}
theorem Jj:∀(n:Nat)(st:AS) r,Lr run L m n st=some r->Lr run L m (n+1) st=some r
 |0,st,r,h=>by simp[Lr] at h
 | n+1,st,r,h=>by
   rw[Lr] at h ⊢;split at h
   · exact Jj n _ r h
   · exact h
theorem Dg{n:Nat}{st:AS}{r:Exit×AS}(h:Lr run L m n st=some r):B4 run L m st=some r:=Xn (fun n r h=>Jj n st r h) h
theorem aFr(st:AS){s:AS}(h:run st=some (.normal,s)):B4 run L m st=B4 run L m (kR L m s):=by
 have e:∀n,Lr run L m (n+1) st=Lr run L m n (kR L m s):=fun n=>by rw[Lr,h]
 cases b:B4 run L m (kR L m s) with
 |some r=>
  obtain⟨n,a⟩:=jZ b;exact Dg (n:=n+1) (by rw[e];exact a)
 |none=>
  cases c:B4 run L m st with
  |none=>rfl
  |some r=>
   obtain⟨n,a⟩:=jZ c;have:B4 run L m (kR L m s)=some r:=Dg (n:=n) (by rw[<- e];exact Jj _ _ _ a);rw[b] at this;cases this
theorem aCE{st:AS}{e:Exit}{s:AS}(h:run st=some (e,s))(b:e≠.normal):B4 run L m st=some (e,s):=by
 refine Dg (n:=1) ?_;rw[Lr,h];split;rename_i a;injection a with a;injection a with a;exact absurd a b
 rfl
end
def Ho(calls:Nat->aO)(call:aO):Prop:=∀f a hp r,call f a hp=some r->∃n,∀m,n<=m->calls m f a hp=some r
section
variable {calls:Nat->aO}{call:aO}{G:aF}
theorem aAf(i:Ho calls call){d:Option Nat}{f:FuncId}{a:List aH}{st s:AS}(h:Xh call G d f a st=some s):∃n,∀m,n<=m->Xh (calls m) G d f a st=some s:=by
 unfold Xh at *;cases c:(lG G st.sl a).all (dH fun _=>true) with
 |false=>rw[c] at h;cases h
 |true=>
  rw[c] at h;simp only[cond_true] at h ⊢;cases b:call f (lG G st.sl a) [] with
  |none=>rw[b] at h;cases h
  |some r=>
   obtain⟨n,g⟩:=i _ _ _ _ b;rw[b] at h;exact⟨n,fun m e=>by rw[g m e];exact h⟩
theorem aAg(i:Ho calls call){d:Option Nat}{f:FuncId}{a:List aH}{st s:AS}(h:dnZ call G d f a st=some s):∃n,∀m,n<=m->dnZ (calls m) G d f a st=some s:=by
 unfold dnZ at *;cases c:(lG G st.sl a).all (dH fun _=>true) with
 |false=>rw[c] at h;cases h
 |true=>
  rw[c] at h;simp only[cond_true] at h ⊢;cases b:call f (lG G st.sl a) [] with
  |none=>rw[b] at h;cases h
  |some r=>
   obtain⟨n,g⟩:=i _ _ _ _ b;rw[b] at h;exact⟨n,fun m e=>by rw[g m e];exact h⟩
theorem aJ9(j:Ho calls call){d:Option Nat}{f:FuncId}{b:List aH}{st s:AS}(h:vwK call G d f b st (call f (G0 G st b) [])=some s):∃n,∀m,n<=m->vwK (calls m) G d f b st (calls m f (G0 G st b) [])=some s:=by
 cases e:call f (G0 G st b) [] with
 |none=>rw[e] at h;cases h
 |some r=>
  rw[e] at h;obtain⟨n,i⟩:=j _ _ _ _ e;obtain⟨p,os⟩:=r;cases os with
  |nil=>
   simp only[vwK] at h;cases c:mK p with
   |true=>rw[c] at h;exact⟨n,fun m g=>by rw[i m g];simp only[vwK,c];exact h⟩
   |false=>
    rw[c] at h;obtain⟨l,a⟩:=aAf j h;exact⟨max n l,fun m g=>by rw[i m (by omega)];simp only[vwK,c];exact a m (by omega)⟩
  |cons o os=>
   obtain⟨l,a⟩:=aAf j (st:=bV (mL G st.sl b) st) h;exact⟨max n l,fun m g=>by rw[i m (by omega)];exact a m (by omega)⟩
theorem aKa(j:Ho calls call){d:Option Nat}{f:FuncId}{b:List aH}{st s:AS}(h:dvK call G d f b st (call f (De G st b) [])=some s):∃n,∀m,n<=m->dvK (calls m) G d f b st (calls m f (De G st b) [])=some s:=by
 cases e:call f (De G st b) [] with
 |none=>rw[e] at h;cases h
 |some r=>
  rw[e] at h;obtain⟨n,i⟩:=j _ _ _ _ e;obtain⟨p,os⟩:=r;cases os with
  |nil=>
   simp only[dvK] at h;cases c:mK p with
   |true=>rw[c] at h;exact⟨n,fun m g=>by rw[i m g];simp only[dvK,c];exact h⟩
   |false=>
    rw[c] at h;obtain⟨l,a⟩:=aAg j h;exact⟨max n l,fun m g=>by rw[i m (by omega)];simp only[dvK,c];exact a m (by omega)⟩
  |cons o os=>
   obtain⟨l,a⟩:=aAg j (st:=st) h;exact⟨max n l,fun m g=>by rw[i m (by omega)];exact a m (by omega)⟩
theorem Cd(j:Ho calls call){d:Option Nat}{f:FuncId}{a:List AV}{st s:AS}(h:lE call d f a st=some s):∃n,∀m,n<=m->lE (calls m) d f a st=some s:=by
 unfold lE at *;simp only at h ⊢;split at h;rename_i e;simp only[e,if_true];obtain⟨r,b,c⟩:=Option.map_eq_some_iff.1 h;obtain⟨n,i⟩:=j _ _ _ _ b;exact⟨n,fun m g=>by rw[i m g];exact congrArg some c⟩
 cases h
theorem sM(b:Ho calls call):Ho (fun n=>lI (calls n)) (lI call):=fun f a hp r h=>b f (a.map Gy) hp r h
theorem aKb(b:Ho calls call){d:Option Nat}{f:FuncId}{a:List aH}{st s:AS}(h:clZ call G d f a st=some s):∃n,∀m,n<=m->clZ (calls m) G d f a st=some s:=by
 unfold clZ at *;cases hp:sL G st.sl a with
 |true=>rw[hp] at h;exact aJ9 b h
 |false=>rw[hp] at h;exact Cd (sM b) h
theorem aAh(b:Ho calls call){d:Option Nat}{x:aH}{a:List aH}{st s:AS}(h:cvZ call G d x a st=some s):∃n,∀m,n<=m->cvZ (calls m) G d x a st=some s:=by
 unfold cvZ at *;unfold cvK at *;split at h;exact Cd (sM b) h;cases h
theorem aAi(b:Ho calls call){st s:AS}{l:List aN}{d:Option Nat}{a:AI}(h:mM call G st l d a=some s):∃n,∀m,n<=m->mM (calls m) G st l d a=some s:=by
 cases a with
 |call f c=>exact aKb b h
 |callv x c=>exact aAh b h
 |_=>exact⟨0,fun _ _=>h⟩
theorem aAj(e:Ho calls call){st s:AS}{l:List aN}{d:Option Nat}{a:AI}{g:Option (Nat×Bool)}(h:Xj call G st l d a g=some s):∃n,∀m,n<=m->Xj (calls m) G st l d a g=some s:=by
 cases g with
 |none=>exact aAi e h
 |some g=>
  simp only[Xj] at h ⊢;cases c:gK g.2 (aM G st.sl (.t g.1)) with
  |none=>rw[c] at h;cases h
  |some b=>
   rw[c] at h;cases b with
   |true=>exact aAi e h
   |false=>exact⟨0,fun _ _=>h⟩
theorem aAk(b:Ho calls call):∀(l:List aN)(st s:AS),evR call G l (some st)=some s->∃n,∀m,n<=m->evR (calls m) G l (some st)=some s
 |[],st,s,h=>⟨0,fun _ _=>h⟩
 | o::l,st,s,h=>by
   simp only[evR] at h ⊢;cases a:Xj call G st l o.dst o.ai o.guard with
   | none=>rw[a] at h;cases l<;>cases h
   | some g=>
     rw[a] at h;obtain⟨e,c⟩:=aAj b a;obtain⟨f,d⟩:=aAk b l g s h;exact⟨max e f,fun m i=>by rw[c m (by omega)];exact d m (by omega)⟩
theorem aAl(e:Ho calls call){L:List Nat}{st s:AS}{l:List aN}{d:Option Nat}{a:AI}{g:Option (Nat×Bool)}{b:Bool}(h:Ji call G L st l d a g b=some s):∃n,∀m,n<=m->Ji (calls m) G L st l d a g b=some s:=by
 cases b with
 |false=>exact aAj e h
 |true=>
  cases a with
  |call f p=>
   simp only[Ji,Sw] at h ⊢;cases i:Pk L (f+100000) with
   |false=>rw[i] at h;exact Cd (sM e) h
   |true=>
    rw[i] at h;simp only[aFo] at h ⊢;cases c:call f (De G st p) [] with
    |none=>rw[c] at h;cases h
    |some r=>
     obtain⟨n,o⟩:=e _ _ _ _ c;rw[c] at h;exact⟨n,fun m j=>by rw[o m j];exact h⟩
  |mk=>exact⟨0,fun _ _=>h⟩
  |cvsb=>exact⟨0,fun _ _=>h⟩
  |_=>cases h
theorem Sy(b:Ho calls call){L:List Nat}:∀(l:List aN)(st s:AS),G1 call G L l (some st)=some s->∃n,∀m,n<=m->G1 (calls m) G L l (some st)=some s
 |[],st,s,h=>⟨0,fun _ _=>h⟩
 | o::l,st,s,h=>by
   simp only[G1] at h ⊢;cases a:Ji call G L st l o.dst o.ai o.guard (kL L o.ai o.guard) with
   | none=>rw[a] at h;cases l<;>cases h
   | some g=>
     rw[a] at h;obtain⟨e,c⟩:=aAl b a;obtain⟨f,d⟩:=Sy b l g s h;exact⟨max e f,fun m i=>by rw[c m (by omega)];exact d m (by omega)⟩
theorem Jk{f:Nat}{a b:Option AS}{s:AS}(h:Gd f a b=some s):a=some s/\∃c p,b=some c/\pOK f c.hp.length p/\prm p c=s:=by
 unfold Gd at h;split at h;rename_i e;obtain⟨i,c,p,d,g,h3,h4⟩:=e;rw[d] at h;injection h with h;subst h;exact⟨d,c,p,g,h3,h4⟩
 cases h
theorem Sz{e:Nat}{a b:Option AS}{s c:AS}{p:List (Nat×Nat)}(d:a=some s)(f:b=some c)(h3:pOK e c.hp.length p)(h4:prm p c=s):Gd e a b=some s:=by
 unfold Gd;rw[if_pos ⟨s,c,p,d,f,h3,h4⟩,d]
theorem aKc(x:Ho calls call){L:List Nat}{b:Nat}{ops:List aN}:∀(t:IT)(st s:AS),Ge call G L b ops t (some st)=some s->∃n,∀m,n<=m->Ge (calls m) G L b ops t (some st)=some s:=by
 have a:∀(t:IT),(∀(st s:AS),Ge call G L b ops t (some st)=some s->∃n,∀m,n<=m->Ge (calls m) G L b ops t (some st)=some s)->∀(st s:AS)(i:Nat),
   Ge call G L b ops t (Ji call G L st ops (iQ ops i).dst (iQ ops i).ai (iQ ops i).guard (kL L (iQ ops i).ai (iQ ops i).guard))=some s->
   ∃n,∀m,n<=m->Ge (calls m) G L b ops t (Ji (calls m) G L st ops (iQ ops i).dst (iQ ops i).ai (iQ ops i).guard (kL L (iQ ops i).ai (iQ ops i).guard))=some s:=by
  intro t g st s i h;cases f:Ji call G L st ops (iQ ops i).dst (iQ ops i).ai (iQ ops i).guard (kL L (iQ ops i).ai (iQ ops i).guard) with
  |none=>rw[f] at h;cases t<;>cases h
  |some z=>
   rw[f] at h;obtain⟨l,d⟩:=aAl x f;obtain⟨o,e⟩:=g z s h;exact⟨max l o,fun m w=>by rw[d m (by omega)];exact e m (by omega)⟩
 intro t
 induction t with
 |nil=>exact fun st s h=>⟨0,fun _ _=>h⟩
 |stop=>exact fun st s h=>by cases h
 |st i t g=>exact fun st s h=>a t g st s i h
 |br i t r c j=>
  intro st s h;simp only[Ge] at h ⊢;cases q:O6 r with
  |true=>rw[q] at h;exact a t c st s i h
  |false=>
   rw[q] at h;obtain⟨d,y,p,e,h3,h4⟩:=Jk h;obtain⟨l,u⟩:=a t c st s i d;obtain⟨o,v⟩:=j st y e;exact⟨max l o,fun m w=>Sz (u m (by omega)) (v m (by omega)) h3 h4⟩
theorem Pl(e:Ho calls call){st s:AS}{q:Bool}{d:Option Nat}{a:AI}(h:drZ call G st d a q=some s):∃n,∀m,n<=m->drZ (calls m) G st d a q=some s:=by
 cases q with
 |true=>
  simp only[drZ] at h ⊢;cases a with
  |call f b=>
   simp only[Cq] at h ⊢;cases g:(lG G st.sl b).all (dH fun _=>true) with
   |false=>rw[g] at h;cases h
   |true=>
    rw[g] at h;simp only[cond_true] at h ⊢;cases c:call f (lG G st.sl b) [] with
    |none=>rw[c] at h;cases h
    |some r=>
     obtain⟨n,j⟩:=e _ _ _ _ c;rw[c] at h;exact⟨n,fun m i=>by rw[j m i];exact h⟩
  |_=>exact⟨0,fun _ _=>h⟩
 |false=>
  simp only[drZ] at h ⊢;cases a with
  |call f b=>exact aKa e h
  |callv x b=>exact aAh e h
  |_=>exact⟨0,fun _ _=>h⟩
theorem aKd(e:Ho calls call){st s:AS}{q:Bool}{d:Option Nat}{a:AI}{g:Option (Nat×Bool)}(h:drO call G st q d a g=some s):∃n,∀m,n<=m->drO (calls m) G st q d a g=some s:=by
 cases g with
 |none=>exact Pl e h
 |some g=>
  simp only[drO] at h ⊢;cases c:gK g.2 (aM G st.sl (.t g.1)) with
  |none=>rw[c] at h;cases h
  |some b=>
   rw[c] at h;cases b with
   |true=>exact Pl e h
   |false=>exact⟨0,fun _ _=>h⟩
theorem S0(b:Ho calls call):∀(l:List (Bool×aN)) (st s:AS),G2 call G l (some st)=some s->∃n,∀m,n<=m->G2 (calls m) G l (some st)=some s
 |[],st,s,h=>⟨0,fun _ _=>h⟩
 | o::l,st,s,h=>by
   simp only[G2] at h ⊢;cases a:drO call G st o.1 o.2.dst o.2.ai o.2.guard with
   | none=>rw[a] at h;cases l<;>cases h
   | some g=>
     rw[a] at h;obtain⟨e,c⟩:=aKd b a;obtain⟨f,d⟩:=S0 b l g s h;exact⟨max e f,fun m i=>by rw[c m (by omega)];exact d m (by omega)⟩
theorem kS{x:Option AS}{r:Exit×AS}(h:nrm x=some r):∃s,x=some s/\r=(.normal,s):=by
 cases x with
 |none=>cases h
 |some s=>injection h with h;exact⟨s,rfl,h.symm⟩
theorem aKe{R:List Nat}{x:Nat->Option AS}{y:Option AS}{q:AS×FP}(h:Wh R y=some q)(c:∀s,y=some s->∃n,∀m,n<=m->x m=some s):∃n,∀m,n<=m->Wh R (x m)=some q:=by
 cases y with
 |none=>cases h
 |some s=>
  obtain⟨n,b⟩:=c s rfl;exact⟨n,fun m a=>by rw[b m a];exact h⟩
theorem aAm(i:Ho calls call){st:AS}{d:Option Nat}{r:Nat}{b:AI}{q:AS×FP}(h:L2 call G st d r b=some q):∃n,∀m,n<=m->L2 (calls m) G st d r b=some q:=by
 cases b with
 |call f a=>
  simp only[L2] at h ⊢;generalize (a.map (aM G st.sl)).flatMap jY=J at h ⊢
  match J with
  |[]=>exact aKe (x:=fun m=>Cq (calls m) G st d (.call f a)) h (fun s o=>Pl i (show drZ call G st d (.call f a) true=some s from o))
  |[id]=>
   simp only[fvC] at h ⊢;unfold fvB at h ⊢;split at h;rename_i cs _;cases g:(keepL (fun _=>true) cs&&(a.map (aM G st.sl)).all (dH (lD [id]))) with
   |false=>rw[g] at h;cases h
   |true=>
    rw[g] at h;simp only[cond_true] at h ⊢;cases c:lI call f ((a.map (aM G st.sl)).map (dD (mI [id]))) [.box cs] with
    |none=>rw[c] at h;cases h
    |some q=>
     obtain⟨n,l⟩:=sM i _ _ _ _ c;refine⟨n,fun m j=>?_⟩
     have e:=l m j;simp only at e;rw[e,<- c];exact h
   cases h
  |_::_::_=>cases h
 |alloc z=>exact⟨0,fun _ _=>h⟩
 |store size x v=>exact⟨0,fun _ _=>h⟩
 |cpys x y=>exact⟨0,fun _ _=>h⟩
 |_=>exact⟨0,fun _ _=>h⟩
theorem aKf(e:Ho calls call){st:AS}{d:Option Nat}{r:Nat}{a:AI}{g:Option (Nat×Bool)}{q:AS×FP}(h:fvO call G st d r a g=some q):∃n,∀m,n<=m->fvO (calls m) G st d r a g=some q:=by
 cases g with
 |none=>exact aAm e h
 |some g=>
  simp only[fvO] at h ⊢;cases c:gK g.2 (aM G st.sl (.t g.1)) with
  |none=>rw[c] at h;cases h
  |some b=>
   rw[c] at h;cases b with
   |true=>exact aAm e h
   |false=>exact⟨0,fun _ _=>h⟩
theorem aAn(d:Ho calls call){b:List (Nat×Nat)}:∀(l:List aN)(a:List FP)(r:Nat)(st s:AS),Xk call G b a r l (some st)=some s->∃n,∀m,n<=m->Xk (calls m) G b a r l (some st)=some s
 |[],a,r,st,s,h=>⟨0,fun _ _=>h⟩
 | o::l,a,r,st,s,h=>by
   simp only[Xk] at h ⊢;cases c:fvO call G st o.dst r o.ai o.guard with
   | none=>rw[c] at h;cases h
   | some q=>
     obtain⟨p,f⟩:=q;rw[c] at h;obtain⟨i,e⟩:=aKf d c;obtain⟨j,g⟩:=aAn d l _ _ p s h;exact⟨max i j,fun m t=>by rw[e m (by omega)];exact g m (by omega)⟩
theorem aAo{runs:Nat->AS->Option (Exit×AS)}{run:AS->Option (Exit×AS)}(d:∀st r,run st=some r->∃n,∀m,n<=m->runs m st=some r){L:List Nat}{k:Nat}:∀(i:Nat)(st:AS) r,Lr run L k i st=some r->∃n,∀m,n<=m->Lr (runs m) L k i st=some r
 |0,st,r,h=>by simp[Lr] at h
 | i+1,st,r,h=>by
   simp only[Lr] at h;cases a:run st with
   | none=>rw[a] at h;cases h
   | some q=>
     obtain⟨f,b⟩:=d _ _ a;rw[a] at h;obtain⟨e,s⟩:=q;cases e with
     | normal=>
       simp only at h;obtain⟨j,g⟩:=aAo d i _ r h;exact⟨max f j,fun m c=>by rw[Lr,b m (by omega)];exact g m (by omega)⟩
     | _=>exact⟨f,fun m c=>by rw[Lr,b m c];exact h⟩
theorem aO5(u:Ho calls call):∀(c:HC)(st:AS) r,EC call G c st=some r->∃n,∀m,n<=m->EC (calls m) G c st=some r:=by
 intro c
 induction c with
 |skip=>exact fun st r h=>⟨0,fun _ _=>h⟩
 |ret=>exact fun st r h=>⟨0,fun _ _=>h⟩
 |exit id=>exact fun st r h=>⟨0,fun _ _=>h⟩
 |region ops=>
  intro st r h;simp only[EC] at h ⊢;obtain⟨s,j,rfl⟩:=kS h;obtain⟨n,l⟩:=aAk u ops st s j;exact⟨n,fun m f=>by rw[l m f];rfl⟩
 |regR L ops=>
  intro st r h;simp only[EC] at h ⊢;obtain⟨s,j,rfl⟩:=kS h;obtain⟨n,l⟩:=Sy u ops st s j;exact⟨n,fun m f=>by rw[l m f];rfl⟩
 |drawnT L t ops=>
  intro st r h;simp only[EC] at h ⊢;obtain⟨s,j,rfl⟩:=kS h;obtain⟨n,l⟩:=aKc u t st s j;exact⟨n,fun m f=>by rw[l m f];rfl⟩
 |drawnF A ops=>
  intro st r h;simp only[EC] at h ⊢;obtain⟨s,j,rfl⟩:=kS h;obtain⟨n,l⟩:=aAn u ops _ _ _ s j;exact⟨n,fun m f=>by rw[l m f];rfl⟩
 |drawn ops=>
  intro st r h;simp only[EC] at h ⊢;obtain⟨s,j,rfl⟩:=kS h;obtain⟨n,l⟩:=S0 u ops st s j;exact⟨n,fun m f=>by rw[l m f];rfl⟩
 |seq a b d p=>
  intro st r h;simp only[EC] at h ⊢;cases o:EC call G a st with
  |none=>rw[o] at h;cases h
  |some q=>
   obtain⟨v,j⟩:=d _ _ o;rw[o] at h;obtain⟨e,s⟩:=q;cases e with
   |normal=>
    obtain⟨z,x⟩:=p s r h;exact⟨max v z,fun m f=>by rw[j m (by omega)];exact x m (by omega)⟩
   |_=>exact⟨v,fun m f=>by rw[j m f];exact h⟩
 |cond c a b d p=>
  intro st r h;simp only[EC] at h ⊢;cases w:cO (aM G st.sl c) with
  |none=>rw[w] at h;cases h
  | some t=>rw[w] at h;cases t with
    | true=>exact d st r h
    | false=>exact p st r h
 |block id a d=>
  intro st r h;simp only[EC] at h ⊢;cases o:EC call G a st with
  |none=>rw[o] at h;cases h
  |some q=>
   obtain⟨v,j⟩:=d _ _ o;rw[o] at h;exact⟨v,fun m f=>by rw[j m f];exact h⟩
 |loop L a d=>
  intro st r h;simp only[EC] at h ⊢;obtain⟨i,y⟩:=jZ h;obtain⟨n,l⟩:=aAo (runs:=fun m=>EC (calls m) G a) (fun st r h=>d st r h) i _ r y
  exact⟨n,fun m f=>Dg (l m f)⟩
 |gh g a d=>exact fun st r h=>d _ r h
 |trm L a d=>exact fun st r h=>d _ r h
 |bad=>intro st r h;cases h
theorem Jl(f:Ho calls call){h:HF}{a:List AV}{hp:List aD}{r:AV×List aD}(b:Xm call G h a hp=some r):∃n,∀m,n<=m->Xm (calls m) G h a hp=some r:=by
 unfold Xm at *;cases c:EC call G h.code ⟨a++tF (h.nt-a.length),hp⟩ with
 |none=>rw[c] at b;cases b
 |some q=>
  obtain⟨n,e⟩:=aO5 f _ _ _ c;rw[c] at b;exact⟨n,fun m d=>by rw[e m d];exact b⟩
theorem sN{T:HT}:∀(n:Nat)(f:FuncId)(b:List AV)(hp:List aD)(r:AV×List aD),callN G T n f b hp=some r->callN G T (n+1) f b hp=some r
 |0,f,b,hp,r,h=>by simp[callN] at h
 | n+1,f,b,hp,r,h=>by
   rw[callN] at h ⊢;cases c:T.tab f with
   | none=>rw[c] at h;exact h
   | some x=>
     rw[c] at h;obtain⟨m,d⟩:=Jl (calls:=fun _=>callN G T (n+1)) (fun f a hp r h=>⟨0,fun _ _=>sN n f a hp r h⟩) h
     exact d m (aZE _)
theorem aCF(T:HT):Ho (callN G T) (EV G T):=by
 intro f a hp r h;obtain⟨n,c⟩:=jZ h;refine⟨n,fun m b=>?_⟩
 induction m with
 |zero=>simp at b;subst b;exact c
 |succ m e=>
  by_cases d:n=m+1;subst d;exact c;exact sN _ _ _ _ _ (e (by omega))
theorem aNT{T:HT}{f:FuncId}{h:HF}{a:List AV}{hp:List aD}{r:AV×List aD}(b:T.tab f=some h)(c:Xm (EV G T) G h a hp=some r):EV G T f a hp=some r:=by
 obtain⟨n,d⟩:=Jl (aCF T) c;refine Xn (n:=n+1) (fun n r h=>sN n f a hp r h) ?_
 rw[callN,b];exact d n (aZE _)
theorem jF{T:HT}{f:FuncId}{a:List AV}{hp:List aD}{r:AV×List aD}(b:T.tab f=none)(c:T.base f a hp=some r):EV G T f a hp=some r:=by
 refine Xn (n:=1) (fun n r h=>sN n f a hp r h) ?_
 rw[callN,b];exact c
end
end
section
section
variable {P:Program}{G:aF}{k:Nat}{st st' s:AS}{K R Q:AS->Prop}{call:aO}
theorem AC.nzArgs{f:FuncId}{a:List AV}{objs:List aD}{Q:AV->List aD->Prop}(h:AC P G f (a.map Gy) objs Q):AC P G f a objs Q:=
 fun F γ vs w j g c=>h F γ vs w j g ⟨by simpa using c.1,fun i l v b e=>by
   rw[aZH] at b;obtain⟨d,h3,rfl⟩:=Option.map_eq_some_iff.1 b;exact aE9 (c.2 i d v h3 e)⟩
theorem Jm{p:Nat->Bool}(c:aU):(nzC c).keep p=c.keep p:=by
 unfold nzC;grind[aU.keep]
theorem Jn{p:Nat->Bool}:∀(cs:List aU),keepL p (cs.map nzC)=keepL p cs
 |[]=>rfl
 |c::cs=>by simp[keepL,Jm,Jn cs]
theorem Jo{p:Nat->Bool}(v:AV):dH p (Gy v)=dH p v:=by
 cases v with
 |one c=>grind[Gy,dH,Jm]
 |agg cs=>grind[Gy,dH,Jn]
 |tup l=>
  simp only[Gy,dH,List.all_map];congr 1;funext t;cases t with
  |one c=>simp only[Function.comp_apply,nzT,Gc,Jm]
  |agg cs=>simp only[Function.comp_apply,nzT,Gc,Jn]
 |junk=>rfl
theorem qI{sl:List AV}:∀a:List aH,lG G sl a=(a.map (aM G sl)).map Gy
 |[]=>rfl
 |x::a=>by simp[lG,qI a]
theorem aAp:∀a:List aH,G0 G st a=(a.map fun x=>vwA st.hp (aM G st.sl x)).map Gy
 |[]=>rfl
 |x::a=>by simp[G0,aAp a]
theorem Dh{hp:List aD}(c:aU):vwC (hp.map aQ) c=vwC hp c:=by
 cases c<;>simp only[vwC];rw[bK];cases aL hp _<;>rfl
theorem aFs{hp:List aD}(v:AV):vwA (hp.map aQ) v=vwA hp v:=by
 simp_all[vwA,Dh,aZZ]
theorem S1{hp:List aD}(c:aU):vwN (hp.map aQ) c=vwN hp c:=by grind[vwN,Dh]
theorem aFt{hp:List aD}{off:Nat}(o:aD):vpP (hp.map aQ) off (aQ o)=vpP hp off o:=by
 cases o<;>simp only[aQ,vpP,Pc];grind[List.map_congr_left,S1]
theorem aFu{hp:List aD}(c:aU):vwM (hp.map aQ) c=vwM hp c:=by
 simp_all[vwM,S1,bK,aFt]
theorem aFv{hp:List aD}(c:aU):vp0 (hp.map aQ) c=vp0 hp c:=by
 cases c<;>simp only[vp0,Dh];rw[bK];cases aL hp _<;>simp only[aQ,vqP,Pe];grind[List.map_congr_left,aFu]
theorem aFw{hp:List aD}(c:aU):vpC (hp.map aQ) c=vpC hp c:=by
 simp_all[vpC,aFv,Pd,aZZ]
theorem aFx{hp:List aD}(v:AV):vpA (hp.map aQ) v=vpA hp v:=by
 simp_all[vpA,aFw,aZZ,Dh]
theorem aAq:∀a:List aH,De G st a=(a.map fun x=>vpA st.hp (aM G st.sl x)).map Gy
 |[]=>rfl
 |x::a=>by simp[De,aAq a]
theorem S2{o:aN}(h:exX G (aE s) o=some st'):∃j,exX G s o=some j/\aE j=st':=by
 obtain⟨d,l,g⟩:=o;have f:((dJ G (aE s) l).map fun v=>(⟨aP (aE s).sl d v,(aE s).hp⟩:AS))=some st'->∃ j,((dJ G s l).map fun v=>(⟨aP s.sl d v,s.hp⟩:AS))=some j/\aE j=st':=by
   intro h;rw[rG] at h;obtain⟨v,a,rfl⟩:=Option.map_eq_some_iff.1 h;exact⟨_,by rw[a];rfl,rfl⟩
 cases l<;>try exact f h
 case alloc z=>
  simp only[exX,Option.some.injEq] at h ⊢;exact⟨_,rfl,by rw[<- h];simp[aE,aQ]⟩
 case box x=>
  simp only[exX] at h ⊢;obtain⟨cs,a,rfl⟩:=Option.map_eq_some_iff.1 h;rw[show (aE s).sl=s.sl from rfl] at a
  exact⟨_,by rw[a];rfl,by simp[aE,aQ]⟩
 case store size x v=>
  simp only[exX] at h ⊢;cases d with
  |some d=>cases h
  |none=>
   simp only[stX,show (aE s).sl=s.sl from rfl] at h ⊢
   split at h;rename_i id off y;split at h;rename_i vs w;split at h;rename_i cs b;rw[aE,bK] at b;split at h;rename_i p;injection h with h
   simp only[rH b,if_pos p];exact⟨_,rfl,by rw[<- h];simp[aE,aQ,bAe]⟩;cases h;cases h;cases h;rename_i id i z off y;split at h;rename_i r w;split at h;rename_i c A es b;rw[aE,bK] at b;obtain⟨cap,n,rfl⟩:=oY b;split at h;rename_i e q;split at h;rename_i p;injection h with h
   simp only[n,q,if_pos p];exact⟨_,rfl,by simp_all[aE,aQ,bAe]⟩;cases h;cases h;cases h;cases h;cases h
 case bslc size len z ps=>
  simp only[exX,bsX] at h ⊢;cases len with
  |zero=>
   simp only at h ⊢;split at h;rename_i q;injection h with h
   simp only[if_pos q];exact⟨_,rfl,by rw[<- h];simp[aE,aQ]⟩;cases h
  |succ len=>
   simp only at h ⊢;obtain⟨cs,a,h⟩:=bAl.1 h;obtain⟨r,t,h⟩:=bAl.1 h;rw[show (aE s).sl=s.sl from rfl] at a
   split at h;rename_i u;injection h with h
   exact⟨⟨aP s.sl d (vl (gD size (len+1) r)),s.hp⟩,by rw[a];simp only[aZR,t,if_pos u],by rw[<- h];simp[aE]⟩;cases h
theorem E3{size:Nat}:∀{es:List (List DC)},gG size es=true->∀e∈es,e.length=size
 |[],_=>by simp
 | x::es,h=>by
   simp only[gG,aZQ,jJ,beq_iff_eq] at h;intro e a;rcases bAL.1 a with rfl | a
   · exact h.1
   · exact E3 h.2 e a
theorem aFy(id:Nat)(c:aU):klC id c=cL (·==id) c:=by
 cases c<;>simp only[klC,cL,aU.keep,jJ,if_true];all_goals simp_all
theorem Hp(id:Nat):∀cs,Pj id cs=cs.map (cL (·==id))
 |[]=>rfl
 |c::cs=>by simp[Pj,aFy,Hp id cs]
theorem aO6(id:Nat)(v:AV):klV id v=bF (·==id) v:=by
 cases v<;>simp only[klV,bF,aFy,Hp]
theorem aFz(id:Nat):∀l,klS id l=l.map (bF (·==id))
 |[]=>rfl
 |c::cs=>by simp[klS,aO6,aFz id cs]
theorem aO7(id:Nat)(o:aD):klO id o=cP (·==id) o:=by
 cases o<;>simp only[klO,cP,Hp]
theorem Xo(id:Nat):∀l,klH id l=l.map (cP (·==id))
 |[]=>rfl
 |c::cs=>by simp[klH,aO7,Xo id cs]
theorem aAr{d:Option Nat}{size bytes:Nat}{z:List Value}{a x:aH}(h:apZ d size bytes (aE s) (aM G s.sl a) (aM G s.sl x)=some st')(q:∀r,aE r=st'->K r):uH P G k d (.app size bytes z a x) K s.sl s.hp:=by
 unfold apZ at h;split at h;rename_i t u id n p
 right
 rw[aE,bK,An] at h;unfold apB at h;split at h;rename_i c sz es b i g;split at h;rename_i f;injection h with h
 obtain⟨cap,i,_⟩:=oY i;obtain⟨rfl,j,l,o⟩:=f;exact⟨id,n,cap,es,b,p,i,j,g,E3 l,o,fun e _=>q _ (by rw[<- h];simp only[aE,bAe,uM,aFz,Xo];rfl)⟩
 cases h;cases h;rename_i t u p
 left
 rw[aE,An] at h;unfold apN at h;split at h;rename_i b g;split at h;rename_i f;injection h with h
 exact⟨p,b,g,E3 f.1,f.2,fun e _=>q _ (by rw[<- h];simp only[aE,bAh,uM,aZA,Xo];rfl)⟩
 cases h;cases h;cases h
theorem aAs{d:Option Nat}{size len:Nat}{z:List Value}{g:List (Nat×aH)}(h:bsO G (aE s) d size len z g=some st')(f:∀i,aE i=st'->K i):uH P G k d (.bslc size len z g) K s.sl s.hp:=by
 unfold bsO at h;obtain⟨cs,a,h⟩:=bAl.1 h;cases b:dcs cs with
 |none=>
  rw[b] at h;simp only[bsP] at h;split at h;rename_i c;injection h with h
  rw[M6] at a;exact .inr ⟨c,cs,a,f _ (by simp_all[aE,aQ])⟩;cases h
 |some e=>
 rw[b] at h;simp only[bsP] at h;split at h;rename_i c;injection h with h
 obtain⟨j,l,n⟩:=lF size len e c;rw[M6] at a;refine .inl ⟨gD size len e,by rw[j,<- mY b];exact a,l,n,f _ (by simp_all[aE,aQ])⟩;cases h
theorem aO8(b:cH P G call){d:Option Nat}{f:FuncId}{c:List aH}(h:Xh call G d f c (aE s)=some st'):
  ∃ e os,(∀ n,c.map (aM G s.sl)=(c.map (aM G s.sl)).map (dD (cJ [] n)))/\AC P G f (c.map (aM G s.sl)) [] (fun a o=>a=e/\o.map aQ=os)/\
    (⟨aP s.sl d (dD (cJ [] s.hp.length) e),s.hp.map aQ++os.map (eQ (cJ [] s.hp.length))⟩:AS)=st':=by
 unfold Xh at h;cases i:(lG G (aE s).sl c).all (dH fun _=>true) with
 |false=>simp_all
 |true=>
  rw[i] at h;simp only[cond_true] at h;cases g:call f (lG G (aE s).sl c) [] with
  |none=>rw[g] at h;cases h
  |some r=>
   obtain⟨e,os⟩:=r;rw[g] at h;simp only[nwK,Option.some.injEq] at h;obtain⟨_,j⟩:=b _ _ _ _ _ g [] rfl;refine⟨e,os,fun n=>?_,(by rw[qI] at j;exact j.nzArgs),by simp_all[aE]⟩
   conv=>lhs;rw[<- List.map_id (c.map (aM G s.sl))]
   refine aZZ (fun v l=>(rnV v ?_).symm)
   rw[qI,List.all_map] at i;have:=bAW.1 i v l;rwa[Function.comp_apply,Jo] at this
theorem aFA:∀{os:List aD},aCu os=true->os.map aQ=os
 |[],_=>rfl
 | o::os,h=>by
   simp only[aCu,aZQ] at h;rw[aZM,aFA h.2];congr 1;cases o<;>try rfl
   simp_all[aOW,jJ,beq_iff_eq,aQ]
theorem aO9(c:cH P G call){d:Option Nat}{f:FuncId}{b:List aH}(h:dnZ call G d f b (aE s)=some st'):
  ∃ e os,os.map aQ=os/\(∀ n,b.map (aM G s.sl)=(b.map (aM G s.sl)).map (dD (cJ [] n)))/\AC P G f (b.map (aM G s.sl)) [] (fun a o=>a=e/\o.map aQ=os)/\
    (⟨aP s.sl d (dD (cJ [] s.hp.length) e),s.hp.map aQ++os.map (eQ (cJ [] s.hp.length))⟩:AS)=st':=by
 unfold dnZ at h;cases i:(lG G (aE s).sl b).all (dH fun _=>true) with
 |false=>simp_all
 |true=>
  rw[i,cond_true] at h;cases g:call f (lG G (aE s).sl b) [] with
  |none=>rw[g] at h;cases h
  |some r=>
   obtain⟨e,os⟩:=r;rw[g] at h;simp only[dnK] at h;cases l:aCu os with
   |false=>simp_all
   |true=>
    rw[l,cond_true] at h;have q:Xh call G d f b (aE s)=some st':=by
     unfold Xh;rw[i,cond_true,g];exact h
    obtain⟨_,j⟩:=c _ _ _ _ _ g [] rfl;refine⟨e,os,aFA l,fun n=>?_,(by rw[qI] at j;exact j.nzArgs),by simp_all[aE]⟩
    conv=>lhs;rw[<- List.map_id (b.map (aM G s.sl))]
    refine aZZ (fun v p=>(rnV v ?_).symm)
    rw[qI,List.all_map] at i;have:=bAW.1 i v p;rwa[Function.comp_apply,Jo] at this
theorem aAt(b:cH P G call){d:Option Nat}{f:FuncId}{c:List aH}(h:Xh call G d f c (aE s)=some st')(j:∀e,aE e=st'->K e):WR P G k [⟨d,.call f c,none⟩] K s:=by
 obtain⟨l,os,g,i,h3⟩:=aO8 b h;refine WR.callN (o:=⟨d,.call f c,none⟩) trivial rfl i (g _) (fun a o ⟨h4,h5⟩=>WR.nil (j _ ?_))
 subst h4;rw[<- h3,<- h5];simp only[aE,bAh,aZ4];simp_all[aZZ,oX]
theorem aKg{c:List aH}(b:cH P G call){f:FuncId}{av:AV}(h:call f (G0 G (aE s) c) []=some (av,[])):QC P G f (c.map fun x=>vwA s.hp (aM G s.sl x)) av:=by
 obtain⟨_,d⟩:=b _ _ _ _ _ h [] rfl;rw[aAp] at d;have e:(c.map fun x=>vwA (aE s).hp (aM G (aE s).sl x))=c.map fun x=>vwA s.hp (aM G s.sl x):=aZZ (fun x _=>aFs _)
 rw[e] at d;exact d.nzArgs.gh (fun a o ⟨g,i⟩ _=>⟨a,o,Gh.refl,aZX _,g,by simp_all⟩)
theorem aAu{c:List aH}(b:cH P G call){f:FuncId}{av:AV}(h:call f (De G (aE s) c) []=some (av,[])):QC P G f (c.map fun x=>vpA s.hp (aM G s.sl x)) av:=by
 obtain⟨_,d⟩:=b _ _ _ _ _ h [] rfl;rw[aAq] at d;have e:(c.map fun x=>vpA (aE s).hp (aM G (aE s).sl x))=c.map fun x=>vpA s.hp (aM G s.sl x):=aZZ (fun x _=>aFx _)
 rw[e] at d;exact d.nzArgs.gh (fun a o ⟨g,i⟩ _=>⟨a,o,Gh.refl,aZX _,g,by simp_all⟩)
theorem Ar(a:cH P G call):cH P G (lI call):=fun f c hp d g h b e=>⟨(a f _ hp d g h b e).1,(a f _ hp d g h b e).2.nzArgs⟩
theorem aKh(b:cH P G call){d:Option Nat}{f:FuncId}{c:List aH}(h:clZ call G d f c (aE s)=some st')(n:∀q,aE q=st'->K q):WR P G k [⟨d,.call f c,none⟩] K s:=by
 unfold clZ at h;obtain⟨B,i,p⟩:=gC (k:=k) (mL G (aE s).sl c) s;cases hp:sL G (aE s).sl c with
 |false=>
  rw[hp,cond_false,<- p] at h;obtain⟨J,objs,l,A,z,t,u,v,w,x,y⟩:=rI (Ar b) h;exact WR.ghost i (WR.call (o:=⟨d,.call f c,none⟩) trivial rfl t u v w x (fun a o e=>WR.nil (n _ (y a o e))))
 |true=>
  rw[hp,cond_true] at h;cases g:call f (G0 G (aE s) c) [] with
  |none=>rw[g] at h;cases h
  |some r=>
   obtain⟨l,os⟩:=r;rw[g] at h;cases os with
   |nil=>
    simp only[vwK] at h;cases j:mK l with
    |true=>
     rw[j] at h;injection h with h
     exact WR.callV (o:=⟨d,.call f c,none⟩) trivial rfl (aKg b g) j rfl (WR.nil (n _ (by rw[<- h];rfl)))
    |false=>
     rw[j,cond_false,<- p] at h;grind[WR.ghost,aAt]
   |cons o os=>
    grind[vwK,WR.ghost,aAt]
theorem aAv(b:cH P G call){d:Option Nat}{x:aH}{c:List aH}(h:cvZ call G d x c (aE s)=some st')(v:∀j,aE j=st'->K j):WR P G k [⟨d,.callv x c,none⟩] K s:=by
 unfold cvZ at h;obtain⟨B,g,w⟩:=gC (k:=k) (mL G (aE s).sl c) s;rw[<- w] at h;unfold cvK at h;split at h;rename_i f i y;obtain⟨J,objs,z,A,l,n,p,q,r,t,u⟩:=rI (Ar b) h;exact WR.ghost g (WR.callv (o:=⟨d,.callv x c,none⟩) trivial rfl y l n p q r t (fun a o e=>WR.nil (v _ (u a o e))))
 cases h
theorem aAw{d:Option Nat}{size bytes:Nat}{z:List Value}{x y:aH}(h:mkZ G (aE s) d size bytes z x y=some st')(f:∀b,aE b=st'->K b):WR P G k [⟨d,.mk size bytes z x y,none⟩] K s:=by
 unfold mkZ mkK at h;split at h;rename_i n m c e;split at h;rename_i a;injection h with h
 exact WR.mk (o:=⟨d,.mk size bytes z x y,none⟩) trivial rfl c e a.1 a.2 (WR.nil (f _ (by simp_all[aE,aQ])));cases h;cases h
theorem S3{d:Option Nat}{size id k0 n:Nat}{z:List Value}{x:aH}(g:aM G s.sl x=.one (.bls id k0 n size)\/(k0=0/\aM G s.sl x=.one (.bld id n))) (h:Xi d (aE s) id k0 n size z (aL (aE s).hp id)=some st') (c:∀i,aE i=st'->K i):WR P G k [⟨d,.clr size z x,none⟩] K s:=by
 have j:aL (aE s).hp id=aQ (aL s.hp id):=bK id;rw[j] at h;cases b:aL s.hp id with
 |box cs=>
  rw[b] at h;simp only[aQ,Xi] at h;unfold aTa at h;split at h;split at h;rename_i e;obtain⟨rfl,f,a⟩:=e;injection h with h
  refine WR.clrB (o:=⟨d,.clr 1 [_] x,none⟩) trivial rfl g b f a (WR.nil (c _ ?_));simp_all[aE,aQ,bAe];cases h;cases h
 |dead=>rw[b] at h;cases h
 |arr cap sz es=>
  rw[b] at h;simp only[aQ,Xi] at h;split at h;rename_i e;obtain⟨rfl,a⟩:=e;injection h with h
  by_cases f:n=0;subst f;refine WR.clr0 (o:=⟨d,.clr sz z x,none⟩) (id:=id) (k0:=k0) trivial rfl (g.imp (fun h=>h) And.right) (WR.nil (c _ ?_))
  rw[<- h,aBV];simp only[aE];congr 1;exact (Cy (by rw[bK,b];rfl) (by simp)).symm;refine WR.clr (o:=⟨d,.clr sz z x,none⟩) trivial rfl g b (by omega) a (WR.nil (c _ ?_));simp_all[aE,aQ,bAe];cases h
theorem S4{d:Option Nat}{size:Nat}{z:List Value}{x:aH}(h:aCw G (aE s) d size z x=some st')(f:∀b,aE b=st'->K b):WR P G k [⟨d,.clr size z x,none⟩] K s:=by
 unfold aCw at h;have e:(aE s).sl=s.sl:=rfl;rw[e] at h;cases a:aM G s.sl x with
 |one c=>
  rw[a] at h;cases c with
  |bls id k0 n sz=>
   grind[aO0,S3]
  |bld id n=>exact S3 (.inr ⟨rfl,a⟩) h f
  |_=>cases h
 |_=>rw[a] at h;cases h
theorem S5{d:Option Nat}{x y:aH}(h:aCx G (aE s) d x y=some st')(e:∀i,aE i=st'->K i):WR P G k [⟨d,.cpys x y,none⟩] K s:=by
 unfold aCx at h;have j:(aE s).sl=s.sl:=rfl;rw[j] at h;unfold aO1 at h;split at h;rename_i id q n z sv f g;split at h;rename_i p;subst p;have l:aL (aE s).hp id=aQ (aL s.hp id):=bK id;rw[l] at h;cases a:aL s.hp id with
 |arr c sz es=>
  rw[a] at h;simp only[aQ,aFn] at h;split at h;rename_i b;obtain⟨rfl,b⟩:=b;injection h with h;refine WR.cpyA (o:=⟨d,.cpys x y,none⟩) trivial rfl f g a b (WR.nil (e _ ?_))
  simp_all[aE,aQ,bAe]
  cases h
 |dead=>rw[a] at h;cases h
 |box cs=>
  rw[a] at h;simp only[aQ,aFn] at h;split at h;rename_i b;injection h with h
  refine WR.cpys (o:=⟨d,.cpys x y,none⟩) trivial rfl f g a b (WR.nil (e _ ?_));simp_all[aE,aQ,bAe];cases h
 cases h;cases h
theorem S6{d:Option Nat}{x:aH}(h:aCy G (aE s) d x=some st')(e:∀b,aE b=st'->K b):WR P G k [⟨d,.cvsb x,none⟩] K s:=by
 unfold aCy at h;have c:(aE s).sl=s.sl:=rfl;rw[c] at h;cases a:dN (aM G s.sl x) with
 |none=>rw[a] at h;cases h
 |some sv=>
  rw[a] at h;injection h with h
  exact WR.cvsb (o:=⟨d,.cvsb x,none⟩) trivial rfl a (WR.nil (e _ (by rw[<- h];rfl)))
theorem aFB{d:Option Nat}{x:aH}(h:aJ6 d (aE s) (dN (aM G (aE s).sl x))=some st')(e:∀b,aE b=st'->K b):WR P G k [⟨d,.cvsb x,none⟩] K s:=by
 have c:(aE s).sl=s.sl:=rfl;rw[c] at h;cases a:dN (aM G s.sl x) with
 |none=>rw[a] at h;cases h
 |some sv=>
  rw[a] at h;injection h with h
  exact WR.cvsA (o:=⟨d,.cvsb x,none⟩) trivial rfl a (fun cap=>WR.nil (e _ (by simp_all[aE,aQ])))
theorem aKi{d:Option Nat}{size bytes:Nat}{z:List Value}{x y:aH}(h:mbK d size bytes (aE s) z (bH (aM G (aE s).sl x)) (bH (aM G (aE s).sl y))=some st')(g:∀b,aE b=st'->K b):WR P G k [⟨d,.mk size bytes z x y,none⟩] K s:=by
 have c:(aE s).sl=s.sl:=rfl;rw[c] at h;unfold mbK at h;split at h;rename_i v n m e f;split at h;rename_i j;obtain⟨rfl,a,i⟩:=j;injection h with h;exact WR.mkB (o:=⟨d,.mk 1 bytes [v] x y,none⟩) trivial rfl e f a i (WR.nil (g _ (by simp_all[aE,aQ])))
 cases h;cases h
theorem Hq(b:cH P G call){l:List aN}{d:Option Nat}{c:AI}(h:mM call G (aE s) l d c=some st')(e:∀j,aE j=st'->K j):WR P G k [⟨d,c,none⟩] K s:=by
 have g:c.isCall=false->Hn G (aE s) d c=some st'->WR P G k [⟨d,c,none⟩] K s:=by
  intro t h;rw[show Hn G (aE s) d c=exX G (aE s) ⟨d,c,none⟩ from Cc G (aE s) ⟨d,c,none⟩] at h
  obtain⟨j,n,p⟩:=S2 h;exact WR.exX (o:=⟨d,c,none⟩) trivial t n (WR.nil (e _ p))
 cases c<;>first|exact g rfl h|skip
 case call f xs=>exact aKh b h e
 case callv x xs=>exact aAv b h e
 case mk size bytes z x y=>exact aAw h e
 case clr size z x=>exact S4 h e
 case cpys x y=>exact S5 h e
 case cvsb x=>exact S6 h e
 case app size bytes z a x=>exact uH.run (o:=⟨d,.app size bytes z a x,none⟩) trivial (aAr h e)
 case apps a x=>cases h
 case bslc size len z ps=>
  simp only[mM] at h;obtain⟨u,i,r⟩:=gC (k:=k) (Jh G (aE s).sl ps) s;cases q:aJ5 d l with
  |true=>
   rw[q] at h;simp only[bsZ,<- r] at h;obtain⟨j,n,p⟩:=S2 (o:=⟨d,.bslc size len z ps,none⟩) h;exact WR.ghost i (WR.exX (o:=⟨d,.bslc size len z ps,none⟩) trivial rfl n (WR.nil (e _ p)))
  |false=>
   rw[q] at h;simp only[bsZ,<- r] at h;exact WR.ghost i (uH.run (o:=⟨d,.bslc size len z ps,none⟩) trivial (aAs h e))
theorem Jp{g:Nat}{b:Bool}(h:gK b (aM G (aE s).sl (.t g))=some true):jM G s (some (g,b)):=aJO (st:=aE s) h
theorem Jq{g:Nat}{b:Bool}(h:gK b (aM G (aE s).sl (.t g))=some false):Gv G s (some (g,b)):=aFa (st:=aE s) h
theorem S7(b:cH P G call){L:List Nat}{d:Option Nat}{e:AI}(h:Sw call G L (aE s) d e=some st')(c:∀q,aE q=st'->K q):WR P G k [⟨d,e,none⟩] K s:=by
 cases e with
 |call f j=>
  simp only[Sw] at h;cases n:Pk L (f+100000) with
  |false=>
   rw[n] at h;obtain⟨J,objs,l,D,C,t,u,v,w,A,B⟩:=rI (Ar b) h;exact WR.call (o:=⟨d,.call f j,none⟩) trivial rfl t u v w A (fun a o g=>WR.nil (c _ (B a o g)))
  |true=>
   rw[n] at h;simp only[aFo] at h;cases i:call f (De G (aE s) j) [] with
   |none=>rw[i] at h;cases h
   |some r=>
    obtain⟨l,os⟩:=r;rw[i] at h;cases os with
    |cons o os=>cases h
    |nil=>
     simp only[vpK] at h;cases p:mK l with
     |false=>simp_all
     |true=>
      rw[p] at h;injection h with h
      exact WR.callP (o:=⟨d,.call f j,none⟩) trivial rfl (aAu b i) p rfl (WR.nil (c _ (by rw[<- h];rfl)))
 |mk size bytes z x y=>exact aKi h c
 |cvsb x=>exact aFB h c
 |_=>cases h
theorem aAx(a:cH P G call){l:List aN}{o:aN}{h:AS}(c:Xj call G (aE s) l o.dst o.ai o.guard=some h)(next:∀f,aE f=h->WR P G k l K f):WR P G k (o::l) K s:=by
 obtain⟨d,i,g⟩:=o;cases g with
 |none=>exact WR.cons (Hq a c next)
 |some g=>
  simp only[Xj] at c;cases e:gK g.2 (aM G (aE s).sl (.t g.1)) with
  |none=>rw[e] at c;cases c
  |some b=>
   rw[e] at c;cases b with
   |true=>exact WR.cons (WR.guard (Jp e) rfl (Hq a c next))
   |false=>
    injection c with c
    exact WR.skip (Jq e) (next _ (by rw[<- c];rfl))
theorem aFC(a:cH P G call):∀(ops:List aN)(s:AS)(st':AS),evR call G ops (some (aE s))=some st'->WR P G k ops (fun c=>aE c=st') s
 |[],s,st',h=>by simp only[evR,Option.some.injEq] at h;exact WR.nil h
 | o::l,s,st',h=>by
   simp only[evR] at h;cases b:Xj call G (aE s) l o.dst o.ai o.guard with
   | none=>rw[b] at h;cases l<;>cases h
   | some e=>
     rw[b] at h;exact aAx a b (fun c d=>aFC a l c st' (by simp_all))
theorem aAy(a:cH P G call){L:List Nat}:∀(ops:List aN)(s:AS)(st':AS),G1 call G L ops (some (aE s))=some st'->WR P G k ops (fun s'=>aE s'=st') s
 |[],s,st',h=>by grind[G1,Option.some.injEq,WR.nil]
 | o::l,s,st',h=>by
   simp only[G1] at h;cases b:Ji call G L (aE s) l o.dst o.ai o.guard (kL L o.ai o.guard) with
   | none=>rw[b] at h;cases l<;>cases h
   | some f=>
     rw[b] at h;have next:∀ s',aE s'=f->WR P G k l (fun s'=>aE s'=st') s':=fun s' c=>aAy a l s' st' (by rw[c];exact h)
     cases e:kL L o.ai o.guard with
     | false=>rw[e] at b;exact aAx a b next
     | true=>
       rw[e] at b;obtain⟨d,i,g⟩:=o;cases g with
       | some g=>grind[kL]
       | none=>exact WR.cons (S7 a b next)
theorem aTe(c:cH P G call){L:List Nat}{l:List aN}{o:aN}{s1:AS}(a:Ji call G L (aE s) l o.dst o.ai o.guard (kL L o.ai o.guard)=some s1)(next:∀q,aE q=s1->K q):AN P G k o K s:=by
 obtain⟨d,e,g⟩:=o;unfold AN;simp only at a ⊢;split;rename_i hp;have n:kL L e g=false:=by cases e<;>first|rfl|cases hp
 rw[n] at a;simp only[Ji] at a;have i:∀{s1},mM call G (aE s) l d e=some s1->∃v,dJ G s e=some v/\aE ⟨aP s.sl d v,s.hp⟩=s1:=by
  intro s1 h;have j:Hn G (aE s) d e=some s1:=by cases e<;>first|exact h|cases hp
  rw[show Hn G (aE s) d e=exX G (aE s) ⟨d,e,none⟩ from Cc G (aE s) ⟨d,e,none⟩] at j
  have h3:(dJ G (aE s) e).map (fun v=>(⟨aP (aE s).sl d v,(aE s).hp⟩:AS))=some s1:=by cases e<;>first|exact j|cases hp
  rw[rG] at h3;obtain⟨v,h4,h5⟩:=Option.map_eq_some_iff.1 h3;exact⟨v,h4,h5⟩
 cases g with
 |none=>
  obtain⟨v,p,j⟩:=i a;exact .inr ⟨trivial,v,p,next _ j⟩
 |some g=>
  simp only[Xj] at a;cases f:gK g.2 (aM G (aE s).sl (.t g.1)) with
  |none=>rw[f] at a;cases a
  |some b=>
   rw[f] at a;cases b with
   |true=>
    obtain⟨v,p,j⟩:=i a;grind[Jp]
   |false=>
    injection a with a
    exact .inl ⟨Jq f,next _ (by rw[<- a];rfl)⟩
 cases n:kL L e g with
 |true=>
  rw[n] at a;cases g with
  |some g=>grind[kL]
  |none=>exact S7 c a next
 |false=>
  rw[n] at a;simp only[Ji] at a;cases g with
  |none=>exact Hq c a next
  |some g=>
   simp only[Xj] at a;cases f:gK g.2 (aM G (aE s).sl (.t g.1)) with
   |none=>rw[f] at a;cases a
   |some b=>
    rw[f] at a;cases b with
    |true=>exact WR.guard (Jp f) rfl (Hq c a next)
    |false=>
     injection a with a
     exact WR.skip (Jq f) (WR.nil (next _ (by rw[<- a];rfl)))
theorem aPa(f:cH P G call){L:List Nat}{d:Nat}{ops:List aN}:∀(t:IT)(s st':AS),Ge call G L d ops t (some (aE s))=some st'->TW P G k ops (fun b=>∃p,pOK d b.hp.length p/\aE (prm p b)=st') t s:=by
 have a:∀ (t:IT),(∀ (s st':AS),Ge call G L d ops t (some (aE s))=some st'->TW P G k ops (fun b=>∃ p,pOK d b.hp.length p/\aE (prm p b)=st') t s)->∀ (s st':AS) (i:Nat),
     Ge call G L d ops t (Ji call G L (aE s) ops (iQ ops i).dst (iQ ops i).ai (iQ ops i).guard (kL L (iQ ops i).ai (iQ ops i).guard))=some st'->AN P G k (iQ ops i) (TW P G k ops (fun b=>∃ p,pOK d b.hp.length p/\aE (prm p b)=st') t) s:=by
   intro t l s st' i h;cases y:Ji call G L (aE s) ops (iQ ops i).dst (iQ ops i).ai (iQ ops i).guard (kL L (iQ ops i).ai (iQ ops i).guard) with
   | none=>rw[y] at h;cases t<;>cases h
   | some A=>
     grind[aTe]
 intro t
 induction t with
 |nil=>intro s st' h;simp only[Ge,Option.some.injEq] at h;exact⟨[],(fun x c=>by cases c),h⟩
 |stop=>intro s st' h;cases h
 |st i t l=>exact fun s st' h=>a t l s st' i h
 |br i t r e j=>
  intro s st' h;simp only[Ge] at h;cases g:O6 r with
  |true=>
   rw[g] at h;refine⟨a t e s st' i h,?_⟩;cases r<;>simp[O6] at g;trivial
  |false=>
   rw[g] at h;obtain⟨u,n,p,v,h3,h4⟩:=Jk h;refine⟨a t e s st' i u,TW.mono (fun b ⟨q,o,z⟩=>?_) r s (j s n v)⟩
   have w:n.hp.length=b.hp.length:=by grind[St,aAb]
   refine⟨q++p,fun x c=>?_,?_⟩
   rcases bAV.1 c with c|c;exact o x c;rw[<- w];exact h3 x c;grind[aAc,Ss]
theorem aKj{ai:AI}:dJ G ⟨(aE s).sl,O2 ai (aE s).hp⟩ ai=dJ G ⟨s.sl,O2 ai s.hp⟩ ai:=by
 cases ai<;>first|rfl|exact rG (s:=⟨s.sl,s.hp⟩)
theorem aFD(g:cH P G call){d:Option Nat}{b:AI}(h:Cq call G (aE s) d b=some st'):∃v,(dJ G ⟨s.sl,O2 b s.hp⟩ b=some v\/∃f j e r,b=.call f j/\QC P G f e r/\∀n,j.map (aM G s.sl)=e.map (dD (cJ [] n))/\v=dD (cJ [] n) r)/\(⟨aP (aE s).sl d v,(aE s).hp⟩:AS)=st':=by
 have p:gP (aE s) d (evX G (aE s).sl (O2 b (aE s).hp) b)=some st'->∃v,dJ G ⟨s.sl,O2 b s.hp⟩ b=some v/\(⟨aP (aE s).sl d v,(aE s).hp⟩:AS)=st':=by
  intro h;rw[aE4,aKj] at h;cases u:dJ G ⟨s.sl,O2 b s.hp⟩ b with
  |none=>rw[u] at h;cases h
  |some v=>rw[u] at h;injection h with h;simp_all
 have z:(∀ f c,b≠.call f c)->∃ v,dJ G ⟨s.sl,O2 b s.hp⟩ b=some v/\(⟨aP (aE s).sl d v,(aE s).hp⟩:AS)=st':=fun B=>p (by
   cases b<;>first | exact h | simp_all)
 by_cases x:∃f c,b=.call f c;obtain⟨f,c,rfl⟩:=x;simp only[Cq] at h;cases y:(lG G (aE s).sl c).all (dH fun _=>true) with
 |false=>simp_all
 |true=>
  rw[y] at h;simp only[cond_true] at h;cases w:call f (lG G (aE s).sl c) [] with
  |none=>rw[w] at h;cases h
  |some r=>
   obtain⟨q,os⟩:=r;rw[w] at h;have l:∀ n,c.map (aM G s.sl)=(c.map (aM G s.sl)).map (dD (cJ [] n)):=fun n=>by
     conv=>lhs;rw[<- List.map_id (c.map (aM G s.sl))]
     refine aZZ (fun v u=>(rnV v ?_).symm)
     rw[qI,List.all_map] at y;have:=bAW.1 y v u;rwa[Function.comp_apply,Jo] at this
   cases os with
   |cons o os=>
    simp only[qcK,qcF] at h;generalize C:bF (fun id=>decide (0<=id)) ((bV (jY q) ⟨[q],o::os⟩).sl.getD 0 .junk)=v at h
    cases i:dH (fun _=>true) v with
    |false=>simp_all
    |true=>
     rw[i] at h;injection h with h
     have t:QC P G f (lG G (aE s).sl c) v:=QC.quiet g (by
       grind[Ap])
     refine⟨v,.inr ⟨f,c,c.map (aM G s.sl),v,rfl,?_,fun n=>⟨l n,(rnV v i).symm⟩⟩,h⟩
     rw[qI] at t;exact AC.nzArgs t
   |nil=>
    simp only[qcK] at h;cases i:dH (fun _=>true) q with
    |false=>simp_all
    |true=>
     rw[i] at h;injection h with h
     obtain⟨_,t⟩:=g _ _ _ _ _ w [] rfl;refine⟨q,.inr ⟨f,c,c.map (aM G s.sl),q,rfl,?_,fun n=>⟨?_,(rnV q i).symm⟩⟩,h⟩
     rw[qI] at t;exact t.nzArgs.gh (fun a o ⟨A,D⟩ _=>⟨a,o,Gh.refl,aZX _,A,by simp_all⟩)
     grind
 simp_all
theorem aKk(b:cH P G call){d:Option Nat}{q:AI}(h:ldZ call G (aE s) d q=some st')(g:∀D,aE D=st'->K D):uH P G k d q K s.sl s.hp:=by
 have H:∀{f l},dnZ call G d f l (aE s)=some st'->uH P G k d (.call f l) K s.sl s.hp:=by
  intro f l h;obtain⟨p,os,I,J,M,h3⟩:=aO9 b h;refine⟨_,Bw.of M (J _),⟨_,_,p,os,⟨rfl,I⟩,rfl,rfl⟩,?_⟩;rintro a o ⟨E,T,⟨rfl,h5⟩,rfl,rfl⟩;refine g _ ?_;rw[<- h3,<- h5];simp only[aE,bAh,aZ4];simp_all[aZZ,oX]
 cases q<;>first|(cases h;done)|skip
 case call f l=>
  simp only[ldZ] at h;cases j:call f (De G (aE s) l) [] with
  |none=>rw[j] at h;cases h
  |some r=>
   obtain⟨p,os⟩:=r;rw[j] at h;cases os with
   |nil=>
    simp only[dvK] at h;cases C:mK p with
    |true=>
     rw[C] at h;injection h with h
     refine⟨_,Bw.viewP (aAu b j) C (by simp_all),⟨p,[],rfl,rfl⟩,?_⟩;rintro a o ⟨rfl,rfl⟩;rw[bAx];exact g _ (by rw[<- h];rfl)
    |false=>simp_all
   |cons o os=>exact H h
 case callv x l=>exact aAv b h g
 case mk size bytes z x y=>exact aAw h g
 case clr size z x=>exact S4 h g
 case cpys x y=>exact S5 h g
 case cvsb x=>exact S6 h g
 case app size bytes z a x=>exact aAr h g
 case bslc size len z ps=>exact aAs h g
 case alloc z=>
  simp only[ldZ,Hn,Option.some.injEq] at h;exact g _ (by simp_all[aE,aQ])
 case box x=>
  simp only[ldZ,Hn] at h;cases j:cellsOf (aM G (aE s).sl x) with
  |none=>rw[j] at h;cases h
  |some cs=>rw[j] at h;injection h with h;exact⟨cs,j,g _ (by simp_all[aE,aQ])⟩
 case store size x v=>
  simp only[ldZ,Hn] at h;cases d with
  |some d=>cases h
  |none=>
   refine⟨rfl,?_⟩;simp only[stD,stX,show (aE s).sl=s.sl from rfl] at h
   split at h;rename_i id off B
   left
   split at h;rename_i vs A;split at h;rename_i cs n;rw[aE,bK] at n;split at h;rename_i j;injection h with h
   exact⟨id,off,cs,vs,B,A,rH n,j.1,j.2,g _ (by simp_all[aE,aQ,bAe])⟩;cases h;cases h;cases h;rename_i id i z off B
   right
   split at h;rename_i F A;split at h;rename_i c U es n;rw[aE,bK] at n;obtain⟨cap,t,rfl⟩:=oY n;split at h;rename_i e S;split at h;rename_i j;injection h with h
   obtain⟨rfl,u,w⟩:=j;obtain⟨cs,N,O⟩:=bAl.1 A;exact⟨id,i,z,off,cap,es,e,F,B,by grind[mY],t,S,u,w,g _ (by simp_all[aE,aQ,bAe])⟩;cases h;cases h;cases h;cases h;cases h
theorem aAz(a:cH P G call):∀(ops:List (Bool×aN)) (s:AS) (st':AS),G2 call G ops (some (aE s))=some st'->jW P G k (fun s'=>aE s'=st') ops s
 |[],s,st',h=>by simp only[G2,Option.some.injEq] at h;exact h
 | (q,o)::l,s,st',h=>by
   simp only[G2] at h;cases c:drO call G (aE s) q o.dst o.ai o.guard with
   | none=>rw[c] at h;cases l<;>cases h
   | some j=>
     rw[c] at h;have next:∀ s',aE s'=j->jW P G k (fun s'=>aE s'=st') l s':=fun s' r=>aAz a l s' st' (by simp_all)
     have i:jM G s o.guard->drZ call G (aE s) o.dst o.ai q=some j->jW P G k (fun s'=>aE s'=st') ((q,o)::l) s:=by
       intro e f;cases q with
       | true=>
         obtain⟨v,n,p⟩:=aFD a f;exact⟨v,.inr ⟨e,n⟩,next _ (by rw[<- p];rfl)⟩
       | false=>exact .inr ⟨e,aKk a f next⟩
     cases d:o.guard with
     | none=>rw[d] at c;exact i (by rw[d];trivial) c
     | some g=>
       rw[d] at c;simp only[drO] at c;cases e:gK g.2 (aM G (aE s).sl (.t g.1)) with
       | none=>rw[e] at c;cases c
       | some b=>
         rw[e] at c;cases b with
         | true=>exact i (by grind[Jp]) c
         | false=>
           injection c with c
           exact WD.skip (by grind[Jq]) (next _ (by rw[<- c];rfl))
theorem aAA{sl:List AV}:∀{c:List aH}{x:aH}{id:Nat},x∈c->id∈Rf (aM G sl x)->id∈fpA G sl c
 | y::c,x,id,b,a=>by
   rw[fpA,bAV];rcases bAL.1 b with rfl | b
   · exact .inl a
   · exact .inr (aAA b a)
theorem Hr(s:AS)(id:Nat):(aE s).hp[id]?=(s.hp[id]?).map aQ:=by simp[aE]
theorem aFE(q:cH P G call){o:aN}{r:Nat}{s1:AS}{f:FP}(D:k<=r)(i:jM G s o.guard)(h:L2 call G (aE s) o.dst r o.ai=some (s1,f)):∃v u,kQ P G k o s v u f.2/\wrU u=f.1/\aE (Mt o s v u)=s1:=by
 have M:o.ai.isPure=true->Wh (fpA G (aE s).sl (bJ o.ai)) (mM call G (aE s) [] o.dst o.ai)=some (s1,f)->mM call G (aE s) [] o.dst o.ai=Hn G (aE s) o.dst o.ai->(∀ st':AS,Hn G st' o.dst o.ai=(dJ G st' o.ai).map fun v=>⟨aP st'.sl o.dst v,st'.hp⟩)->∃ v u,kQ P G k o s v u f.2/\wrU u=f.1/\aE (Mt o s v u)=s1:=by
   intro _ h O S;rw[O,S,rG] at h;cases w:dJ G s o.ai with
   | none=>rw[w] at h;cases h
   | some v=>
     rw[w] at h;simp only[aZG,Wh,Option.some.injEq,Prod.mk.injEq] at h;obtain⟨t,p⟩:=h;subst p;exact⟨v,none,.pur v _ i w (fun x I id T=>aAA I T),rfl,by rw[<- t];rfl⟩
 have ex:∀ st':AS,o.ai.isPure=true->Hn G st' o.dst o.ai=(dJ G st' o.ai).map fun v=>⟨aP st'.sl o.dst v,st'.hp⟩:=by
   grind[Cc,exX,AI.isPure]
 cases b:o.ai with
 |alloc z=>
  rw[b] at h;simp only[L2,Hr] at h;cases e:s.hp[r]? with
  |none=>rw[e] at h;cases h
  |some B=>
   rw[e] at h;cases B with
   |dead=>
    simp only[aZG,aQ,fvN,Option.some.injEq,Prod.mk.injEq] at h;obtain⟨t,p⟩:=h;subst p;exact⟨_,_,.alloc z r i b e D,rfl,by simp_all[aE,Mt,C6,aQ,bAe]⟩
   |box cs=>cases h
   |arr c sz es=>cases h
 |store size x v=>
  rw[b] at h;simp only[L2] at h;unfold fvS at h;split at h;rename_i id off vs I w;cases F:o.dst with
  |some d=>simp_all
  |none=>
   rw[F] at h;simp only[Hr] at h;cases e:s.hp[id]? with
   |none=>rw[e] at h;cases h
   |some B=>
    rw[e] at h;cases B with
    |dead=>cases h
    |arr c sz es=>cases h
    |box cs=>
     simp only[aZG,aQ,fvT] at h;split at h;rename_i C;simp only[Option.some.injEq,Prod.mk.injEq] at h;obtain⟨t,p⟩:=h;subst p;exact⟨_,_,.store size x v id off cs vs i b F I w e C.1 C.2,rfl,by simp_all[aE,Mt,C6,aQ,bAe,aP]⟩;cases h
  cases h
 |bslc size len z V=>
  rw[b] at h;simp only[L2] at h;cases len with
  |zero=>cases h
  |succ len=>
   simp only[fvL] at h;cases l:bsX G (aE s) o.dst size (len+1) z V with
   |none=>rw[l] at h;cases h
   |some s2=>
    rw[l] at h;simp only[Wh,Option.some.injEq,Prod.mk.injEq] at h;obtain⟨t,p⟩:=h;subst p;unfold bsX at l;simp only at l;cases hf:iO (zs z ((len+1)*size)) (V.map fun (j,x)=>(j*size,size,aM G (aE s).sl x)) with
    |none=>simp_all
    |some cs=>
     simp only[hf,aZR] at l;cases F:dcs cs with
     |none=>simp_all
     |some X=>
      simp only[F,aZR] at l;split at l;rename_i U;injection l with l
      obtain⟨g1,g2,g3⟩:=lF size (len+1) X U;rw[M6] at hf;exact⟨_,none,.lit size (len+1) z V (gD size (len+1) X) i b (by rw[g1,<- mY F];exact hf) g2 g3,rfl,by rw[<- t,<- l];rfl⟩;grind
 |cpys x y=>
  rw[b] at h;simp only[L2] at h;unfold fvY at h;split at h;rename_i id lo n z bs I hy;split at h;rename_i hz;subst hz;rw[Hr] at h;cases e:s.hp[id]? with
  |none=>rw[e] at h;cases h
  |some B=>
   rw[e] at h;cases B with
   |dead=>cases h
   |arr c z es=>cases h
   |box cs=>
    simp only[aZG,aQ,aJ7] at h;split at h;rename_i C;simp only[Option.some.injEq,Prod.mk.injEq] at h;obtain⟨t,p⟩:=h;subst p;exact⟨_,_,.cpy x y id lo n bs cs i b I hy e C,rfl,by simp_all[aE,Mt,C6,aQ,bAe]⟩;cases h
  cases h;cases h
 |call g N=>
  rw[b] at h;simp only[L2] at h;generalize ((N.map (aM G (aE s).sl)).flatMap jY)=J at h
  match J with
  |[]=>
   simp only[fvC] at h;cases l:Cq call G (aE s) o.dst (.call g N) with
   |none=>rw[l] at h;cases h
   |some s2=>
    rw[l] at h;simp only[Wh,Option.some.injEq,Prod.mk.injEq] at h;obtain⟨t,p⟩:=h;subst p;obtain⟨v,w,he⟩:=aFD q l;rcases w with w|⟨f',E,A,r',O,S,Z⟩
    grind[dJ]
    exact⟨v,none,.call f' E A r' v i (b.trans O) S Z,rfl,by rw[<- t,<- he];rfl⟩
  |[id]=>
   simp only[fvC,Hr] at h;cases e:s.hp[id]? with
   |none=>rw[e] at h;cases h
   |some B=>
    rw[e] at h;cases B with
    |dead=>cases h
    |arr c z es=>cases h
    |box cs=>
     simp only[aZG,aQ,fvB] at h;cases D:(keepL (fun _=>true) cs&&(N.map (aM G (aE s).sl)).all (dH (lD [id]))) with
     |false=>grind
     |true=>
      rw[D] at h;simp only[cond_true] at h;simp only[aZQ] at D;unfold aFp at h;split at h;rename_i cs' C;cases H:keepL (fun _=>true) cs' with
      |false=>simp_all
      |true=>
       rw[H] at h;simp only[cond_true,Option.some.injEq,Prod.mk.injEq] at h;obtain⟨t,p⟩:=h;subst p;obtain⟨_,hA⟩:=Ar q _ _ _ _ _ C [.box cs] rfl;refine⟨.tup [],some (id,.box cs'),.callB g N _ id cs cs' i b e (hA.gh (fun a Y ⟨q1,W⟩ U=>⟨a,Y,Gh.refl,U,q1,?_⟩)) (fun n=>?_) (fun n=>⟨?_,?_⟩),rfl,by rw[<- t];simp[aE,Mt,C6,aQ,bAe]⟩
       obtain⟨x,rfl⟩:=List.length_eq_one_iff.1 (by have:=congrArg List.length W;simpa using this:Y.length=1);simp only[aZM,aZN,List.cons.injEq,and_true] at W;rw[rH W]
       ·rw[aZ4]
        conv=>lhs;rw[<- List.map_id (N.map (aM G s.sl))]
        exact aZZ (fun v w=>(rtV v (bAW.1 D.2 v w)).symm)
       simp only[eQ,<- pH,rnL _ D.1];simp only[eQ,<- pH,rnL _ H]
      cases h
  |_::_::_=>cases h
 |_=>
  rw[b] at h;first
   |(refine M (by rw[b];rfl) (by rw[b];exact h) (by rw[b];rfl) (fun st'=>ex st' (by rw[b];rfl)))
   |(cases h;done)
theorem aPb(a:cH P G call){o:aN}{r:Nat}{s1:AS}{f:FP}(e:k<=r)(h:fvO call G (aE s) o.dst r o.ai o.guard=some (s1,f)):∃v u,kQ P G k o s v u f.2/\wrU u=f.1/\aE (Mt o s v u)=s1:=by
 cases c:o.guard with
 |none=>rw[c] at h;exact aFE a e (by rw[c];trivial) h
 |some g=>
  rw[c] at h;simp only[fvO] at h;cases d:gK g.2 (aM G (aE s).sl (.t g.1)) with
  |none=>rw[d] at h;cases h
  |some b=>
   rw[d] at h;cases b with
   |true=>exact aFE a e (by rw[c];exact Jp d) h
   |false=>
    simp only[fvG,Option.some.injEq,Prod.mk.injEq] at h;obtain⟨i,j⟩:=h;subst j;exact⟨_,none,.skip (by rw[c];exact Jq d),rfl,by rw[<- i];rfl⟩
theorem aFF(b:cH P G call){c:List (Nat×Nat)}:∀(ops:List aN)(a:List FP)(r:Nat)(s:AS)(st':AS),k<=r->Xk call G c a r ops (some (aE s))=some st'-> ∃L:List FE,L.map (·.1)=ops/\lY P G k (fun w=>aE w=st') L s/\L3 c (a++L.map (·.2))=true
 | [],a,r,s,st',g,h=>by
   simp only[Xk] at h;cases d:L3 c a with
   | false=>rw[d] at h;cases h
   | true=>
     rw[d] at h;injection h with h
     exact⟨[],rfl,h,by simpa using d⟩
 | o::ops,a,r,s,st',g,h=>by
   simp only[Xk] at h;cases e:fvO call G (aE s) o.dst r o.ai o.guard with
   | none=>rw[e] at h;cases h
   | some q=>
     obtain⟨x,f⟩:=q;rw[e] at h;obtain⟨v,u,p,t,n⟩:=aPb b g e;simp only[<- n] at h;obtain⟨L,j,l,i⟩:=aFF b ops (a++[f]) _ (Mt o s v u) st' (by cases aCC o.ai<;>simp<;>omega) h;exact⟨(o,f)::L,by simp[j],⟨v,u,f.2,p,t,rfl,l⟩,by simpa using i⟩
theorem aAB:∀(L:List Nat)(n:Nat),Sx L n=L.contains n
 |[],n=>rfl
 | x::L,n=>by
   rw[Sx,aAB L n,jJ,List.contains_cons]
theorem aAC:∀(a b:List Nat),G3 a b=uJ a b
 |[],b=>rfl
 |x::a,b=>by rw[G3,aAC a b,aAB];rfl
theorem Xp:∀(a:List FE)(n:Nat),atF (a.map (·.2)) n=(a.getD n pE).2
 |[],n=>by cases n<;>rfl
 |f::a,0=>rfl
 |f::a,n+1=>by rw[aZM,atF,Xp a n];simp[aZO]
theorem aCG{a b c:List Nat}:uJ a (b++c)=(uJ a b&&uJ a c):=by
 unfold uJ;rw[bAY];simp only[bAW,aZQ,bAC,List.contains_eq_mem,decide_eq_false_iff_not,bAV,not_or];exact⟨fun h=>⟨fun x d=>(h x d).1,fun x d=>(h x d).2⟩,fun h x d=>⟨h.1 x d,h.2 x d⟩⟩
theorem aAD{L:List FE}:∀(c:List (Nat×Nat)),L3 c (L.map (·.2))=true->∀p∈c,dsj (L.getD p.1 pE).2 (L.getD p.2 pE).2=true
 |[],_,p,hp=>by cases hp
 | (a,b)::c,h,p,hp=>by
   simp only[L3,aZQ] at h;rcases bAL.1 hp with rfl | hp
   · have d:=h.1
     rw[Xp,Xp] at d;show dsj (L.getD a pE).2 (L.getD b pE).2=true;revert d;generalize (L.getD a pE).2=x;generalize (L.getD b pE).2=y;obtain⟨w,r⟩:=x;obtain⟨w',e⟩:=y;intro d;simp only[dsM,aAC] at d;simp only[dsj,aCG];simp only[aZQ] at d ⊢;exact⟨⟨d.1,d.2.1⟩,d.2.2⟩
   · exact aAD c h.2 p hp
theorem S8:∀n,Df n=List.replicate n .dead
 |0=>rfl
 |n+1=>by rw[Df,S8 n,List.replicate_succ]
theorem Xq(a:cH P G call){b:List (Nat×Nat)}{ops:List aN}{s st':AS}(j:k<=s.hp.length)(h:Xk call G b [] (aE s).hp.length ops (some ⟨(aE s).sl,(aE s).hp++Df (nAl ops)⟩)=some st'){Q:Exit->AS->Prop}(g:∀c,aE c=st'->Q .normal c):AW P G k (.drawnF b ops) Q s:=by
 refine AW.ghost (Gh.dead (nAl ops)) ?_;have e:(⟨(aE s).sl,(aE s).hp++Df (nAl ops)⟩:AS)=aE ⟨s.sl,s.hp++List.replicate (nAl ops) .dead⟩:=by
  simp[aE,S8,aQ]
 rw[e] at h;obtain⟨L,f,i,d⟩:=aFF a ops [] _ _ st' (by simpa[aE] using j) h;exact AW.drawnF f (aAD b (by simpa using d)) (lY.mono g i)
end
end
section
section
variable {P:Program}{G:aF}{k:Nat}{st st' s:AS}{call:aO}
theorem aPc(g:GH)(s:AS):∃b,Gh k s b/\aE b=ghE g (aE s):=by
 cases g with
 |nil d sz=>
  simp only[ghE,ghN];split;rename_i a;refine⟨_,Gh.nil (d:=d) sz ?_,by simp[aE,aQ]⟩;rw[show (aE s).sl=s.sl from rfl,aZO] at a
  cases h:s.sl[d]? with
  |none=>rw[h] at a;cases a
  |some x=>rw[h] at a;simp only[bAm] at a;rw[a]
  exact⟨s,Gh.refl,rfl⟩
 |nilB d j sz=>
  simp only[ghE,ghB];split;rename_i id off a;simp only[aE,bK];unfold aJ2;split;rename_i cs c;unfold aJ1;split;rename_i e;exact⟨_,Gh.nilB sz (rH c) e,by simp[aE,aQ,bAe]⟩;exact⟨s,Gh.refl,rfl⟩;exact⟨s,Gh.refl,rfl⟩;exact⟨s,Gh.refl,rfl⟩
 |frz d=>exact gC _ s
 |bv d=>exact uQ _ s
theorem aFG(m:Nat)(c:aU):ctC m c=cL (fun id=>decide (m<=id)) c:=by
 cases c<;>simp only[ctC,cL,aU.keep,if_true]
 case ptr j o=>by_cases h:m<=j<;>simp[h]
 case bld j n=>by_cases h:m<=j<;>simp[h]
 case ept j i s o=>by_cases h:m<=j<;>simp[h]
 case bls j i s o=>by_cases h:m<=j<;>simp[h]
theorem Di(m:Nat):∀cs,G4 m cs=cs.map (cL fun id=>decide (m<=id))
 |[]=>rfl
 |c::cs=>by simp[G4,aFG,Di m cs]
theorem aPd(m:Nat)(v:AV):ctV m v=bF (fun id=>decide (m<=id)) v:=by
 cases v<;>simp only[ctV,bF,aFG,Di]
theorem aPe(m:Nat)(o:aD):ctO m o=cP (fun id=>decide (m<=id)) o:=by
 cases o<;>simp only[ctO,cP,Di]
theorem aFH(m:Nat):∀(n:Nat)(l:List aD),ctH m n l=(l.take n).map (cP fun id=>decide (m<=id))
 |0,l=>by simp[ctH]
 |n+1,[]=>by simp[ctH]
 |n+1,o::os=>by simp[ctH,aPe,aFH m n os]
theorem Pm(m:Nat):∀(l:List AV)(L:List Nat),SLe (l.map (bF fun id=>decide (m<=id))) (ctS m L l)
 |[],[]=>trivial
 |[],_::_=>trivial
 |x::a,[]=>⟨.junk _,Pm m a []⟩
 |x::a,0::L=>⟨by rw[aPd];exact .refl _,Pm m a L⟩
 |x::a,(n+1)::L=>⟨.junk _,Pm m a (n::L)⟩
theorem Pn(L:List Nat)(m:Nat)(a:k<=m)(s:AS):Gh k s (kR L m s):=Gh.dropS m a (Pm m s.sl L) (aFH m m s.hp).symm
theorem aCH(m:Nat)(o:aD):aQ (ctO m o)=ctO m (aQ o):=by cases o<;>rfl
theorem Nb(m:Nat):∀(n:Nat)(l:List aD),(ctH m n l).map aQ=ctH m n (l.map aQ)
 |0,l=>by simp[ctH]
 |n+1,[]=>by simp[ctH]
 |n+1,o::os=>by simp[ctH,aCH,Nb m n os]
theorem E4(L:List Nat)(m:Nat)(s:AS):aE (kR L m s)=kR L m (aE s):=by
 simp only[aE,kR,Nb]
theorem AW.le{x:eK}{Q:Exit->AS->Prop}(h:k<=st.hp.length->AW P G k x Q st):AW P G k x Q st:=
 fun c e F γ a w b g f d=>h (by rw[<- b.len];exact d) c e F γ a w b g f d
theorem aNU(d:cH P G call):∀(c:HC)(s:AS)(e:Exit)(st':AS),EC call G c (aE s)=some (e,st')->∀k,AW P G k c.er (fun v l=>v=e/\aE l=st') s:=by
 intro c
 induction c with
 |bad=>intro s e st' h k;simp only[EC] at h;cases h
 |skip=>intro s e st' h k;simp only[EC,Option.some.injEq,Prod.mk.injEq] at h;obtain⟨rfl,rfl⟩:=h;exact AW.skip ⟨rfl,rfl⟩
 |ret=>intro s e st' h k;simp only[EC,Option.some.injEq,Prod.mk.injEq] at h;obtain⟨rfl,rfl⟩:=h;exact AW.ret ⟨rfl,rfl⟩
 |exit id=>intro s e st' h k;simp only[EC,Option.some.injEq,Prod.mk.injEq] at h;obtain⟨rfl,rfl⟩:=h;exact AW.exit ⟨rfl,rfl⟩
 |region ops=>
  intro s e st' h k;simp only[EC] at h;obtain⟨r,o,j⟩:=kS h;injection j with j h3
  subst j;subst h3;exact AW.region ((aFC d ops s st' o).mono (fun l h=>⟨rfl,h⟩))
 |regR L ops=>
  intro s e st' h k;simp only[EC] at h;obtain⟨r,o,j⟩:=kS h;injection j with j h3
  subst j;subst h3;exact AW.region ((aAy d ops s st' o).mono (fun l h=>⟨rfl,h⟩))
 |drawnT L t ops=>
  intro s e st' h k;simp only[EC] at h;obtain⟨r,o,j⟩:=kS h;injection j with j h3
  subst j;subst h3;refine AW.prm (AW.drawnT (TW.mono (fun l ⟨p,F,I⟩=>?_) t s (aPa d t s _ o)))
  exact⟨p,by rw[St] at F;exact F,rfl,I⟩
 |drawnF N ops=>
  intro s e st' h k;simp only[EC] at h;obtain⟨r,o,j⟩:=kS h;injection j with j h3
  subst j;subst h3;exact AW.le (fun A=>Xq d A o (fun l h=>⟨rfl,h⟩))
 |drawn ops=>
  intro s e st' h k;simp only[EC] at h;obtain⟨r,o,j⟩:=kS h;injection j with j h3
  subst j;subst h3;exact AW.drawn (jW.mono (fun l h=>⟨rfl,h⟩) _ _ (aAz d ops s st' o))
 |seq a b f y=>
  intro s e st' h k;simp only[EC] at h;cases w:EC call G a (aE s) with
  |none=>rw[w] at h;cases h
  |some q=>
   obtain⟨B,r⟩:=q;rw[w] at h;refine AW.seq ((f s B r w k).mono ?_);rintro v l ⟨rfl,rfl⟩;cases v with
   |normal=>exact y l e st' h k
   |_=>simp only[Option.some.injEq,Prod.mk.injEq] at h;obtain⟨rfl,rfl⟩:=h;exact⟨rfl,rfl⟩
 |cond c a b f y=>
  intro s e st' h k;simp only[EC] at h;cases C:cO (aM G (aE s).sl c) with
  |none=>rw[C] at h;cases h
  |some t=>
   rw[C] at h;refine AW.cond C (fun E=>?_) (fun E=>?_)
   subst E;exact f s e st' h k;subst E;exact y s e st' h k
 |block id a f=>
  intro s e st' h k;simp only[EC] at h;cases w:EC call G a (aE s) with
  |none=>rw[w] at h;cases h
  |some q=>
   obtain⟨B,r⟩:=q;rw[w] at h;refine AW.block ((f s B r w k).mono ?_);rintro v l ⟨rfl,rfl⟩;cases v with
   |exit M=>
    simp only[Bk,aJ8] at h ⊢;split at h;rename_i x;simp only[Option.some.injEq,Prod.mk.injEq] at h;obtain⟨rfl,rfl⟩:=h;rw[if_pos x];exact⟨rfl,rfl⟩;rename_i x;simp only[Option.some.injEq,Prod.mk.injEq] at h;obtain⟨rfl,rfl⟩:=h;rw[if_neg x];exact⟨rfl,rfl⟩
   |_=>simp only[Bk,aJ8,Option.some.injEq,Prod.mk.injEq] at h;obtain⟨rfl,rfl⟩:=h;exact⟨rfl,rfl⟩
 |loop L a f=>
  intro s e st' h k;simp only[EC] at h;obtain⟨n,H⟩:=jZ h;have J:(aE s).hp.length=s.hp.length:=by simp[aE]
  rw[J,<- E4] at H;refine AW.le (fun A=>?_)
  refine AW.loopG (α:=Nat×AS) (fun z=>z.2) (fun z=>Lr (EC call G a) L s.hp.length z.1 (aE z.2)=some (e,st')) (fun z=>z.1) (n,kR L s.hp.length s) H (Pn L _ A s) (fun z u=>?_)
  obtain⟨i,r⟩:=z;cases i with
  |zero=>simp[Lr] at u
  |succ i=>
   simp only[Lr] at u;cases D:EC call G a (aE r) with
   |none=>rw[D] at u;cases u
   |some q=>
    obtain⟨B,O⟩:=q;rw[D] at u;refine (f r B O D k).mono ?_;rintro v l ⟨rfl,rfl⟩;cases v with
    |normal=>
     simp only[<- E4] at u;exact Ly.n (i,kR L s.hp.length l) u (Nat.lt_succ_self i) (Pn L _ A l)
    |_=>simp only[Option.some.injEq,Prod.mk.injEq] at u;obtain⟨rfl,rfl⟩:=u;unfold Ly;exact⟨rfl,rfl⟩
 |gh g a f=>
  intro s e st' h k;simp only[EC] at h;obtain⟨l,o,j⟩:=aPc (k:=k) g s;exact AW.ghost o (f l e st' (by rw[j];exact h) k)
 |trm L a f=>
  intro s e st' h k;simp only[EC] at h;refine AW.le (fun A=>?_)
  exact AW.ghost (Pn L _ A s) (f _ e st' (by rw[E4];simpa[aE] using h) k)
def Xr(P:Program)(T:HT):Prop:=∀f h,T.tab f=some h->Zv P f=true/\∃a,P.funcs[f]?=some a/\a.ntmps=h.nt/\a.body.bind (bU P)=some h.code.er/\a.results.toList.mapM (jR P)=some h.rs
theorem uR:∀(a:List Nat)(st:AS),(bV a st).hp.length=st.hp.length
 |[],st=>rfl
 | id::r,st=>by
   simp only[bV];split
   · rw[uR r];simp
   · exact uR r st
theorem Jr{n:Nat}{o:List aD}:(o.take n).map aQ=(o.map aQ).take n:=bAp
theorem aKl{T:HT}(Y:Xr P T)(n:cH P G call){f:FuncId}{h:HF}(hf:T.tab f=some h){c:List AV}{b:List aD}{M:AV}{o':List aD}(g:Xm call G h c (b.map aQ)=some (M,o')):Zv P f=true/\AC P G f c b fun a o=>a=M/\o.map aQ=o':=by
 obtain⟨ho,fn,U,V,W,X⟩:=Y f h hf;refine⟨ho,?_⟩;unfold Xm at g;cases C:EC call G h.code ⟨c++tF (h.nt-c.length),b.map aQ⟩ with
 |none=>rw[C] at g;cases g
 |some q=>
  obtain⟨e,r⟩:=q;rw[C] at g;simp only[qC,aZA] at g;split at g;rename_i j;cases I:tK r h.rs with
  |none=>rw[I] at g;cases g
  |some v=>
   rw[I] at g;simp only[Xl,Option.some.injEq] at g;have B:AC P G f c b (fun a o=>a=v/\o.map aQ=r.hp):=by
     refine AC.of_codeJ U V W X ((aNU n h.code ⟨c++tF (h.nt - c.length),b⟩ e r C b.length).mono ?_);rintro O s' ⟨rfl,rfl⟩;unfold Fin;refine⟨?_,by simpa[aE] using j.2,v,by rw[<- E0];exact I,rfl,rfl⟩;cases O<;>simp[Mz] at j ⊢
   unfold aO4 at g;cases l:h.own with
   |true=>
    rw[l,cond_true] at g;refine AC.nz ?_;cases d:(dH (fun id=>decide (b.length<=id)) v&&(r.hp.take b.length).all (pF fun id=>decide (b.length<=id))) with
    |true=>
     rw[d,cond_true] at g;simp only[Prod.mk.injEq] at g;obtain⟨rfl,rfl⟩:=g;simp only[aZQ] at d;refine B.gh (fun a o ⟨z,p⟩ F=>?_)
     subst z;refine⟨a,o.take b.length, ?_,by simp only[aZF];omega,rfl,by rw[Jr,p]⟩;have:=Gh.drop (k:=b.length) (as:=⟨[a],o⟩) b.length (aZE _);have S:(o.take b.length).map (cP fun id=>decide (b.length<=id))=o.take b.length:=by
       conv=>rhs;rw[<- List.map_id (o.take b.length)]
       refine aZZ (fun x hx=>Jb ?_)
       have:=bAW.1 d.2 (aQ x) (by rw[<- p,<- bAp];exact List.mem_map.2 ⟨x,hx,rfl⟩);rwa[uN] at this
     simpa[Ja d.1,S] using this
    |false=>
     rw[d,cond_false] at g;simp only[Prod.mk.injEq] at g;obtain⟨rfl,rfl⟩:=g;exact B.gh (fun a o ⟨z,p⟩ F=>⟨a,o,Gh.refl,F,by rw[z],p⟩)
   |false=>
    rw[l,cond_false] at g;simp only[Prod.mk.injEq] at g;obtain⟨rfl,rfl⟩:=g;refine AC.nz ?_;refine B.gh (fun a o ⟨z,p⟩ F=>?_)
    subst z;obtain⟨s0,t,H⟩:=aOT (k:=b.length) (aZE b.length) (jY a) ⟨[a],o⟩ (Xe a);obtain⟨A,u,hn⟩:=gC (k:=b.length) (jY a) s0;have E:=t.trans u;have i:aE A=bV (jY a) (bxW b.length (jY a) ⟨[a],r.hp⟩ (Xe a)):=by rw[hn,H];simp only[aE,p]
    have w:A.sl.length=1:=by
     have:=congrArg (fun q=>q.sl.length) i
     simp only[aE,mS,(aAe _ _ _ _).1] at this;simpa using this
    have Z:A.hp.length=o.length:=by
     have:=congrArg (fun q=>q.hp.length) i
     simp only[aE,uR,aZA,(aAe _ _ _ _).2] at this;rw[this,<- p,aZA]
    obtain⟨y,N⟩:=List.length_eq_one_iff.1 w;have D:=Gh.drop (k:=b.length) (as:=A) b.length (aZE _);have J:(bV (jY a) (bxW b.length (jY a) ⟨[a],r.hp⟩ (Xe a))).sl.getD 0 .junk=y:=by rw[<- i];simp[aE,N]
    refine⟨bF (fun id=>decide (b.length<=id)) y,(A.hp.take b.length).map (cP fun id=>decide (b.length<=id)),?_,by simp only[aZA,aZF];omega,by rw[J],?_⟩
    have:=E.trans D;rw[N] at this;simpa using this;rw[<- i,uM,Jr];simp[aE]
  cases g
theorem uS{T:HT}(e:Xr P T)(d:cH P G T.base):∀n,cH P G (callN G T n)
 |0=>fun f a hp c g h=>by simp[callN] at h
 | n+1=>fun f a hp c g h b i=>by
   subst i;rw[callN] at h;cases hf:T.tab f with
   | none=>rw[hf] at h;exact d f a _ c g h b rfl
   | some x=>rw[hf] at h;exact aKl e (uS e d n) hf h
theorem aAE{T:HT}(i:Xr P T)(g:cH P G T.base){f:FuncId}{b:List AV}{r:AV}(h:EV G T f b []=some (r,[])):QC P G f b r:=by
 obtain⟨n,j⟩:=jZ h;obtain⟨_,e⟩:=uS i g n f b [] r [] j [] rfl;exact e.gh (fun a o ⟨c,d⟩ _=>⟨a,o,Gh.refl,aZX _,c,by simpa using d⟩)
