/- The evaluator's answers are contracts. Conditions: none. -/
import Derived.Test.YthepfneloomngaaGreatDoorNa
namespace Go.Proofs.YthepfneloomngaaGreatDoor
set_option linter.unusedSimpArgs false
set_option linter.unusedVariables false
section
section
variable {α:Type}
theorem T8{f:Nat->Option α}(hm:∀n r,f n=some r->f (n+1)=some r){n:Nat}{r:α}(h:f n=some r):lim f=some r:=by
 have mono:∀n r,f n=some r->∀m,n<=m->f m=some r:=by
  intro n r h m hle
  induction m with
  |zero=>simp at hle;subst hle;exact h
  |succ m ih=>
   by_cases he:n=m+1;subst he;exact h;exact hm _ _ (ih (by omega))
 have hx:∃n r,f n=some r:=⟨n,r,h⟩;unfold lim;rw[dif_pos hx];obtain⟨r',hr'⟩:=hx.choose_spec;have h1:=mono _ _ hr' (max hx.choose n) (Nat.le_max_left _ _);have h2:=mono _ _ h (max hx.choose n) (Nat.le_max_right _ _);rw[hr',<- h1,h2]
theorem iN{f:Nat->Option α}{r:α}(h:lim f=some r):∃n,f n=some r:=by
 unfold lim at h;split at h;exact⟨_,h⟩;cases h
end
section
variable {run:AS->Option (Exit×AS)}{L:List Nat}{m:Nat}
theorem Hm:∀(n:Nat) (st:AS) r,Jr run L m n st=some r->Jr run L m (n+1) st=some r
 |0,st,r,h=>by simp[Jr] at h
 | n+1,st,r,h=>by
   rw[Jr] at h ⊢;split at h
   · exact Hm n _ r h
   · exact h
theorem Bi{n:Nat}{st:AS}{r:Exit×AS}(h:Jr run L m n st=some r):zU run L m st=some r:=T8 (fun n r h=>Hm n st r h) h
theorem aDv(st:AS){s:AS}(h:run st=some (.normal,s)):zU run L m st=zU run L m (jY L m s):=by
 have e:∀n,Jr run L m (n+1) st=Jr run L m n (jY L m s):=fun n=>by rw[Jr,h]
 cases hr:zU run L m (jY L m s) with
 |some r=>
  obtain⟨n,hn⟩:=iN hr;exact Bi (n:=n+1) (by rw[e];exact hn)
 |none=>
  cases hl:zU run L m st with
  |none=>rfl
  |some r=>
   obtain⟨n,hn⟩:=iN hl;have:zU run L m (jY L m s)=some r:=Bi (n:=n) (by rw[<- e];exact Hm _ _ _ hn);rw[hr] at this;cases this
theorem aAK{st:AS}{e:Exit}{s:AS}(h:run st=some (e,s))(he:e≠.normal):zU run L m st=some (e,s):=by
 refine Bi (n:=1) ?_;rw[Jr,h];split;rename_i h1;injection h1 with h1;injection h1 with h1;exact absurd h1 he
 rfl
end
def Fp(calls:Nat->aO)(call:aO):Prop:=∀f a hp r,call f a hp=some r->∃n,∀m,n<=m->calls m f a hp=some r
section
variable {calls:Nat->aO}{call:aO}{G:aE}
theorem Wz(hs:Fp calls call){d:Option Nat}{f:FuncId}{xs:List aH}{st s:AS}(h:T1 call G d f xs st=some s):∃n,∀m,n<=m->T1 (calls m) G d f xs st=some s:=by
 unfold T1 at *;cases hk:(jF G st.sl xs).all (cV fun _=>true) with
 |false=>rw[hk] at h;cases h
 |true=>
  rw[hk] at h;simp only[cond_true] at h ⊢;cases hc:call f (jF G st.sl xs) [] with
  |none=>rw[hc] at h;cases h
  |some r=>
   obtain⟨n,hn⟩:=hs _ _ _ _ hc;rw[hc] at h;exact⟨n,fun m hm=>by rw[hn m hm];exact h⟩
theorem W0(hs:Fp calls call){d:Option Nat}{f:FuncId}{xs:List aH}{st s:AS}(h:dnZ call G d f xs st=some s):∃n,∀m,n<=m->dnZ (calls m) G d f xs st=some s:=by
 unfold dnZ at *;cases hk:(jF G st.sl xs).all (cV fun _=>true) with
 |false=>rw[hk] at h;cases h
 |true=>
  rw[hk] at h;simp only[cond_true] at h ⊢;cases hc:call f (jF G st.sl xs) [] with
  |none=>rw[hc] at h;cases h
  |some r=>
   obtain⟨n,hn⟩:=hs _ _ _ _ hc;rw[hc] at h;exact⟨n,fun m hm=>by rw[hn m hm];exact h⟩
theorem aH0(hs:Fp calls call){d:Option Nat}{f:FuncId}{xs:List aH}{st s:AS}(h:vwK call G d f xs st (call f (Ex G st xs) [])=some s):
  ∃n,∀m,n<=m->vwK (calls m) G d f xs st (calls m f (Ex G st xs) [])=some s:=by
 cases hc:call f (Ex G st xs) [] with
 |none=>rw[hc] at h;cases h
 |some r=>
  rw[hc] at h;obtain⟨n,hn⟩:=hs _ _ _ _ hc;obtain⟨av,os⟩:=r;cases os with
  |nil=>
   simp only[vwK] at h;cases hr:lI av with
   |true=>rw[hr] at h;exact⟨n,fun m hm=>by rw[hn m hm];simp only[vwK,hr];exact h⟩
   |false=>
    rw[hr] at h;obtain⟨n2,hn2⟩:=Wz hs h;exact⟨max n n2,fun m hm=>by rw[hn m (by omega)];simp only[vwK,hr];exact hn2 m (by omega)⟩
  |cons o os=>
   obtain⟨n2,hn2⟩:=Wz hs (st:=bU (lJ G st.sl xs) st) h;exact⟨max n n2,fun m hm=>by rw[hn m (by omega)];exact hn2 m (by omega)⟩
theorem aH1(hs:Fp calls call){d:Option Nat}{f:FuncId}{xs:List aH}{st s:AS}(h:dvK call G d f xs st (call f (Bf G st xs) [])=some s):
  ∃n,∀m,n<=m->dvK (calls m) G d f xs st (calls m f (Bf G st xs) [])=some s:=by
 cases hc:call f (Bf G st xs) [] with
 |none=>rw[hc] at h;cases h
 |some r=>
  rw[hc] at h;obtain⟨n,hn⟩:=hs _ _ _ _ hc;obtain⟨av,os⟩:=r;cases os with
  |nil=>
   simp only[dvK] at h;cases hr:lI av with
   |true=>rw[hr] at h;exact⟨n,fun m hm=>by rw[hn m hm];simp only[dvK,hr];exact h⟩
   |false=>
    rw[hr] at h;obtain⟨n2,hn2⟩:=W0 hs h;exact⟨max n n2,fun m hm=>by rw[hn m (by omega)];simp only[dvK,hr];exact hn2 m (by omega)⟩
  |cons o os=>
   obtain⟨n2,hn2⟩:=W0 hs (st:=st) h;exact⟨max n n2,fun m hm=>by rw[hn m (by omega)];exact hn2 m (by omega)⟩
theorem Ah(hs:Fp calls call){d:Option Nat}{f:FuncId}{avs:List AV}{st s:AS}(h:kG call d f avs st=some s):∃n,∀m,n<=m->kG (calls m) d f avs st=some s:=by
 unfold kG at *;simp only at h ⊢;split at h;rename_i hk;simp only[hk,if_true];obtain⟨r,h1,h2⟩:=Option.map_eq_some_iff.1 h;obtain⟨n,hn⟩:=hs _ _ _ _ h1;exact⟨n,fun m hm=>by rw[hn m hm];exact congrArg some h2⟩
 cases h
theorem qZ(hs:Fp calls call):Fp (fun n=>kI (calls n)) (kI call):=fun f a hp r h=>hs f (a.map Ev) hp r h
theorem aH2(hs:Fp calls call){d:Option Nat}{f:FuncId}{xs:List aH}{st s:AS}(h:clZ call G d f xs st=some s):∃n,∀m,n<=m->clZ (calls m) G d f xs st=some s:=by
 unfold clZ at *;cases hp:qY G st.sl xs with
 |true=>rw[hp] at h;exact aH0 hs h
 |false=>rw[hp] at h;exact Ah (qZ hs) h
theorem W4(hs:Fp calls call){d:Option Nat}{x:aH}{xs:List aH}{st s:AS}(h:cvZ call G d x xs st=some s):∃n,∀m,n<=m->cvZ (calls m) G d x xs st=some s:=by
 unfold cvZ at *;unfold cvK at *;split at h;exact Ah (qZ hs) h;cases h
theorem W5(hs:Fp calls call){st s:AS}{l:List aN}{d:Option Nat}{ai:AI}(h:lK call G st l d ai=some s):∃n,∀m,n<=m->lK (calls m) G st l d ai=some s:=by
 cases ai with
 |call f xs=>exact aH2 hs h
 |callv x xs=>exact W4 hs h
 |_=>exact⟨0,fun _ _=>h⟩
theorem W6(hs:Fp calls call){st s:AS}{l:List aN}{d:Option Nat}{ai:AI}{g:Option (Nat×Bool)}(h:T4 call G st l d ai g=some s):∃n,∀m,n<=m->T4 (calls m) G st l d ai g=some s:=by
 cases g with
 |none=>exact W5 hs h
 |some g=>
  simp only[T4] at h ⊢;cases hg:gK g.2 (aK G st.sl (.t g.1)) with
  |none=>rw[hg] at h;cases h
  |some b=>
   rw[hg] at h;cases b with
   |true=>exact W5 hs h
   |false=>exact⟨0,fun _ _=>h⟩
theorem W7(hs:Fp calls call):∀(l:List aN) (st s:AS),evR call G l (some st)=some s->∃n,∀m,n<=m->evR (calls m) G l (some st)=some s
 |[],st,s,h=>⟨0,fun _ _=>h⟩
 | o::l,st,s,h=>by
   simp only[evR] at h ⊢;cases ho:T4 call G st l o.dst o.ai o.guard with
   | none=>rw[ho] at h;cases l<;>cases h
   | some s1=>
     rw[ho] at h;obtain⟨n1,h1⟩:=W6 hs ho;obtain⟨n2,h2⟩:=W7 hs l s1 s h;exact⟨max n1 n2,fun m hm=>by rw[h1 m (by omega)];exact h2 m (by omega)⟩
theorem W8(hs:Fp calls call){L:List Nat}{st s:AS}{l:List aN}{d:Option Nat}{ai:AI}{g:Option (Nat×Bool)}{b:Bool}(h:Hk call G L st l d ai g b=some s):∃n,∀m,n<=m->Hk (calls m) G L st l d ai g b=some s:=by
 cases b with
 |false=>exact W6 hs h
 |true=>
  cases ai with
  |call f xs=>
   simp only[Hk,P7] at h ⊢;cases hb:Mv L (f+100000) with
   |false=>rw[hb] at h;exact Ah (qZ hs) h
   |true=>
    rw[hb] at h;simp only[aDs] at h ⊢;cases hc:call f (Bf G st xs) [] with
    |none=>rw[hc] at h;cases h
    |some r=>
     obtain⟨n,hn⟩:=hs _ _ _ _ hc;rw[hc] at h;exact⟨n,fun m hm=>by rw[hn m hm];exact h⟩
  |mk=>exact⟨0,fun _ _=>h⟩
  |cvsb=>exact⟨0,fun _ _=>h⟩
  |_=>cases h
theorem P9(hs:Fp calls call){L:List Nat}:∀(l:List aN) (st s:AS),Ey call G L l (some st)=some s->∃n,∀m,n<=m->Ey (calls m) G L l (some st)=some s
 |[],st,s,h=>⟨0,fun _ _=>h⟩
 | o::l,st,s,h=>by
   simp only[Ey] at h ⊢;cases ho:Hk call G L st l o.dst o.ai o.guard (jU L o.ai o.guard) with
   | none=>rw[ho] at h;cases l<;>cases h
   | some s1=>
     rw[ho] at h;obtain⟨n1,h1⟩:=W8 hs ho;obtain⟨n2,h2⟩:=P9 hs l s1 s h;exact⟨max n1 n2,fun m hm=>by rw[h1 m (by omega)];exact h2 m (by omega)⟩
theorem Hn{n0:Nat}{a b:Option AS}{s:AS}(h:Eb n0 a b=some s):a=some s/\∃s' p,b=some s'/\pOK n0 s'.hp.length p/\prm p s'=s:=by
 unfold Eb at h;split at h;rename_i e;obtain⟨s1,s',p,h1,h2,h3,h4⟩:=e;rw[h1] at h;injection h with h;subst h;exact⟨h1,s',p,h2,h3,h4⟩
 cases h
theorem Qa{n0:Nat}{a b:Option AS}{s s':AS}{p:List (Nat×Nat)}(h1:a=some s)(h2:b=some s')(h3:pOK n0 s'.hp.length p)(h4:prm p s'=s):Eb n0 a b=some s:=by
 unfold Eb;rw[if_pos ⟨s,s',p,h1,h2,h3,h4⟩,h1]
theorem aH3(hs:Fp calls call){L:List Nat}{n0:Nat}{ops:List aN}:∀(t:IT) (st s:AS),Ec call G L n0 ops t (some st)=some s->∃n,∀m,n<=m->Ec (calls m) G L n0 ops t (some st)=some s:=by
 have node:∀(t:IT),(∀(st s:AS),Ec call G L n0 ops t (some st)=some s->∃n,∀m,n<=m->Ec (calls m) G L n0 ops t (some st)=some s)->∀(st s:AS) (i:Nat),
   Ec call G L n0 ops t (Hk call G L st ops (gY ops i).dst (gY ops i).ai (gY ops i).guard (jU L (gY ops i).ai (gY ops i).guard))=some s->
   ∃n,∀m,n<=m->Ec (calls m) G L n0 ops t (Hk (calls m) G L st ops (gY ops i).dst (gY ops i).ai (gY ops i).guard (jU L (gY ops i).ai (gY ops i).guard))=some s:=by
  intro t ih st s i h;cases ho:Hk call G L st ops (gY ops i).dst (gY ops i).ai (gY ops i).guard (jU L (gY ops i).ai (gY ops i).guard) with
  |none=>rw[ho] at h;cases t<;>cases h
  |some s1=>
   rw[ho] at h;obtain⟨n1,h1⟩:=W8 hs ho;obtain⟨n2,h2⟩:=ih s1 s h;exact⟨max n1 n2,fun m hm=>by rw[h1 m (by omega)];exact h2 m (by omega)⟩
 intro t
 induction t with
 |nil=>exact fun st s h=>⟨0,fun _ _=>h⟩
 |stop=>exact fun st s h=>by cases h
 |st i t ih=>exact fun st s h=>node t ih st s i h
 |br i t r iht ihr=>
  intro st s h;simp only[Ec] at h ⊢;cases hr:Mh r with
  |true=>rw[hr] at h;exact node t iht st s i h
  |false=>
   rw[hr] at h;obtain⟨h1,s',p,h2,h3,h4⟩:=Hn h;obtain⟨n1,g1⟩:=node t iht st s i h1;obtain⟨n2,g2⟩:=ihr st s' h2;exact⟨max n1 n2,fun m hm=>Qa (g1 m (by omega)) (g2 m (by omega)) h3 h4⟩
theorem Mw(hs:Fp calls call){st s:AS}{q:Bool}{d:Option Nat}{ai:AI}(h:drZ call G st d ai q=some s):∃n,∀m,n<=m->drZ (calls m) G st d ai q=some s:=by
 cases q with
 |true=>
  simp only[drZ] at h ⊢;cases ai with
  |call f xs=>
   simp only[Bg] at h ⊢;cases hk:(jF G st.sl xs).all (cV fun _=>true) with
   |false=>rw[hk] at h;cases h
   |true=>
    rw[hk] at h;simp only[cond_true] at h ⊢;cases hc:call f (jF G st.sl xs) [] with
    |none=>rw[hc] at h;cases h
    |some r=>
     obtain⟨n,hn⟩:=hs _ _ _ _ hc;rw[hc] at h;exact⟨n,fun m hm=>by rw[hn m hm];exact h⟩
  |_=>exact⟨0,fun _ _=>h⟩
 |false=>
  simp only[drZ] at h ⊢;cases ai with
  |call f xs=>exact aH1 hs h
  |callv x xs=>exact W4 hs h
  |_=>exact⟨0,fun _ _=>h⟩
theorem aH4(hs:Fp calls call){st s:AS}{q:Bool}{d:Option Nat}{ai:AI}{g:Option (Nat×Bool)}(h:drO call G st q d ai g=some s):∃n,∀m,n<=m->drO (calls m) G st q d ai g=some s:=by
 cases g with
 |none=>exact Mw hs h
 |some g=>
  simp only[drO] at h ⊢;cases hg:gK g.2 (aK G st.sl (.t g.1)) with
  |none=>rw[hg] at h;cases h
  |some b=>
   rw[hg] at h;cases b with
   |true=>exact Mw hs h
   |false=>exact⟨0,fun _ _=>h⟩
theorem Qb(hs:Fp calls call):∀(l:List (Bool×aN)) (st s:AS),Ez call G l (some st)=some s->∃n,∀m,n<=m->Ez (calls m) G l (some st)=some s
 |[],st,s,h=>⟨0,fun _ _=>h⟩
 | o::l,st,s,h=>by
   simp only[Ez] at h ⊢;cases ho:drO call G st o.1 o.2.dst o.2.ai o.2.guard with
   | none=>rw[ho] at h;cases l<;>cases h
   | some s1=>
     rw[ho] at h;obtain⟨n1,h1⟩:=aH4 hs ho;obtain⟨n2,h2⟩:=Qb hs l s1 s h;exact⟨max n1 n2,fun m hm=>by rw[h1 m (by omega)];exact h2 m (by omega)⟩
theorem jZ{x:Option AS}{r:Exit×AS}(h:nrm x=some r):∃s,x=some s/\r=(.normal,s):=by
 cases x with
 |none=>cases h
 |some s=>injection h with h;exact⟨s,rfl,h.symm⟩
theorem aH5{R:List Nat}{x:Nat->Option AS}{y:Option AS}{q:AS×FP}(h:S4 R y=some q)(hx:∀s,y=some s->∃n,∀m,n<=m->x m=some s):∃n,∀m,n<=m->S4 R (x m)=some q:=by
 cases y with
 |none=>cases h
 |some s=>
  obtain⟨n,hn⟩:=hx s rfl;exact⟨n,fun m hm=>by rw[hn m hm];exact h⟩
theorem W9(hs:Fp calls call){st:AS}{d:Option Nat}{r:Nat}{ai:AI}{q:AS×FP}(h:Jx call G st d r ai=some q):∃n,∀m,n<=m->Jx (calls m) G st d r ai=some q:=by
 cases ai with
 |call f xs=>
  simp only[Jx] at h ⊢;generalize (xs.map (aK G st.sl)).flatMap jE=J at h ⊢
  match J with
  |[]=>exact aH5 (x:=fun m=>Bg (calls m) G st d (.call f xs)) h (fun s hq=>Mw hs (show drZ call G st d (.call f xs) true=some s from hq))
  |[id]=>
   simp only[fvC] at h ⊢;unfold fvB at h ⊢;split at h;rename_i cs _;cases hk:(keepL (fun _=>true) cs&&(xs.map (aK G st.sl)).all (cV (kF [id]))) with
   |false=>rw[hk] at h;cases h
   |true=>
    rw[hk] at h;simp only[cond_true] at h ⊢;cases hc:kI call f ((xs.map (aK G st.sl)).map (cY (lE [id]))) [.box cs] with
    |none=>rw[hc] at h;cases h
    |some q=>
     obtain⟨n,hn⟩:=qZ hs _ _ _ _ hc;refine⟨n,fun m hm=>?_⟩
     have h':=hn m hm;simp only at h';rw[h',<- hc];exact h
   cases h
  |_::_::_=>cases h
 |alloc z=>exact⟨0,fun _ _=>h⟩
 |store size x v=>exact⟨0,fun _ _=>h⟩
 |cpys x y=>exact⟨0,fun _ _=>h⟩
 |_=>exact⟨0,fun _ _=>h⟩
theorem aH6(hs:Fp calls call){st:AS}{d:Option Nat}{r:Nat}{ai:AI}{g:Option (Nat×Bool)}{q:AS×FP}(h:fvO call G st d r ai g=some q):∃n,∀m,n<=m->fvO (calls m) G st d r ai g=some q:=by
 cases g with
 |none=>exact W9 hs h
 |some g=>
  simp only[fvO] at h ⊢;cases hg:gK g.2 (aK G st.sl (.t g.1)) with
  |none=>rw[hg] at h;cases h
  |some b=>
   rw[hg] at h;cases b with
   |true=>exact W9 hs h
   |false=>exact⟨0,fun _ _=>h⟩
theorem Xa(hs:Fp calls call){prs:List (Nat×Nat)}:∀(l:List aN) (acc:List FP) (r:Nat) (st s:AS),T5 call G prs acc r l (some st)=some s->∃n,∀m,n<=m->T5 (calls m) G prs acc r l (some st)=some s
 |[],acc,r,st,s,h=>⟨0,fun _ _=>h⟩
 | o::l,acc,r,st,s,h=>by
   simp only[T5] at h ⊢;cases ho:fvO call G st o.dst r o.ai o.guard with
   | none=>rw[ho] at h;cases h
   | some q=>
     obtain⟨s1,f⟩:=q;rw[ho] at h;obtain⟨n1,h1⟩:=aH6 hs ho;obtain⟨n2,h2⟩:=Xa hs l _ _ s1 s h;exact⟨max n1 n2,fun m hm=>by rw[h1 m (by omega)];exact h2 m (by omega)⟩
theorem Xb{runs:Nat->AS->Option (Exit×AS)}{run:AS->Option (Exit×AS)}(hr:∀st r,run st=some r->∃n,∀m,n<=m->runs m st=some r){L:List Nat}{k:Nat}:∀(i:Nat) (st:AS) r,Jr run L k i st=some r->∃n,∀m,n<=m->Jr (runs m) L k i st=some r
 |0,st,r,h=>by simp[Jr] at h
 | i+1,st,r,h=>by
   simp only[Jr] at h;cases hrun:run st with
   | none=>rw[hrun] at h;cases h
   | some q=>
     obtain⟨n1,h1⟩:=hr _ _ hrun;rw[hrun] at h;obtain⟨e,s⟩:=q;cases e with
     | normal=>
       simp only at h;obtain⟨n2,h2⟩:=Xb hr i _ r h;exact⟨max n1 n2,fun m hm=>by rw[Jr,h1 m (by omega)];exact h2 m (by omega)⟩
     | _=>exact⟨n1,fun m hm=>by rw[Jr,h1 m hm];exact h⟩
theorem aNf(hs:Fp calls call):∀(c:HC) (st:AS) r,EC call G c st=some r->∃n,∀m,n<=m->EC (calls m) G c st=some r:=by
 intro c
 induction c with
 |skip=>exact fun st r h=>⟨0,fun _ _=>h⟩
 |ret=>exact fun st r h=>⟨0,fun _ _=>h⟩
 |exit id=>exact fun st r h=>⟨0,fun _ _=>h⟩
 |region ops=>
  intro st r h;simp only[EC] at h ⊢;obtain⟨s,h1,rfl⟩:=jZ h;obtain⟨n,hn⟩:=W7 hs ops st s h1;exact⟨n,fun m hm=>by rw[hn m hm];rfl⟩
 |regR L ops=>
  intro st r h;simp only[EC] at h ⊢;obtain⟨s,h1,rfl⟩:=jZ h;obtain⟨n,hn⟩:=P9 hs ops st s h1;exact⟨n,fun m hm=>by rw[hn m hm];rfl⟩
 |drawnT L t ops=>
  intro st r h;simp only[EC] at h ⊢;obtain⟨s,h1,rfl⟩:=jZ h;obtain⟨n,hn⟩:=aH3 hs t st s h1;exact⟨n,fun m hm=>by rw[hn m hm];rfl⟩
 |drawnF prs ops=>
  intro st r h;simp only[EC] at h ⊢;obtain⟨s,h1,rfl⟩:=jZ h;obtain⟨n,hn⟩:=Xa hs ops _ _ _ s h1;exact⟨n,fun m hm=>by rw[hn m hm];rfl⟩
 |drawn ops=>
  intro st r h;simp only[EC] at h ⊢;obtain⟨s,h1,rfl⟩:=jZ h;obtain⟨n,hn⟩:=Qb hs ops st s h1;exact⟨n,fun m hm=>by rw[hn m hm];rfl⟩
 |seq a b iha ihb=>
  intro st r h;simp only[EC] at h ⊢;cases ha:EC call G a st with
  |none=>rw[ha] at h;cases h
  |some q=>
   obtain⟨n1,h1⟩:=iha _ _ ha;rw[ha] at h;obtain⟨e,s⟩:=q;cases e with
   |normal=>
    obtain⟨n2,h2⟩:=ihb s r h;exact⟨max n1 n2,fun m hm=>by rw[h1 m (by omega)];exact h2 m (by omega)⟩
   |_=>exact⟨n1,fun m hm=>by rw[h1 m hm];exact h⟩
 |cond c a b iha ihb=>
  intro st r h;simp only[EC] at h ⊢;cases hb:cH (aK G st.sl c) with
  |none=>rw[hb] at h;cases h
  | some t=>rw[hb] at h;cases t with
    | true=>exact iha st r h
    | false=>exact ihb st r h
 |block id a iha=>
  intro st r h;simp only[EC] at h ⊢;cases ha:EC call G a st with
  |none=>rw[ha] at h;cases h
  |some q=>
   obtain⟨n1,h1⟩:=iha _ _ ha;rw[ha] at h;exact⟨n1,fun m hm=>by rw[h1 m hm];exact h⟩
 |loop L a iha=>
  intro st r h;simp only[EC] at h ⊢;obtain⟨i,hi⟩:=iN h;obtain⟨n,hn⟩:=Xb (runs:=fun m=>EC (calls m) G a) (fun st r h=>iha st r h) i _ r hi
  exact⟨n,fun m hm=>Bi (hn m hm)⟩
 |gh g a iha=>exact fun st r h=>iha _ r h
 |trm L a iha=>exact fun st r h=>iha _ r h
 |bad=>intro st r h;cases h
theorem Ho(hs:Fp calls call){h:HF}{args:List AV}{hp:List aC}{r:AV×List aC}(he:T7 call G h args hp=some r):∃n,∀m,n<=m->T7 (calls m) G h args hp=some r:=by
 unfold T7 at *;cases hc:EC call G h.code ⟨args++rS (h.nt-args.length),hp⟩ with
 |none=>rw[hc] at he;cases he
 |some q=>
  obtain⟨n,hn⟩:=aNf hs _ _ _ hc;rw[hc] at he;exact⟨n,fun m hm=>by rw[hn m hm];exact he⟩
theorem rA{T:HT}:∀(n:Nat) (f:FuncId) (args:List AV) (hp:List aC) (r:AV×List aC),callN G T n f args hp=some r->callN G T (n+1) f args hp=some r
 |0,f,args,hp,r,h=>by simp[callN] at h
 | n+1,f,args,hp,r,h=>by
   rw[callN] at h ⊢;cases hT:T.tab f with
   | none=>rw[hT] at h;exact h
   | some x=>
     rw[hT] at h;obtain⟨m,hm⟩:=Ho (calls:=fun _=>callN G T (n+1)) (fun f a hp r h=>⟨0,fun _ _=>rA n f a hp r h⟩) h
     exact hm m (aXF _)
theorem aAL(T:HT):Fp (callN G T) (EV G T):=by
 intro f a hp r h;obtain⟨n,hn⟩:=iN h;refine⟨n,fun m hm=>?_⟩
 induction m with
 |zero=>simp at hm;subst hm;exact hn
 |succ m ih=>
  by_cases he:n=m+1;subst he;exact hn;exact rA _ _ _ _ _ (ih (by omega))
theorem aLO{T:HT}{f:FuncId}{h:HF}{args:List AV}{hp:List aC}{r:AV×List aC}(hT:T.tab f=some h)(he:T7 (EV G T) G h args hp=some r):EV G T f args hp=some r:=by
 obtain⟨n,hn⟩:=Ho (aAL T) he;refine T8 (n:=n+1) (fun n r h=>rA n f args hp r h) ?_
 rw[callN,hT];exact hn n (aXF _)
theorem gP{T:HT}{f:FuncId}{args:List AV}{hp:List aC}{r:AV×List aC}(hT:T.tab f=none)(he:T.base f args hp=some r):EV G T f args hp=some r:=by
 refine T8 (n:=1) (fun n r h=>rA n f args hp r h) ?_
 rw[callN,hT];exact he
end
end
section
section
variable {P:Program}{G:aE}{k:Nat}{st st' s:AS}{K R Q:AS->Prop}{call:aO}
theorem AC.nzArgs{f:FuncId}{args:List AV}{objs:List aC}{Q:AV->List aC->Prop}(h:AC P G f (args.map Ev) objs Q):AC P G f args objs Q:=
 fun F γ vs w hi hg hv=>h F γ vs w hi hg ⟨by simpa using hv.1,fun i av v h1 h2=>by
   rw[aXI] at h1;obtain⟨a0,h3,rfl⟩:=Option.map_eq_some_iff.1 h1;exact aDd (hv.2 i a0 v h3 h2)⟩
theorem Hp{p:Nat->Bool}(c:aT):(nzC c).keep p=c.keep p:=by
 unfold nzC;split;simp[aT.keep];simp[aT.keep];rfl
theorem Hq{p:Nat->Bool}:∀(cs:List aT),keepL p (cs.map nzC)=keepL p cs
 |[]=>rfl
 |c::cs=>by simp[keepL,Hp,Hq cs]
theorem Bj{p:Nat->Bool}(v:AV):cV p (Ev v)=cV p v:=by
 cases v with
 |one c=>simp only[Ev,cV,Hp]
 |agg cs=>simp only[Ev,cV,Hq]
 |tup l=>
  simp only[Ev,cV,List.all_map];congr 1;funext t;cases t with
  |one c=>simp only[Function.comp_apply,nzT,Ea,Hp]
  |agg cs=>simp only[Function.comp_apply,nzT,Ea,Hq]
 |junk=>rfl
theorem mZ{sl:List AV}:∀xs:List aH,jF G sl xs=(xs.map (aK G sl)).map Ev
 |[]=>rfl
 |x::xs=>by simp[jF,mZ xs]
theorem Xc:∀xs:List aH,Ex G st xs=(xs.map fun x=>vwA st.hp (aK G st.sl x)).map Ev
 |[]=>rfl
 |x::xs=>by simp[Ex,Xc xs]
theorem tF{hp:List aC}(c:aT):Wu (hp.map aP) c=Wu hp c:=by
 cases c<;>simp only[Wu];rw[bI];cases aI hp _<;>rfl
theorem aDw{hp:List aC}(v:AV):vwA (hp.map aP) v=vwA hp v:=by
 cases v<;>simp only[vwA,tF];congr 1;exact aXZ (fun c _=>tF c)
theorem Qd{hp:List aC}(c:aT):vwN (hp.map aP) c=vwN hp c:=by unfold vwN;rw[tF]
theorem aDx{hp:List aC}{off:Nat}(o:aC):vpP (hp.map aP) off (aP o)=vpP hp off o:=by
 cases o<;>simp only[aP,vpP,Mo];congr 2;exact aXZ (fun c _=>Qd c)
theorem aDy{hp:List aC}(c:aT):vwM (hp.map aP) c=vwM hp c:=by
 cases c<;>simp only[vwM,Qd];rw[bI,aDx]
theorem Qf{hp:List aC}(c:aT):vp0 (hp.map aP) c=vp0 hp c:=by
 cases c<;>simp only[vp0,tF];rw[bI];cases aI hp _<;>simp only[aP,vqP,Mq];congr 2;exact aXZ (fun c _=>aDy c)
theorem aDz{hp:List aC}(c:aT):vpC (hp.map aP) c=vpC hp c:=by
 cases c<;>simp only[vpC,Qf,Mp];congr 1;exact aXZ (fun c _=>Qf c)
theorem aDA{hp:List aC}(v:AV):vpA (hp.map aP) v=vpA hp v:=by
 cases v<;>simp only[vpA,aDz];congr 1;exact aXZ (fun c _=>tF c)
theorem Xd:∀xs:List aH,Bf G st xs=(xs.map fun x=>vpA st.hp (aK G st.sl x)).map Ev
 |[]=>rfl
 |x::xs=>by simp[Bf,Xd xs]
theorem Qg{o:aN}(h:exX G (aD s) o=some st'):∃s',exX G s o=some s'/\aD s'=st':=by
 obtain⟨d,ai,g⟩:=o;have pure:((cX G (aD s) ai).map fun v=>(⟨aQ (aD s).sl d v,(aD s).hp⟩:AS))=some st'->∃ s',((cX G s ai).map fun v=>(⟨aQ s.sl d v,s.hp⟩:AS))=some s'/\aD s'=st':=by
   intro h;rw[pV] at h;obtain⟨v,h1,rfl⟩:=Option.map_eq_some_iff.1 h;exact⟨_,by rw[h1];rfl,rfl⟩
 cases ai<;>try exact pure h
 case alloc z=>
  simp only[exX,Option.some.injEq] at h ⊢;exact⟨_,rfl,by rw[<- h];simp[aD,aP]⟩
 case box x=>
  simp only[exX] at h ⊢;obtain⟨cs,h1,rfl⟩:=Option.map_eq_some_iff.1 h;rw[show (aD s).sl=s.sl from rfl] at h1
  exact⟨_,by rw[h1];rfl,by simp[aD,aP]⟩
 case store size x v=>
  simp only[exX] at h ⊢;cases d with
  |some d=>cases h
  |none=>
   simp only[stX,show (aD s).sl=s.sl from rfl] at h ⊢
   split at h;rename_i id off hx;split at h;rename_i vs hv;split at h;rename_i cs hb;rw[aD,bI] at hb;split at h;rename_i hc;injection h with h
   simp only[pW hb,if_pos hc];exact⟨_,rfl,by rw[<- h];simp[aD,aP,aYa]⟩;cases h;cases h;cases h;rename_i id i z off hx;split at h;rename_i ds hv;split at h;rename_i c z' es hb;rw[aD,bI] at hb;obtain⟨cap,hb2,rfl⟩:=nQ hb;split at h;rename_i e he;split at h;rename_i hc;injection h with h
   simp only[hb2,he,if_pos hc];exact⟨_,rfl,by rw[<- h];simp[aD,aP,aYa]⟩;cases h;cases h;cases h;cases h;cases h
 case bslc size len z ps=>
  simp only[exX,bsX] at h ⊢;cases len with
  |zero=>
   simp only at h ⊢;split at h;rename_i he;injection h with h
   simp only[if_pos he];exact⟨_,rfl,by rw[<- h];simp[aD,aP]⟩;cases h
  |succ len=>
   simp only at h ⊢;obtain⟨cs,h1,h⟩:=aYu.1 h;obtain⟨ds,h2,h⟩:=aYu.1 h;rw[show (aD s).sl=s.sl from rfl] at h1
   split at h;rename_i hl;injection h with h
   exact⟨⟨aQ s.sl d (vl (fE size (len+1) ds)),s.hp⟩,by rw[h1];simp only[aXP,h2,if_pos hl],by rw[<- h];simp[aD]⟩;cases h
theorem C9{size:Nat}:∀{es:List (List DC)},gE size es=true->∀e∈es,e.length=size
 |[],_=>by simp
 | x::es,h=>by
   simp only[gE,aXQ,iM,beq_iff_eq] at h;intro e he;rcases aYR.1 he with rfl | he
   · exact h.1
   · exact C9 h.2 e he
theorem aDB(id:Nat)(c:aT):klC id c=cG (·==id) c:=by
 cases c<;>simp only[klC,cG,aT.keep,iM,if_true]
 case ptr j o=>
  by_cases h:j=id;simp[h];simp[h,(beq_eq_false_iff_ne.2 h:(j==id)=false)]
 case bld j n=>
  by_cases h:j=id;simp[h];simp[h,(beq_eq_false_iff_ne.2 h:(j==id)=false)]
 case ept j i s o=>
  by_cases h:j=id;simp[h];simp[h,(beq_eq_false_iff_ne.2 h:(j==id)=false)]
 case bls j i s o=>
  by_cases h:j=id;simp[h];simp[h,(beq_eq_false_iff_ne.2 h:(j==id)=false)]
theorem Fq(id:Nat):∀cs,Tz id cs=cs.map (cG (·==id))
 |[]=>rfl
 |c::cs=>by simp[Tz,aDB,Fq id cs]
theorem aNg(id:Nat)(v:AV):klV id v=bD (·==id) v:=by
 cases v<;>simp only[klV,bD,aDB,Fq]
theorem aDC(id:Nat):∀l,klS id l=l.map (bD (·==id))
 |[]=>rfl
 |c::cs=>by simp[klS,aNg,aDC id cs]
theorem aNh(id:Nat)(o:aC):klO id o=cJ (·==id) o:=by
 cases o<;>simp only[klO,cJ,Fq]
theorem T9(id:Nat):∀l,klH id l=l.map (cJ (·==id))
 |[]=>rfl
 |c::cs=>by simp[klH,aNh,T9 id cs]
theorem Xe{d:Option Nat}{size bytes:Nat}{z:List Value}{a x:aH}(h:apZ d size bytes (aD s) (aK G s.sl a) (aK G s.sl x)=some st')(hK:∀s',aD s'=st'->K s'):sS P G k d (.app size bytes z a x) K s.sl s.hp:=by
 unfold apZ at h;split at h;rename_i x1 x2 id n hx
 right
 rw[aD,bI,uE] at h;unfold apB at h;split at h;rename_i c sz es news hb h2;split at h;rename_i hc;injection h with h
 obtain⟨cap,hb,_⟩:=nQ hb;obtain⟨rfl,hc2,hc3,hc4⟩:=hc;exact⟨id,n,cap,es,news,hx,hb,hc2,h2,C9 hc3,hc4,fun cap' _=>hK _ (by rw[<- h];simp only[aD,aYa,sY,aDC,T9];rfl)⟩
 cases h;cases h;rename_i x1 x2 hx
 left
 rw[aD,uE] at h;unfold apN at h;split at h;rename_i news h2;split at h;rename_i hc;injection h with h
 exact⟨hx,news,h2,C9 hc.1,hc.2,fun cap' _=>hK _ (by rw[<- h];simp only[aD,aYg,sY,aXC,T9];rfl)⟩
 cases h;cases h;cases h
theorem Xf{d:Option Nat}{size len:Nat}{z:List Value}{ps:List (Nat×aH)}(h:bsO G (aD s) d size len z ps=some st')(hK:∀s',aD s'=st'->K s'):sS P G k d (.bslc size len z ps) K s.sl s.hp:=by
 unfold bsO at h;obtain⟨cs,h1,h⟩:=aYu.1 h;cases h2:dcs cs with
 |none=>
  rw[h2] at h;simp only[bsP] at h;split at h;rename_i hl;injection h with h
  rw[Kz] at h1;exact .inr ⟨hl,cs,h1,hK _ (by rw[<- h];simp[aD,aP])⟩;cases h
 |some ds=>
 rw[h2] at h;simp only[bsP] at h;split at h;rename_i hl;injection h with h
 obtain⟨g1,g2,g3⟩:=kH size len ds hl;rw[Kz] at h1;refine .inl ⟨fE size len ds,by rw[g1,<- lY h2];exact h1,g2,g3,hK _ (by rw[<- h];simp[aD,aP])⟩;cases h
theorem aNi(hcall:cE P G call){d:Option Nat}{f:FuncId}{xs:List aH}(h:T1 call G d f xs (aD s)=some st'):
  ∃ av os,(∀ n,xs.map (aK G s.sl)=(xs.map (aK G s.sl)).map (cY (cF [] n)))/\AC P G f (xs.map (aK G s.sl)) [] (fun a o=>a=av/\o.map aP=os)/\
    (⟨aQ s.sl d (cY (cF [] s.hp.length) av),s.hp.map aP++os.map (dC (cF [] s.hp.length))⟩:AS)=st':=by
 unfold T1 at h;cases hk:(jF G (aD s).sl xs).all (cV fun _=>true) with
 |false=>rw[hk] at h;cases h
 |true=>
  rw[hk] at h;simp only[cond_true] at h;cases hc:call f (jF G (aD s).sl xs) [] with
  |none=>rw[hc] at h;cases h
  |some r=>
   obtain⟨av,os⟩:=r;rw[hc] at h;simp only[nwK,Option.some.injEq] at h;obtain⟨_,g2⟩:=hcall _ _ _ _ _ hc [] rfl;refine⟨av,os,fun n=>?_,(by rw[mZ] at g2;exact g2.nzArgs),by rw[<- h];simp[aD]⟩
   conv=>lhs;rw[<- List.map_id (xs.map (aK G s.sl))]
   refine aXZ (fun v hv=>(rnV v ?_).symm)
   rw[mZ,List.all_map] at hk;have:=aY2.1 hk v hv;rwa[Function.comp_apply,Bj] at this
theorem aDD:∀{os:List aC},P6 os=true->os.map aP=os
 |[],_=>rfl
 | o::os,h=>by
   simp only[P6,aXQ] at h;rw[aXL,aDD h.2];congr 1;cases o<;>try rfl
   have:=h.1;simp only[aM6,iM,beq_iff_eq] at this;simp[aP,this]
theorem aNj(hcall:cE P G call){d:Option Nat}{f:FuncId}{xs:List aH}(h:dnZ call G d f xs (aD s)=some st'):
  ∃ av os,os.map aP=os/\(∀ n,xs.map (aK G s.sl)=(xs.map (aK G s.sl)).map (cY (cF [] n)))/\AC P G f (xs.map (aK G s.sl)) [] (fun a o=>a=av/\o.map aP=os)/\
    (⟨aQ s.sl d (cY (cF [] s.hp.length) av),s.hp.map aP++os.map (dC (cF [] s.hp.length))⟩:AS)=st':=by
 unfold dnZ at h;cases hk:(jF G (aD s).sl xs).all (cV fun _=>true) with
 |false=>rw[hk] at h;cases h
 |true=>
  rw[hk,cond_true] at h;cases hc:call f (jF G (aD s).sl xs) [] with
  |none=>rw[hc] at h;cases h
  |some r=>
   obtain⟨av,os⟩:=r;rw[hc] at h;simp only[dnK] at h;cases hn:P6 os with
   |false=>rw[hn] at h;cases h
   |true=>
    rw[hn,cond_true] at h;have h2:T1 call G d f xs (aD s)=some st':=by
     unfold T1;rw[hk,cond_true,hc];exact h
    obtain⟨_,g2⟩:=hcall _ _ _ _ _ hc [] rfl;refine⟨av,os,aDD hn,fun n=>?_,(by rw[mZ] at g2;exact g2.nzArgs),by injection h with h;rw[<- h];simp[aD]⟩
    conv=>lhs;rw[<- List.map_id (xs.map (aK G s.sl))]
    refine aXZ (fun v hv=>(rnV v ?_).symm)
    rw[mZ,List.all_map] at hk;have:=aY2.1 hk v hv;rwa[Function.comp_apply,Bj] at this
theorem Xg(hcall:cE P G call){d:Option Nat}{f:FuncId}{xs:List aH}(h:T1 call G d f xs (aD s)=some st')(hK:∀s',aD s'=st'->K s'):WR P G k [⟨d,.call f xs,none⟩] K s:=by
 obtain⟨av,os,h1,h2,h3⟩:=aNi hcall h;refine WR.callN (o:=⟨d,.call f xs,none⟩) trivial rfl h2 (h1 _) (fun a o ⟨h4,h5⟩=>WR.nil (hK _ ?_))
 subst h4;rw[<- h3,<- h5];simp only[aD,aYg,aX1];congr 2;exact aXZ (fun o _=>nP o)
theorem aH7{xs:List aH}(hcall:cE P G call){f:FuncId}{av:AV}(hc:call f (Ex G (aD s) xs) []=some (av,[])):QC P G f (xs.map fun x=>vwA s.hp (aK G s.sl x)) av:=by
 obtain⟨_,g2⟩:=hcall _ _ _ _ _ hc [] rfl;rw[Xc] at g2;have e:(xs.map fun x=>vwA (aD s).hp (aK G (aD s).sl x))=xs.map fun x=>vwA s.hp (aK G s.sl x):=aXZ (fun x _=>aDw _)
 rw[e] at g2;exact g2.nzArgs.gh (fun a o ⟨h1,h2⟩ _=>⟨a,o,Gh.refl,aXX _,h1,by simpa using h2⟩)
theorem Xh{xs:List aH}(hcall:cE P G call){f:FuncId}{av:AV}(hc:call f (Bf G (aD s) xs) []=some (av,[])):QC P G f (xs.map fun x=>vpA s.hp (aK G s.sl x)) av:=by
 obtain⟨_,g2⟩:=hcall _ _ _ _ _ hc [] rfl;rw[Xd] at g2;have e:(xs.map fun x=>vpA (aD s).hp (aK G (aD s).sl x))=xs.map fun x=>vpA s.hp (aK G s.sl x):=aXZ (fun x _=>aDA _)
 rw[e] at g2;exact g2.nzArgs.gh (fun a o ⟨h1,h2⟩ _=>⟨a,o,Gh.refl,aXX _,h1,by simpa using h2⟩)
theorem uI(hcall:cE P G call):cE P G (kI call):=fun f args hp av o' h hp0 hh=>⟨(hcall f _ hp av o' h hp0 hh).1,(hcall f _ hp av o' h hp0 hh).2.nzArgs⟩
theorem aH8(hcall:cE P G call){d:Option Nat}{f:FuncId}{xs:List aH}(h:clZ call G d f xs (aD s)=some st')(hK:∀s',aD s'=st'->K s'):WR P G k [⟨d,.call f xs,none⟩] K s:=by
 unfold clZ at h;obtain⟨s1,hgh,hn⟩:=fA (k:=k) (lJ G (aD s).sl xs) s;cases hp:qY G (aD s).sl xs with
 |false=>
  rw[hp,cond_false,<- hn] at h;obtain⟨J,objs,av,o',g1,g2,g3,g4,g5,g6,g7⟩:=pX (uI hcall) h;exact WR.ghost hgh (WR.call (o:=⟨d,.call f xs,none⟩) trivial rfl g2 g3 g4 g5 g6 (fun a o hao=>WR.nil (hK _ (g7 a o hao))))
 |true=>
  rw[hp,cond_true] at h;cases hc:call f (Ex G (aD s) xs) [] with
  |none=>rw[hc] at h;cases h
  |some r=>
   obtain⟨av,os⟩:=r;rw[hc] at h;cases os with
   |nil=>
    simp only[vwK] at h;cases hr:lI av with
    |true=>
     rw[hr] at h;injection h with h
     exact WR.callV (o:=⟨d,.call f xs,none⟩) trivial rfl (aH7 hcall hc) hr rfl (WR.nil (hK _ (by rw[<- h];rfl)))
    |false=>
     rw[hr,cond_false,<- hn] at h;exact WR.ghost hgh (Xg hcall h hK)
   |cons o os=>
    simp only[vwK] at h;rw[<- hn] at h;exact WR.ghost hgh (Xg hcall h hK)
theorem Xi(hcall:cE P G call){d:Option Nat}{x:aH}{xs:List aH}(h:cvZ call G d x xs (aD s)=some st')(hK:∀s',aD s'=st'->K s'):WR P G k [⟨d,.callv x xs,none⟩] K s:=by
 unfold cvZ at h;obtain⟨s1,hgh,hn⟩:=fA (k:=k) (lJ G (aD s).sl xs) s;rw[<- hn] at h;unfold cvK at h;split at h;rename_i f caps hx;obtain⟨J,objs,av,o',g1,g2,g3,g4,g5,g6,g7⟩:=pX (uI hcall) h;exact WR.ghost hgh (WR.callv (o:=⟨d,.callv x xs,none⟩) trivial rfl hx g1 g2 g3 g4 g5 g6 (fun a o hao=>WR.nil (hK _ (g7 a o hao))))
 cases h
theorem Xj{d:Option Nat}{size bytes:Nat}{z:List Value}{x y:aH}(h:mkZ G (aD s) d size bytes z x y=some st')(hK:∀s',aD s'=st'->K s'):WR P G k [⟨d,.mk size bytes z x y,none⟩] K s:=by
 unfold mkZ mkK at h;split at h;rename_i n m h1 h2;split at h;rename_i hc;injection h with h
 exact WR.mk (o:=⟨d,.mk size bytes z x y,none⟩) trivial rfl h1 h2 hc.1 hc.2 (WR.nil (hK _ (by rw[<- h];simp[aD,aP])));cases h;cases h
theorem Qh{d:Option Nat}{size id k0 n:Nat}{z:List Value}{x:aH}(hx:aK G s.sl x=.one (.bls id k0 n size)\/(k0=0/\aK G s.sl x=.one (.bld id n)))
  (h:T2 d (aD s) id k0 n size z (aI (aD s).hp id)=some st') (hK:∀s',aD s'=st'->K s'):WR P G k [⟨d,.clr size z x,none⟩] K s:=by
 have e0:aI (aD s).hp id=aP (aI s.hp id):=bI id;rw[e0] at h;cases hb:aI s.hp id with
 |box cs=>
  rw[hb] at h;simp only[aP,T2] at h;unfold aRg at h;split at h;split at h;rename_i hc;obtain⟨rfl,hn,hle⟩:=hc;injection h with h
  refine WR.clrB (o:=⟨d,.clr 1 [_] x,none⟩) trivial rfl hx hb hn hle (WR.nil (hK _ ?_));rw[<- h];simp[aD,aP,aYa];cases h;cases h
 |dead=>rw[hb] at h;cases h
 |arr cap sz es=>
  rw[hb] at h;simp only[aP,T2] at h;split at h;rename_i hc;obtain⟨rfl,hle⟩:=hc;injection h with h
  by_cases hn:n=0;subst hn;refine WR.clr0 (o:=⟨d,.clr sz z x,none⟩) (id:=id) (k0:=k0) trivial rfl (hx.imp (fun h=>h) And.right) (WR.nil (hK _ ?_))
  rw[<- h,Z2];simp only[aD];congr 1;exact (Az (by rw[bI,hb];rfl) (by simp)).symm;refine WR.clr (o:=⟨d,.clr sz z x,none⟩) trivial rfl hx hb (by omega) hle (WR.nil (hK _ ?_));rw[<- h];simp[aD,aP,aYa];cases h
theorem Qi{d:Option Nat}{size:Nat}{z:List Value}{x:aH}(h:aAC G (aD s) d size z x=some st')(hK:∀s',aD s'=st'->K s'):WR P G k [⟨d,.clr size z x,none⟩] K s:=by
 unfold aAC at h;have e0:(aD s).sl=s.sl:=rfl;rw[e0] at h;cases hx:aK G s.sl x with
 |one c=>
  rw[hx] at h;cases c with
  |bls id k0 n sz=>
   simp only[aNa] at h;split at h;rename_i hs;subst hs;exact Qh (.inl hx) h hK;cases h
  |bld id n=>exact Qh (.inr ⟨rfl,hx⟩) h hK
  |_=>cases h
 |_=>rw[hx] at h;cases h
theorem Qj{d:Option Nat}{x y:aH}(h:aAD G (aD s) d x y=some st')(hK:∀s',aD s'=st'->K s'):WR P G k [⟨d,.cpys x y,none⟩] K s:=by
 unfold aAD at h;have e0:(aD s).sl=s.sl:=rfl;rw[e0] at h;unfold aNb at h;split at h;rename_i id lo n z sv hx hy;split at h;rename_i hz;subst hz;have e1:aI (aD s).hp id=aP (aI s.hp id):=bI id;rw[e1] at h;cases hb:aI s.hp id with
 |arr c sz es=>
  rw[hb] at h;simp only[aP,aDr] at h;split at h;rename_i hc;obtain⟨rfl,hc⟩:=hc;injection h with h;refine WR.cpyA (o:=⟨d,.cpys x y,none⟩) trivial rfl hx hy hb hc (WR.nil (hK _ ?_));rw[<- h];simp[aD,aP,aYa]
  cases h
 |dead=>rw[hb] at h;cases h
 |box cs=>
  rw[hb] at h;simp only[aP,aDr] at h;split at h;rename_i hc;injection h with h
  refine WR.cpys (o:=⟨d,.cpys x y,none⟩) trivial rfl hx hy hb hc (WR.nil (hK _ ?_));rw[<- h];simp[aD,aP,aYa];cases h
 cases h;cases h
theorem Qk{d:Option Nat}{x:aH}(h:aAE G (aD s) d x=some st')(hK:∀s',aD s'=st'->K s'):WR P G k [⟨d,.cvsb x,none⟩] K s:=by
 unfold aAE at h;have e0:(aD s).sl=s.sl:=rfl;rw[e0] at h;cases hx:dB (aK G s.sl x) with
 |none=>rw[hx] at h;cases h
 |some sv=>
  rw[hx] at h;injection h with h
  exact WR.cvsb (o:=⟨d,.cvsb x,none⟩) trivial rfl hx (WR.nil (hK _ (by rw[<- h];rfl)))
theorem aDE{d:Option Nat}{x:aH}(h:aHX d (aD s) (dB (aK G (aD s).sl x))=some st')(hK:∀s',aD s'=st'->K s'):WR P G k [⟨d,.cvsb x,none⟩] K s:=by
 have e0:(aD s).sl=s.sl:=rfl;rw[e0] at h;cases hx:dB (aK G s.sl x) with
 |none=>rw[hx] at h;cases h
 |some sv=>
  rw[hx] at h;injection h with h
  exact WR.cvsA (o:=⟨d,.cvsb x,none⟩) trivial rfl hx (fun cap=>WR.nil (hK _ (by rw[<- h];simp[aD,aP])))
theorem aH9{d:Option Nat}{size bytes:Nat}{z:List Value}{x y:aH}(h:mbK d size bytes (aD s) z (bH (aK G (aD s).sl x)) (bH (aK G (aD s).sl y))=some st')(hK:∀s',aD s'=st'->K s'):WR P G k [⟨d,.mk size bytes z x y,none⟩] K s:=by
 have e0:(aD s).sl=s.sl:=rfl;rw[e0] at h;unfold mbK at h;split at h;rename_i v n m h1 h2;split at h;rename_i hc;obtain⟨rfl,hnm,hb⟩:=hc;injection h with h;exact WR.mkB (o:=⟨d,.mk 1 bytes [v] x y,none⟩) trivial rfl h1 h2 hnm hb (WR.nil (hK _ (by rw[<- h];simp[aD,aP])))
 cases h;cases h
theorem Fr(hcall:cE P G call){l:List aN}{d:Option Nat}{ai:AI}(h:lK call G (aD s) l d ai=some st')(hK:∀s',aD s'=st'->K s'):WR P G k [⟨d,ai,none⟩] K s:=by
 have plain:ai.isCall=false->Fo G (aD s) d ai=some st'->WR P G k [⟨d,ai,none⟩] K s:=by
  intro hc h;rw[show Fo G (aD s) d ai=exX G (aD s) ⟨d,ai,none⟩ from Ag G (aD s) ⟨d,ai,none⟩] at h
  obtain⟨s',h1,h2⟩:=Qg h;exact WR.exX (o:=⟨d,ai,none⟩) trivial hc h1 (WR.nil (hK _ h2))
 cases ai<;>first|exact plain rfl h|skip
 case call f xs=>exact aH8 hcall h hK
 case callv x xs=>exact Xi hcall h hK
 case mk size bytes z x y=>exact Xj h hK
 case clr size z x=>exact Qi h hK
 case cpys x y=>exact Qj h hK
 case cvsb x=>exact Qk h hK
 case app size bytes z a x=>exact sS.run (o:=⟨d,.app size bytes z a x,none⟩) trivial (Xe h hK)
 case apps a x=>cases h
 case bslc size len z ps=>
  simp only[lK] at h;obtain⟨s1,hgh,hn⟩:=fA (k:=k) (Hj G (aD s).sl ps) s;cases hl:aHW d l with
  |true=>
   rw[hl] at h;simp only[bsZ,<- hn] at h;obtain⟨s',h1,h2⟩:=Qg (o:=⟨d,.bslc size len z ps,none⟩) h;exact WR.ghost hgh (WR.exX (o:=⟨d,.bslc size len z ps,none⟩) trivial rfl h1 (WR.nil (hK _ h2)))
  |false=>
   rw[hl] at h;simp only[bsZ,<- hn] at h;exact WR.ghost hgh (sS.run (o:=⟨d,.bslc size len z ps,none⟩) trivial (Xf h hK))
theorem Hr{g:Nat}{b:Bool}(h:gK b (aK G (aD s).sl (.t g))=some true):iY G s (some (g,b)):=aHG (st:=aD s) h
theorem Hs{g:Nat}{b:Bool}(h:gK b (aK G (aD s).sl (.t g))=some false):Es G s (some (g,b)):=aDe (st:=aD s) h
theorem Ql(hcall:cE P G call){L:List Nat}{d:Option Nat}{ai:AI}(h:P7 call G L (aD s) d ai=some st')(hK:∀s',aD s'=st'->K s'):WR P G k [⟨d,ai,none⟩] K s:=by
 cases ai with
 |call f xs=>
  simp only[P7] at h;cases hb:Mv L (f+100000) with
  |false=>
   rw[hb] at h;obtain⟨J,objs,av,o',g1,g2,g3,g4,g5,g6,g7⟩:=pX (uI hcall) h;exact WR.call (o:=⟨d,.call f xs,none⟩) trivial rfl g2 g3 g4 g5 g6 (fun a o hao=>WR.nil (hK _ (g7 a o hao)))
  |true=>
   rw[hb] at h;simp only[aDs] at h;cases hc:call f (Bf G (aD s) xs) [] with
   |none=>rw[hc] at h;cases h
   |some r=>
    obtain⟨av,os⟩:=r;rw[hc] at h;cases os with
    |cons o os=>cases h
    |nil=>
     simp only[vpK] at h;cases hr:lI av with
     |false=>rw[hr] at h;cases h
     |true=>
      rw[hr] at h;injection h with h
      exact WR.callP (o:=⟨d,.call f xs,none⟩) trivial rfl (Xh hcall hc) hr rfl (WR.nil (hK _ (by rw[<- h];rfl)))
 |mk size bytes z x y=>exact aH9 h hK
 |cvsb x=>exact aDE h hK
 |_=>cases h
theorem Xk(hcall:cE P G call){l:List aN}{o:aN}{s1:AS}(ho:T4 call G (aD s) l o.dst o.ai o.guard=some s1)(next:∀s',aD s'=s1->WR P G k l K s'):WR P G k (o::l) K s:=by
 obtain⟨d,ai,g⟩:=o;cases g with
 |none=>exact WR.cons (Fr hcall ho next)
 |some g=>
  simp only[T4] at ho;cases hg:gK g.2 (aK G (aD s).sl (.t g.1)) with
  |none=>rw[hg] at ho;cases ho
  |some b=>
   rw[hg] at ho;cases b with
   |true=>exact WR.cons (WR.guard (Hr hg) rfl (Fr hcall ho next))
   |false=>
    injection ho with ho
    exact WR.skip (Hs hg) (next _ (by rw[<- ho];rfl))
theorem aDF(hcall:cE P G call):∀(ops:List aN) (s:AS) (st':AS),evR call G ops (some (aD s))=some st'->WR P G k ops (fun s'=>aD s'=st') s
 |[],s,st',h=>by simp only[evR,Option.some.injEq] at h;exact WR.nil h
 | o::l,s,st',h=>by
   simp only[evR] at h;cases ho:T4 call G (aD s) l o.dst o.ai o.guard with
   | none=>rw[ho] at h;cases l<;>cases h
   | some s1=>
     rw[ho] at h;exact Xk hcall ho (fun s' hs'=>aDF hcall l s' st' (by rw[hs'];exact h))
theorem Xl(hcall:cE P G call){L:List Nat}:∀(ops:List aN) (s:AS) (st':AS),Ey call G L ops (some (aD s))=some st'->WR P G k ops (fun s'=>aD s'=st') s
 |[],s,st',h=>by simp only[Ey,Option.some.injEq] at h;exact WR.nil h
 | o::l,s,st',h=>by
   simp only[Ey] at h;cases ho:Hk call G L (aD s) l o.dst o.ai o.guard (jU L o.ai o.guard) with
   | none=>rw[ho] at h;cases l<;>cases h
   | some s1=>
     rw[ho] at h;have next:∀ s',aD s'=s1->WR P G k l (fun s'=>aD s'=st') s':=fun s' hs'=>Xl hcall l s' st' (by rw[hs'];exact h)
     cases hr:jU L o.ai o.guard with
     | false=>rw[hr] at ho;exact Xk hcall ho next
     | true=>
       rw[hr] at ho;obtain⟨d,ai,g⟩:=o;cases g with
       | some g=>cases ai<;>simp[jU] at hr
       | none=>exact WR.cons (Ql hcall ho next)
theorem aRl(hcall:cE P G call){L:List Nat}{l:List aN}{o:aN}{s1:AS}(ho:Hk call G L (aD s) l o.dst o.ai o.guard (jU L o.ai o.guard)=some s1)(next:∀s',aD s'=s1->K s'):AN P G k o K s:=by
 obtain⟨d,ai,g⟩:=o;unfold AN;simp only at ho ⊢;split;rename_i hp;have hr:jU L ai g=false:=by cases ai<;>first|rfl|cases hp
 rw[hr] at ho;simp only[Hk] at ho;have pure:∀{s1},lK call G (aD s) l d ai=some s1->∃v,cX G s ai=some v/\aD ⟨aQ s.sl d v,s.hp⟩=s1:=by
  intro s1 h;have h2:Fo G (aD s) d ai=some s1:=by cases ai<;>first|exact h|cases hp
  rw[show Fo G (aD s) d ai=exX G (aD s) ⟨d,ai,none⟩ from Ag G (aD s) ⟨d,ai,none⟩] at h2
  have h3:(cX G (aD s) ai).map (fun v=>(⟨aQ (aD s).sl d v,(aD s).hp⟩:AS))=some s1:=by cases ai<;>first|exact h2|cases hp
  rw[pV] at h3;obtain⟨v,h4,h5⟩:=Option.map_eq_some_iff.1 h3;exact⟨v,h4,h5⟩
 cases g with
 |none=>
  obtain⟨v,h1,h2⟩:=pure ho;exact .inr ⟨trivial,v,h1,next _ h2⟩
 |some g=>
  simp only[T4] at ho;cases hg:gK g.2 (aK G (aD s).sl (.t g.1)) with
  |none=>rw[hg] at ho;cases ho
  |some b=>
   rw[hg] at ho;cases b with
   |true=>
    obtain⟨v,h1,h2⟩:=pure ho;exact .inr ⟨Hr hg,v,h1,next _ h2⟩
   |false=>
    injection ho with ho
    exact .inl ⟨Hs hg,next _ (by rw[<- ho];rfl)⟩
 cases hr:jU L ai g with
 |true=>
  rw[hr] at ho;cases g with
  |some g=>cases ai<;>simp[jU] at hr
  |none=>exact Ql hcall ho next
 |false=>
  rw[hr] at ho;simp only[Hk] at ho;cases g with
  |none=>exact Fr hcall ho next
  |some g=>
   simp only[T4] at ho;cases hg:gK g.2 (aK G (aD s).sl (.t g.1)) with
   |none=>rw[hg] at ho;cases ho
   |some b=>
    rw[hg] at ho;cases b with
    |true=>exact WR.guard (Hr hg) rfl (Fr hcall ho next)
    |false=>
     injection ho with ho
     exact WR.skip (Hs hg) (WR.nil (next _ (by rw[<- ho];rfl)))
theorem aNk(hcall:cE P G call){L:List Nat}{n0:Nat}{ops:List aN}:∀(t:IT) (s st':AS),Ec call G L n0 ops t (some (aD s))=some st'->TW P G k ops (fun s'=>∃p,pOK n0 s'.hp.length p/\aD (prm p s')=st') t s:=by
 have node:∀ (t:IT),(∀ (s st':AS),Ec call G L n0 ops t (some (aD s))=some st'->TW P G k ops (fun s'=>∃ p,pOK n0 s'.hp.length p/\aD (prm p s')=st') t s)->∀ (s st':AS) (i:Nat),
     Ec call G L n0 ops t (Hk call G L (aD s) ops (gY ops i).dst (gY ops i).ai (gY ops i).guard (jU L (gY ops i).ai (gY ops i).guard))=some st'->AN P G k (gY ops i) (TW P G k ops (fun s'=>∃ p,pOK n0 s'.hp.length p/\aD (prm p s')=st') t) s:=by
   intro t ih s st' i h;cases ho:Hk call G L (aD s) ops (gY ops i).dst (gY ops i).ai (gY ops i).guard (jU L (gY ops i).ai (gY ops i).guard) with
   | none=>rw[ho] at h;cases t<;>cases h
   | some s1=>
     rw[ho] at h;exact aRl hcall ho (fun s' hs'=>ih s' st' (by rw[hs'];exact h))
 intro t
 induction t with
 |nil=>intro s st' h;simp only[Ec,Option.some.injEq] at h;exact⟨[],(fun x hx=>by cases hx),h⟩
 |stop=>intro s st' h;cases h
 |st i t ih=>exact fun s st' h=>node t ih s st' i h
 |br i t r iht ihr=>
  intro s st' h;simp only[Ec] at h;cases hr:Mh r with
  |true=>
   rw[hr] at h;refine⟨node t iht s st' i h,?_⟩;cases r<;>simp[Mh] at hr;trivial
  |false=>
   rw[hr] at h;obtain⟨h1,s2,p,h2,h3,h4⟩:=Hn h;refine⟨node t iht s st' i h1,TW.mono (fun s' ⟨q,g1,g2⟩=>?_) r s (ihr s s2 h2)⟩
   have hl:s2.hp.length=s'.hp.length:=by rw[<- g2,P3,Wv]
   refine⟨q++p,fun x hx=>?_,?_⟩
   rcases aYV.1 hx with hx|hx;exact g1 x hx;rw[<- hl];exact h3 x hx;rw[Ww,P2,g2,h4]
theorem aIa{ai:AI}:cX G ⟨(aD s).sl,Md ai (aD s).hp⟩ ai=cX G ⟨s.sl,Md ai s.hp⟩ ai:=by
 cases ai<;>first|rfl|exact pV (s:=⟨s.sl,s.hp⟩)
theorem aDG(hcall:cE P G call){d:Option Nat}{ai:AI}(h:Bg call G (aD s) d ai=some st'):
  ∃v,(cX G ⟨s.sl,Md ai s.hp⟩ ai=some v\/∃f args cargs r,ai=.call f args/\QC P G f cargs r/\∀n,args.map (aK G s.sl)=cargs.map (cY (cF [] n))/\v=cY (cF [] n) r)/\(⟨aQ (aD s).sl d v,(aD s).hp⟩:AS)=st':=by
 have plain:fX (aD s) d (evX G (aD s).sl (Md ai (aD s).hp) ai)=some st'->∃v,cX G ⟨s.sl,Md ai s.hp⟩ ai=some v/\(⟨aQ (aD s).sl d v,(aD s).hp⟩:AS)=st':=by
  intro h;rw[aC8,aIa] at h;cases hv:cX G ⟨s.sl,Md ai s.hp⟩ ai with
  |none=>rw[hv] at h;cases h
  |some v=>rw[hv] at h;injection h with h;exact⟨v,rfl,h⟩
 have other:(∀ f xs,ai≠.call f xs)->∃ v,cX G ⟨s.sl,Md ai s.hp⟩ ai=some v/\(⟨aQ (aD s).sl d v,(aD s).hp⟩:AS)=st':=fun hne=>plain (by
   cases ai<;>first | exact h | (exact absurd rfl (hne _ _)))
 by_cases hcl:∃f xs,ai=.call f xs;obtain⟨f,xs,rfl⟩:=hcl;simp only[Bg] at h;cases hk:(jF G (aD s).sl xs).all (cV fun _=>true) with
 |false=>rw[hk] at h;cases h
 |true=>
  rw[hk] at h;simp only[cond_true] at h;cases hc:call f (jF G (aD s).sl xs) [] with
  |none=>rw[hc] at h;cases h
  |some r=>
   obtain⟨av,os⟩:=r;rw[hc] at h;have hargs:∀ n,xs.map (aK G s.sl)=(xs.map (aK G s.sl)).map (cY (cF [] n)):=fun n=>by
     conv=>lhs;rw[<- List.map_id (xs.map (aK G s.sl))]
     refine aXZ (fun v hv=>(rnV v ?_).symm)
     rw[mZ,List.all_map] at hk;have:=aY2.1 hk v hv;rwa[Function.comp_apply,Bj] at this
   cases os with
   |cons o os=>
    simp only[qcK,qcF] at h;generalize hv0:bD (fun id=>decide (0<=id)) ((bU (jE av) ⟨[av],o::os⟩).sl.getD 0 .junk)=v at h
    cases hkv:cV (fun _=>true) v with
    |false=>rw[hkv] at h;cases h
    |true=>
     rw[hkv] at h;injection h with h
     have g2:QC P G f (jF G (aD s).sl xs) v:=QC.quiet hcall (by
       unfold uG;rw[hc];simp only[aXP];rw[hv0,hkv];rfl)
     refine⟨v,.inr ⟨f,xs,xs.map (aK G s.sl),v,rfl,?_,fun n=>⟨hargs n,(rnV v hkv).symm⟩⟩,h⟩
     rw[mZ] at g2;exact AC.nzArgs g2
   |nil=>
    simp only[qcK] at h;cases hkv:cV (fun _=>true) av with
    |false=>rw[hkv] at h;cases h
    |true=>
     rw[hkv] at h;injection h with h
     obtain⟨_,g2⟩:=hcall _ _ _ _ _ hc [] rfl;refine⟨av,.inr ⟨f,xs,xs.map (aK G s.sl),av,rfl,?_,fun n=>⟨?_,(rnV av hkv).symm⟩⟩,h⟩
     rw[mZ] at g2;exact g2.nzArgs.gh (fun a o ⟨h1,h2⟩ _=>⟨a,o,Gh.refl,aXX _,h1,by simpa using h2⟩)
     ·conv=>lhs;rw[<- List.map_id (xs.map (aK G s.sl))]
      refine aXZ (fun v hv=>(rnV v ?_).symm)
      rw[mZ,List.all_map] at hk;have:=aY2.1 hk v hv;rwa[Function.comp_apply,Bj] at this
 obtain⟨v,h1,h2⟩:=other (fun f xs hh=>hcl ⟨f,xs,hh⟩)
 exact⟨v,.inl h1,h2⟩
theorem aIb(hcall:cE P G call){d:Option Nat}{ai:AI}(h:ldZ call G (aD s) d ai=some st')(hK:∀s',aD s'=st'->K s'):sS P G k d ai K s.sl s.hp:=by
 have dt:∀{f xs},dnZ call G d f xs (aD s)=some st'->sS P G k d (.call f xs) K s.sl s.hp:=by
  intro f xs h;obtain⟨av,os,h0,h1,h2,h3⟩:=aNj hcall h;refine⟨_,A4.of h2 (h1 _),⟨_,_,av,os,⟨rfl,h0⟩,rfl,rfl⟩,?_⟩;rintro a o ⟨av0,os0,⟨rfl,h5⟩,rfl,rfl⟩;refine hK _ ?_;rw[<- h3,<- h5];simp only[aD,aYg,aX1];congr 2;exact aXZ (fun o _=>nP o)
 cases ai<;>first|(cases h;done)|skip
 case call f xs=>
  simp only[ldZ] at h;cases hc:call f (Bf G (aD s) xs) [] with
  |none=>rw[hc] at h;cases h
  |some r=>
   obtain⟨av,os⟩:=r;rw[hc] at h;cases os with
   |nil=>
    simp only[dvK] at h;cases hr:lI av with
    |true=>
     rw[hr] at h;injection h with h
     refine⟨_,A4.viewP (Xh hcall hc) hr (by rw[aX1];rfl),⟨av,[],rfl,rfl⟩,?_⟩;rintro a o ⟨rfl,rfl⟩;rw[aYE];exact hK _ (by rw[<- h];rfl)
    |false=>rw[hr] at h;exact dt h
   |cons o os=>exact dt h
 case callv x xs=>exact Xi hcall h hK
 case mk size bytes z x y=>exact Xj h hK
 case clr size z x=>exact Qi h hK
 case cpys x y=>exact Qj h hK
 case cvsb x=>exact Qk h hK
 case app size bytes z a x=>exact Xe h hK
 case bslc size len z ps=>exact Xf h hK
 case alloc z=>
  simp only[ldZ,Fo,Option.some.injEq] at h;exact hK _ (by rw[<- h];simp[aD,aP])
 case box x=>
  simp only[ldZ,Fo] at h;cases hc:cellsOf (aK G (aD s).sl x) with
  |none=>rw[hc] at h;cases h
  |some cs=>rw[hc] at h;injection h with h;exact⟨cs,hc,hK _ (by rw[<- h];simp[aD,aP])⟩
 case store size x v=>
  simp only[ldZ,Fo] at h;cases d with
  |some d=>cases h
  |none=>
   refine⟨rfl,?_⟩;simp only[stD,stX,show (aD s).sl=s.sl from rfl] at h
   split at h;rename_i id off hx
   left
   split at h;rename_i vs hv;split at h;rename_i cs hb;rw[aD,bI] at hb;split at h;rename_i hc;injection h with h
   exact⟨id,off,cs,vs,hx,hv,pW hb,hc.1,hc.2,hK _ (by rw[<- h];simp[aD,aP,aYa])⟩;cases h;cases h;cases h;rename_i id i z off hx
   right
   split at h;rename_i ds hv;split at h;rename_i c z' es hb;rw[aD,bI] at hb;obtain⟨cap,hb2,rfl⟩:=nQ hb;split at h;rename_i e he;split at h;rename_i hc;injection h with h
   obtain⟨rfl,hc1,hc2⟩:=hc;obtain⟨cs,hcs,hdc⟩:=aYu.1 hv;exact⟨id,i,z,off,cap,es,e,ds,hx,by rw[hcs,lY hdc],hb2,he,hc1,hc2,hK _ (by rw[<- h];simp[aD,aP,aYa])⟩;cases h;cases h;cases h;cases h;cases h
theorem Xm(hcall:cE P G call):∀(ops:List (Bool×aN)) (s:AS) (st':AS),Ez call G ops (some (aD s))=some st'->jM P G k (fun s'=>aD s'=st') ops s
 |[],s,st',h=>by simp only[Ez,Option.some.injEq] at h;exact h
 | (q,o)::l,s,st',h=>by
   simp only[Ez] at h;cases ho:drO call G (aD s) q o.dst o.ai o.guard with
   | none=>rw[ho] at h;cases l<;>cases h
   | some s1=>
     rw[ho] at h;have next:∀ s',aD s'=s1->jM P G k (fun s'=>aD s'=st') l s':=fun s' hs'=>Xm hcall l s' st' (by rw[hs'];exact h)
     have op:iY G s o.guard->drZ call G (aD s) o.dst o.ai q=some s1->jM P G k (fun s'=>aD s'=st') ((q,o)::l) s:=by
       intro hg hz;cases q with
       | true=>
         obtain⟨v,h1,h2⟩:=aDG hcall hz;exact⟨v,.inr ⟨hg,h1⟩,next _ (by rw[<- h2];rfl)⟩
       | false=>exact .inr ⟨hg,aIb hcall hz next⟩
     cases hgd:o.guard with
     | none=>rw[hgd] at ho;exact op (by rw[hgd];trivial) ho
     | some g=>
       rw[hgd] at ho;simp only[drO] at ho;cases hg:gK g.2 (aK G (aD s).sl (.t g.1)) with
       | none=>rw[hg] at ho;cases ho
       | some b=>
         rw[hg] at ho;cases b with
         | true=>exact op (by rw[hgd];exact Hr hg) ho
         | false=>
           injection ho with ho
           exact WD.skip (by rw[hgd];exact Hs hg) (next _ (by rw[<- ho];rfl))
theorem Xn{sl:List AV}:∀{xs:List aH}{x:aH}{id:Nat},x∈xs->id∈Oq (aK G sl x)->id∈fpA G sl xs
 | y::xs,x,id,hx,hid=>by
   rw[fpA,aYV];rcases aYR.1 hx with rfl | hx
   · exact .inl hid
   · exact .inr (Xn hx hid)
theorem Fs(s:AS)(id:Nat):(aD s).hp[id]?=(s.hp[id]?).map aP:=by simp[aD]
theorem aDH(hcall:cE P G call){o:aN}{r:Nat}{s1:AS}{f:FP}(hk:k<=r)(hgd:iY G s o.guard)(h:Jx call G (aD s) o.dst r o.ai=some (s1,f)):∃v u,jX P G k o s v u f.2/\wrU u=f.1/\aD (Kp o s v u)=s1:=by
 have pure:o.ai.isPure=true->S4 (fpA G (aD s).sl (bA o.ai)) (lK call G (aD s) [] o.dst o.ai)=some (s1,f)->lK call G (aD s) [] o.dst o.ai=Fo G (aD s) o.dst o.ai->(∀ st':AS,Fo G st' o.dst o.ai=(cX G st' o.ai).map fun v=>⟨aQ st'.sl o.dst v,st'.hp⟩)->∃ v u,jX P G k o s v u f.2/\wrU u=f.1/\aD (Kp o s v u)=s1:=by
   intro _ h e1 e2;rw[e1,e2,pV] at h;cases hv:cX G s o.ai with
   | none=>rw[hv] at h;cases h
   | some v=>
     rw[hv] at h;simp only[aXG,S4,Option.some.injEq,Prod.mk.injEq] at h;obtain⟨h1,h2⟩:=h;subst h2;exact⟨v,none,.pur v _ hgd hv (fun x hx id hid=>Xn hx hid),rfl,by rw[<- h1];rfl⟩
 have ex:∀ st':AS,o.ai.isPure=true->Fo G st' o.dst o.ai=(cX G st' o.ai).map fun v=>⟨aQ st'.sl o.dst v,st'.hp⟩:=by
   intro st' hp;rw[Ag];unfold exX;cases hai:o.ai<;>rw[hai] at hp<;>first | rfl | (simp[AI.isPure] at hp;done)
 cases hai:o.ai with
 |alloc z=>
  rw[hai] at h;simp only[Jx,Fs] at h;cases hb:s.hp[r]? with
  |none=>rw[hb] at h;cases h
  |some ob=>
   rw[hb] at h;cases ob with
   |dead=>
    simp only[aXG,aP,fvN,Option.some.injEq,Prod.mk.injEq] at h;obtain⟨h1,h2⟩:=h;subst h2;exact⟨_,_,.alloc z r hgd hai hb hk,rfl,by rw[<- h1];simp[aD,Kp,A7,aP,aYa]⟩
   |box cs=>cases h
   |arr c sz es=>cases h
 |store size x v=>
  rw[hai] at h;simp only[Jx] at h;unfold fvS at h;split at h;rename_i id off vs hx hv;cases hd:o.dst with
  |some d=>rw[hd] at h;cases h
  |none=>
   rw[hd] at h;simp only[Fs] at h;cases hb:s.hp[id]? with
   |none=>rw[hb] at h;cases h
   |some ob=>
    rw[hb] at h;cases ob with
    |dead=>cases h
    |arr c sz es=>cases h
    |box cs=>
     simp only[aXG,aP,fvT] at h;split at h;rename_i hc;simp only[Option.some.injEq,Prod.mk.injEq] at h;obtain⟨h1,h2⟩:=h;subst h2;exact⟨_,_,.store size x v id off cs vs hgd hai hd hx hv hb hc.1 hc.2,rfl,by rw[<- h1];simp[aD,Kp,A7,aP,aYa,aQ,hd]⟩;cases h
  cases h
 |bslc size len z ps=>
  rw[hai] at h;simp only[Jx] at h;cases len with
  |zero=>cases h
  |succ len=>
   simp only[fvL] at h;cases hq:bsX G (aD s) o.dst size (len+1) z ps with
   |none=>rw[hq] at h;cases h
   |some s2=>
    rw[hq] at h;simp only[S4,Option.some.injEq,Prod.mk.injEq] at h;obtain⟨h1,h2⟩:=h;subst h2;unfold bsX at hq;simp only at hq;cases hf:gX (zs z ((len+1)*size)) (ps.map fun (j,x)=>(j*size,size,aK G (aD s).sl x)) with
    |none=>simp[hf] at hq
    |some cs=>
     simp only[hf,aXP] at hq;cases hd:dcs cs with
     |none=>simp[hd] at hq
     |some ds=>
      simp only[hd,aXP] at hq;split at hq;rename_i hl;injection hq with hq
      obtain⟨g1,g2,g3⟩:=kH size (len+1) ds hl;rw[Kz] at hf;exact⟨_,none,.lit size (len+1) z ps (fE size (len+1) ds) hgd hai (by rw[g1,<- lY hd];exact hf) g2 g3,rfl,by rw[<- h1,<- hq];rfl⟩;cases hq
 |cpys x y=>
  rw[hai] at h;simp only[Jx] at h;unfold fvY at h;split at h;rename_i id lo n z bs hx hy;split at h;rename_i hz;subst hz;rw[Fs] at h;cases hb:s.hp[id]? with
  |none=>rw[hb] at h;cases h
  |some ob=>
   rw[hb] at h;cases ob with
   |dead=>cases h
   |arr c z es=>cases h
   |box cs=>
    simp only[aXG,aP,aHY] at h;split at h;rename_i hc;simp only[Option.some.injEq,Prod.mk.injEq] at h;obtain⟨h1,h2⟩:=h;subst h2;exact⟨_,_,.cpy x y id lo n bs cs hgd hai hx hy hb hc,rfl,by rw[<- h1];simp[aD,Kp,A7,aP,aYa]⟩;cases h
  cases h;cases h
 |call g xs=>
  rw[hai] at h;simp only[Jx] at h;generalize ((xs.map (aK G (aD s).sl)).flatMap jE)=J at h
  match J with
  |[]=>
   simp only[fvC] at h;cases hq:Bg call G (aD s) o.dst (.call g xs) with
   |none=>rw[hq] at h;cases h
   |some s2=>
    rw[hq] at h;simp only[S4,Option.some.injEq,Prod.mk.injEq] at h;obtain⟨h1,h2⟩:=h;subst h2;obtain⟨v,hv,he⟩:=aDG hcall hq;rcases hv with hv|⟨f',args,cargs,r',e1,e2,e3⟩
    simp[cX] at hv;exact⟨v,none,.call f' args cargs r' v hgd (hai.trans e1) e2 e3,rfl,by rw[<- h1,<- he];rfl⟩
  |[id]=>
   simp only[fvC,Fs] at h;cases hb:s.hp[id]? with
   |none=>rw[hb] at h;cases h
   |some ob=>
    rw[hb] at h;cases ob with
    |dead=>cases h
    |arr c z es=>cases h
    |box cs=>
     simp only[aXG,aP,fvB] at h;cases hk:(keepL (fun _=>true) cs&&(xs.map (aK G (aD s).sl)).all (cV (kF [id]))) with
     |false=>rw[hk] at h;cases h
     |true=>
      rw[hk] at h;simp only[cond_true] at h;simp only[aXQ] at hk;unfold aDt at h;split at h;rename_i cs' hc;cases hk2:keepL (fun _=>true) cs' with
      |false=>rw[hk2] at h;cases h
      |true=>
       rw[hk2] at h;simp only[cond_true,Option.some.injEq,Prod.mk.injEq] at h;obtain⟨h1,h2⟩:=h;subst h2;obtain⟨_,hA⟩:=uI hcall _ _ _ _ _ hc [.box cs] rfl;refine⟨.tup [],some (id,.box cs'),.callB g xs _ id cs cs' hgd hai hb (hA.gh (fun a o' ⟨q1,q2⟩ hl=>⟨a,o',Gh.refl,hl,q1,?_⟩)) (fun n=>?_) (fun n=>⟨?_,?_⟩),rfl,by rw[<- h1];simp[aD,Kp,A7,aP,aYa]⟩
       obtain⟨x,rfl⟩:=List.length_eq_one_iff.1 (by have:=congrArg List.length q2;simpa using this:o'.length=1);simp only[aXL,aXT,List.cons.injEq,and_true] at q2;rw[pW q2]
       ·rw[aX1]
        conv=>lhs;rw[<- List.map_id (xs.map (aK G s.sl))]
        exact aXZ (fun v hv=>(rtV v (aY2.1 hk.2 v hv)).symm)
       simp only[dC,<- nZ,rnL _ hk.1];simp only[dC,<- nZ,rnL _ hk2]
      cases h
  |_::_::_=>cases h
 |_=>
  rw[hai] at h;first
   |(refine pure (by rw[hai];rfl) (by rw[hai];exact h) (by rw[hai];rfl) (fun st'=>ex st' (by rw[hai];rfl)))
   |(cases h;done)
theorem aNl(hcall:cE P G call){o:aN}{r:Nat}{s1:AS}{f:FP}(hk:k<=r)(h:fvO call G (aD s) o.dst r o.ai o.guard=some (s1,f)):∃v u,jX P G k o s v u f.2/\wrU u=f.1/\aD (Kp o s v u)=s1:=by
 cases hgd:o.guard with
 |none=>rw[hgd] at h;exact aDH hcall hk (by rw[hgd];trivial) h
 |some g=>
  rw[hgd] at h;simp only[fvO] at h;cases hg:gK g.2 (aK G (aD s).sl (.t g.1)) with
  |none=>rw[hg] at h;cases h
  |some b=>
   rw[hg] at h;cases b with
   |true=>exact aDH hcall hk (by rw[hgd];exact Hr hg) h
   |false=>
    simp only[fvG,Option.some.injEq,Prod.mk.injEq] at h;obtain⟨h1,h2⟩:=h;subst h2;exact⟨_,none,.skip (by rw[hgd];exact Hs hg),rfl,by rw[<- h1];rfl⟩
theorem aDI(hcall:cE P G call){prs:List (Nat×Nat)}:∀(ops:List aN) (acc:List FP) (r:Nat) (s:AS) (st':AS),k<=r->T5 call G prs acc r ops (some (aD s))=some st'->
  ∃L:List FE,L.map (·.1)=ops/\kW P G k (fun s'=>aD s'=st') L s/\Jy prs (acc++L.map (·.2))=true
 | [],acc,r,s,st',hk,h=>by
   simp only[T5] at h;cases hc:Jy prs acc with
   | false=>rw[hc] at h;cases h
   | true=>
     rw[hc] at h;injection h with h
     exact⟨[],rfl,h,by simpa using hc⟩
 | o::ops,acc,r,s,st',hk,h=>by
   simp only[T5] at h;cases ho:fvO call G (aD s) o.dst r o.ai o.guard with
   | none=>rw[ho] at h;cases h
   | some q=>
     obtain⟨s1,f⟩:=q;rw[ho] at h;obtain⟨v,u,hs,hw,hn⟩:=aNl hcall hk ho;simp only[<- hn] at h;obtain⟨L,hL,hR,hC⟩:=aDI hcall ops (acc++[f]) _ (Kp o s v u) st' (by cases aAI o.ai<;>simp<;>omega) h;exact⟨(o,f)::L,by simp[hL],⟨v,u,f.2,hs,hw,rfl,hR⟩,by simpa using hC⟩
theorem Xo:∀(L:List Nat) (n:Nat),P8 L n=L.contains n
 |[],n=>rfl
 | x::L,n=>by
   rw[P8,Xo L n,iM,List.contains_cons]
theorem Xp:∀(a b:List Nat),E0 a b=sV a b
 |[],b=>rfl
 |x::a,b=>by rw[E0,Xp a b,Xo];rfl
theorem Ua:∀(fs:List FE) (n:Nat),atF (fs.map (·.2)) n=(fs.getD n nW).2
 |[],n=>by cases n<;>rfl
 |f::fs,0=>rfl
 |f::fs,n+1=>by rw[aXL,atF,Ua fs n];simp[aXN]
theorem aAM{a b c:List Nat}:sV a (b++c)=(sV a b&&sV a c):=by
 unfold sV;rw[aYN];simp only[aY2,aXQ,aYC,List.contains_eq_mem,decide_eq_false_iff_not,aYV,not_or];exact⟨fun h=>⟨fun x hx=>(h x hx).1,fun x hx=>(h x hx).2⟩,fun h x hx=>⟨h.1 x hx,h.2 x hx⟩⟩
theorem Xq{L:List FE}:∀(prs:List (Nat×Nat)),Jy prs (L.map (·.2))=true->∀p∈prs,dsj (L.getD p.1 nW).2 (L.getD p.2 nW).2=true
 |[],_,p,hp=>by cases hp
 | (a,b)::prs,h,p,hp=>by
   simp only[Jy,aXQ] at h;rcases aYR.1 hp with rfl | hp
   · have h1:=h.1
     rw[Ua,Ua] at h1;show dsj (L.getD a nW).2 (L.getD b nW).2=true;revert h1;generalize (L.getD a nW).2=x;generalize (L.getD b nW).2=y;obtain⟨w,r⟩:=x;obtain⟨w',r'⟩:=y;intro h1;simp only[dsM,Xp] at h1;simp only[dsj,aAM];simp only[aXQ] at h1 ⊢;exact⟨⟨h1.1,h1.2.1⟩,h1.2.2⟩
   · exact Xq prs h.2 p hp
theorem Qm:∀n,Bh n=List.replicate n .dead
 |0=>rfl
 |n+1=>by rw[Bh,Qm n,List.replicate_succ]
theorem Uc(hcall:cE P G call){prs:List (Nat×Nat)}{ops:List aN}{s st':AS}(hk:k<=s.hp.length)(h:T5 call G prs [] (aD s).hp.length ops (some ⟨(aD s).sl,(aD s).hp++Bh (nAl ops)⟩)=some st'){Q:Exit->AS->Prop}(hQ:∀s',aD s'=st'->Q .normal s'):
  AW P G k (.drawnF prs ops) Q s:=by
 refine AW.ghost (Gh.dead (nAl ops)) ?_;have e:(⟨(aD s).sl,(aD s).hp++Bh (nAl ops)⟩:AS)=aD ⟨s.sl,s.hp++List.replicate (nAl ops) .dead⟩:=by
  simp[aD,Qm,aP]
 rw[e] at h;obtain⟨L,hL,hR,hC⟩:=aDI hcall ops [] _ _ st' (by simpa[aD] using hk) h;exact AW.drawnF hL (Xq prs (by simpa using hC)) (kW.mono hQ hR)
end
end
end Go.Proofs.YthepfneloomngaaGreatDoor
