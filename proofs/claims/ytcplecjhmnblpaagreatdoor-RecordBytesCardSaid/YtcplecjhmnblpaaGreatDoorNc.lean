/- The evaluator's answers are contracts. Conditions: none. -/
import Derived.Test.YtcplecjhmnblpaaGreatDoorNa
namespace Go.Proofs.YtcplecjhmnblpaaGreatDoor
set_option linter.unusedSimpArgs false
set_option linter.unusedVariables false
section
section
variable {α:Type}
theorem M9{f:Nat->Option α}(hm:∀ n r,f n=some r->f (n+1)=some r){n:Nat}{r:α}(h:f n=some r):lim f=some r:=by
  have mono:∀ n r,f n=some r->∀ m,n<=m->f m=some r:=by
    intro n r h m hle
    induction m with
    | zero=>simp at hle;subst hle;exact h
    | succ m ih=>
      by_cases he:n=m+1
      · subst he;exact h
      · exact hm _ _ (ih (by omega))
  have hx:∃ n r,f n=some r:=⟨n,r,h⟩;unfold lim;rw[dif_pos hx];obtain⟨r',hr'⟩:=hx.choose_spec;have h1:=mono _ _ hr' (max hx.choose n) (Nat.le_max_left _ _);have h2:=mono _ _ h (max hx.choose n) (Nat.le_max_right _ _);rw[hr',<- h1,h2]
theorem jM{f:Nat->Option α}{r:α}(h:lim f=some r):∃ n,f n=some r:=by
  unfold lim at h;split at h
  · exact⟨_,h⟩
  · cases h
end
section
variable {run:AS->Option (Exit × AS)} {L:List Nat} {m:Nat}
theorem Bi:∀ (n:Nat) (st:AS) r,Dl run L m n st=some r->Dl run L m (n+1) st=some r
  | 0,st,r,h=>by simp[Dl] at h
  | n+1,st,r,h=>by
    rw[Dl] at h ⊢;split at h
    · exact Bi n _ r h
    · exact h
theorem vJ{n:Nat}{st:AS}{r:Exit × AS}(h:Dl run L m n st=some r):tO run L m st=some r:=M9 (fun n r h=>Bi n st r h) h
theorem Ym(st:AS){s:AS}(h:run st=some (.normal,s)):tO run L m st=tO run L m (jL L m s):=by
  have e:∀ n,Dl run L m (n+1) st=Dl run L m n (jL L m s):=fun n=>by rw[Dl,h]
  cases hr:tO run L m (jL L m s) with
  | some r=>
    obtain⟨n,hn⟩:=jM hr;exact vJ (n:=n+1) (by rw[e];exact hn)
  | none=>
    cases hl:tO run L m st with
    | none=>rfl
    | some r=>
      obtain⟨n,hn⟩:=jM hl;have:tO run L m (jL L m s)=some r:=vJ (n:=n) (by rw[<- e];exact Bi _ _ _ hn);rw[hr] at this;cases this
theorem T4{st:AS}{e:Exit}{s:AS}(h:run st=some (e,s))(he:e≠.normal):tO run L m st=some (e,s):=by
  refine vJ (n:=1) ?_;rw[Dl,h];split
  · rename_i h1;injection h1 with h1;injection h1 with h1;exact absurd h1 he
  · rfl
end
def zS(calls:Nat->aW)(call:aW):Prop:=∀ f a hp r,call f a hp=some r->∃ n,∀ m,n<=m->calls m f a hp=some r
section
variable {calls:Nat->aW} {call:aW} {G:aH}
theorem Py(hs:zS calls call){d:Option Nat}{f:FuncId}{xs:List aJ}{st s:AS}(h:M3 call G d f xs st=some s):∃ n,∀ m,n<=m->M3 (calls m) G d f xs st=some s:=by
  unfold M3 at *;cases hk:(jY G st.sl xs).all (cQ fun _=>true) with
  | false=>rw[hk] at h;cases h
  | true=>
    rw[hk] at h;simp only[cond_true] at h ⊢;cases hc:call f (jY G st.sl xs) [] with
    | none=>rw[hc] at h;cases h
    | some r=>
      obtain⟨n,hn⟩:=hs _ _ _ _ hc;rw[hc] at h;exact⟨n,fun m hm=>by rw[hn m hm];exact h⟩
theorem Pz(hs:zS calls call){d:Option Nat}{f:FuncId}{xs:List aJ}{st s:AS}(h:dnZ call G d f xs st=some s):∃ n,∀ m,n<=m->dnZ (calls m) G d f xs st=some s:=by
  unfold dnZ at *;cases hk:(jY G st.sl xs).all (cQ fun _=>true) with
  | false=>rw[hk] at h;cases h
  | true=>
    rw[hk] at h;simp only[cond_true] at h ⊢;cases hc:call f (jY G st.sl xs) [] with
    | none=>rw[hc] at h;cases h
    | some r=>
      obtain⟨n,hn⟩:=hs _ _ _ _ hc;rw[hc] at h;exact⟨n,fun m hm=>by rw[hn m hm];exact h⟩
theorem aDd(hs:zS calls call){d:Option Nat}{f:FuncId}{xs:List aJ}{st s:AS}(h:Tu call G d f xs st (call f (yX G st xs) [])=some s):
    ∃ n,∀ m,n<=m->Tu (calls m) G d f xs st (calls m f (yX G st xs) [])=some s:=by
  cases hc:call f (yX G st xs) [] with
  | none=>rw[hc] at h;cases h
  | some r=>
    rw[hc] at h;obtain⟨n,hn⟩:=hs _ _ _ _ hc;obtain⟨av,os⟩:=r;cases os with
    | nil=>
      simp only[Tu] at h;cases hr:lC av with
      | true=>rw[hr] at h;exact⟨n,fun m hm=>by rw[hn m hm];simp only[Tu,hr];exact h⟩
      | false=>
        rw[hr] at h;obtain⟨n2,hn2⟩:=Py hs h;exact⟨max n n2,fun m hm=>by rw[hn m (by omega)];simp only[Tu,hr];exact hn2 m (by omega)⟩
    | cons o os=>
      obtain⟨n2,hn2⟩:=Py hs (st:=bR (lD G st.sl xs) st) h;exact⟨max n n2,fun m hm=>by rw[hn m (by omega)];exact hn2 m (by omega)⟩
theorem aDe(hs:zS calls call){d:Option Nat}{f:FuncId}{xs:List aJ}{st s:AS}(h:dvK call G d f xs st (call f (vI G st xs) [])=some s):
    ∃ n,∀ m,n<=m->dvK (calls m) G d f xs st (calls m f (vI G st xs) [])=some s:=by
  cases hc:call f (vI G st xs) [] with
  | none=>rw[hc] at h;cases h
  | some r=>
    rw[hc] at h;obtain⟨n,hn⟩:=hs _ _ _ _ hc;obtain⟨av,os⟩:=r;cases os with
    | nil=>
      simp only[dvK] at h;cases hr:lC av with
      | true=>rw[hr] at h;exact⟨n,fun m hm=>by rw[hn m hm];simp only[dvK,hr];exact h⟩
      | false=>
        rw[hr] at h;obtain⟨n2,hn2⟩:=Pz hs h;exact⟨max n n2,fun m hm=>by rw[hn m (by omega)];simp only[dvK,hr];exact hn2 m (by omega)⟩
    | cons o os=>
      obtain⟨n2,hn2⟩:=Pz hs (st:=st) h;exact⟨max n n2,fun m hm=>by rw[hn m (by omega)];exact hn2 m (by omega)⟩
theorem tW(hs:zS calls call){d:Option Nat}{f:FuncId}{avs:List AV}{st s:AS}(h:jW call d f avs st=some s):∃ n,∀ m,n<=m->jW (calls m) d f avs st=some s:=by
  unfold jW at *;simp only at h ⊢;split at h
  · rename_i hk
    simp only[hk,if_true];obtain⟨r,h1,h2⟩:=Option.map_eq_some_iff.1 h;obtain⟨n,hn⟩:=hs _ _ _ _ h1;exact⟨n,fun m hm=>by rw[hn m hm];exact congrArg some h2⟩
  · cases h
theorem pZ(hs:zS calls call):zS (fun n=>jZ (calls n)) (jZ call):=fun f a hp r h=>hs f (a.map zR) hp r h
theorem aDf(hs:zS calls call){d:Option Nat}{f:FuncId}{xs:List aJ}{st s:AS}(h:clZ call G d f xs st=some s):∃ n,∀ m,n<=m->clZ (calls m) G d f xs st=some s:=by
  unfold clZ at *;cases hp:pY G st.sl xs with
  | true=>rw[hp] at h;exact aDd hs h
  | false=>rw[hp] at h;exact tW (pZ hs) h
theorem P0(hs:zS calls call){d:Option Nat}{x:aJ}{xs:List aJ}{st s:AS}(h:cvZ call G d x xs st=some s):∃ n,∀ m,n<=m->cvZ (calls m) G d x xs st=some s:=by
  unfold cvZ at *;unfold cvK at *;split at h
  · exact tW (pZ hs) h
  · cases h
theorem P1(hs:zS calls call){st s:AS}{l:List aY}{d:Option Nat}{ai:AI}(h:lP call G st l d ai=some s):∃ n,∀ m,n<=m->lP (calls m) G st l d ai=some s:=by
  cases ai with
  | call f xs=>exact aDf hs h
  | callv x xs=>exact P0 hs h
  | _=>exact⟨0,fun _ _=>h⟩
theorem P2(hs:zS calls call){st s:AS}{l:List aY}{d:Option Nat}{ai:AI}{g:Option (Nat × Bool)}(h:M5 call G st l d ai g=some s):∃ n,∀ m,n<=m->M5 (calls m) G st l d ai g=some s:=by
  cases g with
  | none=>exact P1 hs h
  | some g=>
    simp only[M5] at h ⊢;cases hg:gK g.2 (aK G st.sl (.t g.1)) with
    | none=>rw[hg] at h;cases h
    | some b=>
      rw[hg] at h;cases b with
      | true=>exact P1 hs h
      | false=>exact⟨0,fun _ _=>h⟩
theorem P3(hs:zS calls call):∀ (l:List aY) (st s:AS),Wa call G l (some st)=some s->∃ n,∀ m,n<=m->Wa (calls m) G l (some st)=some s
  | [],st,s,h=>⟨0,fun _ _=>h⟩
  | o::l,st,s,h=>by
    simp only[Wa] at h ⊢;cases ho:M5 call G st l o.dst o.ai o.guard with
    | none=>rw[ho] at h;cases l<;>cases h
    | some s1=>
      rw[ho] at h;obtain⟨n1,h1⟩:=P2 hs ho;obtain⟨n2,h2⟩:=P3 hs l s1 s h;exact⟨max n1 n2,fun m hm=>by rw[h1 m (by omega)];exact h2 m (by omega)⟩
theorem P4(hs:zS calls call){L:List Nat}{st s:AS}{l:List aY}{d:Option Nat}{ai:AI}{g:Option (Nat × Bool)}{b:Bool}(h:Eu call G L st l d ai g b=some s):∃ n,∀ m,n<=m->Eu (calls m) G L st l d ai g b=some s:=by
  cases b with
  | false=>exact P2 hs h
  | true=>
    cases ai with
    | call f xs=>
      simp only[Eu,Jm] at h ⊢;cases hb:Gd L (f+100000) with
      | false=>rw[hb] at h;exact tW (pZ hs) h
      | true=>
        rw[hb] at h;simp only[Yh] at h ⊢;cases hc:call f (vI G st xs) [] with
        | none=>rw[hc] at h;cases h
        | some r=>
          obtain⟨n,hn⟩:=hs _ _ _ _ hc;rw[hc] at h;exact⟨n,fun m hm=>by rw[hn m hm];exact h⟩
    | mk=>exact⟨0,fun _ _=>h⟩
    | cvsb=>exact⟨0,fun _ _=>h⟩
    | _=>cases h
theorem Jp(hs:zS calls call){L:List Nat}:∀ (l:List aY) (st s:AS),yY call G L l (some st)=some s->∃ n,∀ m,n<=m->yY (calls m) G L l (some st)=some s
  | [],st,s,h=>⟨0,fun _ _=>h⟩
  | o::l,st,s,h=>by
    simp only[yY] at h ⊢;cases ho:Eu call G L st l o.dst o.ai o.guard (kR L o.ai o.guard) with
    | none=>rw[ho] at h;cases l<;>cases h
    | some s1=>
      rw[ho] at h;obtain⟨n1,h1⟩:=P4 hs ho;obtain⟨n2,h2⟩:=Jp hs l s1 s h;exact⟨max n1 n2,fun m hm=>by rw[h1 m (by omega)];exact h2 m (by omega)⟩
theorem Bj{n0:Nat}{a b:Option AS}{s:AS}(h:Jn n0 a b=some s):a=some s/\∃ s' p,b=some s'/\pOK n0 s'.hp.length p/\prm p s'=s:=by
  unfold Jn at h;split at h
  · rename_i e
    obtain⟨s1,s',p,h1,h2,h3,h4⟩:=e;rw[h1] at h;injection h with h;subst h;exact⟨h1,s',p,h2,h3,h4⟩
  · cases h
theorem Yn{n0:Nat}{a b:Option AS}{s s':AS}{p:List (Nat × Nat)}(h1:a=some s)(h2:b=some s')(h3:pOK n0 s'.hp.length p)(h4:prm p s'=s):Jn n0 a b=some s:=by
  unfold Jn;rw[if_pos ⟨s,s',p,h1,h2,h3,h4⟩,h1]
theorem aDg(hs:zS calls call){L:List Nat}{n0:Nat}{ops:List aY}:∀ (t:IT) (st s:AS),Jo call G L n0 ops t (some st)=some s->∃ n,∀ m,n<=m->Jo (calls m) G L n0 ops t (some st)=some s:=by
  have node:∀ (t:IT),(∀ (st s:AS),Jo call G L n0 ops t (some st)=some s->∃ n,∀ m,n<=m->Jo (calls m) G L n0 ops t (some st)=some s)->∀ (st s:AS) (i:Nat),
      Jo call G L n0 ops t (Eu call G L st ops (iT ops i).dst (iT ops i).ai (iT ops i).guard (kR L (iT ops i).ai (iT ops i).guard))=some s->
      ∃ n,∀ m,n<=m->Jo (calls m) G L n0 ops t (Eu (calls m) G L st ops (iT ops i).dst (iT ops i).ai (iT ops i).guard (kR L (iT ops i).ai (iT ops i).guard))=some s:=by
    intro t ih st s i h;cases ho:Eu call G L st ops (iT ops i).dst (iT ops i).ai (iT ops i).guard (kR L (iT ops i).ai (iT ops i).guard) with
    | none=>rw[ho] at h;cases t<;>cases h
    | some s1=>
      rw[ho] at h;obtain⟨n1,h1⟩:=P4 hs ho;obtain⟨n2,h2⟩:=ih s1 s h;exact⟨max n1 n2,fun m hm=>by rw[h1 m (by omega)];exact h2 m (by omega)⟩
  intro t
  induction t with
  | nil=>exact fun st s h=>⟨0,fun _ _=>h⟩
  | stop=>exact fun st s h=>by cases h
  | st i t ih=>exact fun st s h=>node t ih st s i h
  | br i t r iht ihr=>
    intro st s h;simp only[Jo] at h ⊢;cases hr:Fw r with
    | true=>rw[hr] at h;exact node t iht st s i h
    | false=>
      rw[hr] at h;obtain⟨h1,s',p,h2,h3,h4⟩:=Bj h;obtain⟨n1,g1⟩:=node t iht st s i h1;obtain⟨n2,g2⟩:=ihr st s' h2;exact⟨max n1 n2,fun m hm=>Yn (g1 m (by omega)) (g2 m (by omega)) h3 h4⟩
theorem Gf(hs:zS calls call){st s:AS}{q:Bool}{d:Option Nat}{ai:AI}(h:Tz call G st d ai q=some s):∃ n,∀ m,n<=m->Tz (calls m) G st d ai q=some s:=by
  cases q with
  | true=>
    simp only[Tz] at h ⊢;cases ai with
    | call f xs=>
      simp only[wU] at h ⊢;cases hk:(jY G st.sl xs).all (cQ fun _=>true) with
      | false=>rw[hk] at h;cases h
      | true=>
        rw[hk] at h;simp only[cond_true] at h ⊢;cases hc:call f (jY G st.sl xs) [] with
        | none=>rw[hc] at h;cases h
        | some r=>
          obtain⟨n,hn⟩:=hs _ _ _ _ hc;rw[hc] at h;exact⟨n,fun m hm=>by rw[hn m hm];exact h⟩
    | _=>exact⟨0,fun _ _=>h⟩
  | false=>
    simp only[Tz] at h ⊢;cases ai with
    | call f xs=>exact aDe hs h
    | callv x xs=>exact P0 hs h
    | _=>exact⟨0,fun _ _=>h⟩
theorem aDh(hs:zS calls call){st s:AS}{q:Bool}{d:Option Nat}{ai:AI}{g:Option (Nat × Bool)}(h:drO call G st q d ai g=some s):∃ n,∀ m,n<=m->drO (calls m) G st q d ai g=some s:=by
  cases g with
  | none=>exact Gf hs h
  | some g=>
    simp only[drO] at h ⊢;cases hg:gK g.2 (aK G st.sl (.t g.1)) with
    | none=>rw[hg] at h;cases h
    | some b=>
      rw[hg] at h;cases b with
      | true=>exact Gf hs h
      | false=>exact⟨0,fun _ _=>h⟩
theorem Jq(hs:zS calls call):∀ (l:List (Bool × aY)) (st s:AS),yZ call G l (some st)=some s->∃ n,∀ m,n<=m->yZ (calls m) G l (some st)=some s
  | [],st,s,h=>⟨0,fun _ _=>h⟩
  | o::l,st,s,h=>by
    simp only[yZ] at h ⊢;cases ho:drO call G st o.1 o.2.dst o.2.ai o.2.guard with
    | none=>rw[ho] at h;cases l<;>cases h
    | some s1=>
      rw[ho] at h;obtain⟨n1,h1⟩:=aDh hs ho;obtain⟨n2,h2⟩:=Jq hs l s1 s h;exact⟨max n1 n2,fun m hm=>by rw[h1 m (by omega)];exact h2 m (by omega)⟩
theorem jN{x:Option AS}{r:Exit × AS}(h:Yl x=some r):∃ s,x=some s/\r=(.normal,s):=by
  cases x with
  | none=>cases h
  | some s=>injection h with h;exact⟨s,rfl,h.symm⟩
theorem aDi{R:List Nat}{x:Nat->Option AS}{y:Option AS}{q:AS × FP}(h:L7 R y=some q)(hx:∀ s,y=some s->∃ n,∀ m,n<=m->x m=some s):∃ n,∀ m,n<=m->L7 R (x m)=some q:=by
  cases y with
  | none=>cases h
  | some s=>
    obtain⟨n,hn⟩:=hx s rfl;exact⟨n,fun m hm=>by rw[hn m hm];exact h⟩
theorem P5(hs:zS calls call){st:AS}{d:Option Nat}{r:Nat}{ai:AI}{q:AS × FP}(h:Ge call G st d r ai=some q):∃ n,∀ m,n<=m->Ge (calls m) G st d r ai=some q:=by
  cases ai with
  | call f xs=>
    simp only[Ge] at h ⊢;generalize (xs.map (aK G st.sl)).flatMap iU=J at h ⊢
    match J with
    | []=>exact aDi (x:=fun m=>wU (calls m) G st d (.call f xs)) h (fun s hq=>Gf hs (show Tz call G st d (.call f xs) true=some s from hq))
    | [id]=>
      simp only[fvC] at h ⊢;unfold fvB at h ⊢;split at h
      · rename_i cs _
        cases hk:(keepL (fun _=>true) cs&&(xs.map (aK G st.sl)).all (cQ (jV [id]))) with
        | false=>rw[hk] at h;cases h
        | true=>
          rw[hk] at h;simp only[cond_true] at h ⊢;cases hc:jZ call f ((xs.map (aK G st.sl)).map (cU (lA [id]))) [.box cs] with
          | none=>rw[hc] at h;cases h
          | some q=>
            obtain⟨n,hn⟩:=pZ hs _ _ _ _ hc;refine⟨n,fun m hm=>?_⟩
            have h':=hn m hm;simp only at h';rw[h',<- hc];exact h
      · cases h
    | _::_::_=>cases h
  | alloc z=>exact⟨0,fun _ _=>h⟩
  | store size x v=>exact⟨0,fun _ _=>h⟩
  | cpys x y=>exact⟨0,fun _ _=>h⟩
  | _=>exact⟨0,fun _ _=>h⟩
theorem aDj(hs:zS calls call){st:AS}{d:Option Nat}{r:Nat}{ai:AI}{g:Option (Nat × Bool)}{q:AS × FP}(h:Yk call G st d r ai g=some q):∃ n,∀ m,n<=m->Yk (calls m) G st d r ai g=some q:=by
  cases g with
  | none=>exact P5 hs h
  | some g=>
    simp only[Yk] at h ⊢;cases hg:gK g.2 (aK G st.sl (.t g.1)) with
    | none=>rw[hg] at h;cases h
    | some b=>
      rw[hg] at h;cases b with
      | true=>exact P5 hs h
      | false=>exact⟨0,fun _ _=>h⟩
theorem P6(hs:zS calls call){prs:List (Nat × Nat)}:∀ (l:List aY) (acc:List FP) (r:Nat) (st s:AS),M6 call G prs acc r l (some st)=some s->∃ n,∀ m,n<=m->M6 (calls m) G prs acc r l (some st)=some s
  | [],acc,r,st,s,h=>⟨0,fun _ _=>h⟩
  | o::l,acc,r,st,s,h=>by
    simp only[M6] at h ⊢;cases ho:Yk call G st o.dst r o.ai o.guard with
    | none=>rw[ho] at h;cases h
    | some q=>
      obtain⟨s1,f⟩:=q;rw[ho] at h;obtain⟨n1,h1⟩:=aDj hs ho;obtain⟨n2,h2⟩:=P6 hs l _ _ s1 s h;exact⟨max n1 n2,fun m hm=>by rw[h1 m (by omega)];exact h2 m (by omega)⟩
theorem P7{runs:Nat->AS->Option (Exit × AS)}{run:AS->Option (Exit × AS)}(hr:∀ st r,run st=some r->∃ n,∀ m,n<=m->runs m st=some r){L:List Nat}{k:Nat}:∀ (i:Nat) (st:AS) r,Dl run L k i st=some r->∃ n,∀ m,n<=m->Dl (runs m) L k i st=some r
  | 0,st,r,h=>by simp[Dl] at h
  | i+1,st,r,h=>by
    simp only[Dl] at h;cases hrun:run st with
    | none=>rw[hrun] at h;cases h
    | some q=>
      obtain⟨n1,h1⟩:=hr _ _ hrun;rw[hrun] at h;obtain⟨e,s⟩:=q;cases e with
      | normal=>
        simp only at h;obtain⟨n2,h2⟩:=P7 hr i _ r h;exact⟨max n1 n2,fun m hm=>by rw[Dl,h1 m (by omega)];exact h2 m (by omega)⟩
      | _=>exact⟨n1,fun m hm=>by rw[Dl,h1 m hm];exact h⟩
theorem aHC(hs:zS calls call):∀ (c:HC) (st:AS) r,EC call G c st=some r->∃ n,∀ m,n<=m->EC (calls m) G c st=some r:=by
  intro c
  induction c with
  | skip=>exact fun st r h=>⟨0,fun _ _=>h⟩
  | ret=>exact fun st r h=>⟨0,fun _ _=>h⟩
  | exit id=>exact fun st r h=>⟨0,fun _ _=>h⟩
  | region ops=>
    intro st r h;simp only[EC] at h ⊢;obtain⟨s,h1,rfl⟩:=jN h;obtain⟨n,hn⟩:=P3 hs ops st s h1;exact⟨n,fun m hm=>by rw[hn m hm];rfl⟩
  | regR L ops=>
    intro st r h;simp only[EC] at h ⊢;obtain⟨s,h1,rfl⟩:=jN h;obtain⟨n,hn⟩:=Jp hs ops st s h1;exact⟨n,fun m hm=>by rw[hn m hm];rfl⟩
  | drawnT L t ops=>
    intro st r h;simp only[EC] at h ⊢;obtain⟨s,h1,rfl⟩:=jN h;obtain⟨n,hn⟩:=aDg hs t st s h1;exact⟨n,fun m hm=>by rw[hn m hm];rfl⟩
  | drawnF prs ops=>
    intro st r h;simp only[EC] at h ⊢;obtain⟨s,h1,rfl⟩:=jN h;obtain⟨n,hn⟩:=P6 hs ops _ _ _ s h1;exact⟨n,fun m hm=>by rw[hn m hm];rfl⟩
  | drawn ops=>
    intro st r h;simp only[EC] at h ⊢;obtain⟨s,h1,rfl⟩:=jN h;obtain⟨n,hn⟩:=Jq hs ops st s h1;exact⟨n,fun m hm=>by rw[hn m hm];rfl⟩
  | seq a b iha ihb=>
    intro st r h;simp only[EC] at h ⊢;cases ha:EC call G a st with
    | none=>rw[ha] at h;cases h
    | some q=>
      obtain⟨n1,h1⟩:=iha _ _ ha;rw[ha] at h;obtain⟨e,s⟩:=q;cases e with
      | normal=>
        obtain⟨n2,h2⟩:=ihb s r h;exact⟨max n1 n2,fun m hm=>by rw[h1 m (by omega)];exact h2 m (by omega)⟩
      | _=>exact⟨n1,fun m hm=>by rw[h1 m hm];exact h⟩
  | cond c a b iha ihb=>
    intro st r h;simp only[EC] at h ⊢;cases hb:cG (aK G st.sl c) with
    | none=>rw[hb] at h;cases h
    | some t=>rw[hb] at h;cases t with
      | true=>exact iha st r h
      | false=>exact ihb st r h
  | block id a iha=>
    intro st r h;simp only[EC] at h ⊢;cases ha:EC call G a st with
    | none=>rw[ha] at h;cases h
    | some q=>
      obtain⟨n1,h1⟩:=iha _ _ ha;rw[ha] at h;exact⟨n1,fun m hm=>by rw[h1 m hm];exact h⟩
  | loop L a iha=>
    intro st r h;simp only[EC] at h ⊢;obtain⟨i,hi⟩:=jM h;obtain⟨n,hn⟩:=P7 (runs:=fun m=>EC (calls m) G a) (fun st r h=>iha st r h) i _ r hi
    exact⟨n,fun m hm=>vJ (hn m hm)⟩
  | gh g a iha=>exact fun st r h=>iha _ r h
  | trm L a iha=>exact fun st r h=>iha _ r h
  | bad=>intro st r h;cases h
theorem Bk(hs:zS calls call){h:HF}{args:List AV}{hp:List aC}{r:AV × List aC}(he:M8 call G h args hp=some r):∃ n,∀ m,n<=m->M8 (calls m) G h args hp=some r:=by
  unfold M8 at *;cases hc:EC call G h.code ⟨args++tN (h.nt - args.length),hp⟩ with
  | none=>rw[hc] at he;cases he
  | some q=>
    obtain⟨n,hn⟩:=aHC hs _ _ _ hc;rw[hc] at he;exact⟨n,fun m hm=>by rw[hn m hm];exact he⟩
theorem qA{T:HT}:∀ (n:Nat) (f:FuncId) (args:List AV) (hp:List aC) (r:AV × List aC),callN G T n f args hp=some r->callN G T (n+1) f args hp=some r
  | 0,f,args,hp,r,h=>by simp[callN] at h
  | n+1,f,args,hp,r,h=>by
    rw[callN] at h ⊢;cases hT:T.tab f with
    | none=>rw[hT] at h;exact h
    | some x=>
      rw[hT] at h;obtain⟨m,hm⟩:=Bk (calls:=fun _=>callN G T (n+1)) (fun f a hp r h=>⟨0,fun _ _=>qA n f a hp r h⟩) h
      exact hm m (aQf _)
theorem T5(T:HT):zS (callN G T) (EV G T):=by
  intro f a hp r h;obtain⟨n,hn⟩:=jM h;refine⟨n,fun m hm=>?_⟩
  induction m with
  | zero=>simp at hm;subst hm;exact hn
  | succ m ih=>
    by_cases he:n=m+1
    · subst he;exact hn
    · exact qA _ _ _ _ _ (ih (by omega))
theorem aGt{T:HT}{f:FuncId}{h:HF}{args:List AV}{hp:List aC}{r:AV × List aC}(hT:T.tab f=some h)(he:M8 (EV G T) G h args hp=some r):EV G T f args hp=some r:=by
  obtain⟨n,hn⟩:=Bk (T5 T) he;refine M9 (n:=n+1) (fun n r h=>qA n f args hp r h) ?_
  rw[callN,hT];exact hn n (aQf _)
theorem jE{T:HT}{f:FuncId}{args:List AV}{hp:List aC}{r:AV × List aC}(hT:T.tab f=none)(he:T.base f args hp=some r):EV G T f args hp=some r:=by
  refine M9 (n:=1) (fun n r h=>qA n f args hp r h) ?_
  rw[callN,hT];exact he
end
end
section
section
variable {P:Program} {G:aH} {k:Nat} {st st' s:AS} {K R Q:AS->Prop} {call:aW}
theorem AC.nzArgs{f:FuncId}{args:List AV}{objs:List aC}{Q:AV->List aC->Prop}(h:AC P G f (args.map zR) objs Q):AC P G f args objs Q:=
  fun F γ vs w hi hg hv=>h F γ vs w hi hg ⟨by simpa using hv.1,fun i av v h1 h2=>by
    rw[aQh] at h1;obtain⟨a0,h3,rfl⟩:=Option.map_eq_some_iff.1 h1;exact X2 (hv.2 i a0 v h3 h2)⟩
theorem Bl{p:Nat->Bool}(c:aR):(X1 c).keep p=c.keep p:=by
  unfold X1;split
  · simp[aR.keep]
  · simp[aR.keep]
  · rfl
theorem Bm{p:Nat->Bool}:∀ (cs:List aR),keepL p (cs.map X1)=keepL p cs
  | []=>rfl
  | c::cs=>by simp[keepL,Bl,Bm cs]
theorem vK{p:Nat->Bool}(v:AV):cQ p (zR v)=cQ p v:=by
  cases v with
  | one c=>simp only[zR,cQ,Bl]
  | agg cs=>simp only[zR,cQ,Bm]
  | tup l=>
    simp only[zR,cQ,List.all_map];congr 1;funext t;cases t with
    | one c=>simp only[Function.comp_apply,nzT,yK,Bl]
    | agg cs=>simp only[Function.comp_apply,nzT,yK,Bm]
  | junk=>rfl
theorem mK{sl:List AV}:∀ xs:List aJ,jY G sl xs=(xs.map (aK G sl)).map zR
  | []=>rfl
  | x::xs=>by simp[jY,mK xs]
theorem P8:∀ xs:List aJ,yX G st xs=(xs.map fun x=>X4 st.hp (aK G st.sl x)).map zR
  | []=>rfl
  | x::xs=>by simp[yX,P8 xs]
theorem rR{hp:List aC}(c:aR):Pt (hp.map aN) c=Pt hp c:=by
  cases c<;>simp only[Pt];rw[bE];cases aI hp _<;>rfl
theorem Yo{hp:List aC}(v:AV):X4 (hp.map aN) v=X4 hp v:=by
  cases v<;>simp only[X4,rR];congr 1;exact aQz (fun c _=>rR c)
theorem Jr{hp:List aC}(c:aR):vwN (hp.map aN) c=vwN hp c:=by unfold vwN;rw[rR]
theorem Yp{hp:List aC}{off:Nat}(o:aC):vpP (hp.map aN) off (aN o)=vpP hp off o:=by
  cases o<;>simp only[aN,vpP,F6];congr 2;exact aQz (fun c _=>Jr c)
theorem Yq{hp:List aC}(c:aR):vwM (hp.map aN) c=vwM hp c:=by
  cases c<;>simp only[vwM,Jr];rw[bE,Yp]
theorem Js{hp:List aC}(c:aR):V8 (hp.map aN) c=V8 hp c:=by
  cases c<;>simp only[V8,rR];rw[bE];cases aI hp _<;>simp only[aN,vqP,F8];congr 2;exact aQz (fun c _=>Yq c)
theorem Yr{hp:List aC}(c:aR):vpC (hp.map aN) c=vpC hp c:=by
  cases c<;>simp only[vpC,Js,F7];congr 1;exact aQz (fun c _=>Js c)
theorem Ys{hp:List aC}(v:AV):V9 (hp.map aN) v=V9 hp v:=by
  cases v<;>simp only[V9,Yr];congr 1;exact aQz (fun c _=>rR c)
theorem P9:∀ xs:List aJ,vI G st xs=(xs.map fun x=>V9 st.hp (aK G st.sl x)).map zR
  | []=>rfl
  | x::xs=>by simp[vI,P9 xs]
theorem Jt{o:aY}(h:exX G (aD s) o=some st'):∃ s',exX G s o=some s'/\aD s'=st':=by
  obtain⟨d,ai,g⟩:=o;have pure:((cT G (aD s) ai).map fun v=>(⟨aO (aD s).sl d v,(aD s).hp⟩:AS))=some st'->∃ s',((cT G s ai).map fun v=>(⟨aO s.sl d v,s.hp⟩:AS))=some s'/\aD s'=st':=by
    intro h;rw[oZ] at h;obtain⟨v,h1,rfl⟩:=Option.map_eq_some_iff.1 h;exact⟨_,by rw[h1];rfl,rfl⟩
  cases ai<;>try exact pure h
  case alloc z=>
    simp only[exX,Option.some.injEq] at h ⊢;exact⟨_,rfl,by rw[<- h];simp[aD,aN]⟩
  case box x=>
    simp only[exX] at h ⊢;obtain⟨cs,h1,rfl⟩:=Option.map_eq_some_iff.1 h;rw[show (aD s).sl=s.sl from rfl] at h1
    exact⟨_,by rw[h1];rfl,by simp[aD,aN]⟩
  case store size x v=>
    simp only[exX] at h ⊢;cases d with
    | some d=>cases h
    | none=>
      simp only[stX,show (aD s).sl=s.sl from rfl] at h ⊢
      split at h
      · rename_i id off hx
        split at h
        · rename_i vs hv
          split at h
          · rename_i cs hb
            rw[aD,bE] at hb;split at h
            · rename_i hc
              injection h with h
              simp only[pA hb,if_pos hc];exact⟨_,rfl,by rw[<- h];simp[aD,aN,aQH]⟩
            · cases h
          · cases h
        · cases h
      · rename_i id i z off hx
        split at h
        · rename_i ds hv
          split at h
          · rename_i c z' es hb
            rw[aD,bE] at hb;obtain⟨cap,hb2,rfl⟩:=mS hb;split at h
            · rename_i e he
              split at h
              · rename_i hc
                injection h with h
                simp only[hb2,he,if_pos hc];exact⟨_,rfl,by rw[<- h];simp[aD,aN,aQH]⟩
              · cases h
            · cases h
          · cases h
        · cases h
      · cases h
  case bslc size len z ps=>
    simp only[exX,bsX] at h ⊢;cases len with
    | zero=>
      simp only at h ⊢;split at h
      · rename_i he
        injection h with h
        simp only[if_pos he];exact⟨_,rfl,by rw[<- h];simp[aD,aN]⟩
      · cases h
    | succ len=>
      simp only at h ⊢;obtain⟨cs,h1,h⟩:=aQX.1 h;obtain⟨ds,h2,h⟩:=aQX.1 h;rw[show (aD s).sl=s.sl from rfl] at h1
      split at h
      · rename_i hl
        injection h with h
        exact⟨⟨aO s.sl d (vl (fA size (len+1) ds)),s.hp⟩,by rw[h1];simp only[aQq,h2,if_pos hl],by rw[<- h];simp[aD]⟩
      · cases h
theorem xD{size:Nat}:∀ {es:List (List DC)},fZ size es=true->∀ e∈es,e.length=size
  | [],_=>by simp
  | x::es,h=>by
    simp only[fZ,aQp,iI,beq_iff_eq] at h;intro e he;rcases List.mem_cons.1 he with rfl | he
    · exact h.1
    · exact xD h.2 e he
theorem Yt(id:Nat)(c:aR):klC id c=cF (·==id) c:=by
  cases c<;>simp only[klC,cF,aR.keep,iI,if_true]
  case ptr j o=>
    by_cases h:j=id
    · simp[h]
    · simp[h,(beq_eq_false_iff_ne.2 h:(j==id)=false)]
  case bld j n=>
    by_cases h:j=id
    · simp[h]
    · simp[h,(beq_eq_false_iff_ne.2 h:(j==id)=false)]
  case ept j i s o=>
    by_cases h:j=id
    · simp[h]
    · simp[h,(beq_eq_false_iff_ne.2 h:(j==id)=false)]
  case bls j i s o=>
    by_cases h:j=id
    · simp[h]
    · simp[h,(beq_eq_false_iff_ne.2 h:(j==id)=false)]
theorem Gg(id:Nat):∀ cs,Jl id cs=cs.map (cF (·==id))
  | []=>rfl
  | c::cs=>by simp[Jl,Yt,Gg id cs]
theorem aHD(id:Nat)(v:AV):klV id v=aZ (·==id) v:=by
  cases v<;>simp only[klV,aZ,Yt,Gg]
theorem Yu(id:Nat):∀ l,klS id l=l.map (aZ (·==id))
  | []=>rfl
  | c::cs=>by simp[klS,aHD,Yu id cs]
theorem aHE(id:Nat)(o:aC):klO id o=cJ (·==id) o:=by
  cases o<;>simp only[klO,cJ,Gg]
theorem Na(id:Nat):∀ l,klH id l=l.map (cJ (·==id))
  | []=>rfl
  | c::cs=>by simp[klH,aHE,Na id cs]
theorem Qa{d:Option Nat}{size bytes:Nat}{z:List Value}{a x:aJ}(h:apZ d size bytes (aD s) (aK G s.sl a) (aK G s.sl x)=some st')(hK:∀ s',aD s'=st'->K s'):rG P G k d (.app size bytes z a x) K s.sl s.hp:=by
  unfold apZ at h;split at h
  · rename_i x1 x2 id n hx
    right
    rw[aD,bE,sJ] at h;unfold apB at h;split at h
    · rename_i c sz es news hb h2
      split at h
      · rename_i hc
        injection h with h
        obtain⟨cap,hb,_⟩:=mS hb;obtain⟨rfl,hc2,hc3,hc4⟩:=hc;exact⟨id,n,cap,es,news,hx,hb,hc2,h2,xD hc3,hc4,fun cap' _=>hK _ (by rw[<- h];simp only[aD,aQH,rL,Yu,Na];rfl)⟩
      · cases h
    · cases h
  · rename_i x1 x2 hx
    left
    rw[aD,sJ] at h;unfold apN at h;split at h
    · rename_i news h2
      split at h
      · rename_i hc
        injection h with h
        exact⟨hx,news,h2,xD hc.1,hc.2,fun cap' _=>hK _ (by rw[<- h];simp only[aD,aQL,rL,aQb,Na];rfl)⟩
      · cases h
    · cases h
  · cases h
theorem Qb{d:Option Nat}{size len:Nat}{z:List Value}{ps:List (Nat × aJ)}(h:bsO G (aD s) d size len z ps=some st')(hK:∀ s',aD s'=st'->K s'):rG P G k d (.bslc size len z ps) K s.sl s.hp:=by
  unfold bsO at h;obtain⟨cs,h1,h⟩:=aQX.1 h;obtain⟨ds,h2,h⟩:=aQX.1 h;split at h
  · rename_i hl
    injection h with h
    obtain⟨g1,g2,g3⟩:=jX size len ds hl;rw[I7] at h1;refine⟨fA size len ds,by rw[g1,<- lO h2];exact h1,g2,g3,hK _ (by rw[<- h];simp[aD,aN])⟩
  · cases h
theorem aHF(hcall:cE P G call){d:Option Nat}{f:FuncId}{xs:List aJ}(h:M3 call G d f xs (aD s)=some st'):
    ∃ av os,(∀ n,xs.map (aK G s.sl)=(xs.map (aK G s.sl)).map (cU (cH [] n)))/\AC P G f (xs.map (aK G s.sl)) [] (fun a o=>a=av/\o.map aN=os)/\
      (⟨aO s.sl d (cU (cH [] s.hp.length) av),s.hp.map aN++os.map (fQ (cH [] s.hp.length))⟩:AS)=st':=by
  unfold M3 at h;cases hk:(jY G (aD s).sl xs).all (cQ fun _=>true) with
  | false=>rw[hk] at h;cases h
  | true=>
    rw[hk] at h;simp only[cond_true] at h;cases hc:call f (jY G (aD s).sl xs) [] with
    | none=>rw[hc] at h;cases h
    | some r=>
      obtain⟨av,os⟩:=r;rw[hc] at h;simp only[nwK,Option.some.injEq] at h;obtain⟨_,g2⟩:=hcall _ _ _ _ _ hc [] rfl;refine⟨av,os,fun n=>?_,(by rw[mK] at g2;exact g2.nzArgs),by rw[<- h];simp[aD]⟩
      conv=>lhs;rw[<- List.map_id (xs.map (aK G s.sl))]
      refine aQz (fun v hv=>(rnV v ?_).symm)
      rw[mK,List.all_map] at hk;have:=aRl.1 hk v hv;rwa[Function.comp_apply,vK] at this
theorem Yv:∀ {os:List aC},Tt os=true->os.map aN=os
  | [],_=>rfl
  | o::os,h=>by
    simp only[Tt,aQp] at h;rw[aQo,Yv h.2];congr 1;cases o<;>try rfl
    have:=h.1;simp only[aHt,iI,beq_iff_eq] at this;simp[aN,this]
theorem aHG(hcall:cE P G call){d:Option Nat}{f:FuncId}{xs:List aJ}(h:dnZ call G d f xs (aD s)=some st'):
    ∃ av os,os.map aN=os/\(∀ n,xs.map (aK G s.sl)=(xs.map (aK G s.sl)).map (cU (cH [] n)))/\AC P G f (xs.map (aK G s.sl)) [] (fun a o=>a=av/\o.map aN=os)/\
      (⟨aO s.sl d (cU (cH [] s.hp.length) av),s.hp.map aN++os.map (fQ (cH [] s.hp.length))⟩:AS)=st':=by
  unfold dnZ at h;cases hk:(jY G (aD s).sl xs).all (cQ fun _=>true) with
  | false=>rw[hk] at h;cases h
  | true=>
    rw[hk,cond_true] at h;cases hc:call f (jY G (aD s).sl xs) [] with
    | none=>rw[hc] at h;cases h
    | some r=>
      obtain⟨av,os⟩:=r;rw[hc] at h;simp only[dnK] at h;cases hn:Tt os with
      | false=>rw[hn] at h;cases h
      | true=>
        rw[hn,cond_true] at h;have h2:M3 call G d f xs (aD s)=some st':=by
          unfold M3;rw[hk,cond_true,hc];exact h
        obtain⟨_,g2⟩:=hcall _ _ _ _ _ hc [] rfl;refine⟨av,os,Yv hn,fun n=>?_,(by rw[mK] at g2;exact g2.nzArgs),by injection h with h;rw[<- h];simp[aD]⟩
        conv=>lhs;rw[<- List.map_id (xs.map (aK G s.sl))]
        refine aQz (fun v hv=>(rnV v ?_).symm)
        rw[mK,List.all_map] at hk;have:=aRl.1 hk v hv;rwa[Function.comp_apply,vK] at this
theorem Qd(hcall:cE P G call){d:Option Nat}{f:FuncId}{xs:List aJ}(h:M3 call G d f xs (aD s)=some st')(hK:∀ s',aD s'=st'->K s'):WR P G k [⟨d,.call f xs,none⟩] K s:=by
  obtain⟨av,os,h1,h2,h3⟩:=aHF hcall h;refine WR.callN (o:=⟨d,.call f xs,none⟩) trivial rfl h2 (h1 _) (fun a o ⟨h4,h5⟩=>WR.nil (hK _ ?_))
  subst h4;rw[<- h3,<- h5];simp only[aD,aQL,aQC];congr 2;exact aQz (fun o _=>mR o)
theorem aDk{xs:List aJ}(hcall:cE P G call){f:FuncId}{av:AV}(hc:call f (yX G (aD s) xs) []=some (av,[])):QC P G f (xs.map fun x=>X4 s.hp (aK G s.sl x)) av:=by
  obtain⟨_,g2⟩:=hcall _ _ _ _ _ hc [] rfl;rw[P8] at g2;have e:(xs.map fun x=>X4 (aD s).hp (aK G (aD s).sl x))=xs.map fun x=>X4 s.hp (aK G s.sl x):=aQz (fun x _=>Yo _)
  rw[e] at g2;exact g2.nzArgs.gh (fun a o ⟨h1,h2⟩ _=>⟨a,o,Gh.refl,aQD _,h1,by simpa using h2⟩)
theorem Qf{xs:List aJ}(hcall:cE P G call){f:FuncId}{av:AV}(hc:call f (vI G (aD s) xs) []=some (av,[])):QC P G f (xs.map fun x=>V9 s.hp (aK G s.sl x)) av:=by
  obtain⟨_,g2⟩:=hcall _ _ _ _ _ hc [] rfl;rw[P9] at g2;have e:(xs.map fun x=>V9 (aD s).hp (aK G (aD s).sl x))=xs.map fun x=>V9 s.hp (aK G s.sl x):=aQz (fun x _=>Ys _)
  rw[e] at g2;exact g2.nzArgs.gh (fun a o ⟨h1,h2⟩ _=>⟨a,o,Gh.refl,aQD _,h1,by simpa using h2⟩)
theorem sM(hcall:cE P G call):cE P G (jZ call):=fun f args hp av o' h hp0 hh=>⟨(hcall f _ hp av o' h hp0 hh).1,(hcall f _ hp av o' h hp0 hh).2.nzArgs⟩
theorem aDl(hcall:cE P G call){d:Option Nat}{f:FuncId}{xs:List aJ}(h:clZ call G d f xs (aD s)=some st')(hK:∀ s',aD s'=st'->K s'):WR P G k [⟨d,.call f xs,none⟩] K s:=by
  unfold clZ at h;obtain⟨s1,hgh,hn⟩:=eX (k:=k) (lD G (aD s).sl xs) s;cases hp:pY G (aD s).sl xs with
  | false=>
    rw[hp,cond_false,<- hn] at h;obtain⟨J,objs,av,o',g1,g2,g3,g4,g5,g6,g7⟩:=pB (sM hcall) h;exact WR.ghost hgh (WR.call (o:=⟨d,.call f xs,none⟩) trivial rfl g2 g3 g4 g5 g6 (fun a o hao=>WR.nil (hK _ (g7 a o hao))))
  | true=>
    rw[hp,cond_true] at h;cases hc:call f (yX G (aD s) xs) [] with
    | none=>rw[hc] at h;cases h
    | some r=>
      obtain⟨av,os⟩:=r;rw[hc] at h;cases os with
      | nil=>
        simp only[Tu] at h;cases hr:lC av with
        | true=>
          rw[hr] at h;injection h with h
          exact WR.callV (o:=⟨d,.call f xs,none⟩) trivial rfl (aDk hcall hc) hr rfl (WR.nil (hK _ (by rw[<- h];rfl)))
        | false=>
          rw[hr,cond_false,<- hn] at h;exact WR.ghost hgh (Qd hcall h hK)
      | cons o os=>
        simp only[Tu] at h;rw[<- hn] at h;exact WR.ghost hgh (Qd hcall h hK)
theorem Qg(hcall:cE P G call){d:Option Nat}{x:aJ}{xs:List aJ}(h:cvZ call G d x xs (aD s)=some st')(hK:∀ s',aD s'=st'->K s'):WR P G k [⟨d,.callv x xs,none⟩] K s:=by
  unfold cvZ at h;obtain⟨s1,hgh,hn⟩:=eX (k:=k) (lD G (aD s).sl xs) s;rw[<- hn] at h;unfold cvK at h;split at h
  · rename_i f caps hx
    obtain⟨J,objs,av,o',g1,g2,g3,g4,g5,g6,g7⟩:=pB (sM hcall) h;exact WR.ghost hgh (WR.callv (o:=⟨d,.callv x xs,none⟩) trivial rfl hx g1 g2 g3 g4 g5 g6 (fun a o hao=>WR.nil (hK _ (g7 a o hao))))
  · cases h
theorem Qh{d:Option Nat}{size bytes:Nat}{z:List Value}{x y:aJ}(h:mkZ G (aD s) d size bytes z x y=some st')(hK:∀ s',aD s'=st'->K s'):WR P G k [⟨d,.mk size bytes z x y,none⟩] K s:=by
  unfold mkZ mkK at h;split at h
  · rename_i n m h1 h2
    split at h
    · rename_i hc
      injection h with h
      exact WR.mk (o:=⟨d,.mk size bytes z x y,none⟩) trivial rfl h1 h2 hc.1 hc.2 (WR.nil (hK _ (by rw[<- h];simp[aD,aN])))
    · cases h
  · cases h
theorem Ju{d:Option Nat}{size id k0 n:Nat}{z:List Value}{x:aJ}(hx:aK G s.sl x=.one (.bls id k0 n size)\/(k0=0/\aK G s.sl x=.one (.bld id n)))
  (h:M4 d (aD s) id k0 n size z (aI (aD s).hp id)=some st') (hK:∀ s',aD s'=st'->K s'):WR P G k [⟨d,.clr size z x,none⟩] K s:=by
 have e0:aI (aD s).hp id=aN (aI s.hp id):=bE id;rw[e0] at h;cases hb:aI s.hp id with
 | box cs=>
  rw[hb] at h;simp only[aN,M4] at h;unfold aKZ at h;split at h
  ·split at h
   ·rename_i hc;obtain⟨rfl,hn,hle⟩:=hc;injection h with h
    refine WR.clrB (o:=⟨d,.clr 1 [_] x,none⟩) trivial rfl hx hb hn hle (WR.nil (hK _ ?_));rw[<- h];simp[aD,aN,aQH]
   ·cases h
  ·cases h
 | dead=>rw[hb] at h;cases h
 | arr cap sz es=>
  rw[hb] at h;simp only[aN,M4] at h;split at h
  ·rename_i hc;obtain⟨rfl,hle⟩:=hc;injection h with h
   by_cases hn:n=0
   ·subst hn;refine WR.clr0 (o:=⟨d,.clr sz z x,none⟩) (id:=id) (k0:=k0) trivial rfl (hx.imp (fun h=>h) And.right) (WR.nil (hK _ ?_))
    rw[<- h,Sw];simp only[aD];congr 1;exact (uR (by rw[bE,hb];rfl) (by simp)).symm
   ·refine WR.clr (o:=⟨d,.clr sz z x,none⟩) trivial rfl hx hb (by omega) hle (WR.nil (hK _ ?_));rw[<- h];simp[aD,aN,aQH]
  ·cases h
theorem Jv{d:Option Nat}{size:Nat}{z:List Value}{x:aJ}(h:Tv G (aD s) d size z x=some st')(hK:∀ s',aD s'=st'->K s'):WR P G k [⟨d,.clr size z x,none⟩] K s:=by
  unfold Tv at h;have e0:(aD s).sl=s.sl:=rfl;rw[e0] at h;cases hx:aK G s.sl x with
  | one c=>
    rw[hx] at h;cases c with
    | bls id k0 n sz=>
      simp only[aHx] at h;split at h
      · rename_i hs;subst hs;exact Ju (.inl hx) h hK
      · cases h
    | bld id n=>exact Ju (.inr ⟨rfl,hx⟩) h hK
    | _=>cases h
  | _=>rw[hx] at h;cases h
theorem Jw{d:Option Nat}{x y:aJ}(h:Tw G (aD s) d x y=some st')(hK:∀ s',aD s'=st'->K s'):WR P G k [⟨d,.cpys x y,none⟩] K s:=by
  unfold Tw at h;have e0:(aD s).sl=s.sl:=rfl;rw[e0] at h;unfold aHy at h;split at h
  · rename_i id lo n z sv hx hy
    split at h
    · rename_i hz
      subst hz;have e1:aI (aD s).hp id=aN (aI s.hp id):=bE id;rw[e1] at h;cases hb:aI s.hp id with
      | arr c sz es=>
        rw[hb] at h;simp only[aN,Yg] at h;split at h
        · rename_i hc
          obtain⟨rfl,hc⟩:=hc;injection h with h;refine WR.cpyA (o:=⟨d,.cpys x y,none⟩) trivial rfl hx hy hb hc (WR.nil (hK _ ?_));rw[<- h];simp[aD,aN,aQH]
        · cases h
      | dead=>rw[hb] at h;cases h
      | box cs=>
        rw[hb] at h;simp only[aN,Yg] at h;split at h
        · rename_i hc
          injection h with h
          refine WR.cpys (o:=⟨d,.cpys x y,none⟩) trivial rfl hx hy hb hc (WR.nil (hK _ ?_));rw[<- h];simp[aD,aN,aQH]
        · cases h
    · cases h
  · cases h
theorem Jx{d:Option Nat}{x:aJ}(h:Tx G (aD s) d x=some st')(hK:∀ s',aD s'=st'->K s'):WR P G k [⟨d,.cvsb x,none⟩] K s:=by
  unfold Tx at h;have e0:(aD s).sl=s.sl:=rfl;rw[e0] at h;cases hx:cS (aK G s.sl x) with
  | none=>rw[hx] at h;cases h
  | some sv=>
    rw[hx] at h;injection h with h
    exact WR.cvsb (o:=⟨d,.cvsb x,none⟩) trivial rfl hx (WR.nil (hK _ (by rw[<- h];rfl)))
theorem Yw{d:Option Nat}{x:aJ}(h:aC9 d (aD s) (cS (aK G (aD s).sl x))=some st')(hK:∀ s',aD s'=st'->K s'):WR P G k [⟨d,.cvsb x,none⟩] K s:=by
  have e0:(aD s).sl=s.sl:=rfl;rw[e0] at h;cases hx:cS (aK G s.sl x) with
  | none=>rw[hx] at h;cases h
  | some sv=>
    rw[hx] at h;injection h with h
    exact WR.cvsA (o:=⟨d,.cvsb x,none⟩) trivial rfl hx (fun cap=>WR.nil (hK _ (by rw[<- h];simp[aD,aN])))
theorem aDm{d:Option Nat}{size bytes:Nat}{z:List Value}{x y:aJ}(h:mbK d size bytes (aD s) z (bP (aK G (aD s).sl x)) (bP (aK G (aD s).sl y))=some st')(hK:∀ s',aD s'=st'->K s'):WR P G k [⟨d,.mk size bytes z x y,none⟩] K s:=by
  have e0:(aD s).sl=s.sl:=rfl;rw[e0] at h;unfold mbK at h;split at h
  · rename_i v n m h1 h2
    split at h
    · rename_i hc
      obtain⟨rfl,hnm,hb⟩:=hc;injection h with h;exact WR.mkB (o:=⟨d,.mk 1 bytes [v] x y,none⟩) trivial rfl h1 h2 hnm hb (WR.nil (hK _ (by rw[<- h];simp[aD,aN])))
    · cases h
  · cases h
theorem zT(hcall:cE P G call){l:List aY}{d:Option Nat}{ai:AI}(h:lP call G (aD s) l d ai=some st')(hK:∀ s',aD s'=st'->K s'):WR P G k [⟨d,ai,none⟩] K s:=by
  have plain:ai.isCall=false->zQ G (aD s) d ai=some st'->WR P G k [⟨d,ai,none⟩] K s:=by
    intro hc h;rw[show zQ G (aD s) d ai=exX G (aD s) ⟨d,ai,none⟩ from tV G (aD s) ⟨d,ai,none⟩] at h
    obtain⟨s',h1,h2⟩:=Jt h;exact WR.exX (o:=⟨d,ai,none⟩) trivial hc h1 (WR.nil (hK _ h2))
  cases ai<;>first | exact plain rfl h | skip
  case call f xs=>exact aDl hcall h hK
  case callv x xs=>exact Qg hcall h hK
  case mk size bytes z x y=>exact Qh h hK
  case clr size z x=>exact Jv h hK
  case cpys x y=>exact Jw h hK
  case cvsb x=>exact Jx h hK
  case app size bytes z a x=>exact rG.run (o:=⟨d,.app size bytes z a x,none⟩) trivial (Qa h hK)
  case apps a x=>cases h
  case bslc size len z ps=>
    simp only[lP] at h;obtain⟨s1,hgh,hn⟩:=eX (k:=k) (Bh G (aD s).sl ps) s;cases hl:aC8 d l with
    | true=>
      rw[hl] at h;simp only[bsZ,<- hn] at h;obtain⟨s',h1,h2⟩:=Jt (o:=⟨d,.bslc size len z ps,none⟩) h;exact WR.ghost hgh (WR.exX (o:=⟨d,.bslc size len z ps,none⟩) trivial rfl h1 (WR.nil (hK _ h2)))
    | false=>
      rw[hl] at h;simp only[bsZ,<- hn] at h;exact WR.ghost hgh (rG.run (o:=⟨d,.bslc size len z ps,none⟩) trivial (Qb h hK))
theorem Bn{g:Nat}{b:Bool}(h:gK b (aK G (aD s).sl (.t g))=some true):iQ G s (some (g,b)):=aCR (st:=aD s) h
theorem Bo{g:Nat}{b:Bool}(h:gK b (aK G (aD s).sl (.t g))=some false):yT G s (some (g,b)):=X3 (st:=aD s) h
theorem Jy(hcall:cE P G call){L:List Nat}{d:Option Nat}{ai:AI}(h:Jm call G L (aD s) d ai=some st')(hK:∀ s',aD s'=st'->K s'):WR P G k [⟨d,ai,none⟩] K s:=by
  cases ai with
  | call f xs=>
    simp only[Jm] at h;cases hb:Gd L (f+100000) with
    | false=>
      rw[hb] at h;obtain⟨J,objs,av,o',g1,g2,g3,g4,g5,g6,g7⟩:=pB (sM hcall) h;exact WR.call (o:=⟨d,.call f xs,none⟩) trivial rfl g2 g3 g4 g5 g6 (fun a o hao=>WR.nil (hK _ (g7 a o hao)))
    | true=>
      rw[hb] at h;simp only[Yh] at h;cases hc:call f (vI G (aD s) xs) [] with
      | none=>rw[hc] at h;cases h
      | some r=>
        obtain⟨av,os⟩:=r;rw[hc] at h;cases os with
        | cons o os=>cases h
        | nil=>
          simp only[vpK] at h;cases hr:lC av with
          | false=>rw[hr] at h;cases h
          | true=>
            rw[hr] at h;injection h with h
            exact WR.callP (o:=⟨d,.call f xs,none⟩) trivial rfl (Qf hcall hc) hr rfl (WR.nil (hK _ (by rw[<- h];rfl)))
  | mk size bytes z x y=>exact aDm h hK
  | cvsb x=>exact Yw h hK
  | _=>cases h
theorem Qi(hcall:cE P G call){l:List aY}{o:aY}{s1:AS}(ho:M5 call G (aD s) l o.dst o.ai o.guard=some s1)(next:∀ s',aD s'=s1->WR P G k l K s'):WR P G k (o::l) K s:=by
  obtain⟨d,ai,g⟩:=o;cases g with
  | none=>exact WR.cons (zT hcall ho next)
  | some g=>
    simp only[M5] at ho;cases hg:gK g.2 (aK G (aD s).sl (.t g.1)) with
    | none=>rw[hg] at ho;cases ho
    | some b=>
      rw[hg] at ho;cases b with
      | true=>exact WR.cons (WR.guard (Bn hg) rfl (zT hcall ho next))
      | false=>
        injection ho with ho
        exact WR.skip (Bo hg) (next _ (by rw[<- ho];rfl))
theorem Yx(hcall:cE P G call):∀ (ops:List aY) (s:AS) (st':AS),Wa call G ops (some (aD s))=some st'->WR P G k ops (fun s'=>aD s'=st') s
  | [],s,st',h=>by simp only[Wa,Option.some.injEq] at h;exact WR.nil h
  | o::l,s,st',h=>by
    simp only[Wa] at h;cases ho:M5 call G (aD s) l o.dst o.ai o.guard with
    | none=>rw[ho] at h;cases l<;>cases h
    | some s1=>
      rw[ho] at h;exact Qi hcall ho (fun s' hs'=>Yx hcall l s' st' (by rw[hs'];exact h))
theorem Qj(hcall:cE P G call){L:List Nat}:∀ (ops:List aY) (s:AS) (st':AS),yY call G L ops (some (aD s))=some st'->WR P G k ops (fun s'=>aD s'=st') s
  | [],s,st',h=>by simp only[yY,Option.some.injEq] at h;exact WR.nil h
  | o::l,s,st',h=>by
    simp only[yY] at h;cases ho:Eu call G L (aD s) l o.dst o.ai o.guard (kR L o.ai o.guard) with
    | none=>rw[ho] at h;cases l<;>cases h
    | some s1=>
      rw[ho] at h;have next:∀ s',aD s'=s1->WR P G k l (fun s'=>aD s'=st') s':=fun s' hs'=>Qj hcall l s' st' (by rw[hs'];exact h)
      cases hr:kR L o.ai o.guard with
      | false=>rw[hr] at ho;exact Qi hcall ho next
      | true=>
        rw[hr] at ho;obtain⟨d,ai,g⟩:=o;cases g with
        | some g=>cases ai<;>simp[kR] at hr
        | none=>exact WR.cons (Jy hcall ho next)
theorem aK2(hcall:cE P G call){L:List Nat}{l:List aY}{o:aY}{s1:AS}(ho:Eu call G L (aD s) l o.dst o.ai o.guard (kR L o.ai o.guard)=some s1)(next:∀ s',aD s'=s1->K s'):AN P G k o K s:=by
  obtain⟨d,ai,g⟩:=o;unfold AN;simp only at ho ⊢;split
  · rename_i hp
    have hr:kR L ai g=false:=by cases ai<;>first | rfl | cases hp
    rw[hr] at ho;simp only[Eu] at ho;have pure:∀ {s1},lP call G (aD s) l d ai=some s1->∃ v,cT G s ai=some v/\aD ⟨aO s.sl d v,s.hp⟩=s1:=by
      intro s1 h;have h2:zQ G (aD s) d ai=some s1:=by cases ai<;>first | exact h | cases hp
      rw[show zQ G (aD s) d ai=exX G (aD s) ⟨d,ai,none⟩ from tV G (aD s) ⟨d,ai,none⟩] at h2
      have h3:(cT G (aD s) ai).map (fun v=>(⟨aO (aD s).sl d v,(aD s).hp⟩:AS))=some s1:=by cases ai<;>first | exact h2 | cases hp
      rw[oZ] at h3;obtain⟨v,h4,h5⟩:=Option.map_eq_some_iff.1 h3;exact⟨v,h4,h5⟩
    cases g with
    | none=>
      obtain⟨v,h1,h2⟩:=pure ho;exact .inr ⟨trivial,v,h1,next _ h2⟩
    | some g=>
      simp only[M5] at ho;cases hg:gK g.2 (aK G (aD s).sl (.t g.1)) with
      | none=>rw[hg] at ho;cases ho
      | some b=>
        rw[hg] at ho;cases b with
        | true=>
          obtain⟨v,h1,h2⟩:=pure ho;exact .inr ⟨Bn hg,v,h1,next _ h2⟩
        | false=>
          injection ho with ho
          exact .inl ⟨Bo hg,next _ (by rw[<- ho];rfl)⟩
  · cases hr:kR L ai g with
    | true=>
      rw[hr] at ho;cases g with
      | some g=>cases ai<;>simp[kR] at hr
      | none=>exact Jy hcall ho next
    | false=>
      rw[hr] at ho;simp only[Eu] at ho;cases g with
      | none=>exact zT hcall ho next
      | some g=>
        simp only[M5] at ho;cases hg:gK g.2 (aK G (aD s).sl (.t g.1)) with
        | none=>rw[hg] at ho;cases ho
        | some b=>
          rw[hg] at ho;cases b with
          | true=>exact WR.guard (Bn hg) rfl (zT hcall ho next)
          | false=>
            injection ho with ho
            exact WR.skip (Bo hg) (WR.nil (next _ (by rw[<- ho];rfl)))
theorem aHH(hcall:cE P G call){L:List Nat}{n0:Nat}{ops:List aY}:∀ (t:IT) (s st':AS),Jo call G L n0 ops t (some (aD s))=some st'->TW P G k ops (fun s'=>∃ p,pOK n0 s'.hp.length p/\aD (prm p s')=st') t s:=by
  have node:∀ (t:IT),(∀ (s st':AS),Jo call G L n0 ops t (some (aD s))=some st'->TW P G k ops (fun s'=>∃ p,pOK n0 s'.hp.length p/\aD (prm p s')=st') t s)->∀ (s st':AS) (i:Nat),
      Jo call G L n0 ops t (Eu call G L (aD s) ops (iT ops i).dst (iT ops i).ai (iT ops i).guard (kR L (iT ops i).ai (iT ops i).guard))=some st'->AN P G k (iT ops i) (TW P G k ops (fun s'=>∃ p,pOK n0 s'.hp.length p/\aD (prm p s')=st') t) s:=by
    intro t ih s st' i h;cases ho:Eu call G L (aD s) ops (iT ops i).dst (iT ops i).ai (iT ops i).guard (kR L (iT ops i).ai (iT ops i).guard) with
    | none=>rw[ho] at h;cases t<;>cases h
    | some s1=>
      rw[ho] at h;exact aK2 hcall ho (fun s' hs'=>ih s' st' (by rw[hs'];exact h))
  intro t
  induction t with
  | nil=>intro s st' h;simp only[Jo,Option.some.injEq] at h;exact⟨[],(fun x hx=>by cases hx),h⟩
  | stop=>intro s st' h;cases h
  | st i t ih=>exact fun s st' h=>node t ih s st' i h
  | br i t r iht ihr=>
    intro s st' h;simp only[Jo] at h;cases hr:Fw r with
    | true=>
      rw[hr] at h;refine⟨node t iht s st' i h, ?_⟩;cases r<;>simp[Fw] at hr;trivial
    | false=>
      rw[hr] at h;obtain⟨h1,s2,p,h2,h3,h4⟩:=Bj h;refine⟨node t iht s st' i h1,TW.mono (fun s' ⟨q,g1,g2⟩=>?_) r s (ihr s s2 h2)⟩
      have hl:s2.hp.length=s'.hp.length:=by rw[<- g2,Ji,Pu]
      refine⟨q++p,fun x hx=>?_, ?_⟩
      · rcases List.mem_append.1 hx with hx | hx
        · exact g1 x hx
        · rw[<- hl];exact h3 x hx
      · rw[Pv,Jh,g2,h4]
theorem aDn{ai:AI}:cT G ⟨(aD s).sl,Fs ai (aD s).hp⟩ ai=cT G ⟨s.sl,Fs ai s.hp⟩ ai:=by
  cases ai<;>first | rfl | exact oZ (s:=⟨s.sl,s.hp⟩)
theorem Yy(hcall:cE P G call){d:Option Nat}{ai:AI}(h:wU call G (aD s) d ai=some st'):
    ∃ v,(cT G ⟨s.sl,Fs ai s.hp⟩ ai=some v\/∃ f args cargs r,ai=.call f args/\QC P G f cargs r/\∀ n,args.map (aK G s.sl)=cargs.map (cU (cH [] n))/\v=cU (cH [] n) r)/\(⟨aO (aD s).sl d v,(aD s).hp⟩:AS)=st':=by
  have plain:gI (aD s) d (V6 G (aD s).sl (Fs ai (aD s).hp) ai)=some st'->∃ v,cT G ⟨s.sl,Fs ai s.hp⟩ ai=some v/\(⟨aO (aD s).sl d v,(aD s).hp⟩:AS)=st':=by
    intro h;rw[Xx,aDn] at h;cases hv:cT G ⟨s.sl,Fs ai s.hp⟩ ai with
    | none=>rw[hv] at h;cases h
    | some v=>rw[hv] at h;injection h with h;exact⟨v,rfl,h⟩
  have other:(∀ f xs,ai≠.call f xs)->∃ v,cT G ⟨s.sl,Fs ai s.hp⟩ ai=some v/\(⟨aO (aD s).sl d v,(aD s).hp⟩:AS)=st':=fun hne=>plain (by
    cases ai<;>first | exact h | (exact absurd rfl (hne _ _)))
  by_cases hcl:∃ f xs,ai=.call f xs
  · obtain⟨f,xs,rfl⟩:=hcl
    simp only[wU] at h;cases hk:(jY G (aD s).sl xs).all (cQ fun _=>true) with
    | false=>rw[hk] at h;cases h
    | true=>
      rw[hk] at h;simp only[cond_true] at h;cases hc:call f (jY G (aD s).sl xs) [] with
      | none=>rw[hc] at h;cases h
      | some r=>
        obtain⟨av,os⟩:=r;rw[hc] at h;have hargs:∀ n,xs.map (aK G s.sl)=(xs.map (aK G s.sl)).map (cU (cH [] n)):=fun n=>by
          conv=>lhs;rw[<- List.map_id (xs.map (aK G s.sl))]
          refine aQz (fun v hv=>(rnV v ?_).symm)
          rw[mK,List.all_map] at hk;have:=aRl.1 hk v hv;rwa[Function.comp_apply,vK] at this
        cases os with
        | cons o os=>
          simp only[qcK,qcF] at h;generalize hv0:aZ (fun id=>decide (0<=id)) ((bR (iU av) ⟨[av],o::os⟩).sl.getD 0 .junk)=v at h
          cases hkv:cQ (fun _=>true) v with
          | false=>rw[hkv] at h;cases h
          | true=>
            rw[hkv] at h;injection h with h
            have g2:QC P G f (jY G (aD s).sl xs) v:=QC.quiet hcall (by
              unfold mT;rw[hc];simp only[aQq];rw[hv0,hkv];rfl)
            refine⟨v,.inr ⟨f,xs,xs.map (aK G s.sl),v,rfl, ?_,fun n=>⟨hargs n,(rnV v hkv).symm⟩⟩,h⟩
            rw[mK] at g2;exact AC.nzArgs g2
        | nil=>
          simp only[qcK] at h;cases hkv:cQ (fun _=>true) av with
          | false=>rw[hkv] at h;cases h
          | true=>
            rw[hkv] at h;injection h with h
            obtain⟨_,g2⟩:=hcall _ _ _ _ _ hc [] rfl;refine⟨av,.inr ⟨f,xs,xs.map (aK G s.sl),av,rfl, ?_,fun n=>⟨?_,(rnV av hkv).symm⟩⟩,h⟩
            · rw[mK] at g2
              exact g2.nzArgs.gh (fun a o ⟨h1,h2⟩ _=>⟨a,o,Gh.refl,aQD _,h1,by simpa using h2⟩)
            · conv=>lhs;rw[<- List.map_id (xs.map (aK G s.sl))]
              refine aQz (fun v hv=>(rnV v ?_).symm)
              rw[mK,List.all_map] at hk;have:=aRl.1 hk v hv;rwa[Function.comp_apply,vK] at this
  · obtain⟨v,h1,h2⟩:=other (fun f xs hh=>hcl ⟨f,xs,hh⟩)
    exact⟨v,.inl h1,h2⟩
theorem aDo(hcall:cE P G call){d:Option Nat}{ai:AI}(h:Yi call G (aD s) d ai=some st')(hK:∀ s',aD s'=st'->K s'):rG P G k d ai K s.sl s.hp:=by
  have dt:∀ {f xs},dnZ call G d f xs (aD s)=some st'->rG P G k d (.call f xs) K s.sl s.hp:=by
    intro f xs h;obtain⟨av,os,h0,h1,h2,h3⟩:=aHG hcall h;refine⟨_,uW.of h2 (h1 _),⟨_,_,av,os,⟨rfl,h0⟩,rfl,rfl⟩, ?_⟩;rintro a o ⟨av0,os0,⟨rfl,h5⟩,rfl,rfl⟩;refine hK _ ?_;rw[<- h3,<- h5];simp only[aD,aQL,aQC];congr 2;exact aQz (fun o _=>mR o)
  cases ai<;>first | (cases h;done) | skip
  case call f xs=>
    simp only[Yi] at h;cases hc:call f (vI G (aD s) xs) [] with
    | none=>rw[hc] at h;cases h
    | some r=>
      obtain⟨av,os⟩:=r;rw[hc] at h;cases os with
      | nil=>
        simp only[dvK] at h;cases hr:lC av with
        | true=>
          rw[hr] at h;injection h with h
          refine⟨_,uW.viewP (Qf hcall hc) hr (by rw[aQC];rfl),⟨av,[],rfl,rfl⟩, ?_⟩;rintro a o ⟨rfl,rfl⟩;rw[aQ6];exact hK _ (by rw[<- h];rfl)
        | false=>rw[hr] at h;exact dt h
      | cons o os=>exact dt h
  case callv x xs=>exact Qg hcall h hK
  case mk size bytes z x y=>exact Qh h hK
  case clr size z x=>exact Jv h hK
  case cpys x y=>exact Jw h hK
  case cvsb x=>exact Jx h hK
  case app size bytes z a x=>exact Qa h hK
  case bslc size len z ps=>exact Qb h hK
  case alloc z=>
    simp only[Yi,zQ,Option.some.injEq] at h;exact hK _ (by rw[<- h];simp[aD,aN])
  case box x=>
    simp only[Yi,zQ] at h;cases hc:cellsOf (aK G (aD s).sl x) with
    | none=>rw[hc] at h;cases h
    | some cs=>rw[hc] at h;injection h with h;exact⟨cs,hc,hK _ (by rw[<- h];simp[aD,aN])⟩
  case store size x v=>
    simp only[Yi,zQ] at h;cases d with
    | some d=>cases h
    | none=>
      refine⟨rfl, ?_⟩;simp only[stD,stX,show (aD s).sl=s.sl from rfl] at h
      split at h
      · rename_i id off hx
        left
        split at h
        · rename_i vs hv
          split at h
          · rename_i cs hb
            rw[aD,bE] at hb;split at h
            · rename_i hc
              injection h with h
              exact⟨id,off,cs,vs,hx,hv,pA hb,hc.1,hc.2,hK _ (by rw[<- h];simp[aD,aN,aQH])⟩
            · cases h
          · cases h
        · cases h
      · rename_i id i z off hx
        right
        split at h
        · rename_i ds hv
          split at h
          · rename_i c z' es hb
            rw[aD,bE] at hb;obtain⟨cap,hb2,rfl⟩:=mS hb;split at h
            · rename_i e he
              split at h
              · rename_i hc
                injection h with h
                obtain⟨rfl,hc1,hc2⟩:=hc;obtain⟨cs,hcs,hdc⟩:=aQX.1 hv;exact⟨id,i,z,off,cap,es,e,ds,hx,by rw[hcs,lO hdc],hb2,he,hc1,hc2,hK _ (by rw[<- h];simp[aD,aN,aQH])⟩
              · cases h
            · cases h
          · cases h
        · cases h
      · cases h
theorem Qk(hcall:cE P G call):∀ (ops:List (Bool × aY)) (s:AS) (st':AS),yZ call G ops (some (aD s))=some st'->jA P G k (fun s'=>aD s'=st') ops s
  | [],s,st',h=>by simp only[yZ,Option.some.injEq] at h;exact h
  | (q,o)::l,s,st',h=>by
    simp only[yZ] at h;cases ho:drO call G (aD s) q o.dst o.ai o.guard with
    | none=>rw[ho] at h;cases l<;>cases h
    | some s1=>
      rw[ho] at h;have next:∀ s',aD s'=s1->jA P G k (fun s'=>aD s'=st') l s':=fun s' hs'=>Qk hcall l s' st' (by rw[hs'];exact h)
      have op:iQ G s o.guard->Tz call G (aD s) o.dst o.ai q=some s1->jA P G k (fun s'=>aD s'=st') ((q,o)::l) s:=by
        intro hg hz;cases q with
        | true=>
          obtain⟨v,h1,h2⟩:=Yy hcall hz;exact⟨v,.inr ⟨hg,h1⟩,next _ (by rw[<- h2];rfl)⟩
        | false=>exact .inr ⟨hg,aDo hcall hz next⟩
      cases hgd:o.guard with
      | none=>rw[hgd] at ho;exact op (by rw[hgd];trivial) ho
      | some g=>
        rw[hgd] at ho;simp only[drO] at ho;cases hg:gK g.2 (aK G (aD s).sl (.t g.1)) with
        | none=>rw[hg] at ho;cases ho
        | some b=>
          rw[hg] at ho;cases b with
          | true=>exact op (by rw[hgd];exact Bn hg) ho
          | false=>
            injection ho with ho
            exact WD.skip (by rw[hgd];exact Bo hg) (next _ (by rw[<- ho];rfl))
theorem Ql{sl:List AV}:∀ {xs:List aJ} {x:aJ} {id:Nat},x∈xs->id∈H2 (aK G sl x)->id∈T3 G sl xs
  | y::xs,x,id,hx,hid=>by
    rw[T3,List.mem_append];rcases List.mem_cons.1 hx with rfl | hx
    · exact .inl hid
    · exact .inr (Ql hx hid)
theorem zU(s:AS)(id:Nat):(aD s).hp[id]?=(s.hp[id]?).map aN:=by simp[aD]
theorem Yz(hcall:cE P G call){o:aY}{r:Nat}{s1:AS}{f:FP}(hk:k<=r)(hgd:iQ G s o.guard)(h:Ge call G (aD s) o.dst r o.ai=some (s1,f)):∃ v u,jK P G k o s v u f.2/\Xj u=f.1/\aD (Ee o s v u)=s1:=by
  have pure:o.ai.isPure=true->L7 (T3 G (aD s).sl (aX o.ai)) (lP call G (aD s) [] o.dst o.ai)=some (s1,f)->lP call G (aD s) [] o.dst o.ai=zQ G (aD s) o.dst o.ai->(∀ st':AS,zQ G st' o.dst o.ai=(cT G st' o.ai).map fun v=>⟨aO st'.sl o.dst v,st'.hp⟩)->∃ v u,jK P G k o s v u f.2/\Xj u=f.1/\aD (Ee o s v u)=s1:=by
    intro _ h e1 e2;rw[e1,e2,oZ] at h;cases hv:cT G s o.ai with
    | none=>rw[hv] at h;cases h
    | some v=>
      rw[hv] at h;simp only[aQg,L7,Option.some.injEq,Prod.mk.injEq] at h;obtain⟨h1,h2⟩:=h;subst h2;exact⟨v,none,.pur v _ hgd hv (fun x hx id hid=>Ql hx hid),rfl,by rw[<- h1];rfl⟩
  have ex:∀ st':AS,o.ai.isPure=true->zQ G st' o.dst o.ai=(cT G st' o.ai).map fun v=>⟨aO st'.sl o.dst v,st'.hp⟩:=by
    intro st' hp;rw[tV];unfold exX;cases hai:o.ai<;>rw[hai] at hp<;>first | rfl | (simp[AI.isPure] at hp;done)
  cases hai:o.ai with
  | alloc z=>
    rw[hai] at h;simp only[Ge,zU] at h;cases hb:s.hp[r]? with
    | none=>rw[hb] at h;cases h
    | some ob=>
      rw[hb] at h;cases ob with
      | dead=>
        simp only[aQg,aN,fvN,Option.some.injEq,Prod.mk.injEq] at h;obtain⟨h1,h2⟩:=h;subst h2;exact⟨_,_,.alloc z r hgd hai hb hk,rfl,by rw[<- h1];simp[aD,Ee,uZ,aN,aQH]⟩
      | box cs=>cases h
      | arr c sz es=>cases h
  | store size x v=>
    rw[hai] at h;simp only[Ge] at h;unfold fvS at h;split at h
    · rename_i id off vs hx hv
      cases hd:o.dst with
      | some d=>rw[hd] at h;cases h
      | none=>
        rw[hd] at h;simp only[zU] at h;cases hb:s.hp[id]? with
        | none=>rw[hb] at h;cases h
        | some ob=>
          rw[hb] at h;cases ob with
          | dead=>cases h
          | arr c sz es=>cases h
          | box cs=>
            simp only[aQg,aN,fvT] at h;split at h
            · rename_i hc
              simp only[Option.some.injEq,Prod.mk.injEq] at h;obtain⟨h1,h2⟩:=h;subst h2;exact⟨_,_,.store size x v id off cs vs hgd hai hd hx hv hb hc.1 hc.2,rfl,by rw[<- h1];simp[aD,Ee,uZ,aN,aQH,aO,hd]⟩
            · cases h
    · cases h
  | bslc size len z ps=>
    rw[hai] at h;simp only[Ge] at h;cases len with
    | zero=>cases h
    | succ len=>
      simp only[fvL] at h;cases hq:bsX G (aD s) o.dst size (len+1) z ps with
      | none=>rw[hq] at h;cases h
      | some s2=>
        rw[hq] at h;simp only[L7,Option.some.injEq,Prod.mk.injEq] at h;obtain⟨h1,h2⟩:=h;subst h2;unfold bsX at hq;simp only at hq;cases hf:iB (zs z ((len+1) * size)) (ps.map fun (j,x)=>(j * size,size,aK G (aD s).sl x)) with
        | none=>simp[hf] at hq
        | some cs=>
          simp only[hf,aQq] at hq;cases hd:dcs cs with
          | none=>simp[hd] at hq
          | some ds=>
            simp only[hd,aQq] at hq;split at hq
            · rename_i hl
              injection hq with hq
              obtain⟨g1,g2,g3⟩:=jX size (len+1) ds hl;rw[I7] at hf;exact⟨_,none,.lit size (len+1) z ps (fA size (len+1) ds) hgd hai (by rw[g1,<- lO hd];exact hf) g2 g3,rfl,by rw[<- h1,<- hq];rfl⟩
            · cases hq
  | cpys x y=>
    rw[hai] at h;simp only[Ge] at h;unfold fvY at h;split at h
    · rename_i id lo n z bs hx hy
      split at h
      · rename_i hz
        subst hz;rw[zU] at h;cases hb:s.hp[id]? with
        | none=>rw[hb] at h;cases h
        | some ob=>
          rw[hb] at h;cases ob with
          | dead=>cases h
          | arr c z es=>cases h
          | box cs=>
            simp only[aQg,aN,aDa] at h;split at h
            · rename_i hc
              simp only[Option.some.injEq,Prod.mk.injEq] at h;obtain⟨h1,h2⟩:=h;subst h2;exact⟨_,_,.cpy x y id lo n bs cs hgd hai hx hy hb hc,rfl,by rw[<- h1];simp[aD,Ee,uZ,aN,aQH]⟩
            · cases h
      · cases h
    · cases h
  | call g xs=>
    rw[hai] at h;simp only[Ge] at h;generalize ((xs.map (aK G (aD s).sl)).flatMap iU)=J at h
    match J with
    | []=>
      simp only[fvC] at h;cases hq:wU call G (aD s) o.dst (.call g xs) with
      | none=>rw[hq] at h;cases h
      | some s2=>
        rw[hq] at h;simp only[L7,Option.some.injEq,Prod.mk.injEq] at h;obtain⟨h1,h2⟩:=h;subst h2;obtain⟨v,hv,he⟩:=Yy hcall hq;rcases hv with hv | ⟨f',args,cargs,r',e1,e2,e3⟩
        · simp[cT] at hv
        · exact⟨v,none,.call f' args cargs r' v hgd (hai.trans e1) e2 e3,rfl,by rw[<- h1,<- he];rfl⟩
    | [id]=>
      simp only[fvC,zU] at h;cases hb:s.hp[id]? with
      | none=>rw[hb] at h;cases h
      | some ob=>
        rw[hb] at h;cases ob with
        | dead=>cases h
        | arr c z es=>cases h
        | box cs=>
          simp only[aQg,aN,fvB] at h;cases hk:(keepL (fun _=>true) cs&&(xs.map (aK G (aD s).sl)).all (cQ (jV [id]))) with
          | false=>rw[hk] at h;cases h
          | true=>
            rw[hk] at h;simp only[cond_true] at h;simp only[aQp] at hk;unfold Yj at h;split at h
            · rename_i cs' hc
              cases hk2:keepL (fun _=>true) cs' with
              | false=>rw[hk2] at h;cases h
              | true=>
                rw[hk2] at h;simp only[cond_true,Option.some.injEq,Prod.mk.injEq] at h;obtain⟨h1,h2⟩:=h;subst h2;obtain⟨_,hA⟩:=sM hcall _ _ _ _ _ hc [.box cs] rfl;refine⟨.tup [],some (id,.box cs'),.callB g xs _ id cs cs' hgd hai hb (hA.gh (fun a o' ⟨q1,q2⟩ hl=>⟨a,o',Gh.refl,hl,q1, ?_⟩)) (fun n=>?_) (fun n=>⟨?_, ?_⟩),rfl,by rw[<- h1];simp[aD,Ee,uZ,aN,aQH]⟩
                · obtain⟨x,rfl⟩:=List.length_eq_one_iff.1 (by have:=congrArg List.length q2;simpa using this:o'.length=1)
                  simp only[aQo,aQn,List.cons.injEq,and_true] at q2;rw[pA q2]
                · rw[aQC]
                  conv=>lhs;rw[<- List.map_id (xs.map (aK G s.sl))]
                  exact aQz (fun v hv=>(rtV v (aRl.1 hk.2 v hv)).symm)
                · simp only[fQ,<- nF,rnL _ hk.1]
                · simp only[fQ,<- nF,rnL _ hk2]
            · cases h
    | _::_::_=>cases h
  | _=>
    rw[hai] at h
    first
      | (refine pure (by rw[hai];rfl) (by rw[hai];exact h) (by rw[hai];rfl) (fun st'=>ex st' (by rw[hai];rfl)))
      | (cases h;done)
theorem aHI(hcall:cE P G call){o:aY}{r:Nat}{s1:AS}{f:FP}(hk:k<=r)(h:Yk call G (aD s) o.dst r o.ai o.guard=some (s1,f)):∃ v u,jK P G k o s v u f.2/\Xj u=f.1/\aD (Ee o s v u)=s1:=by
  cases hgd:o.guard with
  | none=>rw[hgd] at h;exact Yz hcall hk (by rw[hgd];trivial) h
  | some g=>
    rw[hgd] at h;simp only[Yk] at h;cases hg:gK g.2 (aK G (aD s).sl (.t g.1)) with
    | none=>rw[hg] at h;cases h
    | some b=>
      rw[hg] at h;cases b with
      | true=>exact Yz hcall hk (by rw[hgd];exact Bn hg) h
      | false=>
        simp only[fvG,Option.some.injEq,Prod.mk.injEq] at h;obtain⟨h1,h2⟩:=h;subst h2;exact⟨_,none,.skip (by rw[hgd];exact Bo hg),rfl,by rw[<- h1];rfl⟩
theorem Y0(hcall:cE P G call){prs:List (Nat × Nat)}:∀ (ops:List aY) (acc:List FP) (r:Nat) (s:AS) (st':AS),k<=r->M6 call G prs acc r ops (some (aD s))=some st'->
    ∃ L:List FE,L.map (·.1)=ops/\kN P G k (fun s'=>aD s'=st') L s/\Dv prs (acc++L.map (·.2))=true
  | [],acc,r,s,st',hk,h=>by
    simp only[M6] at h;cases hc:Dv prs acc with
    | false=>rw[hc] at h;cases h
    | true=>
      rw[hc] at h;injection h with h
      exact⟨[],rfl,h,by simpa using hc⟩
  | o::ops,acc,r,s,st',hk,h=>by
    simp only[M6] at h;cases ho:Yk call G (aD s) o.dst r o.ai o.guard with
    | none=>rw[ho] at h;cases h
    | some q=>
      obtain⟨s1,f⟩:=q;rw[ho] at h;obtain⟨v,u,hs,hw,hn⟩:=aHI hcall hk ho;simp only[<- hn] at h;obtain⟨L,hL,hR,hC⟩:=Y0 hcall ops (acc++[f]) _ (Ee o s v u) st' (by cases T1 o.ai<;>simp<;>omega) h;exact⟨(o,f)::L,by simp[hL],⟨v,u,f.2,hs,hw,rfl,hR⟩,by simpa using hC⟩
theorem Qm:∀ (L:List Nat) (n:Nat),aDb L n=L.contains n
  | [],n=>rfl
  | x::L,n=>by
    rw[aDb,Qm L n,iI,List.contains_cons]
theorem Qn:∀ (a b:List Nat),Du a b=rI a b
  | [],b=>rfl
  | x::a,b=>by rw[Du,Qn a b,Qm];rfl
theorem Nb:∀ (fs:List FE) (n:Nat),atF (fs.map (·.2)) n=(fs.getD n nC).2
  | [],n=>by cases n<;>rfl
  | f::fs,0=>rfl
  | f::fs,n+1=>by rw[aQo,atF,Nb fs n];simp[aQl]
theorem T6{a b c:List Nat}:rI a (b++c)=(rI a b&&rI a c):=by
  unfold rI;rw[aRn];simp only[aRl,aQp,aRh,List.contains_eq_mem,decide_eq_false_iff_not,List.mem_append,not_or];exact⟨fun h=>⟨fun x hx=>(h x hx).1,fun x hx=>(h x hx).2⟩,fun h x hx=>⟨h.1 x hx,h.2 x hx⟩⟩
theorem Qp{L:List FE}:∀ (prs:List (Nat × Nat)),Dv prs (L.map (·.2))=true->∀ p∈prs,dsj (L.getD p.1 nC).2 (L.getD p.2 nC).2=true
  | [],_,p,hp=>by cases hp
  | (a,b)::prs,h,p,hp=>by
    simp only[Dv,aQp] at h;rcases List.mem_cons.1 hp with rfl | hp
    · have h1:=h.1
      rw[Nb,Nb] at h1;show dsj (L.getD a nC).2 (L.getD b nC).2=true;revert h1;generalize (L.getD a nC).2=x;generalize (L.getD b nC).2=y;obtain⟨w,r⟩:=x;obtain⟨w',r'⟩:=y;intro h1;simp only[dsM,Qn] at h1;simp only[dsj,T6];simp only[aQp] at h1 ⊢;exact⟨⟨h1.1,h1.2.1⟩,h1.2.2⟩
    · exact Qp prs h.2 p hp
theorem Jz:∀ n,yM n=List.replicate n .dead
  | 0=>rfl
  | n+1=>by rw[yM,Jz n,List.replicate_succ]
theorem Nc(hcall:cE P G call){prs:List (Nat × Nat)}{ops:List aY}{s st':AS}(hk:k<=s.hp.length)(h:M6 call G prs [] (aD s).hp.length ops (some ⟨(aD s).sl,(aD s).hp++yM (Wb ops)⟩)=some st'){Q:Exit->AS->Prop}(hQ:∀ s',aD s'=st'->Q .normal s'):
    AW P G k (.drawnF prs ops) Q s:=by
  refine AW.ghost (Gh.dead (Wb ops)) ?_;have e:(⟨(aD s).sl,(aD s).hp++yM (Wb ops)⟩:AS)=aD ⟨s.sl,s.hp++List.replicate (Wb ops) .dead⟩:=by
    simp[aD,Jz,aN]
  rw[e] at h;obtain⟨L,hL,hR,hC⟩:=Y0 hcall ops [] _ _ st' (by simpa[aD] using hk) h;exact AW.drawnF hL (Qp prs (by simpa using hC)) (kN.mono hQ hR)
end
end
end Go.Proofs.YtcplecjhmnblpaaGreatDoor
