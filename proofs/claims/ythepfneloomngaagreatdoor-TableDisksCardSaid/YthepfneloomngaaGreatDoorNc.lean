/- The evaluator's answers are contracts. Conditions: none. -/
import Derived.Test.YthepfneloomngaaGreatDoorNa
namespace Go.Proofs.YthepfneloomngaaGreatDoor
set_option linter.unusedSimpArgs false
set_option linter.unusedVariables false
section
section
variable {α:Type}
theorem Sm{f:Nat->Option α}(hm:∀ n r,f n=some r->f (n+1)=some r){n:Nat}{r:α}(h:f n=some r):lim f=some r:=by
  have mono:∀ n r,f n=some r->∀ m,n<=m->f m=some r:=by
    intro n r h m hle
    induction m with
    | zero=>simp at hle;subst hle;exact h
    | succ m ih=>
      by_cases he:n=m+1
      · subst he;exact h
      · exact hm _ _ (ih (by omega))
  have hx:∃ n r,f n=some r:=⟨n,r,h⟩;unfold lim;rw[dif_pos hx];obtain⟨r',hr'⟩:=hx.choose_spec;have h1:=mono _ _ hr' (max hx.choose n) (Nat.le_max_left _ _);have h2:=mono _ _ h (max hx.choose n) (Nat.le_max_right _ _);rw[hr',<- h1,h2]
theorem jM{f:Nat->Option α}{r:α}(h:lim f=some r):∃ n,f n=some r:=by
  unfold lim at h;split at h
  · exact⟨_,h⟩
  · cases h
end
section
variable {run:AS->Option (Exit × AS)} {L:List Nat} {m:Nat}
theorem F3:∀ (n:Nat) (st:AS) r,H3 run L m n st=some r->H3 run L m (n+1) st=some r
  | 0,st,r,h=>by simp[H3] at h
  | n+1,st,r,h=>by
    rw[H3] at h ⊢;split at h
    · exact F3 n _ r h
    · exact h
theorem zV{n:Nat}{st:AS}{r:Exit × AS}(h:H3 run L m n st=some r):uJ run L m st=some r:=Sm (fun n r h=>F3 n st r h) h
theorem aCn(st:AS){s:AS}(h:run st=some (.normal,s)):uJ run L m st=uJ run L m (jL L m s):=by
  have e:∀ n,H3 run L m (n+1) st=H3 run L m n (jL L m s):=fun n=>by rw[H3,h]
  cases hr:uJ run L m (jL L m s) with
  | some r=>
    obtain⟨n,hn⟩:=jM hr;exact zV (n:=n+1) (by rw[e];exact hn)
  | none=>
    cases hl:uJ run L m st with
    | none=>rfl
    | some r=>
      obtain⟨n,hn⟩:=jM hl;have:uJ run L m (jL L m s)=some r:=zV (n:=n) (by rw[<- e];exact F3 _ _ _ hn);rw[hr] at this;cases this
theorem Zj{st:AS}{e:Exit}{s:AS}(h:run st=some (e,s))(he:e≠.normal):uJ run L m st=some (e,s):=by
  refine zV (n:=1) ?_;rw[H3,h];split
  · rename_i h1;injection h1 with h1;injection h1 with h1;exact absurd h1 he
  · rfl
end
def Eb(calls:Nat->aO)(call:aO):Prop:=∀ f a hp r,call f a hp=some r->∃ n,∀ m,n<=m->calls m f a hp=some r
section
variable {calls:Nat->aO} {call:aO} {G:aF}
theorem Vg(hs:Eb calls call){d:Option Nat}{f:FuncId}{xs:List aH}{st s:AS}(h:Sg call G d f xs st=some s):∃ n,∀ m,n<=m->Sg (calls m) G d f xs st=some s:=by
  unfold Sg at *;cases hk:(jX G st.sl xs).all (cU fun _=>true) with
  | false=>rw[hk] at h;cases h
  | true=>
    rw[hk] at h;simp only[cond_true] at h ⊢;cases hc:call f (jX G st.sl xs) [] with
    | none=>rw[hc] at h;cases h
    | some r=>
      obtain⟨n,hn⟩:=hs _ _ _ _ hc;rw[hc] at h;exact⟨n,fun m hm=>by rw[hn m hm];exact h⟩
theorem Vh(hs:Eb calls call){d:Option Nat}{f:FuncId}{xs:List aH}{st s:AS}(h:dnZ call G d f xs st=some s):∃ n,∀ m,n<=m->dnZ (calls m) G d f xs st=some s:=by
  unfold dnZ at *;cases hk:(jX G st.sl xs).all (cU fun _=>true) with
  | false=>rw[hk] at h;cases h
  | true=>
    rw[hk] at h;simp only[cond_true] at h ⊢;cases hc:call f (jX G st.sl xs) [] with
    | none=>rw[hc] at h;cases h
    | some r=>
      obtain⟨n,hn⟩:=hs _ _ _ _ hc;rw[hc] at h;exact⟨n,fun m hm=>by rw[hn m hm];exact h⟩
theorem aGQ(hs:Eb calls call){d:Option Nat}{f:FuncId}{xs:List aH}{st s:AS}(h:Y9 call G d f xs st (call f (Dl G st xs) [])=some s):
    ∃ n,∀ m,n<=m->Y9 (calls m) G d f xs st (calls m f (Dl G st xs) [])=some s:=by
  cases hc:call f (Dl G st xs) [] with
  | none=>rw[hc] at h;cases h
  | some r=>
    rw[hc] at h;obtain⟨n,hn⟩:=hs _ _ _ _ hc;obtain⟨av,os⟩:=r;cases os with
    | nil=>
      simp only[Y9] at h;cases hr:kX av with
      | true=>rw[hr] at h;exact⟨n,fun m hm=>by rw[hn m hm];simp only[Y9,hr];exact h⟩
      | false=>
        rw[hr] at h;obtain⟨n2,hn2⟩:=Vg hs h;exact⟨max n n2,fun m hm=>by rw[hn m (by omega)];simp only[Y9,hr];exact hn2 m (by omega)⟩
    | cons o os=>
      obtain⟨n2,hn2⟩:=Vg hs (st:=bR (kY G st.sl xs) st) h;exact⟨max n n2,fun m hm=>by rw[hn m (by omega)];exact hn2 m (by omega)⟩
theorem aGR(hs:Eb calls call){d:Option Nat}{f:FuncId}{xs:List aH}{st s:AS}(h:dvK call G d f xs st (call f (zT G st xs) [])=some s):
    ∃ n,∀ m,n<=m->dvK (calls m) G d f xs st (calls m f (zT G st xs) [])=some s:=by
  cases hc:call f (zT G st xs) [] with
  | none=>rw[hc] at h;cases h
  | some r=>
    rw[hc] at h;obtain⟨n,hn⟩:=hs _ _ _ _ hc;obtain⟨av,os⟩:=r;cases os with
    | nil=>
      simp only[dvK] at h;cases hr:kX av with
      | true=>rw[hr] at h;exact⟨n,fun m hm=>by rw[hn m hm];simp only[dvK,hr];exact h⟩
      | false=>
        rw[hr] at h;obtain⟨n2,hn2⟩:=Vh hs h;exact⟨max n n2,fun m hm=>by rw[hn m (by omega)];simp only[dvK,hr];exact hn2 m (by omega)⟩
    | cons o os=>
      obtain⟨n2,hn2⟩:=Vh hs (st:=st) h;exact⟨max n n2,fun m hm=>by rw[hn m (by omega)];exact hn2 m (by omega)⟩
theorem uR(hs:Eb calls call){d:Option Nat}{f:FuncId}{avs:List AV}{st s:AS}(h:jV call d f avs st=some s):∃ n,∀ m,n<=m->jV (calls m) d f avs st=some s:=by
  unfold jV at *;simp only at h ⊢;split at h
  · rename_i hk
    simp only[hk,if_true];obtain⟨r,h1,h2⟩:=Option.map_eq_some_iff.1 h;obtain⟨n,hn⟩:=hs _ _ _ _ h1;exact⟨n,fun m hm=>by rw[hn m hm];exact congrArg some h2⟩
  · cases h
theorem qH(hs:Eb calls call):Eb (fun n=>jY (calls n)) (jY call):=fun f a hp r h=>hs f (a.map Dj) hp r h
theorem aGS(hs:Eb calls call){d:Option Nat}{f:FuncId}{xs:List aH}{st s:AS}(h:clZ call G d f xs st=some s):∃ n,∀ m,n<=m->clZ (calls m) G d f xs st=some s:=by
  unfold clZ at *;cases hp:qG G st.sl xs with
  | true=>rw[hp] at h;exact aGQ hs h
  | false=>rw[hp] at h;exact uR (qH hs) h
theorem Vi(hs:Eb calls call){d:Option Nat}{x:aH}{xs:List aH}{st s:AS}(h:cvZ call G d x xs st=some s):∃ n,∀ m,n<=m->cvZ (calls m) G d x xs st=some s:=by
  unfold cvZ at *;unfold cvK at *;split at h
  · exact uR (qH hs) h
  · cases h
theorem Vj(hs:Eb calls call){st s:AS}{l:List aM}{d:Option Nat}{ai:AI}(h:lF call G st l d ai=some s):∃ n,∀ m,n<=m->lF (calls m) G st l d ai=some s:=by
  cases ai with
  | call f xs=>exact aGS hs h
  | callv x xs=>exact Vi hs h
  | _=>exact⟨0,fun _ _=>h⟩
theorem Vk(hs:Eb calls call){st s:AS}{l:List aM}{d:Option Nat}{ai:AI}{g:Option (Nat × Bool)}(h:Si call G st l d ai g=some s):∃ n,∀ m,n<=m->Si (calls m) G st l d ai g=some s:=by
  cases g with
  | none=>exact Vj hs h
  | some g=>
    simp only[Si] at h ⊢;cases hg:gK g.2 (aJ G st.sl (.t g.1)) with
    | none=>rw[hg] at h;cases h
    | some b=>
      rw[hg] at h;cases b with
      | true=>exact Vj hs h
      | false=>exact⟨0,fun _ _=>h⟩
theorem Vl(hs:Eb calls call):∀ (l:List aM) (st s:AS),evR call G l (some st)=some s->∃ n,∀ m,n<=m->evR (calls m) G l (some st)=some s
  | [],st,s,h=>⟨0,fun _ _=>h⟩
  | o::l,st,s,h=>by
    simp only[evR] at h ⊢;cases ho:Si call G st l o.dst o.ai o.guard with
    | none=>rw[ho] at h;cases l<;>cases h
    | some s1=>
      rw[ho] at h;obtain⟨n1,h1⟩:=Vk hs ho;obtain⟨n2,h2⟩:=Vl hs l s1 s h;exact⟨max n1 n2,fun m hm=>by rw[h1 m (by omega)];exact h2 m (by omega)⟩
theorem Vm(hs:Eb calls call){L:List Nat}{st s:AS}{l:List aM}{d:Option Nat}{ai:AI}{g:Option (Nat × Bool)}{b:Bool}(h:Fx call G L st l d ai g b=some s):∃ n,∀ m,n<=m->Fx (calls m) G L st l d ai g b=some s:=by
  cases b with
  | false=>exact Vk hs h
  | true=>
    cases ai with
    | call f xs=>
      simp only[Fx,N3] at h ⊢;cases hb:Kx L (f+100000) with
      | false=>rw[hb] at h;exact uR (qH hs) h
      | true=>
        rw[hb] at h;simp only[aCk] at h ⊢;cases hc:call f (zT G st xs) [] with
        | none=>rw[hc] at h;cases h
        | some r=>
          obtain⟨n,hn⟩:=hs _ _ _ _ hc;rw[hc] at h;exact⟨n,fun m hm=>by rw[hn m hm];exact h⟩
    | mk=>exact⟨0,fun _ _=>h⟩
    | cvsb=>exact⟨0,fun _ _=>h⟩
    | _=>cases h
theorem N5(hs:Eb calls call){L:List Nat}:∀ (l:List aM) (st s:AS),Dm call G L l (some st)=some s->∃ n,∀ m,n<=m->Dm (calls m) G L l (some st)=some s
  | [],st,s,h=>⟨0,fun _ _=>h⟩
  | o::l,st,s,h=>by
    simp only[Dm] at h ⊢;cases ho:Fx call G L st l o.dst o.ai o.guard (jF L o.ai o.guard) with
    | none=>rw[ho] at h;cases l<;>cases h
    | some s1=>
      rw[ho] at h;obtain⟨n1,h1⟩:=Vm hs ho;obtain⟨n2,h2⟩:=N5 hs l s1 s h;exact⟨max n1 n2,fun m hm=>by rw[h1 m (by omega)];exact h2 m (by omega)⟩
theorem F4{n0:Nat}{a b:Option AS}{s:AS}(h:C0 n0 a b=some s):a=some s/\∃ s' p,b=some s'/\pOK n0 s'.hp.length p/\prm p s'=s:=by
  unfold C0 at h;split at h
  · rename_i e
    obtain⟨s1,s',p,h1,h2,h3,h4⟩:=e;rw[h1] at h;injection h with h;subst h;exact⟨h1,s',p,h2,h3,h4⟩
  · cases h
theorem N6{n0:Nat}{a b:Option AS}{s s':AS}{p:List (Nat × Nat)}(h1:a=some s)(h2:b=some s')(h3:pOK n0 s'.hp.length p)(h4:prm p s'=s):C0 n0 a b=some s:=by
  unfold C0;rw[if_pos ⟨s,s',p,h1,h2,h3,h4⟩,h1]
theorem aGT(hs:Eb calls call){L:List Nat}{n0:Nat}{ops:List aM}:∀ (t:IT) (st s:AS),C1 call G L n0 ops t (some st)=some s->∃ n,∀ m,n<=m->C1 (calls m) G L n0 ops t (some st)=some s:=by
  have node:∀ (t:IT),(∀ (st s:AS),C1 call G L n0 ops t (some st)=some s->∃ n,∀ m,n<=m->C1 (calls m) G L n0 ops t (some st)=some s)->∀ (st s:AS) (i:Nat),
      C1 call G L n0 ops t (Fx call G L st ops (gE ops i).dst (gE ops i).ai (gE ops i).guard (jF L (gE ops i).ai (gE ops i).guard))=some s->
      ∃ n,∀ m,n<=m->C1 (calls m) G L n0 ops t (Fx (calls m) G L st ops (gE ops i).dst (gE ops i).ai (gE ops i).guard (jF L (gE ops i).ai (gE ops i).guard))=some s:=by
    intro t ih st s i h;cases ho:Fx call G L st ops (gE ops i).dst (gE ops i).ai (gE ops i).guard (jF L (gE ops i).ai (gE ops i).guard) with
    | none=>rw[ho] at h;cases t<;>cases h
    | some s1=>
      rw[ho] at h;obtain⟨n1,h1⟩:=Vm hs ho;obtain⟨n2,h2⟩:=ih s1 s h;exact⟨max n1 n2,fun m hm=>by rw[h1 m (by omega)];exact h2 m (by omega)⟩
  intro t
  induction t with
  | nil=>exact fun st s h=>⟨0,fun _ _=>h⟩
  | stop=>exact fun st s h=>by cases h
  | st i t ih=>exact fun st s h=>node t ih st s i h
  | br i t r iht ihr=>
    intro st s h;simp only[C1] at h ⊢;cases hr:Kk r with
    | true=>rw[hr] at h;exact node t iht st s i h
    | false=>
      rw[hr] at h;obtain⟨h1,s',p,h2,h3,h4⟩:=F4 h;obtain⟨n1,g1⟩:=node t iht st s i h1;obtain⟨n2,g2⟩:=ihr st s' h2;exact⟨max n1 n2,fun m hm=>N6 (g1 m (by omega)) (g2 m (by omega)) h3 h4⟩
theorem Ky(hs:Eb calls call){st s:AS}{q:Bool}{d:Option Nat}{ai:AI}(h:Ze call G st d ai q=some s):∃ n,∀ m,n<=m->Ze (calls m) G st d ai q=some s:=by
  cases q with
  | true=>
    simp only[Ze] at h ⊢;cases ai with
    | call f xs=>
      simp only[Bb] at h ⊢;cases hk:(jX G st.sl xs).all (cU fun _=>true) with
      | false=>rw[hk] at h;cases h
      | true=>
        rw[hk] at h;simp only[cond_true] at h ⊢;cases hc:call f (jX G st.sl xs) [] with
        | none=>rw[hc] at h;cases h
        | some r=>
          obtain⟨n,hn⟩:=hs _ _ _ _ hc;rw[hc] at h;exact⟨n,fun m hm=>by rw[hn m hm];exact h⟩
    | _=>exact⟨0,fun _ _=>h⟩
  | false=>
    simp only[Ze] at h ⊢;cases ai with
    | call f xs=>exact aGR hs h
    | callv x xs=>exact Vi hs h
    | _=>exact⟨0,fun _ _=>h⟩
theorem aGU(hs:Eb calls call){st s:AS}{q:Bool}{d:Option Nat}{ai:AI}{g:Option (Nat × Bool)}(h:drO call G st q d ai g=some s):∃ n,∀ m,n<=m->drO (calls m) G st q d ai g=some s:=by
  cases g with
  | none=>exact Ky hs h
  | some g=>
    simp only[drO] at h ⊢;cases hg:gK g.2 (aJ G st.sl (.t g.1)) with
    | none=>rw[hg] at h;cases h
    | some b=>
      rw[hg] at h;cases b with
      | true=>exact Ky hs h
      | false=>exact⟨0,fun _ _=>h⟩
theorem N7(hs:Eb calls call):∀ (l:List (Bool × aM)) (st s:AS),Dn call G l (some st)=some s->∃ n,∀ m,n<=m->Dn (calls m) G l (some st)=some s
  | [],st,s,h=>⟨0,fun _ _=>h⟩
  | o::l,st,s,h=>by
    simp only[Dn] at h ⊢;cases ho:drO call G st o.1 o.2.dst o.2.ai o.2.guard with
    | none=>rw[ho] at h;cases l<;>cases h
    | some s1=>
      rw[ho] at h;obtain⟨n1,h1⟩:=aGU hs ho;obtain⟨n2,h2⟩:=N7 hs l s1 s h;exact⟨max n1 n2,fun m hm=>by rw[h1 m (by omega)];exact h2 m (by omega)⟩
theorem jN{x:Option AS}{r:Exit × AS}(h:nrm x=some r):∃ s,x=some s/\r=(.normal,s):=by
  cases x with
  | none=>cases h
  | some s=>injection h with h;exact⟨s,rfl,h.symm⟩
theorem aGV{R:List Nat}{x:Nat->Option AS}{y:Option AS}{q:AS × FP}(h:Rf R y=some q)(hx:∀ s,y=some s->∃ n,∀ m,n<=m->x m=some s):∃ n,∀ m,n<=m->Rf R (x m)=some q:=by
  cases y with
  | none=>cases h
  | some s=>
    obtain⟨n,hn⟩:=hx s rfl;exact⟨n,fun m hm=>by rw[hn m hm];exact h⟩
theorem Vn(hs:Eb calls call){st:AS}{d:Option Nat}{r:Nat}{ai:AI}{q:AS × FP}(h:Ia call G st d r ai=some q):∃ n,∀ m,n<=m->Ia (calls m) G st d r ai=some q:=by
  cases ai with
  | call f xs=>
    simp only[Ia] at h ⊢;generalize (xs.map (aJ G st.sl)).flatMap iL=J at h ⊢
    match J with
    | []=>exact aGV (x:=fun m=>Bb (calls m) G st d (.call f xs)) h (fun s hq=>Ky hs (show Ze call G st d (.call f xs) true=some s from hq))
    | [id]=>
      simp only[fvC] at h ⊢;unfold fvB at h ⊢;split at h
      · rename_i cs _
        cases hk:(keepL (fun _=>true) cs&&(xs.map (aJ G st.sl)).all (cU (jU [id]))) with
        | false=>rw[hk] at h;cases h
        | true=>
          rw[hk] at h;simp only[cond_true] at h ⊢;cases hc:jY call f ((xs.map (aJ G st.sl)).map (dB (kV [id]))) [.box cs] with
          | none=>rw[hc] at h;cases h
          | some q=>
            obtain⟨n,hn⟩:=qH hs _ _ _ _ hc;refine⟨n,fun m hm=>?_⟩
            have h':=hn m hm;simp only at h';rw[h',<- hc];exact h
      · cases h
    | _::_::_=>cases h
  | alloc z=>exact⟨0,fun _ _=>h⟩
  | store size x v=>exact⟨0,fun _ _=>h⟩
  | cpys x y=>exact⟨0,fun _ _=>h⟩
  | _=>exact⟨0,fun _ _=>h⟩
theorem aGW(hs:Eb calls call){st:AS}{d:Option Nat}{r:Nat}{ai:AI}{g:Option (Nat × Bool)}{q:AS × FP}(h:fvO call G st d r ai g=some q):∃ n,∀ m,n<=m->fvO (calls m) G st d r ai g=some q:=by
  cases g with
  | none=>exact Vn hs h
  | some g=>
    simp only[fvO] at h ⊢;cases hg:gK g.2 (aJ G st.sl (.t g.1)) with
    | none=>rw[hg] at h;cases h
    | some b=>
      rw[hg] at h;cases b with
      | true=>exact Vn hs h
      | false=>exact⟨0,fun _ _=>h⟩
theorem Vo(hs:Eb calls call){prs:List (Nat × Nat)}:∀ (l:List aM) (acc:List FP) (r:Nat) (st s:AS),Sj call G prs acc r l (some st)=some s->∃ n,∀ m,n<=m->Sj (calls m) G prs acc r l (some st)=some s
  | [],acc,r,st,s,h=>⟨0,fun _ _=>h⟩
  | o::l,acc,r,st,s,h=>by
    simp only[Sj] at h ⊢;cases ho:fvO call G st o.dst r o.ai o.guard with
    | none=>rw[ho] at h;cases h
    | some q=>
      obtain⟨s1,f⟩:=q;rw[ho] at h;obtain⟨n1,h1⟩:=aGW hs ho;obtain⟨n2,h2⟩:=Vo hs l _ _ s1 s h;exact⟨max n1 n2,fun m hm=>by rw[h1 m (by omega)];exact h2 m (by omega)⟩
theorem Vp{runs:Nat->AS->Option (Exit × AS)}{run:AS->Option (Exit × AS)}(hr:∀ st r,run st=some r->∃ n,∀ m,n<=m->runs m st=some r){L:List Nat}{k:Nat}:∀ (i:Nat) (st:AS) r,H3 run L k i st=some r->∃ n,∀ m,n<=m->H3 (runs m) L k i st=some r
  | 0,st,r,h=>by simp[H3] at h
  | i+1,st,r,h=>by
    simp only[H3] at h;cases hrun:run st with
    | none=>rw[hrun] at h;cases h
    | some q=>
      obtain⟨n1,h1⟩:=hr _ _ hrun;rw[hrun] at h;obtain⟨e,s⟩:=q;cases e with
      | normal=>
        simp only at h;obtain⟨n2,h2⟩:=Vp hr i _ r h;exact⟨max n1 n2,fun m hm=>by rw[H3,h1 m (by omega)];exact h2 m (by omega)⟩
      | _=>exact⟨n1,fun m hm=>by rw[H3,h1 m hm];exact h⟩
theorem aLQ(hs:Eb calls call):∀ (c:HC) (st:AS) r,EC call G c st=some r->∃ n,∀ m,n<=m->EC (calls m) G c st=some r:=by
  intro c
  induction c with
  | skip=>exact fun st r h=>⟨0,fun _ _=>h⟩
  | ret=>exact fun st r h=>⟨0,fun _ _=>h⟩
  | exit id=>exact fun st r h=>⟨0,fun _ _=>h⟩
  | region ops=>
    intro st r h;simp only[EC] at h ⊢;obtain⟨s,h1,rfl⟩:=jN h;obtain⟨n,hn⟩:=Vl hs ops st s h1;exact⟨n,fun m hm=>by rw[hn m hm];rfl⟩
  | regR L ops=>
    intro st r h;simp only[EC] at h ⊢;obtain⟨s,h1,rfl⟩:=jN h;obtain⟨n,hn⟩:=N5 hs ops st s h1;exact⟨n,fun m hm=>by rw[hn m hm];rfl⟩
  | drawnT L t ops=>
    intro st r h;simp only[EC] at h ⊢;obtain⟨s,h1,rfl⟩:=jN h;obtain⟨n,hn⟩:=aGT hs t st s h1;exact⟨n,fun m hm=>by rw[hn m hm];rfl⟩
  | drawnF prs ops=>
    intro st r h;simp only[EC] at h ⊢;obtain⟨s,h1,rfl⟩:=jN h;obtain⟨n,hn⟩:=Vo hs ops _ _ _ s h1;exact⟨n,fun m hm=>by rw[hn m hm];rfl⟩
  | drawn ops=>
    intro st r h;simp only[EC] at h ⊢;obtain⟨s,h1,rfl⟩:=jN h;obtain⟨n,hn⟩:=N7 hs ops st s h1;exact⟨n,fun m hm=>by rw[hn m hm];rfl⟩
  | seq a b iha ihb=>
    intro st r h;simp only[EC] at h ⊢;cases ha:EC call G a st with
    | none=>rw[ha] at h;cases h
    | some q=>
      obtain⟨n1,h1⟩:=iha _ _ ha;rw[ha] at h;obtain⟨e,s⟩:=q;cases e with
      | normal=>
        obtain⟨n2,h2⟩:=ihb s r h;exact⟨max n1 n2,fun m hm=>by rw[h1 m (by omega)];exact h2 m (by omega)⟩
      | _=>exact⟨n1,fun m hm=>by rw[h1 m hm];exact h⟩
  | cond c a b iha ihb=>
    intro st r h;simp only[EC] at h ⊢;cases hb:cF (aJ G st.sl c) with
    | none=>rw[hb] at h;cases h
    | some t=>rw[hb] at h;cases t with
      | true=>exact iha st r h
      | false=>exact ihb st r h
  | block id a iha=>
    intro st r h;simp only[EC] at h ⊢;cases ha:EC call G a st with
    | none=>rw[ha] at h;cases h
    | some q=>
      obtain⟨n1,h1⟩:=iha _ _ ha;rw[ha] at h;exact⟨n1,fun m hm=>by rw[h1 m hm];exact h⟩
  | loop L a iha=>
    intro st r h;simp only[EC] at h ⊢;obtain⟨i,hi⟩:=jM h;obtain⟨n,hn⟩:=Vp (runs:=fun m=>EC (calls m) G a) (fun st r h=>iha st r h) i _ r hi
    exact⟨n,fun m hm=>zV (hn m hm)⟩
  | gh g a iha=>exact fun st r h=>iha _ r h
  | trm L a iha=>exact fun st r h=>iha _ r h
  | bad=>intro st r h;cases h
theorem F5(hs:Eb calls call){h:HF}{args:List AV}{hp:List aD}{r:AV × List aD}(he:Sl call G h args hp=some r):∃ n,∀ m,n<=m->Sl (calls m) G h args hp=some r:=by
  unfold Sl at *;cases hc:EC call G h.code ⟨args++qS (h.nt - args.length),hp⟩ with
  | none=>rw[hc] at he;cases he
  | some q=>
    obtain⟨n,hn⟩:=aLQ hs _ _ _ hc;rw[hc] at he;exact⟨n,fun m hm=>by rw[hn m hm];exact he⟩
theorem qI{T:HT}:∀ (n:Nat) (f:FuncId) (args:List AV) (hp:List aD) (r:AV × List aD),callN G T n f args hp=some r->callN G T (n+1) f args hp=some r
  | 0,f,args,hp,r,h=>by simp[callN] at h
  | n+1,f,args,hp,r,h=>by
    rw[callN] at h ⊢;cases hT:T.tab f with
    | none=>rw[hT] at h;exact h
    | some x=>
      rw[hT] at h;obtain⟨m,hm⟩:=F5 (calls:=fun _=>callN G T (n+1)) (fun f a hp r h=>⟨0,fun _ _=>qI n f a hp r h⟩) h
      exact hm m (aWj _)
theorem Zk(T:HT):Eb (callN G T) (EV G T):=by
  intro f a hp r h;obtain⟨n,hn⟩:=jM h;refine⟨n,fun m hm=>?_⟩
  induction m with
  | zero=>simp at hm;subst hm;exact hn
  | succ m ih=>
    by_cases he:n=m+1
    · subst he;exact hn
    · exact qI _ _ _ _ _ (ih (by omega))
theorem aKo{T:HT}{f:FuncId}{h:HF}{args:List AV}{hp:List aD}{r:AV × List aD}(hT:T.tab f=some h)(he:Sl (EV G T) G h args hp=some r):EV G T f args hp=some r:=by
  obtain⟨n,hn⟩:=F5 (Zk T) he;refine Sm (n:=n+1) (fun n r h=>qI n f args hp r h) ?_
  rw[callN,hT];exact hn n (aWj _)
theorem iI{T:HT}{f:FuncId}{args:List AV}{hp:List aD}{r:AV × List aD}(hT:T.tab f=none)(he:T.base f args hp=some r):EV G T f args hp=some r:=by
  refine Sm (n:=1) (fun n r h=>qI n f args hp r h) ?_
  rw[callN,hT];exact he
end
end
section
section
variable {P:Program} {G:aF} {k:Nat} {st st' s:AS} {K R Q:AS->Prop} {call:aO}
theorem AC.nzArgs{f:FuncId}{args:List AV}{objs:List aD}{Q:AV->List aD->Prop}(h:AC P G f (args.map Dj) objs Q):AC P G f args objs Q:=
  fun F γ vs w hi hg hv=>h F γ vs w hi hg ⟨by simpa using hv.1,fun i av v h1 h2=>by
    rw[aWl] at h1;obtain⟨a0,h3,rfl⟩:=Option.map_eq_some_iff.1 h1;exact aB5 (hv.2 i a0 v h3 h2)⟩
theorem F6{p:Nat->Bool}(c:aR):(nzC c).keep p=c.keep p:=by
  unfold nzC;split
  · simp[aR.keep]
  · simp[aR.keep]
  · rfl
theorem F7{p:Nat->Bool}:∀ (cs:List aR),keepL p (cs.map nzC)=keepL p cs
  | []=>rfl
  | c::cs=>by simp[keepL,F6,F7 cs]
theorem zW{p:Nat->Bool}(v:AV):cU p (Dj v)=cU p v:=by
  cases v with
  | one c=>simp only[Dj,cU,F6]
  | agg cs=>simp only[Dj,cU,F7]
  | tup l=>
    simp only[Dj,cU,List.all_map];congr 1;funext t;cases t with
    | one c=>simp only[Function.comp_apply,nzT,Cz,F6]
    | agg cs=>simp only[Function.comp_apply,nzT,Cz,F7]
  | junk=>rfl
theorem mJ{sl:List AV}:∀ xs:List aH,jX G sl xs=(xs.map (aJ G sl)).map Dj
  | []=>rfl
  | x::xs=>by simp[jX,mJ xs]
theorem Vq:∀ xs:List aH,Dl G st xs=(xs.map fun x=>vwA st.hp (aJ G st.sl x)).map Dj
  | []=>rfl
  | x::xs=>by simp[Dl,Vq xs]
theorem rV{hp:List aD}(c:aR):Vb (hp.map aN) c=Vb hp c:=by
  cases c<;>simp only[Vb];rw[bH];cases aI hp _<;>rfl
theorem aCo{hp:List aD}(v:AV):vwA (hp.map aN) v=vwA hp v:=by
  cases v<;>simp only[vwA,rV];congr 1;exact aWC (fun c _=>rV c)
theorem N8{hp:List aD}(c:aR):vwN (hp.map aN) c=vwN hp c:=by unfold vwN;rw[rV]
theorem aCp{hp:List aD}{off:Nat}(o:aD):vpP (hp.map aN) off (aN o)=vpP hp off o:=by
  cases o<;>simp only[aN,vpP,Kq];congr 2;exact aWC (fun c _=>N8 c)
theorem aCq{hp:List aD}(c:aR):vwM (hp.map aN) c=vwM hp c:=by
  cases c<;>simp only[vwM,N8];rw[bH,aCp]
theorem N9{hp:List aD}(c:aR):vp0 (hp.map aN) c=vp0 hp c:=by
  cases c<;>simp only[vp0,rV];rw[bH];cases aI hp _<;>simp only[aN,vqP,Ks];congr 2;exact aWC (fun c _=>aCq c)
theorem aCr{hp:List aD}(c:aR):vpC (hp.map aN) c=vpC hp c:=by
  cases c<;>simp only[vpC,N9,Kr];congr 1;exact aWC (fun c _=>N9 c)
theorem aCs{hp:List aD}(v:AV):vpA (hp.map aN) v=vpA hp v:=by
  cases v<;>simp only[vpA,aCr];congr 1;exact aWC (fun c _=>rV c)
theorem Vr:∀ xs:List aH,zT G st xs=(xs.map fun x=>vpA st.hp (aJ G st.sl x)).map Dj
  | []=>rfl
  | x::xs=>by simp[zT,Vr xs]
theorem Oa{o:aM}(h:exX G (aE s) o=some st'):∃ s',exX G s o=some s'/\aE s'=st':=by
  obtain⟨d,ai,g⟩:=o;have pure:((cW G (aE s) ai).map fun v=>(⟨aP (aE s).sl d v,(aE s).hp⟩:AS))=some st'->∃ s',((cW G s ai).map fun v=>(⟨aP s.sl d v,s.hp⟩:AS))=some s'/\aE s'=st':=by
    intro h;rw[pG] at h;obtain⟨v,h1,rfl⟩:=Option.map_eq_some_iff.1 h;exact⟨_,by rw[h1];rfl,rfl⟩
  cases ai<;>try exact pure h
  case alloc z=>
    simp only[exX,Option.some.injEq] at h ⊢;exact⟨_,rfl,by rw[<- h];simp[aE,aN]⟩
  case box x=>
    simp only[exX] at h ⊢;obtain⟨cs,h1,rfl⟩:=Option.map_eq_some_iff.1 h;rw[show (aE s).sl=s.sl from rfl] at h1
    exact⟨_,by rw[h1];rfl,by simp[aE,aN]⟩
  case store size x v=>
    simp only[exX] at h ⊢;cases d with
    | some d=>cases h
    | none=>
      simp only[stX,show (aE s).sl=s.sl from rfl] at h ⊢
      split at h
      · rename_i id off hx
        split at h
        · rename_i vs hv
          split at h
          · rename_i cs hb
            rw[aE,bH] at hb;split at h
            · rename_i hc
              injection h with h
              simp only[pH hb,if_pos hc];exact⟨_,rfl,by rw[<- h];simp[aE,aN,aWM]⟩
            · cases h
          · cases h
        · cases h
      · rename_i id i z off hx
        split at h
        · rename_i ds hv
          split at h
          · rename_i c z' es hb
            rw[aE,bH] at hb;obtain⟨cap,hb2,rfl⟩:=mW hb;split at h
            · rename_i e he
              split at h
              · rename_i hc
                injection h with h
                simp only[hb2,he,if_pos hc];exact⟨_,rfl,by rw[<- h];simp[aE,aN,aWM]⟩
              · cases h
            · cases h
          · cases h
        · cases h
      · cases h
  case bslc size len z ps=>
    simp only[exX,bsX] at h ⊢;cases len with
    | zero=>
      simp only at h ⊢;split at h
      · rename_i he
        injection h with h
        simp only[if_pos he];exact⟨_,rfl,by rw[<- h];simp[aE,aN]⟩
      · cases h
    | succ len=>
      simp only at h ⊢;obtain⟨cs,h1,h⟩:=aW5.1 h;obtain⟨ds,h2,h⟩:=aW5.1 h;rw[show (aE s).sl=s.sl from rfl] at h1
      split at h
      · rename_i hl
        injection h with h
        exact⟨⟨aP s.sl d (vl (eO size (len+1) ds)),s.hp⟩,by rw[h1];simp only[aWr,h2,if_pos hl],by rw[<- h];simp[aE]⟩
      · cases h
theorem Bs{size:Nat}:∀ {es:List (List DC)},fM size es=true->∀ e∈es,e.length=size
  | [],_=>by simp
  | x::es,h=>by
    simp only[fM,aWs,iA,beq_iff_eq] at h;intro e he;rcases aXn.1 he with rfl | he
    · exact h.1
    · exact Bs h.2 e he
theorem aCt(id:Nat)(c:aR):klC id c=cE (·==id) c:=by
  cases c<;>simp only[klC,cE,aR.keep,iA,if_true]
  case ptr j o=>
    by_cases h:j=id
    · simp[h]
    · simp[h,(beq_eq_false_iff_ne.2 h:(j==id)=false)]
  case bld j n=>
    by_cases h:j=id
    · simp[h]
    · simp[h,(beq_eq_false_iff_ne.2 h:(j==id)=false)]
  case ept j i s o=>
    by_cases h:j=id
    · simp[h]
    · simp[h,(beq_eq_false_iff_ne.2 h:(j==id)=false)]
  case bls j i s o=>
    by_cases h:j=id
    · simp[h]
    · simp[h,(beq_eq_false_iff_ne.2 h:(j==id)=false)]
theorem Ec(id:Nat):∀ cs,Se id cs=cs.map (cE (·==id))
  | []=>rfl
  | c::cs=>by simp[Se,aCt,Ec id cs]
theorem aLR(id:Nat)(v:AV):klV id v=bA (·==id) v:=by
  cases v<;>simp only[klV,bA,aCt,Ec]
theorem aCu(id:Nat):∀ l,klS id l=l.map (bA (·==id))
  | []=>rfl
  | c::cs=>by simp[klS,aLR,aCu id cs]
theorem aLS(id:Nat)(o:aD):klO id o=cI (·==id) o:=by
  cases o<;>simp only[klO,cI,Ec]
theorem Sn(id:Nat):∀ l,klH id l=l.map (cI (·==id))
  | []=>rfl
  | c::cs=>by simp[klH,aLS,Sn id cs]
theorem Vs{d:Option Nat}{size bytes:Nat}{z:List Value}{a x:aH}(h:apZ d size bytes (aE s) (aJ G s.sl a) (aJ G s.sl x)=some st')(hK:∀ s',aE s'=st'->K s'):rK P G k d (.app size bytes z a x) K s.sl s.hp:=by
  unfold apZ at h;split at h
  · rename_i x1 x2 id n hx
    right
    rw[aE,bH,sS] at h;unfold apB at h;split at h
    · rename_i c sz es news hb h2
      split at h
      · rename_i hc
        injection h with h
        obtain⟨cap,hb,_⟩:=mW hb;obtain⟨rfl,hc2,hc3,hc4⟩:=hc;exact⟨id,n,cap,es,news,hx,hb,hc2,h2,Bs hc3,hc4,fun cap' _=>hK _ (by rw[<- h];simp only[aE,aWM,rQ,aCu,Sn];rfl)⟩
      · cases h
    · cases h
  · rename_i x1 x2 hx
    left
    rw[aE,sS] at h;unfold apN at h;split at h
    · rename_i news h2
      split at h
      · rename_i hc
        injection h with h
        exact⟨hx,news,h2,Bs hc.1,hc.2,fun cap' _=>hK _ (by rw[<- h];simp only[aE,aWW,rQ,aWf,Sn];rfl)⟩
      · cases h
    · cases h
  · cases h
theorem Vt{d:Option Nat}{size len:Nat}{z:List Value}{ps:List (Nat × aH)}(h:bsO G (aE s) d size len z ps=some st')(hK:∀ s',aE s'=st'->K s'):rK P G k d (.bslc size len z ps) K s.sl s.hp:=by
  unfold bsO at h;obtain⟨cs,h1,h⟩:=aW5.1 h;cases h2:dcs cs with
  | none=>
    rw[h2] at h;simp only[bsP] at h;split at h
    · rename_i hl
      injection h with h
      rw[Jb] at h1;exact .inr ⟨hl,cs,h1,hK _ (by rw[<- h];simp[aE,aN])⟩
    · cases h
  | some ds=>
  rw[h2] at h;simp only[bsP] at h;split at h
  · rename_i hl
    injection h with h
    obtain⟨g1,g2,g3⟩:=jW size len ds hl;rw[Jb] at h1;refine .inl ⟨eO size len ds,by rw[g1,<- lL h2];exact h1,g2,g3,hK _ (by rw[<- h];simp[aE,aN])⟩
  · cases h
theorem aLT(hcall:cB P G call){d:Option Nat}{f:FuncId}{xs:List aH}(h:Sg call G d f xs (aE s)=some st'):
    ∃ av os,(∀ n,xs.map (aJ G s.sl)=(xs.map (aJ G s.sl)).map (dB (cG [] n)))/\AC P G f (xs.map (aJ G s.sl)) [] (fun a o=>a=av/\o.map aN=os)/\
      (⟨aP s.sl d (dB (cG [] s.hp.length) av),s.hp.map aN++os.map (dP (cG [] s.hp.length))⟩:AS)=st':=by
  unfold Sg at h;cases hk:(jX G (aE s).sl xs).all (cU fun _=>true) with
  | false=>rw[hk] at h;cases h
  | true=>
    rw[hk] at h;simp only[cond_true] at h;cases hc:call f (jX G (aE s).sl xs) [] with
    | none=>rw[hc] at h;cases h
    | some r=>
      obtain⟨av,os⟩:=r;rw[hc] at h;simp only[nwK,Option.some.injEq] at h;obtain⟨_,g2⟩:=hcall _ _ _ _ _ hc [] rfl;refine⟨av,os,fun n=>?_,(by rw[mJ] at g2;exact g2.nzArgs),by rw[<- h];simp[aE]⟩
      conv=>lhs;rw[<- List.map_id (xs.map (aJ G s.sl))]
      refine aWC (fun v hv=>(rnV v ?_).symm)
      rw[mJ,List.all_map] at hk;have:=List.all_eq_true.1 hk v hv;rwa[Function.comp_apply,zW] at this
theorem aCv:∀ {os:List aD},Y8 os=true->os.map aN=os
  | [],_=>rfl
  | o::os,h=>by
    simp only[Y8,aWs] at h;rw[aWp,aCv h.2];congr 1;cases o<;>try rfl
    have:=h.1;simp only[aLH,iA,beq_iff_eq] at this;simp[aN,this]
theorem aLU(hcall:cB P G call){d:Option Nat}{f:FuncId}{xs:List aH}(h:dnZ call G d f xs (aE s)=some st'):
    ∃ av os,os.map aN=os/\(∀ n,xs.map (aJ G s.sl)=(xs.map (aJ G s.sl)).map (dB (cG [] n)))/\AC P G f (xs.map (aJ G s.sl)) [] (fun a o=>a=av/\o.map aN=os)/\
      (⟨aP s.sl d (dB (cG [] s.hp.length) av),s.hp.map aN++os.map (dP (cG [] s.hp.length))⟩:AS)=st':=by
  unfold dnZ at h;cases hk:(jX G (aE s).sl xs).all (cU fun _=>true) with
  | false=>rw[hk] at h;cases h
  | true=>
    rw[hk,cond_true] at h;cases hc:call f (jX G (aE s).sl xs) [] with
    | none=>rw[hc] at h;cases h
    | some r=>
      obtain⟨av,os⟩:=r;rw[hc] at h;simp only[dnK] at h;cases hn:Y8 os with
      | false=>rw[hn] at h;cases h
      | true=>
        rw[hn,cond_true] at h;have h2:Sg call G d f xs (aE s)=some st':=by
          unfold Sg;rw[hk,cond_true,hc];exact h
        obtain⟨_,g2⟩:=hcall _ _ _ _ _ hc [] rfl;refine⟨av,os,aCv hn,fun n=>?_,(by rw[mJ] at g2;exact g2.nzArgs),by injection h with h;rw[<- h];simp[aE]⟩
        conv=>lhs;rw[<- List.map_id (xs.map (aJ G s.sl))]
        refine aWC (fun v hv=>(rnV v ?_).symm)
        rw[mJ,List.all_map] at hk;have:=List.all_eq_true.1 hk v hv;rwa[Function.comp_apply,zW] at this
theorem Vu(hcall:cB P G call){d:Option Nat}{f:FuncId}{xs:List aH}(h:Sg call G d f xs (aE s)=some st')(hK:∀ s',aE s'=st'->K s'):WR P G k [⟨d,.call f xs,none⟩] K s:=by
  obtain⟨av,os,h1,h2,h3⟩:=aLT hcall h;refine WR.callN (o:=⟨d,.call f xs,none⟩) trivial rfl h2 (h1 _) (fun a o ⟨h4,h5⟩=>WR.nil (hK _ ?_))
  subst h4;rw[<- h3,<- h5];simp only[aE,aWW,aWE];congr 2;exact aWC (fun o _=>mV o)
theorem aGX{xs:List aH}(hcall:cB P G call){f:FuncId}{av:AV}(hc:call f (Dl G (aE s) xs) []=some (av,[])):QC P G f (xs.map fun x=>vwA s.hp (aJ G s.sl x)) av:=by
  obtain⟨_,g2⟩:=hcall _ _ _ _ _ hc [] rfl;rw[Vq] at g2;have e:(xs.map fun x=>vwA (aE s).hp (aJ G (aE s).sl x))=xs.map fun x=>vwA s.hp (aJ G s.sl x):=aWC (fun x _=>aCo _)
  rw[e] at g2;exact g2.nzArgs.gh (fun a o ⟨h1,h2⟩ _=>⟨a,o,Gh.refl,aWA _,h1,by simpa using h2⟩)
theorem Vv{xs:List aH}(hcall:cB P G call){f:FuncId}{av:AV}(hc:call f (zT G (aE s) xs) []=some (av,[])):QC P G f (xs.map fun x=>vpA s.hp (aJ G s.sl x)) av:=by
  obtain⟨_,g2⟩:=hcall _ _ _ _ _ hc [] rfl;rw[Vr] at g2;have e:(xs.map fun x=>vpA (aE s).hp (aJ G (aE s).sl x))=xs.map fun x=>vpA s.hp (aJ G s.sl x):=aWC (fun x _=>aCs _)
  rw[e] at g2;exact g2.nzArgs.gh (fun a o ⟨h1,h2⟩ _=>⟨a,o,Gh.refl,aWA _,h1,by simpa using h2⟩)
theorem sX(hcall:cB P G call):cB P G (jY call):=fun f args hp av o' h hp0 hh=>⟨(hcall f _ hp av o' h hp0 hh).1,(hcall f _ hp av o' h hp0 hh).2.nzArgs⟩
theorem aGY(hcall:cB P G call){d:Option Nat}{f:FuncId}{xs:List aH}(h:clZ call G d f xs (aE s)=some st')(hK:∀ s',aE s'=st'->K s'):WR P G k [⟨d,.call f xs,none⟩] K s:=by
  unfold clZ at h;obtain⟨s1,hgh,hn⟩:=eL (k:=k) (kY G (aE s).sl xs) s;cases hp:qG G (aE s).sl xs with
  | false=>
    rw[hp,cond_false,<- hn] at h;obtain⟨J,objs,av,o',g1,g2,g3,g4,g5,g6,g7⟩:=pI (sX hcall) h;exact WR.ghost hgh (WR.call (o:=⟨d,.call f xs,none⟩) trivial rfl g2 g3 g4 g5 g6 (fun a o hao=>WR.nil (hK _ (g7 a o hao))))
  | true=>
    rw[hp,cond_true] at h;cases hc:call f (Dl G (aE s) xs) [] with
    | none=>rw[hc] at h;cases h
    | some r=>
      obtain⟨av,os⟩:=r;rw[hc] at h;cases os with
      | nil=>
        simp only[Y9] at h;cases hr:kX av with
        | true=>
          rw[hr] at h;injection h with h
          exact WR.callV (o:=⟨d,.call f xs,none⟩) trivial rfl (aGX hcall hc) hr rfl (WR.nil (hK _ (by rw[<- h];rfl)))
        | false=>
          rw[hr,cond_false,<- hn] at h;exact WR.ghost hgh (Vu hcall h hK)
      | cons o os=>
        simp only[Y9] at h;rw[<- hn] at h;exact WR.ghost hgh (Vu hcall h hK)
theorem Vw(hcall:cB P G call){d:Option Nat}{x:aH}{xs:List aH}(h:cvZ call G d x xs (aE s)=some st')(hK:∀ s',aE s'=st'->K s'):WR P G k [⟨d,.callv x xs,none⟩] K s:=by
  unfold cvZ at h;obtain⟨s1,hgh,hn⟩:=eL (k:=k) (kY G (aE s).sl xs) s;rw[<- hn] at h;unfold cvK at h;split at h
  · rename_i f caps hx
    obtain⟨J,objs,av,o',g1,g2,g3,g4,g5,g6,g7⟩:=pI (sX hcall) h;exact WR.ghost hgh (WR.callv (o:=⟨d,.callv x xs,none⟩) trivial rfl hx g1 g2 g3 g4 g5 g6 (fun a o hao=>WR.nil (hK _ (g7 a o hao))))
  · cases h
theorem Vx{d:Option Nat}{size bytes:Nat}{z:List Value}{x y:aH}(h:mkZ G (aE s) d size bytes z x y=some st')(hK:∀ s',aE s'=st'->K s'):WR P G k [⟨d,.mk size bytes z x y,none⟩] K s:=by
  unfold mkZ mkK at h;split at h
  · rename_i n m h1 h2
    split at h
    · rename_i hc
      injection h with h
      exact WR.mk (o:=⟨d,.mk size bytes z x y,none⟩) trivial rfl h1 h2 hc.1 hc.2 (WR.nil (hK _ (by rw[<- h];simp[aE,aN])))
    · cases h
  · cases h
theorem Ob{d:Option Nat}{size id k0 n:Nat}{z:List Value}{x:aH}(hx:aJ G s.sl x=.one (.bls id k0 n size)\/(k0=0/\aJ G s.sl x=.one (.bld id n)))
  (h:Sh d (aE s) id k0 n size z (aI (aE s).hp id)=some st') (hK:∀ s',aE s'=st'->K s'):WR P G k [⟨d,.clr size z x,none⟩] K s:=by
 have e0:aI (aE s).hp id=aN (aI s.hp id):=bH id;rw[e0] at h;cases hb:aI s.hp id with
 | box cs=>
  rw[hb] at h;simp only[aN,Sh] at h;unfold aPH at h;split at h
  ·split at h
   ·rename_i hc;obtain⟨rfl,hn,hle⟩:=hc;injection h with h
    refine WR.clrB (o:=⟨d,.clr 1 [_] x,none⟩) trivial rfl hx hb hn hle (WR.nil (hK _ ?_));rw[<- h];simp[aE,aN,aWM]
   ·cases h
  ·cases h
 | dead=>rw[hb] at h;cases h
 | arr cap sz es=>
  rw[hb] at h;simp only[aN,Sh] at h;split at h
  ·rename_i hc;obtain⟨rfl,hle⟩:=hc;injection h with h
   by_cases hn:n=0
   ·subst hn;refine WR.clr0 (o:=⟨d,.clr sz z x,none⟩) (id:=id) (k0:=k0) trivial rfl (hx.imp (fun h=>h) And.right) (WR.nil (hK _ ?_))
    rw[<- h,Yb];simp only[aE];congr 1;exact (zD (by rw[bH,hb];rfl) (by simp)).symm
   ·refine WR.clr (o:=⟨d,.clr sz z x,none⟩) trivial rfl hx hb (by omega) hle (WR.nil (hK _ ?_));rw[<- h];simp[aE,aN,aWM]
  ·cases h
theorem Oc{d:Option Nat}{size:Nat}{z:List Value}{x:aH}(h:Za G (aE s) d size z x=some st')(hK:∀ s',aE s'=st'->K s'):WR P G k [⟨d,.clr size z x,none⟩] K s:=by
  unfold Za at h;have e0:(aE s).sl=s.sl:=rfl;rw[e0] at h;cases hx:aJ G s.sl x with
  | one c=>
    rw[hx] at h;cases c with
    | bls id k0 n sz=>
      simp only[aLL] at h;split at h
      · rename_i hs;subst hs;exact Ob (.inl hx) h hK
      · cases h
    | bld id n=>exact Ob (.inr ⟨rfl,hx⟩) h hK
    | _=>cases h
  | _=>rw[hx] at h;cases h
theorem Od{d:Option Nat}{x y:aH}(h:Zb G (aE s) d x y=some st')(hK:∀ s',aE s'=st'->K s'):WR P G k [⟨d,.cpys x y,none⟩] K s:=by
  unfold Zb at h;have e0:(aE s).sl=s.sl:=rfl;rw[e0] at h;unfold aLM at h;split at h
  · rename_i id lo n z sv hx hy
    split at h
    · rename_i hz
      subst hz;have e1:aI (aE s).hp id=aN (aI s.hp id):=bH id;rw[e1] at h;cases hb:aI s.hp id with
      | arr c sz es=>
        rw[hb] at h;simp only[aN,aCj] at h;split at h
        · rename_i hc
          obtain⟨rfl,hc⟩:=hc;injection h with h;refine WR.cpyA (o:=⟨d,.cpys x y,none⟩) trivial rfl hx hy hb hc (WR.nil (hK _ ?_));rw[<- h];simp[aE,aN,aWM]
        · cases h
      | dead=>rw[hb] at h;cases h
      | box cs=>
        rw[hb] at h;simp only[aN,aCj] at h;split at h
        · rename_i hc
          injection h with h
          refine WR.cpys (o:=⟨d,.cpys x y,none⟩) trivial rfl hx hy hb hc (WR.nil (hK _ ?_));rw[<- h];simp[aE,aN,aWM]
        · cases h
    · cases h
  · cases h
theorem Oe{d:Option Nat}{x:aH}(h:Zc G (aE s) d x=some st')(hK:∀ s',aE s'=st'->K s'):WR P G k [⟨d,.cvsb x,none⟩] K s:=by
  unfold Zc at h;have e0:(aE s).sl=s.sl:=rfl;rw[e0] at h;cases hx:dA (aJ G s.sl x) with
  | none=>rw[hx] at h;cases h
  | some sv=>
    rw[hx] at h;injection h with h
    exact WR.cvsb (o:=⟨d,.cvsb x,none⟩) trivial rfl hx (WR.nil (hK _ (by rw[<- h];rfl)))
theorem aCw{d:Option Nat}{x:aH}(h:aGN d (aE s) (dA (aJ G (aE s).sl x))=some st')(hK:∀ s',aE s'=st'->K s'):WR P G k [⟨d,.cvsb x,none⟩] K s:=by
  have e0:(aE s).sl=s.sl:=rfl;rw[e0] at h;cases hx:dA (aJ G s.sl x) with
  | none=>rw[hx] at h;cases h
  | some sv=>
    rw[hx] at h;injection h with h
    exact WR.cvsA (o:=⟨d,.cvsb x,none⟩) trivial rfl hx (fun cap=>WR.nil (hK _ (by rw[<- h];simp[aE,aN])))
theorem aGZ{d:Option Nat}{size bytes:Nat}{z:List Value}{x y:aH}(h:mbK d size bytes (aE s) z (bE (aJ G (aE s).sl x)) (bE (aJ G (aE s).sl y))=some st')(hK:∀ s',aE s'=st'->K s'):WR P G k [⟨d,.mk size bytes z x y,none⟩] K s:=by
  have e0:(aE s).sl=s.sl:=rfl;rw[e0] at h;unfold mbK at h;split at h
  · rename_i v n m h1 h2
    split at h
    · rename_i hc
      obtain⟨rfl,hnm,hb⟩:=hc;injection h with h;exact WR.mkB (o:=⟨d,.mk 1 bytes [v] x y,none⟩) trivial rfl h1 h2 hnm hb (WR.nil (hK _ (by rw[<- h];simp[aE,aN])))
    · cases h
  · cases h
theorem Ed(hcall:cB P G call){l:List aM}{d:Option Nat}{ai:AI}(h:lF call G (aE s) l d ai=some st')(hK:∀ s',aE s'=st'->K s'):WR P G k [⟨d,ai,none⟩] K s:=by
  have plain:ai.isCall=false->Ea G (aE s) d ai=some st'->WR P G k [⟨d,ai,none⟩] K s:=by
    intro hc h;rw[show Ea G (aE s) d ai=exX G (aE s) ⟨d,ai,none⟩ from uQ G (aE s) ⟨d,ai,none⟩] at h
    obtain⟨s',h1,h2⟩:=Oa h;exact WR.exX (o:=⟨d,ai,none⟩) trivial hc h1 (WR.nil (hK _ h2))
  cases ai<;>first | exact plain rfl h | skip
  case call f xs=>exact aGY hcall h hK
  case callv x xs=>exact Vw hcall h hK
  case mk size bytes z x y=>exact Vx h hK
  case clr size z x=>exact Oc h hK
  case cpys x y=>exact Od h hK
  case cvsb x=>exact Oe h hK
  case app size bytes z a x=>exact rK.run (o:=⟨d,.app size bytes z a x,none⟩) trivial (Vs h hK)
  case apps a x=>cases h
  case bslc size len z ps=>
    simp only[lF] at h;obtain⟨s1,hgh,hn⟩:=eL (k:=k) (Fw G (aE s).sl ps) s;cases hl:aGM d l with
    | true=>
      rw[hl] at h;simp only[bsZ,<- hn] at h;obtain⟨s',h1,h2⟩:=Oa (o:=⟨d,.bslc size len z ps,none⟩) h;exact WR.ghost hgh (WR.exX (o:=⟨d,.bslc size len z ps,none⟩) trivial rfl h1 (WR.nil (hK _ h2)))
    | false=>
      rw[hl] at h;simp only[bsZ,<- hn] at h;exact WR.ghost hgh (rK.run (o:=⟨d,.bslc size len z ps,none⟩) trivial (Vt h hK))
theorem F8{g:Nat}{b:Bool}(h:gK b (aJ G (aE s).sl (.t g))=some true):iG G s (some (g,b)):=aGv (st:=aE s) h
theorem F9{g:Nat}{b:Bool}(h:gK b (aJ G (aE s).sl (.t g))=some false):Dg G s (some (g,b)):=aB6 (st:=aE s) h
theorem Oh(hcall:cB P G call){L:List Nat}{d:Option Nat}{ai:AI}(h:N3 call G L (aE s) d ai=some st')(hK:∀ s',aE s'=st'->K s'):WR P G k [⟨d,ai,none⟩] K s:=by
  cases ai with
  | call f xs=>
    simp only[N3] at h;cases hb:Kx L (f+100000) with
    | false=>
      rw[hb] at h;obtain⟨J,objs,av,o',g1,g2,g3,g4,g5,g6,g7⟩:=pI (sX hcall) h;exact WR.call (o:=⟨d,.call f xs,none⟩) trivial rfl g2 g3 g4 g5 g6 (fun a o hao=>WR.nil (hK _ (g7 a o hao)))
    | true=>
      rw[hb] at h;simp only[aCk] at h;cases hc:call f (zT G (aE s) xs) [] with
      | none=>rw[hc] at h;cases h
      | some r=>
        obtain⟨av,os⟩:=r;rw[hc] at h;cases os with
        | cons o os=>cases h
        | nil=>
          simp only[vpK] at h;cases hr:kX av with
          | false=>rw[hr] at h;cases h
          | true=>
            rw[hr] at h;injection h with h
            exact WR.callP (o:=⟨d,.call f xs,none⟩) trivial rfl (Vv hcall hc) hr rfl (WR.nil (hK _ (by rw[<- h];rfl)))
  | mk size bytes z x y=>exact aGZ h hK
  | cvsb x=>exact aCw h hK
  | _=>cases h
theorem Vy(hcall:cB P G call){l:List aM}{o:aM}{s1:AS}(ho:Si call G (aE s) l o.dst o.ai o.guard=some s1)(next:∀ s',aE s'=s1->WR P G k l K s'):WR P G k (o::l) K s:=by
  obtain⟨d,ai,g⟩:=o;cases g with
  | none=>exact WR.cons (Ed hcall ho next)
  | some g=>
    simp only[Si] at ho;cases hg:gK g.2 (aJ G (aE s).sl (.t g.1)) with
    | none=>rw[hg] at ho;cases ho
    | some b=>
      rw[hg] at ho;cases b with
      | true=>exact WR.cons (WR.guard (F8 hg) rfl (Ed hcall ho next))
      | false=>
        injection ho with ho
        exact WR.skip (F9 hg) (next _ (by rw[<- ho];rfl))
theorem aCx(hcall:cB P G call):∀ (ops:List aM) (s:AS) (st':AS),evR call G ops (some (aE s))=some st'->WR P G k ops (fun s'=>aE s'=st') s
  | [],s,st',h=>by simp only[evR,Option.some.injEq] at h;exact WR.nil h
  | o::l,s,st',h=>by
    simp only[evR] at h;cases ho:Si call G (aE s) l o.dst o.ai o.guard with
    | none=>rw[ho] at h;cases l<;>cases h
    | some s1=>
      rw[ho] at h;exact Vy hcall ho (fun s' hs'=>aCx hcall l s' st' (by rw[hs'];exact h))
theorem Vz(hcall:cB P G call){L:List Nat}:∀ (ops:List aM) (s:AS) (st':AS),Dm call G L ops (some (aE s))=some st'->WR P G k ops (fun s'=>aE s'=st') s
  | [],s,st',h=>by simp only[Dm,Option.some.injEq] at h;exact WR.nil h
  | o::l,s,st',h=>by
    simp only[Dm] at h;cases ho:Fx call G L (aE s) l o.dst o.ai o.guard (jF L o.ai o.guard) with
    | none=>rw[ho] at h;cases l<;>cases h
    | some s1=>
      rw[ho] at h;have next:∀ s',aE s'=s1->WR P G k l (fun s'=>aE s'=st') s':=fun s' hs'=>Vz hcall l s' st' (by rw[hs'];exact h)
      cases hr:jF L o.ai o.guard with
      | false=>rw[hr] at ho;exact Vy hcall ho next
      | true=>
        rw[hr] at ho;obtain⟨d,ai,g⟩:=o;cases g with
        | some g=>cases ai<;>simp[jF] at hr
        | none=>exact WR.cons (Oh hcall ho next)
theorem aPM(hcall:cB P G call){L:List Nat}{l:List aM}{o:aM}{s1:AS}(ho:Fx call G L (aE s) l o.dst o.ai o.guard (jF L o.ai o.guard)=some s1)(next:∀ s',aE s'=s1->K s'):AN P G k o K s:=by
  obtain⟨d,ai,g⟩:=o;unfold AN;simp only at ho ⊢;split
  · rename_i hp
    have hr:jF L ai g=false:=by cases ai<;>first | rfl | cases hp
    rw[hr] at ho;simp only[Fx] at ho;have pure:∀ {s1},lF call G (aE s) l d ai=some s1->∃ v,cW G s ai=some v/\aE ⟨aP s.sl d v,s.hp⟩=s1:=by
      intro s1 h;have h2:Ea G (aE s) d ai=some s1:=by cases ai<;>first | exact h | cases hp
      rw[show Ea G (aE s) d ai=exX G (aE s) ⟨d,ai,none⟩ from uQ G (aE s) ⟨d,ai,none⟩] at h2
      have h3:(cW G (aE s) ai).map (fun v=>(⟨aP (aE s).sl d v,(aE s).hp⟩:AS))=some s1:=by cases ai<;>first | exact h2 | cases hp
      rw[pG] at h3;obtain⟨v,h4,h5⟩:=Option.map_eq_some_iff.1 h3;exact⟨v,h4,h5⟩
    cases g with
    | none=>
      obtain⟨v,h1,h2⟩:=pure ho;exact .inr ⟨trivial,v,h1,next _ h2⟩
    | some g=>
      simp only[Si] at ho;cases hg:gK g.2 (aJ G (aE s).sl (.t g.1)) with
      | none=>rw[hg] at ho;cases ho
      | some b=>
        rw[hg] at ho;cases b with
        | true=>
          obtain⟨v,h1,h2⟩:=pure ho;exact .inr ⟨F8 hg,v,h1,next _ h2⟩
        | false=>
          injection ho with ho
          exact .inl ⟨F9 hg,next _ (by rw[<- ho];rfl)⟩
  · cases hr:jF L ai g with
    | true=>
      rw[hr] at ho;cases g with
      | some g=>cases ai<;>simp[jF] at hr
      | none=>exact Oh hcall ho next
    | false=>
      rw[hr] at ho;simp only[Fx] at ho;cases g with
      | none=>exact Ed hcall ho next
      | some g=>
        simp only[Si] at ho;cases hg:gK g.2 (aJ G (aE s).sl (.t g.1)) with
        | none=>rw[hg] at ho;cases ho
        | some b=>
          rw[hg] at ho;cases b with
          | true=>exact WR.guard (F8 hg) rfl (Ed hcall ho next)
          | false=>
            injection ho with ho
            exact WR.skip (F9 hg) (WR.nil (next _ (by rw[<- ho];rfl)))
theorem aLV(hcall:cB P G call){L:List Nat}{n0:Nat}{ops:List aM}:∀ (t:IT) (s st':AS),C1 call G L n0 ops t (some (aE s))=some st'->TW P G k ops (fun s'=>∃ p,pOK n0 s'.hp.length p/\aE (prm p s')=st') t s:=by
  have node:∀ (t:IT),(∀ (s st':AS),C1 call G L n0 ops t (some (aE s))=some st'->TW P G k ops (fun s'=>∃ p,pOK n0 s'.hp.length p/\aE (prm p s')=st') t s)->∀ (s st':AS) (i:Nat),
      C1 call G L n0 ops t (Fx call G L (aE s) ops (gE ops i).dst (gE ops i).ai (gE ops i).guard (jF L (gE ops i).ai (gE ops i).guard))=some st'->AN P G k (gE ops i) (TW P G k ops (fun s'=>∃ p,pOK n0 s'.hp.length p/\aE (prm p s')=st') t) s:=by
    intro t ih s st' i h;cases ho:Fx call G L (aE s) ops (gE ops i).dst (gE ops i).ai (gE ops i).guard (jF L (gE ops i).ai (gE ops i).guard) with
    | none=>rw[ho] at h;cases t<;>cases h
    | some s1=>
      rw[ho] at h;exact aPM hcall ho (fun s' hs'=>ih s' st' (by rw[hs'];exact h))
  intro t
  induction t with
  | nil=>intro s st' h;simp only[C1,Option.some.injEq] at h;exact⟨[],(fun x hx=>by cases hx),h⟩
  | stop=>intro s st' h;cases h
  | st i t ih=>exact fun s st' h=>node t ih s st' i h
  | br i t r iht ihr=>
    intro s st' h;simp only[C1] at h;cases hr:Kk r with
    | true=>
      rw[hr] at h;refine⟨node t iht s st' i h, ?_⟩;cases r<;>simp[Kk] at hr;trivial
    | false=>
      rw[hr] at h;obtain⟨h1,s2,p,h2,h3,h4⟩:=F4 h;refine⟨node t iht s st' i h1,TW.mono (fun s' ⟨q,g1,g2⟩=>?_) r s (ihr s s2 h2)⟩
      have hl:s2.hp.length=s'.hp.length:=by rw[<- g2,Ny,Vc]
      refine⟨q++p,fun x hx=>?_, ?_⟩
      · rcases aXy.1 hx with hx | hx
        · exact g1 x hx
        · rw[<- hl];exact h3 x hx
      · rw[Vd,Nx,g2,h4]
theorem aG0{ai:AI}:cW G ⟨(aE s).sl,Kf ai (aE s).hp⟩ ai=cW G ⟨s.sl,Kf ai s.hp⟩ ai:=by
  cases ai<;>first | rfl | exact pG (s:=⟨s.sl,s.hp⟩)
theorem aCy(hcall:cB P G call){d:Option Nat}{ai:AI}(h:Bb call G (aE s) d ai=some st'):
    ∃ v,(cW G ⟨s.sl,Kf ai s.hp⟩ ai=some v\/∃ f args cargs r,ai=.call f args/\QC P G f cargs r/\∀ n,args.map (aJ G s.sl)=cargs.map (dB (cG [] n))/\v=dB (cG [] n) r)/\(⟨aP (aE s).sl d v,(aE s).hp⟩:AS)=st':=by
  have plain:fF (aE s) d (Yy G (aE s).sl (Kf ai (aE s).hp) ai)=some st'->∃ v,cW G ⟨s.sl,Kf ai s.hp⟩ ai=some v/\(⟨aP (aE s).sl d v,(aE s).hp⟩:AS)=st':=by
    intro h;rw[aB0,aG0] at h;cases hv:cW G ⟨s.sl,Kf ai s.hp⟩ ai with
    | none=>rw[hv] at h;cases h
    | some v=>rw[hv] at h;injection h with h;exact⟨v,rfl,h⟩
  have other:(∀ f xs,ai≠.call f xs)->∃ v,cW G ⟨s.sl,Kf ai s.hp⟩ ai=some v/\(⟨aP (aE s).sl d v,(aE s).hp⟩:AS)=st':=fun hne=>plain (by
    cases ai<;>first | exact h | (exact absurd rfl (hne _ _)))
  by_cases hcl:∃ f xs,ai=.call f xs
  · obtain⟨f,xs,rfl⟩:=hcl
    simp only[Bb] at h;cases hk:(jX G (aE s).sl xs).all (cU fun _=>true) with
    | false=>rw[hk] at h;cases h
    | true=>
      rw[hk] at h;simp only[cond_true] at h;cases hc:call f (jX G (aE s).sl xs) [] with
      | none=>rw[hc] at h;cases h
      | some r=>
        obtain⟨av,os⟩:=r;rw[hc] at h;have hargs:∀ n,xs.map (aJ G s.sl)=(xs.map (aJ G s.sl)).map (dB (cG [] n)):=fun n=>by
          conv=>lhs;rw[<- List.map_id (xs.map (aJ G s.sl))]
          refine aWC (fun v hv=>(rnV v ?_).symm)
          rw[mJ,List.all_map] at hk;have:=List.all_eq_true.1 hk v hv;rwa[Function.comp_apply,zW] at this
        cases os with
        | cons o os=>
          simp only[qcK,qcF] at h;generalize hv0:bA (fun id=>decide (0<=id)) ((bR (iL av) ⟨[av],o::os⟩).sl.getD 0 .junk)=v at h
          cases hkv:cU (fun _=>true) v with
          | false=>rw[hkv] at h;cases h
          | true=>
            rw[hkv] at h;injection h with h
            have g2:QC P G f (jX G (aE s).sl xs) v:=QC.quiet hcall (by
              unfold sV;rw[hc];simp only[aWr];rw[hv0,hkv];rfl)
            refine⟨v,.inr ⟨f,xs,xs.map (aJ G s.sl),v,rfl, ?_,fun n=>⟨hargs n,(rnV v hkv).symm⟩⟩,h⟩
            rw[mJ] at g2;exact AC.nzArgs g2
        | nil=>
          simp only[qcK] at h;cases hkv:cU (fun _=>true) av with
          | false=>rw[hkv] at h;cases h
          | true=>
            rw[hkv] at h;injection h with h
            obtain⟨_,g2⟩:=hcall _ _ _ _ _ hc [] rfl;refine⟨av,.inr ⟨f,xs,xs.map (aJ G s.sl),av,rfl, ?_,fun n=>⟨?_,(rnV av hkv).symm⟩⟩,h⟩
            · rw[mJ] at g2
              exact g2.nzArgs.gh (fun a o ⟨h1,h2⟩ _=>⟨a,o,Gh.refl,aWA _,h1,by simpa using h2⟩)
            · conv=>lhs;rw[<- List.map_id (xs.map (aJ G s.sl))]
              refine aWC (fun v hv=>(rnV v ?_).symm)
              rw[mJ,List.all_map] at hk;have:=List.all_eq_true.1 hk v hv;rwa[Function.comp_apply,zW] at this
  · obtain⟨v,h1,h2⟩:=other (fun f xs hh=>hcl ⟨f,xs,hh⟩)
    exact⟨v,.inl h1,h2⟩
theorem aG1(hcall:cB P G call){d:Option Nat}{ai:AI}(h:Zd call G (aE s) d ai=some st')(hK:∀ s',aE s'=st'->K s'):rK P G k d ai K s.sl s.hp:=by
  have dt:∀ {f xs},dnZ call G d f xs (aE s)=some st'->rK P G k d (.call f xs) K s.sl s.hp:=by
    intro f xs h;obtain⟨av,os,h0,h1,h2,h3⟩:=aLU hcall h;refine⟨_,zI.of h2 (h1 _),⟨_,_,av,os,⟨rfl,h0⟩,rfl,rfl⟩, ?_⟩;rintro a o ⟨av0,os0,⟨rfl,h5⟩,rfl,rfl⟩;refine hK _ ?_;rw[<- h3,<- h5];simp only[aE,aWW,aWE];congr 2;exact aWC (fun o _=>mV o)
  cases ai<;>first | (cases h;done) | skip
  case call f xs=>
    simp only[Zd] at h;cases hc:call f (zT G (aE s) xs) [] with
    | none=>rw[hc] at h;cases h
    | some r=>
      obtain⟨av,os⟩:=r;rw[hc] at h;cases os with
      | nil=>
        simp only[dvK] at h;cases hr:kX av with
        | true=>
          rw[hr] at h;injection h with h
          refine⟨_,zI.viewP (Vv hcall hc) hr (by rw[aWE];rfl),⟨av,[],rfl,rfl⟩, ?_⟩;rintro a o ⟨rfl,rfl⟩;rw[aXr];exact hK _ (by rw[<- h];rfl)
        | false=>rw[hr] at h;exact dt h
      | cons o os=>exact dt h
  case callv x xs=>exact Vw hcall h hK
  case mk size bytes z x y=>exact Vx h hK
  case clr size z x=>exact Oc h hK
  case cpys x y=>exact Od h hK
  case cvsb x=>exact Oe h hK
  case app size bytes z a x=>exact Vs h hK
  case bslc size len z ps=>exact Vt h hK
  case alloc z=>
    simp only[Zd,Ea,Option.some.injEq] at h;exact hK _ (by rw[<- h];simp[aE,aN])
  case box x=>
    simp only[Zd,Ea] at h;cases hc:cellsOf (aJ G (aE s).sl x) with
    | none=>rw[hc] at h;cases h
    | some cs=>rw[hc] at h;injection h with h;exact⟨cs,hc,hK _ (by rw[<- h];simp[aE,aN])⟩
  case store size x v=>
    simp only[Zd,Ea] at h;cases d with
    | some d=>cases h
    | none=>
      refine⟨rfl, ?_⟩;simp only[stD,stX,show (aE s).sl=s.sl from rfl] at h
      split at h
      · rename_i id off hx
        left
        split at h
        · rename_i vs hv
          split at h
          · rename_i cs hb
            rw[aE,bH] at hb;split at h
            · rename_i hc
              injection h with h
              exact⟨id,off,cs,vs,hx,hv,pH hb,hc.1,hc.2,hK _ (by rw[<- h];simp[aE,aN,aWM])⟩
            · cases h
          · cases h
        · cases h
      · rename_i id i z off hx
        right
        split at h
        · rename_i ds hv
          split at h
          · rename_i c z' es hb
            rw[aE,bH] at hb;obtain⟨cap,hb2,rfl⟩:=mW hb;split at h
            · rename_i e he
              split at h
              · rename_i hc
                injection h with h
                obtain⟨rfl,hc1,hc2⟩:=hc;obtain⟨cs,hcs,hdc⟩:=aW5.1 hv;exact⟨id,i,z,off,cap,es,e,ds,hx,by rw[hcs,lL hdc],hb2,he,hc1,hc2,hK _ (by rw[<- h];simp[aE,aN,aWM])⟩
              · cases h
            · cases h
          · cases h
        · cases h
      · cases h
theorem V0(hcall:cB P G call):∀ (ops:List (Bool × aM)) (s:AS) (st':AS),Dn call G ops (some (aE s))=some st'->iU P G k (fun s'=>aE s'=st') ops s
  | [],s,st',h=>by simp only[Dn,Option.some.injEq] at h;exact h
  | (q,o)::l,s,st',h=>by
    simp only[Dn] at h;cases ho:drO call G (aE s) q o.dst o.ai o.guard with
    | none=>rw[ho] at h;cases l<;>cases h
    | some s1=>
      rw[ho] at h;have next:∀ s',aE s'=s1->iU P G k (fun s'=>aE s'=st') l s':=fun s' hs'=>V0 hcall l s' st' (by rw[hs'];exact h)
      have op:iG G s o.guard->Ze call G (aE s) o.dst o.ai q=some s1->iU P G k (fun s'=>aE s'=st') ((q,o)::l) s:=by
        intro hg hz;cases q with
        | true=>
          obtain⟨v,h1,h2⟩:=aCy hcall hz;exact⟨v,.inr ⟨hg,h1⟩,next _ (by rw[<- h2];rfl)⟩
        | false=>exact .inr ⟨hg,aG1 hcall hz next⟩
      cases hgd:o.guard with
      | none=>rw[hgd] at ho;exact op (by rw[hgd];trivial) ho
      | some g=>
        rw[hgd] at ho;simp only[drO] at ho;cases hg:gK g.2 (aJ G (aE s).sl (.t g.1)) with
        | none=>rw[hg] at ho;cases ho
        | some b=>
          rw[hg] at ho;cases b with
          | true=>exact op (by rw[hgd];exact F8 hg) ho
          | false=>
            injection ho with ho
            exact WD.skip (by rw[hgd];exact F9 hg) (next _ (by rw[<- ho];rfl))
theorem V1{sl:List AV}:∀ {xs:List aH} {x:aH} {id:Nat},x∈xs->id∈Ml (aJ G sl x)->id∈Zh G sl xs
  | y::xs,x,id,hx,hid=>by
    rw[Zh,aXy];rcases aXn.1 hx with rfl | hx
    · exact .inl hid
    · exact .inr (V1 hx hid)
theorem Ee(s:AS)(id:Nat):(aE s).hp[id]?=(s.hp[id]?).map aN:=by simp[aE]
theorem aCz(hcall:cB P G call){o:aM}{r:Nat}{s1:AS}{f:FP}(hk:k<=r)(hgd:iG G s o.guard)(h:Ia call G (aE s) o.dst r o.ai=some (s1,f)):∃ v u,jK P G k o s v u f.2/\wrU u=f.1/\aE (Iz o s v u)=s1:=by
  have pure:o.ai.isPure=true->Rf (Zh G (aE s).sl (aW o.ai)) (lF call G (aE s) [] o.dst o.ai)=some (s1,f)->lF call G (aE s) [] o.dst o.ai=Ea G (aE s) o.dst o.ai->(∀ st':AS,Ea G st' o.dst o.ai=(cW G st' o.ai).map fun v=>⟨aP st'.sl o.dst v,st'.hp⟩)->∃ v u,jK P G k o s v u f.2/\wrU u=f.1/\aE (Iz o s v u)=s1:=by
    intro _ h e1 e2;rw[e1,e2,pG] at h;cases hv:cW G s o.ai with
    | none=>rw[hv] at h;cases h
    | some v=>
      rw[hv] at h;simp only[aWi,Rf,Option.some.injEq,Prod.mk.injEq] at h;obtain⟨h1,h2⟩:=h;subst h2;exact⟨v,none,.pur v _ hgd hv (fun x hx id hid=>V1 hx hid),rfl,by rw[<- h1];rfl⟩
  have ex:∀ st':AS,o.ai.isPure=true->Ea G st' o.dst o.ai=(cW G st' o.ai).map fun v=>⟨aP st'.sl o.dst v,st'.hp⟩:=by
    intro st' hp;rw[uQ];unfold exX;cases hai:o.ai<;>rw[hai] at hp<;>first | rfl | (simp[AI.isPure] at hp;done)
  cases hai:o.ai with
  | alloc z=>
    rw[hai] at h;simp only[Ia,Ee] at h;cases hb:s.hp[r]? with
    | none=>rw[hb] at h;cases h
    | some ob=>
      rw[hb] at h;cases ob with
      | dead=>
        simp only[aWi,aN,fvN,Option.some.injEq,Prod.mk.injEq] at h;obtain⟨h1,h2⟩:=h;subst h2;exact⟨_,_,.alloc z r hgd hai hb hk,rfl,by rw[<- h1];simp[aE,Iz,zL,aN,aWM]⟩
      | box cs=>cases h
      | arr c sz es=>cases h
  | store size x v=>
    rw[hai] at h;simp only[Ia] at h;unfold fvS at h;split at h
    · rename_i id off vs hx hv
      cases hd:o.dst with
      | some d=>rw[hd] at h;cases h
      | none=>
        rw[hd] at h;simp only[Ee] at h;cases hb:s.hp[id]? with
        | none=>rw[hb] at h;cases h
        | some ob=>
          rw[hb] at h;cases ob with
          | dead=>cases h
          | arr c sz es=>cases h
          | box cs=>
            simp only[aWi,aN,fvT] at h;split at h
            · rename_i hc
              simp only[Option.some.injEq,Prod.mk.injEq] at h;obtain⟨h1,h2⟩:=h;subst h2;exact⟨_,_,.store size x v id off cs vs hgd hai hd hx hv hb hc.1 hc.2,rfl,by rw[<- h1];simp[aE,Iz,zL,aN,aWM,aP,hd]⟩
            · cases h
    · cases h
  | bslc size len z ps=>
    rw[hai] at h;simp only[Ia] at h;cases len with
    | zero=>cases h
    | succ len=>
      simp only[fvL] at h;cases hq:bsX G (aE s) o.dst size (len+1) z ps with
      | none=>rw[hq] at h;cases h
      | some s2=>
        rw[hq] at h;simp only[Rf,Option.some.injEq,Prod.mk.injEq] at h;obtain⟨h1,h2⟩:=h;subst h2;unfold bsX at hq;simp only at hq;cases hf:gD (zs z ((len+1) * size)) (ps.map fun (j,x)=>(j * size,size,aJ G (aE s).sl x)) with
        | none=>simp[hf] at hq
        | some cs=>
          simp only[hf,aWr] at hq;cases hd:dcs cs with
          | none=>simp[hd] at hq
          | some ds=>
            simp only[hd,aWr] at hq;split at hq
            · rename_i hl
              injection hq with hq
              obtain⟨g1,g2,g3⟩:=jW size (len+1) ds hl;rw[Jb] at hf;exact⟨_,none,.lit size (len+1) z ps (eO size (len+1) ds) hgd hai (by rw[g1,<- lL hd];exact hf) g2 g3,rfl,by rw[<- h1,<- hq];rfl⟩
            · cases hq
  | cpys x y=>
    rw[hai] at h;simp only[Ia] at h;unfold fvY at h;split at h
    · rename_i id lo n z bs hx hy
      split at h
      · rename_i hz
        subst hz;rw[Ee] at h;cases hb:s.hp[id]? with
        | none=>rw[hb] at h;cases h
        | some ob=>
          rw[hb] at h;cases ob with
          | dead=>cases h
          | arr c z es=>cases h
          | box cs=>
            simp only[aWi,aN,aGO] at h;split at h
            · rename_i hc
              simp only[Option.some.injEq,Prod.mk.injEq] at h;obtain⟨h1,h2⟩:=h;subst h2;exact⟨_,_,.cpy x y id lo n bs cs hgd hai hx hy hb hc,rfl,by rw[<- h1];simp[aE,Iz,zL,aN,aWM]⟩
            · cases h
      · cases h
    · cases h
  | call g xs=>
    rw[hai] at h;simp only[Ia] at h;generalize ((xs.map (aJ G (aE s).sl)).flatMap iL)=J at h
    match J with
    | []=>
      simp only[fvC] at h;cases hq:Bb call G (aE s) o.dst (.call g xs) with
      | none=>rw[hq] at h;cases h
      | some s2=>
        rw[hq] at h;simp only[Rf,Option.some.injEq,Prod.mk.injEq] at h;obtain⟨h1,h2⟩:=h;subst h2;obtain⟨v,hv,he⟩:=aCy hcall hq;rcases hv with hv | ⟨f',args,cargs,r',e1,e2,e3⟩
        · simp[cW] at hv
        · exact⟨v,none,.call f' args cargs r' v hgd (hai.trans e1) e2 e3,rfl,by rw[<- h1,<- he];rfl⟩
    | [id]=>
      simp only[fvC,Ee] at h;cases hb:s.hp[id]? with
      | none=>rw[hb] at h;cases h
      | some ob=>
        rw[hb] at h;cases ob with
        | dead=>cases h
        | arr c z es=>cases h
        | box cs=>
          simp only[aWi,aN,fvB] at h;cases hk:(keepL (fun _=>true) cs&&(xs.map (aJ G (aE s).sl)).all (cU (jU [id]))) with
          | false=>rw[hk] at h;cases h
          | true=>
            rw[hk] at h;simp only[cond_true] at h;simp only[aWs] at hk;unfold aCl at h;split at h
            · rename_i cs' hc
              cases hk2:keepL (fun _=>true) cs' with
              | false=>rw[hk2] at h;cases h
              | true=>
                rw[hk2] at h;simp only[cond_true,Option.some.injEq,Prod.mk.injEq] at h;obtain⟨h1,h2⟩:=h;subst h2;obtain⟨_,hA⟩:=sX hcall _ _ _ _ _ hc [.box cs] rfl;refine⟨.tup [],some (id,.box cs'),.callB g xs _ id cs cs' hgd hai hb (hA.gh (fun a o' ⟨q1,q2⟩ hl=>⟨a,o',Gh.refl,hl,q1, ?_⟩)) (fun n=>?_) (fun n=>⟨?_, ?_⟩),rfl,by rw[<- h1];simp[aE,Iz,zL,aN,aWM]⟩
                · obtain⟨x,rfl⟩:=List.length_eq_one_iff.1 (by have:=congrArg List.length q2;simpa using this:o'.length=1)
                  simp only[aWp,aWw,List.cons.injEq,and_true] at q2;rw[pH q2]
                · rw[aWE]
                  conv=>lhs;rw[<- List.map_id (xs.map (aJ G s.sl))]
                  exact aWC (fun v hv=>(rtV v (List.all_eq_true.1 hk.2 v hv)).symm)
                · simp only[dP,<- nF,rnL _ hk.1]
                · simp only[dP,<- nF,rnL _ hk2]
            · cases h
    | _::_::_=>cases h
  | _=>
    rw[hai] at h
    first
      | (refine pure (by rw[hai];rfl) (by rw[hai];exact h) (by rw[hai];rfl) (fun st'=>ex st' (by rw[hai];rfl)))
      | (cases h;done)
theorem aLW(hcall:cB P G call){o:aM}{r:Nat}{s1:AS}{f:FP}(hk:k<=r)(h:fvO call G (aE s) o.dst r o.ai o.guard=some (s1,f)):∃ v u,jK P G k o s v u f.2/\wrU u=f.1/\aE (Iz o s v u)=s1:=by
  cases hgd:o.guard with
  | none=>rw[hgd] at h;exact aCz hcall hk (by rw[hgd];trivial) h
  | some g=>
    rw[hgd] at h;simp only[fvO] at h;cases hg:gK g.2 (aJ G (aE s).sl (.t g.1)) with
    | none=>rw[hg] at h;cases h
    | some b=>
      rw[hg] at h;cases b with
      | true=>exact aCz hcall hk (by rw[hgd];exact F8 hg) h
      | false=>
        simp only[fvG,Option.some.injEq,Prod.mk.injEq] at h;obtain⟨h1,h2⟩:=h;subst h2;exact⟨_,none,.skip (by rw[hgd];exact F9 hg),rfl,by rw[<- h1];rfl⟩
theorem aCA(hcall:cB P G call){prs:List (Nat × Nat)}:∀ (ops:List aM) (acc:List FP) (r:Nat) (s:AS) (st':AS),k<=r->Sj call G prs acc r ops (some (aE s))=some st'->
    ∃ L:List FE,L.map (·.1)=ops/\kM P G k (fun s'=>aE s'=st') L s/\Ib prs (acc++L.map (·.2))=true
  | [],acc,r,s,st',hk,h=>by
    simp only[Sj] at h;cases hc:Ib prs acc with
    | false=>rw[hc] at h;cases h
    | true=>
      rw[hc] at h;injection h with h
      exact⟨[],rfl,h,by simpa using hc⟩
  | o::ops,acc,r,s,st',hk,h=>by
    simp only[Sj] at h;cases ho:fvO call G (aE s) o.dst r o.ai o.guard with
    | none=>rw[ho] at h;cases h
    | some q=>
      obtain⟨s1,f⟩:=q;rw[ho] at h;obtain⟨v,u,hs,hw,hn⟩:=aLW hcall hk ho;simp only[<- hn] at h;obtain⟨L,hL,hR,hC⟩:=aCA hcall ops (acc++[f]) _ (Iz o s v u) st' (by cases Zg o.ai<;>simp<;>omega) h;exact⟨(o,f)::L,by simp[hL],⟨v,u,f.2,hs,hw,rfl,hR⟩,by simpa using hC⟩
theorem V2:∀ (L:List Nat) (n:Nat),N4 L n=L.contains n
  | [],n=>rfl
  | x::L,n=>by
    rw[N4,V2 L n,iA,List.contains_cons]
theorem V3:∀ (a b:List Nat),Do a b=rN a b
  | [],b=>rfl
  | x::a,b=>by rw[Do,V3 a b,V2];rfl
theorem So:∀ (fs:List FE) (n:Nat),atF (fs.map (·.2)) n=(fs.getD n nC).2
  | [],n=>by cases n<;>rfl
  | f::fs,0=>rfl
  | f::fs,n+1=>by rw[aWp,atF,So fs n];simp[aWn]
theorem Zl{a b c:List Nat}:rN a (b++c)=(rN a b&&rN a c):=by
  unfold rN;rw[aXu];simp only[List.all_eq_true,aWs,aXg,List.contains_eq_mem,decide_eq_false_iff_not,aXy,not_or];exact⟨fun h=>⟨fun x hx=>(h x hx).1,fun x hx=>(h x hx).2⟩,fun h x hx=>⟨h.1 x hx,h.2 x hx⟩⟩
theorem V4{L:List FE}:∀ (prs:List (Nat × Nat)),Ib prs (L.map (·.2))=true->∀ p∈prs,dsj (L.getD p.1 nC).2 (L.getD p.2 nC).2=true
  | [],_,p,hp=>by cases hp
  | (a,b)::prs,h,p,hp=>by
    simp only[Ib,aWs] at h;rcases aXn.1 hp with rfl | hp
    · have h1:=h.1
      rw[So,So] at h1;show dsj (L.getD a nC).2 (L.getD b nC).2=true;revert h1;generalize (L.getD a nC).2=x;generalize (L.getD b nC).2=y;obtain⟨w,r⟩:=x;obtain⟨w',r'⟩:=y;intro h1;simp only[dsM,V3] at h1;simp only[dsj,Zl];simp only[aWs] at h1 ⊢;exact⟨⟨h1.1,h1.2.1⟩,h1.2.2⟩
    · exact V4 prs h.2 p hp
theorem Oi:∀ n,zU n=List.replicate n .dead
  | 0=>rfl
  | n+1=>by rw[zU,Oi n,List.replicate_succ]
theorem Sp(hcall:cB P G call){prs:List (Nat × Nat)}{ops:List aM}{s st':AS}(hk:k<=s.hp.length)(h:Sj call G prs [] (aE s).hp.length ops (some ⟨(aE s).sl,(aE s).hp++zU (nAl ops)⟩)=some st'){Q:Exit->AS->Prop}(hQ:∀ s',aE s'=st'->Q .normal s'):
    AW P G k (.drawnF prs ops) Q s:=by
  refine AW.ghost (Gh.dead (nAl ops)) ?_;have e:(⟨(aE s).sl,(aE s).hp++zU (nAl ops)⟩:AS)=aE ⟨s.sl,s.hp++List.replicate (nAl ops) .dead⟩:=by
    simp[aE,Oi,aN]
  rw[e] at h;obtain⟨L,hL,hR,hC⟩:=aCA hcall ops [] _ _ st' (by simpa[aE] using hk) h;exact AW.drawnF hL (V4 prs (by simpa using hC)) (kM.mono hQ hR)
end
end
end Go.Proofs.YthepfneloomngaaGreatDoor
