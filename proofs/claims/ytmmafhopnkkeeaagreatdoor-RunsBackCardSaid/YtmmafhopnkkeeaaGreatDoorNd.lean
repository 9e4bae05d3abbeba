/- Codes with hints are contracts. Conditions: none. -/
import Derived.Test.YtmmafhopnkkeeaaGreatDoorNa
namespace Go.Proofs.YtmmafhopnkkeeaaGreatDoor
set_option linter.unusedSimpArgs false
set_option linter.unusedVariables false
section
section
variable {α:Type}
theorem lim_of {f:Nat→Option α} (hm:∀ n r,f n=some r→f (n+1)=some r) {n:Nat} {r:α} (h:f n=some r):lim f=some r:=by
  have mono:∀ n r,f n=some r→∀ m,n≤m→f m=some r:=by
    intro n r h m hle
    induction m with
    | zero=>simp at hle;subst hle;exact h
    | succ m ih=>
      by_cases he:n=m+1
      · subst he;exact h
      · exact hm _ _ (ih (by omega))
  have hx:∃ n r,f n=some r:=⟨n,r,h⟩
  unfold lim
  rw [dif_pos hx]
  obtain ⟨r',hr'⟩:=hx.choose_spec
  have h1:=mono _ _ hr' (max hx.choose n) (Nat.le_max_left _ _)
  have h2:=mono _ _ h (max hx.choose n) (Nat.le_max_right _ _)
  rw [hr',← h1,h2]
theorem lim_some {f:Nat→Option α} {r:α} (h:lim f=some r):∃ n,f n=some r:=by
  unfold lim at h
  split at h
  · exact ⟨_,h⟩
  · cases h
end
section
variable {run:AS→Option (Exit × AS)} {L:List Nat} {m:Nat}
theorem lpN_mono:∀ (n:Nat) (st:AS) r,lpN run L m n st=some r→lpN run L m (n+1) st=some r
  | 0,st,r,h=>by simp [lpN] at h
  | n+1,st,r,h=>by
    rw [lpN] at h ⊢
    split at h
    · exact lpN_mono n _ r h
    · exact h
theorem loopE_of {n:Nat} {st:AS} {r:Exit × AS} (h:lpN run L m n st=some r):loopE run L m st=some r:=lim_of (fun n r h=>lpN_mono n st r h) h
theorem loopE_eq (st:AS) {s:AS} (h:run st=some (.normal,s)):loopE run L m st=loopE run L m (trimA L m s):=by
  have e:∀ n,lpN run L m (n+1) st=lpN run L m n (trimA L m s):=fun n=>by rw [lpN,h]
  cases hr:loopE run L m (trimA L m s) with
  | some r=>
    obtain ⟨n,hn⟩:=lim_some hr
    exact loopE_of (n:=n+1) (by rw [e];exact hn)
  | none=>
    cases hl:loopE run L m st with
    | none=>rfl
    | some r=>
      obtain ⟨n,hn⟩:=lim_some hl
      have:loopE run L m (trimA L m s)=some r:=loopE_of (n:=n) (by rw [← e];exact lpN_mono _ _ _ hn)
      rw [hr] at this;cases this
theorem loopE_end {st:AS} {e:Exit} {s:AS} (h:run st=some (e,s)) (he:e≠.normal):loopE run L m st=some (e,s):=by
  refine loopE_of (n:=1) ?_
  rw [lpN,h]
  split
  · rename_i h1;injection h1 with h1;injection h1 with h1;exact absurd h1 he
  · rfl
end
def Sup (calls:Nat→CallT) (call:CallT):Prop:=∀ f a hp r,call f a hp=some r→∃ n,∀ m,n≤m→calls m f a hp=some r
section
variable {calls:Nat→CallT} {call:CallT} {G:Glob}
theorem dtK_sup (hs:Sup calls call) {d:Option Nat} {f:FuncId} {xs:List AArg} {st s:AS} (h:dtK call G d f xs st=some s):∃ n,∀ m,n≤m→dtK (calls m) G d f xs st=some s:=by
  unfold dtK at *
  cases hk:(nzAs G st.sl xs).all (keepV fun _=>true) with
  | false=>rw [hk] at h;cases h
  | true=>
    rw [hk] at h
    simp only [cond_true] at h ⊢
    cases hc:call f (nzAs G st.sl xs) [] with
    | none=>rw [hc] at h;cases h
    | some r=>
      obtain ⟨n,hn⟩:=hs _ _ _ _ hc
      rw [hc] at h
      exact ⟨n,fun m hm=>by rw [hn m hm];exact h⟩
theorem dnZ_sup (hs:Sup calls call) {d:Option Nat} {f:FuncId} {xs:List AArg} {st s:AS} (h:dnZ call G d f xs st=some s):∃ n,∀ m,n≤m→dnZ (calls m) G d f xs st=some s:=by
  unfold dnZ at *
  cases hk:(nzAs G st.sl xs).all (keepV fun _=>true) with
  | false=>rw [hk] at h;cases h
  | true=>
    rw [hk] at h
    simp only [cond_true] at h ⊢
    cases hc:call f (nzAs G st.sl xs) [] with
    | none=>rw [hc] at h;cases h
    | some r=>
      obtain ⟨n,hn⟩:=hs _ _ _ _ hc
      rw [hc] at h
      exact ⟨n,fun m hm=>by rw [hn m hm];exact h⟩
theorem vwK_sup (hs:Sup calls call) {d:Option Nat} {f:FuncId} {xs:List AArg} {st s:AS} (h:vwK call G d f xs st (call f (vwAs G st xs) [])=some s):
    ∃ n,∀ m,n≤m→vwK (calls m) G d f xs st (calls m f (vwAs G st xs) [])=some s:=by
  cases hc:call f (vwAs G st xs) [] with
  | none=>rw [hc] at h;cases h
  | some r=>
    rw [hc] at h
    obtain ⟨n,hn⟩:=hs _ _ _ _ hc
    obtain ⟨av,os⟩:=r
    cases os with
    | nil=>
      simp only [vwK] at h
      cases hr:rawA? av with
      | true=>rw [hr] at h;exact ⟨n,fun m hm=>by rw [hn m hm];simp only [vwK,hr];exact h⟩
      | false=>
        rw [hr] at h
        obtain ⟨n2,hn2⟩:=dtK_sup hs h
        exact ⟨max n n2,fun m hm=>by rw [hn m (by omega)];simp only [vwK,hr];exact hn2 m (by omega)⟩
    | cons o os=>
      obtain ⟨n2,hn2⟩:=dtK_sup hs (st:=frzIds (bldAs G st.sl xs) st) h
      exact ⟨max n n2,fun m hm=>by rw [hn m (by omega)];exact hn2 m (by omega)⟩
theorem dvK_sup (hs:Sup calls call) {d:Option Nat} {f:FuncId} {xs:List AArg} {st s:AS} (h:dvK call G d f xs st (call f (vpAs G st xs) [])=some s):
    ∃ n,∀ m,n≤m→dvK (calls m) G d f xs st (calls m f (vpAs G st xs) [])=some s:=by
  cases hc:call f (vpAs G st xs) [] with
  | none=>rw [hc] at h;cases h
  | some r=>
    rw [hc] at h
    obtain ⟨n,hn⟩:=hs _ _ _ _ hc
    obtain ⟨av,os⟩:=r
    cases os with
    | nil=>
      simp only [dvK] at h
      cases hr:rawA? av with
      | true=>rw [hr] at h;exact ⟨n,fun m hm=>by rw [hn m hm];simp only [dvK,hr];exact h⟩
      | false=>
        rw [hr] at h
        obtain ⟨n2,hn2⟩:=dnZ_sup hs h
        exact ⟨max n n2,fun m hm=>by rw [hn m (by omega)];simp only [dvK,hr];exact hn2 m (by omega)⟩
    | cons o os=>
      obtain ⟨n2,hn2⟩:=dnZ_sup hs (st:=st) h
      exact ⟨max n n2,fun m hm=>by rw [hn m (by omega)];exact hn2 m (by omega)⟩
theorem evCall_sup (hs:Sup calls call) {d:Option Nat} {f:FuncId} {avs:List AV} {st s:AS} (h:evCall call d f avs st=some s):∃ n,∀ m,n≤m→evCall (calls m) d f avs st=some s:=by
  unfold evCall at *
  simp only at h ⊢
  split at h
  · rename_i hk
    simp only [hk,if_true]
    obtain ⟨r,h1,h2⟩:=Option.map_eq_some_iff.1 h
    obtain ⟨n,hn⟩:=hs _ _ _ _ h1
    exact ⟨n,fun m hm=>by rw [hn m hm];exact congrArg some h2⟩
  · cases h
theorem nzCall_sup (hs:Sup calls call):Sup (fun n=>nzCall (calls n)) (nzCall call):=fun f a hp r h=>hs f (a.map nzV) hp r h
theorem clZ_sup (hs:Sup calls call) {d:Option Nat} {f:FuncId} {xs:List AArg} {st s:AS} (h:clZ call G d f xs st=some s):∃ n,∀ m,n≤m→clZ (calls m) G d f xs st=some s:=by
  unfold clZ at *
  cases hp:plainAs G st.sl xs with
  | true=>rw [hp] at h;exact vwK_sup hs h
  | false=>rw [hp] at h;exact evCall_sup (nzCall_sup hs) h
theorem cvZ_sup (hs:Sup calls call) {d:Option Nat} {x:AArg} {xs:List AArg} {st s:AS} (h:cvZ call G d x xs st=some s):∃ n,∀ m,n≤m→cvZ (calls m) G d x xs st=some s:=by
  unfold cvZ at *
  unfold cvK at *
  split at h
  · exact evCall_sup (nzCall_sup hs) h
  · cases h
theorem stZ_sup (hs:Sup calls call) {st s:AS} {l:List AOp} {d:Option Nat} {ai:AI} (h:stZ call G st l d ai=some s):∃ n,∀ m,n≤m→stZ (calls m) G st l d ai=some s:=by
  cases ai with
  | call f xs=>exact clZ_sup hs h
  | callv x xs=>exact cvZ_sup hs h
  | _=>exact ⟨0,fun _ _=>h⟩
theorem stO_sup (hs:Sup calls call) {st s:AS} {l:List AOp} {d:Option Nat} {ai:AI} {g:Option (Nat × Bool)} (h:stO call G st l d ai g=some s):∃ n,∀ m,n≤m→stO (calls m) G st l d ai g=some s:=by
  cases g with
  | none=>exact stZ_sup hs h
  | some g=>
    simp only [stO] at h ⊢
    cases hg:gK g.2 (evA G st.sl (.t g.1)) with
    | none=>rw [hg] at h;cases h
    | some b=>
      rw [hg] at h
      cases b with
      | true=>exact stZ_sup hs h
      | false=>exact ⟨0,fun _ _=>h⟩
theorem evR_sup (hs:Sup calls call):∀ (l:List AOp) (st s:AS),evR call G l (some st)=some s→∃ n,∀ m,n≤m→evR (calls m) G l (some st)=some s
  | [],st,s,h=>⟨0,fun _ _=>h⟩
  | o::l,st,s,h=>by
    simp only [evR] at h ⊢
    cases ho:stO call G st l o.dst o.ai o.guard with
    | none=>rw [ho] at h;cases l<;>cases h
    | some s1=>
      rw [ho] at h
      obtain ⟨n1,h1⟩:=stO_sup hs ho
      obtain ⟨n2,h2⟩:=evR_sup hs l s1 s h
      exact ⟨max n1 n2,fun m hm=>by rw [h1 m (by omega)];exact h2 m (by omega)⟩
theorem stR_sup (hs:Sup calls call) {L:List Nat} {st s:AS} {l:List AOp} {d:Option Nat} {ai:AI} {g:Option (Nat × Bool)} {b:Bool} (h:stR call G L st l d ai g b=some s):∃ n,∀ m,n≤m→stR (calls m) G L st l d ai g b=some s:=by
  cases b with
  | false=>exact stO_sup hs h
  | true=>
    cases ai with
    | call f xs=>
      simp only [stR,refZ] at h ⊢
      cases hb:hasN L (f+100000) with
      | false=>rw [hb] at h;exact evCall_sup (nzCall_sup hs) h
      | true=>
        rw [hb] at h
        simp only [refB] at h ⊢
        cases hc:call f (vpAs G st xs) [] with
        | none=>rw [hc] at h;cases h
        | some r=>
          obtain ⟨n,hn⟩:=hs _ _ _ _ hc
          rw [hc] at h
          exact ⟨n,fun m hm=>by rw [hn m hm];exact h⟩
    | mk=>exact ⟨0,fun _ _=>h⟩
    | cvsb=>exact ⟨0,fun _ _=>h⟩
    | _=>cases h
theorem evRR_sup (hs:Sup calls call) {L:List Nat}:∀ (l:List AOp) (st s:AS),evRR call G L l (some st)=some s→∃ n,∀ m,n≤m→evRR (calls m) G L l (some st)=some s
  | [],st,s,h=>⟨0,fun _ _=>h⟩
  | o::l,st,s,h=>by
    simp only [evRR] at h ⊢
    cases ho:stR call G L st l o.dst o.ai o.guard (isRef L o.ai o.guard) with
    | none=>rw [ho] at h;cases l<;>cases h
    | some s1=>
      rw [ho] at h
      obtain ⟨n1,h1⟩:=stR_sup hs ho
      obtain ⟨n2,h2⟩:=evRR_sup hs l s1 s h
      exact ⟨max n1 n2,fun m hm=>by rw [h1 m (by omega)];exact h2 m (by omega)⟩
theorem meetE_some {n0:Nat} {a b:Option AS} {s:AS} (h:meetE n0 a b=some s):a=some s∧∃ s' p,b=some s'∧pOK n0 s'.hp.length p∧prm p s'=s:=by
  unfold meetE at h
  split at h
  · rename_i e
    obtain ⟨s1,s',p,h1,h2,h3,h4⟩:=e
    rw [h1] at h
    injection h with h
    subst h
    exact ⟨h1,s',p,h2,h3,h4⟩
  · cases h
theorem meetE_of {n0:Nat} {a b:Option AS} {s s':AS} {p:List (Nat × Nat)} (h1:a=some s) (h2:b=some s') (h3:pOK n0 s'.hp.length p) (h4:prm p s'=s):meetE n0 a b=some s:=by
  unfold meetE;rw [if_pos ⟨s,s',p,h1,h2,h3,h4⟩,h1]
theorem evT_sup (hs:Sup calls call) {L:List Nat} {n0:Nat} {ops:List AOp}:∀ (t:IT) (st s:AS),evT call G L n0 ops t (some st)=some s→∃ n,∀ m,n≤m→evT (calls m) G L n0 ops t (some st)=some s:=by
  have node:∀ (t:IT),(∀ (st s:AS),evT call G L n0 ops t (some st)=some s→∃ n,∀ m,n≤m→evT (calls m) G L n0 ops t (some st)=some s)→∀ (st s:AS) (i:Nat),
      evT call G L n0 ops t (stR call G L st ops (atO ops i).dst (atO ops i).ai (atO ops i).guard (isRef L (atO ops i).ai (atO ops i).guard))=some s→
      ∃ n,∀ m,n≤m→evT (calls m) G L n0 ops t (stR (calls m) G L st ops (atO ops i).dst (atO ops i).ai (atO ops i).guard (isRef L (atO ops i).ai (atO ops i).guard))=some s:=by
    intro t ih st s i h
    cases ho:stR call G L st ops (atO ops i).dst (atO ops i).ai (atO ops i).guard (isRef L (atO ops i).ai (atO ops i).guard) with
    | none=>rw [ho] at h;cases t<;>cases h
    | some s1=>
      rw [ho] at h
      obtain ⟨n1,h1⟩:=stR_sup hs ho
      obtain ⟨n2,h2⟩:=ih s1 s h
      exact ⟨max n1 n2,fun m hm=>by rw [h1 m (by omega)];exact h2 m (by omega)⟩
  intro t
  induction t with
  | nil=>exact fun st s h=>⟨0,fun _ _=>h⟩
  | stop=>exact fun st s h=>by cases h
  | st i t ih=>exact fun st s h=>node t ih st s i h
  | br i t r iht ihr=>
    intro st s h
    simp only [evT] at h ⊢
    cases hr:isStop r with
    | true=>rw [hr] at h;exact node t iht st s i h
    | false=>
      rw [hr] at h
      obtain ⟨h1,s',p,h2,h3,h4⟩:=meetE_some h
      obtain ⟨n1,g1⟩:=node t iht st s i h1
      obtain ⟨n2,g2⟩:=ihr st s' h2
      exact ⟨max n1 n2,fun m hm=>meetE_of (g1 m (by omega)) (g2 m (by omega)) h3 h4⟩
theorem drZ_sup (hs:Sup calls call) {st s:AS} {q:Bool} {d:Option Nat} {ai:AI} (h:drZ call G st d ai q=some s):∃ n,∀ m,n≤m→drZ (calls m) G st d ai q=some s:=by
  cases q with
  | true=>
    simp only [drZ] at h ⊢
    cases ai with
    | call f xs=>
      simp only [qtZ] at h ⊢
      cases hk:(nzAs G st.sl xs).all (keepV fun _=>true) with
      | false=>rw [hk] at h;cases h
      | true=>
        rw [hk] at h
        simp only [cond_true] at h ⊢
        cases hc:call f (nzAs G st.sl xs) [] with
        | none=>rw [hc] at h;cases h
        | some r=>
          obtain ⟨n,hn⟩:=hs _ _ _ _ hc
          rw [hc] at h
          exact ⟨n,fun m hm=>by rw [hn m hm];exact h⟩
    | _=>exact ⟨0,fun _ _=>h⟩
  | false=>
    simp only [drZ] at h ⊢
    cases ai with
    | call f xs=>exact dvK_sup hs h
    | callv x xs=>exact cvZ_sup hs h
    | _=>exact ⟨0,fun _ _=>h⟩
theorem drO_sup (hs:Sup calls call) {st s:AS} {q:Bool} {d:Option Nat} {ai:AI} {g:Option (Nat × Bool)} (h:drO call G st q d ai g=some s):∃ n,∀ m,n≤m→drO (calls m) G st q d ai g=some s:=by
  cases g with
  | none=>exact drZ_sup hs h
  | some g=>
    simp only [drO] at h ⊢
    cases hg:gK g.2 (evA G st.sl (.t g.1)) with
    | none=>rw [hg] at h;cases h
    | some b=>
      rw [hg] at h
      cases b with
      | true=>exact drZ_sup hs h
      | false=>exact ⟨0,fun _ _=>h⟩
theorem evDr_sup (hs:Sup calls call):∀ (l:List (Bool × AOp)) (st s:AS),evDr call G l (some st)=some s→∃ n,∀ m,n≤m→evDr (calls m) G l (some st)=some s
  | [],st,s,h=>⟨0,fun _ _=>h⟩
  | o::l,st,s,h=>by
    simp only [evDr] at h ⊢
    cases ho:drO call G st o.1 o.2.dst o.2.ai o.2.guard with
    | none=>rw [ho] at h;cases l<;>cases h
    | some s1=>
      rw [ho] at h
      obtain ⟨n1,h1⟩:=drO_sup hs ho
      obtain ⟨n2,h2⟩:=evDr_sup hs l s1 s h
      exact ⟨max n1 n2,fun m hm=>by rw [h1 m (by omega)];exact h2 m (by omega)⟩
theorem nrm_some {x:Option AS} {r:Exit × AS} (h:nrm x=some r):∃ s,x=some s∧r=(.normal,s):=by
  cases x with
  | none=>cases h
  | some s=>injection h with h;exact ⟨s,rfl,h.symm⟩
theorem fvP_sup {R:List Nat} {x:Nat→Option AS} {y:Option AS} {q:AS × FP} (h:fvP R y=some q) (hx:∀ s,y=some s→∃ n,∀ m,n≤m→x m=some s):∃ n,∀ m,n≤m→fvP R (x m)=some q:=by
  cases y with
  | none=>cases h
  | some s=>
    obtain ⟨n,hn⟩:=hx s rfl
    exact ⟨n,fun m hm=>by rw [hn m hm];exact h⟩
theorem fvA_sup (hs:Sup calls call) {st:AS} {d:Option Nat} {r:Nat} {ai:AI} {q:AS × FP} (h:fvA call G st d r ai=some q):∃ n,∀ m,n≤m→fvA (calls m) G st d r ai=some q:=by
  cases ai with
  | call f xs=>
    simp only [fvA] at h ⊢
    generalize (xs.map (evA G st.sl)).flatMap idsV=J at h ⊢
    match J with
    | []=>exact fvP_sup (x:=fun m=>qtZ (calls m) G st d (.call f xs)) h (fun s hq=>drZ_sup hs (show drZ call G st d (.call f xs) true=some s from hq))
    | [id]=>
      simp only [fvC] at h ⊢
      unfold fvB at h ⊢
      split at h
      · rename_i cs _
        cases hk:(keepL (fun _=>true) cs&&(xs.map (evA G st.sl)).all (keepV (outJ [id]))) with
        | false=>rw [hk] at h;cases h
        | true=>
          rw [hk] at h
          simp only [cond_true] at h ⊢
          cases hc:nzCall call f ((xs.map (evA G st.sl)).map (renV (idxN [id]))) [.box cs] with
          | none=>rw [hc] at h;cases h
          | some q=>
            obtain ⟨n,hn⟩:=nzCall_sup hs _ _ _ _ hc
            refine ⟨n,fun m hm=>?_⟩
            have h':=hn m hm
            simp only at h'
            rw [h',← hc]
            exact h
      · cases h
    | _::_::_=>cases h
  | alloc z=>exact ⟨0,fun _ _=>h⟩
  | store size x v=>exact ⟨0,fun _ _=>h⟩
  | cpys x y=>exact ⟨0,fun _ _=>h⟩
  | _=>exact ⟨0,fun _ _=>h⟩
theorem fvO_sup (hs:Sup calls call) {st:AS} {d:Option Nat} {r:Nat} {ai:AI} {g:Option (Nat × Bool)} {q:AS × FP} (h:fvO call G st d r ai g=some q):∃ n,∀ m,n≤m→fvO (calls m) G st d r ai g=some q:=by
  cases g with
  | none=>exact fvA_sup hs h
  | some g=>
    simp only [fvO] at h ⊢
    cases hg:gK g.2 (evA G st.sl (.t g.1)) with
    | none=>rw [hg] at h;cases h
    | some b=>
      rw [hg] at h
      cases b with
      | true=>exact fvA_sup hs h
      | false=>exact ⟨0,fun _ _=>h⟩
theorem fvR_sup (hs:Sup calls call) {prs:List (Nat × Nat)}:∀ (l:List AOp) (acc:List FP) (r:Nat) (st s:AS),fvR call G prs acc r l (some st)=some s→∃ n,∀ m,n≤m→fvR (calls m) G prs acc r l (some st)=some s
  | [],acc,r,st,s,h=>⟨0,fun _ _=>h⟩
  | o::l,acc,r,st,s,h=>by
    simp only [fvR] at h ⊢
    cases ho:fvO call G st o.dst r o.ai o.guard with
    | none=>rw [ho] at h;cases h
    | some q=>
      obtain ⟨s1,f⟩:=q
      rw [ho] at h
      obtain ⟨n1,h1⟩:=fvO_sup hs ho
      obtain ⟨n2,h2⟩:=fvR_sup hs l _ _ s1 s h
      exact ⟨max n1 n2,fun m hm=>by rw [h1 m (by omega)];exact h2 m (by omega)⟩
theorem lpN_sup {runs:Nat→AS→Option (Exit × AS)} {run:AS→Option (Exit × AS)} (hr:∀ st r,run st=some r→∃ n,∀ m,n≤m→runs m st=some r) {L:List Nat} {k:Nat}:∀ (i:Nat) (st:AS) r,lpN run L k i st=some r→∃ n,∀ m,n≤m→lpN (runs m) L k i st=some r
  | 0,st,r,h=>by simp [lpN] at h
  | i+1,st,r,h=>by
    simp only [lpN] at h
    cases hrun:run st with
    | none=>rw [hrun] at h;cases h
    | some q=>
      obtain ⟨n1,h1⟩:=hr _ _ hrun
      rw [hrun] at h
      obtain ⟨e,s⟩:=q
      cases e with
      | normal=>
        simp only at h
        obtain ⟨n2,h2⟩:=lpN_sup hr i _ r h
        exact ⟨max n1 n2,fun m hm=>by rw [lpN,h1 m (by omega)];exact h2 m (by omega)⟩
      | _=>exact ⟨n1,fun m hm=>by rw [lpN,h1 m hm];exact h⟩
theorem EC_sup (hs:Sup calls call):∀ (c:HC) (st:AS) r,EC call G c st=some r→∃ n,∀ m,n≤m→EC (calls m) G c st=some r:=by
  intro c
  induction c with
  | skip=>exact fun st r h=>⟨0,fun _ _=>h⟩
  | ret=>exact fun st r h=>⟨0,fun _ _=>h⟩
  | exit id=>exact fun st r h=>⟨0,fun _ _=>h⟩
  | region ops=>
    intro st r h
    simp only [EC] at h ⊢
    obtain ⟨s,h1,rfl⟩:=nrm_some h
    obtain ⟨n,hn⟩:=evR_sup hs ops st s h1
    exact ⟨n,fun m hm=>by rw [hn m hm];rfl⟩
  | regR L ops=>
    intro st r h
    simp only [EC] at h ⊢
    obtain ⟨s,h1,rfl⟩:=nrm_some h
    obtain ⟨n,hn⟩:=evRR_sup hs ops st s h1
    exact ⟨n,fun m hm=>by rw [hn m hm];rfl⟩
  | drawnT L t ops=>
    intro st r h
    simp only [EC] at h ⊢
    obtain ⟨s,h1,rfl⟩:=nrm_some h
    obtain ⟨n,hn⟩:=evT_sup hs t st s h1
    exact ⟨n,fun m hm=>by rw [hn m hm];rfl⟩
  | drawnF prs ops=>
    intro st r h
    simp only [EC] at h ⊢
    obtain ⟨s,h1,rfl⟩:=nrm_some h
    obtain ⟨n,hn⟩:=fvR_sup hs ops _ _ _ s h1
    exact ⟨n,fun m hm=>by rw [hn m hm];rfl⟩
  | drawn ops=>
    intro st r h
    simp only [EC] at h ⊢
    obtain ⟨s,h1,rfl⟩:=nrm_some h
    obtain ⟨n,hn⟩:=evDr_sup hs ops st s h1
    exact ⟨n,fun m hm=>by rw [hn m hm];rfl⟩
  | seq a b iha ihb=>
    intro st r h
    simp only [EC] at h ⊢
    cases ha:EC call G a st with
    | none=>rw [ha] at h;cases h
    | some q=>
      obtain ⟨n1,h1⟩:=iha _ _ ha
      rw [ha] at h
      obtain ⟨e,s⟩:=q
      cases e with
      | normal=>
        obtain ⟨n2,h2⟩:=ihb s r h
        exact ⟨max n1 n2,fun m hm=>by rw [h1 m (by omega)];exact h2 m (by omega)⟩
      | _=>exact ⟨n1,fun m hm=>by rw [h1 m hm];exact h⟩
  | cond c a b iha ihb=>
    intro st r h
    simp only [EC] at h ⊢
    cases hb:asBool? (evA G st.sl c) with
    | none=>rw [hb] at h;cases h
    | some t=>rw [hb] at h;cases t with
      | true=>exact iha st r h
      | false=>exact ihb st r h
  | block id a iha=>
    intro st r h
    simp only [EC] at h ⊢
    cases ha:EC call G a st with
    | none=>rw [ha] at h;cases h
    | some q=>
      obtain ⟨n1,h1⟩:=iha _ _ ha
      rw [ha] at h
      exact ⟨n1,fun m hm=>by rw [h1 m hm];exact h⟩
  | loop L a iha=>
    intro st r h
    simp only [EC] at h ⊢
    obtain ⟨i,hi⟩:=lim_some h
    obtain ⟨n,hn⟩:=lpN_sup (runs:=fun m=>EC (calls m) G a) (fun st r h=>iha st r h) i _ r hi
    exact ⟨n,fun m hm=>loopE_of (hn m hm)⟩
  | gh g a iha=>exact fun st r h=>iha _ r h
  | trm L a iha=>exact fun st r h=>iha _ r h
  | bad=>intro st r h;cases h
theorem funE_sup (hs:Sup calls call) {h:HF} {args:List AV} {hp:List AObj} {r:AV × List AObj} (he:funE call G h args hp=some r):∃ n,∀ m,n≤m→funE (calls m) G h args hp=some r:=by
  unfold funE at *
  cases hc:EC call G h.code ⟨args++junks (h.nt - args.length),hp⟩ with
  | none=>rw [hc] at he;cases he
  | some q=>
    obtain ⟨n,hn⟩:=EC_sup hs _ _ _ hc
    rw [hc] at he
    exact ⟨n,fun m hm=>by rw [hn m hm];exact he⟩
theorem callN_mono {T:HT}:∀ (n:Nat) (f:FuncId) (args:List AV) (hp:List AObj) (r:AV × List AObj),callN G T n f args hp=some r→callN G T (n+1) f args hp=some r
  | 0,f,args,hp,r,h=>by simp [callN] at h
  | n+1,f,args,hp,r,h=>by
    rw [callN] at h ⊢
    cases hT:T.tab f with
    | none=>rw [hT] at h;exact h
    | some x=>
      rw [hT] at h
      obtain ⟨m,hm⟩:=funE_sup (calls:=fun _=>callN G T (n+1)) (fun f a hp r h=>⟨0,fun _ _=>callN_mono n f a hp r h⟩) h
      exact hm m (Nat.le_refl _)
theorem callN_sup (T:HT):Sup (callN G T) (EV G T):=by
  intro f a hp r h
  obtain ⟨n,hn⟩:=lim_some h
  refine ⟨n,fun m hm=>?_⟩
  induction m with
  | zero=>simp at hm;subst hm;exact hn
  | succ m ih=>
    by_cases he:n=m+1
    · subst he;exact hn
    · exact callN_mono _ _ _ _ _ (ih (by omega))
theorem EV_of {T:HT} {f:FuncId} {h:HF} {args:List AV} {hp:List AObj} {r:AV × List AObj} (hT:T.tab f=some h) (he:funE (EV G T) G h args hp=some r):EV G T f args hp=some r:=by
  obtain ⟨n,hn⟩:=funE_sup (callN_sup T) he
  refine lim_of (n:=n+1) (fun n r h=>callN_mono n f args hp r h) ?_
  rw [callN,hT]
  exact hn n (Nat.le_refl _)
theorem EV_base {T:HT} {f:FuncId} {args:List AV} {hp:List AObj} {r:AV × List AObj} (hT:T.tab f=none) (he:T.base f args hp=some r):EV G T f args hp=some r:=by
  refine lim_of (n:=1) (fun n r h=>callN_mono n f args hp r h) ?_
  rw [callN,hT]
  exact he
end
end
section
section
variable {P:Program} {G:Glob} {k:Nat} {st st' s:AS} {K R Q:AS→Prop} {call:CallT}
theorem AC.nzArgs {f:FuncId} {args:List AV} {objs:List AObj} {Q:AV→List AObj→Prop} (h:AC P G f (args.map nzV) objs Q):AC P G f args objs Q:=
  fun F γ vs w hi hg hv=>h F γ vs w hi hg ⟨by simpa using hv.1,fun i av v h1 h2=>by
    rw [List.getElem?_map] at h1
    obtain ⟨a0,h3,rfl⟩:=Option.map_eq_some_iff.1 h1
    exact nzV_ok (hv.2 i a0 v h3 h2)⟩
theorem nzC_keep {p:Nat→Bool} (c:Cel):(nzC c).keep p=c.keep p:=by
  unfold nzC
  grind[Cel.keep]
theorem nzL_keep {p:Nat→Bool}:∀ (cs:List Cel),keepL p (cs.map nzC)=keepL p cs
  | []=>rfl
  | c::cs=>by simp [keepL,nzC_keep,nzL_keep cs]
theorem nzV_keep {p:Nat→Bool} (v:AV):keepV p (nzV v)=keepV p v:=by
  cases v with
  | one c=>grind[nzV,keepV,nzC_keep]
  | agg cs=>grind[nzV,keepV,nzL_keep]
  | tup l=>
    simp only [nzV,keepV,List.all_map]
    congr 1;funext t
    cases t with
    | one c=>simp only [Function.comp_apply,nzT,keepT,nzC_keep]
    | agg cs=>simp only [Function.comp_apply,nzT,keepT,nzL_keep]
  | junk=>rfl
theorem nzAs_eq {sl:List AV}:∀ xs:List AArg,nzAs G sl xs=(xs.map (evA G sl)).map nzV
  | []=>rfl
  | x::xs=>by simp [nzAs,nzAs_eq xs]
theorem vwAs_eq:∀ xs:List AArg,vwAs G st xs=(xs.map fun x=>vwA st.hp (evA G st.sl x)).map nzV
  | []=>rfl
  | x::xs=>by simp [vwAs,vwAs_eq xs]
theorem vwC_norm {hp:List AObj} (c:Cel):vwC (hp.map nocap) c=vwC hp c:=by
  cases c<;>simp only [vwC]
  rw [hpGet_norm]
  cases hpGet hp _<;>rfl
theorem vwA_norm {hp:List AObj} (v:AV):vwA (hp.map nocap) v=vwA hp v:=by
  simp_all[vwA,vwC_norm,List.map_congr_left]
theorem vwN_norm {hp:List AObj} (c:Cel):vwN (hp.map nocap) c=vwN hp c:=by grind[vwN,vwC_norm]
theorem vpP_norm {hp:List AObj} {off:Nat} (o:AObj):vpP (hp.map nocap) off (nocap o)=vpP hp off o:=by
  cases o<;>simp only [nocap,vpP,vwNs_eq]
  grind[List.map_congr_left,vwN_norm]
theorem vwM_norm {hp:List AObj} (c:Cel):vwM (hp.map nocap) c=vwM hp c:=by
  simp_all[vwM,vwN_norm,hpGet_norm,vpP_norm]
theorem vp0_norm {hp:List AObj} (c:Cel):vp0 (hp.map nocap) c=vp0 hp c:=by
  cases c<;>simp only [vp0,vwC_norm]
  rw [hpGet_norm]
  cases hpGet hp _<;>simp only [nocap,vqP,vwMs_eq]
  grind[List.map_congr_left,vwM_norm]
theorem vpC_norm {hp:List AObj} (c:Cel):vpC (hp.map nocap) c=vpC hp c:=by
  simp_all[vpC,vp0_norm,vp0s_eq,List.map_congr_left]
theorem vpA_norm {hp:List AObj} (v:AV):vpA (hp.map nocap) v=vpA hp v:=by
  simp_all[vpA,vpC_norm,List.map_congr_left,vwC_norm]
theorem vpAs_eq:∀ xs:List AArg,vpAs G st xs=(xs.map fun x=>vpA st.hp (evA G st.sl x)).map nzV
  | []=>rfl
  | x::xs=>by simp [vpAs,vpAs_eq xs]
theorem exX_norm {o:AOp} (h:exX G (norm s) o=some st'):∃ s',exX G s o=some s'∧norm s'=st':=by
  obtain ⟨d,ai,g⟩:=o
  have pure:((evP G (norm s) ai).map fun v=>(⟨putS (norm s).sl d v,(norm s).hp⟩:AS))=some st'→∃ s',((evP G s ai).map fun v=>(⟨putS s.sl d v,s.hp⟩:AS))=some s'∧norm s'=st':=by
    intro h
    rw [evP_norm] at h
    obtain ⟨v,h1,rfl⟩:=Option.map_eq_some_iff.1 h
    exact ⟨_,by rw [h1];rfl,rfl⟩
  cases ai<;>try exact pure h
  case alloc z=>
    simp only [exX,Option.some.injEq] at h ⊢
    exact ⟨_,rfl,by rw [← h];simp [norm,nocap]⟩
  case box x=>
    simp only [exX] at h ⊢
    obtain ⟨cs,h1,rfl⟩:=Option.map_eq_some_iff.1 h
    rw [show (norm s).sl=s.sl from rfl] at h1
    exact ⟨_,by rw [h1];rfl,by simp [norm,nocap]⟩
  case store size x v=>
    simp only [exX] at h ⊢
    cases d with
    | some d=>cases h
    | none=>
      simp only [stX,show (norm s).sl=s.sl from rfl] at h ⊢
      split at h
      · rename_i id off hx
        split at h
        · rename_i vs hv
          split at h
          · rename_i cs hb
            rw [norm,hpGet_norm] at hb
            split at h
            · rename_i hc
              injection h with h
              simp only [nocap_box hb,if_pos hc]
              exact ⟨_,rfl,by rw [← h];simp [norm,nocap,List.map_set]⟩
            · cases h
          · cases h
        · cases h
      · rename_i id i z off hx
        split at h
        · rename_i ds hv
          split at h
          · rename_i c z' es hb
            rw [norm,hpGet_norm] at hb
            obtain ⟨cap,hb2,rfl⟩:=nocap_arr hb
            split at h
            · rename_i e he
              split at h
              · rename_i hc
                injection h with h
                simp only [hb2,he,if_pos hc]
                exact ⟨_,rfl,by simp_all[norm,nocap,List.map_set]⟩
              · cases h
            · cases h
          · cases h
        · cases h
      · cases h
  case bslc size len z ps=>
    simp only [exX,bsX] at h ⊢
    cases len with
    | zero=>
      simp only at h ⊢
      split at h
      · rename_i he
        injection h with h
        simp only [if_pos he]
        exact ⟨_,rfl,by rw [← h];simp [norm,nocap]⟩
      · cases h
    | succ len=>
      simp only at h ⊢
      obtain ⟨cs,h1,h⟩:=Option.bind_eq_some_iff.1 h
      obtain ⟨ds,h2,h⟩:=Option.bind_eq_some_iff.1 h
      rw [show (norm s).sl=s.sl from rfl] at h1
      split at h
      · rename_i hl
        injection h with h
        exact ⟨⟨putS s.sl d (vl (chunk size (len+1) ds)),s.hp⟩,by rw [h1];simp only [Option.bind_some,h2,if_pos hl],by rw [← h];simp [norm]⟩
      · cases h
theorem allLen_ok {size:Nat}:∀ {es:List (List DC)},allLen size es=true→∀ e∈es,e.length=size
  | [],_=>by simp
  | x::es,h=>by
    simp only [allLen,Bool.and_eq_true,nq_eq,beq_iff_eq] at h
    intro e he
    rcases List.mem_cons.1 he with rfl | he
    · exact h.1
    · exact allLen_ok h.2 e he
theorem klC_eq (id:Nat) (c:Cel):klC id c=killC (·==id) c:=by
  cases c<;>simp only [klC,killC,Cel.keep,nq_eq,if_true]
  all_goals simp_all
theorem klCs_eq (id:Nat):∀ cs,klCs id cs=cs.map (killC (·==id))
  | []=>rfl
  | c::cs=>by simp [klCs,klC_eq,klCs_eq id cs]
theorem klV_eq (id:Nat) (v:AV):klV id v=killV (·==id) v:=by
  cases v<;>simp only [klV,killV,klC_eq,klCs_eq]
theorem klS_eq (id:Nat):∀ l,klS id l=l.map (killV (·==id))
  | []=>rfl
  | c::cs=>by simp [klS,klV_eq,klS_eq id cs]
theorem klO_eq (id:Nat) (o:AObj):klO id o=killO (·==id) o:=by
  cases o<;>simp only [klO,killO,klCs_eq]
theorem klH_eq (id:Nat):∀ l,klH id l=l.map (killO (·==id))
  | []=>rfl
  | c::cs=>by simp [klH,klO_eq,klH_eq id cs]
theorem apZ_eff {d:Option Nat} {size bytes:Nat} {z:List Value} {a x:AArg} (h:apZ d size bytes (norm s) (evA G s.sl a) (evA G s.sl x)=some st') (hK:∀ s',norm s'=st'→K s'):EffI P G k d (.app size bytes z a x) K s.sl s.hp:=by
  unfold apZ at h
  split at h
  · rename_i x1 x2 id n hx
    right
    rw [norm,hpGet_norm,srcV_norm] at h
    unfold apB at h
    split at h
    · rename_i c sz es news hb h2
      split at h
      · rename_i hc
        injection h with h
        obtain ⟨cap,hb,_⟩:=nocap_arr hb
        obtain ⟨rfl,hc2,hc3,hc4⟩:=hc
        exact ⟨id,n,cap,es,news,hx,hb,hc2,h2,allLen_ok hc3,hc4,fun cap' _=>hK _ (by rw [← h];simp only [norm,List.map_set,map_kill,klS_eq,klH_eq];rfl)⟩
      · cases h
    · cases h
  · rename_i x1 x2 hx
    left
    rw [norm,srcV_norm] at h
    unfold apN at h
    split at h
    · rename_i news h2
      split at h
      · rename_i hc
        injection h with h
        exact ⟨hx,news,h2,allLen_ok hc.1,hc.2,fun cap' _=>hK _ (by rw [← h];simp only [norm,List.map_append,map_kill,List.length_map,klH_eq];rfl)⟩
      · cases h
    · cases h
  · cases h
theorem bsO_eff {d:Option Nat} {size len:Nat} {z:List Value} {ps:List (Nat × AArg)} (h:bsO G (norm s) d size len z ps=some st') (hK:∀ s',norm s'=st'→K s'):EffI P G k d (.bslc size len z ps) K s.sl s.hp:=by
  unfold bsO at h
  obtain ⟨cs,h1,h⟩:=Option.bind_eq_some_iff.1 h
  cases h2:dcs cs with
  | none=>
    rw [h2] at h
    simp only [bsP] at h
    split at h
    · rename_i hl
      injection h with h
      rw [zs_eq] at h1
      exact .inr ⟨hl,cs,h1,hK _ (by simp_all[norm,nocap])⟩
    · cases h
  | some ds=>
  rw [h2] at h
  simp only [bsP] at h
  split at h
  · rename_i hl
    injection h with h
    obtain ⟨g1,g2,g3⟩:=chunk_flat size len ds hl
    rw [zs_eq] at h1
    refine .inl ⟨chunk size len ds,by rw [g1,← dcs_dcC h2];exact h1,g2,g3,hK _ (by simp_all[norm,nocap])⟩
  · cases h
theorem dtK_ok (hcall:CallOK P G call) {d:Option Nat} {f:FuncId} {xs:List AArg} (h:dtK call G d f xs (norm s)=some st'):
    ∃ av os,(∀ n,xs.map (evA G s.sl)=(xs.map (evA G s.sl)).map (renV (jmap [] n)))∧AC P G f (xs.map (evA G s.sl)) [] (fun a o=>a=av∧o.map nocap=os)∧
      (⟨putS s.sl d (renV (jmap [] s.hp.length) av),s.hp.map nocap++os.map (renO (jmap [] s.hp.length))⟩:AS)=st':=by
  unfold dtK at h
  cases hk:(nzAs G (norm s).sl xs).all (keepV fun _=>true) with
  | false=>simp_all
  | true=>
    rw [hk] at h
    simp only [cond_true] at h
    cases hc:call f (nzAs G (norm s).sl xs) [] with
    | none=>rw [hc] at h;cases h
    | some r=>
      obtain ⟨av,os⟩:=r
      rw [hc] at h
      simp only [nwK,Option.some.injEq] at h
      obtain ⟨_,g2⟩:=hcall _ _ _ _ _ hc [] rfl
      refine ⟨av,os,fun n=>?_,(by rw [nzAs_eq] at g2;exact g2.nzArgs),by simp_all[norm]⟩
      conv=>lhs;rw [← List.map_id (xs.map (evA G s.sl))]
      refine List.map_congr_left (fun v hv=>(rnV v ?_).symm)
      rw [nzAs_eq,List.all_map] at hk
      have:=List.all_eq_true.1 hk v hv
      rwa [Function.comp_apply,nzV_keep] at this
theorem nrm_ok:∀ {os:List AObj},nrmL os=true→os.map nocap=os
  | [],_=>rfl
  | o::os,h=>by
    simp only [nrmL,Bool.and_eq_true] at h
    rw [List.map_cons,nrm_ok h.2]
    congr 1
    cases o<;>try rfl
    simp_all[nrmB,nq_eq,beq_iff_eq,nocap]
theorem dnZ_ok (hcall:CallOK P G call) {d:Option Nat} {f:FuncId} {xs:List AArg} (h:dnZ call G d f xs (norm s)=some st'):
    ∃ av os,os.map nocap=os∧(∀ n,xs.map (evA G s.sl)=(xs.map (evA G s.sl)).map (renV (jmap [] n)))∧AC P G f (xs.map (evA G s.sl)) [] (fun a o=>a=av∧o.map nocap=os)∧
      (⟨putS s.sl d (renV (jmap [] s.hp.length) av),s.hp.map nocap++os.map (renO (jmap [] s.hp.length))⟩:AS)=st':=by
  unfold dnZ at h
  cases hk:(nzAs G (norm s).sl xs).all (keepV fun _=>true) with
  | false=>simp_all
  | true=>
    rw [hk,cond_true] at h
    cases hc:call f (nzAs G (norm s).sl xs) [] with
    | none=>rw [hc] at h;cases h
    | some r=>
      obtain ⟨av,os⟩:=r
      rw [hc] at h
      simp only [dnK] at h
      cases hn:nrmL os with
      | false=>simp_all
      | true=>
        rw [hn,cond_true] at h
        have h2:dtK call G d f xs (norm s)=some st':=by
          unfold dtK;rw [hk,cond_true,hc];exact h
        obtain ⟨_,g2⟩:=hcall _ _ _ _ _ hc [] rfl
        refine ⟨av,os,nrm_ok hn,fun n=>?_,(by rw [nzAs_eq] at g2;exact g2.nzArgs),by simp_all[norm]⟩
        conv=>lhs;rw [← List.map_id (xs.map (evA G s.sl))]
        refine List.map_congr_left (fun v hv=>(rnV v ?_).symm)
        rw [nzAs_eq,List.all_map] at hk
        have:=List.all_eq_true.1 hk v hv
        rwa [Function.comp_apply,nzV_keep] at this
theorem dtK_run (hcall:CallOK P G call) {d:Option Nat} {f:FuncId} {xs:List AArg} (h:dtK call G d f xs (norm s)=some st') (hK:∀ s',norm s'=st'→K s'):WR P G k [⟨d,.call f xs,none⟩] K s:=by
  obtain ⟨av,os,h1,h2,h3⟩:=dtK_ok hcall h
  refine WR.callN (o:=⟨d,.call f xs,none⟩) trivial rfl h2 (h1 _) (fun a o ⟨h4,h5⟩=>WR.nil (hK _ ?_))
  subst h4
  rw [← h3,← h5]
  simp only [norm,List.map_append,List.map_map]
  simp_all[List.map_congr_left,nocap_ren]
theorem vw_args {xs:List AArg} (hcall:CallOK P G call) {f:FuncId} {av:AV} (hc:call f (vwAs G (norm s) xs) []=some (av,[])):QC P G f (xs.map fun x=>vwA s.hp (evA G s.sl x)) av:=by
  obtain ⟨_,g2⟩:=hcall _ _ _ _ _ hc [] rfl
  rw [vwAs_eq] at g2
  have e:(xs.map fun x=>vwA (norm s).hp (evA G (norm s).sl x))=xs.map fun x=>vwA s.hp (evA G s.sl x):=List.map_congr_left (fun x _=>vwA_norm _)
  rw [e] at g2
  exact g2.nzArgs.gh (fun a o ⟨h1,h2⟩ _=>⟨a,o,Gh.refl,Nat.zero_le _,h1,by simp_all⟩)
theorem vp_args {xs:List AArg} (hcall:CallOK P G call) {f:FuncId} {av:AV} (hc:call f (vpAs G (norm s) xs) []=some (av,[])):QC P G f (xs.map fun x=>vpA s.hp (evA G s.sl x)) av:=by
  obtain ⟨_,g2⟩:=hcall _ _ _ _ _ hc [] rfl
  rw [vpAs_eq] at g2
  have e:(xs.map fun x=>vpA (norm s).hp (evA G (norm s).sl x))=xs.map fun x=>vpA s.hp (evA G s.sl x):=List.map_congr_left (fun x _=>vpA_norm _)
  rw [e] at g2
  exact g2.nzArgs.gh (fun a o ⟨h1,h2⟩ _=>⟨a,o,Gh.refl,Nat.zero_le _,h1,by simp_all⟩)
theorem nzCall_ok (hcall:CallOK P G call):CallOK P G (nzCall call):=fun f args hp av o' h hp0 hh=>⟨(hcall f _ hp av o' h hp0 hh).1,(hcall f _ hp av o' h hp0 hh).2.nzArgs⟩
theorem clZ_run (hcall:CallOK P G call) {d:Option Nat} {f:FuncId} {xs:List AArg} (h:clZ call G d f xs (norm s)=some st') (hK:∀ s',norm s'=st'→K s'):WR P G k [⟨d,.call f xs,none⟩] K s:=by
  unfold clZ at h
  obtain ⟨s1,hgh,hn⟩:=frzIds_ok (k:=k) (bldAs G (norm s).sl xs) s
  cases hp:plainAs G (norm s).sl xs with
  | false=>
    rw [hp,cond_false,← hn] at h
    obtain ⟨J,objs,av,o',g1,g2,g3,g4,g5,g6,g7⟩:=evCall_ok (nzCall_ok hcall) h
    exact WR.ghost hgh (WR.call (o:=⟨d,.call f xs,none⟩) trivial rfl g2 g3 g4 g5 g6 (fun a o hao=>WR.nil (hK _ (g7 a o hao))))
  | true=>
    rw [hp,cond_true] at h
    cases hc:call f (vwAs G (norm s) xs) [] with
    | none=>rw [hc] at h;cases h
    | some r=>
      obtain ⟨av,os⟩:=r
      rw [hc] at h
      cases os with
      | nil=>
        simp only [vwK] at h
        cases hr:rawA? av with
        | true=>
          rw [hr] at h
          injection h with h
          exact WR.callV (o:=⟨d,.call f xs,none⟩) trivial rfl (vw_args hcall hc) hr rfl (WR.nil (hK _ (by rw [← h];rfl)))
        | false=>
          rw [hr,cond_false,← hn] at h
          grind[WR.ghost,dtK_run]
      | cons o os=>
        grind[vwK,WR.ghost,dtK_run]
theorem cvZ_run (hcall:CallOK P G call) {d:Option Nat} {x:AArg} {xs:List AArg} (h:cvZ call G d x xs (norm s)=some st') (hK:∀ s',norm s'=st'→K s'):WR P G k [⟨d,.callv x xs,none⟩] K s:=by
  unfold cvZ at h
  obtain ⟨s1,hgh,hn⟩:=frzIds_ok (k:=k) (bldAs G (norm s).sl xs) s
  rw [← hn] at h
  unfold cvK at h
  split at h
  · rename_i f caps hx
    obtain ⟨J,objs,av,o',g1,g2,g3,g4,g5,g6,g7⟩:=evCall_ok (nzCall_ok hcall) h
    exact WR.ghost hgh (WR.callv (o:=⟨d,.callv x xs,none⟩) trivial rfl hx g1 g2 g3 g4 g5 g6 (fun a o hao=>WR.nil (hK _ (g7 a o hao))))
  · cases h
theorem mkZ_run {d:Option Nat} {size bytes:Nat} {z:List Value} {x y:AArg} (h:mkZ G (norm s) d size bytes z x y=some st') (hK:∀ s',norm s'=st'→K s'):WR P G k [⟨d,.mk size bytes z x y,none⟩] K s:=by
  unfold mkZ mkK at h
  split at h
  · rename_i n m h1 h2
    split at h
    · rename_i hc
      injection h with h
      exact WR.mk (o:=⟨d,.mk size bytes z x y,none⟩) trivial rfl h1 h2 hc.1 hc.2 (WR.nil (hK _ (by simp_all[norm,nocap])))
    · cases h
  · cases h
theorem clrK_run {d:Option Nat} {size id k0 n:Nat} {z:List Value} {x:AArg} (hx:evA G s.sl x=.one (.bls id k0 n size)∨(k0=0∧evA G s.sl x=.one (.bld id n)))
  (h:clrK d (norm s) id k0 n size z (hpGet (norm s).hp id)=some st') (hK:∀ s',norm s'=st'→K s'):WR P G k [⟨d,.clr size z x,none⟩] K s:=by
 have e0:hpGet (norm s).hp id=nocap (hpGet s.hp id):=hpGet_norm id
 rw [e0] at h
 cases hb:hpGet s.hp id with
 | box cs=>
  rw [hb] at h
  simp only [nocap,clrK] at h
  unfold clrQ at h
  split at h
  ·split at h
   ·rename_i hc
    obtain ⟨rfl,hn,hle⟩:=hc
    injection h with h
    refine WR.clrB (o:=⟨d,.clr 1 [_] x,none⟩) trivial rfl hx hb hn hle (WR.nil (hK _ ?_))
    simp_all[norm,nocap,List.map_set]
   ·cases h
  ·cases h
 | dead=>rw [hb] at h;cases h
 | arr cap sz es=>
  rw [hb] at h
  simp only [nocap,clrK] at h
  split at h
  ·rename_i hc
   obtain ⟨rfl,hle⟩:=hc
   injection h with h
   by_cases hn:n=0
   ·subst hn
    refine WR.clr0 (o:=⟨d,.clr sz z x,none⟩) (id:=id) (k0:=k0) trivial rfl (hx.imp (fun h=>h) And.right) (WR.nil (hK _ ?_))
    rw [← h,clrE_zero]
    simp only [norm]
    congr 1
    exact (set_same (by rw [hpGet_norm,hb];rfl) (by simp)).symm
   ·refine WR.clr (o:=⟨d,.clr sz z x,none⟩) trivial rfl hx hb (by omega) hle (WR.nil (hK _ ?_))
    simp_all[norm,nocap,List.map_set]
  ·cases h
theorem clrZ_run {d:Option Nat} {size:Nat} {z:List Value} {x:AArg} (h:clrZ G (norm s) d size z x=some st') (hK:∀ s',norm s'=st'→K s'):WR P G k [⟨d,.clr size z x,none⟩] K s:=by
  unfold clrZ at h
  have e0:(norm s).sl=s.sl:=rfl
  rw [e0] at h
  cases hx:evA G s.sl x with
  | one c=>
    rw [hx] at h
    cases c with
    | bls id k0 n sz=>
      grind[clrV,clrK_run]
    | bld id n=>exact clrK_run (.inr ⟨rfl,hx⟩) h hK
    | _=>cases h
  | _=>rw [hx] at h;cases h
theorem cpyZ_run {d:Option Nat} {x y:AArg} (h:cpyZ G (norm s) d x y=some st') (hK:∀ s',norm s'=st'→K s'):WR P G k [⟨d,.cpys x y,none⟩] K s:=by
  unfold cpyZ at h
  have e0:(norm s).sl=s.sl:=rfl
  rw [e0] at h
  unfold cpyV at h
  split at h
  · rename_i id lo n z sv hx hy
    split at h
    · rename_i hz
      subst hz
      have e1:hpGet (norm s).hp id=nocap (hpGet s.hp id):=hpGet_norm id
      rw [e1] at h
      cases hb:hpGet s.hp id with
      | arr c sz es=>
        rw [hb] at h
        simp only [nocap,cpyK] at h
        split at h
        · rename_i hc
          obtain ⟨rfl,hc⟩:=hc
          injection h with h
          refine WR.cpyA (o:=⟨d,.cpys x y,none⟩) trivial rfl hx hy hb hc (WR.nil (hK _ ?_))
          simp_all[norm,nocap,List.map_set]
        · cases h
      | dead=>rw [hb] at h;cases h
      | box cs=>
        rw [hb] at h
        simp only [nocap,cpyK] at h
        split at h
        · rename_i hc
          injection h with h
          refine WR.cpys (o:=⟨d,.cpys x y,none⟩) trivial rfl hx hy hb hc (WR.nil (hK _ ?_))
          simp_all[norm,nocap,List.map_set]
        · cases h
    · cases h
  · cases h
theorem cvsZ_run {d:Option Nat} {x:AArg} (h:cvsZ G (norm s) d x=some st') (hK:∀ s',norm s'=st'→K s'):WR P G k [⟨d,.cvsb x,none⟩] K s:=by
  unfold cvsZ at h
  have e0:(norm s).sl=s.sl:=rfl
  rw [e0] at h
  cases hx:asStr? (evA G s.sl x) with
  | none=>rw [hx] at h;cases h
  | some sv=>
    rw [hx] at h
    injection h with h
    exact WR.cvsb (o:=⟨d,.cvsb x,none⟩) trivial rfl hx (WR.nil (hK _ (by rw [← h];rfl)))
theorem cvaK_run {d:Option Nat} {x:AArg} (h:cvaK d (norm s) (asStr? (evA G (norm s).sl x))=some st') (hK:∀ s',norm s'=st'→K s'):WR P G k [⟨d,.cvsb x,none⟩] K s:=by
  have e0:(norm s).sl=s.sl:=rfl
  rw [e0] at h
  cases hx:asStr? (evA G s.sl x) with
  | none=>rw [hx] at h;cases h
  | some sv=>
    rw [hx] at h
    injection h with h
    exact WR.cvsA (o:=⟨d,.cvsb x,none⟩) trivial rfl hx (fun cap=>WR.nil (hK _ (by simp_all[norm,nocap])))
theorem mbK_run {d:Option Nat} {size bytes:Nat} {z:List Value} {x y:AArg} (h:mbK d size bytes (norm s) z (asInt? (evA G (norm s).sl x)) (asInt? (evA G (norm s).sl y))=some st') (hK:∀ s',norm s'=st'→K s'):WR P G k [⟨d,.mk size bytes z x y,none⟩] K s:=by
  have e0:(norm s).sl=s.sl:=rfl
  rw [e0] at h
  unfold mbK at h
  split at h
  · rename_i v n m h1 h2
    split at h
    · rename_i hc
      obtain ⟨rfl,hnm,hb⟩:=hc
      injection h with h
      exact WR.mkB (o:=⟨d,.mk 1 bytes [v] x y,none⟩) trivial rfl h1 h2 hnm hb (WR.nil (hK _ (by simp_all[norm,nocap])))
    · cases h
  · cases h
theorem stZ_run (hcall:CallOK P G call) {l:List AOp} {d:Option Nat} {ai:AI} (h:stZ call G (norm s) l d ai=some st') (hK:∀ s',norm s'=st'→K s'):WR P G k [⟨d,ai,none⟩] K s:=by
  have plain:ai.isCall=false→exY G (norm s) d ai=some st'→WR P G k [⟨d,ai,none⟩] K s:=by
    intro hc h
    rw [show exY G (norm s) d ai=exX G (norm s) ⟨d,ai,none⟩ from exY_eq G (norm s) ⟨d,ai,none⟩] at h
    obtain ⟨s',h1,h2⟩:=exX_norm h
    exact WR.exX (o:=⟨d,ai,none⟩) trivial hc h1 (WR.nil (hK _ h2))
  cases ai<;>first | exact plain rfl h | skip
  case call f xs=>exact clZ_run hcall h hK
  case callv x xs=>exact cvZ_run hcall h hK
  case mk size bytes z x y=>exact mkZ_run h hK
  case clr size z x=>exact clrZ_run h hK
  case cpys x y=>exact cpyZ_run h hK
  case cvsb x=>exact cvsZ_run h hK
  case app size bytes z a x=>exact EffI.run (o:=⟨d,.app size bytes z a x,none⟩) trivial (apZ_eff h hK)
  case apps a x=>cases h
  case bslc size len z ps=>
    simp only [stZ] at h
    obtain ⟨s1,hgh,hn⟩:=frzIds_ok (k:=k) (bldPs G (norm s).sl ps) s
    cases hl:litU d l with
    | true=>
      rw [hl] at h
      simp only [bsZ,← hn] at h
      obtain ⟨s',h1,h2⟩:=exX_norm (o:=⟨d,.bslc size len z ps,none⟩) h
      exact WR.ghost hgh (WR.exX (o:=⟨d,.bslc size len z ps,none⟩) trivial rfl h1 (WR.nil (hK _ h2)))
    | false=>
      rw [hl] at h
      simp only [bsZ,← hn] at h
      exact WR.ghost hgh (EffI.run (o:=⟨d,.bslc size len z ps,none⟩) trivial (bsO_eff h hK))
theorem gK_gOK {g:Nat} {b:Bool} (h:gK b (evA G (norm s).sl (.t g))=some true):gOK G s (some (g,b)):=gK_true (st:=norm s) h
theorem gK_gNo {g:Nat} {b:Bool} (h:gK b (evA G (norm s).sl (.t g))=some false):gNo G s (some (g,b)):=gK_false (st:=norm s) h
theorem refZ_run (hcall:CallOK P G call) {L:List Nat} {d:Option Nat} {ai:AI} (h:refZ call G L (norm s) d ai=some st') (hK:∀ s',norm s'=st'→K s'):WR P G k [⟨d,ai,none⟩] K s:=by
  cases ai with
  | call f xs=>
    simp only [refZ] at h
    cases hb:hasN L (f+100000) with
    | false=>
      rw [hb] at h
      obtain ⟨J,objs,av,o',g1,g2,g3,g4,g5,g6,g7⟩:=evCall_ok (nzCall_ok hcall) h
      exact WR.call (o:=⟨d,.call f xs,none⟩) trivial rfl g2 g3 g4 g5 g6 (fun a o hao=>WR.nil (hK _ (g7 a o hao)))
    | true=>
      rw [hb] at h
      simp only [refB] at h
      cases hc:call f (vpAs G (norm s) xs) [] with
      | none=>rw [hc] at h;cases h
      | some r=>
        obtain ⟨av,os⟩:=r
        rw [hc] at h
        cases os with
        | cons o os=>cases h
        | nil=>
          simp only [vpK] at h
          cases hr:rawA? av with
          | false=>simp_all
          | true=>
            rw [hr] at h
            injection h with h
            exact WR.callP (o:=⟨d,.call f xs,none⟩) trivial rfl (vp_args hcall hc) hr rfl (WR.nil (hK _ (by rw [← h];rfl)))
  | mk size bytes z x y=>exact mbK_run h hK
  | cvsb x=>exact cvaK_run h hK
  | _=>cases h
theorem stO_run (hcall:CallOK P G call) {l:List AOp} {o:AOp} {s1:AS} (ho:stO call G (norm s) l o.dst o.ai o.guard=some s1) (next:∀ s',norm s'=s1→WR P G k l K s'):WR P G k (o::l) K s:=by
  obtain ⟨d,ai,g⟩:=o
  cases g with
  | none=>exact WR.cons (stZ_run hcall ho next)
  | some g=>
    simp only [stO] at ho
    cases hg:gK g.2 (evA G (norm s).sl (.t g.1)) with
    | none=>rw [hg] at ho;cases ho
    | some b=>
      rw [hg] at ho
      cases b with
      | true=>exact WR.cons (WR.guard (gK_gOK hg) rfl (stZ_run hcall ho next))
      | false=>
        injection ho with ho
        exact WR.skip (gK_gNo hg) (next _ (by rw [← ho];rfl))
theorem evR_ok (hcall:CallOK P G call):∀ (ops:List AOp) (s:AS) (st':AS),evR call G ops (some (norm s))=some st'→WR P G k ops (fun s'=>norm s'=st') s
  | [],s,st',h=>by simp only [evR,Option.some.injEq] at h;exact WR.nil h
  | o::l,s,st',h=>by
    simp only [evR] at h
    cases ho:stO call G (norm s) l o.dst o.ai o.guard with
    | none=>rw [ho] at h;cases l<;>cases h
    | some s1=>
      rw [ho] at h
      exact stO_run hcall ho (fun s' hs'=>evR_ok hcall l s' st' (by simp_all))
theorem evRR_ok (hcall:CallOK P G call) {L:List Nat}:∀ (ops:List AOp) (s:AS) (st':AS),evRR call G L ops (some (norm s))=some st'→WR P G k ops (fun s'=>norm s'=st') s
  | [],s,st',h=>by grind[evRR,Option.some.injEq,WR.nil]
  | o::l,s,st',h=>by
    simp only [evRR] at h
    cases ho:stR call G L (norm s) l o.dst o.ai o.guard (isRef L o.ai o.guard) with
    | none=>rw [ho] at h;cases l<;>cases h
    | some s1=>
      rw [ho] at h
      have next:∀ s',norm s'=s1→WR P G k l (fun s'=>norm s'=st') s':=fun s' hs'=>evRR_ok hcall l s' st' (by rw [hs'];exact h)
      cases hr:isRef L o.ai o.guard with
      | false=>rw [hr] at ho;exact stO_run hcall ho next
      | true=>
        rw [hr] at ho
        obtain ⟨d,ai,g⟩:=o
        cases g with
        | some g=>grind[isRef]
        | none=>exact WR.cons (refZ_run hcall ho next)
theorem AN_of (hcall:CallOK P G call) {L:List Nat} {l:List AOp} {o:AOp} {s1:AS} (ho:stR call G L (norm s) l o.dst o.ai o.guard (isRef L o.ai o.guard)=some s1) (next:∀ s',norm s'=s1→K s'):AN P G k o K s:=by
  obtain ⟨d,ai,g⟩:=o
  unfold AN
  simp only at ho ⊢
  split
  · rename_i hp
    have hr:isRef L ai g=false:=by cases ai<;>first | rfl | cases hp
    rw [hr] at ho
    simp only [stR] at ho
    have pure:∀ {s1},stZ call G (norm s) l d ai=some s1→∃ v,evP G s ai=some v∧norm ⟨putS s.sl d v,s.hp⟩=s1:=by
      intro s1 h
      have h2:exY G (norm s) d ai=some s1:=by cases ai<;>first | exact h | cases hp
      rw [show exY G (norm s) d ai=exX G (norm s) ⟨d,ai,none⟩ from exY_eq G (norm s) ⟨d,ai,none⟩] at h2
      have h3:(evP G (norm s) ai).map (fun v=>(⟨putS (norm s).sl d v,(norm s).hp⟩:AS))=some s1:=by cases ai<;>first | exact h2 | cases hp
      rw [evP_norm] at h3
      obtain ⟨v,h4,h5⟩:=Option.map_eq_some_iff.1 h3
      exact ⟨v,h4,h5⟩
    cases g with
    | none=>
      obtain ⟨v,h1,h2⟩:=pure ho
      exact .inr ⟨trivial,v,h1,next _ h2⟩
    | some g=>
      simp only [stO] at ho
      cases hg:gK g.2 (evA G (norm s).sl (.t g.1)) with
      | none=>rw [hg] at ho;cases ho
      | some b=>
        rw [hg] at ho
        cases b with
        | true=>
          obtain ⟨v,h1,h2⟩:=pure ho
          grind[gK_gOK]
        | false=>
          injection ho with ho
          exact .inl ⟨gK_gNo hg,next _ (by rw [← ho];rfl)⟩
  · cases hr:isRef L ai g with
    | true=>
      rw [hr] at ho
      cases g with
      | some g=>grind[isRef]
      | none=>exact refZ_run hcall ho next
    | false=>
      rw [hr] at ho
      simp only [stR] at ho
      cases g with
      | none=>exact stZ_run hcall ho next
      | some g=>
        simp only [stO] at ho
        cases hg:gK g.2 (evA G (norm s).sl (.t g.1)) with
        | none=>rw [hg] at ho;cases ho
        | some b=>
          rw [hg] at ho
          cases b with
          | true=>exact WR.guard (gK_gOK hg) rfl (stZ_run hcall ho next)
          | false=>
            injection ho with ho
            exact WR.skip (gK_gNo hg) (WR.nil (next _ (by rw [← ho];rfl)))
theorem evT_ok (hcall:CallOK P G call) {L:List Nat} {n0:Nat} {ops:List AOp}:∀ (t:IT) (s st':AS),evT call G L n0 ops t (some (norm s))=some st'→TW P G k ops (fun s'=>∃ p,pOK n0 s'.hp.length p∧norm (prm p s')=st') t s:=by
  have node:∀ (t:IT),(∀ (s st':AS),evT call G L n0 ops t (some (norm s))=some st'→TW P G k ops (fun s'=>∃ p,pOK n0 s'.hp.length p∧norm (prm p s')=st') t s)→∀ (s st':AS) (i:Nat),
      evT call G L n0 ops t (stR call G L (norm s) ops (atO ops i).dst (atO ops i).ai (atO ops i).guard (isRef L (atO ops i).ai (atO ops i).guard))=some st'→AN P G k (atO ops i) (TW P G k ops (fun s'=>∃ p,pOK n0 s'.hp.length p∧norm (prm p s')=st') t) s:=by
    intro t ih s st' i h
    cases ho:stR call G L (norm s) ops (atO ops i).dst (atO ops i).ai (atO ops i).guard (isRef L (atO ops i).ai (atO ops i).guard) with
    | none=>rw [ho] at h;cases t<;>cases h
    | some s1=>
      grind[AN_of]
  intro t
  induction t with
  | nil=>intro s st' h;simp only [evT,Option.some.injEq] at h;exact ⟨[],(fun x hx=>by cases hx),h⟩
  | stop=>intro s st' h;cases h
  | st i t ih=>exact fun s st' h=>node t ih s st' i h
  | br i t r iht ihr=>
    intro s st' h
    simp only [evT] at h
    cases hr:isStop r with
    | true=>
      rw [hr] at h
      refine ⟨node t iht s st' i h, ?_⟩
      cases r<;>simp [isStop] at hr
      trivial
    | false=>
      rw [hr] at h
      obtain ⟨h1,s2,p,h2,h3,h4⟩:=meetE_some h
      refine ⟨node t iht s st' i h1,TW.mono (fun s' ⟨q,g1,g2⟩=>?_) r s (ihr s s2 h2)⟩
      have hl:s2.hp.length=s'.hp.length:=by grind[norm_len,prm_len]
      refine ⟨q++p,fun x hx=>?_, ?_⟩
      · rcases List.mem_append.1 hx with hx | hx
        · exact g1 x hx
        · rw [← hl];exact h3 x hx
      grind[prm_app,norm_prm]
theorem evP_qhp {ai:AI}:evP G ⟨(norm s).sl,qhp ai (norm s).hp⟩ ai=evP G ⟨s.sl,qhp ai s.hp⟩ ai:=by
  cases ai<;>first | rfl | exact evP_norm (s:=⟨s.sl,s.hp⟩)
theorem qtZ_ok (hcall:CallOK P G call) {d:Option Nat} {ai:AI} (h:qtZ call G (norm s) d ai=some st'):
    ∃ v,(evP G ⟨s.sl,qhp ai s.hp⟩ ai=some v∨∃ f args cargs r,ai=.call f args∧QC P G f cargs r∧∀ n,args.map (evA G s.sl)=cargs.map (renV (jmap [] n))∧v=renV (jmap [] n) r)∧(⟨putS (norm s).sl d v,(norm s).hp⟩:AS)=st':=by
  have plain:putX (norm s) d (evX G (norm s).sl (qhp ai (norm s).hp) ai)=some st'→∃ v,evP G ⟨s.sl,qhp ai s.hp⟩ ai=some v∧(⟨putS (norm s).sl d v,(norm s).hp⟩:AS)=st':=by
    intro h
    rw [evX_eq,evP_qhp] at h
    cases hv:evP G ⟨s.sl,qhp ai s.hp⟩ ai with
    | none=>rw [hv] at h;cases h
    | some v=>rw [hv] at h;injection h with h;simp_all
  have other:(∀ f xs,ai≠.call f xs)→∃ v,evP G ⟨s.sl,qhp ai s.hp⟩ ai=some v∧(⟨putS (norm s).sl d v,(norm s).hp⟩:AS)=st':=fun hne=>plain (by
    cases ai<;>first | exact h | simp_all)
  by_cases hcl:∃ f xs,ai=.call f xs
  · obtain ⟨f,xs,rfl⟩:=hcl
    simp only [qtZ] at h
    cases hk:(nzAs G (norm s).sl xs).all (keepV fun _=>true) with
    | false=>simp_all
    | true=>
      rw [hk] at h
      simp only [cond_true] at h
      cases hc:call f (nzAs G (norm s).sl xs) [] with
      | none=>rw [hc] at h;cases h
      | some r=>
        obtain ⟨av,os⟩:=r
        rw [hc] at h
        have hargs:∀ n,xs.map (evA G s.sl)=(xs.map (evA G s.sl)).map (renV (jmap [] n)):=fun n=>by
          conv=>lhs;rw [← List.map_id (xs.map (evA G s.sl))]
          refine List.map_congr_left (fun v hv=>(rnV v ?_).symm)
          rw [nzAs_eq,List.all_map] at hk
          have:=List.all_eq_true.1 hk v hv
          rwa [Function.comp_apply,nzV_keep] at this
        cases os with
        | cons o os=>
          simp only [qcK,qcF] at h
          generalize hv0:killV (fun id=>decide (0≤id)) ((frzIds (idsV av) ⟨[av],o::os⟩).sl.getD 0 .junk)=v at h
          cases hkv:keepV (fun _=>true) v with
          | false=>simp_all
          | true=>
            rw [hkv] at h
            injection h with h
            have g2:QC P G f (nzAs G (norm s).sl xs) v:=QC.quiet hcall (by
              grind[quietCall])
            refine ⟨v,.inr ⟨f,xs,xs.map (evA G s.sl),v,rfl, ?_,fun n=>⟨hargs n,(rnV v hkv).symm⟩⟩,h⟩
            rw [nzAs_eq] at g2
            exact AC.nzArgs g2
        | nil=>
          simp only [qcK] at h
          cases hkv:keepV (fun _=>true) av with
          | false=>simp_all
          | true=>
            rw [hkv] at h
            injection h with h
            obtain ⟨_,g2⟩:=hcall _ _ _ _ _ hc [] rfl
            refine ⟨av,.inr ⟨f,xs,xs.map (evA G s.sl),av,rfl, ?_,fun n=>⟨?_,(rnV av hkv).symm⟩⟩,h⟩
            · rw [nzAs_eq] at g2
              exact g2.nzArgs.gh (fun a o ⟨h1,h2⟩ _=>⟨a,o,Gh.refl,Nat.zero_le _,h1,by simp_all⟩)
            grind
  simp_all
theorem ldZ_eff (hcall:CallOK P G call) {d:Option Nat} {ai:AI} (h:ldZ call G (norm s) d ai=some st') (hK:∀ s',norm s'=st'→K s'):EffI P G k d ai K s.sl s.hp:=by
  have dt:∀ {f xs},dnZ call G d f xs (norm s)=some st'→EffI P G k d (.call f xs) K s.sl s.hp:=by
    intro f xs h
    obtain ⟨av,os,h0,h1,h2,h3⟩:=dnZ_ok hcall h
    refine ⟨_,CallA.of h2 (h1 _),⟨_,_,av,os,⟨rfl,h0⟩,rfl,rfl⟩, ?_⟩
    rintro a o ⟨av0,os0,⟨rfl,h5⟩,rfl,rfl⟩
    refine hK _ ?_
    rw [← h3,← h5]
    simp only [norm,List.map_append,List.map_map]
    simp_all[List.map_congr_left,nocap_ren]
  cases ai<;>first | (cases h;done) | skip
  case call f xs=>
    simp only [ldZ] at h
    cases hc:call f (vpAs G (norm s) xs) [] with
    | none=>rw [hc] at h;cases h
    | some r=>
      obtain ⟨av,os⟩:=r
      rw [hc] at h
      cases os with
      | nil=>
        simp only [dvK] at h
        cases hr:rawA? av with
        | true=>
          rw [hr] at h
          injection h with h
          refine ⟨_,CallA.viewP (vp_args hcall hc) hr (by simp_all),⟨av,[],rfl,rfl⟩, ?_⟩
          rintro a o ⟨rfl,rfl⟩
          rw [List.append_nil]
          exact hK _ (by rw [← h];rfl)
        | false=>simp_all
      | cons o os=>exact dt h
  case callv x xs=>exact cvZ_run hcall h hK
  case mk size bytes z x y=>exact mkZ_run h hK
  case clr size z x=>exact clrZ_run h hK
  case cpys x y=>exact cpyZ_run h hK
  case cvsb x=>exact cvsZ_run h hK
  case app size bytes z a x=>exact apZ_eff h hK
  case bslc size len z ps=>exact bsO_eff h hK
  case alloc z=>
    simp only [ldZ,exY,Option.some.injEq] at h
    exact hK _ (by simp_all[norm,nocap])
  case box x=>
    simp only [ldZ,exY] at h
    cases hc:cellsOf (evA G (norm s).sl x) with
    | none=>rw [hc] at h;cases h
    | some cs=>rw [hc] at h;injection h with h;exact ⟨cs,hc,hK _ (by simp_all[norm,nocap])⟩
  case store size x v=>
    simp only [ldZ,exY] at h
    cases d with
    | some d=>cases h
    | none=>
      refine ⟨rfl, ?_⟩
      simp only [stD,stX,show (norm s).sl=s.sl from rfl] at h
      split at h
      · rename_i id off hx
        left
        split at h
        · rename_i vs hv
          split at h
          · rename_i cs hb
            rw [norm,hpGet_norm] at hb
            split at h
            · rename_i hc
              injection h with h
              exact ⟨id,off,cs,vs,hx,hv,nocap_box hb,hc.1,hc.2,hK _ (by simp_all[norm,nocap,List.map_set])⟩
            · cases h
          · cases h
        · cases h
      · rename_i id i z off hx
        right
        split at h
        · rename_i ds hv
          split at h
          · rename_i c z' es hb
            rw [norm,hpGet_norm] at hb
            obtain ⟨cap,hb2,rfl⟩:=nocap_arr hb
            split at h
            · rename_i e he
              split at h
              · rename_i hc
                injection h with h
                obtain ⟨rfl,hc1,hc2⟩:=hc
                obtain ⟨cs,hcs,hdc⟩:=Option.bind_eq_some_iff.1 hv
                exact ⟨id,i,z,off,cap,es,e,ds,hx,by grind[dcs_dcC],hb2,he,hc1,hc2,hK _ (by simp_all[norm,nocap,List.map_set])⟩
              · cases h
            · cases h
          · cases h
        · cases h
      · cases h
theorem evDr_ok (hcall:CallOK P G call):∀ (ops:List (Bool × AOp)) (s:AS) (st':AS),evDr call G ops (some (norm s))=some st'→AWL P G k (fun s'=>norm s'=st') ops s
  | [],s,st',h=>by simp only [evDr,Option.some.injEq] at h;exact h
  | (q,o)::l,s,st',h=>by
    simp only [evDr] at h
    cases ho:drO call G (norm s) q o.dst o.ai o.guard with
    | none=>rw [ho] at h;cases l<;>cases h
    | some s1=>
      rw [ho] at h
      have next:∀ s',norm s'=s1→AWL P G k (fun s'=>norm s'=st') l s':=fun s' hs'=>evDr_ok hcall l s' st' (by simp_all)
      have op:gOK G s o.guard→drZ call G (norm s) o.dst o.ai q=some s1→AWL P G k (fun s'=>norm s'=st') ((q,o)::l) s:=by
        intro hg hz
        cases q with
        | true=>
          obtain ⟨v,h1,h2⟩:=qtZ_ok hcall hz
          exact ⟨v,.inr ⟨hg,h1⟩,next _ (by rw [← h2];rfl)⟩
        | false=>exact .inr ⟨hg,ldZ_eff hcall hz next⟩
      cases hgd:o.guard with
      | none=>rw [hgd] at ho;exact op (by rw [hgd];trivial) ho
      | some g=>
        rw [hgd] at ho
        simp only [drO] at ho
        cases hg:gK g.2 (evA G (norm s).sl (.t g.1)) with
        | none=>rw [hg] at ho;cases ho
        | some b=>
          rw [hg] at ho
          cases b with
          | true=>exact op (by grind[gK_gOK]) ho
          | false=>
            injection ho with ho
            exact WD.skip (by grind[gK_gNo]) (next _ (by rw [← ho];rfl))
theorem fpA_mem {sl:List AV}:∀ {xs:List AArg} {x:AArg} {id:Nat},x∈xs→id∈fpV (evA G sl x)→id∈fpA G sl xs
  | y::xs,x,id,hx,hid=>by
    rw [fpA,List.mem_append]
    rcases List.mem_cons.1 hx with rfl | hx
    · exact .inl hid
    · exact .inr (fpA_mem hx hid)
theorem norm_at (s:AS) (id:Nat):(norm s).hp[id]?=(s.hp[id]?).map nocap:=by simp [norm]
theorem fvA_ok (hcall:CallOK P G call) {o:AOp} {r:Nat} {s1:AS} {f:FP} (hk:k≤r) (hgd:gOK G s o.guard) (h:fvA call G (norm s) o.dst r o.ai=some (s1,f)):∃ v u,StepF P G k o s v u f.2∧wrU u=f.1∧norm (stF o s v u)=s1:=by
  have pure:o.ai.isPure=true→fvP (fpA G (norm s).sl (argsAI o.ai)) (stZ call G (norm s) [] o.dst o.ai)=some (s1,f)→stZ call G (norm s) [] o.dst o.ai=exY G (norm s) o.dst o.ai→(∀ st':AS,exY G st' o.dst o.ai=(evP G st' o.ai).map fun v=>⟨putS st'.sl o.dst v,st'.hp⟩)→∃ v u,StepF P G k o s v u f.2∧wrU u=f.1∧norm (stF o s v u)=s1:=by
    intro _ h e1 e2
    rw [e1,e2,evP_norm] at h
    cases hv:evP G s o.ai with
    | none=>rw [hv] at h;cases h
    | some v=>
      rw [hv] at h
      simp only [Option.map_some,fvP,Option.some.injEq,Prod.mk.injEq] at h
      obtain ⟨h1,h2⟩:=h
      subst h2
      exact ⟨v,none,.pur v _ hgd hv (fun x hx id hid=>fpA_mem hx hid),rfl,by rw [← h1];rfl⟩
  have ex:∀ st':AS,o.ai.isPure=true→exY G st' o.dst o.ai=(evP G st' o.ai).map fun v=>⟨putS st'.sl o.dst v,st'.hp⟩:=by
    grind[exY_eq,exX,AI.isPure]
  cases hai:o.ai with
  | alloc z=>
    rw [hai] at h
    simp only [fvA,norm_at] at h
    cases hb:s.hp[r]? with
    | none=>rw [hb] at h;cases h
    | some ob=>
      rw [hb] at h
      cases ob with
      | dead=>
        simp only [Option.map_some,nocap,fvN,Option.some.injEq,Prod.mk.injEq] at h
        obtain ⟨h1,h2⟩:=h
        subst h2
        exact ⟨_,_,.alloc z r hgd hai hb hk,rfl,by simp_all[norm,stF,updH,nocap,List.map_set]⟩
      | box cs=>cases h
      | arr c sz es=>cases h
  | store size x v=>
    rw [hai] at h
    simp only [fvA] at h
    unfold fvS at h
    split at h
    · rename_i id off vs hx hv
      cases hd:o.dst with
      | some d=>simp_all
      | none=>
        rw [hd] at h
        simp only [norm_at] at h
        cases hb:s.hp[id]? with
        | none=>rw [hb] at h;cases h
        | some ob=>
          rw [hb] at h
          cases ob with
          | dead=>cases h
          | arr c sz es=>cases h
          | box cs=>
            simp only [Option.map_some,nocap,fvT] at h
            split at h
            · rename_i hc
              simp only [Option.some.injEq,Prod.mk.injEq] at h
              obtain ⟨h1,h2⟩:=h
              subst h2
              exact ⟨_,_,.store size x v id off cs vs hgd hai hd hx hv hb hc.1 hc.2,rfl,by simp_all[norm,stF,updH,nocap,List.map_set,putS]⟩
            · cases h
    · cases h
  | bslc size len z ps=>
    rw [hai] at h
    simp only [fvA] at h
    cases len with
    | zero=>cases h
    | succ len=>
      simp only [fvL] at h
      cases hq:bsX G (norm s) o.dst size (len+1) z ps with
      | none=>rw [hq] at h;cases h
      | some s2=>
        rw [hq] at h
        simp only [fvP,Option.some.injEq,Prod.mk.injEq] at h
        obtain ⟨h1,h2⟩:=h
        subst h2
        unfold bsX at hq
        simp only at hq
        cases hf:fillV (zs z ((len+1) * size)) (ps.map fun (j,x)=>(j * size,size,evA G (norm s).sl x)) with
        | none=>simp_all
        | some cs=>
          simp only [hf,Option.bind_some] at hq
          cases hd:dcs cs with
          | none=>simp_all
          | some ds=>
            simp only [hd,Option.bind_some] at hq
            split at hq
            · rename_i hl
              injection hq with hq
              obtain ⟨g1,g2,g3⟩:=chunk_flat size (len+1) ds hl
              rw [zs_eq] at hf
              exact ⟨_,none,.lit size (len+1) z ps (chunk size (len+1) ds) hgd hai (by rw [g1,← dcs_dcC hd];exact hf) g2 g3,rfl,by rw [← h1,← hq];rfl⟩
            grind
  | cpys x y=>
    rw [hai] at h
    simp only [fvA] at h
    unfold fvY at h
    split at h
    · rename_i id lo n z bs hx hy
      split at h
      · rename_i hz
        subst hz
        rw [norm_at] at h
        cases hb:s.hp[id]? with
        | none=>rw [hb] at h;cases h
        | some ob=>
          rw [hb] at h
          cases ob with
          | dead=>cases h
          | arr c z es=>cases h
          | box cs=>
            simp only [Option.map_some,nocap,fvY2] at h
            split at h
            · rename_i hc
              simp only [Option.some.injEq,Prod.mk.injEq] at h
              obtain ⟨h1,h2⟩:=h
              subst h2
              exact ⟨_,_,.cpy x y id lo n bs cs hgd hai hx hy hb hc,rfl,by simp_all[norm,stF,updH,nocap,List.map_set]⟩
            · cases h
      · cases h
    · cases h
  | call g xs=>
    rw [hai] at h
    simp only [fvA] at h
    generalize ((xs.map (evA G (norm s).sl)).flatMap idsV)=J at h
    match J with
    | []=>
      simp only [fvC] at h
      cases hq:qtZ call G (norm s) o.dst (.call g xs) with
      | none=>rw [hq] at h;cases h
      | some s2=>
        rw [hq] at h
        simp only [fvP,Option.some.injEq,Prod.mk.injEq] at h
        obtain ⟨h1,h2⟩:=h
        subst h2
        obtain ⟨v,hv,he⟩:=qtZ_ok hcall hq
        rcases hv with hv | ⟨f',args,cargs,r',e1,e2,e3⟩
        · grind[evP]
        · exact ⟨v,none,.call f' args cargs r' v hgd (hai.trans e1) e2 e3,rfl,by rw [← h1,← he];rfl⟩
    | [id]=>
      simp only [fvC,norm_at] at h
      cases hb:s.hp[id]? with
      | none=>rw [hb] at h;cases h
      | some ob=>
        rw [hb] at h
        cases ob with
        | dead=>cases h
        | arr c z es=>cases h
        | box cs=>
          simp only [Option.map_some,nocap,fvB] at h
          cases hk:(keepL (fun _=>true) cs&&(xs.map (evA G (norm s).sl)).all (keepV (outJ [id]))) with
          | false=>grind
          | true=>
            rw [hk] at h
            simp only [cond_true] at h
            simp only [Bool.and_eq_true] at hk
            unfold fvB2 at h
            split at h
            · rename_i cs' hc
              cases hk2:keepL (fun _=>true) cs' with
              | false=>simp_all
              | true=>
                rw [hk2] at h
                simp only [cond_true,Option.some.injEq,Prod.mk.injEq] at h
                obtain ⟨h1,h2⟩:=h
                subst h2
                obtain ⟨_,hA⟩:=nzCall_ok hcall _ _ _ _ _ hc [.box cs] rfl
                refine ⟨.tup [],some (id,.box cs'),.callB g xs _ id cs cs' hgd hai hb (hA.gh (fun a o' ⟨q1,q2⟩ hl=>⟨a,o',Gh.refl,hl,q1, ?_⟩)) (fun n=>?_) (fun n=>⟨?_, ?_⟩),rfl,by rw [← h1];simp [norm,stF,updH,nocap,List.map_set]⟩
                · obtain ⟨x,rfl⟩:=List.length_eq_one_iff.1 (by have:=congrArg List.length q2;simpa using this:o'.length=1)
                  simp only [List.map_cons,List.map_nil,List.cons.injEq,and_true] at q2
                  rw [nocap_box q2]
                · rw [List.map_map]
                  conv=>lhs;rw [← List.map_id (xs.map (evA G s.sl))]
                  exact List.map_congr_left (fun v hv=>(rtV v (List.all_eq_true.1 hk.2 v hv)).symm)
                · simp only [renO,← renL_map,rnL _ hk.1]
                · simp only [renO,← renL_map,rnL _ hk2]
            · cases h
    | _::_::_=>cases h
  | _=>
    rw [hai] at h
    first
      | (refine pure (by rw [hai];rfl) (by rw [hai];exact h) (by rw [hai];rfl) (fun st'=>ex st' (by rw [hai];rfl)))
      | (cases h;done)
theorem fvO_ok (hcall:CallOK P G call) {o:AOp} {r:Nat} {s1:AS} {f:FP} (hk:k≤r) (h:fvO call G (norm s) o.dst r o.ai o.guard=some (s1,f)):∃ v u,StepF P G k o s v u f.2∧wrU u=f.1∧norm (stF o s v u)=s1:=by
  cases hgd:o.guard with
  | none=>rw [hgd] at h;exact fvA_ok hcall hk (by rw [hgd];trivial) h
  | some g=>
    rw [hgd] at h
    simp only [fvO] at h
    cases hg:gK g.2 (evA G (norm s).sl (.t g.1)) with
    | none=>rw [hg] at h;cases h
    | some b=>
      rw [hg] at h
      cases b with
      | true=>exact fvA_ok hcall hk (by rw [hgd];exact gK_gOK hg) h
      | false=>
        simp only [fvG,Option.some.injEq,Prod.mk.injEq] at h
        obtain ⟨h1,h2⟩:=h
        subst h2
        exact ⟨_,none,.skip (by rw [hgd];exact gK_gNo hg),rfl,by rw [← h1];rfl⟩
theorem fvR_ok (hcall:CallOK P G call) {prs:List (Nat × Nat)}:∀ (ops:List AOp) (acc:List FP) (r:Nat) (s:AS) (st':AS),k≤r→fvR call G prs acc r ops (some (norm s))=some st'→
    ∃ L:List FE,L.map (·.1)=ops∧RunF P G k (fun s'=>norm s'=st') L s∧chkF prs (acc++L.map (·.2))=true
  | [],acc,r,s,st',hk,h=>by
    simp only [fvR] at h
    cases hc:chkF prs acc with
    | false=>rw [hc] at h;cases h
    | true=>
      rw [hc] at h
      injection h with h
      exact ⟨[],rfl,h,by simpa using hc⟩
  | o::ops,acc,r,s,st',hk,h=>by
    simp only [fvR] at h
    cases ho:fvO call G (norm s) o.dst r o.ai o.guard with
    | none=>rw [ho] at h;cases h
    | some q=>
      obtain ⟨s1,f⟩:=q
      rw [ho] at h
      obtain ⟨v,u,hs,hw,hn⟩:=fvO_ok hcall hk ho
      simp only [← hn] at h
      obtain ⟨L,hL,hR,hC⟩:=fvR_ok hcall ops (acc++[f]) _ (stF o s v u) st' (by cases isAl o.ai<;>simp<;>omega) h
      exact ⟨(o,f)::L,by simp [hL],⟨v,u,f.2,hs,hw,rfl,hR⟩,by simpa using hC⟩
theorem hasM_eq:∀ (L:List Nat) (n:Nat),hasM L n=L.contains n
  | [],n=>rfl
  | x::L,n=>by
    rw [hasM,hasM_eq L n,nq_eq,List.contains_cons]
theorem disM_eq:∀ (a b:List Nat),disM a b=disjF a b
  | [],b=>rfl
  | x::a,b=>by rw [disM,disM_eq a b,hasM_eq];rfl
theorem atF_eq:∀ (fs:List FE) (n:Nat),atF (fs.map (·.2)) n=(fs.getD n dummyE).2
  | [],n=>by cases n<;>rfl
  | f::fs,0=>rfl
  | f::fs,n+1=>by rw [List.map_cons,atF,atF_eq fs n];simp [List.getD_eq_getElem?_getD]
theorem disjF_app {a b c:List Nat}:disjF a (b++c)=(disjF a b&&disjF a c):=by
  unfold disjF
  rw [Bool.eq_iff_iff]
  simp only [List.all_eq_true,Bool.and_eq_true,Bool.not_eq_true',List.contains_eq_mem,decide_eq_false_iff_not,List.mem_append,not_or]
  exact ⟨fun h=>⟨fun x hx=>(h x hx).1,fun x hx=>(h x hx).2⟩,fun h x hx=>⟨h.1 x hx,h.2 x hx⟩⟩
theorem chkF_ok {L:List FE}:∀ (prs:List (Nat × Nat)),chkF prs (L.map (·.2))=true→∀ p∈prs,dsj (L.getD p.1 dummyE).2 (L.getD p.2 dummyE).2=true
  | [],_,p,hp=>by cases hp
  | (a,b)::prs,h,p,hp=>by
    simp only [chkF,Bool.and_eq_true] at h
    rcases List.mem_cons.1 hp with rfl | hp
    · have h1:=h.1
      rw [atF_eq,atF_eq] at h1
      show dsj (L.getD a dummyE).2 (L.getD b dummyE).2=true
      revert h1
      generalize (L.getD a dummyE).2=x
      generalize (L.getD b dummyE).2=y
      obtain ⟨w,r⟩:=x
      obtain ⟨w',r'⟩:=y
      intro h1
      simp only [dsM,disM_eq] at h1
      simp only [dsj,disjF_app]
      simp only [Bool.and_eq_true] at h1 ⊢
      exact ⟨⟨h1.1,h1.2.1⟩,h1.2.2⟩
    · exact chkF_ok prs h.2 p hp
theorem deads_eq:∀ n,deads n=List.replicate n .dead
  | 0=>rfl
  | n+1=>by rw [deads,deads_eq n,List.replicate_succ]
theorem drawnF_run (hcall:CallOK P G call) {prs:List (Nat × Nat)} {ops:List AOp} {s st':AS} (hk:k≤s.hp.length) (h:fvR call G prs [] (norm s).hp.length ops (some ⟨(norm s).sl,(norm s).hp++deads (nAl ops)⟩)=some st') {Q:Exit→AS→Prop} (hQ:∀ s',norm s'=st'→Q .normal s'):
    AW P G k (.drawnF prs ops) Q s:=by
  refine AW.ghost (Gh.dead (nAl ops)) ?_
  have e:(⟨(norm s).sl,(norm s).hp++deads (nAl ops)⟩:AS)=norm ⟨s.sl,s.hp++List.replicate (nAl ops) .dead⟩:=by
    simp [norm,deads_eq,nocap]
  rw [e] at h
  obtain ⟨L,hL,hR,hC⟩:=fvR_ok hcall ops [] _ _ st' (by simpa [norm] using hk) h
  exact AW.drawnF hL (chkF_ok prs (by simpa using hC)) (RunF.mono hQ hR)
end
end
section
section
variable {P:Program} {G:Glob} {k:Nat} {st st' s:AS} {call:CallT}
theorem ghE_ok (g:GH) (s:AS):∃ s',Gh k s s'∧norm s'=ghE g (norm s):=by
  cases g with
  | nil d sz=>
    simp only [ghE,ghN]
    split
    · rename_i hv
      refine ⟨_,Gh.nil (d:=d) sz ?_,by simp [norm,nocap]⟩
      rw [show (norm s).sl=s.sl from rfl,List.getD_eq_getElem?_getD] at hv
      cases h:s.sl[d]? with
      | none=>rw [h] at hv;cases hv
      | some x=>rw [h] at hv;simp only [Option.getD_some] at hv;rw [hv]
    · exact ⟨s,Gh.refl,rfl⟩
  | nilB d j sz=>
    simp only [ghE,ghB]
    split
    · rename_i id off hv
      simp only [norm,hpGet_norm]
      unfold ghB1
      split
      · rename_i cs hb
        unfold ghB2
        split
        · rename_i hj
          exact ⟨_,Gh.nilB sz (nocap_box hb) hj,by simp [norm,nocap,List.map_set]⟩
        · exact ⟨s,Gh.refl,rfl⟩
      · exact ⟨s,Gh.refl,rfl⟩
    · exact ⟨s,Gh.refl,rfl⟩
  | frz d=>exact frzIds_ok _ s
  | bv d=>exact bvIds_ok _ s
theorem ctC_eq (m:Nat) (c:Cel):ctC m c=killC (fun id=>decide (m≤id)) c:=by
  cases c<;>simp only [ctC,killC,Cel.keep,if_true]
  case ptr j o=>by_cases h:m≤j<;>simp [h]
  case bld j n=>by_cases h:m≤j<;>simp [h]
  case ept j i s o=>by_cases h:m≤j<;>simp [h]
  case bls j i s o=>by_cases h:m≤j<;>simp [h]
theorem ctCs_eq (m:Nat):∀ cs,ctCs m cs=cs.map (killC fun id=>decide (m≤id))
  | []=>rfl
  | c::cs=>by simp [ctCs,ctC_eq,ctCs_eq m cs]
theorem ctV_eq (m:Nat) (v:AV):ctV m v=killV (fun id=>decide (m≤id)) v:=by
  cases v<;>simp only [ctV,killV,ctC_eq,ctCs_eq]
theorem ctO_eq (m:Nat) (o:AObj):ctO m o=killO (fun id=>decide (m≤id)) o:=by
  cases o<;>simp only [ctO,killO,ctCs_eq]
theorem ctH_eq (m:Nat):∀ (n:Nat) (l:List AObj),ctH m n l=(l.take n).map (killO fun id=>decide (m≤id))
  | 0,l=>by simp [ctH]
  | n+1,[]=>by simp [ctH]
  | n+1,o::os=>by simp [ctH,ctO_eq,ctH_eq m n os]
theorem ctS_le (m:Nat):∀ (l:List AV) (L:List Nat),SLe (l.map (killV fun id=>decide (m≤id))) (ctS m L l)
  | [],[]=>trivial
  | [],_::_=>trivial
  | x::xs,[]=>⟨.junk _,ctS_le m xs []⟩
  | x::xs,0::L=>⟨by rw [ctV_eq];exact .refl _,ctS_le m xs L⟩
  | x::xs,(n+1)::L=>⟨.junk _,ctS_le m xs (n::L)⟩
theorem trim_gh (L:List Nat) (m:Nat) (hk:k≤m) (s:AS):Gh k s (trimA L m s):=Gh.dropS m hk (ctS_le m s.sl L) (ctH_eq m m s.hp).symm
theorem ctO_nocap (m:Nat) (o:AObj):nocap (ctO m o)=ctO m (nocap o):=by cases o<;>rfl
theorem ctH_nocap (m:Nat):∀ (n:Nat) (l:List AObj),(ctH m n l).map nocap=ctH m n (l.map nocap)
  | 0,l=>by simp [ctH]
  | n+1,[]=>by simp [ctH]
  | n+1,o::os=>by simp [ctH,ctO_nocap,ctH_nocap m n os]
theorem trim_norm (L:List Nat) (m:Nat) (s:AS):norm (trimA L m s)=trimA L m (norm s):=by
  simp only [norm,trimA,ctH_nocap]
theorem AW.le {x:ACode} {Q:Exit→AS→Prop} (h:k≤st.hp.length→AW P G k x Q st):AW P G k x Q st:=
  fun c hc F γ a w hi hs hg hk=>h (by rw [← hi.len];exact hk) c hc F γ a w hi hs hg hk
theorem EC_ok (hcall:CallOK P G call):∀ (c:HC) (s:AS) (e:Exit) (st':AS),EC call G c (norm s)=some (e,st')→∀ k,AW P G k c.er (fun e' s'=>e'=e∧norm s'=st') s:=by
  intro c
  induction c with
  | bad=>intro s e st' h k;simp only [EC] at h;cases h
  | skip=>intro s e st' h k;simp only [EC,Option.some.injEq,Prod.mk.injEq] at h;obtain ⟨rfl,rfl⟩:=h;exact AW.skip ⟨rfl,rfl⟩
  | ret=>intro s e st' h k;simp only [EC,Option.some.injEq,Prod.mk.injEq] at h;obtain ⟨rfl,rfl⟩:=h;exact AW.ret ⟨rfl,rfl⟩
  | exit id=>intro s e st' h k;simp only [EC,Option.some.injEq,Prod.mk.injEq] at h;obtain ⟨rfl,rfl⟩:=h;exact AW.exit ⟨rfl,rfl⟩
  | region ops=>
    intro s e st' h k
    simp only [EC] at h
    obtain ⟨s1,h1,h2⟩:=nrm_some h
    injection h2 with h2 h3
    subst h2;subst h3
    exact AW.region ((evR_ok hcall ops s st' h1).mono (fun s' h=>⟨rfl,h⟩))
  | regR L ops=>
    intro s e st' h k
    simp only [EC] at h
    obtain ⟨s1,h1,h2⟩:=nrm_some h
    injection h2 with h2 h3
    subst h2;subst h3
    exact AW.region ((evRR_ok hcall ops s st' h1).mono (fun s' h=>⟨rfl,h⟩))
  | drawnT L t ops=>
    intro s e st' h k
    simp only [EC] at h
    obtain ⟨s1,h1,h2⟩:=nrm_some h
    injection h2 with h2 h3
    subst h2;subst h3
    refine AW.prm (AW.drawnT (TW.mono (fun s' ⟨p,g1,g2⟩=>?_) t s (evT_ok hcall t s _ h1)))
    exact ⟨p,by rw [norm_len] at g1;exact g1,rfl,g2⟩
  | drawnF prs ops=>
    intro s e st' h k
    simp only [EC] at h
    obtain ⟨s1,h1,h2⟩:=nrm_some h
    injection h2 with h2 h3
    subst h2;subst h3
    exact AW.le (fun hk=>drawnF_run hcall hk h1 (fun s' h=>⟨rfl,h⟩))
  | drawn ops=>
    intro s e st' h k
    simp only [EC] at h
    obtain ⟨s1,h1,h2⟩:=nrm_some h
    injection h2 with h2 h3
    subst h2;subst h3
    exact AW.drawn (AWL.mono (fun s' h=>⟨rfl,h⟩) _ _ (evDr_ok hcall ops s st' h1))
  | seq a b iha ihb=>
    intro s e st' h k
    simp only [EC] at h
    cases ha:EC call G a (norm s) with
    | none=>rw [ha] at h;cases h
    | some q=>
      obtain ⟨e1,s1⟩:=q
      rw [ha] at h
      refine AW.seq ((iha s e1 s1 ha k).mono ?_)
      rintro e' s' ⟨rfl,rfl⟩
      cases e' with
      | normal=>exact ihb s' e st' h k
      | _=>simp only [Option.some.injEq,Prod.mk.injEq] at h;obtain ⟨rfl,rfl⟩:=h;exact ⟨rfl,rfl⟩
  | cond c a b iha ihb=>
    intro s e st' h k
    simp only [EC] at h
    cases hb:asBool? (evA G (norm s).sl c) with
    | none=>rw [hb] at h;cases h
    | some t=>
      rw [hb] at h
      refine AW.cond hb (fun ht=>?_) (fun ht=>?_)
      · subst ht;exact iha s e st' h k
      · subst ht;exact ihb s e st' h k
  | block id a iha=>
    intro s e st' h k
    simp only [EC] at h
    cases ha:EC call G a (norm s) with
    | none=>rw [ha] at h;cases h
    | some q=>
      obtain ⟨e1,s1⟩:=q
      rw [ha] at h
      refine AW.block ((iha s e1 s1 ha k).mono ?_)
      rintro e' s' ⟨rfl,rfl⟩
      cases e' with
      | exit id'=>
        simp only [blkK,blkE] at h ⊢
        split at h
        · rename_i heq
          simp only [Option.some.injEq,Prod.mk.injEq] at h;obtain ⟨rfl,rfl⟩:=h
          rw [if_pos heq];exact ⟨rfl,rfl⟩
        · rename_i heq
          simp only [Option.some.injEq,Prod.mk.injEq] at h;obtain ⟨rfl,rfl⟩:=h
          rw [if_neg heq];exact ⟨rfl,rfl⟩
      | _=>simp only [blkK,blkE,Option.some.injEq,Prod.mk.injEq] at h;obtain ⟨rfl,rfl⟩:=h;exact ⟨rfl,rfl⟩
  | loop L a iha=>
    intro s e st' h k
    simp only [EC] at h
    obtain ⟨n,hn⟩:=lim_some h
    have hm:(norm s).hp.length=s.hp.length:=by simp [norm]
    rw [hm,← trim_norm] at hn
    refine AW.le (fun hk=>?_)
    refine AW.loopG (α:=Nat × AS) (fun z=>z.2) (fun z=>lpN (EC call G a) L s.hp.length z.1 (norm z.2)=some (e,st')) (fun z=>z.1) (n,trimA L s.hp.length s) hn (trim_gh L _ hk s) (fun z hz=>?_)
    obtain ⟨i,s1⟩:=z
    cases i with
    | zero=>simp [lpN] at hz
    | succ i=>
      simp only [lpN] at hz
      cases hr:EC call G a (norm s1) with
      | none=>rw [hr] at hz;cases hz
      | some q=>
        obtain ⟨e1,s2⟩:=q
        rw [hr] at hz
        refine (iha s1 e1 s2 hr k).mono ?_
        rintro e' s' ⟨rfl,rfl⟩
        cases e' with
        | normal=>
          simp only [← trim_norm] at hz
          exact RndQ.n (i,trimA L s.hp.length s') hz (Nat.lt_succ_self i) (trim_gh L _ hk s')
        | _=>simp only [Option.some.injEq,Prod.mk.injEq] at hz;obtain ⟨rfl,rfl⟩:=hz;unfold RndQ;exact ⟨rfl,rfl⟩
  | gh g a iha=>
    intro s e st' h k
    simp only [EC] at h
    obtain ⟨s',h1,h2⟩:=ghE_ok (k:=k) g s
    exact AW.ghost h1 (iha s' e st' (by rw [h2];exact h) k)
  | trm L a iha=>
    intro s e st' h k
    simp only [EC] at h
    refine AW.le (fun hk=>?_)
    exact AW.ghost (trim_gh L _ hk s) (iha _ e st' (by rw [trim_norm];simpa [norm] using h) k)
def HTOK (P:Program) (T:HT):Prop:=∀ f h,T.tab f=some h→okF P f=true∧∃ fn,P.funcs[f]?=some fn∧fn.ntmps=h.nt∧fn.body.bind (compileC P)=some h.code.er∧fn.results.toList.mapM (retOf P)=some h.rs
theorem frzIds_hlen:∀ (ids:List Nat) (st:AS),(frzIds ids st).hp.length=st.hp.length
  | [],st=>rfl
  | id::r,st=>by
    simp only [frzIds]
    split
    · rw [frzIds_hlen r];simp
    · exact frzIds_hlen r st
theorem nocap_take {n:Nat} {o:List AObj}:(o.take n).map nocap=(o.map nocap).take n:=List.map_take
theorem funE_ok {T:HT} (hT:HTOK P T) (hcall:CallOK P G call) {f:FuncId} {h:HF} (hf:T.tab f=some h) {args:List AV} {hp0:List AObj} {av:AV} {o':List AObj} (he:funE call G h args (hp0.map nocap)=some (av,o')):
    okF P f=true∧AC P G f args hp0 fun a o=>a=av∧o.map nocap=o':=by
  obtain ⟨ho,fn,g1,g2,g3,g4⟩:=hT f h hf
  refine ⟨ho, ?_⟩
  unfold funE at he
  cases hc:EC call G h.code ⟨args++junks (h.nt - args.length),hp0.map nocap⟩ with
  | none=>rw [hc] at he;cases he
  | some q=>
    obtain ⟨e,s1⟩:=q
    rw [hc] at he
    simp only [retZ,List.length_map] at he
    split at he
    · rename_i hend
      cases hv:retV s1 h.rs with
      | none=>rw [hv] at he;cases he
      | some v=>
        rw [hv] at he
        simp only [retK,Option.some.injEq] at he
        have hA:AC P G f args hp0 (fun a o=>a=v∧o.map nocap=s1.hp):=by
          refine AC.of_codeJ g1 g2 g3 g4 ((EC_ok hcall h.code ⟨args++junks (h.nt - args.length),hp0⟩ e s1 hc hp0.length).mono ?_)
          rintro e' s' ⟨rfl,rfl⟩
          unfold Fin
          refine ⟨?_,by simpa [norm] using hend.2,v,by rw [← retV_norm];exact hv,rfl,rfl⟩
          cases e'<;>simp [isEnd] at hend ⊢
        unfold retW at he
        cases hown:h.own with
        | true=>
          rw [hown,cond_true] at he
          refine AC.nz ?_
          cases hkeep:(keepV (fun id=>decide (hp0.length≤id)) v&&(s1.hp.take hp0.length).all (keepO fun id=>decide (hp0.length≤id))) with
          | true=>
            rw [hkeep,cond_true] at he
            simp only [Prod.mk.injEq] at he
            obtain ⟨rfl,rfl⟩:=he
            simp only [Bool.and_eq_true] at hkeep
            refine hA.gh (fun a o ⟨q1,q2⟩ hl=>?_)
            subst q1
            refine ⟨a,o.take hp0.length, ?_,by simp only [List.length_take];omega,rfl,by rw [nocap_take,q2]⟩
            have:=Gh.drop (k:=hp0.length) (as:=⟨[a],o⟩) hp0.length (Nat.le_refl _)
            have e1:(o.take hp0.length).map (killO fun id=>decide (hp0.length≤id))=o.take hp0.length:=by
              conv=>rhs;rw [← List.map_id (o.take hp0.length)]
              refine List.map_congr_left (fun x hx=>killO_keep ?_)
              have:=List.all_eq_true.1 hkeep.2 (nocap x) (by rw [← q2,← List.map_take];exact List.mem_map.2 ⟨x,hx,rfl⟩)
              rwa [keepO_nocap] at this
            simpa [killV_keep hkeep.1,e1] using this
          | false=>
            rw [hkeep,cond_false] at he
            simp only [Prod.mk.injEq] at he
            obtain ⟨rfl,rfl⟩:=he
            exact hA.gh (fun a o ⟨q1,q2⟩ hl=>⟨a,o,Gh.refl,hl,by rw [q1],q2⟩)
        | false=>
          rw [hown,cond_false] at he
          simp only [Prod.mk.injEq] at he
          obtain ⟨rfl,rfl⟩:=he
          refine AC.nz ?_
          refine hA.gh (fun a o ⟨q1,q2⟩ hl=>?_)
          subst q1
          obtain ⟨s0,hgh0,hn0⟩:=bxW_ok (k:=hp0.length) (Nat.le_refl hp0.length) (idsV a) ⟨[a],o⟩ (blsV a)
          obtain ⟨s2,hgh2,hn⟩:=frzIds_ok (k:=hp0.length) (idsV a) s0
          have hgh:=hgh0.trans hgh2
          have hn':norm s2=frzIds (idsV a) (bxW hp0.length (idsV a) ⟨[a],s1.hp⟩ (blsV a)):=by rw [hn,hn0];simp only [norm,q2]
          have hlen:s2.sl.length=1:=by
            have:=congrArg (fun q=>q.sl.length) hn'
            simp only [norm,frzIds_len,(bxW_len _ _ _ _).1] at this
            simpa using this
          have hhl:s2.hp.length=o.length:=by
            have:=congrArg (fun q=>q.hp.length) hn'
            simp only [norm,frzIds_hlen,List.length_map,(bxW_len _ _ _ _).2] at this
            rw [this,← q2,List.length_map]
          obtain ⟨y,hy⟩:=List.length_eq_one_iff.1 hlen
          have hgd:=Gh.drop (k:=hp0.length) (as:=s2) hp0.length (Nat.le_refl _)
          have hy2:(frzIds (idsV a) (bxW hp0.length (idsV a) ⟨[a],s1.hp⟩ (blsV a))).sl.getD 0 .junk=y:=by rw [← hn'];simp [norm,hy]
          refine ⟨killV (fun id=>decide (hp0.length≤id)) y,(s2.hp.take hp0.length).map (killO fun id=>decide (hp0.length≤id)), ?_,by simp only [List.length_map,List.length_take];omega,by rw [hy2], ?_⟩
          · have:=hgh.trans hgd
            rw [hy] at this
            simpa using this
          · rw [← hn',map_kill,nocap_take];simp [norm]
    · cases he
theorem callN_ok {T:HT} (hT:HTOK P T) (hB:CallOK P G T.base):∀ n,CallOK P G (callN G T n)
  | 0=>fun f args hp av o' h=>by simp [callN] at h
  | n+1=>fun f args hp av o' h hp0 hh=>by
    subst hh
    rw [callN] at h
    cases hf:T.tab f with
    | none=>rw [hf] at h;exact hB f args _ av o' h hp0 rfl
    | some x=>rw [hf] at h;exact funE_ok hT (callN_ok hT hB n) hf h
theorem EV_qc {T:HT} (hT:HTOK P T) (hB:CallOK P G T.base) {f:FuncId} {args:List AV} {r:AV} (h:EV G T f args []=some (r,[])):QC P G f args r:=by
  obtain ⟨n,hn⟩:=lim_some h
  obtain ⟨_,hA⟩:=callN_ok hT hB n f args [] r [] hn [] rfl
  exact hA.gh (fun a o ⟨h1,h2⟩ _=>⟨a,o,Gh.refl,Nat.zero_le _,h1,by simpa using h2⟩)
end
end
end Go.Proofs.YtmmafhopnkkeeaaGreatDoor
