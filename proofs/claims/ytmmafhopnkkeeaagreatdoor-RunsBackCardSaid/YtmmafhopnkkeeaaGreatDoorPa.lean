/- A range over a function that keeps what is left in a cell of its own: the law of the statement. Conditions: as the theorem says. -/
import Derived.RangeFuncNested
import Derived.RangeFuncBound
import Derived.RangeFuncCalls
import Derived.RangeFuncLeaves
import Derived.RangeFuncBox
import Derived.Test.YtmmafhopnkkeeaaGreatDoorChecked
namespace Go.Proofs.YtmmafhopnkkeeaaGreatDoor
set_option linter.unusedSimpArgs false
set_option linter.unusedVariables false
open Go.RowKit
def Stays (h b:Nat) (p:World→Prop):Prop:=∀ X Y row,p X→X.grownBy Y row→(∀ r,row=some r→r=b∨h≤r∧∃ o:Obj,X.heap[r]?=some o∧o.isCells=false)→p Y
theorem Stays.put {h b:Nat} {p:World→Prop} (q:Stays h b p) {X:World} {l:Nat} {o:Obj} (o':Obj) (hp:p X) (hl:h≤l) (hx:X.heap[l]?=some o) (ho:o.isCells=false):p (X.putObj l o'):=
 q X _ (some l) hp (grownBy_putObj' X l o') (fun r e=>by cases e;exact .inr ⟨hl,o,hx,ho⟩)
theorem Stays.new {h b:Nat} {p:World→Prop} (q:Stays h b p) {X:World} (o:Obj) (hp:p X):p (X.alloc o):=q X _ none hp (World.grownBy_alloc X o none) (fun r e=>by cases e)
theorem Stays.and {h b:Nat} {p q:World→Prop} (hp:Stays h b p) (hq:Stays h b q):Stays h b (fun W=>p W∧q W):=fun X Y row hs hg hr=>⟨hp X Y row hs.1 hg hr,hq X Y row hs.2 hg hr⟩
section
variable {F:Fence} {n:Nat} {P:Program}
def CellSeq (F:Fence) (n:Nat) (P:Program) (g:Nat) (lb:Array Value) (b:Nat) (Kp:World→World→Prop) (xs:List ByteArray) (w:World):Prop:=
 ∀ (l:Nat) (J:List ByteArray→World→Prop) (Jx:World→Prop) (W:World),Below w.heap.size w W→
  (∀ s X Y row,J s X→X.grownBy Y row→(∀ r,row=some r→r=b)→J s Y)→(∀ X Y row,Jx X→X.grownBy Y row→(∀ r,row=some r→r=b)→Jx Y)→
  (∀ pre x rest V,xs=pre++x::rest→J pre V→YieldAt F (n - 1) P l #[.string x] V fun e V'=>(e=.returned (.bool true)∧J (pre++[x]) V'∧Kp V V')∨(e=.returned (.bool false)∧Jx V'))→
  J [] W→CallsIn F n P g (#[.func (.yield l) #[] #[]]++lb) W fun e V=>(∃ v,e=.returned v)∧(J xs V∨Jx V)
def roundEnd (h:Nat) (Kp:World→World→Prop) (I:List ByteArray→World→Prop) (Ix:Code→World→Prop) (xs:List ByteArray) (W:World):Exit→Act→World→Prop
 | .normal,_,V=>KeepsFrom h W V∧Kp W V∧I xs V
 | .ret,_,V=>KeepsFrom h W V∧Ix .ret V
 | .exit id,_,V=>KeepsFrom h W V∧Ix (.exit id) V
 | _,_,_=>False
abbrev coll (D:Nat) (a:Act):Act:={ a with defers:={ target:=.collected D,args:=#[] }::a.defers }
theorem range_cell {g:Operand} {ps:Array Tmp} {assign body:Code} {Q:Exit→Act→World→Prop} {a:Act} {w:World} (hro:F.round=none) (h1:1≤n) {gf:Nat} {lb:Array Value}
  (hg:a.eval g=.func (.func gf) #[] lb) (hF:F.fn gf) (eg:∀ args w,(callFunc gf args).run P w=.ok (.enter gf args) w) {b:Nat} {Kp:World→World→Prop} {xs:List ByteArray} (hseq:CellSeq F (n - 1) P gf lb b Kp xs w) (hb:b < w.heap.size)
  (hKt:∀ {A B C:World},Kp A B→Kp B C→Kp A C) (hKb:∀ (W:World) (l:Nat) (o':Obj),w.heap.size≤l→Kp W (W.putObj l o')) (hps:ps.size=1)
  (I:List ByteArray→World→Prop) (Ix:Code→World→Prop) (hI:∀ s,Stays w.heap.size b (I s)) (hIx:∀ c,Stays w.heap.size b (Ix c)) (h0:I [] w) (a₁:ByteArray→Act)
  (hassign:∀ (l:Nat) (x:ByteArray) (W:World) (K:Act→World→Prop),K (a₁ x) W→assign.wpIn (F.inRound l) (n - 1 - 1) P (Exit.then K (fun _ _ _=>False)) { tmps:=(ps.zip #[Value.string x]).foldl (fun t (p,v)=>t.setIfInBounds p v) a.tmps,defers:=[] } W)
  (hbody:∀ (l:Nat) (pre:List ByteArray) (x:ByteArray) (rest:List ByteArray) (W:World),xs=pre++x::rest→I pre W→w.heap.size+1 < W.heap.size→body.wpIn (F.inRound l) (n - 1 - 1) P (roundEnd w.heap.size Kp I Ix (pre++[x]) W) (a₁ x) W)
  (hdone:∀ (D:Nat) (W:World),w.heap.size≤D→I xs W→W.heap[D]?=some (.deferred (some []))→Q .normal (coll D a) W)
  (hstop:∀ (D:Nat) (c:Code) (W:World),w.heap.size≤D→Ix c W→W.heap[D]?=some (.deferred (some []))→c.wpIn F n P Q (coll D a) W):
  (Code.rangeFunc g ps assign body).wpIn F n P Q a w:=by
 refine wpIn_rangeFunc fun fn hfn=>?_
 rw [hro]
 obtain ⟨rc,hrc⟩:∃ rc:LoopState→Option Code→Loop,rc=fun st pe=>⟨st,pe,fn,a.tmps,ps,assign,body,w.heap.size⟩:=⟨_,rfl⟩
 obtain ⟨A,hA⟩:∃ A,(w.alloc (.deferred (some []))).alloc (.loop (rc .ready none))=A:=⟨_,rfl⟩
 have hAz:A.heap.size=w.heap.size+2:=by rw [← hA];simp
 have hL:A.heap[w.heap.size+1]?=some (.loop (rc .ready none)):=by
  rw [← hA]
  have:=World.alloc_heap_new (w.alloc (.deferred (some []))) (.loop (rc .ready none))
  rwa [World.size_alloc] at this
 have hK:A.heap[w.heap.size]?=some (.deferred (some [])):=by
  rw [← hA]
  exact (Below.heap_alloc _ _ _ (by simp)).trans (World.alloc_heap_new w _)
 have hBA:Below w.heap.size w A:=by rw [← hA];exact ((Below.refl _ w).alloc (Nat.le_refl _) _).alloc (by simp) _
 have hIA:I [] A:=by rw [← hA];exact (hI []).new _ ((hI []).new _ h0)
 refine ⟨w.heap.size+1,[{ target:=.collected w.heap.size,args:=#[] }],A,{ target:=.fn (.func gf) lb,args:=#[.func (.yield (w.heap.size+1)) #[] #[]] },A,gf,#[.func (.yield (w.heap.size+1)) #[] #[]]++lb,A, ?_, ?_, ?_, ?_,fun _=>h1, ?_⟩
 ·rw [← hA,hrc];exact run_enterLoop_outer _ _ _ _ _
 ·simp only [resolve,hg]
  simp [go_sem]
 ·intro f' hf'
  simp [Target.leads] at hf'
  subst hf';exact hF
 ·simp [invoke,go_sem,eg]
 have keep:∀ {X Y:World} {row:Option Nat} {k:Nat} {o:Obj},X.heap[k]?=some o→X.grownBy Y row→(∀ r,row=some r→r=b)→w.heap.size≤k→Y.heap[k]?=some o:=fun hx hg hr hk=>
  (hg.block _ (Array.getElem?_eq_some_iff.1 hx).1 (fun e=>by have:=hr _ e.symm;omega)).trans hx
 refine (hseq (w.heap.size+1) (fun s W=>I s W∧W.heap[w.heap.size+1]?=some (.loop (rc .ready none))∧W.heap[w.heap.size]?=some (.deferred (some [])))
  (fun W=>∃ c,Ix c W∧W.heap[w.heap.size+1]?=some (.loop (rc .done (some c)))∧W.heap[w.heap.size]?=some (.deferred (some []))) A hBA
  (fun s X Y row hs hg hr=>⟨hI s X Y row hs.1 hg (fun r e=>.inl (hr r e)),keep hs.2.1 hg hr (by omega),keep hs.2.2 hg hr (Nat.le_refl _)⟩)
  (fun X Y row hs hg hr=>by
   obtain ⟨c,hc,hl,hk⟩:=hs
   exact ⟨c,hIx c X Y row hc hg (fun r e=>.inl (hr r e)),keep hl hg hr (by omega),keep hk hg hr (Nat.le_refl _)⟩) ?_ ⟨hIA,hL,hK⟩).mono ?_
 ·rintro pre x rest W hx ⟨hi,hl,hk⟩
  have hlt:w.heap.size+1 < W.heap.size:=(Array.getElem?_eq_some_iff.1 hl).1
  have hy:=run_yield (P:=P) (args:=#[Value.string x]) hl (by rw [hrc];exact hps.symm)
  rw [hrc] at hy
  refine ⟨fn,_,assign,body,hy,roundIn_of_wpIn hfn (hassign _ x W _ ⟨_,run_beginRound hl (by rw [hrc]), ?_⟩)⟩
  have e2:rc .busy none={ rc .ready none with state:=.busy }:=by rw [hrc]
  have hl2:(W.putObj (w.heap.size+1) (.loop { rc .ready none with state:=.busy })).heap[w.heap.size+1]?=some (.loop (rc .busy none)):=by rw [e2];exact World.putObj_heap_same hlt
  have hk2:(W.putObj (w.heap.size+1) (.loop { rc .ready none with state:=.busy })).heap[w.heap.size]?=some (.deferred (some [])):=(World.putObj_heap_other (by omega)).trans hk
  have hK2:Kp W (W.putObj (w.heap.size+1) (.loop { rc .ready none with state:=.busy })):=hKb _ _ _ (by omega)
  have hi2:I pre (W.putObj (w.heap.size+1) (.loop { rc .ready none with state:=.busy })):=(hI pre).put _ hi (by omega) hl rfl
  generalize W.putObj (w.heap.size+1) (.loop { rc .ready none with state:=.busy })=V at *
  refine wpIn_mono (hbody _ pre x rest V hx hi2 (Array.getElem?_eq_some_iff.1 hl2).1) ?_
  have fin:∀ (jump:Option Code) (Z:World),KeepsFrom w.heap.size V Z→(Instr.endRound (w.heap.size+1) jump).run P Z=.ok (.bool jump.isNone) (Z.putObj (w.heap.size+1) (.loop (rc (if jump.isNone then .ready else .done) jump)))∧
    Z.heap[w.heap.size+1]?=some (.loop (rc .busy none))∧(Z.putObj (w.heap.size+1) (.loop (rc (if jump.isNone then .ready else .done) jump))).heap[w.heap.size+1]?=some (.loop (rc (if jump.isNone then .ready else .done) jump))∧
    (Z.putObj (w.heap.size+1) (.loop (rc (if jump.isNone then .ready else .done) jump))).heap[w.heap.size]?=some (.deferred (some [])):=fun jump Z hz=>by
   have h3:=hz.same _ _ (by omega) hl2 rfl
   have:=run_endRound (P:=P) jump h3
   rw [hrc] at this ⊢
   rw [hrc] at h3
   exact ⟨this,h3,World.putObj_heap_same (Array.getElem?_eq_some_iff.1 h3).1,(World.putObj_heap_other (by omega)).trans (hz.same _ _ (Nat.le_refl _) hk2 rfl)⟩
  rintro e a3 Z hp
  cases e with
  | normal=>
   obtain ⟨q1,q2,q3⟩:=hp
   obtain ⟨r1,r2,r3,r4⟩:=fin none Z q1
   exact ⟨_,_,r1,.inl ⟨rfl,⟨(hI _).put _ q3 (by omega) r2 rfl,r3,r4⟩,hKt (hKt hK2 q2) (hKb _ _ _ (by omega))⟩⟩
  | ret=>
   obtain ⟨r1,r2,r3,r4⟩:=fin (some .ret) Z hp.1
   exact ⟨_,_,r1,.inr ⟨rfl,.ret,(hIx _).put _ hp.2 (by omega) r2 rfl,r3,r4⟩⟩
  | exit id=>
   obtain ⟨r1,r2,r3,r4⟩:=fin (some (.exit id)) Z hp.1
   exact ⟨_,_,r1,.inr ⟨rfl,.exit id,(hIx _).put _ hp.2 (by omega) r2 rfl,r3,r4⟩⟩
  | goto t=>exact hp.elim
  | panic ch=>exact hp.elim
  | outgrown=>exact hp.elim
 ·rintro e Z ⟨⟨v,rfl⟩,⟨hi,hl,hk⟩ | ⟨c,hi,hl,hk⟩⟩
  ·exact ⟨none,_,by have:=run_endLoop (P:=P) hl (by rw [hrc];simp);rw [hrc] at this;exact this,hdone _ _ (Nat.le_refl _) ((hI _).put _ hi (by omega) hl rfl) ((World.putObj_heap_other (by omega)).trans hk)⟩
  ·exact ⟨some c,_,by have:=run_endLoop (P:=P) hl (by rw [hrc];simp);rw [hrc] at this;exact this,hstop _ c _ (Nat.le_refl _) ((hIx c).put _ hi (by omega) hl rfl) ((World.putObj_heap_other (by omega)).trans hk)⟩
end
end Go.Proofs.YtmmafhopnkkeeaaGreatDoor
