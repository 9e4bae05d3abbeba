/- ParseRuns by the kit's walk, and as a contract over data. Conditions: as each theorem says. -/
import Derived.Test.YtmmafhopnkkeeaaGreatDoorPc
import Derived.Test.YtmmafhopnkkeeaaGreatDoorPd
import Derived.Laws.Tables
namespace Go.Proofs.YtmmafhopnkkeeaaGreatDoor
set_option linter.unusedSimpArgs false
set_option linter.unusedVariables false
open Go.RowKit Go.Shelf
attribute [local go_sem] Oper.semAt_some
set_option maxHeartbeats 1000000 in
theorem split_c (a b:ByteArray) (V:World):Calls Tryz.prog 31 #[.string a,.string b] V fun e W=>e=.returned (.func (.func 110) #[] #[.pointer (some ⟨V.heap.size+1,0,none⟩),.pointer (some ⟨V.heap.size,0,none⟩),.pointer (some ⟨V.heap.size+2,0,none⟩)])∧
    W=((V.alloc (.cells #[.string a] 9)).alloc (.cells #[.string b] 9)).alloc (.cells #[.int .i64 0] 3):=by
  have key:Calls Tryz.prog 74 #[.string a,.string b,.int .i64 0] V fun e W=>e=.returned (.func (.func 110) #[] #[.pointer (some ⟨V.heap.size+1,0,none⟩),.pointer (some ⟨V.heap.size,0,none⟩),.pointer (some ⟨V.heap.size+2,0,none⟩)])∧
      W=((V.alloc (.cells #[.string a] 9)).alloc (.cells #[.string b] 9)).alloc (.cells #[.int .i64 0] 3):=by
    go_enter Tryz.func74,Tryz.ntmps74
    go_wp2
    go_ret
    exact ⟨rfl,rfl⟩
  go_enter Tryz.func31,Tryz.ntmps31
  go_wp2_with (go_at_call 74;refine key.mono ?_;rintro e w' ⟨rfl,rfl⟩)
  go_ret
  exact ⟨rfl,rfl⟩
theorem run_info:(Tryz.prog.info? 57).map (fun i=>(i.zero,i.size,i.bytes))=some (some (.agg #[.int .i64 0,.int .i64 0]),2,16):=by kernel_rfl
theorem run_bld (x y:Int) (V:World):(Instr.build 57 #[(0,.int .i64 x),(1,.int .i64 y)]).run Tryz.prog V=.ok (.agg #[.int .i64 x,.int .i64 y]) V:=run_build V _ _ _ (by kernel_rfl)
theorem wpIn_bld {F:Fence} {n:Nat} {o:Oper} {a:Act} {w:World} {K:Act→World→Prop} {Q:Exit→Act→World→Prop} (x y:Operand) (ho:o.op=.build 57 #[(0,x),(1,y)]) (i j:Int) (hx:a.eval x=.int .i64 i) (hy:a.eval y=.int .i64 j)
    (h:K (a.put o.dst (.agg #[.int .i64 i,.int .i64 j])) w):Oper.wpIn F n Tryz.prog o a w K Q:=by
  unfold Oper.wpIn
  refine ⟨by simp [Oper.about,ho], ?_⟩
  rw [Oper.semAt_plain F _ _ (by rw [ho];intro c hc';cases hc')]
  simp [execOp,ho,hx,hy,run_bld,Result.andThen]
  exact h
theorem run_bsl (x y:Int) (V:World):(Instr.buildSlice 22 1 #[(0,.agg #[.int .i64 x,.int .i64 y])]).run Tryz.prog V=.ok (.slice (some ⟨V.heap.size,0,none⟩) 1 1) (V.alloc (.cells #[.int .i64 x,.int .i64 y] 57)):=by
  kernel_rfl
theorem wpIn_bsl {F:Fence} {n:Nat} {o:Oper} {a:Act} {w:World} {K:Act→World→Prop} {Q:Exit→Act→World→Prop} (x:Operand) (ho:o.op=.buildSlice 22 1 #[(0,x)]) (i j:Int) (hx:a.eval x=.agg #[.int .i64 i,.int .i64 j])
    (h:K (a.put o.dst (.slice (some ⟨w.heap.size,0,none⟩) 1 1)) (w.alloc (.cells #[.int .i64 i,.int .i64 j] 57))):Oper.wpIn F n Tryz.prog o a w K Q:=by
  unfold Oper.wpIn
  refine ⟨by simp [Oper.about,ho], ?_⟩
  rw [Oper.semAt_plain F _ _ (by rw [ho];intro c hc';cases hc')]
  simp [execOp,ho,hx,run_bsl,Result.andThen]
  exact h
theorem run_bs2 (A:Option Addr) (k c:Nat) (V:World):(Instr.buildSlice 116 1 #[(0,.slice A k c)]).run Tryz.prog V=.ok (.slice (some ⟨V.heap.size,0,none⟩) 1 1) (V.alloc (.cells #[.slice A k c] 22)):=by
  kernel_rfl
theorem wpIn_bs2 {F:Fence} {n:Nat} {o:Oper} {a:Act} {w:World} {K:Act→World→Prop} {Q:Exit→Act→World→Prop} (x:Operand) (ho:o.op=.buildSlice 116 1 #[(0,x)]) (A:Option Addr) (k c:Nat) (hx:a.eval x=.slice A k c)
    (h:K (a.put o.dst (.slice (some ⟨w.heap.size,0,none⟩) 1 1)) (w.alloc (.cells #[.slice A k c] 22))):Oper.wpIn F n Tryz.prog o a w K Q:=by
  unfold Oper.wpIn
  refine ⟨by simp [Oper.about,ho], ?_⟩
  rw [Oper.semAt_plain F _ _ (by rw [ho];intro c hc';cases hc')]
  simp [execOp,ho,hx,run_bs2,Result.andThen]
  exact h
structure PSt (w:World) (s:List Int) (l:List Run) (W:World):Prop where
  out:∃ v,Boxed W (w.heap.size+1+1+1) 22 v∧W.ownsRow (w.heap.size+7) 57 2 v l.length (valR l)
  str:Boxed W w.heap.size 9 (.string (str s))
  r1:Boxed W (w.heap.size+1) 22 (.slice none 0 0)
  r2:Boxed W (w.heap.size+1+1) 25 (.int .i64 0)
  low:Below w.heap.size w W
theorem box_new (W:World) (t:TypeId) (v:Value) {k:Nat} (h:W.heap.size=k):Boxed (W.alloc (.cells #[v] t)) k t v:=by subst h;exact Boxed.new W t v
theorem Kps.t {h b:Nat} {A B C:World} (x:Kps h b A B) (y:Kps h b B C):Kps h b A C:=fun k hk=>(y k hk).trans (x k hk)
theorem PSt.stays {w:World} {s:List Int} {l:List Run} {h b:Nat} (hh:w.heap.size≤h) (hb:w.heap.size+1+1+1 < b) (hbh:b < w.heap.size+7):Stays h b (PSt w s l):=by
  rintro X Y row ⟨⟨v,o1,o2⟩,s1,s2,s3,s4⟩ hg hr
  have kp:∀ {k:Nat} {t:TypeId} {v:Value},Boxed X k t v→k < b→Boxed Y k t v:=fun hx hk=>hx.kept hg (fun e=>by
    rcases hr _ e.symm with rfl | ⟨_,o,ho,hc⟩
    · omega
    · rw [show X.heap[_]?=_ from hx] at ho;cases ho;cases hc)
  refine ⟨⟨v,kp o1 (by omega),o2.kept hg ?_⟩,kp s1 (by omega),kp s2 (by omega),kp s3 (by omega),s4.grown hg s4.size (fun k e=>?_)⟩
  · rcases o2.2 with ⟨rfl,_⟩ | ⟨g,cap,cur,rfl,hgl,hgb,_⟩
    · exact .inl rfl
    · refine .inr fun e=>?_
      rcases hr g (by simpa [Value.ownBlock] using e.symm) with rfl | ⟨_,o,ho,hc⟩
      · omega
      · rw [hgb] at ho;cases ho;cases hc
  · rcases hr k e with rfl | ⟨h1,_⟩<;>omega
theorem nb1:∀ {b:Bool},(!b)=false→b=true:=by decide
theorem nb2:∀ {b:Bool},¬ b=true→b=false:=by decide
theorem nb0:∀ {b:Bool},(!b)=true→b=false:=by decide
theorem own_le {W:World} {b b':Nat} {e:TypeId} {z:Nat} {v:Value} {k:Nat} {xs:List Value} (h:W.ownsRow b e z v k xs) (hb:b'≤b):W.ownsRow b' e z v k xs:=by
  refine ⟨h.1, ?_⟩
  rcases h.2 with h | ⟨g,cap,cur,h1,h2,h3⟩
  · exact .inl h
  · exact .inr ⟨g,cap,cur,h1,by omega,h3⟩
theorem gb {V W:World} (h:Below V.heap.size V W):V.grownBy W none:=⟨h.os,h.tape,h.output,h.size,fun k hk _=>h.block k hk⟩
theorem natP_t {l:List Int} (h:natB 4 l=true):natP (str l)=(valL 0 l,true):=by
  obtain ⟨c,hl⟩:=natB_iff.1 h
  obtain ⟨h1,h2,h3⟩:=natB_val h (by omega)
  unfold natP
  rw [str_data,atoi_u8 c.ne c.d (by omega)]
  simp only
  rw [decide_eq_true h1,str_size,decide_eq_true (by omega:((l.length:Nat):Int)≤4),Lib.toList_data,str_data,itoa_u8,h3]
  simp
theorem natP_f {l:List Int} (hB:Byts l) (h:natB 4 l=false):(natP (str l)).2=false:=by
  unfold natP
  rcases Lib.atoiAll (str l).data.toList with v | _ | _
  · simp only
    cases hb:(decide (0≤v)&&decide (((str l).size:Int)≤4)&&(Lib.itoa v==(str l).toList)) with
    | false=>rfl
    | true=>
      rw [Bool.and_eq_true,Bool.and_eq_true,decide_eq_true_eq,decide_eq_true_eq,beq_iff_eq,Lib.toList_data,str_data,itoa_u8,str_size] at hb
      obtain ⟨⟨h1,h2⟩,h3⟩:=hb
      have e:str (dcI v)=str l:=by unfold str;rw [h3]
      rw [str_inj (dcI_byts v) hB] at e
      have:=(dcI_nat h1 4 (by rw [e];omega)).1
      rw [e,h] at this
      cases this
  · rfl
  · rfl
theorem prtB_s (s:List Int) (hs:Byts s):prtB (str s)=(spl 32 s).map str:=by
  unfold prtB
  rw [str_data]
  have:=spl_map u8 32 s (u8_inj (by omega) hs)
  rw [show u8 32=32 from rfl] at this
  rw [this,List.map_map]
  rfl
theorem cutp_c (p:List Int) (hp:Byts p) (hl:p.length≤1000000) (m:Int) (V:World) (hm:V.cell? ⟨0,0,none⟩=some (.int .i64 m)):
    Calls Tryz.prog 32 #[.string (str p),.string ⟨#[43]⟩] V fun e W=>e=.returned (.tuple #[.string (str (ctI 43 p).1),.string (str (ctI 43 p).2.1),.bool (ctI 43 p).2.2])∧Below V.heap.size V W:=by
  refine (Tryz.strings_Cut (str p) ⟨#[43]⟩ m V (by rw [str_size];omega) hm).mono ?_
  rintro e w' ⟨rfl,n,rfl⟩
  have hb:Below V.heap.size V (V.drewN n):=by
    have:=Lib.below_grow V.heap.size V (Nat.le_refl _) n #[]
    exact ⟨this.os,this.tape,this.output,Nat.le_refl _,fun _ _=>rfl⟩
  have hc:=cut_s (c:=43) (by omega) hp
  rw [show str [43]=⟨#[43]⟩ from rfl] at hc
  rw [hc]
  exact ⟨rfl,hb⟩
theorem ctI_byts {s:List Int} (h:Byts s):Byts (ctI 43 s).1∧Byts (ctI 43 s).2.1:=by
  rcases ctI_cases 43 s with ⟨_,e⟩ | ⟨a,b,e,_,e2⟩
  · rw [e];exact ⟨h,fun b hb=>by cases hb⟩
  · rw [e2];subst e
    exact ⟨fun b hb=>h b (List.mem_append_left _ hb),fun b hb=>h b (List.mem_append_right _ (List.mem_cons_of_mem _ hb))⟩
theorem ctI_len (s:List Int):(ctI 43 s).1.length≤s.length∧(ctI 43 s).2.1.length≤s.length:=by
  rcases ctI_cases 43 s with ⟨_,e⟩ | ⟨a,b,e,_,e2⟩
  · rw [e];simp
  · rw [e2];subst e;simp;omega
theorem spl_sub (c:Int):∀ (s:List Int) (p:List Int),p∈spl c s→(∀ x∈p,x∈s)∧p.length≤s.length
  | [],p,h=>by
    rw [spl,List.mem_singleton] at h
    subst h;simp
  | y::s,p,h=>by
    rw [spl] at h
    split at h
    · rcases List.mem_cons.1 h with rfl | h
      · simp
      · obtain ⟨h1,h2⟩:=spl_sub c s p h
        exact ⟨fun x hx=>List.mem_cons_of_mem _ (h1 x hx),by simp;omega⟩
    · cases hq:spl c s with
      | nil=>exact absurd hq (spl_ne c s)
      | cons q qs=>
        rw [hq] at h
        rcases List.mem_cons.1 h with rfl | h
        · obtain ⟨h1,h2⟩:=spl_sub c s q (by rw [hq];exact List.mem_cons_self)
          exact ⟨fun x hx=>by
            rcases List.mem_cons.1 hx with rfl | hx
            · exact List.mem_cons_self
            · exact List.mem_cons_of_mem _ (h1 x hx),by simp;omega⟩
        · obtain ⟨h1,h2⟩:=spl_sub c s p (by rw [hq];exact List.mem_cons_of_mem _ h)
          exact ⟨fun x hx=>List.mem_cons_of_mem _ (h1 x hx),by simp;omega⟩
theorem spl_len (c:Int):∀ s:List Int,(spl c s).length≤s.length+1
  | []=>by simp [spl]
  | y::s=>by
    have:=spl_len c s
    rw [spl]
    split
    · simp;omega
    · cases hq:spl c s with
      | nil=>simp [cnsH]
      | cons q qs=>rw [hq] at this;simp [cnsH] at this ⊢;omega
theorem cell_two_new (w:World) (x y:Value) (t:TypeId):∀ j u,[x,y][j]?=some u→(w.alloc (.cells #[x,y] t)).cell? ((⟨w.heap.size,0,none⟩:Addr).add j)=some u:=by
  intro j u h
  have hn:=World.alloc_heap_new w (.cells #[x,y] t)
  match j,h with
  | 0,h=>
    have e:((⟨w.heap.size,0,none⟩:Addr).add 0)=⟨w.heap.size,0,none⟩:=rfl
    rw [e]
    unfold World.cell?
    simp only [hn]
    simpa using h
  | 1,h=>
    have e:((⟨w.heap.size,0,none⟩:Addr).add 1)=⟨w.heap.size,1,none⟩:=rfl
    rw [e]
    unfold World.cell?
    simp only [hn]
    simpa using h
  | j+2,h=>simp at h
theorem row_below {W V:World} {b:Nat} {e:TypeId} {z:Nat} {v:Value} {k:Nat} {xs:List Value} (h:W.ownsRow b e z v k xs) (hb:Below W.heap.size W V):V.ownsRow b e z v k xs:=by
  refine h.kept (gb hb) ?_
  rcases h.2 with ⟨rfl,_⟩ | ⟨g,cap,cur,rfl,_⟩
  · exact .inl rfl
  · exact .inr (by simp [Value.ownBlock])
theorem app_fin {W V:World} {b:Nat} {e:TypeId} {z:Nat} {v:Value} {k:Nat} {xs:List Value} {tmp:Obj} (h:W.ownsRow b e z v k xs) (hg:(W.alloc tmp).grownBy V v.ownBlock) (hb:b≤W.heap.size) (B:Nat) (u:Value) (j:Nat) (hj:j < b) (hB:j≠B):(V.setCell ⟨B,0,none⟩ u).heap[j]?=W.heap[j]?:=by
  rw [Below.heap_setCell _ _ _ j hB,hg.block j (by simp;omega) ?_,Below.heap_alloc W tmp j (by omega)]
  rcases h.2 with ⟨rfl,_⟩ | ⟨g,cap,cur,rfl,h1,_⟩
  · simp [Value.ownBlock]
  · simp only [Value.ownBlock,ne_eq,Option.some.injEq];omega
theorem own_alloc {W:World} {b:Nat} {e:TypeId} {z:Nat} {v:Value} {k:Nat} {xs:List Value} (h:W.ownsRow b e z v k xs) (o:Obj):(W.alloc o).ownsRow b e z v k xs:=row_below h ((Below.refl _ W).alloc (Nat.le_refl _) o)
theorem row_ne {W:World} {b:Nat} {e:TypeId} {z:Nat} {v:Value} {n:Nat} {xs:List Value} (h:W.ownsRow b e z v n xs) {j:Nat} (hj:j < b):v.ownBlock=none∨v.ownBlock≠some j:=by
  rcases h.2 with ⟨rfl,_⟩ | ⟨g,cap,cur,rfl,h1,_⟩
  · exact .inl rfl
  · refine .inr ?_
    simp only [Value.ownBlock,ne_eq,Option.some.injEq]
    omega
theorem fin_two {w W:World} {D k:Nat} {t1 t2:TypeId} {u1 u2:Value} (U E:Value) (q1:Boxed W k t1 u1) (q2:Boxed W (k+1) t2 u2) (hD:k+1 < D) (hK:W.heap[D]?=some (.deferred (some []))) (hk:w.heap.size≤k) (lo:Below w.heap.size w W):
    ((W.setCell ⟨k,0,none⟩ U).setCell ⟨k+1,0,none⟩ E).heap[D]?=some (.deferred (some []))∧Boxed (((W.setCell ⟨k,0,none⟩ U).setCell ⟨k+1,0,none⟩ E).putObj D (.deferred none)) k t1 U∧Boxed (((W.setCell ⟨k,0,none⟩ U).setCell ⟨k+1,0,none⟩ E).putObj D (.deferred none)) (k+1) t2 E∧
      Below w.heap.size w (((W.setCell ⟨k,0,none⟩ U).setCell ⟨k+1,0,none⟩ E).putObj D (.deferred none))∧∀ {b:Nat} {e:TypeId} {z:Nat} {v:Value} {n:Nat} {xs:List Value},W.ownsRow b e z v n xs→k+1 < b→(((W.setCell ⟨k,0,none⟩ U).setCell ⟨k+1,0,none⟩ E).putObj D (.deferred none)).ownsRow b e z v n xs:=by
  have hK1:=((KeepsOthers.setCell W ⟨k,0,none⟩ U).trans (KeepsOthers.setCell _ ⟨k+1,0,none⟩ E)).same D _ hK rfl
  have g:=grownBy_putObj' ((W.setCell ⟨k,0,none⟩ U).setCell ⟨k+1,0,none⟩ E) D (.deferred none)
  have a1:Boxed ((W.setCell ⟨k,0,none⟩ U).setCell ⟨k+1,0,none⟩ E) k t1 U:=box_heap (q1.set U) (Below.heap_setCell _ _ _ _ (by simp))
  have a2:Boxed ((W.setCell ⟨k,0,none⟩ U).setCell ⟨k+1,0,none⟩ E) (k+1) t2 E:=(box_heap q2 (Below.heap_setCell _ _ _ _ (by simp))).set E
  refine ⟨hK1,a1.kept g (fun e=>by cases e;omega),a2.kept g (fun e=>by cases e;omega), ?_,fun h hb=>?_⟩
  · exact ((lo.setCell (p:=⟨k,0,none⟩) hk U).setCell (p:=⟨k+1,0,none⟩) (by simp only;omega) E).trans (belowK_b (w:=w) (Nat.le_refl _) _ D _ _ (by omega) hK1 rfl rfl)
  · exact ownsRow_putObj ((h.kept (grownBy_setCell' W k U) (row_ne h (by omega))).kept (grownBy_setCell' _ (k+1) E) (row_ne h hb)) _ hK1 rfl
def PI (w:World) (s:List Int) (pre:List ByteArray) (W:World):Prop:=∃ L R l,spl 32 s=L++R∧pre=L.map str∧psL L=some l∧(s=[]→L=[])∧PSt w s l W
def PX (w:World) (s:List Int) (c:Code) (W:World):Prop:=(c=.ret∧psL (prt s)=none∧Boxed W (w.heap.size+1) 22 (.slice none 0 0)∧Boxed W (w.heap.size+1+1) 25 (.int .i64 7)∧Below w.heap.size w W)∨(c=.exit 0∧s=[]∧PSt w s [] W)
set_option maxRecDepth 100000 in
set_option maxHeartbeats 4000000 in
theorem prs_calls (s:List Int) (hs:Byts s) (w:World) (htab:Lib.TabIs Tryz.prog w "internal/strconv.uint64pow10" .u64 Lib.pow10Tab) {t1 t2:TypeId} {p1 p2:Value} (h1:w.cell? ⟨2,0,none⟩=some (.iface t1 p1)) (h2:w.cell? ⟨3,0,none⟩=some (.iface t2 p2))
    {m:Int} (hm:w.cell? ⟨0,0,none⟩=some (.int .i64 m)):
    Calls Tryz.prog 8 #[.string (str s)] w fun e W=>∃ v,e=.returned (.tuple #[v,.int .i64 (psR s).2])∧W.ownsRow w.heap.size 57 2 v (psR s).1.length (valR (psR s).1)∧Below w.heap.size w W:=by
  refine (callsIn_wide (n:=9)).1 ?_
  refine callsIn_of_wp_marks Tryz.func8 rfl trivial ?_ rfl
  obtain ⟨i0,hi,hz0,hz1,hz2⟩:=info_parts run_info
  simp only [Tryz.ntmps8,List.size_toArray,List.length_cons,List.length_nil,Nat.reduceAdd,Nat.reduceSub,Array.replicate_succ,Array.replicate_zero,List.push_toArray,List.append_toArray,List.nil_append,List.cons_append]
  have sz:((str s).size:Int)=s.length:=by rw [str_size]
  by_cases hl:200000 < s.length
  · have e:psR s=([],8):=by unfold psR;rw [if_pos hl]
    rw [e]
    have hl':((str s).size:Int) > 200000:=by omega
    gi_wp2
    refine ⟨.tuple #[.slice none 0 0,.int .i64 8], ?_,_,rfl,World.ownsRow_nil _ _ _ _, ?_⟩
    · simp [results,Tryz.f8,go_sem]
    · exact (((Below.refl _ w).alloc (Nat.le_refl _) _).alloc (by simp) _).alloc (by simp;omega) _
  · have hl':¬ ((str s).size:Int) > 200000:=by omega
    gi_wp2_with (refine ⟨trivial, ?_⟩;gi_at_call 31;refine (callsIn_wide.2 (split_c _ _ _)).mono ?_;rintro e w' ⟨rfl,hw'⟩)
    rw [← hw']
    have hz:w'.heap.size=w.heap.size+7:=by rw [hw'];simp
    have hlow:Below w.heap.size w w':=by
      rw [hw']
      exact ((((((((Below.refl _ w).alloc (Nat.le_refl _) _).alloc (by simp) _).alloc (by simp;omega) _).alloc (by simp;omega) _).alloc (by simp;omega) _).alloc (by simp;omega) _).alloc (by simp;omega) _)
    have k0:Boxed w' w.heap.size 9 (.string (str s)):=by
      rw [hw'];exact ((((((box_new w 9 _ rfl).alloc _).alloc _).alloc _).alloc _).alloc _).alloc _
    have k1:Boxed w' (w.heap.size+1) 22 (.slice none 0 0):=by
      rw [hw'];exact (((((box_new _ 22 _ (by simp)).alloc _).alloc _).alloc _).alloc _).alloc _
    have k2:Boxed w' (w.heap.size+1+1) 25 (.int .i64 0):=by
      rw [hw'];exact ((((box_new _ 25 _ (by simp)).alloc _).alloc _).alloc _).alloc _
    have k3:Boxed w' (w.heap.size+1+1+1) 22 (.slice none 0 0):=by
      rw [hw'];exact (((box_new _ 22 _ (by simp)).alloc _).alloc _).alloc _
    have k4:Boxed w' (w.heap.size+1+1+1+1) 9 (.string (str s)):=by
      rw [hw'];exact ((box_new _ 9 _ (by simp)).alloc _).alloc _
    have k5:Boxed w' (w.heap.size+1+1+1+1+1) 9 (.string ⟨#[32]⟩):=by
      rw [hw'];exact (box_new _ 9 _ (by simp)).alloc _
    have k6:Boxed w' (w.heap.size+1+1+1+1+2) 3 (.int .i64 0):=by
      rw [hw'];exact box_new _ 3 _ (by simp)
    have lt:∀ {g:Nat} {v:Value},w.cell? ⟨g,0,none⟩=some v→g < w.heap.size:=fun {g v} hc=>by
      unfold World.cell? at hc
      cases hw:w.heap[g]? with
      | none=>simp [hw] at hc
      | some o=>exact (Array.getElem?_eq_some_iff.1 hw).1
    have hm':w'.cell? ⟨0,0,none⟩=some (.int .i64 m):=(hlow.cell (p:=⟨0,0,none⟩) (lt hm)).trans hm
    clear hw'
    refine range_cell rfl (by omega) (gf:=110) rfl trivial (enters_of Tryz.func110 (by kernel_rfl) rfl) (split_iter _ w.heap.size (w.heap.size+1+1+1+1) (by omega) (str s) (by omega) m w' (by omega) k4 k5 k6 (lt hm) hm' (by omega) (fun r V hr hc=>Tryz.strings_Index r ⟨#[32]⟩ m V hr hc)) (by omega)
      (fun a b=>a.t b) (fun W l o' hl k hk=>World.putObj_heap_other (by omega)) rfl
      (PI w s) (PX w s)
      ?hI ?hIx ?h0 (fun x=>{ tmps:=#[.string (str s),.pointer (some ⟨w.heap.size,0,none⟩),.pointer (some ⟨w.heap.size+1,0,none⟩),.pointer (some ⟨w.heap.size+1+1,0,none⟩),.pointer (some ⟨w.heap.size+1+1+1,0,none⟩),.string x,undef,undef,undef,undef,undef,undef,undef,undef,.string (str s),.int .i64 s.length,.bool (decide ((200000:Int) < s.length)),.string (str s),.func (.func 110) #[] #[.pointer (some ⟨w.heap.size+1+1+1+1+1,0,none⟩),.pointer (some ⟨w.heap.size+1+1+1+1,0,none⟩),.pointer (some ⟨w.heap.size+1+1+1+1+2,0,none⟩)],.string x,undef,undef,undef,undef,undef,undef,undef,undef,undef,undef,undef,undef,undef,undef,undef,undef,undef,undef,undef,undef,undef,undef,undef,undef,undef,undef,undef,undef,undef,undef,undef,undef,undef,undef,undef,undef,undef,undef,undef,undef,undef,undef,undef],defers:=[] }) ?assign ?body ?done ?stop
    case hI=>
      rintro pre X Y row ⟨L,R,l,e1,e2,e3,e4,hS⟩ hg hr
      exact ⟨L,R,l,e1,e2,e3,e4,PSt.stays (h:=w'.heap.size) (b:=w.heap.size+1+1+1+1) (by omega) (by omega) (by omega) X Y row hS hg hr⟩
    case hIx=>
      rintro c X Y row hc hg hr
      rcases hc with ⟨e1,e2,e3,e4,e5⟩ | ⟨e1,e2,e3⟩
      · have kp:∀ {k:Nat} {t:TypeId} {v:Value},Boxed X k t v→k < w.heap.size+1+1+1→Boxed Y k t v:=fun hx hk=>hx.kept hg (fun e=>by
          rcases hr _ e.symm with rfl | ⟨_,o,ho,hc⟩
          · omega
          · rw [show X.heap[_]?=_ from hx] at ho;cases ho;cases hc)
        exact .inl ⟨e1,e2,kp e3 (by omega),kp e4 (by omega),e5.grown hg e5.size (fun k e=>by rcases hr k e with rfl | ⟨q,_⟩<;>omega)⟩
      · exact .inr ⟨e1,e2,PSt.stays (h:=w'.heap.size) (b:=w.heap.size+1+1+1+1) (by omega) (by omega) (by omega) X Y row e3 hg hr⟩
    case h0=>exact ⟨[],spl 32 s,[],rfl,rfl,rfl,fun _=>rfl,⟨_,k3,World.ownsRow_nil _ _ _ _⟩,k0,k1,k2,hlow⟩
    case assign=>
      intro l x W K hK
      gi_wp2
      exact hK
    case body=>
      rintro l pre x rest W hx ⟨L,R,lr,hR,rfl,hp,h0,hS⟩ hlt
      obtain ⟨⟨v,o1,o2⟩,s1,s2,s3,s4⟩:=hS
      have c0:=s1.cell
      by_cases he:s=[]
      · have hL:=h0 he
        subst hL
        have hlr:lr=[]:=by
          rw [show psL []=some [] from rfl] at hp
          injection hp with hp;exact hp.symm
        subst hlr
        subst he
        rw [← str_nil] at c0
        gi_wp2
        exact ⟨KeepsFrom.refl _ _,.inr ⟨rfl,rfl,⟨⟨_,o1,o2⟩,s1,s2,s3,s4⟩⟩⟩
      · rw [prtB_s s hs,hR,List.map_append] at hx
        have hx:=List.append_cancel_left hx
        obtain ⟨p,R',rfl,rfl,rfl⟩:∃ p R',R=p::R'∧x=str p∧rest=R'.map str:=by
          cases R with
          | nil=>cases hx
          | cons p R'=>simp only [List.map_cons,List.cons.injEq] at hx;exact ⟨p,R',rfl,hx.1.symm,hx.2.symm⟩
        obtain ⟨z1,z2⟩:=spl_sub 32 s p (by rw [hR];simp)
        have hpB:Byts p:=fun b hb=>hs b (z1 b hb)
        have hne:(str s).toList.isEmpty=false:=by
          rw [Lib.toList_data,str_data]
          cases s with
          | nil=>exact absurd rfl he
          | cons x s=>rfl
        have hC:=cutp_c p hpB (by omega)
        obtain ⟨cB1,cB2⟩:=ctI_byts hpB
        obtain ⟨cl1,cl2⟩:=ctI_len p
        have hpw:psW p=if (ctI 43 p).2.2=true∧((ctI 43 p).1=[45]∨natB 4 (ctI 43 p).1=true)∧natB 4 (ctI 43 p).2.1=true then some ⟨if (ctI 43 p).1=[45] then -1 else valL 0 (ctI 43 p).1,valL 0 (ctI 43 p).2.1⟩ else none:=rfl
        obtain ⟨⟨a,b,f⟩,hc⟩:∃ c,ctI 43 p=c:=⟨_,rfl⟩
        rw [hc] at hC cB1 cB2 cl1 cl2 hpw
        simp only at hC cB1 cB2 cl1 cl2 hpw
        have ka:natB 4 a=true→natP (str a)=(valL 0 a,true):=natP_t
        have ka':natB 4 a=false→(natP (str a)).2=false:=natP_f cB1
        have kb:natB 4 b=true→natP (str b)=(valL 0 b,true):=natP_t
        have kb':natB 4 b=false→(natP (str b)).2=false:=natP_f cB2
        have hNa:=nat_calls (str a) (by rw [str_size];omega)
        have hNb:=nat_calls (str b) (by rw [str_size];omega)
        obtain ⟨⟨va,fa⟩,ea⟩:∃ c,natP (str a)=c:=⟨_,rfl⟩
        obtain ⟨⟨vb,fb⟩,eb⟩:∃ c,natP (str b)=c:=⟨_,rfl⟩
        rw [ea] at hNa ka ka'
        rw [eb] at hNb kb kb'
        simp only at hNa hNb
        have hmW:W.cell? ⟨0,0,none⟩=some (.int .i64 m):=(s4.cell (p:=⟨0,0,none⟩) (lt hm)).trans hm
        have glob:∀ V,Below W.heap.size W V→Lib.TabIs Tryz.prog V "internal/strconv.uint64pow10" .u64 Lib.pow10Tab∧V.cell? ⟨2,0,none⟩=some (.iface t1 p1)∧V.cell? ⟨3,0,none⟩=some (.iface t2 p2):=fun V hV=>by
          have hb:Below w.heap.size w V:=s4.trans (hV.mono s4.size)
          exact ⟨Lib.tabBelow_of_tabIs htab V hb,(hb.cell (p:=⟨2,0,none⟩) (lt h1)).trans h1,(hb.cell (p:=⟨3,0,none⟩) (lt h2)).trans h2⟩
        have hk:lr.length≤200001:=by
          have q1:=psL_len hp
          have q2:=spl_len 32 s
          rw [hR,List.length_append] at q2
          omega
        have hk1:lr.length+1≤maxLen:=Nat.le_trans (show lr.length+1≤200002 by omega) (by decide)
        have hWz:=s4.size
        have hbuild:=run_bld
        have hno:psW p=none→psL (prt s)=none:=fun h=>by unfold prt;rw [if_neg he,hR];exact psL_no h
        have hyes:∀ r,psW p=some r→psL (L++[p])=some (lr++[r]):=fun r h=>by rw [psL_snoc,hp,h];rfl
        have a45:((str a).toList==[45])=decide (a=[45]):=by
          have e:=str_inj (b:=[45]) cB1 (by intro b hb;rw [List.mem_singleton] at hb;omega)
          rw [Lib.toList_data]
          by_cases q:a=[45]
          · subst q;rfl
          · rw [decide_eq_false q,beq_eq_false_iff_ne]
            intro h
            have:str a=str [45]:=by
              apply ByteArray.ext
              apply Array.ext'
              rw [h];rfl
            rw [e] at this
            exact q this
        have hn1:f=false→psW p=none:=fun h=>by rw [hpw,if_neg];rintro ⟨q,_⟩;rw [h] at q;cases q
        have hn2:fb=false→psW p=none:=fun h=>by
          rw [hpw,if_neg];rintro ⟨_,_,q⟩
          have:=kb q
          rw [h] at this;injection this with _ this;cases this
        have hn3:fa=false→((str a).toList==[45])=false→psW p=none:=fun h h'=>by
          rw [hpw,if_neg];rintro ⟨_,q | q,_⟩
          · rw [a45,decide_eq_false_iff_not] at h';exact h' q
          · have:=ka q
            rw [h] at this;injection this with _ this;cases this
        have kbt:fb=true→natB 4 b=true∧valL 0 b=vb:=fun h=>by
          cases q:natB 4 b with
          | false=>have:=kb' q;simp only at this;rw [h] at this;cases this
          | true=>have:=kb q;injection this with this _;exact ⟨rfl,this.symm⟩
        have kat:fa=true→natB 4 a=true∧valL 0 a=va:=fun h=>by
          cases q:natB 4 a with
          | false=>have:=ka' q;simp only at this;rw [h] at this;cases this
          | true=>have:=ka q;injection this with this _;exact ⟨rfl,this.symm⟩
        have hv1:f=true→fb=true→((str a).toList==[45])=true→psW p=some ⟨-1,vb⟩:=fun h1 h2 h3=>by
          rw [a45,decide_eq_true_eq] at h3
          rw [hpw,if_pos ⟨h1,.inl h3,(kbt h2).1⟩,if_pos h3,(kbt h2).2]
        have hv2:f=true→fb=true→fa=true→((str a).toList==[45])=false→psW p=some ⟨va,vb⟩:=fun h1 h2 h3 h4=>by
          rw [a45,decide_eq_false_iff_not] at h4
          rw [hpw,if_pos ⟨h1,.inr (kat h3).1,(kbt h2).1⟩,if_neg h4,(kbt h2).2,(kat h3).2]
        clear hpw ka ka' kb kb' kbt kat a45
        gi_wp2_with (first
          | (refine ⟨trivial, ?_⟩;gi_at_call 32;refine (CallsIn.inRound l (callsIn_wide.2 (hC m W hmW))).mono ?_;rintro e w1 ⟨rfl,hb1⟩)
          | (refine ⟨trivial, ?_⟩;gi_at_call 33;refine (CallsIn.inRound l (callsIn_wide.2 (hNa w1 (glob w1 hb1).1 (glob w1 hb1).2.1 (glob w1 hb1).2.2))).mono ?_;clear hNa;rintro e w2 ⟨rfl,hb2'⟩;have hb2:Below W.heap.size W w2:=hb1.trans (hb2'.mono hb1.size))
          | (refine ⟨trivial, ?_⟩;gi_at_call 33;refine (CallsIn.inRound l (callsIn_wide.2 (hNb w2 (glob w2 hb2).1 (glob w2 hb2).2.1 (glob w2 hb2).2.2))).mono ?_;clear hNb;rintro e w3 ⟨rfl,hb3'⟩;have hb3:Below W.heap.size W w3:=hb2.trans (hb3'.mono hb2.size);have q0:=s1.kept (gb hb3) (by simp);have q1:=s2.kept (gb hb3) (by simp);have q2:=s3.kept (gb hb3) (by simp);have q3:=o1.kept (gb hb3) (by simp);have qr:=row_below o2 hb3;have d1:=q1.cell;have f1:=q1.frozen;have d2:=q2.cell;have f2:=q2.frozen;have d3:=q3.cell;have f3:=q3.frozen)
          | (refine wpIn_bld _ _ rfl _ _ rfl rfl ?_)
          | (refine wpIn_bsl _ rfl _ _ rfl ?_)
          | (gi_at_builtin;refine wpListIn_append_own _ rfl _ _ 22 rfl (w.heap.size+7) 57 i0 (.agg #[.int .i64 0,.int .i64 0]) 2 16 Tryz.underlying22 hi hz0 hz1 hz2 rfl (by decide) _ _ _ rfl (qr.alloc _) _ 1 1 [_,_] rfl rfl (cell_two_new _ _ _ _) (by simp [Value.oneCell']) hk1 (by omega) (by have:=hb3.size;simp;omega) ?_;intro v' w4 hown' hgrow _;obtain ⟨g',cap',rfl⟩:=ownsRow_succ hown';have hfin:=app_fin qr hgrow (show w.heap.size+7≤w3.heap.size by have:=hb3.size;omega) (w.heap.size+1+1+1) (.slice (some ⟨g',0,none⟩) (lr.length+1) cap');have hrow:=hown';obtain ⟨hx1,hx2,hr2,hk2,hb4⟩:=q3.appended (by decide) (own_le qr (show w.heap.size≤w.heap.size+7 by omega)) (by have:=hb3.size;omega) (by omega) (own_le hown' (by omega)) hgrow;have hc1:=hx1.cell;have hf1:=hx1.frozen;have hrow2:=hrow.kept (grownBy_setCell' w4 (w.heap.size+1+1+1) (.slice (some ⟨g',0,none⟩) (lr.length+1) cap')) (.inr (hx1.not_row (by decide) hrow).symm)))
        all_goals first
          | exact absurd (show (str s).toList.isEmpty=true by assumption) (by rw [hne];decide)
          | (refine ⟨(KeepsFrom.of_grownBy (gb hb3) (by simp)).trans (((KeepsOthers.setCell _ _ _).trans (KeepsOthers.setCell _ _ _)).from _),.inl ⟨rfl,hno ?_, ?_, ?_, ?_⟩⟩
             · first
                 | exact hn1 (by first | rfl | assumption | exact nb0 (by assumption) | exact nb2 (by assumption))
                 | exact hn2 (by first | rfl | assumption | exact nb0 (by assumption) | exact nb2 (by assumption))
                 | exact hn3 (by first | rfl | assumption | exact nb0 (by assumption) | exact nb2 (by assumption)) (by assumption)
             · exact box_heap (q1.set _) (Below.heap_setCell _ _ _ _ (by simp))
             · exact (box_heap q2 (Below.heap_setCell _ _ _ _ (by simp))).set _
             · exact ((s4.trans (hb3.mono hWz)).setCell (p:=⟨_,0,none⟩) (by simp<;>omega) _).setCell (p:=⟨_,0,none⟩) (by simp<;>omega) _)
          | (refine ⟨(KeepsFrom.of_grownBy (gb hb3) (by simp)).trans (hk2.from _), ?_,L++[p],R',lr++[⟨-1,vb⟩],by rw [hR];simp,by simp,hyes _ (hv1 (by first | rfl | assumption | exact nb1 (by assumption)) (by first | rfl | assumption | exact nb1 (by assumption)) (by assumption)),fun e=>absurd e he,⟨_,hx2, ?_⟩,box_heap q0 (hfin _ (by omega) (by omega)),box_heap q1 (hfin _ (by omega) (by omega)),box_heap q2 (hfin _ (by omega) (by omega)),s4.trans ((hb3.mono hWz).trans hb4)⟩
             · intro k hk
               rw [hfin k (by omega) (by omega)]
               exact hb3.block k (by omega)
             · rw [List.length_append,valR_app];exact hrow2)
          | (refine ⟨(KeepsFrom.of_grownBy (gb hb3) (by simp)).trans (hk2.from _), ?_,L++[p],R',lr++[⟨va,vb⟩],by rw [hR];simp,by simp,hyes _ (hv2 (by first | rfl | assumption | exact nb1 (by assumption)) (by first | rfl | assumption | exact nb1 (by assumption)) (by first | rfl | assumption | exact nb1 (by assumption)) (by assumption)),fun e=>absurd e he,⟨_,hx2, ?_⟩,box_heap q0 (hfin _ (by omega) (by omega)),box_heap q1 (hfin _ (by omega) (by omega)),box_heap q2 (hfin _ (by omega) (by omega)),s4.trans ((hb3.mono hWz).trans hb4)⟩
             · intro k hk
               rw [hfin k (by omega) (by omega)]
               exact hb3.block k (by omega)
             · rw [List.length_append,valR_app];exact hrow2)
    case' done=>
      rintro D W hD ⟨L,R,lr,hR,hx,hp,h0,hS⟩ hK
      rw [prtB_s s hs,hR,List.map_append] at hx
      have hRn:R=[]:=by
        have:=congrArg List.length hx
        rw [List.length_append,List.length_map,List.length_map] at this
        exact List.eq_nil_of_length_eq_zero (by omega)
      have he:s≠[]:=fun e=>by
        have hL:=h0 e
        rw [hL,hRn] at hR
        exact spl_ne 32 s hR
      have hps:psR s=if (chk lr).2=0 then (lr,0) else ([],(chk lr).2):=by
        rw [hRn,List.append_nil] at hR
        unfold psR prt
        rw [if_neg hl,if_neg he,hR,hp]
      clear hR hx hp h0 hRn he
    case' stop=>
      rintro D c W hD hX hK
      rcases hX with ⟨rfl,hn,b1,b2,lo⟩ | ⟨rfl,hs0,hS⟩
    case' stop.inl=>
      have hps:psR s=([],7):=by unfold psR;rw [if_neg hl,hn]
      dsimp only [coll]
      gi_wp2
      refine ⟨by simp,.inl ⟨_,_,rfl,run_takeDeferred hK, ?_⟩⟩
      have x1:=b1.kept (grownBy_putObj' W D (.deferred none)) (fun e=>by cases e;omega)
      have x2:=b2.kept (grownBy_putObj' W D (.deferred none)) (fun e=>by cases e;omega)
      refine ⟨.tuple #[.slice none 0 0,.int .i64 7], ?_,_,by rw [hps],by rw [hps];exact World.ownsRow_nil _ _ _ _,lo.trans (belowK_b (w:=w) (Nat.le_refl _) W D _ _ (by omega) hK rfl rfl)⟩
      simp [results,Tryz.f8,go_sem,x1.cell,x2.cell]
    case' stop.inr=>
      obtain ⟨lr,hlr⟩:∃ lr:List Run,lr=[]:=⟨_,rfl⟩
      rw [← hlr] at hS
      have hps:psR s=if (chk lr).2=0 then (lr,0) else ([],(chk lr).2):=by
        rw [hlr];unfold psR prt;rw [if_neg hl,if_pos hs0];rfl
      clear hlr hs0
    all_goals
      obtain ⟨⟨v,o1,o2⟩,s1,s2,s3,s4⟩:=hS
      obtain ⟨A,c,rfl⟩:∃ A c,v=.slice A lr.length c:=by
        rcases o2.2 with ⟨rfl,h0⟩ | ⟨g,cap,cur,rfl,_⟩
        · exact ⟨none,0,by rw [h0]⟩
        · exact ⟨_,_,rfl⟩
      have d3:=o1.cell
      dsimp only [coll]
      gi_wp2_with (first
        | (refine wpIn_bs2 _ rfl _ _ _ rfl ?_)
        | (refine ⟨trivial, ?_⟩;gi_at_call 34;refine (callsIn_wide.2 (runsErr_c _ lr _ _ _ _ _ (World.alloc_heap_new W _) (own_alloc o2 _))).mono ?_;rintro e w5 ⟨rfl,hb5⟩;have hb6:Below W.heap.size W w5:=((Below.refl _ W).alloc (Nat.le_refl _) _).trans (hb5.mono (by simp));have q1:=s2.kept (gb hb6) (by simp);have q2:=s3.kept (gb hb6) (by simp);have q3:=o1.kept (gb hb6) (by simp);have d1:=q1.cell;have f1:=q1.frozen;have d2:=q2.cell;have f2:=q2.frozen;have d4:=q3.cell;have hr5:=row_below o2 hb6;have hK5:w5.heap[D]?=some (.deferred (some [])):=(hb6.block D (Array.getElem?_eq_some_iff.1 hK).1).trans hK))
      all_goals first
        | (have hc:(chk lr).2≠0:=by simpa using (by assumption:((chk lr).2 != 0)=true)
           have hp7:psR s=([],(chk lr).2):=by rw [hps,if_neg hc]
           obtain ⟨y0,y1,y2,y3,_⟩:=fin_two (w:=w) (D:=D) (.slice none 0 0) (.int .i64 (chk lr).2) q1 q2 (by omega) hK5 (by omega) (s4.trans (hb6.mono s4.size))
           refine ⟨by simp,.inl ⟨_,_,rfl,run_takeDeferred y0, ?_⟩⟩
           refine ⟨.tuple #[.slice none 0 0,.int .i64 (chk lr).2], ?_,_,by rw [hp7],by rw [hp7];exact World.ownsRow_nil _ _ _ _,y3⟩
           simp [results,Tryz.f8,go_sem,y1.cell,y2.cell])
        | (have hc:(chk lr).2=0:=by simpa using (by assumption:((chk lr).2 != 0)=false)
           have hp7:psR s=(lr,0):=by rw [hps,if_pos hc]
           obtain ⟨y0,y1,y2,y3,y4⟩:=fin_two (w:=w) (D:=D) (.slice A lr.length c) (.int .i64 0) q1 q2 (by omega) hK5 (by omega) (s4.trans (hb6.mono s4.size))
           refine ⟨by simp,.inl ⟨_,_,rfl,run_takeDeferred y0, ?_⟩⟩
           refine ⟨.tuple #[.slice A lr.length c,.int .i64 0], ?_,_,by rw [hp7],by rw [hp7];exact own_le (y4 hr5 (by omega)) (by omega),y3⟩
           simp [results,Tryz.f8,go_sem,y1.cell,y2.cell])
end Go.Proofs.YtmmafhopnkkeeaaGreatDoor
