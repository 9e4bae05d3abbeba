/- The laws RunsStrings and RunsBack answer true. Conditions: as each theorem says. -/
import Derived.Test.YtmmafhopnkkeeaaGreatDoorVn
import Derived.Test.YtmmafhopnkkeeaaGreatDoorPk
namespace Go.Proofs.YtmmafhopnkkeeaaGreatDoor
set_option linter.unusedSimpArgs false
set_option linter.unusedVariables false
set_option maxRecDepth 4000
section
variable {G:Glob} {B:CallT}
def tb3 (a b c:Int):Nat→Int
  | 0=>a
  | 1=>b
  | _=>c
theorem tb3_0 (a b c:Int):tb3 a b c 0=a:=rfl
theorem tb3_1 (a b c:Int):tb3 a b c 1=b:=rfl
theorem tb3_2 (a b c:Int):tb3 a b c 2=c:=rfl
abbrev bS (l:List Int):AObj:=.box [.dc (.raw (.string (str l)))]
def sval:List Int→Int
  | [x]=>if 128≤x then x - 256 else x
  | [x,y]=>if 32768≤y * 256+x then y * 256+x - 65536 else y * 256+x
  | _=>0
def numR (bs:List Int) (a:Nat):Int × Bool × List Int:=if bs.length < a then (0,false,bs) else (sval (bs.take a),decide (sz (sval (bs.take a))=a),bs.drop a)
def runR (last h:Int) (t:List Int):Run × Bool × List Int:=
  if (1≤h % 16∧h % 16≤2)∧h / 16≤2 then
    if (numR t (h % 16).toNat).2.1=false∨h / 16=0 then (⟨-1,(numR t (h % 16).toNat).1⟩,(numR t (h % 16).toNat).2.1,(numR t (h % 16).toNat).2.2)
    else (⟨last+(numR (numR t (h % 16).toNat).2.2 (h / 16).toNat).1,(numR t (h % 16).toNat).1⟩,(numR (numR t (h % 16).toNat).2.2 (h / 16).toNat).2.1&&!decide (last+(numR (numR t (h % 16).toNat).2.2 (h / 16).toNat).1=-1),(numR (numR t (h % 16).toNat).2.2 (h / 16).toNat).2.2)
  else (⟨0,0⟩,false,t)
theorem or256 (n b:Int) (hn:0≤n∧n≤255) (hb:0≤b∧b≤255):orI .i64 (n * 256) b=n * 256+b:=by
  obtain ⟨n,rfl⟩:=Int.eq_ofNat_of_zero_le hn.1
  obtain ⟨b,rfl⟩:=Int.eq_ofNat_of_zero_le hb.1
  have h1:((n:Int) * 256)=((n * 256:Nat):Int):=by simp
  have h2:n * 256 ||| b=n * 256+b:=by
    have:=Nat.shiftLeft_add_eq_or_of_lt (show b < 2 ^ 8 by omega) n
    rw [Nat.shiftLeft_eq] at this
    exact this.symm
  rw [orI,h1,bits64,BitVec.ofInt_natCast,BitVec.ofInt_natCast,BitVec.toNat_or,BitVec.toNat_ofNat,BitVec.toNat_ofNat,Nat.mod_eq_of_lt (by omega),Nat.mod_eq_of_lt (by omega),h2,wrapS (by omega)]
  simp
theorem and15 (h:Int) (hh:0≤h∧h≤255):andI .i64 h 15=h % 16:=by
  obtain ⟨n,rfl⟩:=Int.eq_ofNat_of_zero_le hh.1
  have h2:n &&& 15=n % 16:=Nat.and_two_pow_sub_one_eq_mod n 4
  have h3:(15:Int)=((15:Nat):Int):=rfl
  rw [andI,h3,bits64,BitVec.ofInt_natCast,BitVec.ofInt_natCast,BitVec.toNat_and,BitVec.toNat_ofNat,BitVec.toNat_ofNat,Nat.mod_eq_of_lt (by omega),Nat.mod_eq_of_lt (by omega),h2,wrapS (by omega)]
  simp
theorem fdiv16 (n:Int):n.fdiv 16=n / 16:=Int.fdiv_eq_ediv_of_nonneg _ (by decide)
theorem byts_cons {x:Int} {l:List Int} (h:Byts (x::l)):(0≤x∧x≤255)∧Byts l:=⟨h x List.mem_cons_self,fun b hb=>h b (List.mem_cons_of_mem _ hb)⟩
theorem number1_v (bs:List Int) (hB:Byts bs):EV G (Tb B) 83 [.one (.ptr 0 0),vi 1] [bS bs]=some (.tup [.one (.dc (ci (numR bs 1).1)),.one (bC (numR bs 1).2.1)],[bS (numR bs 1).2.2]):=by
  refine EV_run rfl ?_
  match bs,hB with
  | [],hB=>
    simp (disch:=first | omega | (simp only [List.length_append,List.length_cons,List.length_nil,List.length_map,sgK_len];omega)) only [go_sem,h83c,numR,str_size]
    rfl
  | x::t,hB=>
    obtain ⟨hx,_⟩:=byts_cons hB
    have o1:=or256 0 x (by omega) hx
    rw [Int.zero_mul,Int.zero_add] at o1
    simp (disch:=first | omega | (simp only [List.length_append,List.length_cons,List.length_nil,List.length_map,sgK_len];omega)) only [go_sem,h83c,Int.reduceSub]
    rw [EL_loop (fun k=>⟨(.one (.ptr 0 0)::vi 1::jk 4 (vi (tb3 0 x x k)::vi (tb3 0 (-1) (-1) k)::jk 44 [])),[bS (x::t)]⟩) 1 ?_ ?_]
    · have hv:numR (x::t) 1=(sval [x],decide (sz (sval [x])=1),t):=by rw [numR,if_neg (by simp)];rfl
      rw [hv]
      simp only [sval]
      by_cases c:128≤x
      · have s1:=sizeOf_v (G:=G) (B:=B) (x - 256) (by omega)
        simp (disch:=first | omega | (simp only [List.length_append,List.length_cons,List.length_nil,List.length_map,sgK_len];omega)) only [go_sem,h83l0,tb3_1,Int.reduceMul,Int.reduceSub,Int.reduceToNat,Int.reducePow,Nat.reducePow,Int.reduceNeg,c,s1,bC]
      · have s1:=sizeOf_v (G:=G) (B:=B) x (by omega)
        simp (disch:=first | omega | (simp only [List.length_append,List.length_cons,List.length_nil,List.length_map,sgK_len];omega)) only [go_sem,h83l0,tb3_1,Int.reduceMul,Int.reduceSub,Int.reduceToNat,Int.reducePow,Nat.reducePow,Int.reduceNeg,c,s1,bC]
    · rfl
    · intro k hk
      have hk0:k=0:=by omega
      subst hk0
      simp (disch:=first | omega | (simp only [List.length_append,List.length_cons,List.length_nil,List.length_map,sgK_len];omega)) only [go_sem,h83l0,tb3_0,tb3_1,Int.reduceMul,Int.reduceSub,Int.reduceToNat,Int.reducePow,Nat.reducePow,Int.reduceNeg,o1,Int.zero_mul]
theorem number2_v (bs:List Int) (hB:Byts bs):EV G (Tb B) 83 [.one (.ptr 0 0),vi 2] [bS bs]=some (.tup [.one (.dc (ci (numR bs 2).1)),.one (bC (numR bs 2).2.1)],[bS (numR bs 2).2.2]):=by
  refine EV_run rfl ?_
  match bs,hB with
  | [],hB=>
    simp (disch:=first | omega | (simp only [List.length_append,List.length_cons,List.length_nil,List.length_map,sgK_len];omega)) only [go_sem,h83c,numR,str_size]
    rfl
  | [x],hB=>
    simp (disch:=first | omega | (simp only [List.length_append,List.length_cons,List.length_nil,List.length_map,sgK_len];omega)) only [go_sem,h83c,numR,str_size]
    rfl
  | x::y::t,hB=>
    obtain ⟨hx,hB'⟩:=byts_cons hB
    obtain ⟨hy,_⟩:=byts_cons hB'
    have o1:=or256 0 y (by omega) hy
    have o2:=or256 y x hy hx
    rw [Int.zero_mul,Int.zero_add] at o1
    simp (disch:=first | omega | (simp only [List.length_append,List.length_cons,List.length_nil,List.length_map,sgK_len];omega)) only [go_sem,h83c,Int.reduceSub]
    rw [EL_loop (fun k=>⟨(.one (.ptr 0 0)::vi 2::jk 4 (vi (tb3 0 y (y * 256+x) k)::vi (tb3 1 0 (-1) k)::jk 44 [])),[bS (x::y::t)]⟩) 2 ?_ ?_]
    · have hv:numR (x::y::t) 2=(sval [x,y],decide (sz (sval [x,y])=2),t):=by rw [numR,if_neg (by simp)];rfl
      rw [hv]
      simp only [sval]
      by_cases c:32768≤y * 256+x
      · have s1:=sizeOf_v (G:=G) (B:=B) (y * 256+x - 65536) (by omega)
        simp (disch:=first | omega | (simp only [List.length_append,List.length_cons,List.length_nil,List.length_map,sgK_len];omega)) only [go_sem,h83l0,tb3_2,Int.reduceMul,Int.reduceSub,Int.reduceToNat,Int.reducePow,Nat.reducePow,Int.reduceNeg,c,s1,bC]
      · have s1:=sizeOf_v (G:=G) (B:=B) (y * 256+x) (by omega)
        simp (disch:=first | omega | (simp only [List.length_append,List.length_cons,List.length_nil,List.length_map,sgK_len];omega)) only [go_sem,h83l0,tb3_2,Int.reduceMul,Int.reduceSub,Int.reduceToNat,Int.reducePow,Nat.reducePow,Int.reduceNeg,c,s1,bC]
    · rfl
    · intro k hk
      rcases (show k=0∨k=1 by omega) with rfl | rfl
      · simp (disch:=first | omega | (simp only [List.length_append,List.length_cons,List.length_nil,List.length_map,sgK_len];omega)) only [go_sem,h83l0,tb3_0,tb3_1,Int.reduceMul,Int.reduceSub,Int.reduceToNat,Int.reducePow,Nat.reducePow,Int.reduceNeg,o1,Int.zero_mul]
      · simp (disch:=first | omega | (simp only [List.length_append,List.length_cons,List.length_nil,List.length_map,sgK_len];omega)) only [go_sem,h83l0,tb3_1,tb3_2,Int.reduceMul,Int.reduceSub,Int.reduceToNat,Int.reducePow,Nat.reducePow,Int.reduceNeg,o2,Int.zero_mul]
theorem number_v (bs:List Int) (hB:Byts bs) (a:Int) (ha:1≤a∧a≤2):EV G (Tb B) 83 [.one (.ptr 0 0),vi a] [bS bs]=some (.tup [.one (.dc (ci (numR bs a.toNat).1)),.one (bC (numR bs a.toNat).2.1)],[bS (numR bs a.toNat).2.2]):=by
  rcases (show a=1∨a=2 by omega) with rfl | rfl
  · exact number1_v bs hB
  · exact number2_v bs hB
theorem byts_sub {l m:List Int} (h:Byts l) (hs:∀ x∈m,x∈l):Byts m:=fun b hb=>h b (hs b hb)
theorem numR_byts {bs:List Int} (h:Byts bs) (a:Nat):Byts (numR bs a).2.2:=by
  unfold numR
  split
  · exact h
  · exact byts_sub h (fun x hx=>List.mem_of_mem_drop hx)
theorem numR_in {bs:List Int} (h:Byts bs) (a:Nat):-32768≤(numR bs a).1∧(numR bs a).1≤32767:=by
  unfold numR
  split
  · simp
  · have h2:Byts (bs.take a):=byts_sub h (fun x hx=>List.mem_of_mem_take hx)
    simp only
    generalize bs.take a=m at h2
    match m,h2 with
    | [],_=>simp [sval]
    | [x],h2=>have:=h2 x (by simp);simp only [sval];split<;>omega
    | [x,y],h2=>have:=h2 x (by simp);have:=h2 y (by simp);simp only [sval];split<;>omega
    | x::y::z::w,_=>simp [sval]
theorem numR_len (bs:List Int) (a:Nat):(numR bs a).2.2.length≤bs.length:=by
  unfold numR
  split
  · exact Nat.le_refl _
  · simp
set_option maxHeartbeats 1000000 in
theorem run_v (last h:Int) (t:List Int) (hB:Byts (h::t)) (hl:-1000000000≤last∧last≤1000000000):EV G (Tb B) 41 [.one (.ptr 0 0),vi last] [bS (h::t)]=
    some (.tup [.agg [.dc (ci (runR last h t).1.s),.dc (ci (runR last h t).1.n)],.one (bC (runR last h t).2.1)],[bS (runR last h t).2.2]):=by
  refine EV_run rfl ?_
  obtain ⟨hh,hB'⟩:=byts_cons hB
  have ha:=and15 h hh
  unfold runR
  by_cases c1:1≤h % 16∧h % 16≤2
  · by_cases c2:h / 16≤2
    · rw [if_pos ⟨c1,c2⟩]
      have s1:=number_v (G:=G) (B:=B) t hB' (h % 16) c1
      have k1:=numR_in hB' (h % 16).toNat
      have b1:=numR_byts hB' (h % 16).toNat
      generalize numR t (h % 16).toNat=N1 at s1 k1 b1 ⊢
      obtain ⟨n1,ok1,t1⟩:=N1
      simp only at s1 k1 b1 ⊢
      by_cases c3:h / 16=0
      · rw [if_pos (Or.inr c3)]
        cases ok1
        all_goals simp (disch:=first | omega | (simp only [List.length_append,List.length_cons,List.length_nil,List.length_map,sgK_len];omega)) only [go_sem,h41c,Int.reduceToNat,Int.reducePow,ha,fdiv16,c1,c2,c3,within_v,s1,bC]
      · cases ok1
        · rw [if_pos (Or.inl rfl)]
          simp (disch:=first | omega | (simp only [List.length_append,List.length_cons,List.length_nil,List.length_map,sgK_len];omega)) only [go_sem,h41c,Int.reduceToNat,Int.reducePow,ha,fdiv16,c1,c2,c3,within_v,s1,bC]
        · rw [if_neg (by simp [c3])]
          have s2:=number_v (G:=G) (B:=B) t1 b1 (h / 16) (by omega)
          have k2:=numR_in b1 (h / 16).toNat
          generalize numR t1 (h / 16).toNat=N2 at s2 k2 ⊢
          obtain ⟨n2,ok2,t2⟩:=N2
          simp only at s2 k2 ⊢
          cases ok2
          all_goals simp (disch:=first | omega | (simp only [List.length_append,List.length_cons,List.length_nil,List.length_map,sgK_len];omega)) only [go_sem,h41c,Int.reduceToNat,Int.reducePow,ha,fdiv16,c1,c2,c3,within_v,s1,s2,bC,isHole_v]
    · rw [if_neg (by omega)]
      simp (disch:=first | omega | (simp only [List.length_append,List.length_cons,List.length_nil,List.length_map,sgK_len];omega)) only [go_sem,h41c,Int.reduceToNat,Int.reducePow,ha,fdiv16,c1,c2,within_v,bC]
  · rw [if_neg (by omega)]
    simp (disch:=first | omega | (simp only [List.length_append,List.length_cons,List.length_nil,List.length_map,sgK_len];omega)) only [go_sem,h41c,Int.reduceToNat,Int.reducePow,ha,fdiv16,c1,within_v,bC]
structure DS where
  bs:List Int
  last:Int
  out:List Run
def dstep (z:DS):Option DS:=
  match z.bs with
  | []=>none
  | h::t=>if h=0 then none else if (runR z.last h t).2.1=true then some ⟨(runR z.last h t).2.2,if (runR z.last h t).1.s=-1 then z.last else (runR z.last h t).1.s,z.out++[(runR z.last h t).1]⟩ else none
def dK (s:List Int):Nat→DS
  | 0=>⟨s,0,[]⟩
  | k+1=>(dstep (dK s k)).getD (dK s k)
noncomputable def dEnd (s:List Int):Nat:=ix (fun k=>dstep (dK s k)=none) (s.length+1)
def decE (bs:List Int):Int:=match bs with
  | []=>3
  | h::t=>if h=0∧t=[] then 0 else 3
def decZ (z:DS):List Run × Int:=if decE z.bs≠0 then ([],3) else if (chk z.out).2≠0 then ([],(chk z.out).2) else (z.out,0)
noncomputable def decV (s:List Int):List Run × Int:=if (s.length:Int) > 400 then ([],8) else decZ (dK s (dEnd s))
theorem runR_len (last h:Int) (t:List Int):(runR last h t).2.2.length≤t.length:=by
  unfold runR
  split
  · split
    · exact numR_len _ _
    · exact Nat.le_trans (numR_len _ _) (numR_len _ _)
  · exact Nat.le_refl _
theorem runR_byts (last h:Int) {t:List Int} (hB:Byts t):Byts (runR last h t).2.2:=by
  unfold runR
  split
  · split
    · exact numR_byts hB _
    · exact numR_byts (numR_byts hB _) _
  · exact hB
theorem runR_in (last h:Int) {t:List Int} (hB:Byts t):(runR last h t).1.s=-1∨(runR last h t).1.s=0∨(last - 32768≤(runR last h t).1.s∧(runR last h t).1.s≤last+32767):=by
  unfold runR
  split
  · split
    · exact .inl rfl
    · have:=numR_in (numR_byts hB (h % 16).toNat) (h / 16).toNat
      exact .inr (.inr ⟨by simp only;omega,by simp only;omega⟩)
  · exact .inr (.inl rfl)
theorem dK_ok (s:List Int) (hB:Byts s):∀ k,(∀ j,j < k→¬ dstep (dK s j)=none)→(dK s k).bs.length+k≤s.length∧(dK s k).out.length=k∧(-40000 * (k:Int)≤(dK s k).last∧(dK s k).last≤40000 * k)∧Byts (dK s k).bs:=by
  intro k
  induction k with
  | zero=>intro _;exact ⟨by simp [dK],rfl,by simp [dK],hB⟩
  | succ k ih=>
    intro h
    obtain ⟨h1,h2,h3,h4⟩:=ih (fun j hj=>h j (by omega))
    have h5:=h k (by omega)
    simp only [dK]
    generalize dK s k=z at h1 h2 h3 h4 h5 ⊢
    obtain ⟨bs,last,out⟩:=z
    simp only at h1 h2 h3 h4 h5
    cases bs with
    | nil=>exact absurd rfl h5
    | cons h t=>
      obtain ⟨hh,ht⟩:=byts_cons h4
      have l1:=runR_len last h t
      have l2:=runR_byts last h ht
      have l3:=runR_in last h ht
      simp only [dstep] at h5 ⊢
      split
      · rename_i c;rw [if_pos c] at h5;exact absurd rfl h5
      · rename_i c
        rw [if_neg c] at h5
        split
        · simp only [Option.getD_some,List.length_append,List.length_cons,List.length_nil] at h1 ⊢
          refine ⟨by omega,by omega, ?_,l2⟩
          split<;>omega
        · rename_i c';rw [if_neg c'] at h5;exact absurd rfl h5
theorem dEnd_spec (s:List Int) (hB:Byts s):dEnd s≤s.length∧dstep (dK s (dEnd s))=none∧∀ j,j < dEnd s→¬ dstep (dK s j)=none:=by
  obtain ⟨h1,h2,h3⟩:=ix_spec (fun k=>dstep (dK s k)=none) (s.length+1)
  have h4:=(dK_ok s hB (dEnd s) h3).1
  refine ⟨by omega, ?_,h3⟩
  rcases h2 with h2 | h2
  · exact absurd h4 (by unfold dEnd;omega)
  · exact h2.2
theorem str_cons_ne (h:Int) (t:List Int):(str (h::t)=str [])=False:=by
  apply eq_false
  intro e
  have:=congrArg ByteArray.size e
  simp [str_size] at this
attribute [go_sem] str_cons_ne
set_option maxHeartbeats 1000000 in
theorem decode_v (s:List Int) (hB:Byts s):EV G (Tb B) 14 [sv s] []=some (.tup [.one (.dc (.slc ((decV s).1.map Run.e))),.one (.dc (ci (decV s).2))],[]):=by
  refine EV_run rfl ?_
  unfold decV
  by_cases c0:(s.length:Int) > 400
  · rw [if_pos c0]
    simp (disch:=first | omega | (simp only [List.length_append,List.length_cons,List.length_nil,List.length_map,sgK_len];omega)) only [go_sem,h14c,List.map_nil]
  · rw [if_neg c0]
    simp (disch:=first | omega | (simp only [List.length_append,List.length_cons,List.length_nil,List.length_map,sgK_len];omega)) only [go_sem,h14c]
    rw [EL_fst (fun k=>⟨(jk 1 (.one (.ptr 0 0)::jk 2 (.one (.bld 1 (dK s k).out.length)::vi (dK s k).last::jk 39 []))),[bS (dK s k).bs,.arr 0 2 ((dK s k).out.map Run.e)]⟩) (fun k=>dstep (dK s k)=none) (s.length+1) ?_ ?_]
    · obtain ⟨e1,e2,e3⟩:=dEnd_spec s hB
      obtain ⟨g1,g2,g3,g4⟩:=dK_ok s hB _ e3
      rw [show ix (fun k=>dstep (dK s k)=none) (s.length+1)=dEnd s from rfl]
      generalize dK s (dEnd s)=z at *
      obtain ⟨bs,last,out⟩:=z
      simp only at e2 g1 g2 g3 g4 ⊢
      cases bs with
      | nil=>
        rw [show decZ ⟨[],last,out⟩=([],3) from rfl]
        simp (disch:=first | omega | (simp only [List.length_append,List.length_cons,List.length_nil,List.length_map,sgK_len];omega)) only [go_sem,h14l0,str_nil,List.map_nil]
      | cons h t=>
        obtain ⟨hh,ht⟩:=byts_cons g4
        by_cases c:h=0
        · subst c
          match t with
          | []=>
            have hl:=errs1 out
            by_cases c2:(chk out).2=0
            · rw [c2] at hl
              rw [show decZ ⟨[0],last,out⟩=(out,0) by simp [decZ,decE,c2]]
              simp (disch:=first | omega | (simp only [List.length_append,List.length_cons,List.length_nil,List.length_map,sgK_len];omega)) only [go_sem,h14l0,str_nil,errs1_v,hl,take_map_len]
            · rw [show decZ ⟨[0],last,out⟩=([],(chk out).2) by simp [decZ,decE,c2]]
              simp (disch:=first | omega | (simp only [List.length_append,List.length_cons,List.length_nil,List.length_map,sgK_len];omega)) only [go_sem,h14l0,str_nil,errs1_v,hl,c2,take_map_len,List.map_nil]
          | x::t=>
            rw [show decZ ⟨0::x::t,last,out⟩=([],3) by simp [decZ,decE]]
            simp (disch:=first | omega | (simp only [List.length_append,List.length_cons,List.length_nil,List.length_map,sgK_len];omega)) only [go_sem,h14l0,str_nil,List.map_nil]
        · have r1:=run_v (G:=G) (B:=B) last h t g4 (by omega)
          simp only [dstep,if_neg c] at e2
          rw [show decZ ⟨h::t,last,out⟩=([],3) by simp [decZ,decE,c]]
          generalize runR last h t=r at r1 e2
          obtain ⟨r,ok,rest⟩:=r
          cases ok
          · simp only at r1
            simp (disch:=first | omega | (simp only [List.length_append,List.length_cons,List.length_nil,List.length_map,sgK_len];omega)) only [go_sem,h14l0,str_nil,List.map_nil,r1,c,bC]
          · simp at e2
    · rfl
    · intro k hk hn
      obtain ⟨g1,g2,g3,g4⟩:=dK_ok s hB k (fun j hj=>hn j (by omega))
      have e2:=hn k (Nat.le_refl _)
      rw [show dK s (k+1)=(dstep (dK s k)).getD (dK s k) from rfl]
      generalize dK s k=z at *
      obtain ⟨bs,last,out⟩:=z
      simp only at e2 g1 g2 g3 g4 ⊢
      cases bs with
      | nil=>exact absurd rfl e2
      | cons h t=>
        obtain ⟨hh,ht⟩:=byts_cons g4
        by_cases c:h=0
        · simp [dstep,c] at e2
        · have r1:=run_v (G:=G) (B:=B) last h t g4 (by omega)
          simp only [dstep,if_neg c] at e2 ⊢
          generalize runR last h t=r at r1 e2
          obtain ⟨⟨rs,rn⟩,ok,rest⟩:=r
          cases ok
          · simp at e2
          · simp only at r1
            by_cases c2:rs=-1
            · simp (disch:=first | omega | (simp only [List.length_append,List.length_cons,List.length_nil,List.length_map,sgK_len];omega)) only [go_sem,h14l0,str_nil,r1,c,c2,bC,isHole_v,Option.getD_some,map_snoc,List.length_append]
            · simp (disch:=first | omega | (simp only [List.length_append,List.length_cons,List.length_nil,List.length_map,sgK_len];omega)) only [go_sem,h14l0,str_nil,r1,c,c2,bC,isHole_v,Option.getD_some,map_snoc,List.length_append]
end
section
variable {G:Glob} {B:CallT}
end
section
variable {G:Glob} {bb:Bool}
theorem encL_len {l:List Run} (h:(chk l).2=0):(encL l).1.length≤320:=by
  obtain ⟨g1,g2,g3⟩:=encK_ok l (fun r hr'=>(runs_in h r hr').1) l.length (Nat.le_refl _)
  rw [encK_all] at g1
  have:=chk_len h
  omega
theorem ix_at {p:Nat→Prop} {n m:Nat} (hm:m < n) (h1:p m) (h2:∀ j,j < m→¬ p j):ix p n=m:=by
  obtain ⟨g1,g2,g3⟩:=ix_spec p n
  rcases Nat.lt_trichotomy (ix p n) m with h | h | h
  · rcases g2 with g2 | ⟨_,g2⟩
    · omega
    · exact absurd g2 (h2 _ h)
  · exact h
  · exact absurd h1 (g3 _ h)
theorem sz_or (n:Int):sz n=1∨sz n=2:=by unfold sz;split<;>simp
theorem sval1 (n:Int) (h:-128≤n∧n≤127):sval (sgK n 1)=n:=by
  show sval [n % 256]=n
  simp only [sval]
  split<;>omega
theorem sval2 (n:Int) (h:-32768≤n∧n≤32767):sval (sgK n 2)=n:=by
  show sval [n % 256,n / 256 % 256]=n
  simp only [sval]
  split<;>omega
theorem numR_sg (n:Int) (h:-32768≤n∧n≤32767) (rest:List Int):numR (sgK n (sz n).toNat++rest) (sz n).toNat=(n,true,rest):=by
  unfold numR
  rw [if_neg (by rw [List.length_append,sgK_len];omega),List.take_left' (sgK_len _ _),List.drop_left' (sgK_len _ _)]
  have e:sval (sgK n (sz n).toNat)=n:=by
    unfold sz
    split
    · exact sval1 n (by assumption)
    · exact sval2 n h
  rw [e]
  have:sz n=((sz n).toNat:Int):=by have:=sz_or n;omega
  rw [decide_eq_true this]
def encH (last:Int) (r:Run):Int:=if r.s=-1 then sz r.n else 16 * sz (r.s - last)+sz r.n
def encT (last:Int) (r:Run):List Int:=if r.s=-1 then sgK r.n (sz r.n).toNat else sgK r.n (sz r.n).toNat++sgK (r.s - last) (sz (r.s - last)).toNat
theorem encR_ht (last:Int) (r:Run):encR last r=encH last r::encT last r:=by
  unfold encR encH encT
  split<;>rfl
theorem encH_0 (last:Int) (r:Run):encH last r≠0:=by
  have h1:=sz_or r.n
  have h2:=sz_or (r.s - last)
  unfold encH
  split<;>omega
theorem run_rg {r:Run} (h:rangeE r.s r.n=0):(1≤r.n∧r.n≤4096)∧(r.s=-1∨0≤r.s∧r.s≤511):=by
  rcases rangeE_ok h with ⟨h1,h2,h3⟩ | ⟨s,n,h1,h2,h3,h4⟩
  · exact ⟨by omega,by omega⟩
  · exact ⟨by omega,by omega⟩
theorem runR_enc {last:Int} {r:Run} (hr:rangeE r.s r.n=0) (hl:0≤last∧last≤511) (rest:List Int):runR last (encH last r) (encT last r++rest)=(r,true,rest):=by
  obtain ⟨⟨a1,a2⟩,a3⟩:=run_rg hr
  have s1:=sz_or r.n
  have s2:=sz_or (r.s - last)
  have n1:=numR_sg r.n (by omega)
  unfold encH encT
  by_cases c:r.s=-1
  · rw [if_pos c,if_pos c]
    have e1:sz r.n % 16=sz r.n:=by omega
    have e2:sz r.n / 16=0:=by omega
    unfold runR
    rw [e1,e2,if_pos (by omega),if_pos (.inr rfl),n1 rest]
    simp only
    cases r
    simp only at c
    rw [c]
  · rw [if_neg c,if_neg c]
    have e1:(16 * sz (r.s - last)+sz r.n) % 16=sz r.n:=by omega
    have e2:(16 * sz (r.s - last)+sz r.n) / 16=sz (r.s - last):=by omega
    unfold runR
    rw [e1,e2,if_pos (by omega),List.append_assoc,n1,if_neg (by simp;omega)]
    simp only
    rw [numR_sg (r.s - last) (by omega) rest]
    simp only
    rw [show last+(r.s - last)=r.s by omega,decide_eq_false c]
    cases r
    rfl
def nxt (last:Int) (r:Run):Int:=if r.s=-1 then last else r.s
theorem dstep_enc {last:Int} {r:Run} (hr:rangeE r.s r.n=0) (hl:0≤last∧last≤511) (rest:List Int) (out:List Run):dstep ⟨encR last r++rest,last,out⟩=some ⟨rest,nxt last r,out++[r]⟩:=by
  rw [encR_ht]
  unfold dstep
  simp only [List.cons_append]
  rw [if_neg (encH_0 _ _),runR_enc hr hl]
  simp only [if_true]
  rfl
def encF (last:Int):List Run→List Int
  | []=>[]
  | r::l=>encR last r++encF (nxt last r) l
theorem encL_F (l:List Run):(encL l).1=encF 0 l:=by
  have key:∀ (l:List Run) (p:List Int) (last:Int),(l.foldl est (p,last)).1=p++encF last l:=by
    intro l
    induction l with
    | nil=>intro p last;simp [encF]
    | cons r l ih=>
      intro p last
      have e:est (p,last) r=(p++encR last r,nxt last r):=rfl
      rw [List.foldl_cons,e,ih]
      simp only [encF,List.append_assoc]
  have:=key l [] 0
  simpa [encL] using this
def dM:Nat→DS→DS
  | 0,z=>z
  | k+1,z=>(dstep (dM k z)).getD (dM k z)
theorem dK_M (s:List Int):∀ k,dK s k=dM k ⟨s,0,[]⟩
  | 0=>rfl
  | k+1=>by rw [dK,dM,dK_M s k]
theorem dM_next {z z':DS} (h:dstep z=some z'):∀ k,dM (k+1) z=dM k z'
  | 0=>by show (dstep z).getD z=z';rw [h];rfl
  | k+1=>by rw [dM,dM_next h k,dM]
theorem nxt_rg {last:Int} {r:Run} (hr:rangeE r.s r.n=0) (hl:0≤last∧last≤511):0≤nxt last r∧nxt last r≤511:=by
  have:=(run_rg hr).2
  unfold nxt
  split<;>omega
theorem dM_enc:∀ (l:List Run) (last:Int) (out:List Run) (rest:List Int),(∀ r∈l,rangeE r.s r.n=0)→0≤last∧last≤511→
    (∃ x,dM l.length ⟨encF last l++rest,last,out⟩=⟨rest,x,out++l⟩)∧∀ j,j < l.length→¬ dstep (dM j ⟨encF last l++rest,last,out⟩)=none
  | [],last,out,rest,_,_=>⟨⟨last,by simp [dM,encF]⟩,fun j hj=>by simp at hj⟩
  | r::l,last,out,rest,h,hl=>by
    have hr:=h r List.mem_cons_self
    have hs:=dstep_enc hr hl (encF (nxt last r) l++rest) out
    obtain ⟨⟨x,h1⟩,h2⟩:=dM_enc l (nxt last r) (out++[r]) rest (fun q hq=>h q (List.mem_cons_of_mem _ hq)) (nxt_rg hr hl)
    have e:encF last (r::l)++rest=encR last r++(encF (nxt last r) l++rest):=by rw [encF,List.append_assoc]
    rw [e]
    refine ⟨⟨x, ?_⟩,fun j hj=>?_⟩
    · show dM (l.length+1) _=_
      rw [dM_next hs,h1,List.append_assoc]
      rfl
    · cases j with
      | zero=>
        intro g
        have g':dstep ⟨encR last r++(encF (nxt last r) l++rest),last,out⟩=none:=g
        rw [hs] at g'
        cases g'
      | succ j=>rw [dM_next hs];exact h2 j (by simpa using hj)
theorem encF_len {l:List Run} (h:(chk l).2=0):(encF 0 l).length≤320:=by
  rw [← encL_F];exact encL_len h
theorem dec_enc {l:List Run} (h:(chk l).2=0):decV ((encL l).1++[0])=(l,0):=by
  have hlen:=encF_len h
  obtain ⟨⟨x,h1⟩,h2⟩:=dM_enc l 0 [] [0] (chk_rg h) (by omega)
  have hl:=chk_len h
  have hll:l.length < (encF 0 l++[0]).length+1:=by
    have:∀ (l:List Run) (last:Int),l.length≤(encF last l).length:=by
      intro l
      induction l with
      | nil=>intro _;simp
      | cons r l ih=>intro last;have:=ih (nxt last r);simp only [encF,encR_ht,List.length_append,List.length_cons];omega
    have:=this l 0
    simp only [List.length_append,List.length_cons,List.length_nil]
    omega
  rw [encL_F]
  have hE:dEnd (encF 0 l++[0])=l.length:=by
    unfold dEnd
    refine ix_at hll ?_ (fun j hj=>?_)
    · rw [dK_M,h1];rfl
    · rw [dK_M];exact h2 j hj
  unfold decV
  rw [if_neg (by simp only [List.length_append,List.length_cons,List.length_nil];omega),hE,dK_M,h1]
  unfold decZ
  rw [if_neg (by simp [decE]),if_neg (by simp only [List.nil_append];omega)]
  rfl
end
section
theorem numR_back {t:List Int} (hB:Byts t) {a:Nat} (ha:a=1∨a=2) (h:(numR t a).2.1=true):t=sgK (numR t a).1 a++(numR t a).2.2∧sz (numR t a).1=a:=by
  unfold numR at h ⊢
  split at h
  · cases h
  · rename_i hl
    rw [if_neg hl]
    simp only at h ⊢
    refine ⟨?_,of_decide_eq_true h⟩
    clear h
    rcases ha with rfl | rfl
    · match t,hl,hB with
      | x::t,_,hB=>
        have hx:=hB x List.mem_cons_self
        simp only [List.take_succ_cons,List.take_zero,List.drop_succ_cons,List.drop_zero,sval,sgK,shK,List.nil_append,List.singleton_append,List.cons.injEq,and_true]
        split<;>omega
    · match t,hl,hB with
      | [x],hl,_=>simp at hl
      | x::y::t,_,hB=>
        have hx:=hB x List.mem_cons_self
        have hy:=hB y (List.mem_cons_of_mem _ List.mem_cons_self)
        simp only [List.take_succ_cons,List.take_zero,List.drop_succ_cons,List.drop_zero,sval,sgK,shK,List.nil_append,List.singleton_append,List.cons_append,List.cons.injEq,and_true]
        split<;>omega
theorem dstep_back {z z':DS} (hB:Byts z.bs) (h:dstep z=some z'):∃ r,z'.out=z.out++[r]∧z.bs=encR z.last r++z'.bs∧z'.last=(if r.s=-1 then z.last else r.s):=by
  obtain ⟨bs,last,out⟩:=z
  unfold dstep at h
  simp only at h hB ⊢
  match bs,hB with
  | [],_=>cases h
  | x::t,hB=>
    simp only at h
    split at h
    · cases h
    split at h
    rotate_left
    · cases h
    rename_i h0 h1
    injection h with h
    subst h
    refine ⟨_,rfl, ?_,rfl⟩
    simp only
    obtain ⟨hx,ht⟩:=byts_cons hB
    unfold runR at h1 ⊢
    split at h1
    rotate_left
    · cases h1
    rename_i c
    rw [if_pos c]
    have ha:(x % 16).toNat=1∨(x % 16).toNat=2:=by omega
    split at h1
    · rename_i d
      rw [if_pos d]
      simp only at h1 ⊢
      have d':x / 16=0:=by
        rcases d with d | d
        · rw [h1] at d;cases d
        · exact d
      obtain ⟨e1,e2⟩:=numR_back ht ha h1
      unfold encR
      rw [if_pos rfl]
      simp only
      rw [e2,Int.toNat_natCast,List.cons_append,← e1]
      congr 1
      omega
    · rename_i d
      rw [if_neg d]
      simp only at h1 ⊢
      have d1:(numR t (x % 16).toNat).2.1=true:=by
        cases q:(numR t (x % 16).toNat).2.1 with
        | true=>rfl
        | false=>exact absurd (.inl q) d
      have d2:x / 16≠0:=fun q=>d (.inr q)
      rw [Bool.and_eq_true,Bool.not_eq_true',decide_eq_false_iff_not] at h1
      obtain ⟨e1,e2⟩:=numR_back ht ha d1
      have hb:(x / 16).toNat=1∨(x / 16).toNat=2:=by omega
      obtain ⟨f1,f2⟩:=numR_back (numR_byts ht _) hb h1.1
      unfold encR
      rw [if_neg h1.2]
      simp only
      have g:last+(numR (numR t (x % 16).toNat).2.2 (x / 16).toNat).1 - last=(numR (numR t (x % 16).toNat).2.2 (x / 16).toNat).1:=by omega
      rw [g,e2,f2,Int.toNat_natCast,Int.toNat_natCast,List.cons_append,List.append_assoc,← f1,← e1]
      congr 1
      omega
theorem dK_back (s:List Int) (hB:Byts s):∀ k,(∀ j,j < k→¬ dstep (dK s j)=none)→s=(encL (dK s k).out).1++(dK s k).bs∧(dK s k).last=(encL (dK s k).out).2
  | 0,_=>⟨by simp [dK,encL],by simp [dK,encL]⟩
  | k+1,h=>by
    obtain ⟨h1,h2⟩:=dK_back s hB k (fun j hj=>h j (by omega))
    have hb:=(dK_ok s hB k (fun j hj=>h j (by omega))).2.2.2
    have h3:=h k (by omega)
    rw [dK]
    cases hs:dstep (dK s k) with
    | none=>exact absurd hs h3
    | some z=>
      obtain ⟨r,e1,e2,e3⟩:=dstep_back hb hs
      rw [Option.getD_some]
      have e:encL z.out=est (encL (dK s k).out) r:=by rw [e1];unfold encL;rw [List.foldl_append];rfl
      rw [e]
      unfold est
      simp only
      rw [← h2,List.append_assoc,← e2]
      exact ⟨h1,e3⟩
theorem enc_dec {s:List Int} (hB:Byts s) (h:(decV s).2=0):encV (decV s).1=(s,0):=by
  unfold decV at h ⊢
  split at h
  · cases h
  · rename_i hl
    rw [if_neg hl]
    have hk:=(dEnd_spec s hB).2.2
    obtain ⟨h1,_⟩:=dK_back s hB (dEnd s) hk
    generalize dK s (dEnd s)=z at *
    obtain ⟨bs,last,out⟩:=z
    unfold decZ at h ⊢
    simp only at h h1 ⊢
    split at h
    · cases h
    · rename_i c1
      rw [if_neg c1]
      split at h
      · rename_i c2;exact absurd h c2
      · rename_i c2
        rw [if_neg c2]
        have hb:bs=[0]:=by
          unfold decE at c1
          match bs with
          | []=>simp at c1
          | x::t=>
            simp only at c1
            split at c1
            · rename_i q;rw [q.1,q.2]
            · simp at c1
        subst hb
        unfold encV
        rw [errs1,if_neg c2]
        simp only
        rw [← h1]
end
section
variable {G:Glob}
theorem psR_z (s:List Int):((psR s).2≠0→(psR s).1=[])∧(psR s).1.length≤64:=by
  unfold psR
  split
  · simp
  · split
    · simp
    · rename_i l _
      split
      · rename_i h;exact ⟨fun h=>absurd rfl h,chk_len h⟩
      · simp
theorem same_ps (s:List Int):EV G (Tb (bs3 true)) 10 [runsV (psR s).1,vi (psR s).2,runsV (psR s).1,vi (psR s).2] []=some (vb true,[]):=by
  obtain ⟨h1,h2⟩:=psR_z s
  rw [same_v _ _ _ _ (by omega)]
  have:(psR s).2=(psR s).2∧((psR s).2≠0∧(psR s).1=[]∨(psR s).2=0∧(psR s).1=(psR s).1):=by
    refine ⟨rfl, ?_⟩
    by_cases h:(psR s).2=0
    · exact .inr ⟨h,rfl⟩
    · exact .inl ⟨h,h1 h⟩
  rw [decide_eq_true this]
theorem strings_v (l:List Run) (hr:∀ r∈l,inR r.s∧inR r.n) (s:List Int) (hB:Byts s):EV G (Tb (bs3 true)) 3 [runsV l,sv s] []=some (vb true,[]):=by
  refine EV_run rfl ?_
  have sz:((str s).size:Int)=s.length:=by rw [str_size]
  by_cases hl:(l.length:Int)≤80
  · by_cases hs:(s.length:Int)≤900
    · have q1:=prs3_v (bb:=true) (G:=G) s hB
      have q2:=rparse_v (G:=G) (B:=bs3 true) s hB (by omega)
      have q3:=fmt_v (bb:=true) (G:=G) l (by omega) hr
      have q4:=rfmt_v (bb:=true) (G:=G) l (by omega) hr
      have q5:=same_ps (G:=G) s
      generalize psR s=P at *
      obtain ⟨R,e⟩:=P
      simp only at q1 q2 q5
      generalize fmR l=t at *
      simp (disch:=first | omega | (simp only [List.length_append,List.length_cons,List.length_nil,List.length_map,sgK_len];omega)) only [go_sem,h3c,awk3_v,few_v,copyRuns_v,q1,q2,q3,q4,q5,sz,Bool.not_true,Bool.not_false]
      try rfl
    · simp (disch:=first | omega | (simp only [List.length_append,List.length_cons,List.length_nil,List.length_map,sgK_len];omega)) only [go_sem,h3c,awk3_v,few_v,sz,Bool.not_true,Bool.not_false]
      try rfl
  · simp (disch:=first | omega | (simp only [List.length_append,List.length_cons,List.length_nil,List.length_map,sgK_len];omega)) only [go_sem,h3c,awk3_v,few_v,sz,Bool.not_true,Bool.not_false]
    try rfl
theorem enc_byts (l:List Run):Byts ((encL l).1++[0]):=by
  have key:∀ (l:List Run) (p:List Int × Int),Byts p.1→Byts (l.foldl est p).1:=by
    intro l
    induction l with
    | nil=>intro p h;exact h
    | cons r l ih=>
      intro p h
      rw [List.foldl_cons]
      refine ih _ ?_
      unfold est
      intro x hx
      rcases List.mem_append.1 hx with hx | hx
      · exact h x hx
      · exact encR_byts _ _ x hx
  intro x hx
  rcases List.mem_append.1 hx with hx | hx
  · exact key l ([],0) (by intro b hb;cases hb) x hx
  · rw [List.mem_singleton] at hx;omega
theorem back_v (l:List Run) (hr:∀ r∈l,inR r.s∧inR r.n) (s:List Int) (hB:Byts s):EV G (Tb (bs3 true)) 4 [runsV l,sv s] []=some (vb true,[]):=by
  refine EV_run rfl ?_
  have sz:((str s).size:Int)=s.length:=by rw [str_size]
  by_cases hs:(s.length:Int)≤420
  rotate_left
  · simp (disch:=first | omega | (simp only [List.length_append,List.length_cons,List.length_nil,List.length_map,sgK_len];omega)) only [go_sem,h4c,awk3_v,few_v,sz,Bool.not_true,Bool.not_false]
    try rfl
  have d1:=decode_v (G:=G) (B:=bs3 true) s hB
  have d2:(decV s).2=0→EV G (Tb (bs3 true)) 15 [runsV (decV s).1] []=some (.tup [.one (.dc (.raw (.string (str s)))),.one (.dc (ci 0))],[]):=fun h=>by
    have:=encode_v (G:=G) (B:=bs3 true) (decV s).1
    rwa [enc_dec hB h] at this
  have er:=err_r (G:=G) (B:=bs3 true) l
  generalize decV s=D at *
  obtain ⟨M,e⟩:=D
  simp only at d1 d2
  by_cases hl:(l.length:Int)≤80
  rotate_left
  · by_cases c:e=0
    · have d2:=d2 c
      simp (disch:=first | omega | (simp only [List.length_append,List.length_cons,List.length_nil,List.length_map,sgK_len];omega)) only [go_sem,h4c,awk3_v,few_v,sz,d1,d2,eq_true c,Bool.not_true,Bool.not_false]
      try rfl
    · simp (disch:=first | omega | (simp only [List.length_append,List.length_cons,List.length_nil,List.length_map,sgK_len];omega)) only [go_sem,h4c,awk3_v,few_v,sz,d1,c,Bool.not_true,Bool.not_false]
      try rfl
  by_cases hc:(chk l).2=0
  rotate_left
  · by_cases c:e=0
    · have d2:=d2 c
      simp (disch:=first | omega | (simp only [List.length_append,List.length_cons,List.length_nil,List.length_map,sgK_len];omega)) only [go_sem,h4c,awk3_v,few_v,sz,d1,d2,er,eq_true c,hc,Bool.not_true,Bool.not_false]
      try rfl
    · simp (disch:=first | omega | (simp only [List.length_append,List.length_cons,List.length_nil,List.length_map,sgK_len];omega)) only [go_sem,h4c,awk3_v,few_v,sz,d1,er,c,hc,Bool.not_true,Bool.not_false]
      try rfl
  have g1:=encode_v (G:=G) (B:=bs3 true) l
  have eV:encV l=((encL l).1++[0],0):=by
    unfold encV;rw [errs1,if_neg (by rw [hc];simp)]
  rw [eV] at g1
  have g2:=decode_v (G:=G) (B:=bs3 true) ((encL l).1++[0]) (enc_byts l)
  rw [dec_enc hc] at g2
  have g3:=fmt_v (bb:=true) (G:=G) l (by omega) hr
  have g4:=prs3_v (bb:=true) (G:=G) (fmR l) (fmR_byts l)
  rw [psR_fm hc] at g4
  have g5:=sameRuns_v (G:=G) (B:=bs3 true) l l (by omega)
  rw [decide_eq_true rfl] at g5
  generalize (encL l).1++[0]=t at *
  generalize fmR l=u at *
  by_cases c:e=0
  · have d2:=d2 c
    simp (disch:=first | omega | (simp only [List.length_append,List.length_cons,List.length_nil,List.length_map,sgK_len];omega)) only [go_sem,h4c,awk3_v,few_v,sz,d1,d2,er,eq_true c,eq_true hc,copyRuns_v,g1,g2,g3,g4,g5,Bool.not_true,Bool.not_false]
    try rfl
  · simp (disch:=first | omega | (simp only [List.length_append,List.length_cons,List.length_nil,List.length_map,sgK_len];omega)) only [go_sem,h4c,awk3_v,few_v,sz,d1,er,c,eq_true hc,copyRuns_v,g1,g2,g3,g4,g5,Bool.not_true,Bool.not_false]
    try rfl
end
end Go.Proofs.YtmmafhopnkkeeaaGreatDoor
