/- Whether a cluster of a table stands there twice, or is one of something else: walked by the kit's rules, for the program keeps a set. Conditions: as each theorem says. -/
import Derived.Test.YthepfneloomngaaGreatDoorPa
import Derived.WalkKit
import Derived.WideMake
import Derived.MapKept
import Derived.Maps.OwnOps
import Derived.Laws.Cover1
import Derived.BigRegion
import Derived.Test.YthepfneloomngaaGreatDoorTa
namespace Go.Proofs.YthepfneloomngaaGreatDoor
set_option linter.unusedSimpArgs false
set_option linter.unusedVariables false
open Go.RowKit
section
variable {G:aE} {B:aO}
theorem aPv(s n a:Int)(h:-1000000<=s/\s<=1000000)(h':-1000000<=n/\n<=1000000):EV G (Tb B) 203 [rn s n,vi a] []=some (vb (decide (s<=a/\a<=s+n - 1)),[]):=by
 refine aA rfl ?_;have q1:=mN (G:=G) (B:=B) s n h h';have w:=iU (G:=G) (B:=B) a s (s+n - 1);simp (disch:=omega) only[go_sem,h203c,q1,w]
end
def So(w:World)(b:Nat)(l:List Int):Prop:=∃ es clk,w.heap[b]?=some (.map es clk)/\es.toList.map (fun e=>(e.key,e.val))=l.map fun k=>(Value.int .i64 k,Value.bool true)
theorem Sp(k:Int):∀ (l:List Int) (es:List MapEntry) (i:Nat),es.map (fun e=>(e.key,e.val))=l.map (fun k=>(Value.int .i64 k,Value.bool true))->k∈l->∃ j,Instr.findNow (.int .i64) (.int .i64 k) es i=some (some (j,.bool true))
 | [],es,i,h,hk=>by cases hk
 | x::l,[],i,h,hk=>by simp at h
 | x::l,e::es,i,h,hk=>by
  simp only[aXL,List.cons.injEq,Prod.mk.injEq] at h;obtain⟨⟨h1,h2⟩,h3⟩:=h;by_cases hx:k=x
  ·subst hx;exact⟨i,by simp[Instr.findNow,Instr.sameNow,h1,h2]⟩
  ·obtain⟨j,hj⟩:=Sp k l es (i+1) h3 (by simpa[hx] using hk);have hne:(k==x)=false:=by simpa using hx
   exact⟨j,by simp[Instr.findNow,Instr.sameNow,h1,hne,hj]⟩
theorem N8(k:Int):∀ (l:List Int) (es:List MapEntry) (i:Nat),es.map (fun e=>(e.key,e.val))=l.map (fun k=>(Value.int .i64 k,Value.bool true))->¬ k∈l->Instr.findNow (.int .i64) (.int .i64 k) es i=some none
 | [],[],i,h,hk=>rfl
 | [],e::es,i,h,hk=>by simp at h
 | x::l,[],i,h,hk=>by simp at h
 | x::l,e::es,i,h,hk=>by
  simp only[aXL,List.cons.injEq,Prod.mk.injEq] at h;obtain⟨⟨h1,h2⟩,h3⟩:=h;have hx:¬ k=x:=fun q=>hk (by simp[q])
  have ih:=N8 k l es (i+1) h3 (fun q=>hk (by simp[q]))
  have hne:(k==x)=false:=by simpa using hx
  simp[Instr.findNow,Instr.sameNow,h1,hne,ih]
section
variable {P:Program} {t kt et:TypeId}
theorem aF5(ht:P.underlying t=some (.map kt et))(hk:P.underlying kt=some (.int .i64)){w:World}(hz:(zeroValue et).run P w=.ok (.bool false) w){b:Nat}{l:List Int}(hs:So w b l)(n:Int):
  (Instr.lookup t (.map (some b)) (.int .i64 n) false).run P w=.ok (.bool (decide (n∈l))) w:=by
 obtain⟨es,clk,hb,he⟩:=hs;have hgo:(getObj b).run P w=.ok (.map es clk) w:=by simp only[getObj,Sem.run,hb]
 have hck:∀ q,(Instr.checkKey q (9999+1) kt (.int .i64 n)).run P w=.ok () w:=by
  intro q;unfold Instr.checkKey;simp[run_underlying hk]
 by_cases hn:n∈l
 ·obtain⟨j,hj⟩:=Sp n l es.toList 0 he hn;have hfk:(Instr.findKey kt (.int .i64 n) es.toList).run P w=.ok (some (j,.bool true)) w:=by
   simp[Instr.findKey,run_underlying hk,hj]
  simp[Instr.lookup,run_underlying ht,hgo,hck,hfk,hn]
 ·have hj:=N8 n l es.toList 0 he hn;have hfk:(Instr.findKey kt (.int .i64 n) es.toList).run P w=.ok none w:=by
   simp[Instr.findKey,run_underlying hk,hj]
  simp[Instr.lookup,run_underlying ht,hgo,hck,hfk,hn,hz]
theorem aKD(ht:P.underlying t=some (.map kt et))(hk:P.underlying kt=some (.int .i64)){w:World}{b:Nat}{l:List Int}(hs:So w b l)(n:Int)(hn:¬ n∈l):
  ∃ w',(Instr.mapUpdate t (.map (some b)) (.int .i64 n) (.bool true)).run P w=.ok () w'/\So w' b (l++[n])/\Below b w w'/\w'.heap.size=w.heap.size:=by
 obtain⟨es,clk,hb,he⟩:=hs;have hgo:(getObj b).run P w=.ok (.map es clk) w:=by simp only[getObj,Sem.run,hb]
 have hck:(Instr.checkKey false (9999+1) kt (.int .i64 n)).run P w=.ok () w:=by
  unfold Instr.checkKey;simp[run_underlying hk]
 have hj:=N8 n l es.toList 0 he hn;have hfk:(Instr.findKey kt (.int .i64 n) es.toList).run P w=.ok none w:=by
  simp[Instr.findKey,run_underlying hk,hj]
 have hlt:b < w.heap.size:=(Array.getElem?_eq_some_iff.1 hb).1;refine⟨{ w with heap:=w.heap.setIfInBounds b (.map (es.push { key:=.int .i64 n,val:=.bool true,born:=clk }) (clk+1)) }, ?_,⟨es.push { key:=.int .i64 n,val:=.bool true,born:=clk },clk+1,by simp[hlt],by simp[he]⟩,⟨rfl,rfl,rfl,by simp,fun k hk=>?_⟩,by simp⟩
 ·simp[Instr.mapUpdate,run_underlying ht,hgo,hck,hfk,MapKept.run_setObj_map _ hb]
 ·show (w.heap.setIfInBounds b _)[k]?=_;rw[Array.getElem?_setIfInBounds_ne (by omega)]
end
def Ck(x:Bt)(cl:List Int):Bool:=decide (∃ k,k < cl.length/\(cl.getD k 0∈0::(x.cl - 1)::cl.take k\/x.mi<=cl.getD k 0/\cl.getD k 0<=x.mi+8 - 1))
theorem Sq{f:FuncId}{args:List AV}{r:AV}(h:QC Tryz.prog (fun _=>none) f args r){vs:Array Value}(hv:lP (fun _=>none) [] args vs)(w:World):
  Calls Tryz.prog f vs w fun e w'=>∃ v F γ,e=.returned v/\RV F γ r v/\Below w.heap.size w w':=by
 refine (h (fun _=>none) [] vs w ⟨fun _ _ h=>(by cases h),rfl,fun _ _ _ h=>(by cases h),fun _ _ h=>(by cases h),fun _ _ _ h=>(by cases h)⟩ ⟨fun _ _ h=>(by cases h),fun _ _ h=>(by cases h)⟩ hv).mono ?_
 rintro e w' ⟨r',av,objs',F',γ',rfl,⟨rfl,_⟩,_,hE,_,hr⟩;exact⟨r',F',γ',rfl,hr,hE.os,hE.tape,hE.output,hE.size,fun k hk=>hE.far k hk (fun i h=>by cases h)⟩
theorem aKE{F:Fz}{γ:List OI}{a b:Value}{v:Value}(h:RV F γ (.agg [.dc (.raw a),.dc (.raw b)]) v):v=.agg #[a,b]:=by
 cases h with
 | agg _ vs hs h=>
  obtain⟨l⟩:=vs
  match l,hs with
  | [y,z],_=>
   have e0:=h 0 _ y rfl rfl;have e1:=h 1 _ z rfl rfl;cases e0 with | dc _ _ e0=>cases e0 with | raw _ _=>cases e1 with | dc _ _ e1=>cases e1 with | raw _ _=>rfl
theorem aF6(x:Bt)(w:World):Calls Tryz.prog 64 #[.agg #[.int .i64 x.cl,.int .i64 x.tb,.int .i64 x.mi,.int .i64 x.lg,.int .i64 x.lc,.int .i64 x.se]] w fun e w'=>e=.returned (.agg #[.int .i64 x.mi,.int .i64 8])/\Below w.heap.size w w':=by
 have q:=Qn (K5 _) (fun f args hp av o' h=>by cases h) (qO (G:=fun _=>none) (B:=fun _ _ _=>none) x)
 refine (Sq q (vs:=#[.agg #[.int .i64 x.cl,.int .i64 x.tb,.int .i64 x.mi,.int .i64 x.lg,.int .i64 x.lc,.int .i64 x.se]]) ⟨rfl,fun i av v h1 h2=>?_⟩ w).mono ?_
 ·match i with
  | 0=>
   injection h1 with h1;injection h2 with h2;subst h1;subst h2
   refine .agg _ _ rfl (fun i c v h1 h2=>?_)
   match i with
   | 0 | 1 | 2 | 3 | 4 | 5=>injection h1 with h1;injection h2 with h2;subst h1;subst h2;exact .dc _ _ (.raw _ rfl)
   | n+6=>simp at h1
  | n+1=>simp at h1
 ·rintro e w' ⟨v,F,γ,rfl,hr,hb⟩;rw[aKE hr];exact⟨rfl,hb⟩
theorem aMm(s n a:Int)(h:-1000000<=s/\s<=1000000)(h':-1000000<=n/\n<=1000000)(w:World):Calls Tryz.prog 203 #[.agg #[.int .i64 s,.int .i64 n],.int .i64 a] w fun e w'=>e=.returned (.bool (decide (s<=a/\a<=s+n - 1)))/\Below w.heap.size w w':=by
 have q:=Qn (K5 _) (fun f args hp av o' h=>by cases h) (aPv (G:=fun _=>none) (B:=fun _ _ _=>none) s n a h h')
 refine (Sq q (vs:=#[.agg #[.int .i64 s,.int .i64 n],.int .i64 a]) ⟨rfl,fun i av v h1 h2=>?_⟩ w).mono ?_
 ·match i with
  | 0=>
   injection h1 with h1;injection h2 with h2;subst h1;subst h2
   refine .agg _ _ rfl (fun i c v h1 h2=>?_)
   match i with
   | 0=>injection h1 with h1;injection h2 with h2;subst h1;subst h2;exact .dc _ _ (.raw _ rfl)
   | 1=>injection h1 with h1;injection h2 with h2;subst h1;subst h2;exact .dc _ _ (.raw _ rfl)
   | n+2=>simp at h1
  | 1=>injection h1 with h1;injection h2 with h2;subst h1;subst h2;exact .one _ _ (.dc _ _ (.raw _ rfl))
  | n+2=>simp at h1
 ·rintro e w' ⟨v,F,γ,rfl,hr,hb⟩;rw[cO hr];exact⟨rfl,hb⟩
set_option maxRecDepth 100000 in
theorem aKF(x:Bt)(cl:List Int)(b:Nat)(A:Option Addr)(cap:Nat)(w:World)(hx:(-1000000<=x.mi/\x.mi<=1000000)/\2<=x.cl/\x.cl<=1000000)(hl:cl.length<=1000000)
  (h0:w.cell? ⟨b,0,none⟩=some (.int .i64 x.cl)) (h1:w.cell? ⟨b,1,none⟩=some (.int .i64 x.tb)) (h2:w.cell? ⟨b,2,none⟩=some (.int .i64 x.mi)) (h3:w.cell? ⟨b,3,none⟩=some (.int .i64 x.lg))
  (h4:w.cell? ⟨b,4,none⟩=some (.int .i64 x.lc)) (h5:w.cell? ⟨b,5,none⟩=some (.int .i64 x.se)) (h9:w.cell? ⟨b,9,none⟩=some (.slice A cl.length cap))
  (hc:∀ j,j < cl.length->∃ B off,A=some ⟨B,off,none⟩/\w.cell? ⟨B,off+j,none⟩=some (.int .i64 (cl.getD j 0))):
  Calls Tryz.prog 154 #[.pointer (some ⟨b,0,none⟩)] w fun e w'=>e=.returned (.bool (Ck x cl))/\Below w.heap.size w w':=by
 have hmm:=fun w=>run_makeMap_plain (P:=Tryz.prog) (w:=w) 231
 have hB:b < w.heap.size:=by
  unfold World.cell? at h0;cases hw:w.heap[b]? with
  | none=>rw[hw] at h0;cases h0
  | some o=>exact (Array.getElem?_eq_some_iff.1 hw).1
 have hA:∀ o,(w.alloc o).cell? ⟨b,0,none⟩=some (.int .i64 x.cl):=fun o=>by
  rw[<- h0];exact ((Below.refl w.heap.size w).alloc (aXF _) o).cell (p:=⟨b,0,none⟩) hB
 have hbw:∀ o,Below w.heap.size w (w.alloc o).drew:=fun o=>by
  have:=(Below.refl w.heap.size w).alloc (aXF _) o;exact⟨this.os,this.tape,this.output,this.size,this.block⟩
 have hA':∀ o,(w.drew.alloc o).cell? ⟨b,0,none⟩=some (.int .i64 x.cl):=hA;have hne:¬ x.cl - 1=0:=by omega
 have i1:∀ w:World,(Instr.mapUpdate 231 (.map (some w.heap.size)) (.int .i64 (0)) (.bool true)).run Tryz.prog (w.alloc (.map #[] 0)).drew=.ok () (w.alloc (.map #[⟨.int .i64 (0),.bool true,0⟩] 1)).drew:=fun w=>Bo (P:=Tryz.prog) Tryz.underlying231 Tryz.underlying3 w.drew #[] 0 (0) (.bool true) (by simp)
 have i2:∀ w:World,(Instr.mapUpdate 231 (.map (some w.heap.size)) (.int .i64 (x.cl - 1)) (.bool true)).run Tryz.prog (w.alloc (.map #[] 0)).drew=.ok () (w.alloc (.map #[⟨.int .i64 (x.cl - 1),.bool true,0⟩] 1)).drew:=fun w=>Bo (P:=Tryz.prog) Tryz.underlying231 Tryz.underlying3 w.drew #[] 0 (x.cl - 1) (.bool true) (by simp)
 have i3:∀ w:World,(Instr.mapUpdate 231 (.map (some w.heap.size)) (.int .i64 (x.cl - 1)) (.bool true)).run Tryz.prog (w.alloc (.map #[⟨.int .i64 0,.bool true,0⟩] 1)).drew=.ok () (w.alloc (.map #[⟨.int .i64 0,.bool true,0⟩,⟨.int .i64 (x.cl - 1),.bool true,1⟩] 2)).drew:=fun w=>Bo (P:=Tryz.prog) Tryz.underlying231 Tryz.underlying3 w.drew #[⟨.int .i64 0,.bool true,0⟩] 1 (x.cl - 1) (.bool true) (by simp;omega)
 have i4:∀ w:World,(Instr.mapUpdate 231 (.map (some w.heap.size)) (.int .i64 (0)) (.bool true)).run Tryz.prog (w.alloc (.map #[⟨.int .i64 (x.cl - 1),.bool true,0⟩] 1)).drew=.ok () (w.alloc (.map #[⟨.int .i64 (x.cl - 1),.bool true,0⟩,⟨.int .i64 (0),.bool true,1⟩] 2)).drew:=fun w=>Bo (P:=Tryz.prog) Tryz.underlying231 Tryz.underlying3 w.drew #[⟨.int .i64 (x.cl - 1),.bool true,0⟩] 1 (0) (.bool true) (by simp;omega)
 have hw:IntKind.i64.wrap (x.cl - 1)=x.cl - 1:=C1 (by omega)
 go_enter Tryz.func154,Tryz.ntmps154
 go_wp2
 go_region
 all_goals
  go_wp2
  go_loopw [20] (fun i wr=>∃ k:Nat,k<=cl.length/\i=.int .i64 k/\(∀ j,j < k->¬ (cl.getD j 0∈0::(x.cl - 1)::cl.take j\/x.mi<=cl.getD j 0/\cl.getD j 0<=x.mi+8 - 1))/\(∃ l,So wr w.heap.size l/\∀ n,n∈l↔n∈0::(x.cl - 1)::cl.take k)/\Below w.heap.size w wr/\w.heap.size < wr.heap.size)
   (fun i _=>cl.length - (intOf i).toNat)
  case atStart=>first
   | exact⟨0,aXX _,rfl,fun j hj=>absurd hj (Nat.not_lt_zero j),⟨[0,x.cl - 1],⟨_,_,Array.getElem?_push_size ..,rfl⟩,fun n=>by simp⟩,hbw _,by simp⟩
   | exact⟨0,aXX _,rfl,fun j hj=>absurd hj (Nat.not_lt_zero j),⟨[x.cl - 1,0],⟨_,_,Array.getElem?_push_size ..,rfl⟩,fun n=>by simp[or_comm]⟩,hbw _,by simp⟩
  case round=>
   obtain⟨k,hk,rfl,hno,⟨l,hs,hm⟩,hnx,hlt⟩:=hrel;have hcc:∀ (i:Nat) v,w.cell? ⟨b,i,none⟩=some v->wr.cell? ⟨b,i,none⟩=some v:=fun i v h=>(hnx.cell (p:=⟨b,i,none⟩) hB).trans h
   have g0:=hcc _ _ h0;have g1:=hcc _ _ h1;have g2:=hcc _ _ h2;have g3:=hcc _ _ h3;have g4:=hcc _ _ h4;have g5:=hcc _ _ h5;by_cases hkl:k < cl.length
   ·obtain⟨B,off,rfl,hcx⟩:=hc k hkl;have hBl:B < w.heap.size:=by
     unfold World.cell? at hcx;cases hw:w.heap[B]? with
     | none=>rw[hw] at hcx;cases hcx
     | some o=>exact (Array.getElem?_eq_some_iff.1 hw).1
    replace hcx:=(hnx.cell (p:=⟨B,off+k,none⟩) hBl).trans hcx;have ek:cl.getD k 0=cl[k]:=by simp[hkl]
    rw[ek] at hcx;have hzero:(zeroValue 4).run Tryz.prog wr=.ok (.bool false) wr:=by kernel_rfl
    have hlook:=aF5 Tryz.underlying231 Tryz.underlying3 hzero hs cl[k];by_cases hin:cl[k]∈l
    ·rw[decide_eq_true hin] at hlook
     go_wp2
     go_ret
     refine⟨?_,hnx⟩;rw[show Ck x cl=true from decide_eq_true ⟨k,hkl,.inl (by rw[ek];exact (hm _).1 hin)⟩];rfl
    ·rw[decide_eq_false hin] at hlook;by_cases hr:x.mi<=cl[k]/\cl[k]<=x.mi+8 - 1
     ·go_wp2_with (first
       | (go_at_call 64;refine (aF6 x wr).mono ?_;rintro e W1 ⟨rfl,hb1⟩)
       | (go_at_call 203;refine (aMm x.mi 8 cl[k] (by omega) (by omega) _).mono ?_;rw[decide_eq_true hr];rintro e W2 ⟨rfl,hb2⟩))
      go_ret
      refine⟨?_,hnx.trans (Below.trans ⟨hb1.os,hb1.tape,hb1.output,hb1.size,fun k hk=>hb1.block k (by omega)⟩ ⟨hb2.os,hb2.tape,hb2.output,hb2.size,fun k hk=>hb2.block k (by have:=hb1.size;omega)⟩)⟩
      rw[show Ck x cl=true from decide_eq_true ⟨k,hkl,.inr (by rw[ek];exact hr)⟩];rfl
     ·go_wp2_with (first
       | (go_at_call 64;refine (aF6 x wr).mono ?_;rintro e W1 ⟨rfl,hb1⟩)
       | (go_at_call 203;refine (aMm x.mi 8 cl[k] (by omega) (by omega) _).mono ?_;rw[decide_eq_false hr];rintro e W2 ⟨rfl,hb2⟩;obtain⟨es,clk,hes,hel⟩:=hs;have hs2:So W2 w.heap.size l:=⟨es,clk,by rw[hb2.block _ (by have:=hb1.size;omega),hb1.block _ hlt];exact hes,hel⟩;obtain⟨W3,hput,hs3,hb3,hz3⟩:=aKD Tryz.underlying231 Tryz.underlying3 hs2 cl[k] hin))
      go_roundw
      case rel=>
       refine⟨k+1,by omega,by go_num,fun j hj=>?_,⟨_,hs3,fun n=>?_⟩, ?_, ?_⟩
       ·rcases Nat.lt_succ_iff_lt_or_eq.1 hj with h | rfl
        ·exact hno j h
        ·rw[ek];rintro (q | q)
         ·exact hin ((hm _).2 q)
         ·exact hr q
       ·rw[<- List.take_append_getElem hkl,aYV,hm n];simp only[aYR,aYV,List.not_mem_nil,or_false,or_assoc]
       ·exact hnx.trans (Below.trans ⟨hb1.os,hb1.tape,hb1.output,hb1.size,fun k hk=>hb1.block k (by omega)⟩ (Below.trans ⟨hb2.os,hb2.tape,hb2.output,hb2.size,fun k hk=>hb2.block k (by have:=hb1.size;omega)⟩ hb3))
       ·have:=hb1.size;have:=hb2.size;omega
      case measure=>simp[intOf];omega
   ·have e:k=cl.length:=by omega
    subst e
    go_wp2
    go_ret
    refine⟨?_,hnx⟩;rw[show Ck x cl=false from decide_eq_false (fun ⟨j,h1,h2⟩=>hno j h1 h2)];rfl
end Go.Proofs.YthepfneloomngaaGreatDoor
