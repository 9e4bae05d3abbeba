/- Part. Conditions: none. -/
import Derived.Test.YtalhnjjchkmfeabGreatDoorPa
import Derived.WalkKit
import Derived.WideMake
import Derived.MapKept
import Derived.Maps.OwnOps
import Derived.Laws.Cover1
import Derived.BigRegion
import Derived.Test.YtalhnjjchkmfeabGreatDoorTa
namespace Go.Proofs.YtalhnjjchkmfeabGreatDoor
set_option linter.unusedSimpArgs false
set_option linter.unusedVariables false
open Go.RowKit
section
variable {G:aE} {B:aN}
theorem aQX(s n a:Int)(h:-1000000<=s/\s<=1000000)(b:-1000000<=n/\n<=1000000):EV G (Tb B) 147 [rn s n,vi a] []=some (vb (decide (s<=a/\a<=s+n - 1)),[]):=by
 refine aA rfl ?_;have c:=qI (G:=G) (B:=B) s n h b;have w:=kO (G:=G) (B:=B) a s (s+n - 1);simp (disch:=omega) only[go_sem,h147c,c,w]
end
def Uw(w:World)(b:Nat)(l:L Int):Prop:=∃ es a,w.heap[b]?=some (.map es a)/\es.toList.map (fun e=>(e.key,e.val))=l.map fun k=>(Value.int .i64 k,Value.bool true)
theorem Ux(k:Int):∀ (l:L Int) (es:L MapEntry) (i:Nat),es.map (fun e=>(e.key,e.val))=l.map (fun k=>(Value.int .i64 k,Value.bool true))->k∈l->∃ j,Instr.findNow (.int .i64) (.int .i64 k) es i=some (some (j,.bool true))
 | [],es,i,h,a=>by cases a
 | x::l,[],i,h,a=>by simp at h
 | x::l,e::es,i,h,a=>by
  simp only[aZl,List.cons.injEq,Prod.mk.injEq] at h;obtain⟨⟨d,f⟩,h3⟩:=h;by_cases c:k=x
  ·subst c;exact⟨i,by simp[Instr.findNow,Instr.sameNow,d,f]⟩
  ·obtain⟨j,g⟩:=Ux k l es (i+1) h3 (by simpa[c] using a);have b:(k==x)=false:=by simpa using c
   exact⟨j,by simp[Instr.findNow,Instr.sameNow,d,b,g]⟩
theorem Qb(k:Int):∀ (l:L Int) (es:L MapEntry) (i:Nat),es.map (fun e=>(e.key,e.val))=l.map (fun k=>(Value.int .i64 k,Value.bool true))->¬ k∈l->Instr.findNow (.int .i64) (.int .i64 k) es i=some none
 | [],[],i,h,a=>rfl
 | [],e::es,i,h,a=>by simp at h
 | x::l,[],i,h,a=>by simp at h
 | x::l,e::es,i,h,a=>by
  simp only[aZl,List.cons.injEq,Prod.mk.injEq] at h;obtain⟨⟨c,g⟩,h3⟩:=h;have d:¬ k=x:=fun q=>a (by simp[q])
  have f:=Qb k l es (i+1) h3 (fun q=>a (by simp[q]))
  have b:(k==x)=false:=by simpa using d
  simp[Instr.findNow,Instr.sameNow,c,b,f]
section
variable {P:Program} {t kt et:TypeId}
theorem aHS(k:P.underlying t=some (.map kt et))(h:P.underlying kt=some (.int .i64)){w:World}(p:(zeroValue et).run P w=.ok (.bool false) w){b:Nat}{l:L Int}(o:Uw w b l)(n:Int):(Instr.lookup t (.map (some b)) (.int .i64 n) false).run P w=.ok (.bool (decide (n∈l))) w:=by
 obtain⟨es,f,m,i⟩:=o;have d:(getObj b).run P w=.ok (.map es f) w:=by simp only[getObj,Sem.run,m]
 have c:∀ q,(Instr.checkKey q (9999+1) kt (.int .i64 n)).run P w=.ok () w:=by
  intro q;unfold Instr.checkKey;simp[run_underlying h]
 by_cases e:n∈l
 ·obtain⟨j,g⟩:=Ux n l es.toList 0 i e;have a:(Instr.findKey kt (.int .i64 n) es.toList).run P w=.ok (some (j,.bool true)) w:=by
   simp[Instr.findKey,run_underlying h,g]
  simp[Instr.lookup,run_underlying k,d,c,a,e]
 ·have g:=Qb n l es.toList 0 i e;have a:(Instr.findKey kt (.int .i64 n) es.toList).run P w=.ok none w:=by
   simp[Instr.findKey,run_underlying h,g]
  simp[Instr.lookup,run_underlying k,d,c,a,e,p]
theorem aMr(p:P.underlying t=some (.map kt et))(g:P.underlying kt=some (.int .i64)){w:World}{b:Nat}{l:L Int}(o:Uw w b l)(n:Int)(m:¬ n∈l):∃ w',(Instr.mapUpdate t (.map (some b)) (.int .i64 n) (.bool true)).run P w=.ok () w'/\Uw w' b (l++[n])/\Below b w w'/\w'.heap.size=w.heap.size:=by
 obtain⟨es,a,c,i⟩:=o;have f:(getObj b).run P w=.ok (.map es a) w:=by simp only[getObj,Sem.run,c]
 have d:(Instr.checkKey false (9999+1) kt (.int .i64 n)).run P w=.ok () w:=by
  unfold Instr.checkKey;simp[run_underlying g]
 have j:=Qb n l es.toList 0 i m;have e:(Instr.findKey kt (.int .i64 n) es.toList).run P w=.ok none w:=by
  simp[Instr.findKey,run_underlying g,j]
 have h:b < w.heap.size:=(Array.getElem?_eq_some_iff.1 c).1;refine⟨{ w with heap:=w.heap.setIfInBounds b (.map (es.push { key:=.int .i64 n,val:=.bool true,born:=a }) (a+1)) }, ?_,⟨es.push { key:=.int .i64 n,val:=.bool true,born:=a },a+1,by simp[h],by simp[i]⟩,⟨rfl,rfl,rfl,by simp,fun k g=>?_⟩,by simp⟩
 ·simp[Instr.mapUpdate,run_underlying p,f,d,e,MapKept.run_setObj_map _ c]
 ·show (w.heap.setIfInBounds b _)[k]?=_;rw[Array.getElem?_setIfInBounds_ne (by omega)]
end
def uH(x:Bt)(a:L Int):Bool:=decide (∃ k,k < a.length/\(a.getD k 0∈0::(x.cl - 1)::a.take k\/x.mi<=a.getD k 0/\a.getD k 0<=x.mi+8 - 1))
theorem Uy{f:FuncId}{a:L AV}{r:AV}(h:QC Tryz.prog (fun _=>none) f a r){vs:Array Value}(j:mX (fun _=>none) [] a vs)(w:World):Calls Tryz.prog f vs w fun e w'=>∃ v F γ,e=.returned v/\RV F γ r v/\Below w.heap.size w w':=by
 refine (h (fun _=>none) [] vs w ⟨fun _ _ h=>(by cases h),rfl,fun _ _ _ h=>(by cases h),fun _ _ h=>(by cases h),fun _ _ _ h=>(by cases h)⟩ ⟨fun _ _ h=>(by cases h),fun _ _ h=>(by cases h)⟩ j).mono ?_
 rintro e w' ⟨l,av,c,F',γ',rfl,⟨rfl,_⟩,_,b,_,g⟩;exact⟨l,F',γ',rfl,g,b.os,b.tape,b.output,b.size,fun k d=>b.far k d (fun i h=>by cases h)⟩
theorem aMs{F:Fz}{γ:L OI}{a b:Value}{v:Value}(h:RV F γ (.agg [.dc (.raw a),.dc (.raw b)]) v):v=.agg #[a,b]:=by
 cases h with
 | agg _ vs e h=>
  obtain⟨l⟩:=vs
  match l,e with
  | [y,z],_=>
   have c:=h 0 _ y rfl rfl;have d:=h 1 _ z rfl rfl;cases c with | dc _ _ c=>cases c with | raw _ _=>cases d with | dc _ _ d=>cases d with | raw _ _=>rfl
theorem aHT(x:Bt)(w:World):Calls Tryz.prog 44 #[.agg #[.int .i64 x.cl,.int .i64 x.tb,.int .i64 x.mi,.int .i64 x.lg,.int .i64 x.lc,.int .i64 x.se]] w fun e w'=>e=.returned (.agg #[.int .i64 x.mi,.int .i64 8])/\Below w.heap.size w w':=by
 have q:=Zy (So _) (fun f d hp av k h=>by cases h) (A7 (G:=fun _=>none) (B:=fun _ _ _=>none) x)
 refine (Uy q (vs:=#[.agg #[.int .i64 x.cl,.int .i64 x.tb,.int .i64 x.mi,.int .i64 x.lg,.int .i64 x.lc,.int .i64 x.se]]) ⟨rfl,fun i av v a b=>?_⟩ w).mono ?_
 ·match i with
  | 0=>
   injection a with a;injection b with b;subst a;subst b
   refine .agg _ _ rfl (fun i c v a b=>?_)
   match i with
   | 0 | 1 | 2 | 3 | 4 | 5=>injection a with a;injection b with b;subst a;subst b;exact .dc _ _ (.raw _ rfl)
   | n+6=>simp at a
  | n+1=>simp at a
 ·rintro e w' ⟨v,F,γ,rfl,j,g⟩;rw[aMs j];exact⟨rfl,g⟩
theorem aNP(s n a:Int)(h:-1000000<=s/\s<=1000000)(j:-1000000<=n/\n<=1000000)(w:World):Calls Tryz.prog 147 #[.agg #[.int .i64 s,.int .i64 n],.int .i64 a] w fun e w'=>e=.returned (.bool (decide (s<=a/\a<=s+n - 1)))/\Below w.heap.size w w':=by
 have q:=Zy (So _) (fun f g hp av m h=>by cases h) (aQX (G:=fun _=>none) (B:=fun _ _ _=>none) s n a h j)
 refine (Uy q (vs:=#[.agg #[.int .i64 s,.int .i64 n],.int .i64 a]) ⟨rfl,fun i av v b d=>?_⟩ w).mono ?_
 ·match i with
  | 0=>
   injection b with b;injection d with d;subst b;subst d
   refine .agg _ _ rfl (fun i c v b d=>?_)
   match i with
   | 0=>injection b with b;injection d with d;subst b;subst d;exact .dc _ _ (.raw _ rfl)
   | 1=>injection b with b;injection d with d;subst b;subst d;exact .dc _ _ (.raw _ rfl)
   | n+2=>simp at b
  | 1=>injection b with b;injection d with d;subst b;subst d;exact .one _ _ (.dc _ _ (.raw _ rfl))
  | n+2=>simp at b
 ·rintro e w' ⟨v,F,γ,rfl,l,k⟩;rw[cX l];exact⟨rfl,k⟩
set_option maxRecDepth 100000 in
theorem aMt(x:Bt)(d:L Int)(b:Nat)(A:Option Addr)(cap:Nat)(w:World)(hx:(-1000000<=x.mi/\x.mi<=1000000)/\2<=x.cl/\x.cl<=1000000)(hl:d.length<=1000000) (C:w.cell? ⟨b,0,none⟩=some (.int .i64 x.cl)) (M:w.cell? ⟨b,1,none⟩=some (.int .i64 x.tb)) (N:w.cell? ⟨b,2,none⟩=some (.int .i64 x.mi)) (h3:w.cell? ⟨b,3,none⟩=some (.int .i64 x.lg)) (h4:w.cell? ⟨b,4,none⟩=some (.int .i64 x.lc)) (h5:w.cell? ⟨b,5,none⟩=some (.int .i64 x.se)) (h9:w.cell? ⟨b,9,none⟩=some (.slice A d.length cap)) (hc:∀ j,j < d.length->∃ B off,A=some ⟨B,off,none⟩/\w.cell? ⟨B,off+j,none⟩=some (.int .i64 (d.getD j 0))):Calls Tryz.prog 97 #[.pointer (some ⟨b,0,none⟩)] w fun e w'=>e=.returned (.bool (uH x d))/\Below w.heap.size w w':=by
 have hmm:=fun w=>run_makeMap_plain (P:=Tryz.prog) (w:=w) 192
 have Y:b < w.heap.size:=by
  unfold World.cell? at C;cases z:w.heap[b]? with
  | none=>rw[z] at C;cases C
  | some o=>exact (Array.getElem?_eq_some_iff.1 z).1
 have hA:∀ o,(w.alloc o).cell? ⟨b,0,none⟩=some (.int .i64 x.cl):=fun o=>by
  rw[<- C];exact ((Below.refl w.heap.size w).alloc (aZe _) o).cell (p:=⟨b,0,none⟩) Y
 have D:∀ o,Below w.heap.size w (w.alloc o).drew:=fun o=>by
  have:=(Below.refl w.heap.size w).alloc (aZe _) o;exact⟨this.os,this.tape,this.output,this.size,this.block⟩
 have hA':∀ o,(w.drew.alloc o).cell? ⟨b,0,none⟩=some (.int .i64 x.cl):=hA;have hne:¬ x.cl - 1=0:=by omega
 have i1:∀ w:World,(Instr.mapUpdate 192 (.map (some w.heap.size)) (.int .i64 (0)) (.bool true)).run Tryz.prog (w.alloc (.map #[] 0)).drew=.ok () (w.alloc (.map #[⟨.int .i64 (0),.bool true,0⟩] 1)).drew:=fun w=>Dj (P:=Tryz.prog) Tryz.underlying192 Tryz.underlying3 w.drew #[] 0 (0) (.bool true) (by simp)
 have i2:∀ w:World,(Instr.mapUpdate 192 (.map (some w.heap.size)) (.int .i64 (x.cl - 1)) (.bool true)).run Tryz.prog (w.alloc (.map #[] 0)).drew=.ok () (w.alloc (.map #[⟨.int .i64 (x.cl - 1),.bool true,0⟩] 1)).drew:=fun w=>Dj (P:=Tryz.prog) Tryz.underlying192 Tryz.underlying3 w.drew #[] 0 (x.cl - 1) (.bool true) (by simp)
 have i3:∀ w:World,(Instr.mapUpdate 192 (.map (some w.heap.size)) (.int .i64 (x.cl - 1)) (.bool true)).run Tryz.prog (w.alloc (.map #[⟨.int .i64 0,.bool true,0⟩] 1)).drew=.ok () (w.alloc (.map #[⟨.int .i64 0,.bool true,0⟩,⟨.int .i64 (x.cl - 1),.bool true,1⟩] 2)).drew:=fun w=>Dj (P:=Tryz.prog) Tryz.underlying192 Tryz.underlying3 w.drew #[⟨.int .i64 0,.bool true,0⟩] 1 (x.cl - 1) (.bool true) (by simp;omega)
 have i4:∀ w:World,(Instr.mapUpdate 192 (.map (some w.heap.size)) (.int .i64 (0)) (.bool true)).run Tryz.prog (w.alloc (.map #[⟨.int .i64 (x.cl - 1),.bool true,0⟩] 1)).drew=.ok () (w.alloc (.map #[⟨.int .i64 (x.cl - 1),.bool true,0⟩,⟨.int .i64 (0),.bool true,1⟩] 2)).drew:=fun w=>Dj (P:=Tryz.prog) Tryz.underlying192 Tryz.underlying3 w.drew #[⟨.int .i64 (x.cl - 1),.bool true,0⟩] 1 (0) (.bool true) (by simp;omega)
 have z:IntKind.i64.wrap (x.cl - 1)=x.cl - 1:=Et (by omega)
 go_enter Tryz.func97,Tryz.ntmps97
 go_wp2
 go_region
 all_goals
  go_wp2
  go_loopw [20] (fun i wr=>∃ k:Nat,k<=d.length/\i=.int .i64 k/\(∀ j,j < k->¬ (d.getD j 0∈0::(x.cl - 1)::d.take j\/x.mi<=d.getD j 0/\d.getD j 0<=x.mi+8 - 1))/\(∃ l,Uw wr w.heap.size l/\∀ n,n∈l↔n∈0::(x.cl - 1)::d.take k)/\Below w.heap.size w wr/\w.heap.size < wr.heap.size)
   (fun i _=>d.length - (intOf i).toNat)
  case atStart=>first
   | exact⟨0,aZx _,rfl,fun j E=>absurd E (Nat.not_lt_zero j),⟨[0,x.cl - 1],⟨_,_,Array.getElem?_push_size ..,rfl⟩,fun n=>by simp⟩,D _,by simp⟩
   | exact⟨0,aZx _,rfl,fun j E=>absurd E (Nat.not_lt_zero j),⟨[x.cl - 1,0],⟨_,_,Array.getElem?_push_size ..,rfl⟩,fun n=>by simp[or_comm]⟩,D _,by simp⟩
  case round=>
   obtain⟨k,I,rfl,F,⟨l,hs,U⟩,m,T⟩:=hrel;have f:∀ (i:Nat) v,w.cell? ⟨b,i,none⟩=some v->wr.cell? ⟨b,i,none⟩=some v:=fun i v h=>(m.cell (p:=⟨b,i,none⟩) Y).trans h
   have g0:=f _ _ C;have g1:=f _ _ M;have g2:=f _ _ N;have g3:=f _ _ h3;have g4:=f _ _ h4;have g5:=f _ _ h5;by_cases s:k < d.length
   ·obtain⟨B,off,rfl,g⟩:=hc k s;have O:B < w.heap.size:=by
     unfold World.cell? at g;cases z:w.heap[B]? with
     | none=>rw[z] at g;cases g
     | some o=>exact (Array.getElem?_eq_some_iff.1 z).1
    replace g:=(m.cell (p:=⟨B,off+k,none⟩) O).trans g;have H:d.getD k 0=d[k]:=by simp[s]
    rw[H] at g;have y:(zeroValue 4).run Tryz.prog wr=.ok (.bool false) wr:=by kernel_rfl
    have u:=aHS Tryz.underlying192 Tryz.underlying3 y hs d[k];by_cases r:d[k]∈l
    ·rw[decide_eq_true r] at u
     go_wp2
     go_ret
     refine⟨?_,m⟩;rw[show uH x d=true from decide_eq_true ⟨k,s,.inl (by rw[H];exact (U _).1 r)⟩];rfl
    ·rw[decide_eq_false r] at u;by_cases J:x.mi<=d[k]/\d[k]<=x.mi+8 - 1
     ·go_wp2_with (first
       | (go_at_call 44;refine (aHT x wr).mono ?_;rintro e W1 ⟨rfl,a⟩)
       | (go_at_call 147;refine (aNP x.mi 8 d[k] (by omega) (by omega) _).mono ?_;rw[decide_eq_true J];rintro e X ⟨rfl,c⟩))
      go_ret
      refine⟨?_,m.trans (Below.trans ⟨a.os,a.tape,a.output,a.size,fun k I=>a.block k (by omega)⟩ ⟨c.os,c.tape,c.output,c.size,fun k I=>c.block k (by have:=a.size;omega)⟩)⟩
      rw[show uH x d=true from decide_eq_true ⟨k,s,.inr (by rw[H];exact J)⟩];rfl
     ·go_wp2_with (first
       | (go_at_call 44;refine (aHT x wr).mono ?_;rintro e W1 ⟨rfl,a⟩)
       | (go_at_call 147;refine (aNP x.mi 8 d[k] (by omega) (by omega) _).mono ?_;rw[decide_eq_false J];rintro e X ⟨rfl,c⟩;obtain⟨es,K,S,R⟩:=hs;have V:Uw X w.heap.size l:=⟨es,K,by rw[c.block _ (by have:=a.size;omega),a.block _ T];exact S,R⟩;obtain⟨W3,Z,W,Q,hz3⟩:=aMr Tryz.underlying192 Tryz.underlying3 V d[k] r))
      go_roundw
      case rel=>
       refine⟨k+1,by omega,by go_num,fun j E=>?_,⟨_,W,fun n=>?_⟩, ?_, ?_⟩
       ·rcases Nat.lt_succ_iff_lt_or_eq.1 E with h | rfl
        ·exact F j h
        ·rw[H];rintro (q | q)
         ·exact r ((U _).2 q)
         ·exact J q
       ·rw[<- List.take_append_getElem s,bAB,U n];simp only[bAl,bAB,bAF,or_false,or_assoc]
       ·exact m.trans (Below.trans ⟨a.os,a.tape,a.output,a.size,fun k I=>a.block k (by omega)⟩ (Below.trans ⟨c.os,c.tape,c.output,c.size,fun k I=>c.block k (by have:=a.size;omega)⟩ Q))
       ·have:=a.size;have:=c.size;omega
      case measure=>simp[intOf];omega
   ·have e:k=d.length:=by omega
    subst e
    go_wp2
    go_ret
    refine⟨?_,m⟩;rw[show uH x d=false from decide_eq_false (fun ⟨j,M,N⟩=>F j M N)];rfl
