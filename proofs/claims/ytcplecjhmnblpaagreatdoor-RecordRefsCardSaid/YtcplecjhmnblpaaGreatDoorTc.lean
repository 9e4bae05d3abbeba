/- Which of two attributes comes first, by the kit's own walk: the world behind the call. Conditions: none. -/
import Derived.Test.YtcplecjhmnblpaaGreatDoorChecked
import Derived.WalkKit
import Derived.Laws.Cover1
import Derived.Deep.RegionHeld3
import Derived.Sort.Grow
import Derived.Deep.Draws
import Derived.Test.YtcplecjhmnblpaaGreatDoorMk
namespace Go.Proofs.YtcplecjhmnblpaaGreatDoor
set_option linter.unusedSimpArgs false
set_option linter.unusedVariables false
open Go.RowKit Go.Sort
theorem cmpI_calls (a b:Int) (w:World):Calls Tryz.prog 168 #[.int .i64 a,.int .i64 b] w fun e w'=>e=.returned (.int .i64 (cmI a b))∧w'=w:=by
 unfold cmI
 go_enter Tryz.func168,Tryz.ntmps168
 go_wp2
 all_goals (go_ret;exact ⟨rfl,rfl⟩)
theorem cmB_gt {a b:List UInt8} (h1:Op.bytesLess a b=false) (h2:(!a==b)=true):cmB a b=1:=by
 have hne:a≠b:=by simpa using h2
 rcases bl_tot a b hne with q | q
 ·rw [h1] at q;cases q
 ·unfold cmB;rw [if_neg (by rw [h1];simp),if_pos q]
theorem cmB_eq {a b:List UInt8} (h1:Op.bytesLess a b=false) (h2:(!a==b)=false):cmB a b=0:=by
 have he:a=b:=by simpa using h2
 subst he
 unfold cmB
 rw [bl_irr];rfl
theorem cmpB_calls (a b:ByteArray) (w:World):Calls Tryz.prog 169 #[.string a,.string b] w fun e w'=>e=.returned (.int .i64 (cmB a.toList b.toList))∧w'=w:=by
 have h0:Op.bytesLess a.toList b.toList=true→cmB a.toList b.toList=-1:=fun h=>by unfold cmB;rw [if_pos h]
 have h1:Op.bytesLess a.toList b.toList=false→(!a.toList==b.toList)=true→cmB a.toList b.toList=1:=cmB_gt
 have h2:Op.bytesLess a.toList b.toList=false→(!a.toList==b.toList)=false→cmB a.toList b.toList=0:=cmB_eq
 generalize cmB a.toList b.toList=r at *
 go_enter Tryz.func169,Tryz.ntmps169
 go_wp2
 ·go_ret
  exact ⟨by rw [h0 (by assumption)];rfl,rfl⟩
 ·go_ret
  exact ⟨by rw [h1 (by assumption) (by assumption)];rfl,rfl⟩
 ·go_ret
  exact ⟨by rw [h2 (by assumption) (by assumption)];rfl,rfl⟩
def orZ:List Int→Int
 | []=>0
 | e::l=>if e=0 then orZ l else e
theorem orZ_skip:∀ (l:List Int) (k:Nat),k≤l.length→(∀ j,j < k→l.getD j 0=0)→orZ l=orZ (l.drop k)
 | l,0,_,_=>rfl
 | [],k+1,h,_=>by simp at h
 | e::l,k+1,h,hz=>by
  have h0:e=0:=hz 0 (by omega)
  rw [orZ,if_pos h0,List.drop_succ_cons]
  exact orZ_skip l k (by simpa using h) (fun j hj=>hz (j+1) (by omega))
theorem orZ_at {l:List Int} {k:Nat} (h:k < l.length) (hz:∀ j,j < k→l.getD j 0=0) (hk:l.getD k 0≠0):orZ l=l.getD k 0:=by
 rw [orZ_skip l k (by omega) hz]
 have e:l.drop k=l.getD k 0::l.drop (k+1):=by
  rw [List.drop_eq_getElem_cons h];simp [List.getD,h]
 rw [e,orZ,if_neg hk]
theorem orZ_none {l:List Int} (hz:∀ j,j < l.length→l.getD j 0=0):orZ l=0:=by
 rw [orZ_skip l l.length (Nat.le_refl _) hz];simp [orZ]
theorem or_calls (b off len cap:Nat) (zs:List Int) (w:World) (hl:len=zs.length) (hbig:len≤9223372036854775807) (hc:∀ j,j < zs.length→w.cell? ⟨b,off+j,none⟩=some (.int .i64 (zs.getD j 0))):
  Calls Tryz.prog 167 #[.slice (some ⟨b,off,none⟩) len cap] w fun e w'=>e=.returned (.int .i64 (orZ zs))∧w'=w:=by
 go_enter Tryz.func167,Tryz.ntmps167
 go_wp2
 go_loop [8] (fun i=>∃ k:Nat,k≤len∧i=.int .i64 k∧∀ j,j < k→zs.getD j 0=0) (fun i=>len - (intOf i).toNat)
 case atStart=>exact ⟨0,Nat.zero_le _,rfl,fun j hj=>by omega⟩
 case round=>
  obtain ⟨k,hk,rfl,hz⟩:=hrel
  have hcell:k < len→w.cell? ⟨b,off+k,none⟩=some (.int .i64 (zs.getD k 0)):=fun h=>hc k (by omega)
  go_wp2
  ·have hlt:k < zs.length:=by assumption
   have hne:(zs[k] != 0)=true:=by assumption
   have e:zs.getD k 0=zs[k]:=by simp [List.getD,hlt]
   have:=orZ_at hlt hz (by rw [e];simpa using hne)
   rw [this]
   go_ret
   exact ⟨by simp [List.getD,hlt],rfl⟩
  ·go_round
   case rel=>
    have hlt:k < zs.length:=by assumption
    have hne:(zs[k] != 0)=false:=by assumption
    have e:zs.getD k 0=zs[k]:=by simp [List.getD,hlt]
    refine ⟨k+1,by omega,by go_num,fun j hj=>?_⟩
    by_cases h:j=k
    ·subst h;rw [e];simpa using hne
    ·exact hz j (by omega)
   case measure=>simp [intOf];omega
  ·have hge:¬ k < zs.length:=by assumption
   rw [orZ_none (fun j hj=>hz j (by omega))]
   go_ret
   exact ⟨rfl,rfl⟩
theorem new4 (W:World) (o1 o2:Obj) (x0 x1 x2 x3:Int) (T:TypeId) (j:Nat) (hj:j < ([x0,x1,x2,x3]:List Int).length):
  (((W.alloc o1).alloc o2).alloc (.cells #[.int .i64 x0,.int .i64 x1,.int .i64 x2,.int .i64 x3] T)).drew.cell? ⟨W.heap.size+1+1,0+j,none⟩=some (.int .i64 (([x0,x1,x2,x3]:List Int).getD j 0)):=by
 have e:W.heap.size+1+1=((W.alloc o1).alloc o2).heap.size:=by
  show _=((W.heap.push o1).push o2).size
  rw [Array.size_push,Array.size_push]
 show (((W.alloc o1).alloc o2).alloc (.cells #[.int .i64 x0,.int .i64 x1,.int .i64 x2,.int .i64 x3] T)).cell? ⟨W.heap.size+1+1,0+j,none⟩=_
 rw [e,World.cell?_alloc_new,Nat.zero_add]
 match j,hj with
 | 0,_=>rfl
 | 1,_=>rfl
 | 2,_=>rfl
 | 3,_=>rfl
theorem grow3 (W:World) (o1 o2 o3:Obj):∃ q os',(((W.alloc o1).alloc o2).alloc o3).drew=grow (W.drewN q) os':=⟨1,#[o1,o2,o3],by
 simp only [alloc_eq_grow,grow_grow]
 rfl⟩
theorem compare_calls (t1 d1 f1 t2 d2 f2:Int) (n1 n2:ByteArray) (a3 a4 a5 a7 a8 a9 a10 b3 b4 b5 b7 b8 b9 b10:Value) (W:World):
  Calls Tryz.prog 119 #[.agg #[.int .i64 t1,.string n1,.int .i64 d1,a3,a4,a5,.int .i64 f1,a7,a8,a9,a10],.agg #[.int .i64 t2,.string n2,.int .i64 d2,b3,b4,b5,.int .i64 f2,b7,b8,b9,b10]] W fun e w'=>
   e=.returned (.int .i64 (orZ [cmI t1 t2,cmB n1.toList n2.toList,cmI f1 f2,cmI d1 d2]))∧∃ q os',w'=grow (W.drewN q) os':=by
 go_enter Tryz.func119,Tryz.ntmps119
 go_wp2
 go_region_held3 (fun w'=>w'.cell? ⟨W.heap.size,0,none⟩=some (.int .i64 t1)∧w'.cell? ⟨W.heap.size,1,none⟩=some (.string n1)∧w'.cell? ⟨W.heap.size,2,none⟩=some (.int .i64 d1)∧w'.cell? ⟨W.heap.size,6,none⟩=some (.int .i64 f1)∧
   w'.cell? ⟨W.heap.size+1,0,none⟩=some (.int .i64 t2)∧w'.cell? ⟨W.heap.size+1,1,none⟩=some (.string n2)∧w'.cell? ⟨W.heap.size+1,2,none⟩=some (.int .i64 d2)∧w'.cell? ⟨W.heap.size+1,6,none⟩=some (.int .i64 f2)) (go_keep)
  (first
   | (go_at_call 168;refine (cmpI_calls _ _ _).mono ?_;rintro e w' ⟨rfl,rfl⟩)
   | (go_at_call 169;refine (cmpB_calls _ _ _).mono ?_;rintro e w' ⟨rfl,rfl⟩)
   | (go_at_call 167;refine (or_calls _ _ _ _ [cmI t1 t2,cmB n1.toList n2.toList,cmI f1 f2,cmI d1 d2] _ ?_ ?_ ?_).mono ?_;(rfl);(decide);(exact new4 _ _ _ _ _ _ _ _);rintro e w' ⟨rfl,rfl⟩))
 all_goals go_wp2
 all_goals go_ret
 all_goals exact ⟨rfl,grow3 _ _ _ _⟩
end Go.Proofs.YtcplecjhmnblpaaGreatDoor
