/- A number of few digits, by the library: the world behind the call, by the kit's own walk. Conditions: as the theorem says. -/
import Derived.Test.YtmmafhopnkkeeaaGreatDoorQa
import Derived.WalkKit
import Derived.Lib.AppendIntMem
import Derived.Laws.Cover1
import Derived.Deep.RegionHeld3
import Derived.Deep.Draws
namespace Go.Proofs.YtmmafhopnkkeeaaGreatDoor
set_option linter.unusedSimpArgs false
set_option linter.unusedVariables false
open Go.RowKit Go.Sort
def natP (s:ByteArray):Int × Bool:=match Lib.atoiAll s.data.toList with
 | .ok v=>(v,decide (0≤v)&&decide ((s.size:Int)≤4)&&(Lib.itoa v==s.toList))
 | .range=>(Lib.atoiSat s.data.toList,false)
 | _=>(0,false)
theorem nat_calls (s:ByteArray) (hs:s.size≤1000000) (w:World) (htab:Lib.TabIs Tryz.prog w "internal/strconv.uint64pow10" .u64 Lib.pow10Tab) {t1 t2:TypeId} {p1 p2:Value} (h1:w.cell? ⟨2,0,none⟩=some (.iface t1 p1)) (h2:w.cell? ⟨3,0,none⟩=some (.iface t2 p2)):
  Calls Tryz.prog 33 #[.string s] w fun e w'=>e=.returned (.tuple #[.int .i64 (natP s).1,.bool (natP s).2])∧Below w.heap.size w w':=by
 unfold natP
 have hB:=Lib.tabBelow_of_tabIs htab
 rcases ha:Lib.atoiAll s.data.toList with v | _ | _
 ·simp only
  obtain ⟨vb0,vb1⟩:=Lib.atoiAll_bounds ha
  generalize hr:(decide (0≤v)&&decide ((s.size:Int)≤4)&&(Lib.itoa v==s.toList))=r
  go_enter Tryz.func33,Tryz.ntmps33
  go_wp2_with (go_at_call 56;refine (Any.strconv_Atoi_ok Tryz.laysC172 s (by omega) v ha _).mono ?_;rintro e W1 ⟨rfl,hW⟩)
  all_goals
   have hb:Below w.heap.size w W1:=by
    rcases hW with rfl | ⟨t,rfl⟩
    ·exact Below.refl _ _
    ·exact Lib.bytesWorld_below _ _ _
   clear hW ha
  ·have htab1:=hB W1 hb
   go_wp2_with (go_at_call 38;refine (Tryz.strconv_Itoa v vb0 vb1 _ htab1).mono ?_;rintro e W2 ⟨rfl,k,os,rfl⟩)
   go_ret2
   refine ⟨?_,hb.trans (Lib.below_grow _ W1 hb.size k os)⟩
   rw [← hr,decide_eq_true (by assumption:0≤v),decide_eq_true (by assumption:(s.size:Int)≤4)]
   simp
  ·go_ret2
   refine ⟨?_,hb⟩
   rw [← hr,decide_eq_false (by omega:¬ (s.size:Int)≤4)]
   simp
  ·go_ret2
   refine ⟨?_,hb⟩
   rw [← hr,decide_eq_false (by omega:¬ 0≤v)]
   simp
 ·go_enter Tryz.func33,Tryz.ntmps33
  go_wp2_with (go_at_call 56;refine (Any.strconv_Atoi_syntax Tryz.laysC172 s (by omega) ha _ _ h1 (.inr ⟨_,_,rfl⟩)).mono ?_;rintro e W1 ⟨N,rfl,hN,_,hb⟩)
  all_goals
   go_ret2
   exact ⟨rfl,hb⟩
 ·go_enter Tryz.func33,Tryz.ntmps33
  go_wp2_with (go_at_call 56;refine (Any.strconv_Atoi_range Tryz.laysC172 s (by omega) ha _ _ h2 (.inr ⟨_,_,rfl⟩)).mono ?_;rintro e W1 ⟨N,rfl,hN,_,hb⟩)
  all_goals
   go_ret2
   exact ⟨rfl,hb⟩
end Go.Proofs.YtmmafhopnkkeeaaGreatDoor
