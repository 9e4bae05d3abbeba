/- The functions of the translation as codes of the abstract states: printed by a program, held by the kernel against the translation. Conditions: none. -/
import Derived.Test.YtginjcpblgpcoaaLu
import Derived.Test.YtginjcpblgpcoaaChecked
import Derived.KernelRfl
namespace Go.Proofs.Ytginjcpblgpcoaa

/-- depository/depositorylaw03.RunsPlaces -/
def c3 : ACode :=
  (.seq (.region [⟨some 4, .mov (.k (.bool false)), none⟩])
  (.seq (.seq (.region [⟨some 8, .call 9 [], none⟩,
    ⟨some 9, .un .not (.t 8), none⟩])
  (.cond (.t 9) (.seq (.region [⟨some 4, .mov (.k (.bool false)), none⟩])
  .ret)
  .skip))
  (.seq (.seq (.region [⟨some 10, .mov (.t 0), none⟩,
    ⟨some 11, .call 10 [(.t 10)], none⟩,
    ⟨some 12, .un .not (.t 11), none⟩])
  (.cond (.t 12) (.seq (.region [⟨some 4, .mov (.k (.bool true)), none⟩])
  .ret)
  .skip))
  (.seq (.region [⟨some 14, .mov (.t 0), none⟩,
    ⟨some 15, .call 12 [(.t 14)], none⟩,
    ⟨some 16, .mov (.t 1), none⟩,
    ⟨some 17, .call 11 [(.t 15), (.t 16)], none⟩,
    ⟨some 13, .mov (.t 17), none⟩,
    ⟨some 18, .ext (.t 13) 0, none⟩,
    ⟨some 19, .ext (.t 13) 1, none⟩,
    ⟨some 5, .alloc [(.int .i64 0), (.int .i64 0)], none⟩,
    ⟨none, .store 2 (.t 5) (.t 18), none⟩,
    ⟨some 6, .mov (.t 19), none⟩])
  (.seq (.region [⟨some 20, .mov (.t 0), none⟩,
    ⟨some 21, .call 13 [(.t 20)], none⟩,
    ⟨some 7, .mov (.t 21), none⟩])
  (.seq (.seq (.region [⟨some 22, .mov (.t 7), none⟩,
    ⟨some 23, .bin .eql (.t 22) (.k (.int .i64 0)), none⟩,
    ⟨some 24, .mov (.t 23), none⟩,
    ⟨some 25, .mov (.t 1), some (24, true)⟩,
    ⟨some 26, .bin .lss (.t 25) (.k (.int .i64 0)), some (24, true)⟩,
    ⟨some 27, .pick (.t 24) (.t 26) (.k (.bool false)), none⟩])
  (.cond (.t 27) (.region [⟨some 7, .mov (.k (.int .i64 2)), none⟩])
  .skip))
  (.seq (.seq (.region [⟨some 28, .mov (.t 7), none⟩,
    ⟨some 29, .bin .eql (.t 28) (.k (.int .i64 0)), none⟩,
    ⟨some 30, .mov (.t 29), none⟩,
    ⟨some 31, .mov (.t 1), some (30, true)⟩,
    ⟨some 32, .mov (.t 0), some (30, true)⟩,
    ⟨some 33, .call 14 [(.t 32)], some (30, true)⟩,
    ⟨some 34, .bin .geq (.t 31) (.t 33), some (30, true)⟩,
    ⟨some 35, .pick (.t 30) (.t 34) (.k (.bool false)), none⟩])
  (.cond (.t 35) (.region [⟨some 7, .mov (.k (.int .i64 37)), none⟩])
  .skip))
  (.seq (.seq (.region [⟨some 36, .mov (.t 7), none⟩,
    ⟨some 37, .bin .neq (.t 36) (.k (.int .i64 0)), none⟩])
  (.cond (.t 37) (.seq (.region [⟨some 38, .mov (.t 6), none⟩,
    ⟨some 39, .mov (.t 7), none⟩,
    ⟨some 40, .bin .eql (.t 38) (.t 39), none⟩,
    ⟨some 41, .mov (.t 40), none⟩,
    ⟨some 42, .load true 2 (.t 5), some (41, true)⟩,
    ⟨some 43, .build [(.int .i64 0), (.int .i64 0)] [], some (41, true)⟩,
    ⟨some 44, .eqs false [.i, .i] (.t 42) (.t 43), some (41, true)⟩,
    ⟨some 45, .pick (.t 41) (.t 44) (.k (.bool false)), none⟩,
    ⟨some 4, .mov (.t 45), none⟩])
  .ret)
  .skip))
  (.seq (.drawn [(true, ⟨some 46, .mov (.t 6), none⟩),
    (true, ⟨some 47, .bin .eql (.t 46) (.k (.int .i64 0)), none⟩),
    (true, ⟨some 48, .mov (.t 47), none⟩),
    (true, ⟨some 49, .load true 2 (.t 5), some (48, true)⟩),
    (true, ⟨some 50, .mov (.t 0), some (48, true)⟩),
    (true, ⟨some 51, .mov (.t 1), some (48, true)⟩),
    (true, ⟨some 52, .call 15 [(.t 50), (.t 51)], some (48, true)⟩),
    (true, ⟨some 53, .eqs false [.i, .i] (.t 49) (.t 52), some (48, true)⟩),
    (true, ⟨some 54, .pick (.t 48) (.t 53) (.k (.bool false)), none⟩),
    (true, ⟨some 4, .mov (.t 54), none⟩)])
  .ret)))))))))
theorem c3_ok : (Try.f3.body).bind (compileC Try.prog) = some c3 := by kernel_rfl
theorem r3_ok : Try.f3.results.toList.mapM (retOf Try.prog) = some [.tmp 4] := by kernel_rfl

/-- depository/depositorylaw03.RunsParts -/
def c5 : ACode :=
  (.seq (.region [⟨some 5, .box (.t 2), none⟩,
    ⟨some 6, .mov (.k (.bool false)), none⟩])
  (.seq (.seq (.region [⟨some 17, .call 9 [], none⟩,
    ⟨some 18, .un .not (.t 17), none⟩])
  (.cond (.t 18) (.seq (.region [⟨some 6, .mov (.k (.bool false)), none⟩])
  .ret)
  .skip))
  (.seq (.seq (.region [⟨some 19, .mov (.t 0), none⟩,
    ⟨some 20, .call 10 [(.t 19)], none⟩,
    ⟨some 21, .un .not (.t 20), none⟩,
    ⟨some 22, .mov (.t 21), none⟩,
    ⟨some 23, .mov (.t 1), some (22, false)⟩,
    ⟨some 24, .call 10 [(.t 23)], some (22, false)⟩,
    ⟨some 25, .un .not (.t 24), some (22, false)⟩,
    ⟨some 26, .pick (.t 22) (.k (.bool true)) (.t 25), none⟩])
  (.cond (.t 26) (.seq (.region [⟨some 6, .mov (.k (.bool true)), none⟩])
  .ret)
  .skip))
  (.seq (.drawn [(true, ⟨some 28, .mov (.t 0), none⟩),
    (true, ⟨some 29, .call 12 [(.t 28)], none⟩),
    (true, ⟨some 30, .ixA 2 1 (.t 5) (.k (.int .i64 0)), none⟩),
    (true, ⟨some 31, .load false 1 (.t 30), none⟩),
    (true, ⟨some 32, .ixA 2 1 (.t 5) (.k (.int .i64 1)), none⟩),
    (true, ⟨some 33, .load false 1 (.t 32), none⟩),
    (false, ⟨some 34, .call 26 [(.t 29), (.t 31), (.t 33)], none⟩),
    (true, ⟨some 27, .mov (.t 34), none⟩),
    (true, ⟨some 35, .ext (.t 27) 0, none⟩),
    (true, ⟨some 36, .ext (.t 27) 1, none⟩),
    (true, ⟨some 7, .mov (.t 35), none⟩),
    (true, ⟨some 8, .mov (.t 36), none⟩)])
  (.seq (.drawn [(true, ⟨some 38, .mov (.t 0), none⟩),
    (true, ⟨some 39, .call 12 [(.t 38)], none⟩),
    (true, ⟨some 40, .ixA 2 1 (.t 5) (.k (.int .i64 0)), none⟩),
    (true, ⟨some 41, .load false 1 (.t 40), none⟩),
    (true, ⟨some 42, .ixA 2 1 (.t 5) (.k (.int .i64 1)), none⟩),
    (true, ⟨some 43, .load false 1 (.t 42), none⟩),
    (false, ⟨some 44, .call 27 [(.t 39), (.t 41), (.t 43)], none⟩),
    (true, ⟨some 37, .mov (.t 44), none⟩),
    (true, ⟨some 45, .ext (.t 37) 0, none⟩),
    (true, ⟨some 46, .ext (.t 37) 1, none⟩),
    (true, ⟨some 9, .mov (.t 45), none⟩),
    (true, ⟨some 10, .mov (.t 46), none⟩)])
  (.seq (.region [⟨some 48, .mov (.t 0), none⟩,
    ⟨some 49, .call 12 [(.t 48)], none⟩,
    ⟨some 50, .mov (.t 1), none⟩,
    ⟨some 51, .call 12 [(.t 50)], none⟩,
    ⟨some 52, .call 28 [(.t 49), (.t 51)], none⟩,
    ⟨some 47, .mov (.t 52), none⟩,
    ⟨some 53, .ext (.t 47) 0, none⟩,
    ⟨some 54, .ext (.t 47) 1, none⟩,
    ⟨some 11, .mov (.t 53), none⟩,
    ⟨some 12, .mov (.t 54), none⟩])
  (.seq (.region [⟨some 55, .mov (.t 0), none⟩,
    ⟨some 56, .call 13 [(.t 55)], none⟩,
    ⟨some 13, .mov (.t 56), none⟩])
  (.seq (.region [⟨some 57, .mov (.t 13), none⟩,
    ⟨some 14, .mov (.t 57), none⟩])
  (.seq (.seq (.region [⟨some 58, .mov (.t 14), none⟩,
    ⟨some 59, .bin .eql (.t 58) (.k (.int .i64 0)), none⟩])
  (.cond (.t 59) (.region [⟨some 60, .mov (.t 1), none⟩,
    ⟨some 61, .call 13 [(.t 60)], none⟩,
    ⟨some 14, .mov (.t 61), none⟩])
  .skip))
  (.seq (.seq (.region [⟨some 62, .mov (.t 14), none⟩,
    ⟨some 63, .bin .eql (.t 62) (.k (.int .i64 0)), none⟩])
  (.cond (.t 63) (.region [⟨some 64, .mov (.t 0), none⟩,
    ⟨some 65, .call 12 [(.t 64)], none⟩,
    ⟨some 66, .mov (.t 1), none⟩,
    ⟨some 67, .app 2 16 [(.int .i64 0), (.int .i64 0)] (.t 65) (.t 66), none⟩,
    ⟨some 68, .call 24 [(.t 67)], none⟩,
    ⟨some 14, .mov (.t 68), none⟩])
  .skip))
  (.seq (.seq (.region [⟨some 69, .mov (.t 14), none⟩,
    ⟨some 70, .bin .eql (.t 69) (.k (.int .i64 0)), none⟩,
    ⟨some 71, .mov (.t 70), none⟩,
    ⟨some 72, .mov (.t 11), some (71, true)⟩,
    ⟨some 73, .mov (.t 12), some (71, true)⟩,
    ⟨some 74, .mov (.t 0), some (71, true)⟩,
    ⟨some 75, .call 12 [(.t 74)], some (71, true)⟩,
    ⟨some 76, .mov (.t 1), some (71, true)⟩,
    ⟨some 77, .app 2 16 [(.int .i64 0), (.int .i64 0)] (.t 75) (.t 76), some (71, true)⟩,
    ⟨some 78, .call 29 [(.t 77)], some (71, true)⟩,
    ⟨some 79, .call 19 [(.t 72), (.t 73), (.t 78), (.k (.int .i64 0))], some (71, true)⟩,
    ⟨some 80, .un .not (.t 79), some (71, true)⟩,
    ⟨some 81, .pick (.t 71) (.t 80) (.k (.bool false)), none⟩,
    ⟨some 82, .mov (.t 81), none⟩,
    ⟨some 83, .mov (.t 14), some (82, false)⟩,
    ⟨some 84, .bin .neq (.t 83) (.k (.int .i64 0)), some (82, false)⟩,
    ⟨some 85, .mov (.t 84), some (82, false)⟩,
    ⟨some 86, .mov (.t 11), some (85, true)⟩,
    ⟨some 87, .mov (.t 12), some (85, true)⟩,
    ⟨some 88, .mov (.t 14), some (85, true)⟩,
    ⟨some 89, .call 19 [(.t 86), (.t 87), (.k (.slice none 0 0)), (.t 88)], some (85, true)⟩,
    ⟨some 90, .un .not (.t 89), some (85, true)⟩,
    ⟨some 91, .pick (.t 85) (.t 90) (.k (.bool false)), some (82, false)⟩,
    ⟨some 92, .pick (.t 82) (.k (.bool true)) (.t 91), none⟩])
  (.cond (.t 92) (.seq (.region [⟨some 6, .mov (.k (.bool false)), none⟩])
  .ret)
  .skip))
  (.seq (.seq (.region [⟨some 93, .mov (.t 13), none⟩,
    ⟨some 94, .bin .eql (.t 93) (.k (.int .i64 0)), none⟩,
    ⟨some 95, .mov (.t 94), none⟩,
    ⟨some 96, .ixA 2 1 (.t 5) (.k (.int .i64 0)), some (95, true)⟩,
    ⟨some 97, .load false 1 (.t 96), some (95, true)⟩,
    ⟨some 98, .call 21 [(.t 97), (.k (.int .i64 0)), (.k (.int .i64 4096))], some (95, true)⟩,
    ⟨some 99, .un .not (.t 98), some (95, true)⟩,
    ⟨some 100, .mov (.t 99), some (95, true)⟩,
    ⟨some 101, .ixA 2 1 (.t 5) (.k (.int .i64 1)), some (100, false)⟩,
    ⟨some 102, .load false 1 (.t 101), some (100, false)⟩,
    ⟨some 103, .call 21 [(.t 102), (.k (.int .i64 0)), (.k (.int .i64 4096))], some (100, false)⟩,
    ⟨some 104, .un .not (.t 103), some (100, false)⟩,
    ⟨some 105, .pick (.t 100) (.k (.bool true)) (.t 104), some (95, true)⟩,
    ⟨some 106, .pick (.t 95) (.t 105) (.k (.bool false)), none⟩])
  (.cond (.t 106) (.region [⟨some 13, .mov (.k (.int .i64 2)), none⟩])
  .skip))
  (.seq (.seq (.drawn [(true, ⟨some 107, .mov (.t 13), none⟩),
    (true, ⟨some 108, .bin .eql (.t 107) (.k (.int .i64 0)), none⟩),
    (true, ⟨some 109, .mov (.t 108), none⟩),
    (true, ⟨some 110, .ixA 2 1 (.t 5) (.k (.int .i64 0)), some (109, true)⟩),
    (true, ⟨some 111, .load false 1 (.t 110), some (109, true)⟩),
    (true, ⟨some 112, .ixA 2 1 (.t 5) (.k (.int .i64 1)), some (109, true)⟩),
    (true, ⟨some 113, .load false 1 (.t 112), some (109, true)⟩),
    (true, ⟨some 114, .bin .add (.t 111) (.t 113), some (109, true)⟩),
    (true, ⟨some 115, .mov (.t 0), some (109, true)⟩),
    (true, ⟨some 116, .call 14 [(.t 115)], some (109, true)⟩),
    (true, ⟨some 117, .bin .gtr (.t 114) (.t 116), some (109, true)⟩),
    (true, ⟨some 118, .pick (.t 109) (.t 117) (.k (.bool false)), none⟩)])
  (.cond (.t 118) (.region [⟨some 13, .mov (.k (.int .i64 37)), none⟩])
  .skip))
  (.seq (.seq (.region [⟨some 119, .mov (.t 13), none⟩,
    ⟨some 120, .bin .neq (.t 119) (.k (.int .i64 0)), none⟩])
  (.cond (.t 120) (.seq (.region [⟨some 121, .mov (.t 7), none⟩,
    ⟨some 122, .mov (.t 8), none⟩,
    ⟨some 123, .mov (.t 13), none⟩,
    ⟨some 124, .call 19 [(.t 121), (.t 122), (.k (.slice none 0 0)), (.t 123)], none⟩,
    ⟨some 125, .mov (.t 124), none⟩,
    ⟨some 126, .mov (.t 9), some (125, true)⟩,
    ⟨some 127, .mov (.t 10), some (125, true)⟩,
    ⟨some 128, .mov (.t 13), some (125, true)⟩,
    ⟨some 129, .call 19 [(.t 126), (.t 127), (.k (.slice none 0 0)), (.t 128)], some (125, true)⟩,
    ⟨some 130, .pick (.t 125) (.t 129) (.k (.bool false)), none⟩,
    ⟨some 6, .mov (.t 130), none⟩])
  .ret)
  .skip))
  (.seq (.region [⟨some 131, .mov (.t 0), none⟩,
    ⟨some 132, .call 22 [(.t 131)], none⟩,
    ⟨some 15, .mov (.t 132), none⟩])
  (.seq (.drawn [(true, ⟨some 133, .mov (.t 15), none⟩),
    (true, ⟨some 134, .ixA 2 1 (.t 5) (.k (.int .i64 0)), none⟩),
    (true, ⟨some 135, .load false 1 (.t 134), none⟩),
    (true, ⟨some 136, .slL 1 (.t 133) none (some (.t 135)), none⟩),
    (true, ⟨some 138, .mov (.t 15), none⟩),
    (true, ⟨some 139, .ixA 2 1 (.t 5) (.k (.int .i64 0)), none⟩),
    (true, ⟨some 140, .load false 1 (.t 139), none⟩),
    (true, ⟨some 141, .ixA 2 1 (.t 5) (.k (.int .i64 1)), none⟩),
    (true, ⟨some 142, .load false 1 (.t 141), none⟩),
    (true, ⟨some 143, .bin .add (.t 140) (.t 142), none⟩),
    (true, ⟨some 144, .slL 1 (.t 138) (some (.t 143)) none, none⟩),
    (false, ⟨some 137, .call 23 [(.t 136)], none⟩),
    (false, ⟨some 145, .app 1 8 [(.int .i64 0)] (.t 137) (.t 144), none⟩),
    (true, ⟨some 16, .mov (.t 145), none⟩)])
  (.seq (.region [⟨some 146, .mov (.t 7), none⟩,
    ⟨some 147, .mov (.t 8), none⟩,
    ⟨some 148, .mov (.t 15), none⟩,
    ⟨some 149, .ixA 2 1 (.t 5) (.k (.int .i64 0)), none⟩,
    ⟨some 150, .load false 1 (.t 149), none⟩,
    ⟨some 151, .ixA 2 1 (.t 5) (.k (.int .i64 0)), none⟩,
    ⟨some 152, .load false 1 (.t 151), none⟩,
    ⟨some 153, .ixA 2 1 (.t 5) (.k (.int .i64 1)), none⟩,
    ⟨some 154, .load false 1 (.t 153), none⟩,
    ⟨some 155, .bin .add (.t 152) (.t 154), none⟩,
    ⟨some 156, .slL 1 (.t 148) (some (.t 150)) (some (.t 155)), none⟩,
    ⟨some 157, .call 25 [(.t 156)], none⟩,
    ⟨some 158, .call 19 [(.t 146), (.t 147), (.t 157), (.k (.int .i64 0))], none⟩,
    ⟨some 159, .mov (.t 158), none⟩,
    ⟨some 160, .mov (.t 9), some (159, true)⟩,
    ⟨some 161, .mov (.t 10), some (159, true)⟩,
    ⟨some 162, .mov (.t 16), some (159, true)⟩,
    ⟨some 163, .call 25 [(.t 162)], some (159, true)⟩,
    ⟨some 164, .call 19 [(.t 160), (.t 161), (.t 163), (.k (.int .i64 0))], some (159, true)⟩,
    ⟨some 165, .pick (.t 159) (.t 164) (.k (.bool false)), none⟩,
    ⟨some 6, .mov (.t 165), none⟩])
  .ret)))))))))))))))))
theorem c5_ok : (Try.f5.body).bind (compileC Try.prog) = some c5 := by kernel_rfl
theorem r5_ok : Try.f5.results.toList.mapM (retOf Try.prog) = some [.tmp 6] := by kernel_rfl

/-- depository/depositorylaw03.RunsBytes -/
def c6 : ACode :=
  (.seq (.region [⟨some 4, .mov (.k (.bool false)), none⟩])
  (.seq (.seq (.region [⟨some 12, .call 9 [], none⟩,
    ⟨some 13, .un .not (.t 12), none⟩])
  (.cond (.t 13) (.seq (.region [⟨some 4, .mov (.k (.bool false)), none⟩])
  .ret)
  .skip))
  (.seq (.seq (.region [⟨some 14, .mov (.t 0), none⟩,
    ⟨some 15, .call 10 [(.t 14)], none⟩,
    ⟨some 16, .un .not (.t 15), none⟩,
    ⟨some 17, .mov (.t 16), none⟩,
    ⟨some 18, .mov (.t 1), some (17, false)⟩,
    ⟨some 19, .lenS (.t 18), some (17, false)⟩,
    ⟨some 20, .bin .gtr (.t 19) (.k (.int .i64 420)), some (17, false)⟩,
    ⟨some 21, .pick (.t 17) (.k (.bool true)) (.t 20), none⟩])
  (.cond (.t 21) (.seq (.region [⟨some 4, .mov (.k (.bool true)), none⟩])
  .ret)
  .skip))
  (.seq (.region [⟨some 23, .mov (.t 0), none⟩,
    ⟨some 24, .call 12 [(.t 23)], none⟩,
    ⟨some 25, .call 30 [(.t 24)], none⟩,
    ⟨some 22, .mov (.t 25), none⟩,
    ⟨some 26, .ext (.t 22) 0, none⟩,
    ⟨some 27, .ext (.t 22) 1, none⟩,
    ⟨some 5, .mov (.t 26), none⟩,
    ⟨some 6, .mov (.t 27), none⟩])
  (.seq (.region [⟨some 29, .mov (.t 1), none⟩,
    ⟨some 30, .call 31 [(.t 29)], none⟩,
    ⟨some 28, .mov (.t 30), none⟩,
    ⟨some 31, .ext (.t 28) 0, none⟩,
    ⟨some 32, .ext (.t 28) 1, none⟩,
    ⟨some 7, .mov (.t 31), none⟩,
    ⟨some 8, .mov (.t 32), none⟩])
  (.seq (.region [⟨some 34, .mov (.t 1), none⟩,
    ⟨some 35, .call 32 [(.t 34)], none⟩,
    ⟨some 33, .mov (.t 35), none⟩,
    ⟨some 36, .ext (.t 33) 0, none⟩,
    ⟨some 37, .ext (.t 33) 1, none⟩,
    ⟨some 9, .mov (.t 36), none⟩,
    ⟨some 10, .mov (.t 37), none⟩])
  (.seq (.seq (.region [⟨some 38, .mov (.t 7), none⟩,
    ⟨some 39, .mov (.t 8), none⟩,
    ⟨some 40, .mov (.t 9), none⟩,
    ⟨some 41, .mov (.t 10), none⟩,
    ⟨some 42, .call 19 [(.t 38), (.t 39), (.t 40), (.t 41)], none⟩,
    ⟨some 43, .un .not (.t 42), none⟩])
  (.cond (.t 43) (.seq (.region [⟨some 4, .mov (.k (.bool false)), none⟩])
  .ret)
  .skip))
  (.seq (.seq (.region [⟨some 44, .mov (.t 0), none⟩,
    ⟨some 45, .call 13 [(.t 44)], none⟩,
    ⟨some 11, .mov (.t 45), none⟩])
  (.seq (.region [⟨some 46, .mov (.t 11), none⟩,
    ⟨some 47, .bin .neq (.t 46) (.k (.int .i64 0)), none⟩])
  (.cond (.t 47) (.seq (.region [⟨some 48, .mov (.t 6), none⟩,
    ⟨some 49, .mov (.t 11), none⟩,
    ⟨some 50, .bin .eql (.t 48) (.t 49), none⟩,
    ⟨some 51, .mov (.t 50), none⟩,
    ⟨some 52, .mov (.t 5), some (51, true)⟩,
    ⟨some 53, .bin .eql (.t 52) (.k (.string ⟨#[]⟩)), some (51, true)⟩,
    ⟨some 54, .pick (.t 51) (.t 53) (.k (.bool false)), none⟩,
    ⟨some 4, .mov (.t 54), none⟩])
  .ret)
  .skip)))
  (.seq (.region [⟨some 55, .mov (.t 6), none⟩,
    ⟨some 56, .bin .eql (.t 55) (.k (.int .i64 0)), none⟩,
    ⟨some 57, .mov (.t 56), none⟩,
    ⟨some 58, .mov (.t 5), some (57, true)⟩,
    ⟨some 59, .mov (.t 0), some (57, true)⟩,
    ⟨some 60, .call 33 [(.t 59)], some (57, true)⟩,
    ⟨some 61, .bin .eql (.t 58) (.t 60), some (57, true)⟩,
    ⟨some 62, .pick (.t 57) (.t 61) (.k (.bool false)), none⟩,
    ⟨some 4, .mov (.t 62), none⟩])
  .ret)))))))))
theorem c6_ok : (Try.f6.body).bind (compileC Try.prog) = some c6 := by kernel_rfl
theorem r6_ok : Try.f6.results.toList.mapM (retOf Try.prog) = some [.tmp 4] := by kernel_rfl

/-- depository/depositorylaw03.RunsChecks -/
def c7 : ACode :=
  (.seq (.region [⟨some 2, .mov (.k (.bool false)), none⟩])
  (.seq (.seq (.region [⟨some 16, .call 9 [], none⟩,
    ⟨some 17, .un .not (.t 16), none⟩])
  (.cond (.t 17) (.seq (.region [⟨some 2, .mov (.k (.bool false)), none⟩])
  .ret)
  .skip))
  (.seq (.seq (.region [⟨some 18, .mov (.t 0), none⟩,
    ⟨some 19, .call 10 [(.t 18)], none⟩,
    ⟨some 20, .un .not (.t 19), none⟩])
  (.cond (.t 20) (.seq (.region [⟨some 2, .mov (.k (.bool true)), none⟩])
  .ret)
  .skip))
  (.seq (.region [⟨some 22, .mov (.t 0), none⟩,
    ⟨some 23, .call 12 [(.t 22)], none⟩,
    ⟨some 24, .call 34 [(.t 23)], none⟩,
    ⟨some 21, .mov (.t 24), none⟩,
    ⟨some 25, .ext (.t 21) 0, none⟩,
    ⟨some 26, .ext (.t 21) 1, none⟩,
    ⟨some 3, .mov (.t 25), none⟩,
    ⟨some 4, .mov (.t 26), none⟩])
  (.seq (.region [⟨some 28, .mov (.t 0), none⟩,
    ⟨some 29, .call 12 [(.t 28)], none⟩,
    ⟨some 30, .call 35 [(.t 29)], none⟩,
    ⟨some 27, .mov (.t 30), none⟩,
    ⟨some 31, .ext (.t 27) 0, none⟩,
    ⟨some 32, .ext (.t 27) 1, none⟩,
    ⟨some 5, .mov (.t 31), none⟩,
    ⟨some 6, .mov (.t 32), none⟩])
  (.seq (.region [⟨some 34, .mov (.t 0), none⟩,
    ⟨some 35, .call 12 [(.t 34)], none⟩,
    ⟨some 36, .call 36 [(.t 35)], none⟩,
    ⟨some 33, .mov (.t 36), none⟩,
    ⟨some 37, .ext (.t 33) 0, none⟩,
    ⟨some 38, .ext (.t 33) 1, none⟩,
    ⟨some 7, .mov (.t 37), none⟩,
    ⟨some 8, .mov (.t 38), none⟩])
  (.seq (.region [⟨some 40, .mov (.t 0), none⟩,
    ⟨some 41, .call 12 [(.t 40)], none⟩,
    ⟨some 42, .call 37 [(.t 41)], none⟩,
    ⟨some 39, .mov (.t 42), none⟩,
    ⟨some 43, .ext (.t 39) 0, none⟩,
    ⟨some 44, .ext (.t 39) 1, none⟩,
    ⟨some 9, .mov (.t 43), none⟩,
    ⟨some 10, .mov (.t 44), none⟩])
  (.seq (.region [⟨some 46, .mov (.t 0), none⟩,
    ⟨some 47, .call 12 [(.t 46)], none⟩,
    ⟨some 48, .call 38 [(.t 47)], none⟩,
    ⟨some 45, .mov (.t 48), none⟩,
    ⟨some 49, .ext (.t 45) 0, none⟩,
    ⟨some 50, .ext (.t 45) 1, none⟩,
    ⟨some 11, .mov (.t 49), none⟩,
    ⟨some 12, .mov (.t 50), none⟩])
  (.seq (.region [⟨some 52, .mov (.t 0), none⟩,
    ⟨some 53, .call 39 [(.t 52)], none⟩,
    ⟨some 51, .mov (.t 53), none⟩,
    ⟨some 54, .ext (.t 51) 0, none⟩,
    ⟨some 55, .ext (.t 51) 1, none⟩,
    ⟨some 13, .mov (.t 54), none⟩,
    ⟨some 14, .mov (.t 55), none⟩])
  (.seq (.seq (.region [⟨some 56, .mov (.t 4), none⟩,
    ⟨some 57, .mov (.t 14), none⟩,
    ⟨some 58, .bin .neq (.t 56) (.t 57), none⟩,
    ⟨some 59, .mov (.t 58), none⟩,
    ⟨some 60, .mov (.t 3), some (59, false)⟩,
    ⟨some 61, .mov (.t 13), some (59, false)⟩,
    ⟨some 62, .bin .neq (.t 60) (.t 61), some (59, false)⟩,
    ⟨some 63, .pick (.t 59) (.k (.bool true)) (.t 62), none⟩])
  (.cond (.t 63) (.seq (.region [⟨some 2, .mov (.k (.bool false)), none⟩])
  .ret)
  .skip))
  (.seq (.region [⟨some 64, .mov (.t 0), none⟩,
    ⟨some 65, .call 40 [(.t 64)], none⟩,
    ⟨some 15, .mov (.t 65), none⟩])
  (.seq (.seq (.region [⟨some 66, .mov (.t 15), none⟩,
    ⟨some 67, .bin .eql (.t 66) (.k (.int .i64 0)), none⟩,
    ⟨some 68, .mov (.t 67), none⟩,
    ⟨some 69, .mov (.t 5), some (68, true)⟩,
    ⟨some 70, .mov (.t 6), some (68, true)⟩,
    ⟨some 71, .mov (.t 0), some (68, true)⟩,
    ⟨some 72, .call 29 [(.t 71)], some (68, true)⟩,
    ⟨some 73, .call 19 [(.t 69), (.t 70), (.t 72), (.k (.int .i64 0))], some (68, true)⟩,
    ⟨some 74, .un .not (.t 73), some (68, true)⟩,
    ⟨some 75, .pick (.t 68) (.t 74) (.k (.bool false)), none⟩,
    ⟨some 76, .mov (.t 75), none⟩,
    ⟨some 77, .mov (.t 15), some (76, false)⟩,
    ⟨some 78, .bin .neq (.t 77) (.k (.int .i64 0)), some (76, false)⟩,
    ⟨some 79, .mov (.t 78), some (76, false)⟩,
    ⟨some 80, .mov (.t 5), some (79, true)⟩,
    ⟨some 81, .mov (.t 6), some (79, true)⟩,
    ⟨some 82, .mov (.t 15), some (79, true)⟩,
    ⟨some 83, .call 19 [(.t 80), (.t 81), (.k (.slice none 0 0)), (.t 82)], some (79, true)⟩,
    ⟨some 84, .un .not (.t 83), some (79, true)⟩,
    ⟨some 85, .pick (.t 79) (.t 84) (.k (.bool false)), some (76, false)⟩,
    ⟨some 86, .pick (.t 76) (.k (.bool true)) (.t 85), none⟩])
  (.cond (.t 86) (.seq (.region [⟨some 2, .mov (.k (.bool false)), none⟩])
  .ret)
  .skip))
  (.seq (.seq (.region [⟨some 87, .mov (.t 14), none⟩,
    ⟨some 88, .bin .neq (.t 87) (.k (.int .i64 0)), none⟩])
  (.cond (.t 88) (.seq (.region [⟨some 89, .mov (.t 8), none⟩,
    ⟨some 90, .mov (.t 14), none⟩,
    ⟨some 91, .bin .eql (.t 89) (.t 90), none⟩,
    ⟨some 92, .mov (.t 91), none⟩,
    ⟨some 93, .mov (.t 10), some (92, true)⟩,
    ⟨some 94, .mov (.t 14), some (92, true)⟩,
    ⟨some 95, .bin .eql (.t 93) (.t 94), some (92, true)⟩,
    ⟨some 96, .pick (.t 92) (.t 95) (.k (.bool false)), none⟩,
    ⟨some 97, .mov (.t 96), none⟩,
    ⟨some 98, .mov (.t 7), some (97, true)⟩,
    ⟨some 99, .bin .eql (.t 98) (.k (.int .i64 0)), some (97, true)⟩,
    ⟨some 100, .pick (.t 97) (.t 99) (.k (.bool false)), none⟩,
    ⟨some 101, .mov (.t 100), none⟩,
    ⟨some 102, .mov (.t 9), some (101, true)⟩,
    ⟨some 103, .bin .eql (.t 102) (.k (.int .i64 0)), some (101, true)⟩,
    ⟨some 104, .pick (.t 101) (.t 103) (.k (.bool false)), none⟩,
    ⟨some 105, .mov (.t 104), none⟩,
    ⟨some 106, .mov (.t 11), some (105, true)⟩,
    ⟨some 107, .mov (.t 12), some (105, true)⟩,
    ⟨some 108, .mov (.t 14), some (105, true)⟩,
    ⟨some 109, .call 19 [(.t 106), (.t 107), (.k (.slice none 0 0)), (.t 108)], some (105, true)⟩,
    ⟨some 110, .pick (.t 105) (.t 109) (.k (.bool false)), none⟩,
    ⟨some 2, .mov (.t 110), none⟩])
  .ret)
  .skip))
  (.seq (.region [⟨some 111, .mov (.t 8), none⟩,
    ⟨some 112, .bin .eql (.t 111) (.k (.int .i64 0)), none⟩,
    ⟨some 113, .mov (.t 112), none⟩,
    ⟨some 114, .mov (.t 7), some (113, true)⟩,
    ⟨some 115, .mov (.t 0), some (113, true)⟩,
    ⟨some 116, .call 14 [(.t 115)], some (113, true)⟩,
    ⟨some 117, .bin .eql (.t 114) (.t 116), some (113, true)⟩,
    ⟨some 118, .pick (.t 113) (.t 117) (.k (.bool false)), none⟩,
    ⟨some 119, .mov (.t 118), none⟩,
    ⟨some 120, .mov (.t 10), some (119, true)⟩,
    ⟨some 121, .bin .eql (.t 120) (.k (.int .i64 0)), some (119, true)⟩,
    ⟨some 122, .pick (.t 119) (.t 121) (.k (.bool false)), none⟩,
    ⟨some 123, .mov (.t 122), none⟩,
    ⟨some 124, .mov (.t 9), some (123, true)⟩,
    ⟨some 125, .mov (.t 0), some (123, true)⟩,
    ⟨some 126, .call 41 [(.t 125)], some (123, true)⟩,
    ⟨some 127, .bin .eql (.t 124) (.t 126), some (123, true)⟩,
    ⟨some 128, .pick (.t 123) (.t 127) (.k (.bool false)), none⟩,
    ⟨some 129, .mov (.t 128), none⟩,
    ⟨some 130, .mov (.t 11), some (129, true)⟩,
    ⟨some 131, .mov (.t 12), some (129, true)⟩,
    ⟨some 132, .mov (.t 0), some (129, true)⟩,
    ⟨some 133, .call 20 [(.t 132), (.k (.slice none 0 0))], some (129, true)⟩,
    ⟨some 134, .call 19 [(.t 130), (.t 131), (.t 133), (.k (.int .i64 0))], some (129, true)⟩,
    ⟨some 135, .pick (.t 129) (.t 134) (.k (.bool false)), none⟩,
    ⟨some 2, .mov (.t 135), none⟩])
  .ret))))))))))))))
theorem c7_ok : (Try.f7.body).bind (compileC Try.prog) = some c7 := by kernel_rfl
theorem r7_ok : Try.f7.results.toList.mapM (retOf Try.prog) = some [.tmp 2] := by kernel_rfl

/-- depository/depositorylaw03.RunsHalves -/
def c8 : ACode :=
  (.seq (.region [⟨some 6, .mov (.k (.bool false)), none⟩])
  (.seq (.seq (.region [⟨some 28, .call 9 [], none⟩,
    ⟨some 29, .un .not (.t 28), none⟩])
  (.cond (.t 29) (.seq (.region [⟨some 6, .mov (.k (.bool false)), none⟩])
  .ret)
  .skip))
  (.seq (.seq (.region [⟨some 30, .mov (.t 0), none⟩,
    ⟨some 31, .call 10 [(.t 30)], none⟩,
    ⟨some 32, .un .not (.t 31), none⟩,
    ⟨some 33, .mov (.t 32), none⟩,
    ⟨some 34, .mov (.t 0), some (33, false)⟩,
    ⟨some 35, .call 13 [(.t 34)], some (33, false)⟩,
    ⟨some 36, .bin .neq (.t 35) (.k (.int .i64 0)), some (33, false)⟩,
    ⟨some 37, .pick (.t 33) (.k (.bool true)) (.t 36), none⟩])
  (.cond (.t 37) (.seq (.region [⟨some 6, .mov (.k (.bool true)), none⟩])
  .ret)
  .skip))
  (.seq (.region [⟨some 39, .mov (.t 0), none⟩,
    ⟨some 40, .call 12 [(.t 39)], none⟩,
    ⟨some 41, .call 36 [(.t 40)], none⟩,
    ⟨some 38, .mov (.t 41), none⟩,
    ⟨some 42, .ext (.t 38) 0, none⟩,
    ⟨some 43, .ext (.t 38) 1, none⟩,
    ⟨some 7, .mov (.t 42), none⟩,
    ⟨some 8, .mov (.t 43), none⟩])
  (.seq (.seq (.region [⟨some 44, .mov (.t 8), none⟩,
    ⟨some 45, .bin .neq (.t 44) (.k (.int .i64 0)), none⟩,
    ⟨some 46, .mov (.t 45), none⟩,
    ⟨some 47, .mov (.t 7), some (46, false)⟩,
    ⟨some 48, .call 21 [(.t 47), (.k (.int .i64 0)), (.k (.int .i64 4096))], some (46, false)⟩,
    ⟨some 49, .un .not (.t 48), some (46, false)⟩,
    ⟨some 50, .pick (.t 46) (.k (.bool true)) (.t 49), none⟩])
  (.cond (.t 50) (.seq (.region [⟨some 6, .mov (.k (.bool false)), none⟩])
  .ret)
  .skip))
  (.seq (.region [⟨some 51, .mov (.t 2), none⟩,
    ⟨some 52, .mov (.t 7), none⟩,
    ⟨some 53, .bin .add (.t 52) (.k (.int .i64 1)), none⟩,
    ⟨some 54, .call 42 [(.t 51), (.t 53)], none⟩,
    ⟨some 9, .mov (.t 54), none⟩])
  (.seq (.region [⟨some 56, .mov (.t 0), none⟩,
    ⟨some 57, .call 12 [(.t 56)], none⟩,
    ⟨some 58, .mov (.t 9), none⟩,
    ⟨some 59, .call 26 [(.t 57), (.k (.int .i64 0)), (.t 58)], none⟩,
    ⟨some 55, .mov (.t 59), none⟩,
    ⟨some 60, .ext (.t 55) 0, none⟩,
    ⟨some 61, .ext (.t 55) 1, none⟩,
    ⟨some 10, .mov (.t 60), none⟩,
    ⟨some 11, .mov (.t 61), none⟩])
  (.seq (.region [⟨some 63, .mov (.t 0), none⟩,
    ⟨some 64, .call 12 [(.t 63)], none⟩,
    ⟨some 65, .mov (.t 9), none⟩,
    ⟨some 66, .mov (.t 7), none⟩,
    ⟨some 67, .mov (.t 9), none⟩,
    ⟨some 68, .bin .sub (.t 66) (.t 67), none⟩,
    ⟨some 69, .call 26 [(.t 64), (.t 65), (.t 68)], none⟩,
    ⟨some 62, .mov (.t 69), none⟩,
    ⟨some 70, .ext (.t 62) 0, none⟩,
    ⟨some 71, .ext (.t 62) 1, none⟩,
    ⟨some 12, .mov (.t 70), none⟩,
    ⟨some 13, .mov (.t 71), none⟩])
  (.seq (.region [⟨some 73, .mov (.t 10), none⟩,
    ⟨some 74, .call 12 [(.t 73)], none⟩,
    ⟨some 75, .mov (.t 12), none⟩,
    ⟨some 76, .call 12 [(.t 75)], none⟩,
    ⟨some 77, .call 28 [(.t 74), (.t 76)], none⟩,
    ⟨some 72, .mov (.t 77), none⟩,
    ⟨some 78, .ext (.t 72) 0, none⟩,
    ⟨some 79, .ext (.t 72) 1, none⟩,
    ⟨some 14, .mov (.t 78), none⟩,
    ⟨some 15, .mov (.t 79), none⟩])
  (.seq (.seq (.region [⟨some 80, .mov (.t 11), none⟩,
    ⟨some 81, .bin .neq (.t 80) (.k (.int .i64 0)), none⟩,
    ⟨some 82, .mov (.t 81), none⟩,
    ⟨some 83, .mov (.t 13), some (82, false)⟩,
    ⟨some 84, .bin .neq (.t 83) (.k (.int .i64 0)), some (82, false)⟩,
    ⟨some 85, .pick (.t 82) (.k (.bool true)) (.t 84), none⟩,
    ⟨some 86, .mov (.t 85), none⟩,
    ⟨some 87, .mov (.t 15), some (86, false)⟩,
    ⟨some 88, .bin .neq (.t 87) (.k (.int .i64 0)), some (86, false)⟩,
    ⟨some 89, .pick (.t 86) (.k (.bool true)) (.t 88), none⟩,
    ⟨some 90, .mov (.t 89), none⟩,
    ⟨some 91, .mov (.t 14), some (90, false)⟩,
    ⟨some 92, .mov (.t 0), some (90, false)⟩,
    ⟨some 93, .call 43 [(.t 91), (.t 92)], some (90, false)⟩,
    ⟨some 94, .un .not (.t 93), some (90, false)⟩,
    ⟨some 95, .pick (.t 90) (.k (.bool true)) (.t 94), none⟩])
  (.cond (.t 95) (.seq (.region [⟨some 6, .mov (.k (.bool false)), none⟩])
  .ret)
  .skip))
  (.seq (.seq (.region [⟨some 96, .mov (.t 9), none⟩,
    ⟨some 97, .mov (.t 7), none⟩,
    ⟨some 98, .bin .lss (.t 96) (.t 97), none⟩])
  (.cond (.t 98) (.seq (.region [⟨some 100, .mov (.t 0), none⟩,
    ⟨some 101, .call 12 [(.t 100)], none⟩,
    ⟨some 102, .mov (.t 9), none⟩,
    ⟨some 103, .call 11 [(.t 101), (.t 102)], none⟩,
    ⟨some 99, .mov (.t 103), none⟩,
    ⟨some 104, .ext (.t 99) 0, none⟩,
    ⟨some 105, .ext (.t 99) 1, none⟩,
    ⟨some 16, .alloc [(.int .i64 0), (.int .i64 0)], none⟩,
    ⟨none, .store 2 (.t 16) (.t 104), none⟩,
    ⟨some 17, .mov (.t 105), none⟩])
  (.seq (.region [⟨some 107, .mov (.t 12), none⟩,
    ⟨some 108, .call 11 [(.t 107), (.k (.int .i64 0))], none⟩,
    ⟨some 106, .mov (.t 108), none⟩,
    ⟨some 109, .ext (.t 106) 0, none⟩,
    ⟨some 110, .ext (.t 106) 1, none⟩,
    ⟨some 18, .alloc [(.int .i64 0), (.int .i64 0)], none⟩,
    ⟨none, .store 2 (.t 18) (.t 109), none⟩,
    ⟨some 19, .mov (.t 110), none⟩])
  (.seq (.region [⟨some 111, .mov (.t 17), none⟩,
    ⟨some 112, .bin .neq (.t 111) (.k (.int .i64 0)), none⟩,
    ⟨some 113, .mov (.t 112), none⟩,
    ⟨some 114, .mov (.t 19), some (113, false)⟩,
    ⟨some 115, .bin .neq (.t 114) (.k (.int .i64 0)), some (113, false)⟩,
    ⟨some 116, .pick (.t 113) (.k (.bool true)) (.t 115), none⟩,
    ⟨some 117, .mov (.t 116), none⟩,
    ⟨some 118, .addo 0 (.t 16), some (117, false)⟩,
    ⟨some 119, .load false 1 (.t 118), some (117, false)⟩,
    ⟨some 120, .addo 0 (.t 18), some (117, false)⟩,
    ⟨some 121, .load false 1 (.t 120), some (117, false)⟩,
    ⟨some 122, .bin .neq (.t 119) (.t 121), some (117, false)⟩,
    ⟨some 123, .pick (.t 117) (.k (.bool true)) (.t 122), none⟩,
    ⟨some 124, .mov (.t 123), none⟩,
    ⟨some 125, .addo 1 (.t 18), some (124, false)⟩,
    ⟨some 126, .load false 1 (.t 125), some (124, false)⟩,
    ⟨some 127, .addo 1 (.t 16), some (124, false)⟩,
    ⟨some 128, .load false 1 (.t 127), some (124, false)⟩,
    ⟨some 129, .bin .neq (.t 126) (.t 128), some (124, false)⟩,
    ⟨some 130, .pick (.t 124) (.k (.bool true)) (.t 129), none⟩])
  (.cond (.t 130) (.seq (.region [⟨some 6, .mov (.k (.bool false)), none⟩])
  .ret)
  .skip))))
  .skip))
  (.seq (.region [⟨some 132, .mov (.t 0), none⟩,
    ⟨some 133, .call 12 [(.t 132)], none⟩,
    ⟨some 134, .call 38 [(.t 133)], none⟩,
    ⟨some 131, .mov (.t 134), none⟩,
    ⟨some 135, .ext (.t 131) 0, none⟩,
    ⟨some 136, .ext (.t 131) 1, none⟩,
    ⟨some 20, .mov (.t 135), none⟩,
    ⟨some 21, .mov (.t 136), none⟩])
  (.seq (.region [⟨some 138, .mov (.t 0), none⟩,
    ⟨some 139, .call 12 [(.t 138)], none⟩,
    ⟨some 140, .call 37 [(.t 139)], none⟩,
    ⟨some 137, .mov (.t 140), none⟩,
    ⟨some 141, .ext (.t 137) 0, none⟩,
    ⟨some 142, .ext (.t 137) 1, none⟩,
    ⟨some 22, .mov (.t 141), none⟩,
    ⟨some 23, .mov (.t 142), none⟩])
  (.seq (.seq (.region [⟨some 143, .mov (.t 21), none⟩,
    ⟨some 144, .bin .neq (.t 143) (.k (.int .i64 0)), none⟩,
    ⟨some 145, .mov (.t 144), none⟩,
    ⟨some 146, .mov (.t 23), some (145, false)⟩,
    ⟨some 147, .bin .neq (.t 146) (.k (.int .i64 0)), some (145, false)⟩,
    ⟨some 148, .pick (.t 145) (.k (.bool true)) (.t 147), none⟩,
    ⟨some 149, .mov (.t 148), none⟩,
    ⟨some 150, .mov (.t 20), some (149, false)⟩,
    ⟨some 151, .lenL (.t 150), some (149, false)⟩,
    ⟨some 152, .bin .gtr (.t 151) (.k (.int .i64 512)), some (149, false)⟩,
    ⟨some 153, .pick (.t 149) (.k (.bool true)) (.t 152), none⟩,
    ⟨some 154, .mov (.t 153), none⟩,
    ⟨some 155, .mov (.t 20), some (154, false)⟩,
    ⟨some 156, .call 13 [(.t 155)], some (154, false)⟩,
    ⟨some 157, .bin .neq (.t 156) (.k (.int .i64 0)), some (154, false)⟩,
    ⟨some 158, .pick (.t 154) (.k (.bool true)) (.t 157), none⟩,
    ⟨some 159, .mov (.t 158), none⟩,
    ⟨some 160, .mov (.t 20), some (159, false)⟩,
    ⟨some 161, .call 14 [(.t 160)], some (159, false)⟩,
    ⟨some 162, .mov (.t 22), some (159, false)⟩,
    ⟨some 163, .bin .neq (.t 161) (.t 162), some (159, false)⟩,
    ⟨some 164, .pick (.t 159) (.k (.bool true)) (.t 163), none⟩])
  (.cond (.t 164) (.seq (.region [⟨some 6, .mov (.k (.bool false)), none⟩])
  .ret)
  .skip))
  (.seq (.seq (.region [⟨some 165, .mov (.t 1), none⟩,
    ⟨some 166, .call 10 [(.t 165)], none⟩,
    ⟨some 167, .un .not (.t 166), none⟩,
    ⟨some 168, .mov (.t 167), none⟩,
    ⟨some 169, .mov (.t 1), some (168, false)⟩,
    ⟨some 170, .call 13 [(.t 169)], some (168, false)⟩,
    ⟨some 171, .bin .neq (.t 170) (.k (.int .i64 0)), some (168, false)⟩,
    ⟨some 172, .pick (.t 168) (.k (.bool true)) (.t 171), none⟩])
  (.cond (.t 172) (.seq (.region [⟨some 6, .mov (.k (.bool true)), none⟩])
  .ret)
  .skip))
  (.seq (.region [⟨some 174, .mov (.t 0), none⟩,
    ⟨some 175, .call 12 [(.t 174)], none⟩,
    ⟨some 176, .mov (.t 9), none⟩,
    ⟨some 177, .mov (.t 1), none⟩,
    ⟨some 178, .call 12 [(.t 177)], none⟩,
    ⟨some 179, .call 17 [(.t 175), (.t 176), (.t 178)], none⟩,
    ⟨some 173, .mov (.t 179), none⟩,
    ⟨some 180, .ext (.t 173) 0, none⟩,
    ⟨some 181, .ext (.t 173) 1, none⟩,
    ⟨some 24, .mov (.t 180), none⟩,
    ⟨some 25, .mov (.t 181), none⟩])
  (.seq (.seq (.region [⟨some 182, .mov (.t 25), none⟩,
    ⟨some 183, .bin .neq (.t 182) (.k (.int .i64 0)), none⟩])
  (.cond (.t 183) (.seq (.region [⟨some 184, .mov (.t 25), none⟩,
    ⟨some 185, .bin .eql (.t 184) (.k (.int .i64 23)), none⟩,
    ⟨some 186, .mov (.t 185), none⟩,
    ⟨some 187, .mov (.t 25), some (186, false)⟩,
    ⟨some 188, .bin .eql (.t 187) (.k (.int .i64 8)), some (186, false)⟩,
    ⟨some 189, .pick (.t 186) (.k (.bool true)) (.t 188), none⟩,
    ⟨some 6, .mov (.t 189), none⟩])
  .ret)
  .skip))
  (.seq (.region [⟨some 191, .mov (.t 24), none⟩,
    ⟨some 192, .mov (.t 9), none⟩,
    ⟨some 193, .mov (.t 1), none⟩,
    ⟨some 194, .call 14 [(.t 193)], none⟩,
    ⟨some 195, .call 27 [(.t 191), (.t 192), (.t 194)], none⟩,
    ⟨some 190, .mov (.t 195), none⟩,
    ⟨some 196, .ext (.t 190) 0, none⟩,
    ⟨some 197, .ext (.t 190) 1, none⟩,
    ⟨some 26, .mov (.t 196), none⟩,
    ⟨some 27, .mov (.t 197), none⟩])
  (.seq (.region [⟨some 198, .mov (.t 27), none⟩,
    ⟨some 199, .bin .eql (.t 198) (.k (.int .i64 0)), none⟩,
    ⟨some 200, .mov (.t 199), none⟩,
    ⟨some 201, .mov (.t 26), some (200, true)⟩,
    ⟨some 202, .mov (.t 0), some (200, true)⟩,
    ⟨some 203, .call 43 [(.t 201), (.t 202)], some (200, true)⟩,
    ⟨some 204, .pick (.t 200) (.t 203) (.k (.bool false)), none⟩,
    ⟨some 6, .mov (.t 204), none⟩])
  .ret)))))))))))))))))))
theorem c8_ok : (Try.f8.body).bind (compileC Try.prog) = some c8 := by kernel_rfl
theorem r8_ok : Try.f8.results.toList.mapM (retOf Try.prog) = some [.tmp 6] := by kernel_rfl

/-- depository/depositorylaw03.awake -/
def c9 : ACode :=
  (.seq (.region [⟨some 0, .mov (.k (.bool false)), none⟩])
  (.seq (.region [⟨some 12, .call 44 [], none⟩,
    ⟨some 13, .call 30 [(.t 12)], none⟩,
    ⟨some 11, .mov (.t 13), none⟩,
    ⟨some 14, .ext (.t 11) 0, none⟩,
    ⟨some 15, .ext (.t 11) 1, none⟩,
    ⟨some 1, .mov (.t 14), none⟩,
    ⟨some 2, .mov (.t 15), none⟩])
  (.seq (.region [⟨some 17, .call 44 [], none⟩,
    ⟨some 18, .call 11 [(.t 17), (.k (.int .i64 1))], none⟩,
    ⟨some 16, .mov (.t 18), none⟩,
    ⟨some 19, .ext (.t 16) 0, none⟩,
    ⟨some 20, .ext (.t 16) 1, none⟩,
    ⟨some 3, .alloc [(.int .i64 0), (.int .i64 0)], none⟩,
    ⟨none, .store 2 (.t 3) (.t 19), none⟩,
    ⟨some 4, .mov (.t 20), none⟩])
  (.seq (.region [⟨some 22, .call 44 [], none⟩,
    ⟨some 23, .call 26 [(.t 22), (.k (.int .i64 2)), (.k (.int .i64 3))], none⟩,
    ⟨some 21, .mov (.t 23), none⟩,
    ⟨some 24, .ext (.t 21) 0, none⟩,
    ⟨some 25, .ext (.t 21) 1, none⟩,
    ⟨some 5, .mov (.t 24), none⟩,
    ⟨some 6, .mov (.t 25), none⟩])
  (.seq (.region [⟨some 27, .call 44 [], none⟩,
    ⟨some 28, .build [(.int .i64 0), (.int .i64 0)] [(0, 1, (.k (.int .i64 8))), (1, 1, (.k (.int .i64 2)))], none⟩,
    ⟨some 29, .bslc 2 1 [(.int .i64 0), (.int .i64 0)] [(0, (.t 28))], none⟩,
    ⟨some 30, .call 16 [(.t 27), (.k (.int .i64 3)), (.t 29)], none⟩,
    ⟨some 26, .mov (.t 30), none⟩,
    ⟨some 31, .ext (.t 26) 0, none⟩,
    ⟨some 32, .ext (.t 26) 1, none⟩,
    ⟨some 7, .mov (.t 31), none⟩,
    ⟨some 8, .mov (.t 32), none⟩])
  (.seq (.region [⟨some 34, .call 44 [], none⟩,
    ⟨some 35, .build [(.int .i64 0), (.int .i64 0)] [(0, 1, (.k (.int .i64 6))), (1, 1, (.k (.int .i64 1)))], none⟩,
    ⟨some 36, .bslc 2 1 [(.int .i64 0), (.int .i64 0)] [(0, (.t 35))], none⟩,
    ⟨some 37, .call 18 [(.t 34), (.t 36)], none⟩,
    ⟨some 33, .mov (.t 37), none⟩,
    ⟨some 38, .ext (.t 33) 0, none⟩,
    ⟨some 39, .ext (.t 33) 1, none⟩,
    ⟨some 9, .mov (.t 38), none⟩,
    ⟨some 10, .mov (.t 39), none⟩])
  (.seq (.region [⟨some 40, .mov (.t 2), none⟩,
    ⟨some 41, .bin .eql (.t 40) (.k (.int .i64 0)), none⟩,
    ⟨some 42, .mov (.t 41), none⟩,
    ⟨some 43, .mov (.t 1), some (42, true)⟩,
    ⟨some 44, .bin .eql (.t 43) (.k (.string ⟨#[17, 3, 5, 1, 2, 17, 1, 255, 0]⟩)), some (42, true)⟩,
    ⟨some 45, .pick (.t 42) (.t 44) (.k (.bool false)), none⟩,
    ⟨some 46, .mov (.t 45), none⟩,
    ⟨some 47, .mov (.t 4), some (46, true)⟩,
    ⟨some 48, .bin .eql (.t 47) (.k (.int .i64 0)), some (46, true)⟩,
    ⟨some 49, .pick (.t 46) (.t 48) (.k (.bool false)), none⟩,
    ⟨some 50, .mov (.t 49), none⟩,
    ⟨some 51, .load true 2 (.t 3), some (50, true)⟩,
    ⟨some 52, .build [(.int .i64 0), (.int .i64 0)] [(0, 1, (.k (.int .i64 6))), (1, 1, (.k (.int .i64 2)))], some (50, true)⟩,
    ⟨some 53, .eqs false [.i, .i] (.t 51) (.t 52), some (50, true)⟩,
    ⟨some 54, .pick (.t 50) (.t 53) (.k (.bool false)), none⟩,
    ⟨some 55, .mov (.t 54), none⟩,
    ⟨some 56, .mov (.t 6), some (55, true)⟩,
    ⟨some 57, .bin .eql (.t 56) (.k (.int .i64 0)), some (55, true)⟩,
    ⟨some 58, .pick (.t 55) (.t 57) (.k (.bool false)), none⟩,
    ⟨some 59, .mov (.t 58), none⟩,
    ⟨some 60, .mov (.t 5), some (59, true)⟩,
    ⟨some 61, .call 45 [(.t 60)], some (59, true)⟩,
    ⟨some 62, .bin .eql (.t 61) (.k (.string ⟨#[55, 43, 49, 32, 45, 43, 50]⟩)), some (59, true)⟩,
    ⟨some 63, .pick (.t 59) (.t 62) (.k (.bool false)), none⟩,
    ⟨some 64, .mov (.t 63), none⟩,
    ⟨some 65, .mov (.t 8), some (64, true)⟩,
    ⟨some 66, .bin .eql (.t 65) (.k (.int .i64 0)), some (64, true)⟩,
    ⟨some 67, .pick (.t 64) (.t 66) (.k (.bool false)), none⟩,
    ⟨some 68, .mov (.t 67), none⟩,
    ⟨some 69, .mov (.t 7), some (68, true)⟩,
    ⟨some 70, .call 45 [(.t 69)], some (68, true)⟩,
    ⟨some 71, .bin .eql (.t 70) (.k (.string ⟨#[53, 43, 53, 32, 52, 43, 49]⟩)), some (68, true)⟩,
    ⟨some 72, .pick (.t 68) (.t 71) (.k (.bool false)), none⟩,
    ⟨some 73, .mov (.t 72), none⟩,
    ⟨some 74, .mov (.t 10), some (73, true)⟩,
    ⟨some 75, .bin .eql (.t 74) (.k (.int .i64 0)), some (73, true)⟩,
    ⟨some 76, .pick (.t 73) (.t 75) (.k (.bool false)), none⟩,
    ⟨some 77, .mov (.t 76), none⟩,
    ⟨some 78, .mov (.t 9), some (77, true)⟩,
    ⟨some 79, .call 45 [(.t 78)], some (77, true)⟩,
    ⟨some 80, .bin .eql (.t 79) (.k (.string ⟨#[52, 43, 50, 32, 55, 43, 49]⟩)), some (77, true)⟩,
    ⟨some 81, .pick (.t 77) (.t 80) (.k (.bool false)), none⟩,
    ⟨some 0, .mov (.t 81), none⟩])
  .ret)))))))
theorem c9_ok : (Try.f9.body).bind (compileC Try.prog) = some c9 := by kernel_rfl
theorem r9_ok : Try.f9.results.toList.mapM (retOf Try.prog) = some [.tmp 0] := by kernel_rfl

/-- depository/depositorylaw03.few -/
def c10 : ACode :=
  (.seq (.region [⟨some 2, .mov (.k (.bool false)), none⟩])
  (.seq (.region [⟨some 3, .mov (.t 0), none⟩,
    ⟨some 4, .lenL (.t 3), none⟩,
    ⟨some 5, .bin .leq (.t 4) (.k (.int .i64 80)), none⟩,
    ⟨some 2, .mov (.t 5), none⟩])
  .ret))
theorem c10_ok : (Try.f10.body).bind (compileC Try.prog) = some c10 := by kernel_rfl
theorem r10_ok : Try.f10.results.toList.mapM (retOf Try.prog) = some [.tmp 2] := by kernel_rfl

/-- depository/runs.PlaceOf -/
def c11 : ACode :=
  (.seq (.region [⟨some 4, .alloc [(.int .i64 0), (.int .i64 0)], none⟩,
    ⟨some 5, .mov (.k (.int .i64 0)), none⟩])
  (.seq (.seq (.region [⟨some 10, .mov (.t 0), none⟩,
    ⟨some 11, .bslc 1 1 [(.slice none 0 0)] [(0, (.t 10))], none⟩,
    ⟨some 12, .call 47 [(.t 11)], none⟩,
    ⟨some 13, .mov (.t 1), none⟩,
    ⟨some 14, .bin .geq (.t 13) (.k (.int .i64 0)), none⟩,
    ⟨some 15, .call 48 [(.t 14), (.k (.int .i64 2))], none⟩,
    ⟨some 16, .bslc 1 2 [(.int .i64 0)] [(0, (.t 12)), (1, (.t 15))], none⟩,
    ⟨some 17, .call 46 [(.t 16)], none⟩,
    ⟨some 6, .mov (.t 17), none⟩])
  (.seq (.region [⟨some 18, .mov (.t 6), none⟩,
    ⟨some 19, .bin .neq (.t 18) (.k (.int .i64 0)), none⟩])
  (.cond (.t 19) (.seq (.region [⟨some 20, .build [(.int .i64 0), (.int .i64 0)] [], none⟩,
    ⟨some 21, .mov (.t 6), none⟩,
    ⟨none, .store 2 (.t 4) (.t 20), none⟩,
    ⟨some 5, .mov (.t 21), none⟩])
  .ret)
  .skip)))
  (.seq (.seq (.region [⟨some 22, .mov (.t 0), none⟩,
    ⟨some 23, .lenL (.t 22), none⟩,
    ⟨some 24, .mov (.k (.int .i64 0)), none⟩])
  (.block 0 (.loop (.seq (.region [⟨some 25, .bin .lss (.t 24) (.t 23), none⟩])
  (.seq (.cond (.t 25) .skip
  (.exit 0))
  (.seq (.block 1 (.seq (.region [⟨some 26, .ixL 2 (.t 22) (.t 24), none⟩,
    ⟨some 27, .load true 2 (.t 26), none⟩,
    ⟨some 8, .alloc [(.int .i64 0), (.int .i64 0)], none⟩,
    ⟨none, .store 2 (.t 8) (.t 27), none⟩])
  (.seq (.seq (.region [⟨some 28, .mov (.t 1), none⟩,
    ⟨some 29, .addo 1 (.t 8), none⟩,
    ⟨some 30, .load false 1 (.t 29), none⟩,
    ⟨some 31, .bin .lss (.t 28) (.t 30), none⟩])
  (.cond (.t 31) (.seq (.region [⟨some 32, .addo 1 (.t 8), none⟩,
    ⟨some 33, .load false 1 (.t 32), none⟩,
    ⟨some 34, .mov (.t 1), none⟩,
    ⟨some 35, .bin .sub (.t 33) (.t 34), none⟩,
    ⟨some 36, .build [(.int .i64 0), (.int .i64 0)] [(0, 1, (.k (.int .i64 (-1)))), (1, 1, (.t 35))], none⟩,
    ⟨some 9, .alloc [(.int .i64 0), (.int .i64 0)], none⟩,
    ⟨none, .store 2 (.t 9) (.t 36), none⟩])
  (.seq (.seq (.region [⟨some 37, .load true 2 (.t 8), none⟩,
    ⟨some 38, .call 49 [(.t 37)], none⟩,
    ⟨some 39, .un .not (.t 38), none⟩])
  (.cond (.t 39) (.region [⟨some 40, .addo 0 (.t 8), none⟩,
    ⟨some 41, .load false 1 (.t 40), none⟩,
    ⟨some 42, .mov (.t 1), none⟩,
    ⟨some 43, .bin .add (.t 41) (.t 42), none⟩,
    ⟨some 44, .addo 0 (.t 9), none⟩,
    ⟨none, .store 1 (.t 44) (.t 43), none⟩])
  .skip))
  (.seq (.region [⟨some 45, .load true 2 (.t 9), none⟩,
    ⟨none, .store 2 (.t 4) (.t 45), none⟩,
    ⟨some 5, .mov (.k (.int .i64 0)), none⟩])
  .ret)))
  .skip))
  (.region [⟨some 46, .mov (.t 1), none⟩,
    ⟨some 47, .addo 1 (.t 8), none⟩,
    ⟨some 48, .load false 1 (.t 47), none⟩,
    ⟨some 49, .bin .sub (.t 46) (.t 48), none⟩,
    ⟨some 1, .mov (.t 49), none⟩]))))
  (.region [⟨some 50, .bin .add (.t 24) (.k (.int .i64 1)), none⟩,
    ⟨some 24, .mov (.t 50), none⟩])))))))
  (.seq (.region [⟨some 51, .build [(.int .i64 0), (.int .i64 0)] [], none⟩,
    ⟨none, .store 2 (.t 4) (.t 51), none⟩,
    ⟨some 5, .mov (.k (.int .i64 37)), none⟩])
  .ret))))
theorem c11_ok : (Try.f11.body).bind (compileC Try.prog) = some c11 := by kernel_rfl
theorem r11_ok : Try.f11.results.toList.mapM (retOf Try.prog) = some [.cell 4 true 2, .tmp 5] := by kernel_rfl

/-- depository/depositorybase.CopyRuns -/
def c12 : ACode :=
  (.seq (.region [⟨some 2, .mov (.k (.slice none 0 0)), none⟩])
  (.seq (.region [⟨some 3, .bslc 2 0 [(.int .i64 0), (.int .i64 0)] [], none⟩,
    ⟨some 4, .mov (.t 0), none⟩,
    ⟨some 5, .app 2 16 [(.int .i64 0), (.int .i64 0)] (.t 3) (.t 4), none⟩,
    ⟨some 2, .mov (.t 5), none⟩])
  .ret))
theorem c12_ok : (Try.f12.body).bind (compileC Try.prog) = some c12 := by kernel_rfl
theorem r12_ok : Try.f12.results.toList.mapM (retOf Try.prog) = some [.tmp 2] := by kernel_rfl

/-- depository/depositoryref03.Err -/
def c13 : ACode :=
  (.seq (.region [⟨some 2, .mov (.k (.int .i64 0)), none⟩])
  (.seq (.region [⟨some 6, .mov (.t 0), none⟩,
    ⟨some 7, .call 39 [(.t 6)], none⟩,
    ⟨some 5, .mov (.t 7), none⟩,
    ⟨some 8, .ext (.t 5) 0, none⟩,
    ⟨some 9, .ext (.t 5) 1, none⟩,
    ⟨some 3, .mov (.t 8), none⟩,
    ⟨some 4, .mov (.t 9), none⟩])
  (.seq (.region [⟨some 10, .mov (.t 4), none⟩,
    ⟨some 2, .mov (.t 10), none⟩])
  .ret)))
theorem c13_ok : (Try.f13.body).bind (compileC Try.prog) = some c13 := by kernel_rfl
theorem r13_ok : Try.f13.results.toList.mapM (retOf Try.prog) = some [.tmp 2] := by kernel_rfl

/-- depository/depositoryref03.Length -/
def c14 : ACode :=
  (.seq (.region [⟨some 2, .mov (.k (.int .i64 0)), none⟩])
  (.seq (.region [⟨some 3, .mov (.k (.int .i64 0)), none⟩])
  (.seq (.seq (.region [⟨some 4, .mov (.k (.int .i64 0)), none⟩])
  (.block 0 (.loop (.seq (.seq (.region [⟨some 5, .mov (.t 4), none⟩,
    ⟨some 6, .mov (.t 0), none⟩,
    ⟨some 7, .lenL (.t 6), none⟩,
    ⟨some 8, .bin .lss (.t 5) (.t 7), none⟩])
  (.cond (.t 8) .skip
  (.exit 0)))
  (.seq (.block 1 (.region [⟨some 11, .mov (.t 3), none⟩,
    ⟨some 12, .mov (.t 0), none⟩,
    ⟨some 13, .mov (.t 4), none⟩,
    ⟨some 14, .ixL 2 (.t 12) (.t 13), none⟩,
    ⟨some 15, .addo 1 (.t 14), none⟩,
    ⟨some 16, .load false 1 (.t 15), none⟩,
    ⟨some 17, .bin .add (.t 11) (.t 16), none⟩,
    ⟨some 3, .mov (.t 17), none⟩]))
  (.region [⟨some 9, .mov (.t 4), none⟩,
    ⟨some 10, .bin .add (.t 9) (.k (.int .i64 1)), none⟩,
    ⟨some 4, .mov (.t 10), none⟩]))))))
  (.seq (.region [⟨some 18, .mov (.t 3), none⟩,
    ⟨some 2, .mov (.t 18), none⟩])
  .ret))))
theorem c14_ok : (Try.f14.body).bind (compileC Try.prog) = some c14 := by kernel_rfl
theorem r14_ok : Try.f14.results.toList.mapM (retOf Try.prog) = some [.tmp 2] := by kernel_rfl

/-- depository/depositoryref03.Place -/
def c15 : ACode :=
  (.seq (.region [⟨some 4, .alloc [(.int .i64 0), (.int .i64 0)], none⟩])
  (.seq (.region [⟨some 7, .mov (.t 1), none⟩,
    ⟨some 5, .mov (.t 7), none⟩,
    ⟨some 6, .mov (.k (.int .i64 0)), none⟩])
  (.seq (.block 0 (.loop (.seq (.seq (.region [⟨some 8, .mov (.t 5), none⟩,
    ⟨some 9, .mov (.t 0), none⟩,
    ⟨some 10, .mov (.t 6), none⟩,
    ⟨some 11, .ixL 2 (.t 9) (.t 10), none⟩,
    ⟨some 12, .addo 1 (.t 11), none⟩,
    ⟨some 13, .load false 1 (.t 12), none⟩,
    ⟨some 14, .bin .geq (.t 8) (.t 13), none⟩])
  (.cond (.t 14) .skip
  (.exit 0)))
  (.block 1 (.seq (.region [⟨some 15, .mov (.t 5), none⟩,
    ⟨some 16, .mov (.t 0), none⟩,
    ⟨some 17, .mov (.t 6), none⟩,
    ⟨some 18, .ixL 2 (.t 16) (.t 17), none⟩,
    ⟨some 19, .addo 1 (.t 18), none⟩,
    ⟨some 20, .load false 1 (.t 19), none⟩,
    ⟨some 21, .bin .sub (.t 15) (.t 20), none⟩,
    ⟨some 5, .mov (.t 21), none⟩])
  (.region [⟨some 22, .mov (.t 6), none⟩,
    ⟨some 23, .bin .add (.t 22) (.k (.int .i64 1)), none⟩,
    ⟨some 6, .mov (.t 23), none⟩]))))))
  (.seq (.drawn [(true, ⟨some 24, .mov (.t 0), none⟩),
    (true, ⟨some 25, .mov (.t 1), none⟩),
    (true, ⟨some 26, .call 50 [(.t 24), (.t 25)], none⟩),
    (true, ⟨some 27, .mov (.t 0), none⟩),
    (true, ⟨some 28, .mov (.t 6), none⟩),
    (true, ⟨some 29, .ixL 2 (.t 27) (.t 28), none⟩),
    (true, ⟨some 30, .addo 1 (.t 29), none⟩),
    (true, ⟨some 31, .load false 1 (.t 30), none⟩),
    (true, ⟨some 32, .mov (.t 5), none⟩),
    (true, ⟨some 33, .bin .sub (.t 31) (.t 32), none⟩),
    (true, ⟨some 34, .build [(.int .i64 0), (.int .i64 0)] [(0, 1, (.t 26)), (1, 1, (.t 33))], none⟩),
    (false, ⟨none, .store 2 (.t 4) (.t 34), none⟩)])
  .ret))))
theorem c15_ok : (Try.f15.body).bind (compileC Try.prog) = some c15 := by kernel_rfl
theorem r15_ok : Try.f15.results.toList.mapM (retOf Try.prog) = some [.cell 4 true 2] := by kernel_rfl

/-- depository/runs.Replaced -/
def c16 : ACode :=
  (.seq (.region [⟨some 6, .mov (.k (.slice none 0 0)), none⟩,
    ⟨some 7, .mov (.k (.int .i64 0)), none⟩])
  (.seq (.region [⟨some 8, .mov (.k (.int .i64 0)), none⟩])
  (.seq (.seq (.region [⟨some 10, .mov (.t 2), none⟩,
    ⟨some 11, .bslc 1 1 [(.slice none 0 0)] [(0, (.t 10))], none⟩,
    ⟨some 12, .call 47 [(.t 11)], none⟩,
    ⟨some 13, .bin .eql (.t 12) (.k (.int .i64 0)), none⟩])
  (.cond (.t 13) (.region [⟨some 14, .mov (.t 2), none⟩,
    ⟨some 15, .call 51 [(.t 14)], none⟩,
    ⟨some 8, .mov (.t 15), none⟩])
  .skip))
  (.seq (.seq (.region [⟨some 16, .mov (.t 0), none⟩,
    ⟨some 17, .mov (.t 1), none⟩,
    ⟨some 18, .mov (.t 2), none⟩,
    ⟨some 19, .mov (.t 8), none⟩,
    ⟨some 20, .call 52 [(.t 16), (.t 17), (.t 18), (.t 19)], none⟩,
    ⟨some 9, .mov (.t 20), none⟩])
  (.seq (.region [⟨some 21, .mov (.t 9), none⟩,
    ⟨some 22, .bin .neq (.t 21) (.k (.int .i64 0)), none⟩])
  (.cond (.t 22) (.seq (.region [⟨some 23, .mov (.t 9), none⟩,
    ⟨some 6, .mov (.k (.slice none 0 0)), none⟩,
    ⟨some 7, .mov (.t 23), none⟩])
  .ret)
  .skip)))
  (.seq (.region [⟨some 24, .mov (.t 0), none⟩,
    ⟨some 25, .mov (.t 1), none⟩,
    ⟨some 26, .call 54 [(.t 24), (.k (.int .i64 0)), (.t 25)], none⟩,
    ⟨some 27, .mov (.t 2), none⟩,
    ⟨some 28, .mov (.t 0), none⟩,
    ⟨some 29, .mov (.t 1), none⟩,
    ⟨some 30, .mov (.t 8), none⟩,
    ⟨some 31, .bin .add (.t 29) (.t 30), none⟩,
    ⟨some 32, .mov (.t 0), none⟩,
    ⟨some 33, .call 51 [(.t 32)], none⟩,
    ⟨some 34, .call 54 [(.t 28), (.t 31), (.t 33)], none⟩,
    ⟨some 35, .bslc 1 3 [(.slice none 0 0)] [(0, (.t 26)), (1, (.t 27)), (2, (.t 34))], none⟩,
    ⟨some 36, .call 53 [(.t 35)], none⟩,
    ⟨some 37, .ext (.t 36) 0, none⟩,
    ⟨some 38, .ext (.t 36) 1, none⟩,
    ⟨some 6, .mov (.t 37), none⟩,
    ⟨some 7, .mov (.t 38), none⟩])
  .ret)))))
theorem c16_ok : (Try.f16.body).bind (compileC Try.prog) = some c16 := by kernel_rfl
theorem r16_ok : Try.f16.results.toList.mapM (retOf Try.prog) = some [.tmp 6, .tmp 7] := by kernel_rfl

/-- depository/runs.Inserted -/
def c17 : ACode :=
  (.seq (.region [⟨some 6, .mov (.k (.slice none 0 0)), none⟩,
    ⟨some 7, .mov (.k (.int .i64 0)), none⟩])
  (.seq (.seq (.region [⟨some 9, .mov (.t 0), none⟩,
    ⟨some 10, .mov (.t 1), none⟩,
    ⟨some 11, .mov (.t 2), none⟩,
    ⟨some 12, .call 52 [(.t 9), (.t 10), (.t 11), (.k (.int .i64 0))], none⟩,
    ⟨some 8, .mov (.t 12), none⟩])
  (.seq (.region [⟨some 13, .mov (.t 8), none⟩,
    ⟨some 14, .bin .neq (.t 13) (.k (.int .i64 0)), none⟩])
  (.cond (.t 14) (.seq (.region [⟨some 15, .mov (.t 8), none⟩,
    ⟨some 6, .mov (.k (.slice none 0 0)), none⟩,
    ⟨some 7, .mov (.t 15), none⟩])
  .ret)
  .skip)))
  (.seq (.region [⟨some 16, .mov (.t 0), none⟩,
    ⟨some 17, .mov (.t 1), none⟩,
    ⟨some 18, .call 54 [(.t 16), (.k (.int .i64 0)), (.t 17)], none⟩,
    ⟨some 19, .mov (.t 2), none⟩,
    ⟨some 20, .mov (.t 0), none⟩,
    ⟨some 21, .mov (.t 1), none⟩,
    ⟨some 22, .mov (.t 0), none⟩,
    ⟨some 23, .call 51 [(.t 22)], none⟩,
    ⟨some 24, .call 54 [(.t 20), (.t 21), (.t 23)], none⟩,
    ⟨some 25, .bslc 1 3 [(.slice none 0 0)] [(0, (.t 18)), (1, (.t 19)), (2, (.t 24))], none⟩,
    ⟨some 26, .call 53 [(.t 25)], none⟩,
    ⟨some 27, .ext (.t 26) 0, none⟩,
    ⟨some 28, .ext (.t 26) 1, none⟩,
    ⟨some 6, .mov (.t 27), none⟩,
    ⟨some 7, .mov (.t 28), none⟩])
  .ret)))
theorem c17_ok : (Try.f17.body).bind (compileC Try.prog) = some c17 := by kernel_rfl
theorem r17_ok : Try.f17.results.toList.mapM (retOf Try.prog) = some [.tmp 6, .tmp 7] := by kernel_rfl

/-- depository/runs.FreedBy -/
def c18 : ACode :=
  (.seq (.region [⟨some 4, .mov (.k (.slice none 0 0)), none⟩,
    ⟨some 5, .mov (.k (.int .i64 0)), none⟩])
  (.seq (.seq (.region [⟨some 10, .mov (.t 0), none⟩,
    ⟨some 11, .mov (.t 1), none⟩,
    ⟨some 12, .bslc 1 2 [(.slice none 0 0)] [(0, (.t 10)), (1, (.t 11))], none⟩,
    ⟨some 13, .call 47 [(.t 12)], none⟩,
    ⟨some 6, .mov (.t 13), none⟩])
  (.seq (.region [⟨some 14, .mov (.t 6), none⟩,
    ⟨some 15, .bin .neq (.t 14) (.k (.int .i64 0)), none⟩])
  (.cond (.t 15) (.seq (.region [⟨some 16, .mov (.t 6), none⟩,
    ⟨some 4, .mov (.k (.slice none 0 0)), none⟩,
    ⟨some 5, .mov (.t 16), none⟩])
  .ret)
  .skip)))
  (.seq (.region [⟨some 7, .alloc (List.replicate 512 (.bool false)), none⟩,
    ⟨some 8, .alloc (List.replicate 512 (.bool false)), none⟩])
  (.seq (.region [⟨some 17, .mov (.t 0), none⟩,
    ⟨some 18, .call 55 [(.t 7), (.t 17)], none⟩])
  (.seq (.region [⟨some 19, .mov (.t 1), none⟩,
    ⟨some 20, .call 55 [(.t 8), (.t 19)], none⟩])
  (.seq (.seq (.region [⟨some 21, .mov (.k (.int .i64 0)), none⟩])
  (.block 0 (.loop (.seq (.region [⟨some 22, .bin .lss (.t 21) (.k (.int .i64 512)), none⟩])
  (.seq (.cond (.t 22) .skip
  (.exit 0))
  (.seq (.block 1 (.seq (.region [⟨some 23, .mov (.t 21), none⟩,
    ⟨some 9, .mov (.t 23), none⟩])
  (.region [⟨some 24, .mov (.t 9), none⟩,
    ⟨some 25, .mov (.t 9), none⟩,
    ⟨some 26, .ixA 512 1 (.t 7) (.t 25), none⟩,
    ⟨some 27, .load false 1 (.t 26), none⟩,
    ⟨some 28, .mov (.t 27), none⟩,
    ⟨some 29, .mov (.t 9), some (28, true)⟩,
    ⟨some 30, .ixA 512 1 (.t 8) (.t 29), some (28, true)⟩,
    ⟨some 31, .load false 1 (.t 30), some (28, true)⟩,
    ⟨some 32, .un .not (.t 31), some (28, true)⟩,
    ⟨some 33, .pick (.t 28) (.t 32) (.k (.bool false)), none⟩,
    ⟨some 34, .ixA 512 1 (.t 7) (.t 24), none⟩,
    ⟨none, .store 1 (.t 34) (.t 33), none⟩])))
  (.region [⟨some 35, .bin .add (.t 21) (.k (.int .i64 1)), none⟩,
    ⟨some 21, .mov (.t 35), none⟩])))))))
  (.seq (.region [⟨some 36, .call 56 [(.t 7)], none⟩,
    ⟨some 4, .mov (.t 36), none⟩,
    ⟨some 5, .mov (.k (.int .i64 0)), none⟩])
  .ret)))))))
theorem c18_ok : (Try.f18.body).bind (compileC Try.prog) = some c18 := by kernel_rfl
theorem r18_ok : Try.f18.results.toList.mapM (retOf Try.prog) = some [.tmp 4, .tmp 5] := by kernel_rfl

/-- depository/depositorylaw03.same -/
def c19 : ACode :=
  (.seq (.region [⟨some 8, .mov (.k (.bool false)), none⟩])
  (.seq (.region [⟨some 9, .mov (.t 1), none⟩,
    ⟨some 10, .mov (.t 3), none⟩,
    ⟨some 11, .bin .eql (.t 9) (.t 10), none⟩,
    ⟨some 12, .mov (.t 11), none⟩,
    ⟨some 13, .mov (.t 3), some (12, true)⟩,
    ⟨some 14, .bin .neq (.t 13) (.k (.int .i64 0)), some (12, true)⟩,
    ⟨some 15, .mov (.t 14), some (12, true)⟩,
    ⟨some 16, .mov (.t 0), some (15, true)⟩,
    ⟨some 17, .lenL (.t 16), some (15, true)⟩,
    ⟨some 18, .bin .eql (.t 17) (.k (.int .i64 0)), some (15, true)⟩,
    ⟨some 19, .pick (.t 15) (.t 18) (.k (.bool false)), some (12, true)⟩,
    ⟨some 20, .mov (.t 19), some (12, true)⟩,
    ⟨some 21, .mov (.t 3), some (20, false)⟩,
    ⟨some 22, .bin .eql (.t 21) (.k (.int .i64 0)), some (20, false)⟩,
    ⟨some 23, .mov (.t 22), some (20, false)⟩,
    ⟨some 24, .mov (.t 0), some (23, true)⟩,
    ⟨some 25, .mov (.t 2), some (23, true)⟩,
    ⟨some 26, .call 43 [(.t 24), (.t 25)], some (23, true)⟩,
    ⟨some 27, .pick (.t 23) (.t 26) (.k (.bool false)), some (20, false)⟩,
    ⟨some 28, .pick (.t 20) (.k (.bool true)) (.t 27), some (12, true)⟩,
    ⟨some 29, .pick (.t 12) (.t 28) (.k (.bool false)), none⟩,
    ⟨some 8, .mov (.t 29), none⟩])
  .ret))
theorem c19_ok : (Try.f19.body).bind (compileC Try.prog) = some c19 := by kernel_rfl
theorem r19_ok : Try.f19.results.toList.mapM (retOf Try.prog) = some [.tmp 8] := by kernel_rfl

/-- depository/depositoryref03.Extents -/
def c20 : ACode :=
  (.seq (.region [⟨some 4, .mov (.k (.slice none 0 0)), none⟩])
  (.seq (.region [⟨some 9, .mov (.t 0), none⟩,
    ⟨some 10, .call 22 [(.t 9)], none⟩,
    ⟨some 11, .mov (.t 1), none⟩,
    ⟨some 12, .call 22 [(.t 11)], none⟩,
    ⟨some 5, .mov (.t 10), none⟩,
    ⟨some 6, .mov (.t 12), none⟩])
  (.seq (.region [⟨some 7, .mov (.k (.slice none 0 0)), none⟩])
  (.seq (.seq (.region [⟨some 8, .mov (.k (.int .i64 0)), none⟩])
  (.block 0 (.loop (.seq (.seq (.region [⟨some 13, .mov (.t 8), none⟩,
    ⟨some 14, .bin .lss (.t 13) (.k (.int .i64 512)), none⟩])
  (.cond (.t 14) .skip
  (.exit 0)))
  (.seq (.block 1 (.seq (.region [⟨some 17, .mov (.t 5), none⟩,
    ⟨some 18, .mov (.t 8), none⟩,
    ⟨some 19, .call 57 [(.t 17), (.t 18)], none⟩,
    ⟨some 20, .mov (.t 19), none⟩,
    ⟨some 21, .mov (.t 6), some (20, true)⟩,
    ⟨some 22, .mov (.t 8), some (20, true)⟩,
    ⟨some 23, .call 57 [(.t 21), (.t 22)], some (20, true)⟩,
    ⟨some 24, .un .not (.t 23), some (20, true)⟩,
    ⟨some 25, .pick (.t 20) (.t 24) (.k (.bool false)), none⟩])
  (.cond (.t 25) (.region [⟨some 26, .mov (.t 7), none⟩,
    ⟨some 27, .mov (.t 8), none⟩,
    ⟨some 28, .bslc 1 1 [(.int .i64 0)] [(0, (.t 27))], none⟩,
    ⟨some 29, .app 1 8 [(.int .i64 0)] (.t 26) (.t 28), none⟩,
    ⟨some 7, .mov (.t 29), none⟩])
  .skip)))
  (.region [⟨some 15, .mov (.t 8), none⟩,
    ⟨some 16, .bin .add (.t 15) (.k (.int .i64 1)), none⟩,
    ⟨some 8, .mov (.t 16), none⟩]))))))
  (.seq (.region [⟨some 30, .mov (.t 7), none⟩,
    ⟨some 31, .call 25 [(.t 30)], none⟩,
    ⟨some 4, .mov (.t 31), none⟩])
  .ret)))))
theorem c20_ok : (Try.f20.body).bind (compileC Try.prog) = some c20 := by kernel_rfl
theorem r20_ok : Try.f20.results.toList.mapM (retOf Try.prog) = some [.tmp 4] := by kernel_rfl

/-- depository/depositorybase.Within -/
def c21 : ACode :=
  (.seq (.region [⟨some 6, .mov (.k (.bool false)), none⟩])
  (.seq (.region [⟨some 7, .mov (.t 1), none⟩,
    ⟨some 8, .mov (.t 0), none⟩,
    ⟨some 9, .bin .leq (.t 7) (.t 8), none⟩,
    ⟨some 10, .mov (.t 9), none⟩,
    ⟨some 11, .mov (.t 0), some (10, true)⟩,
    ⟨some 12, .mov (.t 2), some (10, true)⟩,
    ⟨some 13, .bin .leq (.t 11) (.t 12), some (10, true)⟩,
    ⟨some 14, .pick (.t 10) (.t 13) (.k (.bool false)), none⟩,
    ⟨some 6, .mov (.t 14), none⟩])
  .ret))
theorem c21_ok : (Try.f21.body).bind (compileC Try.prog) = some c21 := by kernel_rfl
theorem r21_ok : Try.f21.results.toList.mapM (retOf Try.prog) = some [.tmp 6] := by kernel_rfl

/-- depository/depositoryref03.Clusters -/
def c22 : ACode :=
  (.seq (.region [⟨some 2, .mov (.k (.slice none 0 0)), none⟩])
  (.seq (.region [⟨some 3, .mov (.k (.slice none 0 0)), none⟩])
  (.seq (.seq (.region [⟨some 4, .mov (.k (.int .i64 0)), none⟩])
  (.block 0 (.loop (.seq (.seq (.region [⟨some 6, .mov (.t 4), none⟩,
    ⟨some 7, .mov (.t 0), none⟩,
    ⟨some 8, .lenL (.t 7), none⟩,
    ⟨some 9, .bin .lss (.t 6) (.t 8), none⟩])
  (.cond (.t 9) .skip
  (.exit 0)))
  (.seq (.block 1 (.seq (.region [⟨some 5, .mov (.k (.int .i64 0)), none⟩])
  (.block 2 (.loop (.seq (.seq (.region [⟨some 12, .mov (.t 5), none⟩,
    ⟨some 13, .mov (.t 0), none⟩,
    ⟨some 14, .mov (.t 4), none⟩,
    ⟨some 15, .ixL 2 (.t 13) (.t 14), none⟩,
    ⟨some 16, .addo 1 (.t 15), none⟩,
    ⟨some 17, .load false 1 (.t 16), none⟩,
    ⟨some 18, .bin .lss (.t 12) (.t 17), none⟩])
  (.cond (.t 18) .skip
  (.exit 2)))
  (.seq (.block 3 (.seq (.region [⟨some 21, .mov (.t 0), none⟩,
    ⟨some 22, .mov (.t 4), none⟩,
    ⟨some 23, .ixL 2 (.t 21) (.t 22), none⟩,
    ⟨some 24, .addo 0 (.t 23), none⟩,
    ⟨some 25, .load false 1 (.t 24), none⟩,
    ⟨some 26, .bin .eql (.t 25) (.k (.int .i64 (-1))), none⟩])
  (.cond (.t 26) (.region [⟨some 27, .mov (.t 3), none⟩,
    ⟨some 28, .bslc 1 1 [(.int .i64 0)] [(0, (.k (.int .i64 (-1))))], none⟩,
    ⟨some 29, .app 1 8 [(.int .i64 0)] (.t 27) (.t 28), none⟩,
    ⟨some 3, .mov (.t 29), none⟩])
  (.region [⟨some 30, .mov (.t 3), none⟩,
    ⟨some 31, .mov (.t 0), none⟩,
    ⟨some 32, .mov (.t 4), none⟩,
    ⟨some 33, .ixL 2 (.t 31) (.t 32), none⟩,
    ⟨some 34, .addo 0 (.t 33), none⟩,
    ⟨some 35, .load false 1 (.t 34), none⟩,
    ⟨some 36, .mov (.t 5), none⟩,
    ⟨some 37, .bin .add (.t 35) (.t 36), none⟩,
    ⟨some 38, .bslc 1 1 [(.int .i64 0)] [(0, (.t 37))], none⟩,
    ⟨some 39, .app 1 8 [(.int .i64 0)] (.t 30) (.t 38), none⟩,
    ⟨some 3, .mov (.t 39), none⟩]))))
  (.region [⟨some 19, .mov (.t 5), none⟩,
    ⟨some 20, .bin .add (.t 19) (.k (.int .i64 1)), none⟩,
    ⟨some 5, .mov (.t 20), none⟩])))))))
  (.region [⟨some 10, .mov (.t 4), none⟩,
    ⟨some 11, .bin .add (.t 10) (.k (.int .i64 1)), none⟩,
    ⟨some 4, .mov (.t 11), none⟩]))))))
  (.seq (.region [⟨some 40, .mov (.t 3), none⟩,
    ⟨some 2, .mov (.t 40), none⟩])
  .ret))))
theorem c22_ok : (Try.f22.body).bind (compileC Try.prog) = some c22 := by kernel_rfl
theorem r22_ok : Try.f22.results.toList.mapM (retOf Try.prog) = some [.tmp 2] := by kernel_rfl

/-- depository/depositorybase.CopyInts -/
def c23 : ACode :=
  (.seq (.region [⟨some 2, .mov (.k (.slice none 0 0)), none⟩])
  (.seq (.region [⟨some 3, .bslc 1 0 [(.int .i64 0)] [], none⟩,
    ⟨some 4, .mov (.t 0), none⟩,
    ⟨some 5, .app 1 8 [(.int .i64 0)] (.t 3) (.t 4), none⟩,
    ⟨some 2, .mov (.t 5), none⟩])
  .ret))
theorem c23_ok : (Try.f23.body).bind (compileC Try.prog) = some c23 := by kernel_rfl
theorem r23_ok : Try.f23.results.toList.mapM (retOf Try.prog) = some [.tmp 2] := by kernel_rfl

/-- depository/depositoryref03.ResultErr -/
def c24 : ACode :=
  (.seq (.region [⟨some 2, .mov (.k (.int .i64 0)), none⟩])
  (.seq (.seq (.region [⟨some 3, .mov (.k (.int .i64 0)), none⟩])
  (.block 0 (.loop (.seq (.seq (.region [⟨some 4, .mov (.t 3), none⟩,
    ⟨some 5, .mov (.t 0), none⟩,
    ⟨some 6, .lenL (.t 5), none⟩,
    ⟨some 7, .bin .lss (.t 4) (.t 6), none⟩])
  (.cond (.t 7) .skip
  (.exit 0)))
  (.seq (.block 1 (.seq (.region [⟨some 10, .mov (.t 0), none⟩,
    ⟨some 11, .mov (.t 3), none⟩,
    ⟨some 12, .call 58 [(.t 10), (.t 11)], none⟩])
  (.cond (.t 12) (.seq (.region [⟨some 2, .mov (.k (.int .i64 23)), none⟩])
  .ret)
  .skip)))
  (.region [⟨some 8, .mov (.t 3), none⟩,
    ⟨some 9, .bin .add (.t 8) (.k (.int .i64 1)), none⟩,
    ⟨some 3, .mov (.t 9), none⟩]))))))
  (.seq (.seq (.region [⟨some 13, .mov (.t 0), none⟩,
    ⟨some 14, .call 14 [(.t 13)], none⟩,
    ⟨some 15, .bin .gtr (.t 14) (.k (.int .i64 4096)), none⟩,
    ⟨some 16, .mov (.t 15), none⟩,
    ⟨some 17, .mov (.t 0), some (16, false)⟩,
    ⟨some 18, .call 29 [(.t 17)], some (16, false)⟩,
    ⟨some 19, .lenL (.t 18), some (16, false)⟩,
    ⟨some 20, .bin .gtr (.t 19) (.k (.int .i64 64)), some (16, false)⟩,
    ⟨some 21, .pick (.t 16) (.k (.bool true)) (.t 20), none⟩])
  (.cond (.t 21) (.seq (.region [⟨some 2, .mov (.k (.int .i64 8)), none⟩])
  .ret)
  .skip))
  (.seq (.region [⟨some 2, .mov (.k (.int .i64 0)), none⟩])
  .ret))))
theorem c24_ok : (Try.f24.body).bind (compileC Try.prog) = some c24 := by kernel_rfl
theorem r24_ok : Try.f24.results.toList.mapM (retOf Try.prog) = some [.tmp 2] := by kernel_rfl

/-- depository/depositoryref03.From -/
def c25 : ACode :=
  (.seq (.region [⟨some 2, .mov (.k (.slice none 0 0)), none⟩])
  (.seq (.region [⟨some 3, .mov (.k (.slice none 0 0)), none⟩])
  (.seq (.seq (.region [⟨some 4, .mov (.k (.int .i64 0)), none⟩])
  (.block 0 (.loop (.seq (.seq (.region [⟨some 5, .mov (.t 4), none⟩,
    ⟨some 6, .mov (.t 0), none⟩,
    ⟨some 7, .lenL (.t 6), none⟩,
    ⟨some 8, .bin .lss (.t 5) (.t 7), none⟩])
  (.cond (.t 8) .skip
  (.exit 0)))
  (.seq (.block 1 (.region [⟨some 11, .mov (.t 3), none⟩,
    ⟨some 12, .mov (.t 0), none⟩,
    ⟨some 13, .mov (.t 4), none⟩,
    ⟨some 14, .ixL 1 (.t 12) (.t 13), none⟩,
    ⟨some 15, .load false 1 (.t 14), none⟩,
    ⟨some 16, .build [(.int .i64 0), (.int .i64 0)] [(0, 1, (.t 15)), (1, 1, (.k (.int .i64 1)))], none⟩,
    ⟨some 17, .bslc 2 1 [(.int .i64 0), (.int .i64 0)] [(0, (.t 16))], none⟩,
    ⟨some 18, .app 2 16 [(.int .i64 0), (.int .i64 0)] (.t 11) (.t 17), none⟩,
    ⟨some 3, .mov (.t 18), none⟩]))
  (.region [⟨some 9, .mov (.t 4), none⟩,
    ⟨some 10, .bin .add (.t 9) (.k (.int .i64 1)), none⟩,
    ⟨some 4, .mov (.t 10), none⟩]))))))
  (.seq (.region [⟨some 19, .mov (.t 3), none⟩,
    ⟨some 20, .call 29 [(.t 19)], none⟩,
    ⟨some 2, .mov (.t 20), none⟩])
  .ret))))
theorem c25_ok : (Try.f25.body).bind (compileC Try.prog) = some c25 := by kernel_rfl
theorem r25_ok : Try.f25.results.toList.mapM (retOf Try.prog) = some [.tmp 2] := by kernel_rfl

/-- depository/runs.Cut -/
def c26 : ACode :=
  (.seq (.region [⟨some 6, .mov (.k (.slice none 0 0)), none⟩,
    ⟨some 7, .mov (.k (.int .i64 0)), none⟩])
  (.seq (.seq (.region [⟨some 9, .mov (.t 0), none⟩,
    ⟨some 10, .mov (.t 1), none⟩,
    ⟨some 11, .mov (.t 2), none⟩,
    ⟨some 12, .call 59 [(.t 9), (.t 10), (.t 11)], none⟩,
    ⟨some 8, .mov (.t 12), none⟩])
  (.seq (.region [⟨some 13, .mov (.t 8), none⟩,
    ⟨some 14, .bin .neq (.t 13) (.k (.int .i64 0)), none⟩])
  (.cond (.t 14) (.seq (.region [⟨some 15, .mov (.t 8), none⟩,
    ⟨some 6, .mov (.k (.slice none 0 0)), none⟩,
    ⟨some 7, .mov (.t 15), none⟩])
  .ret)
  .skip)))
  (.seq (.region [⟨some 16, .mov (.t 0), none⟩,
    ⟨some 17, .mov (.t 1), none⟩,
    ⟨some 18, .mov (.t 2), none⟩,
    ⟨some 19, .call 54 [(.t 16), (.t 17), (.t 18)], none⟩,
    ⟨some 20, .bslc 1 1 [(.slice none 0 0)] [(0, (.t 19))], none⟩,
    ⟨some 21, .call 53 [(.t 20)], none⟩,
    ⟨some 22, .ext (.t 21) 0, none⟩,
    ⟨some 23, .ext (.t 21) 1, none⟩,
    ⟨some 6, .mov (.t 22), none⟩,
    ⟨some 7, .mov (.t 23), none⟩])
  .ret)))
theorem c26_ok : (Try.f26.body).bind (compileC Try.prog) = some c26 := by kernel_rfl
theorem r26_ok : Try.f26.results.toList.mapM (retOf Try.prog) = some [.tmp 6, .tmp 7] := by kernel_rfl

/-- depository/runs.Removed -/
def c27 : ACode :=
  (.seq (.region [⟨some 6, .mov (.k (.slice none 0 0)), none⟩,
    ⟨some 7, .mov (.k (.int .i64 0)), none⟩])
  (.seq (.seq (.region [⟨some 10, .mov (.t 0), none⟩,
    ⟨some 11, .mov (.t 1), none⟩,
    ⟨some 12, .mov (.t 2), none⟩,
    ⟨some 13, .call 59 [(.t 10), (.t 11), (.t 12)], none⟩,
    ⟨some 8, .mov (.t 13), none⟩])
  (.seq (.region [⟨some 14, .mov (.t 8), none⟩,
    ⟨some 15, .bin .neq (.t 14) (.k (.int .i64 0)), none⟩])
  (.cond (.t 15) (.seq (.region [⟨some 16, .mov (.t 8), none⟩,
    ⟨some 6, .mov (.k (.slice none 0 0)), none⟩,
    ⟨some 7, .mov (.t 16), none⟩])
  .ret)
  .skip)))
  (.seq (.region [⟨some 9, .alloc [(.slice none 0 0)], none⟩])
  (.seq (.region [⟨some 17, .mov (.t 0), none⟩,
    ⟨some 18, .mov (.t 1), none⟩,
    ⟨some 19, .call 54 [(.t 17), (.k (.int .i64 0)), (.t 18)], none⟩,
    ⟨some 20, .call 60 [(.t 9), (.t 19)], none⟩])
  (.seq (.region [⟨some 21, .mov (.t 0), none⟩,
    ⟨some 22, .mov (.t 1), none⟩,
    ⟨some 23, .mov (.t 2), none⟩,
    ⟨some 24, .bin .add (.t 22) (.t 23), none⟩,
    ⟨some 25, .mov (.t 0), none⟩,
    ⟨some 26, .call 51 [(.t 25)], none⟩,
    ⟨some 27, .call 54 [(.t 21), (.t 24), (.t 26)], none⟩,
    ⟨some 28, .call 60 [(.t 9), (.t 27)], none⟩])
  (.seq (.region [⟨some 29, .addo 0 (.t 9), none⟩,
    ⟨some 30, .load false 1 (.t 29), none⟩,
    ⟨some 6, .mov (.t 30), none⟩,
    ⟨some 7, .mov (.k (.int .i64 0)), none⟩])
  .ret))))))
theorem c27_ok : (Try.f27.body).bind (compileC Try.prog) = some c27 := by kernel_rfl
theorem r27_ok : Try.f27.results.toList.mapM (retOf Try.prog) = some [.tmp 6, .tmp 7] := by kernel_rfl

/-- depository/runs.Joined -/
def c28 : ACode :=
  (.seq (.region [⟨some 4, .mov (.k (.slice none 0 0)), none⟩,
    ⟨some 5, .mov (.k (.int .i64 0)), none⟩])
  (.seq (.seq (.region [⟨some 7, .mov (.t 0), none⟩,
    ⟨some 8, .mov (.t 1), none⟩,
    ⟨some 9, .bslc 1 2 [(.slice none 0 0)] [(0, (.t 7)), (1, (.t 8))], none⟩,
    ⟨some 10, .call 47 [(.t 9)], none⟩,
    ⟨some 6, .mov (.t 10), none⟩])
  (.seq (.region [⟨some 11, .mov (.t 6), none⟩,
    ⟨some 12, .bin .neq (.t 11) (.k (.int .i64 0)), none⟩])
  (.cond (.t 12) (.seq (.region [⟨some 13, .mov (.t 6), none⟩,
    ⟨some 4, .mov (.k (.slice none 0 0)), none⟩,
    ⟨some 5, .mov (.t 13), none⟩])
  .ret)
  .skip)))
  (.seq (.region [⟨some 14, .mov (.t 0), none⟩,
    ⟨some 15, .mov (.t 1), none⟩,
    ⟨some 16, .bslc 1 2 [(.slice none 0 0)] [(0, (.t 14)), (1, (.t 15))], none⟩,
    ⟨some 17, .call 53 [(.t 16)], none⟩,
    ⟨some 18, .ext (.t 17) 0, none⟩,
    ⟨some 19, .ext (.t 17) 1, none⟩,
    ⟨some 4, .mov (.t 18), none⟩,
    ⟨some 5, .mov (.t 19), none⟩])
  .ret)))
theorem c28_ok : (Try.f28.body).bind (compileC Try.prog) = some c28 := by kernel_rfl
theorem r28_ok : Try.f28.results.toList.mapM (retOf Try.prog) = some [.tmp 4, .tmp 5] := by kernel_rfl

/-- depository/depositoryref03.Join -/
def c29 : ACode :=
  (.seq (.region [⟨some 2, .mov (.k (.slice none 0 0)), none⟩])
  (.seq (.region [⟨some 3, .mov (.k (.slice none 0 0)), none⟩])
  (.seq (.seq (.region [⟨some 4, .mov (.k (.int .i64 0)), none⟩])
  (.block 0 (.loop (.seq (.seq (.region [⟨some 6, .mov (.t 4), none⟩,
    ⟨some 7, .mov (.t 0), none⟩,
    ⟨some 8, .lenL (.t 7), none⟩,
    ⟨some 9, .bin .lss (.t 6) (.t 8), none⟩])
  (.cond (.t 9) .skip
  (.exit 0)))
  (.seq (.block 1 (.seq (.region [⟨some 12, .mov (.t 3), none⟩,
    ⟨some 13, .lenL (.t 12), none⟩,
    ⟨some 5, .mov (.t 13), none⟩])
  (.seq (.drawn [(true, ⟨some 14, .mov (.t 5), none⟩),
    (true, ⟨some 15, .bin .gtr (.t 14) (.k (.int .i64 0)), none⟩),
    (true, ⟨some 16, .mov (.t 15), none⟩),
    (true, ⟨some 17, .mov (.t 3), some (16, true)⟩),
    (true, ⟨some 18, .mov (.t 5), some (16, true)⟩),
    (true, ⟨some 19, .bin .sub (.t 18) (.k (.int .i64 1)), some (16, true)⟩),
    (true, ⟨some 20, .ixL 2 (.t 17) (.t 19), some (16, true)⟩),
    (true, ⟨some 21, .load true 2 (.t 20), some (16, true)⟩),
    (true, ⟨some 22, .mov (.t 0), some (16, true)⟩),
    (true, ⟨some 23, .mov (.t 4), some (16, true)⟩),
    (true, ⟨some 24, .ixL 2 (.t 22) (.t 23), some (16, true)⟩),
    (true, ⟨some 25, .load true 2 (.t 24), some (16, true)⟩),
    (false, ⟨some 26, .call 61 [(.t 21), (.t 25)], some (16, true)⟩),
    (true, ⟨some 27, .pick (.t 16) (.t 26) (.k (.bool false)), none⟩)])
  (.cond (.t 27) (.drawn [(true, ⟨some 28, .mov (.t 3), none⟩),
    (true, ⟨some 29, .mov (.t 5), none⟩),
    (true, ⟨some 30, .bin .sub (.t 29) (.k (.int .i64 1)), none⟩),
    (true, ⟨some 31, .mov (.t 3), none⟩),
    (true, ⟨some 32, .mov (.t 5), none⟩),
    (true, ⟨some 33, .bin .sub (.t 32) (.k (.int .i64 1)), none⟩),
    (true, ⟨some 34, .ixL 2 (.t 31) (.t 33), none⟩),
    (true, ⟨some 35, .addo 1 (.t 34), none⟩),
    (true, ⟨some 36, .load false 1 (.t 35), none⟩),
    (true, ⟨some 37, .mov (.t 0), none⟩),
    (true, ⟨some 38, .mov (.t 4), none⟩),
    (true, ⟨some 39, .ixL 2 (.t 37) (.t 38), none⟩),
    (true, ⟨some 40, .addo 1 (.t 39), none⟩),
    (true, ⟨some 41, .load false 1 (.t 40), none⟩),
    (true, ⟨some 42, .bin .add (.t 36) (.t 41), none⟩),
    (true, ⟨some 43, .ixL 2 (.t 28) (.t 30), none⟩),
    (true, ⟨some 44, .addo 1 (.t 43), none⟩),
    (false, ⟨none, .store 1 (.t 44) (.t 42), none⟩)])
  (.region [⟨some 45, .mov (.t 3), none⟩,
    ⟨some 46, .mov (.t 0), none⟩,
    ⟨some 47, .mov (.t 4), none⟩,
    ⟨some 48, .ixL 2 (.t 46) (.t 47), none⟩,
    ⟨some 49, .load true 2 (.t 48), none⟩,
    ⟨some 50, .bslc 2 1 [(.int .i64 0), (.int .i64 0)] [(0, (.t 49))], none⟩,
    ⟨some 51, .app 2 16 [(.int .i64 0), (.int .i64 0)] (.t 45) (.t 50), none⟩,
    ⟨some 3, .mov (.t 51), none⟩])))))
  (.region [⟨some 10, .mov (.t 4), none⟩,
    ⟨some 11, .bin .add (.t 10) (.k (.int .i64 1)), none⟩,
    ⟨some 4, .mov (.t 11), none⟩]))))))
  (.seq (.region [⟨some 52, .mov (.t 3), none⟩,
    ⟨some 2, .mov (.t 52), none⟩])
  .ret))))
theorem c29_ok : (Try.f29.body).bind (compileC Try.prog) = some c29 := by kernel_rfl
theorem r29_ok : Try.f29.results.toList.mapM (retOf Try.prog) = some [.tmp 2] := by kernel_rfl

/-- depository/runs.EncodeRuns -/
def c30 : ACode :=
  (.seq (.region [⟨some 2, .mov (.k (.string ⟨#[]⟩)), none⟩,
    ⟨some 3, .mov (.k (.int .i64 0)), none⟩])
  (.seq (.seq (.region [⟨some 11, .mov (.t 0), none⟩,
    ⟨some 12, .bslc 1 1 [(.slice none 0 0)] [(0, (.t 11))], none⟩,
    ⟨some 13, .call 47 [(.t 12)], none⟩,
    ⟨some 4, .mov (.t 13), none⟩])
  (.seq (.region [⟨some 14, .mov (.t 4), none⟩,
    ⟨some 15, .bin .neq (.t 14) (.k (.int .i64 0)), none⟩])
  (.cond (.t 15) (.seq (.region [⟨some 16, .mov (.t 4), none⟩,
    ⟨some 2, .mov (.k (.string ⟨#[]⟩)), none⟩,
    ⟨some 3, .mov (.t 16), none⟩])
  .ret)
  .skip)))
  (.seq (.region [⟨some 5, .mov (.k (.slice none 0 0)), none⟩])
  (.seq (.region [⟨some 6, .mov (.k (.int .i64 0)), none⟩])
  (.seq (.seq (.region [⟨some 17, .mov (.t 0), none⟩,
    ⟨some 18, .lenL (.t 17), none⟩,
    ⟨some 19, .mov (.k (.int .i64 0)), none⟩])
  (.block 0 (.loop (.seq (.region [⟨some 20, .bin .lss (.t 19) (.t 18), none⟩])
  (.seq (.cond (.t 20) .skip
  (.exit 0))
  (.seq (.block 1 (.seq (.region [⟨some 21, .ixL 2 (.t 17) (.t 19), none⟩,
    ⟨some 22, .load true 2 (.t 21), none⟩,
    ⟨some 8, .alloc [(.int .i64 0), (.int .i64 0)], none⟩,
    ⟨none, .store 2 (.t 8) (.t 22), none⟩])
  (.seq (.region [⟨some 23, .addo 1 (.t 8), none⟩,
    ⟨some 24, .load false 1 (.t 23), none⟩,
    ⟨some 25, .call 62 [(.t 24)], none⟩,
    ⟨some 9, .mov (.t 25), none⟩])
  (.seq (.region [⟨some 10, .mov (.k (.int .i64 0)), none⟩])
  (.seq (.seq (.region [⟨some 26, .load true 2 (.t 8), none⟩,
    ⟨some 27, .call 49 [(.t 26)], none⟩,
    ⟨some 28, .un .not (.t 27), none⟩])
  (.cond (.t 28) (.region [⟨some 29, .addo 0 (.t 8), none⟩,
    ⟨some 30, .load false 1 (.t 29), none⟩,
    ⟨some 31, .mov (.t 6), none⟩,
    ⟨some 32, .bin .sub (.t 30) (.t 31), none⟩,
    ⟨some 33, .call 62 [(.t 32)], none⟩,
    ⟨some 10, .mov (.t 33), none⟩])
  .skip))
  (.seq (.region [⟨some 34, .mov (.t 5), none⟩,
    ⟨some 35, .mov (.t 10), none⟩,
    ⟨some 36, .bin .shl (.t 35) (.k (.int .u64 4)), none⟩,
    ⟨some 37, .mov (.t 9), none⟩,
    ⟨some 38, .bin .or (.t 36) (.t 37), none⟩,
    ⟨some 39, .conv .u8 (.t 38), none⟩,
    ⟨some 40, .bslc 1 1 [(.int .u8 0)] [(0, (.t 39))], none⟩,
    ⟨some 41, .app 1 1 [(.int .u8 0)] (.t 34) (.t 40), none⟩,
    ⟨some 5, .mov (.t 41), none⟩])
  (.seq (.region [⟨some 42, .mov (.t 5), none⟩,
    ⟨some 43, .addo 1 (.t 8), none⟩,
    ⟨some 44, .load false 1 (.t 43), none⟩,
    ⟨some 45, .mov (.t 9), none⟩,
    ⟨some 46, .call 63 [(.t 44), (.t 45)], none⟩,
    ⟨some 47, .app 1 1 [(.int .u8 0)] (.t 42) (.t 46), none⟩,
    ⟨some 5, .mov (.t 47), none⟩])
  (.seq (.region [⟨some 48, .load true 2 (.t 8), none⟩,
    ⟨some 49, .call 49 [(.t 48)], none⟩,
    ⟨some 50, .un .not (.t 49), none⟩])
  (.cond (.t 50) (.seq (.region [⟨some 51, .mov (.t 5), none⟩,
    ⟨some 52, .addo 0 (.t 8), none⟩,
    ⟨some 53, .load false 1 (.t 52), none⟩,
    ⟨some 54, .mov (.t 6), none⟩,
    ⟨some 55, .bin .sub (.t 53) (.t 54), none⟩,
    ⟨some 56, .mov (.t 10), none⟩,
    ⟨some 57, .call 63 [(.t 55), (.t 56)], none⟩,
    ⟨some 58, .app 1 1 [(.int .u8 0)] (.t 51) (.t 57), none⟩,
    ⟨some 5, .mov (.t 58), none⟩])
  (.region [⟨some 59, .addo 0 (.t 8), none⟩,
    ⟨some 60, .load false 1 (.t 59), none⟩,
    ⟨some 6, .mov (.t 60), none⟩]))
  .skip)))))))))
  (.region [⟨some 61, .bin .add (.t 19) (.k (.int .i64 1)), none⟩,
    ⟨some 19, .mov (.t 61), none⟩])))))))
  (.seq (.region [⟨some 62, .mov (.t 5), none⟩,
    ⟨some 63, .bslc 1 1 [(.int .u8 0)] [(0, (.k (.int .u8 0)))], none⟩,
    ⟨some 64, .app 1 1 [(.int .u8 0)] (.t 62) (.t 63), none⟩,
    ⟨some 65, .cvbs (.t 64), none⟩,
    ⟨some 2, .mov (.t 65), none⟩,
    ⟨some 3, .mov (.k (.int .i64 0)), none⟩])
  .ret))))))
theorem c30_ok : (Try.f30.body).bind (compileC Try.prog) = some c30 := by kernel_rfl
theorem r30_ok : Try.f30.results.toList.mapM (retOf Try.prog) = some [.tmp 2, .tmp 3] := by kernel_rfl

/-- depository/runs.DecodeRuns -/
def c31 : ACode :=
  (.seq (.region [⟨some 1, .box (.t 0), none⟩,
    ⟨some 2, .mov (.k (.slice none 0 0)), none⟩,
    ⟨some 3, .mov (.k (.int .i64 0)), none⟩])
  (.seq (.seq (.region [⟨some 9, .load false 1 (.t 1), none⟩,
    ⟨some 10, .lenS (.t 9), none⟩,
    ⟨some 11, .bin .gtr (.t 10) (.k (.int .i64 400)), none⟩])
  (.cond (.t 11) (.seq (.region [⟨some 2, .mov (.k (.slice none 0 0)), none⟩,
    ⟨some 3, .mov (.k (.int .i64 8)), none⟩])
  .ret)
  .skip))
  (.seq (.region [⟨some 4, .mov (.k (.slice none 0 0)), none⟩])
  (.seq (.region [⟨some 5, .mov (.k (.int .i64 0)), none⟩])
  (.seq (.block 0 (.loop (.seq (.seq (.region [⟨some 12, .load false 1 (.t 1), none⟩,
    ⟨some 13, .bin .neq (.t 12) (.k (.string ⟨#[]⟩)), none⟩,
    ⟨some 14, .mov (.t 13), none⟩,
    ⟨some 15, .load false 1 (.t 1), some (14, true)⟩,
    ⟨some 16, .ixS (.t 15) (.k (.int .i64 0)), some (14, true)⟩,
    ⟨some 17, .bin .neq (.t 16) (.k (.int .u8 0)), some (14, true)⟩,
    ⟨some 18, .pick (.t 14) (.t 17) (.k (.bool false)), none⟩])
  (.cond (.t 18) .skip
  (.exit 0)))
  (.block 1 (.seq (.region [⟨some 20, .mov (.t 5), none⟩,
    ⟨some 21, .call 64 [(.t 1), (.t 20)], none⟩,
    ⟨some 19, .mov (.t 21), none⟩,
    ⟨some 22, .ext (.t 19) 0, none⟩,
    ⟨some 23, .ext (.t 19) 1, none⟩,
    ⟨some 6, .alloc [(.int .i64 0), (.int .i64 0)], none⟩,
    ⟨none, .store 2 (.t 6) (.t 22), none⟩,
    ⟨some 7, .mov (.t 23), none⟩])
  (.seq (.seq (.region [⟨some 24, .mov (.t 7), none⟩,
    ⟨some 25, .un .not (.t 24), none⟩])
  (.cond (.t 25) (.seq (.region [⟨some 2, .mov (.k (.slice none 0 0)), none⟩,
    ⟨some 3, .mov (.k (.int .i64 3)), none⟩])
  .ret)
  .skip))
  (.seq (.seq (.region [⟨some 26, .load true 2 (.t 6), none⟩,
    ⟨some 27, .call 49 [(.t 26)], none⟩,
    ⟨some 28, .un .not (.t 27), none⟩])
  (.cond (.t 28) (.region [⟨some 29, .addo 0 (.t 6), none⟩,
    ⟨some 30, .load false 1 (.t 29), none⟩,
    ⟨some 5, .mov (.t 30), none⟩])
  .skip))
  (.region [⟨some 31, .mov (.t 4), none⟩,
    ⟨some 32, .load true 2 (.t 6), none⟩,
    ⟨some 33, .bslc 2 1 [(.int .i64 0), (.int .i64 0)] [(0, (.t 32))], none⟩,
    ⟨some 34, .app 2 16 [(.int .i64 0), (.int .i64 0)] (.t 31) (.t 33), none⟩,
    ⟨some 4, .mov (.t 34), none⟩]))))))))
  (.seq (.seq (.region [⟨some 35, .load false 1 (.t 1), none⟩,
    ⟨some 36, .lenS (.t 35), none⟩,
    ⟨some 37, .bin .neq (.t 36) (.k (.int .i64 1)), none⟩])
  (.cond (.t 37) (.seq (.region [⟨some 2, .mov (.k (.slice none 0 0)), none⟩,
    ⟨some 3, .mov (.k (.int .i64 3)), none⟩])
  .ret)
  .skip))
  (.seq (.seq (.region [⟨some 38, .mov (.t 4), none⟩,
    ⟨some 39, .bslc 1 1 [(.slice none 0 0)] [(0, (.t 38))], none⟩,
    ⟨some 40, .call 47 [(.t 39)], none⟩,
    ⟨some 8, .mov (.t 40), none⟩])
  (.seq (.region [⟨some 41, .mov (.t 8), none⟩,
    ⟨some 42, .bin .neq (.t 41) (.k (.int .i64 0)), none⟩])
  (.cond (.t 42) (.seq (.region [⟨some 43, .mov (.t 8), none⟩,
    ⟨some 2, .mov (.k (.slice none 0 0)), none⟩,
    ⟨some 3, .mov (.t 43), none⟩])
  .ret)
  .skip)))
  (.seq (.region [⟨some 44, .mov (.t 4), none⟩,
    ⟨some 2, .mov (.t 44), none⟩,
    ⟨some 3, .mov (.k (.int .i64 0)), none⟩])
  .ret))))))))
theorem c31_ok : (Try.f31.body).bind (compileC Try.prog) = some c31 := by kernel_rfl
theorem r31_ok : Try.f31.results.toList.mapM (retOf Try.prog) = some [.tmp 2, .tmp 3] := by kernel_rfl

/-- depository/depositoryref03.Decode -/
def c32 : ACode :=
  (.seq (.region [⟨some 2, .mov (.k (.slice none 0 0)), none⟩,
    ⟨some 3, .mov (.k (.int .i64 0)), none⟩])
  (.seq (.seq (.region [⟨some 15, .mov (.t 0), none⟩,
    ⟨some 16, .lenS (.t 15), none⟩,
    ⟨some 17, .bin .gtr (.t 16) (.k (.int .i64 400)), none⟩])
  (.cond (.t 17) (.seq (.region [⟨some 2, .mov (.k (.slice none 0 0)), none⟩,
    ⟨some 3, .mov (.k (.int .i64 8)), none⟩])
  .ret)
  .skip))
  (.seq (.region [⟨some 4, .mov (.k (.slice none 0 0)), none⟩])
  (.seq (.region [⟨some 5, .mov (.k (.int .i64 0)), none⟩,
    ⟨some 6, .mov (.k (.int .i64 0)), none⟩])
  (.seq (.block 0 (.loop (.seq (.seq (.region [⟨some 18, .mov (.t 5), none⟩,
    ⟨some 19, .mov (.t 0), none⟩,
    ⟨some 20, .lenS (.t 19), none⟩,
    ⟨some 21, .bin .lss (.t 18) (.t 20), none⟩,
    ⟨some 22, .mov (.t 21), none⟩,
    ⟨some 23, .mov (.t 0), some (22, true)⟩,
    ⟨some 24, .mov (.t 5), some (22, true)⟩,
    ⟨some 25, .ixS (.t 23) (.t 24), some (22, true)⟩,
    ⟨some 26, .bin .neq (.t 25) (.k (.int .u8 0)), some (22, true)⟩,
    ⟨some 27, .pick (.t 22) (.t 26) (.k (.bool false)), none⟩])
  (.cond (.t 27) .skip
  (.exit 0)))
  (.block 1 (.seq (.drawn [(true, ⟨some 28, .mov (.t 0), none⟩),
    (true, ⟨some 29, .mov (.t 5), none⟩),
    (true, ⟨some 30, .ixS (.t 28) (.t 29), none⟩),
    (true, ⟨some 31, .conv .i64 (.t 30), none⟩),
    (true, ⟨some 32, .bin .rem (.t 31) (.k (.int .i64 16)), none⟩),
    (true, ⟨some 33, .mov (.t 0), none⟩),
    (true, ⟨some 34, .mov (.t 5), none⟩),
    (true, ⟨some 35, .ixS (.t 33) (.t 34), none⟩),
    (true, ⟨some 36, .conv .i64 (.t 35), none⟩),
    (true, ⟨some 37, .bin .quo (.t 36) (.k (.int .i64 16)), none⟩),
    (true, ⟨some 7, .mov (.t 32), none⟩),
    (true, ⟨some 8, .mov (.t 37), none⟩)])
  (.seq (.seq (.region [⟨some 38, .mov (.t 7), none⟩,
    ⟨some 39, .call 21 [(.t 38), (.k (.int .i64 1)), (.k (.int .i64 2))], none⟩,
    ⟨some 40, .un .not (.t 39), none⟩,
    ⟨some 41, .mov (.t 40), none⟩,
    ⟨some 42, .mov (.t 8), some (41, false)⟩,
    ⟨some 43, .call 21 [(.t 42), (.k (.int .i64 0)), (.k (.int .i64 2))], some (41, false)⟩,
    ⟨some 44, .un .not (.t 43), some (41, false)⟩,
    ⟨some 45, .pick (.t 41) (.k (.bool true)) (.t 44), none⟩,
    ⟨some 46, .mov (.t 45), none⟩,
    ⟨some 47, .mov (.t 5), some (46, false)⟩,
    ⟨some 48, .bin .add (.t 47) (.k (.int .i64 1)), some (46, false)⟩,
    ⟨some 49, .mov (.t 7), some (46, false)⟩,
    ⟨some 50, .bin .add (.t 48) (.t 49), some (46, false)⟩,
    ⟨some 51, .mov (.t 8), some (46, false)⟩,
    ⟨some 52, .bin .add (.t 50) (.t 51), some (46, false)⟩,
    ⟨some 53, .mov (.t 0), some (46, false)⟩,
    ⟨some 54, .lenS (.t 53), some (46, false)⟩,
    ⟨some 55, .bin .gtr (.t 52) (.t 54), some (46, false)⟩,
    ⟨some 56, .pick (.t 46) (.k (.bool true)) (.t 55), none⟩])
  (.cond (.t 56) (.seq (.region [⟨some 2, .mov (.k (.slice none 0 0)), none⟩,
    ⟨some 3, .mov (.k (.int .i64 3)), none⟩])
  .ret)
  .skip))
  (.seq (.region [⟨some 58, .mov (.t 0), none⟩,
    ⟨some 59, .mov (.t 5), none⟩,
    ⟨some 60, .bin .add (.t 59) (.k (.int .i64 1)), none⟩,
    ⟨some 61, .mov (.t 7), none⟩,
    ⟨some 62, .call 65 [(.t 58), (.t 60), (.t 61)], none⟩,
    ⟨some 57, .mov (.t 62), none⟩,
    ⟨some 63, .ext (.t 57) 0, none⟩,
    ⟨some 64, .ext (.t 57) 1, none⟩,
    ⟨some 9, .mov (.t 63), none⟩,
    ⟨some 10, .mov (.t 64), none⟩])
  (.seq (.seq (.region [⟨some 65, .mov (.t 10), none⟩,
    ⟨some 66, .un .not (.t 65), none⟩])
  (.cond (.t 66) (.seq (.region [⟨some 2, .mov (.k (.slice none 0 0)), none⟩,
    ⟨some 3, .mov (.k (.int .i64 3)), none⟩])
  .ret)
  .skip))
  (.seq (.region [⟨some 67, .mov (.t 9), none⟩,
    ⟨some 68, .build [(.int .i64 0), (.int .i64 0)] [(0, 1, (.k (.int .i64 (-1)))), (1, 1, (.t 67))], none⟩,
    ⟨some 11, .alloc [(.int .i64 0), (.int .i64 0)], none⟩,
    ⟨none, .store 2 (.t 11) (.t 68), none⟩])
  (.seq (.seq (.region [⟨some 69, .mov (.t 8), none⟩,
    ⟨some 70, .bin .gtr (.t 69) (.k (.int .i64 0)), none⟩])
  (.cond (.t 70) (.seq (.region [⟨some 72, .mov (.t 0), none⟩,
    ⟨some 73, .mov (.t 5), none⟩,
    ⟨some 74, .bin .add (.t 73) (.k (.int .i64 1)), none⟩,
    ⟨some 75, .mov (.t 7), none⟩,
    ⟨some 76, .bin .add (.t 74) (.t 75), none⟩,
    ⟨some 77, .mov (.t 8), none⟩,
    ⟨some 78, .call 65 [(.t 72), (.t 76), (.t 77)], none⟩,
    ⟨some 71, .mov (.t 78), none⟩,
    ⟨some 79, .ext (.t 71) 0, none⟩,
    ⟨some 80, .ext (.t 71) 1, none⟩,
    ⟨some 12, .mov (.t 79), none⟩,
    ⟨some 13, .mov (.t 80), none⟩])
  (.seq (.region [⟨some 81, .mov (.t 6), none⟩,
    ⟨some 82, .mov (.t 12), none⟩,
    ⟨some 83, .bin .add (.t 81) (.t 82), none⟩,
    ⟨some 6, .mov (.t 83), none⟩])
  (.seq (.seq (.region [⟨some 84, .mov (.t 13), none⟩,
    ⟨some 85, .un .not (.t 84), none⟩,
    ⟨some 86, .mov (.t 85), none⟩,
    ⟨some 87, .mov (.t 6), some (86, false)⟩,
    ⟨some 88, .bin .eql (.t 87) (.k (.int .i64 (-1))), some (86, false)⟩,
    ⟨some 89, .pick (.t 86) (.k (.bool true)) (.t 88), none⟩])
  (.cond (.t 89) (.seq (.region [⟨some 2, .mov (.k (.slice none 0 0)), none⟩,
    ⟨some 3, .mov (.k (.int .i64 3)), none⟩])
  .ret)
  .skip))
  (.region [⟨some 90, .mov (.t 6), none⟩,
    ⟨some 91, .addo 0 (.t 11), none⟩,
    ⟨none, .store 1 (.t 91) (.t 90), none⟩]))))
  .skip))
  (.seq (.region [⟨some 92, .mov (.t 4), none⟩,
    ⟨some 93, .load true 2 (.t 11), none⟩,
    ⟨some 94, .bslc 2 1 [(.int .i64 0), (.int .i64 0)] [(0, (.t 93))], none⟩,
    ⟨some 95, .app 2 16 [(.int .i64 0), (.int .i64 0)] (.t 92) (.t 94), none⟩,
    ⟨some 4, .mov (.t 95), none⟩])
  (.region [⟨some 96, .mov (.t 5), none⟩,
    ⟨some 97, .bin .add (.t 96) (.k (.int .i64 1)), none⟩,
    ⟨some 98, .mov (.t 7), none⟩,
    ⟨some 99, .bin .add (.t 97) (.t 98), none⟩,
    ⟨some 100, .mov (.t 8), none⟩,
    ⟨some 101, .bin .add (.t 99) (.t 100), none⟩,
    ⟨some 5, .mov (.t 101), none⟩]))))))))))))
  (.seq (.seq (.region [⟨some 102, .mov (.t 5), none⟩,
    ⟨some 103, .mov (.t 0), none⟩,
    ⟨some 104, .lenS (.t 103), none⟩,
    ⟨some 105, .bin .sub (.t 104) (.k (.int .i64 1)), none⟩,
    ⟨some 106, .bin .neq (.t 102) (.t 105), none⟩])
  (.cond (.t 106) (.seq (.region [⟨some 2, .mov (.k (.slice none 0 0)), none⟩,
    ⟨some 3, .mov (.k (.int .i64 3)), none⟩])
  .ret)
  .skip))
  (.seq (.seq (.region [⟨some 107, .mov (.t 4), none⟩,
    ⟨some 108, .call 13 [(.t 107)], none⟩,
    ⟨some 14, .mov (.t 108), none⟩])
  (.seq (.region [⟨some 109, .mov (.t 14), none⟩,
    ⟨some 110, .bin .neq (.t 109) (.k (.int .i64 0)), none⟩])
  (.cond (.t 110) (.seq (.region [⟨some 111, .mov (.t 14), none⟩,
    ⟨some 2, .mov (.k (.slice none 0 0)), none⟩,
    ⟨some 3, .mov (.t 111), none⟩])
  .ret)
  .skip)))
  (.seq (.region [⟨some 112, .mov (.t 4), none⟩,
    ⟨some 2, .mov (.t 112), none⟩,
    ⟨some 3, .mov (.k (.int .i64 0)), none⟩])
  .ret))))))))
theorem c32_ok : (Try.f32.body).bind (compileC Try.prog) = some c32 := by kernel_rfl
theorem r32_ok : Try.f32.results.toList.mapM (retOf Try.prog) = some [.tmp 2, .tmp 3] := by kernel_rfl

/-- depository/depositoryref03.Encode -/
def c33 : ACode :=
  (.seq (.region [⟨some 2, .mov (.k (.string ⟨#[]⟩)), none⟩])
  (.seq (.region [⟨some 3, .mov (.k (.string ⟨#[]⟩)), none⟩,
    ⟨some 4, .mov (.k (.int .i64 0)), none⟩])
  (.seq (.seq (.region [⟨some 5, .mov (.k (.int .i64 0)), none⟩])
  (.block 0 (.loop (.seq (.seq (.region [⟨some 8, .mov (.t 5), none⟩,
    ⟨some 9, .mov (.t 0), none⟩,
    ⟨some 10, .lenL (.t 9), none⟩,
    ⟨some 11, .bin .lss (.t 8) (.t 10), none⟩])
  (.cond (.t 11) .skip
  (.exit 0)))
  (.seq (.block 1 (.seq (.region [⟨some 14, .mov (.t 0), none⟩,
    ⟨some 15, .mov (.t 5), none⟩,
    ⟨some 16, .ixL 2 (.t 14) (.t 15), none⟩,
    ⟨some 17, .addo 1 (.t 16), none⟩,
    ⟨some 18, .load false 1 (.t 17), none⟩,
    ⟨some 19, .call 66 [(.t 18)], none⟩,
    ⟨some 6, .mov (.t 19), none⟩])
  (.seq (.seq (.region [⟨some 20, .mov (.t 0), none⟩,
    ⟨some 21, .mov (.t 5), none⟩,
    ⟨some 22, .ixL 2 (.t 20) (.t 21), none⟩,
    ⟨some 23, .addo 0 (.t 22), none⟩,
    ⟨some 24, .load false 1 (.t 23), none⟩,
    ⟨some 25, .bin .eql (.t 24) (.k (.int .i64 (-1))), none⟩])
  (.cond (.t 25) (.seq (.region [⟨some 26, .mov (.t 3), none⟩,
    ⟨some 27, .mov (.t 6), none⟩,
    ⟨some 28, .lenS (.t 27), none⟩,
    ⟨some 29, .call 67 [(.t 28), (.k (.int .i64 1))], none⟩,
    ⟨some 30, .bin .add (.t 26) (.t 29), none⟩,
    ⟨some 31, .mov (.t 6), none⟩,
    ⟨some 32, .bin .add (.t 30) (.t 31), none⟩,
    ⟨some 3, .mov (.t 32), none⟩])
  (.exit 1))
  .skip))
  (.seq (.region [⟨some 33, .mov (.t 0), none⟩,
    ⟨some 34, .mov (.t 5), none⟩,
    ⟨some 35, .ixL 2 (.t 33) (.t 34), none⟩,
    ⟨some 36, .addo 0 (.t 35), none⟩,
    ⟨some 37, .load false 1 (.t 36), none⟩,
    ⟨some 38, .mov (.t 4), none⟩,
    ⟨some 39, .bin .sub (.t 37) (.t 38), none⟩,
    ⟨some 40, .call 66 [(.t 39)], none⟩,
    ⟨some 7, .mov (.t 40), none⟩])
  (.seq (.region [⟨some 41, .mov (.t 0), none⟩,
    ⟨some 42, .mov (.t 5), none⟩,
    ⟨some 43, .ixL 2 (.t 41) (.t 42), none⟩,
    ⟨some 44, .addo 0 (.t 43), none⟩,
    ⟨some 45, .load false 1 (.t 44), none⟩,
    ⟨some 4, .mov (.t 45), none⟩])
  (.region [⟨some 46, .mov (.t 3), none⟩,
    ⟨some 47, .mov (.t 6), none⟩,
    ⟨some 48, .lenS (.t 47), none⟩,
    ⟨some 49, .mov (.t 7), none⟩,
    ⟨some 50, .lenS (.t 49), none⟩,
    ⟨some 51, .bin .mul (.k (.int .i64 16)) (.t 50), none⟩,
    ⟨some 52, .bin .add (.t 48) (.t 51), none⟩,
    ⟨some 53, .call 67 [(.t 52), (.k (.int .i64 1))], none⟩,
    ⟨some 54, .bin .add (.t 46) (.t 53), none⟩,
    ⟨some 55, .mov (.t 6), none⟩,
    ⟨some 56, .bin .add (.t 54) (.t 55), none⟩,
    ⟨some 57, .mov (.t 7), none⟩,
    ⟨some 58, .bin .add (.t 56) (.t 57), none⟩,
    ⟨some 3, .mov (.t 58), none⟩]))))))
  (.region [⟨some 12, .mov (.t 5), none⟩,
    ⟨some 13, .bin .add (.t 12) (.k (.int .i64 1)), none⟩,
    ⟨some 5, .mov (.t 13), none⟩]))))))
  (.seq (.region [⟨some 59, .mov (.t 3), none⟩,
    ⟨some 60, .call 68 [(.k (.int .i64 1))], none⟩,
    ⟨some 61, .bin .add (.t 59) (.t 60), none⟩,
    ⟨some 2, .mov (.t 61), none⟩])
  .ret))))
theorem c33_ok : (Try.f33.body).bind (compileC Try.prog) = some c33 := by kernel_rfl
theorem r33_ok : Try.f33.results.toList.mapM (retOf Try.prog) = some [.tmp 2] := by kernel_rfl

/-- depository/runs.CheckRuns -/
def c34 : ACode :=
  (.seq (.region [⟨some 2, .mov (.k (.int .i64 0)), none⟩,
    ⟨some 3, .mov (.k (.int .i64 0)), none⟩])
  (.seq (.seq (.region [⟨some 8, .mov (.t 0), none⟩,
    ⟨some 9, .lenL (.t 8), none⟩,
    ⟨some 10, .bin .gtr (.t 9) (.k (.int .i64 64)), none⟩])
  (.cond (.t 10) (.seq (.region [⟨some 2, .mov (.k (.int .i64 0)), none⟩,
    ⟨some 3, .mov (.k (.int .i64 8)), none⟩])
  .ret)
  .skip))
  (.seq (.region [⟨some 4, .alloc (List.replicate 512 (.bool false)), none⟩])
  (.seq (.seq (.region [⟨some 11, .mov (.t 0), none⟩,
    ⟨some 12, .lenL (.t 11), none⟩,
    ⟨some 13, .mov (.k (.int .i64 0)), none⟩])
  (.block 0 (.loop (.seq (.region [⟨some 14, .bin .lss (.t 13) (.t 12), none⟩])
  (.seq (.cond (.t 14) .skip
  (.exit 0))
  (.seq (.block 1 (.seq (.region [⟨some 15, .mov (.t 13), none⟩,
    ⟨some 16, .ixL 2 (.t 11) (.t 13), none⟩,
    ⟨some 17, .load true 2 (.t 16), none⟩,
    ⟨some 6, .alloc [(.int .i64 0), (.int .i64 0)], none⟩,
    ⟨some 5, .mov (.t 15), none⟩,
    ⟨none, .store 2 (.t 6) (.t 17), none⟩])
  (.seq (.seq (.region [⟨some 18, .load true 2 (.t 6), none⟩,
    ⟨some 19, .call 69 [(.t 18)], none⟩,
    ⟨some 7, .mov (.t 19), none⟩])
  (.seq (.region [⟨some 20, .mov (.t 7), none⟩,
    ⟨some 21, .bin .neq (.t 20) (.k (.int .i64 0)), none⟩])
  (.cond (.t 21) (.seq (.region [⟨some 22, .mov (.t 5), none⟩,
    ⟨some 23, .mov (.t 7), none⟩,
    ⟨some 2, .mov (.t 22), none⟩,
    ⟨some 3, .mov (.t 23), none⟩])
  .ret)
  .skip)))
  (.seq (.seq (.drawn [(true, ⟨some 24, .mov (.t 5), none⟩),
    (true, ⟨some 25, .bin .gtr (.t 24) (.k (.int .i64 0)), none⟩),
    (true, ⟨some 26, .mov (.t 25), none⟩),
    (true, ⟨some 27, .mov (.t 0), some (26, true)⟩),
    (true, ⟨some 28, .mov (.t 5), some (26, true)⟩),
    (true, ⟨some 29, .bin .sub (.t 28) (.k (.int .i64 1)), some (26, true)⟩),
    (true, ⟨some 30, .ixL 2 (.t 27) (.t 29), some (26, true)⟩),
    (true, ⟨some 31, .load true 2 (.t 30), some (26, true)⟩),
    (true, ⟨some 32, .load true 2 (.t 6), some (26, true)⟩),
    (false, ⟨some 33, .call 70 [(.t 31), (.t 32)], some (26, true)⟩),
    (true, ⟨some 34, .pick (.t 26) (.t 33) (.k (.bool false)), none⟩)])
  (.cond (.t 34) (.seq (.region [⟨some 35, .mov (.t 5), none⟩,
    ⟨some 2, .mov (.t 35), none⟩,
    ⟨some 3, .mov (.k (.int .i64 3)), none⟩])
  .ret)
  .skip))
  (.seq (.region [⟨some 36, .load true 2 (.t 6), none⟩,
    ⟨some 37, .call 71 [(.t 4), (.t 36)], none⟩,
    ⟨some 38, .un .not (.t 37), none⟩])
  (.cond (.t 38) (.seq (.region [⟨some 39, .mov (.t 5), none⟩,
    ⟨some 2, .mov (.t 39), none⟩,
    ⟨some 3, .mov (.k (.int .i64 23)), none⟩])
  .ret)
  .skip))))))
  (.region [⟨some 40, .bin .add (.t 13) (.k (.int .i64 1)), none⟩,
    ⟨some 13, .mov (.t 40), none⟩])))))))
  (.seq (.region [⟨some 41, .mov (.t 0), none⟩,
    ⟨some 42, .call 51 [(.t 41)], none⟩,
    ⟨some 43, .bin .leq (.t 42) (.k (.int .i64 4096)), none⟩,
    ⟨some 44, .call 48 [(.t 43), (.k (.int .i64 8))], none⟩,
    ⟨some 2, .mov (.k (.int .i64 0)), none⟩,
    ⟨some 3, .mov (.t 44), none⟩])
  .ret)))))
theorem c34_ok : (Try.f34.body).bind (compileC Try.prog) = some c34 := by kernel_rfl
theorem r34_ok : Try.f34.results.toList.mapM (retOf Try.prog) = some [.tmp 2, .tmp 3] := by kernel_rfl

/-- depository/runs.Canonical -/
def c35 : ACode :=
  (.seq (.region [⟨some 2, .mov (.k (.slice none 0 0)), none⟩,
    ⟨some 3, .mov (.k (.int .i64 0)), none⟩])
  (.seq (.seq (.region [⟨some 8, .mov (.t 0), none⟩,
    ⟨some 9, .lenL (.t 8), none⟩,
    ⟨some 10, .bin .gtr (.t 9) (.k (.int .i64 64)), none⟩])
  (.cond (.t 10) (.seq (.region [⟨some 2, .mov (.k (.slice none 0 0)), none⟩,
    ⟨some 3, .mov (.k (.int .i64 8)), none⟩])
  .ret)
  .skip))
  (.seq (.seq (.region [⟨some 11, .mov (.t 0), none⟩,
    ⟨some 12, .lenL (.t 11), none⟩,
    ⟨some 13, .mov (.k (.int .i64 0)), none⟩])
  (.block 0 (.loop (.seq (.region [⟨some 14, .bin .lss (.t 13) (.t 12), none⟩])
  (.seq (.cond (.t 14) .skip
  (.exit 0))
  (.seq (.block 1 (.seq (.region [⟨some 15, .ixL 2 (.t 11) (.t 13), none⟩,
    ⟨some 16, .load true 2 (.t 15), none⟩,
    ⟨some 5, .alloc [(.int .i64 0), (.int .i64 0)], none⟩,
    ⟨none, .store 2 (.t 5) (.t 16), none⟩])
  (.seq (.region [⟨some 17, .load true 2 (.t 5), none⟩,
    ⟨some 18, .call 69 [(.t 17)], none⟩,
    ⟨some 6, .mov (.t 18), none⟩])
  (.seq (.region [⟨some 19, .mov (.t 6), none⟩,
    ⟨some 20, .bin .neq (.t 19) (.k (.int .i64 0)), none⟩])
  (.cond (.t 20) (.seq (.region [⟨some 21, .mov (.t 6), none⟩,
    ⟨some 2, .mov (.k (.slice none 0 0)), none⟩,
    ⟨some 3, .mov (.t 21), none⟩])
  .ret)
  .skip)))))
  (.region [⟨some 22, .bin .add (.t 13) (.k (.int .i64 1)), none⟩,
    ⟨some 13, .mov (.t 22), none⟩])))))))
  (.seq (.region [⟨some 7, .alloc [(.slice none 0 0)], none⟩])
  (.seq (.region [⟨some 23, .mov (.t 0), none⟩,
    ⟨some 24, .call 60 [(.t 7), (.t 23)], none⟩])
  (.seq (.region [⟨some 25, .call 72 [(.t 7)], none⟩,
    ⟨some 26, .ext (.t 25) 0, none⟩,
    ⟨some 27, .ext (.t 25) 1, none⟩,
    ⟨some 2, .mov (.t 26), none⟩,
    ⟨some 3, .mov (.t 27), none⟩])
  .ret))))))
theorem c35_ok : (Try.f35.body).bind (compileC Try.prog) = some c35 := by kernel_rfl
theorem r35_ok : Try.f35.results.toList.mapM (retOf Try.prog) = some [.tmp 2, .tmp 3] := by kernel_rfl

/-- depository/runs.LengthOf -/
def c36 : ACode :=
  (.seq (.region [⟨some 2, .mov (.k (.int .i64 0)), none⟩,
    ⟨some 3, .mov (.k (.int .i64 0)), none⟩])
  (.seq (.seq (.region [⟨some 5, .mov (.t 0), none⟩,
    ⟨some 6, .bslc 1 1 [(.slice none 0 0)] [(0, (.t 5))], none⟩,
    ⟨some 7, .call 47 [(.t 6)], none⟩,
    ⟨some 4, .mov (.t 7), none⟩])
  (.seq (.region [⟨some 8, .mov (.t 4), none⟩,
    ⟨some 9, .bin .neq (.t 8) (.k (.int .i64 0)), none⟩])
  (.cond (.t 9) (.seq (.region [⟨some 10, .mov (.t 4), none⟩,
    ⟨some 2, .mov (.k (.int .i64 0)), none⟩,
    ⟨some 3, .mov (.t 10), none⟩])
  .ret)
  .skip)))
  (.seq (.region [⟨some 11, .mov (.t 0), none⟩,
    ⟨some 12, .call 51 [(.t 11)], none⟩,
    ⟨some 2, .mov (.t 12), none⟩,
    ⟨some 3, .mov (.k (.int .i64 0)), none⟩])
  .ret)))
theorem c36_ok : (Try.f36.body).bind (compileC Try.prog) = some c36 := by kernel_rfl
theorem r36_ok : Try.f36.results.toList.mapM (retOf Try.prog) = some [.tmp 2, .tmp 3] := by kernel_rfl

/-- depository/runs.AllocatedIn -/
def c37 : ACode :=
  (.seq (.region [⟨some 2, .mov (.k (.int .i64 0)), none⟩,
    ⟨some 3, .mov (.k (.int .i64 0)), none⟩])
  (.seq (.seq (.region [⟨some 5, .mov (.t 0), none⟩,
    ⟨some 6, .bslc 1 1 [(.slice none 0 0)] [(0, (.t 5))], none⟩,
    ⟨some 7, .call 47 [(.t 6)], none⟩,
    ⟨some 4, .mov (.t 7), none⟩])
  (.seq (.region [⟨some 8, .mov (.t 4), none⟩,
    ⟨some 9, .bin .neq (.t 8) (.k (.int .i64 0)), none⟩])
  (.cond (.t 9) (.seq (.region [⟨some 10, .mov (.t 4), none⟩,
    ⟨some 2, .mov (.k (.int .i64 0)), none⟩,
    ⟨some 3, .mov (.t 10), none⟩])
  .ret)
  .skip)))
  (.seq (.region [⟨some 11, .mov (.t 0), none⟩,
    ⟨some 12, .call 74 [(.t 11)], none⟩,
    ⟨some 13, .call 73 [(.t 12), (.f 49)], none⟩,
    ⟨some 14, .call 51 [(.t 13)], none⟩,
    ⟨some 2, .mov (.t 14), none⟩,
    ⟨some 3, .mov (.k (.int .i64 0)), none⟩])
  .ret)))
theorem c37_ok : (Try.f37.body).bind (compileC Try.prog) = some c37 := by kernel_rfl
theorem r37_ok : Try.f37.results.toList.mapM (retOf Try.prog) = some [.tmp 2, .tmp 3] := by kernel_rfl

/-- depository/runs.ExtentsOf -/
def c38 : ACode :=
  (.seq (.region [⟨some 2, .mov (.k (.slice none 0 0)), none⟩,
    ⟨some 3, .mov (.k (.int .i64 0)), none⟩])
  (.seq (.seq (.region [⟨some 6, .mov (.t 0), none⟩,
    ⟨some 7, .bslc 1 1 [(.slice none 0 0)] [(0, (.t 6))], none⟩,
    ⟨some 8, .call 47 [(.t 7)], none⟩,
    ⟨some 4, .mov (.t 8), none⟩])
  (.seq (.region [⟨some 9, .mov (.t 4), none⟩,
    ⟨some 10, .bin .neq (.t 9) (.k (.int .i64 0)), none⟩])
  (.cond (.t 10) (.seq (.region [⟨some 11, .mov (.t 4), none⟩,
    ⟨some 2, .mov (.k (.slice none 0 0)), none⟩,
    ⟨some 3, .mov (.t 11), none⟩])
  .ret)
  .skip)))
  (.seq (.region [⟨some 5, .alloc (List.replicate 512 (.bool false)), none⟩])
  (.seq (.region [⟨some 12, .mov (.t 0), none⟩,
    ⟨some 13, .call 55 [(.t 5), (.t 12)], none⟩])
  (.seq (.region [⟨some 14, .call 56 [(.t 5)], none⟩,
    ⟨some 2, .mov (.t 14), none⟩,
    ⟨some 3, .mov (.k (.int .i64 0)), none⟩])
  .ret)))))
theorem c38_ok : (Try.f38.body).bind (compileC Try.prog) = some c38 := by kernel_rfl
theorem r38_ok : Try.f38.results.toList.mapM (retOf Try.prog) = some [.tmp 2, .tmp 3] := by kernel_rfl

/-- depository/depositoryref03.Check -/
def c39 : ACode :=
  (.seq (.region [⟨some 2, .mov (.k (.int .i64 0)), none⟩,
    ⟨some 3, .mov (.k (.int .i64 0)), none⟩])
  (.seq (.seq (.region [⟨some 5, .mov (.t 0), none⟩,
    ⟨some 6, .lenL (.t 5), none⟩,
    ⟨some 7, .bin .gtr (.t 6) (.k (.int .i64 64)), none⟩])
  (.cond (.t 7) (.seq (.region [⟨some 2, .mov (.k (.int .i64 0)), none⟩,
    ⟨some 3, .mov (.k (.int .i64 8)), none⟩])
  .ret)
  .skip))
  (.seq (.seq (.region [⟨some 4, .mov (.k (.int .i64 0)), none⟩])
  (.block 0 (.loop (.seq (.seq (.region [⟨some 8, .mov (.t 4), none⟩,
    ⟨some 9, .mov (.t 0), none⟩,
    ⟨some 10, .lenL (.t 9), none⟩,
    ⟨some 11, .bin .lss (.t 8) (.t 10), none⟩])
  (.cond (.t 11) .skip
  (.exit 0)))
  (.seq (.block 1 (.seq (.seq (.region [⟨some 14, .mov (.t 0), none⟩,
    ⟨some 15, .mov (.t 4), none⟩,
    ⟨some 16, .ixL 2 (.t 14) (.t 15), none⟩,
    ⟨some 17, .load true 2 (.t 16), none⟩,
    ⟨some 18, .call 75 [(.t 17)], none⟩,
    ⟨some 19, .un .not (.t 18), none⟩])
  (.cond (.t 19) (.seq (.region [⟨some 20, .mov (.t 4), none⟩,
    ⟨some 2, .mov (.t 20), none⟩,
    ⟨some 3, .mov (.k (.int .i64 2)), none⟩])
  .ret)
  .skip))
  (.seq (.seq (.drawn [(true, ⟨some 21, .mov (.t 4), none⟩),
    (true, ⟨some 22, .bin .gtr (.t 21) (.k (.int .i64 0)), none⟩),
    (true, ⟨some 23, .mov (.t 22), none⟩),
    (true, ⟨some 24, .mov (.t 0), some (23, true)⟩),
    (true, ⟨some 25, .mov (.t 4), some (23, true)⟩),
    (true, ⟨some 26, .bin .sub (.t 25) (.k (.int .i64 1)), some (23, true)⟩),
    (true, ⟨some 27, .ixL 2 (.t 24) (.t 26), some (23, true)⟩),
    (true, ⟨some 28, .load true 2 (.t 27), some (23, true)⟩),
    (true, ⟨some 29, .mov (.t 0), some (23, true)⟩),
    (true, ⟨some 30, .mov (.t 4), some (23, true)⟩),
    (true, ⟨some 31, .ixL 2 (.t 29) (.t 30), some (23, true)⟩),
    (true, ⟨some 32, .load true 2 (.t 31), some (23, true)⟩),
    (false, ⟨some 33, .call 61 [(.t 28), (.t 32)], some (23, true)⟩),
    (true, ⟨some 34, .pick (.t 23) (.t 33) (.k (.bool false)), none⟩)])
  (.cond (.t 34) (.seq (.region [⟨some 35, .mov (.t 4), none⟩,
    ⟨some 2, .mov (.t 35), none⟩,
    ⟨some 3, .mov (.k (.int .i64 3)), none⟩])
  .ret)
  .skip))
  (.seq (.region [⟨some 36, .mov (.t 0), none⟩,
    ⟨some 37, .mov (.t 4), none⟩,
    ⟨some 38, .call 58 [(.t 36), (.t 37)], none⟩])
  (.cond (.t 38) (.seq (.region [⟨some 39, .mov (.t 4), none⟩,
    ⟨some 2, .mov (.t 39), none⟩,
    ⟨some 3, .mov (.k (.int .i64 23)), none⟩])
  .ret)
  .skip)))))
  (.region [⟨some 12, .mov (.t 4), none⟩,
    ⟨some 13, .bin .add (.t 12) (.k (.int .i64 1)), none⟩,
    ⟨some 4, .mov (.t 13), none⟩]))))))
  (.seq (.seq (.region [⟨some 40, .mov (.t 0), none⟩,
    ⟨some 41, .call 14 [(.t 40)], none⟩,
    ⟨some 42, .bin .gtr (.t 41) (.k (.int .i64 4096)), none⟩])
  (.cond (.t 42) (.seq (.region [⟨some 2, .mov (.k (.int .i64 0)), none⟩,
    ⟨some 3, .mov (.k (.int .i64 8)), none⟩])
  .ret)
  .skip))
  (.seq (.region [⟨some 2, .mov (.k (.int .i64 0)), none⟩,
    ⟨some 3, .mov (.k (.int .i64 0)), none⟩])
  .ret)))))
theorem c39_ok : (Try.f39.body).bind (compileC Try.prog) = some c39 := by kernel_rfl
theorem r39_ok : Try.f39.results.toList.mapM (retOf Try.prog) = some [.tmp 2, .tmp 3] := by kernel_rfl

/-- depository/depositoryref03.CanonicalErr -/
def c40 : ACode :=
  (.seq (.region [⟨some 2, .mov (.k (.int .i64 0)), none⟩])
  (.seq (.seq (.region [⟨some 4, .mov (.t 0), none⟩,
    ⟨some 5, .lenL (.t 4), none⟩,
    ⟨some 6, .bin .gtr (.t 5) (.k (.int .i64 64)), none⟩])
  (.cond (.t 6) (.seq (.region [⟨some 2, .mov (.k (.int .i64 8)), none⟩])
  .ret)
  .skip))
  (.seq (.seq (.region [⟨some 3, .mov (.k (.int .i64 0)), none⟩])
  (.block 0 (.loop (.seq (.seq (.region [⟨some 7, .mov (.t 3), none⟩,
    ⟨some 8, .mov (.t 0), none⟩,
    ⟨some 9, .lenL (.t 8), none⟩,
    ⟨some 10, .bin .lss (.t 7) (.t 9), none⟩])
  (.cond (.t 10) .skip
  (.exit 0)))
  (.seq (.block 1 (.seq (.region [⟨some 13, .mov (.t 0), none⟩,
    ⟨some 14, .mov (.t 3), none⟩,
    ⟨some 15, .ixL 2 (.t 13) (.t 14), none⟩,
    ⟨some 16, .load true 2 (.t 15), none⟩,
    ⟨some 17, .call 75 [(.t 16)], none⟩,
    ⟨some 18, .un .not (.t 17), none⟩])
  (.cond (.t 18) (.seq (.region [⟨some 2, .mov (.k (.int .i64 2)), none⟩])
  .ret)
  .skip)))
  (.region [⟨some 11, .mov (.t 3), none⟩,
    ⟨some 12, .bin .add (.t 11) (.k (.int .i64 1)), none⟩,
    ⟨some 3, .mov (.t 12), none⟩]))))))
  (.seq (.region [⟨some 19, .mov (.t 0), none⟩,
    ⟨some 20, .call 24 [(.t 19)], none⟩,
    ⟨some 2, .mov (.t 20), none⟩])
  .ret))))
theorem c40_ok : (Try.f40.body).bind (compileC Try.prog) = some c40 := by kernel_rfl
theorem r40_ok : Try.f40.results.toList.mapM (retOf Try.prog) = some [.tmp 2] := by kernel_rfl

/-- depository/depositoryref03.Allocated -/
def c41 : ACode :=
  (.seq (.region [⟨some 2, .mov (.k (.int .i64 0)), none⟩])
  (.seq (.region [⟨some 3, .mov (.k (.int .i64 0)), none⟩])
  (.seq (.seq (.region [⟨some 4, .mov (.k (.int .i64 0)), none⟩])
  (.block 0 (.loop (.seq (.seq (.region [⟨some 5, .mov (.t 4), none⟩,
    ⟨some 6, .mov (.t 0), none⟩,
    ⟨some 7, .lenL (.t 6), none⟩,
    ⟨some 8, .bin .lss (.t 5) (.t 7), none⟩])
  (.cond (.t 8) .skip
  (.exit 0)))
  (.seq (.block 1 (.seq (.region [⟨some 11, .mov (.t 0), none⟩,
    ⟨some 12, .mov (.t 4), none⟩,
    ⟨some 13, .ixL 2 (.t 11) (.t 12), none⟩,
    ⟨some 14, .addo 0 (.t 13), none⟩,
    ⟨some 15, .load false 1 (.t 14), none⟩,
    ⟨some 16, .bin .neq (.t 15) (.k (.int .i64 (-1))), none⟩])
  (.cond (.t 16) (.region [⟨some 17, .mov (.t 3), none⟩,
    ⟨some 18, .mov (.t 0), none⟩,
    ⟨some 19, .mov (.t 4), none⟩,
    ⟨some 20, .ixL 2 (.t 18) (.t 19), none⟩,
    ⟨some 21, .addo 1 (.t 20), none⟩,
    ⟨some 22, .load false 1 (.t 21), none⟩,
    ⟨some 23, .bin .add (.t 17) (.t 22), none⟩,
    ⟨some 3, .mov (.t 23), none⟩])
  .skip)))
  (.region [⟨some 9, .mov (.t 4), none⟩,
    ⟨some 10, .bin .add (.t 9) (.k (.int .i64 1)), none⟩,
    ⟨some 4, .mov (.t 10), none⟩]))))))
  (.seq (.region [⟨some 24, .mov (.t 3), none⟩,
    ⟨some 2, .mov (.t 24), none⟩])
  .ret))))
theorem c41_ok : (Try.f41.body).bind (compileC Try.prog) = some c41 := by kernel_rfl
theorem r41_ok : Try.f41.results.toList.mapM (retOf Try.prog) = some [.tmp 2] := by kernel_rfl

/-- depository/depositorybase.Mod -/
def c42 : ACode :=
  (.seq (.region [⟨some 4, .mov (.k (.int .i64 0)), none⟩])
  (.seq (.region [⟨some 5, .mov (.t 0), none⟩,
    ⟨some 6, .mov (.t 1), none⟩,
    ⟨some 7, .bin .rem (.t 5) (.t 6), none⟩,
    ⟨some 0, .mov (.t 7), none⟩])
  (.seq (.seq (.region [⟨some 8, .mov (.t 0), none⟩,
    ⟨some 9, .bin .lss (.t 8) (.k (.int .i64 0)), none⟩])
  (.cond (.t 9) (.region [⟨some 10, .mov (.t 0), none⟩,
    ⟨some 11, .mov (.t 1), none⟩,
    ⟨some 12, .bin .add (.t 10) (.t 11), none⟩,
    ⟨some 0, .mov (.t 12), none⟩])
  .skip))
  (.seq (.region [⟨some 13, .mov (.t 0), none⟩,
    ⟨some 4, .mov (.t 13), none⟩])
  .ret))))
theorem c42_ok : (Try.f42.body).bind (compileC Try.prog) = some c42 := by kernel_rfl
theorem r42_ok : Try.f42.results.toList.mapM (retOf Try.prog) = some [.tmp 4] := by kernel_rfl

/-- depository/depositorybase.SameRuns -/
def c43 : ACode :=
  (.seq (.region [⟨some 4, .mov (.k (.bool false)), none⟩])
  (.seq (.seq (.region [⟨some 6, .mov (.t 0), none⟩,
    ⟨some 7, .lenL (.t 6), none⟩,
    ⟨some 8, .mov (.t 1), none⟩,
    ⟨some 9, .lenL (.t 8), none⟩,
    ⟨some 10, .bin .neq (.t 7) (.t 9), none⟩])
  (.cond (.t 10) (.seq (.region [⟨some 4, .mov (.k (.bool false)), none⟩])
  .ret)
  .skip))
  (.seq (.seq (.region [⟨some 5, .mov (.k (.int .i64 0)), none⟩])
  (.block 0 (.loop (.seq (.seq (.region [⟨some 11, .mov (.t 5), none⟩,
    ⟨some 12, .mov (.t 0), none⟩,
    ⟨some 13, .lenL (.t 12), none⟩,
    ⟨some 14, .bin .lss (.t 11) (.t 13), none⟩])
  (.cond (.t 14) .skip
  (.exit 0)))
  (.seq (.block 1 (.seq (.drawn [(true, ⟨some 17, .mov (.t 0), none⟩),
    (true, ⟨some 18, .mov (.t 5), none⟩),
    (true, ⟨some 19, .ixL 2 (.t 17) (.t 18), none⟩),
    (true, ⟨some 20, .load true 2 (.t 19), none⟩),
    (true, ⟨some 21, .mov (.t 1), none⟩),
    (true, ⟨some 22, .mov (.t 5), none⟩),
    (true, ⟨some 23, .ixL 2 (.t 21) (.t 22), none⟩),
    (true, ⟨some 24, .load true 2 (.t 23), none⟩),
    (true, ⟨some 25, .eqs true [.i, .i] (.t 20) (.t 24), none⟩)])
  (.cond (.t 25) (.seq (.region [⟨some 4, .mov (.k (.bool false)), none⟩])
  .ret)
  .skip)))
  (.region [⟨some 15, .mov (.t 5), none⟩,
    ⟨some 16, .bin .add (.t 15) (.k (.int .i64 1)), none⟩,
    ⟨some 5, .mov (.t 16), none⟩]))))))
  (.seq (.region [⟨some 4, .mov (.k (.bool true)), none⟩])
  .ret))))
theorem c43_ok : (Try.f43.body).bind (compileC Try.prog) = some c43 := by kernel_rfl
theorem r43_ok : Try.f43.results.toList.mapM (retOf Try.prog) = some [.tmp 4] := by kernel_rfl

/-- depository/depositorylaw03.Three -/
def c44 : ACode :=
  (.seq (.region [⟨some 0, .mov (.k (.slice none 0 0)), none⟩])
  (.seq (.region [⟨some 1, .build [(.int .i64 0), (.int .i64 0)] [(0, 1, (.k (.int .i64 5))), (1, 1, (.k (.int .i64 3)))], none⟩,
    ⟨some 2, .build [(.int .i64 0), (.int .i64 0)] [(0, 1, (.k (.int .i64 (-1)))), (1, 1, (.k (.int .i64 2)))], none⟩,
    ⟨some 3, .build [(.int .i64 0), (.int .i64 0)] [(0, 1, (.k (.int .i64 4))), (1, 1, (.k (.int .i64 1)))], none⟩,
    ⟨some 4, .bslc 2 3 [(.int .i64 0), (.int .i64 0)] [(0, (.t 1)), (1, (.t 2)), (2, (.t 3))], none⟩,
    ⟨some 0, .mov (.t 4), none⟩])
  .ret))
theorem c44_ok : (Try.f44.body).bind (compileC Try.prog) = some c44 := by kernel_rfl
theorem r44_ok : Try.f44.results.toList.mapM (retOf Try.prog) = some [.tmp 0] := by kernel_rfl

/-- depository/depositoryref03.Format -/
def c45 : ACode :=
  (.seq (.region [⟨some 2, .mov (.k (.string ⟨#[]⟩)), none⟩])
  (.seq (.region [⟨some 3, .mov (.k (.string ⟨#[]⟩)), none⟩])
  (.seq (.seq (.region [⟨some 4, .mov (.k (.int .i64 0)), none⟩])
  (.block 0 (.loop (.seq (.seq (.region [⟨some 6, .mov (.t 4), none⟩,
    ⟨some 7, .mov (.t 0), none⟩,
    ⟨some 8, .lenL (.t 7), none⟩,
    ⟨some 9, .bin .lss (.t 6) (.t 8), none⟩])
  (.cond (.t 9) .skip
  (.exit 0)))
  (.seq (.block 1 (.seq (.seq (.region [⟨some 12, .mov (.t 4), none⟩,
    ⟨some 13, .bin .gtr (.t 12) (.k (.int .i64 0)), none⟩])
  (.cond (.t 13) (.region [⟨some 14, .mov (.t 3), none⟩,
    ⟨some 15, .bin .add (.t 14) (.k (.string ⟨#[32]⟩)), none⟩,
    ⟨some 3, .mov (.t 15), none⟩])
  .skip))
  (.seq (.region [⟨some 16, .mov (.t 0), none⟩,
    ⟨some 17, .mov (.t 4), none⟩,
    ⟨some 18, .ixL 2 (.t 16) (.t 17), none⟩,
    ⟨some 19, .addo 0 (.t 18), none⟩,
    ⟨some 20, .load false 1 (.t 19), none⟩,
    ⟨some 21, .call 76 [(.t 20)], none⟩,
    ⟨some 5, .mov (.t 21), none⟩])
  (.seq (.seq (.region [⟨some 22, .mov (.t 0), none⟩,
    ⟨some 23, .mov (.t 4), none⟩,
    ⟨some 24, .ixL 2 (.t 22) (.t 23), none⟩,
    ⟨some 25, .addo 0 (.t 24), none⟩,
    ⟨some 26, .load false 1 (.t 25), none⟩,
    ⟨some 27, .bin .eql (.t 26) (.k (.int .i64 (-1))), none⟩])
  (.cond (.t 27) (.region [⟨some 5, .mov (.k (.string ⟨#[45]⟩)), none⟩])
  .skip))
  (.region [⟨some 28, .mov (.t 3), none⟩,
    ⟨some 29, .mov (.t 5), none⟩,
    ⟨some 30, .bin .add (.t 28) (.t 29), none⟩,
    ⟨some 31, .bin .add (.t 30) (.k (.string ⟨#[43]⟩)), none⟩,
    ⟨some 32, .mov (.t 0), none⟩,
    ⟨some 33, .mov (.t 4), none⟩,
    ⟨some 34, .ixL 2 (.t 32) (.t 33), none⟩,
    ⟨some 35, .addo 1 (.t 34), none⟩,
    ⟨some 36, .load false 1 (.t 35), none⟩,
    ⟨some 37, .call 76 [(.t 36)], none⟩,
    ⟨some 38, .bin .add (.t 31) (.t 37), none⟩,
    ⟨some 3, .mov (.t 38), none⟩])))))
  (.region [⟨some 10, .mov (.t 4), none⟩,
    ⟨some 11, .bin .add (.t 10) (.k (.int .i64 1)), none⟩,
    ⟨some 4, .mov (.t 11), none⟩]))))))
  (.seq (.region [⟨some 39, .mov (.t 3), none⟩,
    ⟨some 2, .mov (.t 39), none⟩])
  .ret))))
theorem c45_ok : (Try.f45.body).bind (compileC Try.prog) = some c45 := by kernel_rfl
theorem r45_ok : Try.f45.results.toList.mapM (retOf Try.prog) = some [.tmp 2] := by kernel_rfl

/-- depository/runs.first -/
def c46 : ACode :=
  (.seq (.region [⟨some 2, .mov (.k (.int .i64 0)), none⟩])
  (.seq (.seq (.region [⟨some 5, .mov (.t 0), none⟩,
    ⟨some 6, .lenL (.t 5), none⟩,
    ⟨some 7, .mov (.k (.int .i64 0)), none⟩])
  (.block 0 (.loop (.seq (.region [⟨some 8, .bin .lss (.t 7) (.t 6), none⟩])
  (.seq (.cond (.t 8) .skip
  (.exit 0))
  (.seq (.block 1 (.seq (.region [⟨some 9, .ixL 1 (.t 5) (.t 7), none⟩,
    ⟨some 10, .load false 1 (.t 9), none⟩,
    ⟨some 4, .mov (.t 10), none⟩])
  (.seq (.region [⟨some 11, .mov (.t 4), none⟩,
    ⟨some 12, .bin .neq (.t 11) (.k (.int .i64 0)), none⟩])
  (.cond (.t 12) (.seq (.region [⟨some 13, .mov (.t 4), none⟩,
    ⟨some 2, .mov (.t 13), none⟩])
  .ret)
  .skip))))
  (.region [⟨some 14, .bin .add (.t 7) (.k (.int .i64 1)), none⟩,
    ⟨some 7, .mov (.t 14), none⟩])))))))
  (.seq (.region [⟨some 2, .mov (.k (.int .i64 0)), none⟩])
  .ret)))
theorem c46_ok : (Try.f46.body).bind (compileC Try.prog) = some c46 := by kernel_rfl
theorem r46_ok : Try.f46.results.toList.mapM (retOf Try.prog) = some [.tmp 2] := by kernel_rfl

/-- depository/runs.runsErr -/
def c47 : ACode :=
  (.seq (.region [⟨some 2, .mov (.k (.int .i64 0)), none⟩])
  (.seq (.seq (.region [⟨some 7, .mov (.t 0), none⟩,
    ⟨some 8, .lenL (.t 7), none⟩,
    ⟨some 9, .mov (.k (.int .i64 0)), none⟩])
  (.block 0 (.loop (.seq (.region [⟨some 10, .bin .lss (.t 9) (.t 8), none⟩])
  (.seq (.cond (.t 10) .skip
  (.exit 0))
  (.seq (.block 1 (.seq (.region [⟨some 11, .ixL 1 (.t 7) (.t 9), none⟩,
    ⟨some 12, .load false 1 (.t 11), none⟩,
    ⟨some 4, .mov (.t 12), none⟩])
  (.seq (.region [⟨some 14, .mov (.t 4), none⟩,
    ⟨some 15, .call 34 [(.t 14)], none⟩,
    ⟨some 13, .mov (.t 15), none⟩,
    ⟨some 16, .ext (.t 13) 0, none⟩,
    ⟨some 17, .ext (.t 13) 1, none⟩,
    ⟨some 5, .mov (.t 16), none⟩,
    ⟨some 6, .mov (.t 17), none⟩])
  (.seq (.region [⟨some 18, .mov (.t 6), none⟩,
    ⟨some 19, .bin .neq (.t 18) (.k (.int .i64 0)), none⟩])
  (.cond (.t 19) (.seq (.region [⟨some 20, .mov (.t 6), none⟩,
    ⟨some 2, .mov (.t 20), none⟩])
  .ret)
  .skip)))))
  (.region [⟨some 21, .bin .add (.t 9) (.k (.int .i64 1)), none⟩,
    ⟨some 9, .mov (.t 21), none⟩])))))))
  (.seq (.region [⟨some 2, .mov (.k (.int .i64 0)), none⟩])
  .ret)))
theorem c47_ok : (Try.f47.body).bind (compileC Try.prog) = some c47 := by kernel_rfl
theorem r47_ok : Try.f47.results.toList.mapM (retOf Try.prog) = some [.tmp 2] := by kernel_rfl

/-- depository/runs.unless -/
def c48 : ACode :=
  (.seq (.region [⟨some 4, .mov (.k (.int .i64 0)), none⟩])
  (.seq (.seq (.region [⟨some 5, .mov (.t 0), none⟩])
  (.cond (.t 5) (.seq (.region [⟨some 4, .mov (.k (.int .i64 0)), none⟩])
  .ret)
  .skip))
  (.seq (.region [⟨some 6, .mov (.t 1), none⟩,
    ⟨some 4, .mov (.t 6), none⟩])
  .ret)))
theorem c48_ok : (Try.f48.body).bind (compileC Try.prog) = some c48 := by kernel_rfl
theorem r48_ok : Try.f48.results.toList.mapM (retOf Try.prog) = some [.tmp 4] := by kernel_rfl

/-- depository/runs.isHole -/
def c49 : ACode :=
  (.seq (.region [⟨some 1, .box (.t 0), none⟩,
    ⟨some 2, .mov (.k (.bool false)), none⟩])
  (.seq (.region [⟨some 3, .addo 0 (.t 1), none⟩,
    ⟨some 4, .load false 1 (.t 3), none⟩,
    ⟨some 5, .bin .eql (.t 4) (.k (.int .i64 (-1))), none⟩,
    ⟨some 2, .mov (.t 5), none⟩])
  .ret))
theorem c49_ok : (Try.f49.body).bind (compileC Try.prog) = some c49 := by kernel_rfl
theorem r49_ok : Try.f49.results.toList.mapM (retOf Try.prog) = some [.tmp 2] := by kernel_rfl

/-- depository/depositoryref03.At -/
def c50 : ACode :=
  (.seq (.region [⟨some 4, .mov (.k (.int .i64 0)), none⟩])
  (.seq (.seq (.region [⟨some 5, .mov (.k (.int .i64 0)), none⟩])
  (.block 0 (.loop (.seq (.seq (.region [⟨some 6, .mov (.t 5), none⟩,
    ⟨some 7, .mov (.t 0), none⟩,
    ⟨some 8, .lenL (.t 7), none⟩,
    ⟨some 9, .bin .lss (.t 6) (.t 8), none⟩])
  (.cond (.t 9) .skip
  (.exit 0)))
  (.seq (.block 1 (.seq (.seq (.region [⟨some 12, .mov (.t 1), none⟩,
    ⟨some 13, .mov (.t 0), none⟩,
    ⟨some 14, .mov (.t 5), none⟩,
    ⟨some 15, .ixL 2 (.t 13) (.t 14), none⟩,
    ⟨some 16, .addo 1 (.t 15), none⟩,
    ⟨some 17, .load false 1 (.t 16), none⟩,
    ⟨some 18, .bin .lss (.t 12) (.t 17), none⟩])
  (.cond (.t 18) (.seq (.seq (.region [⟨some 19, .mov (.t 0), none⟩,
    ⟨some 20, .mov (.t 5), none⟩,
    ⟨some 21, .ixL 2 (.t 19) (.t 20), none⟩,
    ⟨some 22, .addo 0 (.t 21), none⟩,
    ⟨some 23, .load false 1 (.t 22), none⟩,
    ⟨some 24, .bin .eql (.t 23) (.k (.int .i64 (-1))), none⟩])
  (.cond (.t 24) (.seq (.region [⟨some 4, .mov (.k (.int .i64 (-1))), none⟩])
  .ret)
  .skip))
  (.seq (.region [⟨some 25, .mov (.t 0), none⟩,
    ⟨some 26, .mov (.t 5), none⟩,
    ⟨some 27, .ixL 2 (.t 25) (.t 26), none⟩,
    ⟨some 28, .addo 0 (.t 27), none⟩,
    ⟨some 29, .load false 1 (.t 28), none⟩,
    ⟨some 30, .mov (.t 1), none⟩,
    ⟨some 31, .bin .add (.t 29) (.t 30), none⟩,
    ⟨some 4, .mov (.t 31), none⟩])
  .ret))
  .skip))
  (.region [⟨some 32, .mov (.t 1), none⟩,
    ⟨some 33, .mov (.t 0), none⟩,
    ⟨some 34, .mov (.t 5), none⟩,
    ⟨some 35, .ixL 2 (.t 33) (.t 34), none⟩,
    ⟨some 36, .addo 1 (.t 35), none⟩,
    ⟨some 37, .load false 1 (.t 36), none⟩,
    ⟨some 38, .bin .sub (.t 32) (.t 37), none⟩,
    ⟨some 1, .mov (.t 38), none⟩])))
  (.region [⟨some 10, .mov (.t 5), none⟩,
    ⟨some 11, .bin .add (.t 10) (.k (.int .i64 1)), none⟩,
    ⟨some 5, .mov (.t 11), none⟩]))))))
  (.seq (.region [⟨some 4, .mov (.k (.int .i64 (-1))), none⟩])
  .ret)))
theorem c50_ok : (Try.f50.body).bind (compileC Try.prog) = some c50 := by kernel_rfl
theorem r50_ok : Try.f50.results.toList.mapM (retOf Try.prog) = some [.tmp 4] := by kernel_rfl

/-- depository/runs.length -/
def c51 : ACode :=
  (.seq (.region [⟨some 2, .mov (.k (.int .i64 0)), none⟩])
  (.seq (.region [⟨some 3, .mov (.k (.int .i64 0)), none⟩])
  (.seq (.seq (.region [⟨some 6, .mov (.t 0), none⟩,
    ⟨some 7, .lenL (.t 6), none⟩,
    ⟨some 8, .mov (.k (.int .i64 0)), none⟩])
  (.block 0 (.loop (.seq (.region [⟨some 9, .bin .lss (.t 8) (.t 7), none⟩])
  (.seq (.cond (.t 9) .skip
  (.exit 0))
  (.seq (.block 1 (.seq (.region [⟨some 10, .ixL 2 (.t 6) (.t 8), none⟩,
    ⟨some 11, .load true 2 (.t 10), none⟩,
    ⟨some 5, .alloc [(.int .i64 0), (.int .i64 0)], none⟩,
    ⟨none, .store 2 (.t 5) (.t 11), none⟩])
  (.region [⟨some 12, .mov (.t 3), none⟩,
    ⟨some 13, .addo 1 (.t 5), none⟩,
    ⟨some 14, .load false 1 (.t 13), none⟩,
    ⟨some 15, .bin .add (.t 12) (.t 14), none⟩,
    ⟨some 3, .mov (.t 15), none⟩])))
  (.region [⟨some 16, .bin .add (.t 8) (.k (.int .i64 1)), none⟩,
    ⟨some 8, .mov (.t 16), none⟩])))))))
  (.seq (.region [⟨some 17, .mov (.t 3), none⟩,
    ⟨some 2, .mov (.t 17), none⟩])
  .ret))))
theorem c51_ok : (Try.f51.body).bind (compileC Try.prog) = some c51 := by kernel_rfl
theorem r51_ok : Try.f51.results.toList.mapM (retOf Try.prog) = some [.tmp 2] := by kernel_rfl

/-- depository/runs.changeErr -/
def c52 : ACode :=
  (.seq (.region [⟨some 8, .mov (.k (.int .i64 0)), none⟩])
  (.seq (.region [⟨some 9, .mov (.t 0), none⟩,
    ⟨some 10, .mov (.t 2), none⟩,
    ⟨some 11, .bslc 1 2 [(.slice none 0 0)] [(0, (.t 9)), (1, (.t 10))], none⟩,
    ⟨some 12, .call 47 [(.t 11)], none⟩,
    ⟨some 13, .mov (.t 1), none⟩,
    ⟨some 14, .call 77 [(.t 13), (.k (.int .i64 0)), (.k (.int .i64 4096))], none⟩,
    ⟨some 15, .call 48 [(.t 14), (.k (.int .i64 2))], none⟩,
    ⟨some 16, .mov (.t 1), none⟩,
    ⟨some 17, .mov (.t 0), none⟩,
    ⟨some 18, .call 51 [(.t 17)], none⟩,
    ⟨some 19, .mov (.t 3), none⟩,
    ⟨some 20, .bin .sub (.t 18) (.t 19), none⟩,
    ⟨some 21, .bin .leq (.t 16) (.t 20), none⟩,
    ⟨some 22, .call 48 [(.t 21), (.k (.int .i64 37))], none⟩,
    ⟨some 23, .bslc 1 3 [(.int .i64 0)] [(0, (.t 12)), (1, (.t 15)), (2, (.t 22))], none⟩,
    ⟨some 24, .call 46 [(.t 23)], none⟩,
    ⟨some 8, .mov (.t 24), none⟩])
  .ret))
theorem c52_ok : (Try.f52.body).bind (compileC Try.prog) = some c52 := by kernel_rfl
theorem r52_ok : Try.f52.results.toList.mapM (retOf Try.prog) = some [.tmp 8] := by kernel_rfl

/-- depository/runs.made -/
def c53 : ACode :=
  (.seq (.region [⟨some 2, .mov (.k (.slice none 0 0)), none⟩,
    ⟨some 3, .mov (.k (.int .i64 0)), none⟩])
  (.seq (.region [⟨some 4, .alloc [(.slice none 0 0)], none⟩])
  (.seq (.seq (.region [⟨some 7, .mov (.t 0), none⟩,
    ⟨some 8, .lenL (.t 7), none⟩,
    ⟨some 9, .mov (.k (.int .i64 0)), none⟩])
  (.block 0 (.loop (.seq (.region [⟨some 10, .bin .lss (.t 9) (.t 8), none⟩])
  (.seq (.cond (.t 10) .skip
  (.exit 0))
  (.seq (.block 1 (.seq (.region [⟨some 11, .ixL 1 (.t 7) (.t 9), none⟩,
    ⟨some 12, .load false 1 (.t 11), none⟩,
    ⟨some 6, .mov (.t 12), none⟩])
  (.region [⟨some 13, .mov (.t 6), none⟩,
    ⟨some 14, .call 60 [(.t 4), (.t 13)], none⟩])))
  (.region [⟨some 15, .bin .add (.t 9) (.k (.int .i64 1)), none⟩,
    ⟨some 9, .mov (.t 15), none⟩])))))))
  (.seq (.region [⟨some 16, .call 72 [(.t 4)], none⟩,
    ⟨some 17, .ext (.t 16) 0, none⟩,
    ⟨some 18, .ext (.t 16) 1, none⟩,
    ⟨some 2, .mov (.t 17), none⟩,
    ⟨some 3, .mov (.t 18), none⟩])
  .ret))))
theorem c53_ok : (Try.f53.body).bind (compileC Try.prog) = some c53 := by kernel_rfl
theorem r53_ok : Try.f53.results.toList.mapM (retOf Try.prog) = some [.tmp 2, .tmp 3] := by kernel_rfl

/-- depository/runs.part -/
def c54 : ACode :=
  (.seq (.region [⟨some 6, .mov (.k (.slice none 0 0)), none⟩])
  (.seq (.region [⟨some 7, .mov (.k (.slice none 0 0)), none⟩])
  (.seq (.seq (.region [⟨some 13, .mov (.t 0), none⟩,
    ⟨some 14, .lenL (.t 13), none⟩,
    ⟨some 15, .mov (.k (.int .i64 0)), none⟩])
  (.block 0 (.loop (.seq (.region [⟨some 16, .bin .lss (.t 15) (.t 14), none⟩])
  (.seq (.cond (.t 16) .skip
  (.exit 0))
  (.seq (.block 1 (.seq (.region [⟨some 17, .ixL 2 (.t 13) (.t 15), none⟩,
    ⟨some 18, .load true 2 (.t 17), none⟩,
    ⟨some 9, .alloc [(.int .i64 0), (.int .i64 0)], none⟩,
    ⟨none, .store 2 (.t 9) (.t 18), none⟩])
  (.seq (.region [⟨some 19, .mov (.t 1), none⟩,
    ⟨some 20, .addo 1 (.t 9), none⟩,
    ⟨some 21, .load false 1 (.t 20), none⟩,
    ⟨some 22, .min2 (.t 19) (.t 21), none⟩,
    ⟨some 10, .mov (.t 22), none⟩])
  (.seq (.region [⟨some 23, .mov (.t 1), none⟩,
    ⟨some 24, .mov (.t 10), none⟩,
    ⟨some 25, .bin .sub (.t 23) (.t 24), none⟩,
    ⟨some 1, .mov (.t 25), none⟩])
  (.seq (.region [⟨some 26, .mov (.t 2), none⟩,
    ⟨some 27, .addo 1 (.t 9), none⟩,
    ⟨some 28, .load false 1 (.t 27), none⟩,
    ⟨some 29, .mov (.t 10), none⟩,
    ⟨some 30, .bin .sub (.t 28) (.t 29), none⟩,
    ⟨some 31, .min2 (.t 26) (.t 30), none⟩,
    ⟨some 11, .mov (.t 31), none⟩])
  (.seq (.region [⟨some 32, .mov (.t 2), none⟩,
    ⟨some 33, .mov (.t 11), none⟩,
    ⟨some 34, .bin .sub (.t 32) (.t 33), none⟩,
    ⟨some 2, .mov (.t 34), none⟩])
  (.seq (.seq (.region [⟨some 35, .mov (.t 11), none⟩,
    ⟨some 36, .bin .eql (.t 35) (.k (.int .i64 0)), none⟩])
  (.cond (.t 36) (.exit 1)
  .skip))
  (.seq (.region [⟨some 37, .mov (.t 11), none⟩,
    ⟨some 38, .build [(.int .i64 0), (.int .i64 0)] [(0, 1, (.k (.int .i64 (-1)))), (1, 1, (.t 37))], none⟩,
    ⟨some 12, .alloc [(.int .i64 0), (.int .i64 0)], none⟩,
    ⟨none, .store 2 (.t 12) (.t 38), none⟩])
  (.seq (.seq (.region [⟨some 39, .load true 2 (.t 9), none⟩,
    ⟨some 40, .call 49 [(.t 39)], none⟩,
    ⟨some 41, .un .not (.t 40), none⟩])
  (.cond (.t 41) (.region [⟨some 42, .addo 0 (.t 9), none⟩,
    ⟨some 43, .load false 1 (.t 42), none⟩,
    ⟨some 44, .mov (.t 10), none⟩,
    ⟨some 45, .bin .add (.t 43) (.t 44), none⟩,
    ⟨some 46, .addo 0 (.t 12), none⟩,
    ⟨none, .store 1 (.t 46) (.t 45), none⟩])
  .skip))
  (.region [⟨some 47, .mov (.t 7), none⟩,
    ⟨some 48, .load true 2 (.t 12), none⟩,
    ⟨some 49, .bslc 2 1 [(.int .i64 0), (.int .i64 0)] [(0, (.t 48))], none⟩,
    ⟨some 50, .app 2 16 [(.int .i64 0), (.int .i64 0)] (.t 47) (.t 49), none⟩,
    ⟨some 7, .mov (.t 50), none⟩]))))))))))
  (.region [⟨some 51, .bin .add (.t 15) (.k (.int .i64 1)), none⟩,
    ⟨some 15, .mov (.t 51), none⟩])))))))
  (.seq (.region [⟨some 52, .mov (.t 7), none⟩,
    ⟨some 6, .mov (.t 52), none⟩])
  .ret))))
theorem c54_ok : (Try.f54.body).bind (compileC Try.prog) = some c54 := by kernel_rfl
theorem r54_ok : Try.f54.results.toList.mapM (retOf Try.prog) = some [.tmp 6] := by kernel_rfl

/-- (*depository/runs.used).takeAll -/
def c55 : ACode :=
  (.seq (.region [⟨some 6, .mov (.t 1), none⟩,
    ⟨some 7, .lenL (.t 6), none⟩,
    ⟨some 8, .mov (.k (.int .i64 0)), none⟩])
  (.block 0 (.loop (.seq (.region [⟨some 9, .bin .lss (.t 8) (.t 7), none⟩])
  (.seq (.cond (.t 9) .skip
  (.exit 0))
  (.seq (.block 1 (.seq (.region [⟨some 10, .ixL 2 (.t 6) (.t 8), none⟩,
    ⟨some 11, .load true 2 (.t 10), none⟩,
    ⟨some 5, .alloc [(.int .i64 0), (.int .i64 0)], none⟩,
    ⟨none, .store 2 (.t 5) (.t 11), none⟩])
  (.region [⟨some 12, .mov (.t 0), none⟩,
    ⟨some 13, .load true 2 (.t 5), none⟩,
    ⟨some 14, .call 71 [(.t 12), (.t 13)], none⟩])))
  (.region [⟨some 15, .bin .add (.t 8) (.k (.int .i64 1)), none⟩,
    ⟨some 8, .mov (.t 15), none⟩])))))))
theorem c55_ok : (Try.f55.body).bind (compileC Try.prog) = some c55 := by kernel_rfl
theorem r55_ok : Try.f55.results.toList.mapM (retOf Try.prog) = some [] := by kernel_rfl

/-- (*depository/runs.used).extents -/
def c56 : ACode :=
  (.seq (.region [⟨some 2, .mov (.k (.slice none 0 0)), none⟩])
  (.seq (.region [⟨some 3, .alloc [(.slice none 0 0)], none⟩])
  (.seq (.seq (.region [⟨some 6, .mov (.t 0), none⟩,
    ⟨some 7, .mov (.k (.int .i64 0)), none⟩])
  (.block 0 (.loop (.seq (.region [⟨some 8, .bin .lss (.t 7) (.k (.int .i64 512)), none⟩])
  (.seq (.cond (.t 8) .skip
  (.exit 0))
  (.seq (.block 1 (.seq (.drawn [(true, ⟨some 9, .mov (.t 7), none⟩),
    (true, ⟨some 10, .nilc (.t 6), none⟩),
    (true, ⟨some 11, .ixA 512 1 (.t 10) (.t 7), none⟩),
    (true, ⟨some 12, .load false 1 (.t 11), none⟩),
    (true, ⟨some 4, .mov (.t 9), none⟩),
    (true, ⟨some 5, .mov (.t 12), none⟩)])
  (.seq (.region [⟨some 13, .mov (.t 5), none⟩])
  (.cond (.t 13) (.region [⟨some 14, .mov (.t 4), none⟩,
    ⟨some 15, .build [(.int .i64 0), (.int .i64 0)] [(0, 1, (.t 14)), (1, 1, (.k (.int .i64 1)))], none⟩,
    ⟨some 16, .call 78 [(.t 3), (.t 15)], none⟩])
  .skip))))
  (.region [⟨some 17, .bin .add (.t 7) (.k (.int .i64 1)), none⟩,
    ⟨some 7, .mov (.t 17), none⟩])))))))
  (.seq (.region [⟨some 18, .addo 0 (.t 3), none⟩,
    ⟨some 19, .load false 1 (.t 18), none⟩,
    ⟨some 2, .mov (.t 19), none⟩])
  .ret))))
theorem c56_ok : (Try.f56.body).bind (compileC Try.prog) = some c56 := by kernel_rfl
theorem r56_ok : Try.f56.results.toList.mapM (retOf Try.prog) = some [.tmp 2] := by kernel_rfl

/-- depository/depositorybase.Has -/
def c57 : ACode :=
  (.seq (.region [⟨some 4, .mov (.k (.bool false)), none⟩])
  (.seq (.seq (.region [⟨some 5, .mov (.k (.int .i64 0)), none⟩])
  (.block 0 (.loop (.seq (.seq (.region [⟨some 6, .mov (.t 5), none⟩,
    ⟨some 7, .mov (.t 0), none⟩,
    ⟨some 8, .lenL (.t 7), none⟩,
    ⟨some 9, .bin .lss (.t 6) (.t 8), none⟩])
  (.cond (.t 9) .skip
  (.exit 0)))
  (.seq (.block 1 (.seq (.region [⟨some 12, .mov (.t 0), none⟩,
    ⟨some 13, .mov (.t 5), none⟩,
    ⟨some 14, .ixL 1 (.t 12) (.t 13), none⟩,
    ⟨some 15, .load false 1 (.t 14), none⟩,
    ⟨some 16, .mov (.t 1), none⟩,
    ⟨some 17, .bin .eql (.t 15) (.t 16), none⟩])
  (.cond (.t 17) (.seq (.region [⟨some 4, .mov (.k (.bool true)), none⟩])
  .ret)
  .skip)))
  (.region [⟨some 10, .mov (.t 5), none⟩,
    ⟨some 11, .bin .add (.t 10) (.k (.int .i64 1)), none⟩,
    ⟨some 5, .mov (.t 11), none⟩]))))))
  (.seq (.region [⟨some 4, .mov (.k (.bool false)), none⟩])
  .ret)))
theorem c57_ok : (Try.f57.body).bind (compileC Try.prog) = some c57 := by kernel_rfl
theorem r57_ok : Try.f57.results.toList.mapM (retOf Try.prog) = some [.tmp 4] := by kernel_rfl

/-- depository/depositoryref03.doubled -/
def c58 : ACode :=
  (.seq (.region [⟨some 4, .mov (.k (.bool false)), none⟩])
  (.seq (.seq (.region [⟨some 5, .mov (.k (.int .i64 0)), none⟩])
  (.block 0 (.loop (.seq (.seq (.region [⟨some 6, .mov (.t 5), none⟩,
    ⟨some 7, .mov (.t 1), none⟩,
    ⟨some 8, .bin .lss (.t 6) (.t 7), none⟩])
  (.cond (.t 8) .skip
  (.exit 0)))
  (.seq (.block 1 (.seq (.drawn [(true, ⟨some 11, .mov (.t 0), none⟩),
    (true, ⟨some 12, .mov (.t 5), none⟩),
    (true, ⟨some 13, .ixL 2 (.t 11) (.t 12), none⟩),
    (true, ⟨some 14, .load true 2 (.t 13), none⟩),
    (true, ⟨some 15, .mov (.t 0), none⟩),
    (true, ⟨some 16, .mov (.t 1), none⟩),
    (true, ⟨some 17, .ixL 2 (.t 15) (.t 16), none⟩),
    (true, ⟨some 18, .load true 2 (.t 17), none⟩),
    (false, ⟨some 19, .call 79 [(.t 14), (.t 18)], none⟩)])
  (.cond (.t 19) (.seq (.region [⟨some 4, .mov (.k (.bool true)), none⟩])
  .ret)
  .skip)))
  (.region [⟨some 9, .mov (.t 5), none⟩,
    ⟨some 10, .bin .add (.t 9) (.k (.int .i64 1)), none⟩,
    ⟨some 5, .mov (.t 10), none⟩]))))))
  (.seq (.region [⟨some 4, .mov (.k (.bool false)), none⟩])
  .ret)))
theorem c58_ok : (Try.f58.body).bind (compileC Try.prog) = some c58 := by kernel_rfl
theorem r58_ok : Try.f58.results.toList.mapM (retOf Try.prog) = some [.tmp 4] := by kernel_rfl

/-- depository/runs.cutErr -/
def c59 : ACode :=
  (.seq (.region [⟨some 6, .mov (.k (.int .i64 0)), none⟩])
  (.seq (.region [⟨some 7, .mov (.t 0), none⟩,
    ⟨some 8, .bslc 1 1 [(.slice none 0 0)] [(0, (.t 7))], none⟩,
    ⟨some 9, .call 47 [(.t 8)], none⟩,
    ⟨some 10, .mov (.t 1), none⟩,
    ⟨some 11, .call 77 [(.t 10), (.k (.int .i64 0)), (.k (.int .i64 4096))], none⟩,
    ⟨some 12, .mov (.t 11), none⟩,
    ⟨some 13, .mov (.t 2), some (12, true)⟩,
    ⟨some 14, .call 77 [(.t 13), (.k (.int .i64 0)), (.k (.int .i64 4096))], some (12, true)⟩,
    ⟨some 15, .pick (.t 12) (.t 14) (.k (.bool false)), none⟩,
    ⟨some 16, .call 48 [(.t 15), (.k (.int .i64 2))], none⟩,
    ⟨some 17, .mov (.t 1), none⟩,
    ⟨some 18, .mov (.t 0), none⟩,
    ⟨some 19, .call 51 [(.t 18)], none⟩,
    ⟨some 20, .mov (.t 2), none⟩,
    ⟨some 21, .bin .sub (.t 19) (.t 20), none⟩,
    ⟨some 22, .bin .leq (.t 17) (.t 21), none⟩,
    ⟨some 23, .call 48 [(.t 22), (.k (.int .i64 37))], none⟩,
    ⟨some 24, .bslc 1 3 [(.int .i64 0)] [(0, (.t 9)), (1, (.t 16)), (2, (.t 23))], none⟩,
    ⟨some 25, .call 46 [(.t 24)], none⟩,
    ⟨some 6, .mov (.t 25), none⟩])
  .ret))
theorem c59_ok : (Try.f59.body).bind (compileC Try.prog) = some c59 := by kernel_rfl
theorem r59_ok : Try.f59.results.toList.mapM (retOf Try.prog) = some [.tmp 6] := by kernel_rfl

/-- (*depository/runs.list).addAll -/
def c60 : ACode :=
  (.seq (.region [⟨some 6, .mov (.t 1), none⟩,
    ⟨some 7, .lenL (.t 6), none⟩,
    ⟨some 8, .mov (.k (.int .i64 0)), none⟩])
  (.block 0 (.loop (.seq (.region [⟨some 9, .bin .lss (.t 8) (.t 7), none⟩])
  (.seq (.cond (.t 9) .skip
  (.exit 0))
  (.seq (.block 1 (.seq (.region [⟨some 10, .ixL 2 (.t 6) (.t 8), none⟩,
    ⟨some 11, .load true 2 (.t 10), none⟩,
    ⟨some 5, .alloc [(.int .i64 0), (.int .i64 0)], none⟩,
    ⟨none, .store 2 (.t 5) (.t 11), none⟩])
  (.region [⟨some 12, .mov (.t 0), none⟩,
    ⟨some 13, .load true 2 (.t 5), none⟩,
    ⟨some 14, .call 78 [(.t 12), (.t 13)], none⟩])))
  (.region [⟨some 15, .bin .add (.t 8) (.k (.int .i64 1)), none⟩,
    ⟨some 8, .mov (.t 15), none⟩])))))))
theorem c60_ok : (Try.f60.body).bind (compileC Try.prog) = some c60 := by kernel_rfl
theorem r60_ok : Try.f60.results.toList.mapM (retOf Try.prog) = some [] := by kernel_rfl

/-- depository/depositoryref03.Joins -/
def c61 : ACode :=
  (.seq (.region [⟨some 2, .box (.t 0), none⟩,
    ⟨some 3, .box (.t 1), none⟩,
    ⟨some 4, .mov (.k (.bool false)), none⟩])
  (.seq (.seq (.region [⟨some 5, .addo 0 (.t 2), none⟩,
    ⟨some 6, .load false 1 (.t 5), none⟩,
    ⟨some 7, .bin .eql (.t 6) (.k (.int .i64 (-1))), none⟩,
    ⟨some 8, .mov (.t 7), none⟩,
    ⟨some 9, .addo 0 (.t 3), some (8, false)⟩,
    ⟨some 10, .load false 1 (.t 9), some (8, false)⟩,
    ⟨some 11, .bin .eql (.t 10) (.k (.int .i64 (-1))), some (8, false)⟩,
    ⟨some 12, .pick (.t 8) (.k (.bool true)) (.t 11), none⟩])
  (.cond (.t 12) (.seq (.region [⟨some 13, .addo 0 (.t 2), none⟩,
    ⟨some 14, .load false 1 (.t 13), none⟩,
    ⟨some 15, .addo 0 (.t 3), none⟩,
    ⟨some 16, .load false 1 (.t 15), none⟩,
    ⟨some 17, .bin .eql (.t 14) (.t 16), none⟩,
    ⟨some 4, .mov (.t 17), none⟩])
  .ret)
  .skip))
  (.seq (.region [⟨some 18, .addo 0 (.t 3), none⟩,
    ⟨some 19, .load false 1 (.t 18), none⟩,
    ⟨some 20, .addo 0 (.t 2), none⟩,
    ⟨some 21, .load false 1 (.t 20), none⟩,
    ⟨some 22, .addo 1 (.t 2), none⟩,
    ⟨some 23, .load false 1 (.t 22), none⟩,
    ⟨some 24, .bin .add (.t 21) (.t 23), none⟩,
    ⟨some 25, .bin .eql (.t 19) (.t 24), none⟩,
    ⟨some 4, .mov (.t 25), none⟩])
  .ret)))
theorem c61_ok : (Try.f61.body).bind (compileC Try.prog) = some c61 := by kernel_rfl
theorem r61_ok : Try.f61.results.toList.mapM (retOf Try.prog) = some [.tmp 4] := by kernel_rfl

/-- depository/runs.sizeOf -/
def c62 : ACode :=
  (.seq (.region [⟨some 2, .mov (.k (.int .i64 0)), none⟩])
  (.seq (.region [⟨some 3, .mov (.k (.int .i64 1)), none⟩])
  (.seq (.block 0 (.loop (.seq (.seq (.drawn [(true, ⟨some 4, .mov (.t 0), none⟩),
    (true, ⟨some 5, .mov (.t 3), none⟩),
    (true, ⟨some 6, .bin .mul (.k (.int .i64 8)) (.t 5), none⟩),
    (true, ⟨some 7, .bin .sub (.t 6) (.k (.int .i64 1)), none⟩),
    (true, ⟨some 8, .bin .shl (.k (.int .i64 (-1))) (.t 7), none⟩),
    (true, ⟨some 9, .mov (.t 3), none⟩),
    (true, ⟨some 10, .bin .mul (.k (.int .i64 8)) (.t 9), none⟩),
    (true, ⟨some 11, .bin .sub (.t 10) (.k (.int .i64 1)), none⟩),
    (true, ⟨some 12, .bin .shl (.k (.int .i64 1)) (.t 11), none⟩),
    (true, ⟨some 13, .bin .sub (.t 12) (.k (.int .i64 1)), none⟩),
    (false, ⟨some 14, .call 77 [(.t 4), (.t 8), (.t 13)], none⟩),
    (true, ⟨some 15, .un .not (.t 14), none⟩)])
  (.cond (.t 15) .skip
  (.exit 0)))
  (.block 1 (.region [⟨some 16, .mov (.t 3), none⟩,
    ⟨some 17, .bin .add (.t 16) (.k (.int .i64 1)), none⟩,
    ⟨some 3, .mov (.t 17), none⟩])))))
  (.seq (.region [⟨some 18, .mov (.t 3), none⟩,
    ⟨some 2, .mov (.t 18), none⟩])
  .ret))))
theorem c62_ok : (Try.f62.body).bind (compileC Try.prog) = some c62 := by kernel_rfl
theorem r62_ok : Try.f62.results.toList.mapM (retOf Try.prog) = some [.tmp 2] := by kernel_rfl

/-- depository/runs.signed -/
def c63 : ACode :=
  (.seq (.region [⟨some 4, .mov (.k (.slice none 0 0)), none⟩])
  (.seq (.region [⟨some 5, .mov (.k (.slice none 0 0)), none⟩])
  (.seq (.seq (.region [⟨some 6, .mov (.t 1), none⟩,
    ⟨some 7, .mov (.k (.int .i64 0)), none⟩])
  (.block 0 (.loop (.seq (.region [⟨some 8, .bin .lss (.t 7) (.t 6), none⟩])
  (.seq (.cond (.t 8) .skip
  (.exit 0))
  (.seq (.block 1 (.seq (.region [⟨some 9, .mov (.t 5), none⟩,
    ⟨some 10, .mov (.t 0), none⟩,
    ⟨some 11, .conv .u8 (.t 10), none⟩,
    ⟨some 12, .bslc 1 1 [(.int .u8 0)] [(0, (.t 11))], none⟩,
    ⟨some 13, .app 1 1 [(.int .u8 0)] (.t 9) (.t 12), none⟩,
    ⟨some 5, .mov (.t 13), none⟩])
  (.region [⟨some 14, .mov (.t 0), none⟩,
    ⟨some 15, .bin .shr (.t 14) (.k (.int .u64 8)), none⟩,
    ⟨some 0, .mov (.t 15), none⟩])))
  (.region [⟨some 16, .bin .add (.t 7) (.k (.int .i64 1)), none⟩,
    ⟨some 7, .mov (.t 16), none⟩])))))))
  (.seq (.region [⟨some 17, .mov (.t 5), none⟩,
    ⟨some 4, .mov (.t 17), none⟩])
  .ret))))
theorem c63_ok : (Try.f63.body).bind (compileC Try.prog) = some c63 := by kernel_rfl
theorem r63_ok : Try.f63.results.toList.mapM (retOf Try.prog) = some [.tmp 4] := by kernel_rfl

/-- depository/runs.run -/
def c64 : ACode :=
  (.seq (.region [⟨some 4, .alloc [(.int .i64 0), (.int .i64 0)], none⟩,
    ⟨some 5, .mov (.k (.bool false)), none⟩])
  (.seq (.region [⟨some 13, .mov (.t 0), none⟩,
    ⟨some 14, .nilc (.t 13), none⟩,
    ⟨some 15, .load false 1 (.t 14), none⟩,
    ⟨some 16, .ixS (.t 15) (.k (.int .i64 0)), none⟩,
    ⟨some 17, .conv .i64 (.t 16), none⟩,
    ⟨some 6, .mov (.t 17), none⟩])
  (.seq (.region [⟨some 18, .mov (.t 0), none⟩,
    ⟨some 19, .mov (.t 0), none⟩,
    ⟨some 20, .nilc (.t 19), none⟩,
    ⟨some 21, .load false 1 (.t 20), none⟩,
    ⟨some 22, .slS (.t 21) (some (.k (.int .i64 1))) none, none⟩,
    ⟨some 23, .nilc (.t 18), none⟩,
    ⟨none, .store 1 (.t 23) (.t 22), none⟩])
  (.seq (.region [⟨some 24, .mov (.t 6), none⟩,
    ⟨some 25, .bin .and (.t 24) (.k (.int .i64 15)), none⟩,
    ⟨some 26, .mov (.t 6), none⟩,
    ⟨some 27, .bin .shr (.t 26) (.k (.int .u64 4)), none⟩,
    ⟨some 7, .mov (.t 25), none⟩,
    ⟨some 8, .mov (.t 27), none⟩])
  (.seq (.seq (.region [⟨some 28, .mov (.t 7), none⟩,
    ⟨some 29, .call 77 [(.t 28), (.k (.int .i64 1)), (.k (.int .i64 2))], none⟩,
    ⟨some 30, .un .not (.t 29), none⟩,
    ⟨some 31, .mov (.t 30), none⟩,
    ⟨some 32, .mov (.t 8), some (31, false)⟩,
    ⟨some 33, .bin .gtr (.t 32) (.k (.int .i64 2)), some (31, false)⟩,
    ⟨some 34, .pick (.t 31) (.k (.bool true)) (.t 33), none⟩])
  (.cond (.t 34) (.seq (.region [⟨some 35, .build [(.int .i64 0), (.int .i64 0)] [], none⟩,
    ⟨none, .store 2 (.t 4) (.t 35), none⟩,
    ⟨some 5, .mov (.k (.bool false)), none⟩])
  .ret)
  .skip))
  (.seq (.region [⟨some 37, .mov (.t 0), none⟩,
    ⟨some 38, .mov (.t 7), none⟩,
    ⟨some 39, .call 80 [(.t 37), (.t 38)], none⟩,
    ⟨some 36, .mov (.t 39), none⟩,
    ⟨some 40, .ext (.t 36) 0, none⟩,
    ⟨some 41, .ext (.t 36) 1, none⟩,
    ⟨some 9, .mov (.t 40), none⟩,
    ⟨some 10, .mov (.t 41), none⟩])
  (.seq (.seq (.region [⟨some 42, .mov (.t 10), none⟩,
    ⟨some 43, .un .not (.t 42), none⟩,
    ⟨some 44, .mov (.t 43), none⟩,
    ⟨some 45, .mov (.t 8), some (44, false)⟩,
    ⟨some 46, .bin .eql (.t 45) (.k (.int .i64 0)), some (44, false)⟩,
    ⟨some 47, .pick (.t 44) (.k (.bool true)) (.t 46), none⟩])
  (.cond (.t 47) (.seq (.region [⟨some 48, .mov (.t 9), none⟩,
    ⟨some 49, .build [(.int .i64 0), (.int .i64 0)] [(0, 1, (.k (.int .i64 (-1)))), (1, 1, (.t 48))], none⟩,
    ⟨some 50, .mov (.t 10), none⟩,
    ⟨none, .store 2 (.t 4) (.t 49), none⟩,
    ⟨some 5, .mov (.t 50), none⟩])
  .ret)
  .skip))
  (.seq (.region [⟨some 52, .mov (.t 0), none⟩,
    ⟨some 53, .mov (.t 8), none⟩,
    ⟨some 54, .call 80 [(.t 52), (.t 53)], none⟩,
    ⟨some 51, .mov (.t 54), none⟩,
    ⟨some 55, .ext (.t 51) 0, none⟩,
    ⟨some 56, .ext (.t 51) 1, none⟩,
    ⟨some 11, .mov (.t 55), none⟩,
    ⟨some 10, .mov (.t 56), none⟩])
  (.seq (.region [⟨some 57, .mov (.t 1), none⟩,
    ⟨some 58, .mov (.t 11), none⟩,
    ⟨some 59, .bin .add (.t 57) (.t 58), none⟩,
    ⟨some 60, .mov (.t 9), none⟩,
    ⟨some 61, .build [(.int .i64 0), (.int .i64 0)] [(0, 1, (.t 59)), (1, 1, (.t 60))], none⟩,
    ⟨some 12, .alloc [(.int .i64 0), (.int .i64 0)], none⟩,
    ⟨none, .store 2 (.t 12) (.t 61), none⟩])
  (.seq (.drawn [(true, ⟨some 62, .load true 2 (.t 12), none⟩),
    (true, ⟨some 63, .mov (.t 10), none⟩),
    (true, ⟨some 64, .mov (.t 63), none⟩),
    (true, ⟨some 65, .load true 2 (.t 12), some (64, true)⟩),
    (true, ⟨some 66, .call 49 [(.t 65)], some (64, true)⟩),
    (true, ⟨some 67, .un .not (.t 66), some (64, true)⟩),
    (true, ⟨some 68, .pick (.t 64) (.t 67) (.k (.bool false)), none⟩),
    (false, ⟨none, .store 2 (.t 4) (.t 62), none⟩),
    (true, ⟨some 5, .mov (.t 68), none⟩)])
  .ret))))))))))
theorem c64_ok : (Try.f64.body).bind (compileC Try.prog) = some c64 := by kernel_rfl
theorem r64_ok : Try.f64.results.toList.mapM (retOf Try.prog) = some [.cell 4 true 2, .tmp 5] := by kernel_rfl

/-- depository/depositoryref03.signedAt -/
def c65 : ACode :=
  (.seq (.region [⟨some 6, .mov (.k (.int .i64 0)), none⟩,
    ⟨some 7, .mov (.k (.bool false)), none⟩])
  (.seq (.region [⟨some 9, .mov (.t 0), none⟩,
    ⟨some 10, .mov (.t 1), none⟩,
    ⟨some 11, .mov (.t 2), none⟩,
    ⟨some 12, .call 81 [(.t 9), (.t 10), (.t 11)], none⟩,
    ⟨some 8, .mov (.t 12), none⟩])
  (.seq (.seq (.region [⟨some 13, .mov (.t 8), none⟩,
    ⟨some 14, .mov (.t 2), none⟩,
    ⟨some 15, .bin .mul (.k (.int .i64 8)) (.t 14), none⟩,
    ⟨some 16, .bin .sub (.t 15) (.k (.int .i64 1)), none⟩,
    ⟨some 17, .call 82 [(.t 16)], none⟩,
    ⟨some 18, .bin .geq (.t 13) (.t 17), none⟩])
  (.cond (.t 18) (.region [⟨some 19, .mov (.t 8), none⟩,
    ⟨some 20, .mov (.t 2), none⟩,
    ⟨some 21, .bin .mul (.k (.int .i64 8)) (.t 20), none⟩,
    ⟨some 22, .call 82 [(.t 21)], none⟩,
    ⟨some 23, .bin .sub (.t 19) (.t 22), none⟩,
    ⟨some 8, .mov (.t 23), none⟩])
  .skip))
  (.seq (.region [⟨some 24, .mov (.t 8), none⟩,
    ⟨some 25, .mov (.t 8), none⟩,
    ⟨some 26, .call 66 [(.t 25)], none⟩,
    ⟨some 27, .lenS (.t 26), none⟩,
    ⟨some 28, .mov (.t 2), none⟩,
    ⟨some 29, .bin .eql (.t 27) (.t 28), none⟩,
    ⟨some 6, .mov (.t 24), none⟩,
    ⟨some 7, .mov (.t 29), none⟩])
  .ret))))
theorem c65_ok : (Try.f65.body).bind (compileC Try.prog) = some c65 := by kernel_rfl
theorem r65_ok : Try.f65.results.toList.mapM (retOf Try.prog) = some [.tmp 6, .tmp 7] := by kernel_rfl

/-- depository/depositoryref03.signed -/
def c66 : ACode :=
  (.seq (.region [⟨some 2, .mov (.k (.string ⟨#[]⟩)), none⟩])
  (.seq (.seq (.region [⟨some 3, .mov (.t 0), none⟩,
    ⟨some 4, .call 21 [(.t 3), (.k (.int .i64 (-128))), (.k (.int .i64 127))], none⟩])
  (.cond (.t 4) (.seq (.region [⟨some 5, .mov (.t 0), none⟩,
    ⟨some 6, .call 42 [(.t 5), (.k (.int .i64 256))], none⟩,
    ⟨some 7, .call 67 [(.t 6), (.k (.int .i64 1))], none⟩,
    ⟨some 2, .mov (.t 7), none⟩])
  .ret)
  .skip))
  (.seq (.region [⟨some 8, .mov (.t 0), none⟩,
    ⟨some 9, .call 42 [(.t 8), (.k (.int .i64 65536))], none⟩,
    ⟨some 10, .call 67 [(.t 9), (.k (.int .i64 2))], none⟩,
    ⟨some 2, .mov (.t 10), none⟩])
  .ret)))
theorem c66_ok : (Try.f66.body).bind (compileC Try.prog) = some c66 := by kernel_rfl
theorem r66_ok : Try.f66.results.toList.mapM (retOf Try.prog) = some [.tmp 2] := by kernel_rfl

/-- depository/depositorybase.Little -/
def c67 : ACode :=
  (.seq (.region [⟨some 4, .mov (.k (.string ⟨#[]⟩)), none⟩])
  (.seq (.region [⟨some 5, .mov (.k (.slice none 0 0)), none⟩])
  (.seq (.seq (.region [⟨some 6, .mov (.k (.int .i64 0)), none⟩])
  (.block 0 (.loop (.seq (.seq (.region [⟨some 7, .mov (.t 6), none⟩,
    ⟨some 8, .mov (.t 1), none⟩,
    ⟨some 9, .bin .lss (.t 7) (.t 8), none⟩])
  (.cond (.t 9) .skip
  (.exit 0)))
  (.seq (.block 1 (.seq (.region [⟨some 12, .mov (.t 5), none⟩,
    ⟨some 13, .mov (.t 0), none⟩,
    ⟨some 14, .bin .rem (.t 13) (.k (.int .i64 256)), none⟩,
    ⟨some 15, .conv .u8 (.t 14), none⟩,
    ⟨some 16, .bslc 1 1 [(.int .u8 0)] [(0, (.t 15))], none⟩,
    ⟨some 17, .app 1 1 [(.int .u8 0)] (.t 12) (.t 16), none⟩,
    ⟨some 5, .mov (.t 17), none⟩])
  (.region [⟨some 18, .mov (.t 0), none⟩,
    ⟨some 19, .bin .quo (.t 18) (.k (.int .i64 256)), none⟩,
    ⟨some 0, .mov (.t 19), none⟩])))
  (.region [⟨some 10, .mov (.t 6), none⟩,
    ⟨some 11, .bin .add (.t 10) (.k (.int .i64 1)), none⟩,
    ⟨some 6, .mov (.t 11), none⟩]))))))
  (.seq (.region [⟨some 20, .mov (.t 5), none⟩,
    ⟨some 21, .cvbs (.t 20), none⟩,
    ⟨some 4, .mov (.t 21), none⟩])
  .ret))))
theorem c67_ok : (Try.f67.body).bind (compileC Try.prog) = some c67 := by kernel_rfl
theorem r67_ok : Try.f67.results.toList.mapM (retOf Try.prog) = some [.tmp 4] := by kernel_rfl

/-- depository/runs.rangeErr -/
def c69 : ACode :=
  (.seq (.region [⟨some 1, .box (.t 0), none⟩,
    ⟨some 2, .mov (.k (.int .i64 0)), none⟩])
  (.seq (.seq (.region [⟨some 3, .load true 2 (.t 1), none⟩,
    ⟨some 4, .call 49 [(.t 3)], none⟩])
  (.cond (.t 4) (.seq (.region [⟨some 5, .addo 1 (.t 1), none⟩,
    ⟨some 6, .load false 1 (.t 5), none⟩,
    ⟨some 7, .call 77 [(.t 6), (.k (.int .i64 1)), (.k (.int .i64 4096))], none⟩,
    ⟨some 8, .call 48 [(.t 7), (.k (.int .i64 2))], none⟩,
    ⟨some 2, .mov (.t 8), none⟩])
  .ret)
  .skip))
  (.seq (.seq (.region [⟨some 9, .addo 0 (.t 1), none⟩,
    ⟨some 10, .load false 1 (.t 9), none⟩,
    ⟨some 11, .call 77 [(.t 10), (.k (.int .i64 0)), (.k (.int .i64 511))], none⟩,
    ⟨some 12, .un .not (.t 11), none⟩])
  (.cond (.t 12) (.seq (.region [⟨some 2, .mov (.k (.int .i64 2)), none⟩])
  .ret)
  .skip))
  (.seq (.region [⟨some 13, .addo 1 (.t 1), none⟩,
    ⟨some 14, .load false 1 (.t 13), none⟩,
    ⟨some 15, .addo 0 (.t 1), none⟩,
    ⟨some 16, .load false 1 (.t 15), none⟩,
    ⟨some 17, .bin .sub (.k (.int .i64 512)) (.t 16), none⟩,
    ⟨some 18, .call 77 [(.t 14), (.k (.int .i64 1)), (.t 17)], none⟩,
    ⟨some 19, .call 48 [(.t 18), (.k (.int .i64 2))], none⟩,
    ⟨some 2, .mov (.t 19), none⟩])
  .ret))))
theorem c69_ok : (Try.f69.body).bind (compileC Try.prog) = some c69 := by kernel_rfl
theorem r69_ok : Try.f69.results.toList.mapM (retOf Try.prog) = some [.tmp 2] := by kernel_rfl

/-- depository/runs.joins -/
def c70 : ACode :=
  (.seq (.region [⟨some 2, .box (.t 0), none⟩,
    ⟨some 3, .box (.t 1), none⟩,
    ⟨some 4, .mov (.k (.bool false)), none⟩])
  (.seq (.drawn [(true, ⟨some 5, .load true 2 (.t 2), none⟩),
    (true, ⟨some 6, .call 49 [(.t 5)], none⟩),
    (true, ⟨some 7, .load true 2 (.t 3), none⟩),
    (false, ⟨some 8, .call 49 [(.t 7)], none⟩),
    (true, ⟨some 9, .binb false (.t 6) (.t 8), none⟩),
    (true, ⟨some 10, .mov (.t 9), none⟩),
    (true, ⟨some 11, .load true 2 (.t 2), some (10, true)⟩),
    (false, ⟨some 12, .call 49 [(.t 11)], some (10, true)⟩),
    (true, ⟨some 13, .mov (.t 12), some (10, true)⟩),
    (true, ⟨some 14, .addo 0 (.t 2), some (13, false)⟩),
    (true, ⟨some 15, .load false 1 (.t 14), some (13, false)⟩),
    (true, ⟨some 16, .addo 1 (.t 2), some (13, false)⟩),
    (true, ⟨some 17, .load false 1 (.t 16), some (13, false)⟩),
    (true, ⟨some 18, .bin .add (.t 15) (.t 17), some (13, false)⟩),
    (true, ⟨some 19, .addo 0 (.t 3), some (13, false)⟩),
    (true, ⟨some 20, .load false 1 (.t 19), some (13, false)⟩),
    (true, ⟨some 21, .bin .eql (.t 18) (.t 20), some (13, false)⟩),
    (true, ⟨some 22, .pick (.t 13) (.k (.bool true)) (.t 21), some (10, true)⟩),
    (true, ⟨some 23, .pick (.t 10) (.t 22) (.k (.bool false)), none⟩),
    (true, ⟨some 4, .mov (.t 23), none⟩)])
  .ret))
theorem c70_ok : (Try.f70.body).bind (compileC Try.prog) = some c70 := by kernel_rfl
theorem r70_ok : Try.f70.results.toList.mapM (retOf Try.prog) = some [.tmp 4] := by kernel_rfl

/-- (*depository/runs.used).take -/
def c71 : ACode :=
  (.seq (.region [⟨some 3, .box (.t 1), none⟩,
    ⟨some 4, .mov (.k (.bool false)), none⟩])
  (.seq (.seq (.region [⟨some 7, .load true 2 (.t 3), none⟩,
    ⟨some 8, .call 49 [(.t 7)], none⟩])
  (.cond (.t 8) (.seq (.region [⟨some 4, .mov (.k (.bool true)), none⟩])
  .ret)
  .skip))
  (.seq (.region [⟨some 5, .mov (.k (.bool true)), none⟩])
  (.seq (.seq (.region [⟨some 9, .addo 0 (.t 3), none⟩,
    ⟨some 10, .load false 1 (.t 9), none⟩,
    ⟨some 6, .mov (.t 10), none⟩])
  (.block 0 (.loop (.seq (.seq (.region [⟨some 11, .mov (.t 6), none⟩,
    ⟨some 12, .addo 0 (.t 3), none⟩,
    ⟨some 13, .load false 1 (.t 12), none⟩,
    ⟨some 14, .addo 1 (.t 3), none⟩,
    ⟨some 15, .load false 1 (.t 14), none⟩,
    ⟨some 16, .bin .add (.t 13) (.t 15), none⟩,
    ⟨some 17, .bin .lss (.t 11) (.t 16), none⟩])
  (.cond (.t 17) .skip
  (.exit 0)))
  (.seq (.block 1 (.seq (.region [⟨some 20, .mov (.t 5), none⟩,
    ⟨some 21, .mov (.t 20), none⟩,
    ⟨some 22, .mov (.t 0), some (21, true)⟩,
    ⟨some 23, .mov (.t 6), some (21, true)⟩,
    ⟨some 24, .nilc (.t 22), some (21, true)⟩,
    ⟨some 25, .ixA 512 1 (.t 24) (.t 23), some (21, true)⟩,
    ⟨some 26, .load false 1 (.t 25), some (21, true)⟩,
    ⟨some 27, .un .not (.t 26), some (21, true)⟩,
    ⟨some 28, .pick (.t 21) (.t 27) (.k (.bool false)), none⟩,
    ⟨some 5, .mov (.t 28), none⟩])
  (.region [⟨some 29, .mov (.t 0), none⟩,
    ⟨some 30, .mov (.t 6), none⟩,
    ⟨some 31, .nilc (.t 29), none⟩,
    ⟨some 32, .ixA 512 1 (.t 31) (.t 30), none⟩,
    ⟨none, .store 1 (.t 32) (.k (.bool true)), none⟩])))
  (.region [⟨some 18, .mov (.t 6), none⟩,
    ⟨some 19, .bin .add (.t 18) (.k (.int .i64 1)), none⟩,
    ⟨some 6, .mov (.t 19), none⟩]))))))
  (.seq (.region [⟨some 33, .mov (.t 5), none⟩,
    ⟨some 4, .mov (.t 33), none⟩])
  .ret)))))
theorem c71_ok : (Try.f71.body).bind (compileC Try.prog) = some c71 := by kernel_rfl
theorem r71_ok : Try.f71.results.toList.mapM (retOf Try.prog) = some [.tmp 4] := by kernel_rfl

/-- (*depository/runs.list).done -/
def c72 : ACode :=
  (.seq (.region [⟨some 2, .mov (.k (.slice none 0 0)), none⟩,
    ⟨some 3, .mov (.k (.int .i64 0)), none⟩])
  (.seq (.region [⟨some 4, .alloc (List.replicate 512 (.bool false)), none⟩])
  (.seq (.region [⟨some 5, .mov (.k (.bool true)), none⟩])
  (.seq (.seq (.region [⟨some 9, .mov (.t 0), none⟩,
    ⟨some 10, .nilc (.t 9), none⟩,
    ⟨some 11, .addo 0 (.t 10), none⟩,
    ⟨some 12, .load false 1 (.t 11), none⟩,
    ⟨some 13, .lenL (.t 12), none⟩,
    ⟨some 14, .mov (.k (.int .i64 0)), none⟩])
  (.block 0 (.loop (.seq (.region [⟨some 15, .bin .lss (.t 14) (.t 13), none⟩])
  (.seq (.cond (.t 15) .skip
  (.exit 0))
  (.seq (.block 1 (.seq (.region [⟨some 16, .ixL 2 (.t 12) (.t 14), none⟩,
    ⟨some 17, .load true 2 (.t 16), none⟩,
    ⟨some 7, .alloc [(.int .i64 0), (.int .i64 0)], none⟩,
    ⟨none, .store 2 (.t 7) (.t 17), none⟩])
  (.region [⟨some 18, .load true 2 (.t 7), none⟩,
    ⟨some 19, .call 71 [(.t 4), (.t 18)], none⟩,
    ⟨some 20, .mov (.t 19), none⟩,
    ⟨some 21, .mov (.t 5), some (20, true)⟩,
    ⟨some 22, .pick (.t 20) (.t 21) (.k (.bool false)), none⟩,
    ⟨some 5, .mov (.t 22), none⟩])))
  (.region [⟨some 23, .bin .add (.t 14) (.k (.int .i64 1)), none⟩,
    ⟨some 14, .mov (.t 23), none⟩])))))))
  (.seq (.seq (.drawn [(true, ⟨some 24, .mov (.t 5), none⟩),
    (true, ⟨some 25, .call 48 [(.t 24), (.k (.int .i64 23))], none⟩),
    (true, ⟨some 26, .mov (.t 0), none⟩),
    (true, ⟨some 27, .nilc (.t 26), none⟩),
    (true, ⟨some 28, .addo 0 (.t 27), none⟩),
    (true, ⟨some 29, .load false 1 (.t 28), none⟩),
    (false, ⟨some 30, .call 51 [(.t 29)], none⟩),
    (true, ⟨some 31, .bin .leq (.t 30) (.k (.int .i64 4096)), none⟩),
    (true, ⟨some 32, .mov (.t 31), none⟩),
    (true, ⟨some 33, .mov (.t 0), some (32, true)⟩),
    (true, ⟨some 34, .nilc (.t 33), some (32, true)⟩),
    (true, ⟨some 35, .addo 0 (.t 34), some (32, true)⟩),
    (true, ⟨some 36, .load false 1 (.t 35), some (32, true)⟩),
    (true, ⟨some 37, .lenL (.t 36), some (32, true)⟩),
    (true, ⟨some 38, .bin .leq (.t 37) (.k (.int .i64 64)), some (32, true)⟩),
    (true, ⟨some 39, .pick (.t 32) (.t 38) (.k (.bool false)), none⟩),
    (false, ⟨some 40, .call 48 [(.t 39), (.k (.int .i64 8))], none⟩),
    (false, ⟨some 41, .bslc 1 2 [(.int .i64 0)] [(0, (.t 25)), (1, (.t 40))], none⟩),
    (false, ⟨some 42, .call 46 [(.t 41)], none⟩),
    (true, ⟨some 8, .mov (.t 42), none⟩)])
  (.seq (.region [⟨some 43, .mov (.t 8), none⟩,
    ⟨some 44, .bin .neq (.t 43) (.k (.int .i64 0)), none⟩])
  (.cond (.t 44) (.seq (.region [⟨some 45, .mov (.t 8), none⟩,
    ⟨some 2, .mov (.k (.slice none 0 0)), none⟩,
    ⟨some 3, .mov (.t 45), none⟩])
  .ret)
  .skip)))
  (.seq (.region [⟨some 46, .mov (.t 0), none⟩,
    ⟨some 47, .nilc (.t 46), none⟩,
    ⟨some 48, .addo 0 (.t 47), none⟩,
    ⟨some 49, .load false 1 (.t 48), none⟩,
    ⟨some 2, .mov (.t 49), none⟩,
    ⟨some 3, .mov (.k (.int .i64 0)), none⟩])
  .ret))))))
theorem c72_ok : (Try.f72.body).bind (compileC Try.prog) = some c72 := by kernel_rfl
theorem r72_ok : Try.f72.results.toList.mapM (retOf Try.prog) = some [.tmp 2, .tmp 3] := by kernel_rfl

/-- depository/depositoryref03.isRun -/
def c75 : ACode :=
  (.seq (.region [⟨some 1, .box (.t 0), none⟩,
    ⟨some 2, .mov (.k (.bool false)), none⟩])
  (.seq (.seq (.region [⟨some 3, .addo 0 (.t 1), none⟩,
    ⟨some 4, .load false 1 (.t 3), none⟩,
    ⟨some 5, .bin .eql (.t 4) (.k (.int .i64 (-1))), none⟩])
  (.cond (.t 5) (.seq (.region [⟨some 6, .addo 1 (.t 1), none⟩,
    ⟨some 7, .load false 1 (.t 6), none⟩,
    ⟨some 8, .call 21 [(.t 7), (.k (.int .i64 1)), (.k (.int .i64 4096))], none⟩,
    ⟨some 2, .mov (.t 8), none⟩])
  .ret)
  .skip))
  (.seq (.region [⟨some 9, .addo 0 (.t 1), none⟩,
    ⟨some 10, .load false 1 (.t 9), none⟩,
    ⟨some 11, .call 21 [(.t 10), (.k (.int .i64 0)), (.k (.int .i64 511))], none⟩,
    ⟨some 12, .mov (.t 11), none⟩,
    ⟨some 13, .addo 1 (.t 1), some (12, true)⟩,
    ⟨some 14, .load false 1 (.t 13), some (12, true)⟩,
    ⟨some 15, .addo 0 (.t 1), some (12, true)⟩,
    ⟨some 16, .load false 1 (.t 15), some (12, true)⟩,
    ⟨some 17, .bin .sub (.k (.int .i64 512)) (.t 16), some (12, true)⟩,
    ⟨some 18, .call 21 [(.t 14), (.k (.int .i64 1)), (.t 17)], some (12, true)⟩,
    ⟨some 19, .pick (.t 12) (.t 18) (.k (.bool false)), none⟩,
    ⟨some 2, .mov (.t 19), none⟩])
  .ret)))
theorem c75_ok : (Try.f75.body).bind (compileC Try.prog) = some c75 := by kernel_rfl
theorem r75_ok : Try.f75.results.toList.mapM (retOf Try.prog) = some [.tmp 2] := by kernel_rfl

/-- depository/depositorybase.Decimal -/
def c76 : ACode :=
  (.seq (.region [⟨some 2, .mov (.k (.string ⟨#[]⟩)), none⟩])
  (.seq (.seq (.region [⟨some 6, .mov (.t 0), none⟩,
    ⟨some 7, .bin .eql (.t 6) (.k (.int .i64 0)), none⟩])
  (.cond (.t 7) (.seq (.region [⟨some 2, .mov (.k (.string ⟨#[48]⟩)), none⟩])
  .ret)
  .skip))
  (.seq (.region [⟨some 3, .mov (.k (.string ⟨#[]⟩)), none⟩,
    ⟨some 4, .mov (.k (.string ⟨#[]⟩)), none⟩])
  (.seq (.seq (.region [⟨some 8, .mov (.t 0), none⟩,
    ⟨some 9, .bin .lss (.t 8) (.k (.int .i64 0)), none⟩])
  (.cond (.t 9) (.region [⟨some 4, .mov (.k (.string ⟨#[45]⟩)), none⟩])
  .skip))
  (.seq (.block 0 (.loop (.seq (.seq (.region [⟨some 10, .mov (.t 0), none⟩,
    ⟨some 11, .bin .neq (.t 10) (.k (.int .i64 0)), none⟩])
  (.cond (.t 11) .skip
  (.exit 0)))
  (.block 1 (.seq (.region [⟨some 12, .mov (.t 0), none⟩,
    ⟨some 13, .bin .rem (.t 12) (.k (.int .i64 10)), none⟩,
    ⟨some 5, .mov (.t 13), none⟩])
  (.seq (.region [⟨some 14, .mov (.t 5), none⟩,
    ⟨some 15, .call 84 [(.t 14)], none⟩,
    ⟨some 16, .bin .add (.k (.int .i64 48)) (.t 15), none⟩,
    ⟨some 17, .conv .u8 (.t 16), none⟩,
    ⟨some 18, .bslc 1 1 [(.int .u8 0)] [(0, (.t 17))], none⟩,
    ⟨some 19, .cvbs (.t 18), none⟩,
    ⟨some 20, .mov (.t 3), none⟩,
    ⟨some 21, .bin .add (.t 19) (.t 20), none⟩,
    ⟨some 3, .mov (.t 21), none⟩])
  (.region [⟨some 22, .mov (.t 0), none⟩,
    ⟨some 23, .bin .quo (.t 22) (.k (.int .i64 10)), none⟩,
    ⟨some 0, .mov (.t 23), none⟩])))))))
  (.seq (.region [⟨some 24, .mov (.t 4), none⟩,
    ⟨some 25, .mov (.t 3), none⟩,
    ⟨some 26, .bin .add (.t 24) (.t 25), none⟩,
    ⟨some 2, .mov (.t 26), none⟩])
  .ret))))))
theorem c76_ok : (Try.f76.body).bind (compileC Try.prog) = some c76 := by kernel_rfl
theorem r76_ok : Try.f76.results.toList.mapM (retOf Try.prog) = some [.tmp 2] := by kernel_rfl

/-- depository/runs.within -/
def c77 : ACode :=
  (.seq (.region [⟨some 6, .mov (.k (.bool false)), none⟩])
  (.seq (.region [⟨some 7, .mov (.t 1), none⟩,
    ⟨some 8, .mov (.t 0), none⟩,
    ⟨some 9, .bin .leq (.t 7) (.t 8), none⟩,
    ⟨some 10, .mov (.t 9), none⟩,
    ⟨some 11, .mov (.t 0), some (10, true)⟩,
    ⟨some 12, .mov (.t 2), some (10, true)⟩,
    ⟨some 13, .bin .leq (.t 11) (.t 12), some (10, true)⟩,
    ⟨some 14, .pick (.t 10) (.t 13) (.k (.bool false)), none⟩,
    ⟨some 6, .mov (.t 14), none⟩])
  .ret))
theorem c77_ok : (Try.f77.body).bind (compileC Try.prog) = some c77 := by kernel_rfl
theorem r77_ok : Try.f77.results.toList.mapM (retOf Try.prog) = some [.tmp 6] := by kernel_rfl

/-- (*depository/runs.list).add -/
def c78 : ACode :=
  (.seq (.region [⟨some 3, .box (.t 1), none⟩])
  (.seq (.seq (.region [⟨some 5, .mov (.t 0), none⟩,
    ⟨some 6, .nilc (.t 5), none⟩,
    ⟨some 7, .addo 0 (.t 6), none⟩,
    ⟨some 8, .load false 1 (.t 7), none⟩,
    ⟨some 9, .lenL (.t 8), none⟩,
    ⟨some 4, .mov (.t 9), none⟩])
  (.seq (.drawn [(true, ⟨some 10, .mov (.t 4), none⟩),
    (true, ⟨some 11, .bin .gtr (.t 10) (.k (.int .i64 0)), none⟩),
    (true, ⟨some 12, .mov (.t 11), none⟩),
    (true, ⟨some 13, .mov (.t 0), some (12, true)⟩),
    (true, ⟨some 14, .nilc (.t 13), some (12, true)⟩),
    (true, ⟨some 15, .addo 0 (.t 14), some (12, true)⟩),
    (true, ⟨some 16, .load false 1 (.t 15), some (12, true)⟩),
    (true, ⟨some 17, .mov (.t 4), some (12, true)⟩),
    (true, ⟨some 18, .bin .sub (.t 17) (.k (.int .i64 1)), some (12, true)⟩),
    (true, ⟨some 19, .ixL 2 (.t 16) (.t 18), some (12, true)⟩),
    (true, ⟨some 20, .load true 2 (.t 19), some (12, true)⟩),
    (true, ⟨some 21, .load true 2 (.t 3), some (12, true)⟩),
    (false, ⟨some 22, .call 70 [(.t 20), (.t 21)], some (12, true)⟩),
    (true, ⟨some 23, .pick (.t 12) (.t 22) (.k (.bool false)), none⟩)])
  (.cond (.t 23) (.seq (.drawn [(true, ⟨some 24, .mov (.t 0), none⟩),
    (true, ⟨some 25, .nilc (.t 24), none⟩),
    (true, ⟨some 26, .addo 0 (.t 25), none⟩),
    (true, ⟨some 27, .load false 1 (.t 26), none⟩),
    (true, ⟨some 28, .mov (.t 4), none⟩),
    (true, ⟨some 29, .bin .sub (.t 28) (.k (.int .i64 1)), none⟩),
    (true, ⟨some 30, .ixL 2 (.t 27) (.t 29), none⟩),
    (true, ⟨some 31, .addo 1 (.t 30), none⟩),
    (true, ⟨some 32, .load false 1 (.t 31), none⟩),
    (true, ⟨some 33, .addo 1 (.t 3), none⟩),
    (true, ⟨some 34, .load false 1 (.t 33), none⟩),
    (true, ⟨some 35, .bin .add (.t 32) (.t 34), none⟩),
    (true, ⟨some 36, .ixL 2 (.t 27) (.t 29), none⟩),
    (true, ⟨some 37, .addo 1 (.t 36), none⟩),
    (false, ⟨none, .store 1 (.t 37) (.t 35), none⟩)])
  .ret)
  .skip)))
  (.drawn [(true, ⟨some 38, .mov (.t 0), none⟩),
    (true, ⟨some 39, .mov (.t 0), none⟩),
    (true, ⟨some 40, .nilc (.t 39), none⟩),
    (true, ⟨some 41, .addo 0 (.t 40), none⟩),
    (true, ⟨some 42, .load false 1 (.t 41), none⟩),
    (true, ⟨some 43, .load true 2 (.t 3), none⟩),
    (false, ⟨some 44, .bslc 2 1 [(.int .i64 0), (.int .i64 0)] [(0, (.t 43))], none⟩),
    (false, ⟨some 45, .app 2 16 [(.int .i64 0), (.int .i64 0)] (.t 42) (.t 44), none⟩),
    (true, ⟨some 46, .nilc (.t 38), none⟩),
    (true, ⟨some 47, .addo 0 (.t 46), none⟩),
    (false, ⟨none, .store 1 (.t 47) (.t 45), none⟩)])))
theorem c78_ok : (Try.f78.body).bind (compileC Try.prog) = some c78 := by kernel_rfl
theorem r78_ok : Try.f78.results.toList.mapM (retOf Try.prog) = some [] := by kernel_rfl

/-- depository/depositoryref03.shares -/
def c79 : ACode :=
  (.seq (.region [⟨some 2, .box (.t 0), none⟩,
    ⟨some 3, .box (.t 1), none⟩,
    ⟨some 4, .mov (.k (.bool false)), none⟩])
  (.seq (.region [⟨some 5, .addo 0 (.t 2), none⟩,
    ⟨some 6, .load false 1 (.t 5), none⟩,
    ⟨some 7, .bin .neq (.t 6) (.k (.int .i64 (-1))), none⟩,
    ⟨some 8, .mov (.t 7), none⟩,
    ⟨some 9, .addo 0 (.t 3), some (8, true)⟩,
    ⟨some 10, .load false 1 (.t 9), some (8, true)⟩,
    ⟨some 11, .bin .neq (.t 10) (.k (.int .i64 (-1))), some (8, true)⟩,
    ⟨some 12, .pick (.t 8) (.t 11) (.k (.bool false)), none⟩,
    ⟨some 13, .mov (.t 12), none⟩,
    ⟨some 14, .addo 0 (.t 2), some (13, true)⟩,
    ⟨some 15, .load false 1 (.t 14), some (13, true)⟩,
    ⟨some 16, .addo 0 (.t 3), some (13, true)⟩,
    ⟨some 17, .load false 1 (.t 16), some (13, true)⟩,
    ⟨some 18, .addo 1 (.t 3), some (13, true)⟩,
    ⟨some 19, .load false 1 (.t 18), some (13, true)⟩,
    ⟨some 20, .bin .add (.t 17) (.t 19), some (13, true)⟩,
    ⟨some 21, .bin .lss (.t 15) (.t 20), some (13, true)⟩,
    ⟨some 22, .pick (.t 13) (.t 21) (.k (.bool false)), none⟩,
    ⟨some 23, .mov (.t 22), none⟩,
    ⟨some 24, .addo 0 (.t 3), some (23, true)⟩,
    ⟨some 25, .load false 1 (.t 24), some (23, true)⟩,
    ⟨some 26, .addo 0 (.t 2), some (23, true)⟩,
    ⟨some 27, .load false 1 (.t 26), some (23, true)⟩,
    ⟨some 28, .addo 1 (.t 2), some (23, true)⟩,
    ⟨some 29, .load false 1 (.t 28), some (23, true)⟩,
    ⟨some 30, .bin .add (.t 27) (.t 29), some (23, true)⟩,
    ⟨some 31, .bin .lss (.t 25) (.t 30), some (23, true)⟩,
    ⟨some 32, .pick (.t 23) (.t 31) (.k (.bool false)), none⟩,
    ⟨some 4, .mov (.t 32), none⟩])
  .ret))
theorem c79_ok : (Try.f79.body).bind (compileC Try.prog) = some c79 := by kernel_rfl
theorem r79_ok : Try.f79.results.toList.mapM (retOf Try.prog) = some [.tmp 4] := by kernel_rfl

/-- depository/runs.number -/
def c80 : ACode :=
  (.seq (.region [⟨some 4, .mov (.k (.int .i64 0)), none⟩,
    ⟨some 5, .mov (.k (.bool false)), none⟩])
  (.seq (.seq (.region [⟨some 8, .mov (.t 1), none⟩,
    ⟨some 9, .mov (.t 0), none⟩,
    ⟨some 10, .nilc (.t 9), none⟩,
    ⟨some 11, .load false 1 (.t 10), none⟩,
    ⟨some 12, .lenS (.t 11), none⟩,
    ⟨some 13, .bin .gtr (.t 8) (.t 12), none⟩])
  (.cond (.t 13) (.seq (.region [⟨some 4, .mov (.k (.int .i64 0)), none⟩,
    ⟨some 5, .mov (.k (.bool false)), none⟩])
  .ret)
  .skip))
  (.seq (.region [⟨some 6, .mov (.k (.int .i64 0)), none⟩])
  (.seq (.seq (.region [⟨some 14, .mov (.t 1), none⟩,
    ⟨some 15, .bin .sub (.t 14) (.k (.int .i64 1)), none⟩,
    ⟨some 7, .mov (.t 15), none⟩])
  (.block 0 (.loop (.seq (.seq (.region [⟨some 16, .mov (.t 7), none⟩,
    ⟨some 17, .bin .geq (.t 16) (.k (.int .i64 0)), none⟩])
  (.cond (.t 17) .skip
  (.exit 0)))
  (.seq (.block 1 (.region [⟨some 20, .mov (.t 6), none⟩,
    ⟨some 21, .bin .shl (.t 20) (.k (.int .u64 8)), none⟩,
    ⟨some 22, .mov (.t 0), none⟩,
    ⟨some 23, .nilc (.t 22), none⟩,
    ⟨some 24, .load false 1 (.t 23), none⟩,
    ⟨some 25, .mov (.t 7), none⟩,
    ⟨some 26, .ixS (.t 24) (.t 25), none⟩,
    ⟨some 27, .conv .i64 (.t 26), none⟩,
    ⟨some 28, .bin .or (.t 21) (.t 27), none⟩,
    ⟨some 6, .mov (.t 28), none⟩]))
  (.region [⟨some 18, .mov (.t 7), none⟩,
    ⟨some 19, .bin .sub (.t 18) (.k (.int .i64 1)), none⟩,
    ⟨some 7, .mov (.t 19), none⟩]))))))
  (.seq (.region [⟨some 29, .mov (.t 0), none⟩,
    ⟨some 30, .mov (.t 0), none⟩,
    ⟨some 31, .nilc (.t 30), none⟩,
    ⟨some 32, .load false 1 (.t 31), none⟩,
    ⟨some 33, .mov (.t 1), none⟩,
    ⟨some 34, .slS (.t 32) (some (.t 33)) none, none⟩,
    ⟨some 35, .nilc (.t 29), none⟩,
    ⟨none, .store 1 (.t 35) (.t 34), none⟩])
  (.seq (.seq (.region [⟨some 36, .mov (.t 6), none⟩,
    ⟨some 37, .mov (.t 1), none⟩,
    ⟨some 38, .bin .mul (.k (.int .i64 8)) (.t 37), none⟩,
    ⟨some 39, .bin .sub (.t 38) (.k (.int .i64 1)), none⟩,
    ⟨some 40, .bin .shl (.k (.int .i64 1)) (.t 39), none⟩,
    ⟨some 41, .bin .geq (.t 36) (.t 40), none⟩])
  (.cond (.t 41) (.region [⟨some 42, .mov (.t 6), none⟩,
    ⟨some 43, .mov (.t 1), none⟩,
    ⟨some 44, .bin .mul (.k (.int .i64 8)) (.t 43), none⟩,
    ⟨some 45, .bin .shl (.k (.int .i64 1)) (.t 44), none⟩,
    ⟨some 46, .bin .sub (.t 42) (.t 45), none⟩,
    ⟨some 6, .mov (.t 46), none⟩])
  .skip))
  (.seq (.region [⟨some 47, .mov (.t 6), none⟩,
    ⟨some 48, .mov (.t 6), none⟩,
    ⟨some 49, .call 62 [(.t 48)], none⟩,
    ⟨some 50, .mov (.t 1), none⟩,
    ⟨some 51, .bin .eql (.t 49) (.t 50), none⟩,
    ⟨some 4, .mov (.t 47), none⟩,
    ⟨some 5, .mov (.t 51), none⟩])
  .ret)))))))
theorem c80_ok : (Try.f80.body).bind (compileC Try.prog) = some c80 := by kernel_rfl
theorem r80_ok : Try.f80.results.toList.mapM (retOf Try.prog) = some [.tmp 4, .tmp 5] := by kernel_rfl

/-- depository/depositorybase.LittleAt -/
def c81 : ACode :=
  (.seq (.region [⟨some 6, .mov (.k (.int .i64 0)), none⟩])
  (.seq (.region [⟨some 7, .mov (.k (.int .i64 0)), none⟩])
  (.seq (.seq (.region [⟨some 9, .mov (.t 2), none⟩,
    ⟨some 10, .bin .sub (.t 9) (.k (.int .i64 1)), none⟩,
    ⟨some 8, .mov (.t 10), none⟩])
  (.block 0 (.loop (.seq (.seq (.region [⟨some 11, .mov (.t 8), none⟩,
    ⟨some 12, .bin .geq (.t 11) (.k (.int .i64 0)), none⟩])
  (.cond (.t 12) .skip
  (.exit 0)))
  (.seq (.block 1 (.region [⟨some 15, .mov (.t 7), none⟩,
    ⟨some 16, .bin .mul (.t 15) (.k (.int .i64 256)), none⟩,
    ⟨some 17, .mov (.t 0), none⟩,
    ⟨some 18, .mov (.t 1), none⟩,
    ⟨some 19, .mov (.t 8), none⟩,
    ⟨some 20, .bin .add (.t 18) (.t 19), none⟩,
    ⟨some 21, .ixS (.t 17) (.t 20), none⟩,
    ⟨some 22, .conv .i64 (.t 21), none⟩,
    ⟨some 23, .bin .add (.t 16) (.t 22), none⟩,
    ⟨some 7, .mov (.t 23), none⟩]))
  (.region [⟨some 13, .mov (.t 8), none⟩,
    ⟨some 14, .bin .sub (.t 13) (.k (.int .i64 1)), none⟩,
    ⟨some 8, .mov (.t 14), none⟩]))))))
  (.seq (.region [⟨some 24, .mov (.t 7), none⟩,
    ⟨some 6, .mov (.t 24), none⟩])
  .ret))))
theorem c81_ok : (Try.f81.body).bind (compileC Try.prog) = some c81 := by kernel_rfl
theorem r81_ok : Try.f81.results.toList.mapM (retOf Try.prog) = some [.tmp 6] := by kernel_rfl

/-- depository/depositorybase.Power -/
def c82 : ACode :=
  (.seq (.region [⟨some 2, .mov (.k (.int .i64 0)), none⟩])
  (.seq (.region [⟨some 3, .mov (.t 0), none⟩,
    ⟨some 4, .bin .shl (.k (.int .i64 1)) (.t 3), none⟩,
    ⟨some 2, .mov (.t 4), none⟩])
  .ret))
theorem c82_ok : (Try.f82.body).bind (compileC Try.prog) = some c82 := by kernel_rfl
theorem r82_ok : Try.f82.results.toList.mapM (retOf Try.prog) = some [.tmp 2] := by kernel_rfl

/-- slices.IndexFunc[[]depository/api.Run,depository/api.Run] -/
def c83 : ACode :=
  (.seq (.region [⟨some 4, .mov (.k (.int .i64 0)), none⟩])
  (.seq (.seq (.region [⟨some 6, .mov (.t 0), none⟩,
    ⟨some 7, .lenL (.t 6), none⟩,
    ⟨some 8, .mov (.k (.int .i64 0)), none⟩])
  (.block 0 (.loop (.seq (.region [⟨some 9, .bin .lss (.t 8) (.t 7), none⟩])
  (.seq (.cond (.t 9) .skip
  (.exit 0))
  (.seq (.block 1 (.seq (.region [⟨some 10, .mov (.t 8), none⟩,
    ⟨some 5, .mov (.t 10), none⟩])
  (.seq (.region [⟨some 11, .mov (.t 1), none⟩,
    ⟨some 12, .mov (.t 0), none⟩,
    ⟨some 13, .mov (.t 5), none⟩,
    ⟨some 14, .ixL 2 (.t 12) (.t 13), none⟩,
    ⟨some 15, .load true 2 (.t 14), none⟩,
    ⟨some 16, .callv (.t 11) [(.t 15)], none⟩])
  (.cond (.t 16) (.seq (.region [⟨some 17, .mov (.t 5), none⟩,
    ⟨some 4, .mov (.t 17), none⟩])
  .ret)
  .skip))))
  (.region [⟨some 18, .bin .add (.t 8) (.k (.int .i64 1)), none⟩,
    ⟨some 8, .mov (.t 18), none⟩])))))))
  (.seq (.region [⟨some 4, .mov (.k (.int .i64 (-1))), none⟩])
  .ret)))
theorem c83_ok : (Try.f83.body).bind (compileC Try.prog) = some c83 := by kernel_rfl
theorem r83_ok : Try.f83.results.toList.mapM (retOf Try.prog) = some [.tmp 4] := by kernel_rfl

/-- depository/depositorybase.Size -/
def c84 : ACode :=
  (.seq (.region [⟨some 2, .mov (.k (.int .i64 0)), none⟩])
  (.seq (.region [⟨some 3, .mov (.t 0), none⟩,
    ⟨some 4, .mov (.t 0), none⟩,
    ⟨some 5, .un .neg (.t 4), none⟩,
    ⟨some 6, .max2 (.t 3) (.t 5), none⟩,
    ⟨some 2, .mov (.t 6), none⟩])
  .ret))
theorem c84_ok : (Try.f84.body).bind (compileC Try.prog) = some c84 := by kernel_rfl
theorem r84_ok : Try.f84.results.toList.mapM (retOf Try.prog) = some [.tmp 2] := by kernel_rfl


def tbl : FuncId → Option (ACode × List RetV × Nat)
  | 3 => some (c3, [.tmp 4], 55)
  | 5 => some (c5, [.tmp 6], 166)
  | 6 => some (c6, [.tmp 4], 63)
  | 7 => some (c7, [.tmp 2], 136)
  | 8 => some (c8, [.tmp 6], 205)
  | 9 => some (c9, [.tmp 0], 82)
  | 10 => some (c10, [.tmp 2], 6)
  | 11 => some (c11, [.cell 4 true 2, .tmp 5], 52)
  | 12 => some (c12, [.tmp 2], 6)
  | 13 => some (c13, [.tmp 2], 11)
  | 14 => some (c14, [.tmp 2], 19)
  | 15 => some (c15, [.cell 4 true 2], 35)
  | 16 => some (c16, [.tmp 6, .tmp 7], 39)
  | 17 => some (c17, [.tmp 6, .tmp 7], 29)
  | 18 => some (c18, [.tmp 4, .tmp 5], 37)
  | 19 => some (c19, [.tmp 8], 30)
  | 20 => some (c20, [.tmp 4], 32)
  | 21 => some (c21, [.tmp 6], 15)
  | 22 => some (c22, [.tmp 2], 41)
  | 23 => some (c23, [.tmp 2], 6)
  | 24 => some (c24, [.tmp 2], 22)
  | 25 => some (c25, [.tmp 2], 21)
  | 26 => some (c26, [.tmp 6, .tmp 7], 24)
  | 27 => some (c27, [.tmp 6, .tmp 7], 31)
  | 28 => some (c28, [.tmp 4, .tmp 5], 20)
  | 29 => some (c29, [.tmp 2], 53)
  | 30 => some (c30, [.tmp 2, .tmp 3], 66)
  | 31 => some (c31, [.tmp 2, .tmp 3], 45)
  | 32 => some (c32, [.tmp 2, .tmp 3], 113)
  | 33 => some (c33, [.tmp 2], 62)
  | 34 => some (c34, [.tmp 2, .tmp 3], 45)
  | 35 => some (c35, [.tmp 2, .tmp 3], 28)
  | 36 => some (c36, [.tmp 2, .tmp 3], 13)
  | 37 => some (c37, [.tmp 2, .tmp 3], 15)
  | 38 => some (c38, [.tmp 2, .tmp 3], 15)
  | 39 => some (c39, [.tmp 2, .tmp 3], 43)
  | 40 => some (c40, [.tmp 2], 21)
  | 41 => some (c41, [.tmp 2], 25)
  | 42 => some (c42, [.tmp 4], 14)
  | 43 => some (c43, [.tmp 4], 26)
  | 44 => some (c44, [.tmp 0], 5)
  | 45 => some (c45, [.tmp 2], 40)
  | 46 => some (c46, [.tmp 2], 15)
  | 47 => some (c47, [.tmp 2], 22)
  | 48 => some (c48, [.tmp 4], 7)
  | 49 => some (c49, [.tmp 2], 6)
  | 50 => some (c50, [.tmp 4], 39)
  | 51 => some (c51, [.tmp 2], 18)
  | 52 => some (c52, [.tmp 8], 25)
  | 53 => some (c53, [.tmp 2, .tmp 3], 19)
  | 54 => some (c54, [.tmp 6], 53)
  | 55 => some (c55, [], 16)
  | 56 => some (c56, [.tmp 2], 20)
  | 57 => some (c57, [.tmp 4], 18)
  | 58 => some (c58, [.tmp 4], 20)
  | 59 => some (c59, [.tmp 6], 26)
  | 60 => some (c60, [], 16)
  | 61 => some (c61, [.tmp 4], 26)
  | 62 => some (c62, [.tmp 2], 19)
  | 63 => some (c63, [.tmp 4], 18)
  | 64 => some (c64, [.cell 4 true 2, .tmp 5], 69)
  | 65 => some (c65, [.tmp 6, .tmp 7], 30)
  | 66 => some (c66, [.tmp 2], 11)
  | 67 => some (c67, [.tmp 4], 22)
  | 69 => some (c69, [.tmp 2], 20)
  | 70 => some (c70, [.tmp 4], 24)
  | 71 => some (c71, [.tmp 4], 34)
  | 72 => some (c72, [.tmp 2, .tmp 3], 50)
  | 75 => some (c75, [.tmp 2], 20)
  | 76 => some (c76, [.tmp 2], 27)
  | 77 => some (c77, [.tmp 6], 15)
  | 78 => some (c78, [], 48)
  | 79 => some (c79, [.tmp 4], 33)
  | 80 => some (c80, [.tmp 4, .tmp 5], 52)
  | 81 => some (c81, [.tmp 6], 25)
  | 82 => some (c82, [.tmp 2], 5)
  | 83 => some (c83, [.tmp 4], 19)
  | 84 => some (c84, [.tmp 2], 7)
  | _ => none

theorem tbl_ok : TOK Try.prog tbl := by
  intro f c rs nt h
  unfold tbl at h
  split at h
  · injection h with h; injection h with h1 h; injection h with h2 h3; subst h1; subst h2; subst h3; exact ⟨by kernel_rfl, _, Try.func3, Try.ntmps3, c3_ok, r3_ok⟩
  · injection h with h; injection h with h1 h; injection h with h2 h3; subst h1; subst h2; subst h3; exact ⟨by kernel_rfl, _, Try.func5, Try.ntmps5, c5_ok, r5_ok⟩
  · injection h with h; injection h with h1 h; injection h with h2 h3; subst h1; subst h2; subst h3; exact ⟨by kernel_rfl, _, Try.func6, Try.ntmps6, c6_ok, r6_ok⟩
  · injection h with h; injection h with h1 h; injection h with h2 h3; subst h1; subst h2; subst h3; exact ⟨by kernel_rfl, _, Try.func7, Try.ntmps7, c7_ok, r7_ok⟩
  · injection h with h; injection h with h1 h; injection h with h2 h3; subst h1; subst h2; subst h3; exact ⟨by kernel_rfl, _, Try.func8, Try.ntmps8, c8_ok, r8_ok⟩
  · injection h with h; injection h with h1 h; injection h with h2 h3; subst h1; subst h2; subst h3; exact ⟨by kernel_rfl, _, Try.func9, Try.ntmps9, c9_ok, r9_ok⟩
  · injection h with h; injection h with h1 h; injection h with h2 h3; subst h1; subst h2; subst h3; exact ⟨by kernel_rfl, _, Try.func10, Try.ntmps10, c10_ok, r10_ok⟩
  · injection h with h; injection h with h1 h; injection h with h2 h3; subst h1; subst h2; subst h3; exact ⟨by kernel_rfl, _, Try.func11, Try.ntmps11, c11_ok, r11_ok⟩
  · injection h with h; injection h with h1 h; injection h with h2 h3; subst h1; subst h2; subst h3; exact ⟨by kernel_rfl, _, Try.func12, Try.ntmps12, c12_ok, r12_ok⟩
  · injection h with h; injection h with h1 h; injection h with h2 h3; subst h1; subst h2; subst h3; exact ⟨by kernel_rfl, _, Try.func13, Try.ntmps13, c13_ok, r13_ok⟩
  · injection h with h; injection h with h1 h; injection h with h2 h3; subst h1; subst h2; subst h3; exact ⟨by kernel_rfl, _, Try.func14, Try.ntmps14, c14_ok, r14_ok⟩
  · injection h with h; injection h with h1 h; injection h with h2 h3; subst h1; subst h2; subst h3; exact ⟨by kernel_rfl, _, Try.func15, Try.ntmps15, c15_ok, r15_ok⟩
  · injection h with h; injection h with h1 h; injection h with h2 h3; subst h1; subst h2; subst h3; exact ⟨by kernel_rfl, _, Try.func16, Try.ntmps16, c16_ok, r16_ok⟩
  · injection h with h; injection h with h1 h; injection h with h2 h3; subst h1; subst h2; subst h3; exact ⟨by kernel_rfl, _, Try.func17, Try.ntmps17, c17_ok, r17_ok⟩
  · injection h with h; injection h with h1 h; injection h with h2 h3; subst h1; subst h2; subst h3; exact ⟨by kernel_rfl, _, Try.func18, Try.ntmps18, c18_ok, r18_ok⟩
  · injection h with h; injection h with h1 h; injection h with h2 h3; subst h1; subst h2; subst h3; exact ⟨by kernel_rfl, _, Try.func19, Try.ntmps19, c19_ok, r19_ok⟩
  · injection h with h; injection h with h1 h; injection h with h2 h3; subst h1; subst h2; subst h3; exact ⟨by kernel_rfl, _, Try.func20, Try.ntmps20, c20_ok, r20_ok⟩
  · injection h with h; injection h with h1 h; injection h with h2 h3; subst h1; subst h2; subst h3; exact ⟨by kernel_rfl, _, Try.func21, Try.ntmps21, c21_ok, r21_ok⟩
  · injection h with h; injection h with h1 h; injection h with h2 h3; subst h1; subst h2; subst h3; exact ⟨by kernel_rfl, _, Try.func22, Try.ntmps22, c22_ok, r22_ok⟩
  · injection h with h; injection h with h1 h; injection h with h2 h3; subst h1; subst h2; subst h3; exact ⟨by kernel_rfl, _, Try.func23, Try.ntmps23, c23_ok, r23_ok⟩
  · injection h with h; injection h with h1 h; injection h with h2 h3; subst h1; subst h2; subst h3; exact ⟨by kernel_rfl, _, Try.func24, Try.ntmps24, c24_ok, r24_ok⟩
  · injection h with h; injection h with h1 h; injection h with h2 h3; subst h1; subst h2; subst h3; exact ⟨by kernel_rfl, _, Try.func25, Try.ntmps25, c25_ok, r25_ok⟩
  · injection h with h; injection h with h1 h; injection h with h2 h3; subst h1; subst h2; subst h3; exact ⟨by kernel_rfl, _, Try.func26, Try.ntmps26, c26_ok, r26_ok⟩
  · injection h with h; injection h with h1 h; injection h with h2 h3; subst h1; subst h2; subst h3; exact ⟨by kernel_rfl, _, Try.func27, Try.ntmps27, c27_ok, r27_ok⟩
  · injection h with h; injection h with h1 h; injection h with h2 h3; subst h1; subst h2; subst h3; exact ⟨by kernel_rfl, _, Try.func28, Try.ntmps28, c28_ok, r28_ok⟩
  · injection h with h; injection h with h1 h; injection h with h2 h3; subst h1; subst h2; subst h3; exact ⟨by kernel_rfl, _, Try.func29, Try.ntmps29, c29_ok, r29_ok⟩
  · injection h with h; injection h with h1 h; injection h with h2 h3; subst h1; subst h2; subst h3; exact ⟨by kernel_rfl, _, Try.func30, Try.ntmps30, c30_ok, r30_ok⟩
  · injection h with h; injection h with h1 h; injection h with h2 h3; subst h1; subst h2; subst h3; exact ⟨by kernel_rfl, _, Try.func31, Try.ntmps31, c31_ok, r31_ok⟩
  · injection h with h; injection h with h1 h; injection h with h2 h3; subst h1; subst h2; subst h3; exact ⟨by kernel_rfl, _, Try.func32, Try.ntmps32, c32_ok, r32_ok⟩
  · injection h with h; injection h with h1 h; injection h with h2 h3; subst h1; subst h2; subst h3; exact ⟨by kernel_rfl, _, Try.func33, Try.ntmps33, c33_ok, r33_ok⟩
  · injection h with h; injection h with h1 h; injection h with h2 h3; subst h1; subst h2; subst h3; exact ⟨by kernel_rfl, _, Try.func34, Try.ntmps34, c34_ok, r34_ok⟩
  · injection h with h; injection h with h1 h; injection h with h2 h3; subst h1; subst h2; subst h3; exact ⟨by kernel_rfl, _, Try.func35, Try.ntmps35, c35_ok, r35_ok⟩
  · injection h with h; injection h with h1 h; injection h with h2 h3; subst h1; subst h2; subst h3; exact ⟨by kernel_rfl, _, Try.func36, Try.ntmps36, c36_ok, r36_ok⟩
  · injection h with h; injection h with h1 h; injection h with h2 h3; subst h1; subst h2; subst h3; exact ⟨by kernel_rfl, _, Try.func37, Try.ntmps37, c37_ok, r37_ok⟩
  · injection h with h; injection h with h1 h; injection h with h2 h3; subst h1; subst h2; subst h3; exact ⟨by kernel_rfl, _, Try.func38, Try.ntmps38, c38_ok, r38_ok⟩
  · injection h with h; injection h with h1 h; injection h with h2 h3; subst h1; subst h2; subst h3; exact ⟨by kernel_rfl, _, Try.func39, Try.ntmps39, c39_ok, r39_ok⟩
  · injection h with h; injection h with h1 h; injection h with h2 h3; subst h1; subst h2; subst h3; exact ⟨by kernel_rfl, _, Try.func40, Try.ntmps40, c40_ok, r40_ok⟩
  · injection h with h; injection h with h1 h; injection h with h2 h3; subst h1; subst h2; subst h3; exact ⟨by kernel_rfl, _, Try.func41, Try.ntmps41, c41_ok, r41_ok⟩
  · injection h with h; injection h with h1 h; injection h with h2 h3; subst h1; subst h2; subst h3; exact ⟨by kernel_rfl, _, Try.func42, Try.ntmps42, c42_ok, r42_ok⟩
  · injection h with h; injection h with h1 h; injection h with h2 h3; subst h1; subst h2; subst h3; exact ⟨by kernel_rfl, _, Try.func43, Try.ntmps43, c43_ok, r43_ok⟩
  · injection h with h; injection h with h1 h; injection h with h2 h3; subst h1; subst h2; subst h3; exact ⟨by kernel_rfl, _, Try.func44, Try.ntmps44, c44_ok, r44_ok⟩
  · injection h with h; injection h with h1 h; injection h with h2 h3; subst h1; subst h2; subst h3; exact ⟨by kernel_rfl, _, Try.func45, Try.ntmps45, c45_ok, r45_ok⟩
  · injection h with h; injection h with h1 h; injection h with h2 h3; subst h1; subst h2; subst h3; exact ⟨by kernel_rfl, _, Try.func46, Try.ntmps46, c46_ok, r46_ok⟩
  · injection h with h; injection h with h1 h; injection h with h2 h3; subst h1; subst h2; subst h3; exact ⟨by kernel_rfl, _, Try.func47, Try.ntmps47, c47_ok, r47_ok⟩
  · injection h with h; injection h with h1 h; injection h with h2 h3; subst h1; subst h2; subst h3; exact ⟨by kernel_rfl, _, Try.func48, Try.ntmps48, c48_ok, r48_ok⟩
  · injection h with h; injection h with h1 h; injection h with h2 h3; subst h1; subst h2; subst h3; exact ⟨by kernel_rfl, _, Try.func49, Try.ntmps49, c49_ok, r49_ok⟩
  · injection h with h; injection h with h1 h; injection h with h2 h3; subst h1; subst h2; subst h3; exact ⟨by kernel_rfl, _, Try.func50, Try.ntmps50, c50_ok, r50_ok⟩
  · injection h with h; injection h with h1 h; injection h with h2 h3; subst h1; subst h2; subst h3; exact ⟨by kernel_rfl, _, Try.func51, Try.ntmps51, c51_ok, r51_ok⟩
  · injection h with h; injection h with h1 h; injection h with h2 h3; subst h1; subst h2; subst h3; exact ⟨by kernel_rfl, _, Try.func52, Try.ntmps52, c52_ok, r52_ok⟩
  · injection h with h; injection h with h1 h; injection h with h2 h3; subst h1; subst h2; subst h3; exact ⟨by kernel_rfl, _, Try.func53, Try.ntmps53, c53_ok, r53_ok⟩
  · injection h with h; injection h with h1 h; injection h with h2 h3; subst h1; subst h2; subst h3; exact ⟨by kernel_rfl, _, Try.func54, Try.ntmps54, c54_ok, r54_ok⟩
  · injection h with h; injection h with h1 h; injection h with h2 h3; subst h1; subst h2; subst h3; exact ⟨by kernel_rfl, _, Try.func55, Try.ntmps55, c55_ok, r55_ok⟩
  · injection h with h; injection h with h1 h; injection h with h2 h3; subst h1; subst h2; subst h3; exact ⟨by kernel_rfl, _, Try.func56, Try.ntmps56, c56_ok, r56_ok⟩
  · injection h with h; injection h with h1 h; injection h with h2 h3; subst h1; subst h2; subst h3; exact ⟨by kernel_rfl, _, Try.func57, Try.ntmps57, c57_ok, r57_ok⟩
  · injection h with h; injection h with h1 h; injection h with h2 h3; subst h1; subst h2; subst h3; exact ⟨by kernel_rfl, _, Try.func58, Try.ntmps58, c58_ok, r58_ok⟩
  · injection h with h; injection h with h1 h; injection h with h2 h3; subst h1; subst h2; subst h3; exact ⟨by kernel_rfl, _, Try.func59, Try.ntmps59, c59_ok, r59_ok⟩
  · injection h with h; injection h with h1 h; injection h with h2 h3; subst h1; subst h2; subst h3; exact ⟨by kernel_rfl, _, Try.func60, Try.ntmps60, c60_ok, r60_ok⟩
  · injection h with h; injection h with h1 h; injection h with h2 h3; subst h1; subst h2; subst h3; exact ⟨by kernel_rfl, _, Try.func61, Try.ntmps61, c61_ok, r61_ok⟩
  · injection h with h; injection h with h1 h; injection h with h2 h3; subst h1; subst h2; subst h3; exact ⟨by kernel_rfl, _, Try.func62, Try.ntmps62, c62_ok, r62_ok⟩
  · injection h with h; injection h with h1 h; injection h with h2 h3; subst h1; subst h2; subst h3; exact ⟨by kernel_rfl, _, Try.func63, Try.ntmps63, c63_ok, r63_ok⟩
  · injection h with h; injection h with h1 h; injection h with h2 h3; subst h1; subst h2; subst h3; exact ⟨by kernel_rfl, _, Try.func64, Try.ntmps64, c64_ok, r64_ok⟩
  · injection h with h; injection h with h1 h; injection h with h2 h3; subst h1; subst h2; subst h3; exact ⟨by kernel_rfl, _, Try.func65, Try.ntmps65, c65_ok, r65_ok⟩
  · injection h with h; injection h with h1 h; injection h with h2 h3; subst h1; subst h2; subst h3; exact ⟨by kernel_rfl, _, Try.func66, Try.ntmps66, c66_ok, r66_ok⟩
  · injection h with h; injection h with h1 h; injection h with h2 h3; subst h1; subst h2; subst h3; exact ⟨by kernel_rfl, _, Try.func67, Try.ntmps67, c67_ok, r67_ok⟩
  · injection h with h; injection h with h1 h; injection h with h2 h3; subst h1; subst h2; subst h3; exact ⟨by kernel_rfl, _, Try.func69, Try.ntmps69, c69_ok, r69_ok⟩
  · injection h with h; injection h with h1 h; injection h with h2 h3; subst h1; subst h2; subst h3; exact ⟨by kernel_rfl, _, Try.func70, Try.ntmps70, c70_ok, r70_ok⟩
  · injection h with h; injection h with h1 h; injection h with h2 h3; subst h1; subst h2; subst h3; exact ⟨by kernel_rfl, _, Try.func71, Try.ntmps71, c71_ok, r71_ok⟩
  · injection h with h; injection h with h1 h; injection h with h2 h3; subst h1; subst h2; subst h3; exact ⟨by kernel_rfl, _, Try.func72, Try.ntmps72, c72_ok, r72_ok⟩
  · injection h with h; injection h with h1 h; injection h with h2 h3; subst h1; subst h2; subst h3; exact ⟨by kernel_rfl, _, Try.func75, Try.ntmps75, c75_ok, r75_ok⟩
  · injection h with h; injection h with h1 h; injection h with h2 h3; subst h1; subst h2; subst h3; exact ⟨by kernel_rfl, _, Try.func76, Try.ntmps76, c76_ok, r76_ok⟩
  · injection h with h; injection h with h1 h; injection h with h2 h3; subst h1; subst h2; subst h3; exact ⟨by kernel_rfl, _, Try.func77, Try.ntmps77, c77_ok, r77_ok⟩
  · injection h with h; injection h with h1 h; injection h with h2 h3; subst h1; subst h2; subst h3; exact ⟨by kernel_rfl, _, Try.func78, Try.ntmps78, c78_ok, r78_ok⟩
  · injection h with h; injection h with h1 h; injection h with h2 h3; subst h1; subst h2; subst h3; exact ⟨by kernel_rfl, _, Try.func79, Try.ntmps79, c79_ok, r79_ok⟩
  · injection h with h; injection h with h1 h; injection h with h2 h3; subst h1; subst h2; subst h3; exact ⟨by kernel_rfl, _, Try.func80, Try.ntmps80, c80_ok, r80_ok⟩
  · injection h with h; injection h with h1 h; injection h with h2 h3; subst h1; subst h2; subst h3; exact ⟨by kernel_rfl, _, Try.func81, Try.ntmps81, c81_ok, r81_ok⟩
  · injection h with h; injection h with h1 h; injection h with h2 h3; subst h1; subst h2; subst h3; exact ⟨by kernel_rfl, _, Try.func82, Try.ntmps82, c82_ok, r82_ok⟩
  · injection h with h; injection h with h1 h; injection h with h2 h3; subst h1; subst h2; subst h3; exact ⟨by kernel_rfl, _, Try.func83, Try.ntmps83, c83_ok, r83_ok⟩
  · injection h with h; injection h with h1 h; injection h with h2 h3; subst h1; subst h2; subst h3; exact ⟨by kernel_rfl, _, Try.func84, Try.ntmps84, c84_ok, r84_ok⟩
  · cases h

end Go.Proofs.Ytginjcpblgpcoaa
