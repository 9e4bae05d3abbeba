/- The check of runs. Conditions: none. -/
import Derived.Test.YtginjcpblgpcoaaBe
import Derived.Test.YtginjcpblgpcoaaCa
namespace Go.Proofs.Ytginjcpblgpcoaa
set_option maxRecDepth 4000
attribute [local irreducible] AW WR Gh AC AWL
attribute [local go_sem] runD runDG skipDG
variable {G : Glob}
/-- the clusters of a run are noted -/
def Run.into (r : Run) (U : List Bool) : List Bool := if r.s = -1 then U else setR U r.s.toNat r.n.toNat
def Run.fresh (r : Run) (U : List Bool) : Bool := if r.s = -1 then true else freshR U r.s.toNat r.n.toNat
def U0 : List Bool := List.replicate 512 false
/-- the error of a run behind others, and the clusters behind it -/
def stepE (p : Option Run) (U : List Bool) (r : Run) : Int := if rangeE r.s r.n ≠ 0 then rangeE r.s r.n else if (p.any fun q => joinsB q r) = true then 3 else if r.fresh U then 0 else 23
def chkL (all : List Run) : List Run → Option Run → List Bool → Nat → Int × Int
  | [], _, _, _ => (0, if lenR all ≤ 4096 then 0 else 8)
  | r :: rest, p, U, i => if stepE p U r ≠ 0 then ((i : Int), stepE p U r) else chkL all rest (some r) (r.into U) (i + 1)
def chk (l : List Run) : Int × Int := if (l.length : Int) > 64 then (0, 8) else chkL l l none U0 0
theorem rangeE_ok {r : Run} (h : rangeE r.s r.n = 0) : (r.s = -1 ∧ 1 ≤ r.n ∧ r.n ≤ 4096) ∨ ∃ s n : Nat, r.s = s ∧ r.n = n ∧ s + n ≤ 512 ∧ 1 ≤ n := by
  unfold rangeE at h
  split at h
  · rename_i h1
    split at h
    · rename_i h2; exact .inl ⟨h1, h2.1, h2.2⟩
    · omega
  · split at h
    · rename_i h1 h2
      split at h
      · rename_i h3
        exact .inr ⟨r.s.toNat, r.n.toNat, by omega, by omega, by omega, by omega⟩
      · omega
    · omega
/-- used.take, of any run in its range -/
theorem take_any (U : List Bool) (r : Run) (hU : U.length = 512) (h : rangeE r.s r.n = 0) : AC Try.prog G 71 [.one (.ptr 0 0), r.v] [bx U] fun av o => av = vb (r.fresh U) ∧ o = [bx (r.into U)] := by
  rcases rangeE_ok h with ⟨h1, _⟩ | ⟨s, n, h1, h2, h3, _⟩
  · have := take_hole (G := G) U r h1
    simpa only [Run.fresh, Run.into, h1, if_true] using this
  · have := take_q (G := G) U r s n hU h1 h2 h3
    have hne : ¬ r.s = -1 := by omega
    have e1 : r.s.toNat = s := by omega
    have e2 : r.n.toNat = n := by omega
    simpa only [Run.fresh, Run.into, hne, if_false, e1, e2] using this
theorem into_len (U : List Bool) (r : Run) : (r.into U).length = U.length := by
  unfold Run.into
  split
  · rfl
  · exact setR_len _ _ _
end Go.Proofs.Ytginjcpblgpcoaa
