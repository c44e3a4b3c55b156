/- What the laws of tickets served come to where their code is cut. No condition. -/
import Derived.Test.YtnjihkeflkemdaaSxC
import Derived.Test.YtnjihkeflkemdaaSxPRingW
import Derived.Test.YtnjihkeflkemdaaSxPMark
namespace Go.SF
open Go.SX Go
set_option linter.unusedVariables false
set_option linter.unusedSimpArgs false
theorem totF_eq : ∀ fs : List Fl, totF fs = totT fs + fs.length
  | [] => rfl
  | f :: fs => by rw [totF, totT, totF_eq fs, List.length_cons]; omega
theorem ring_totF {fs : List Fl} {t : Int} {fr : Bool} (h : ringOkF fs t fr = true) : totF fs ≤ 492 := by
  have h1 := (ring_iff.1 h).1.1
  simp only at h1
  rw [totF_eq]
  have := (ring_tot h).1
  omega
theorem next_tot {r : Rg} (hT : totF r.1 ≤ 1048576) : totF (nextTkF r).1.1 ≤ 4000000 := by
  unfold nextTkF
  split
  · rename_i h
    by_cases h0 : waitGo r.1 0 = 0
    · rw [nx_none h0]; simp only; omega
    · obtain ⟨x, _, x2, x3, _⟩ := nx_ok h h0
      rw [x2]
      have := ring_totF x3
      simp only; omega
  · simp only; omega
theorem drain_tot {r : Rg} {most : Int} (hT : totF r.1 ≤ 1048576) : totF (drainF r most).1.1 ≤ 4000000 ∧ (drainF r most).2.length ≤ 4000000 := by
  unfold drainF
  split
  · rename_i h
    have h1 : drainN r most ≤ totT r.1 := by have := (ring_tot h).2; unfold drainN; omega
    obtain ⟨d1, d2, d3⟩ := dr_ok h _ h1
    have := ring_totF d1
    have := (ring_tot h).1
    exact ⟨by omega, by omega⟩
  · exact ⟨by simp only; omega, by simp⟩
theorem tk4 {r : (List FlG × Int × Bool) × Int × Tk × Bool} {p : NxW} (e : ((r.1.1.map unF, r.1.2.1, r.1.2.2), r.2.1, r.2.2.1, r.2.2.2) = p) : r.1.1.map unF = p.1.1 ∧ r.1.2.1 = p.1.2.1 ∧ r.1.2.2 = p.1.2.2 ∧ r.2.1 = p.2.1 ∧ r.2.2.1 = p.2.2.1 ∧ r.2.2.2 = p.2.2.2 := by rw [← e]; exact ⟨rfl, rfl, rfl, rfl, rfl, rfl⟩
theorem dn4 {r : (List FlG × Int × Bool) × List Sv} {p : DnW} (e : ((r.1.1.map unF, r.1.2.1, r.1.2.2), r.2) = p) : r.1.1.map unF = p.1.1 ∧ r.1.2.1 = p.1.2.1 ∧ r.1.2.2 = p.1.2.2 ∧ r.2 = p.2 := by rw [← e]; exact ⟨rfl, rfl, rfl, rfl⟩
theorem unI1 (b : Int) : unD i64T b = b := rfl
theorem idI1 (b : Int) : ids i64T b = [] := rfl
theorem unSv (b : List Sv) : unD (Ty.sl svT) b = b := List.map_id b
theorem idSv (b : List Sv) : ids (Ty.sl svT) b = [] := ids_noG (.sl svT) rfl b
end Go.SF
