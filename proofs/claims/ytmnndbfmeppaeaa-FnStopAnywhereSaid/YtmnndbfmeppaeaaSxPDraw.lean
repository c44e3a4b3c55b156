/- Draws keep their contracts. No condition. -/
import Derived.Test.YtmnndbfmeppaeaaSxC
import Derived.Test.YtmnndbfmeppaeaaSxPDec
namespace Go.SF
open Go.SX Go
set_option linter.unusedVariables false
set_option linter.unusedSimpArgs false
set_option maxRecDepth 10000
theorem iand_255 (a : Int) : 0 ≤ iand .i64 a 255 ∧ iand .i64 a 255 ≤ 255 := by
  unfold iand
  have h : (BitVec.ofInt IntKind.i64.bits a &&& BitVec.ofInt IntKind.i64.bits 255).toNat ≤ 255 := by
    rw [BitVec.toNat_and]
    exact Nat.le_trans Nat.and_le_right (by decide)
  rw [wrap_small (by omega)]
  omega
theorem drB_range (c : Cur) : 0 ≤ drB c ∧ drB c ≤ 255 := by
  unfold drB
  split
  · exact iand_255 _
  · exact iand_255 _
theorem drBc_ok {c : Cur} (h : CurOk c) : CurOk (drBc c) := by
  unfold drBc
  obtain ⟨h1, h2⟩ := h
  split
  · rename_i hlt
    refine ⟨?_, h2⟩
    show 0 ≤ w64 (c.2.1 + 1)
    unfold w64
    rw [wrap_small (by omega)]
    omega
  · exact ⟨h1, h2⟩
theorem drNc_ok {c : Cur} (n : Int) (h : CurOk c) : CurOk (drNc c n) := by
  unfold drNc
  split
  · exact h
  · split
    · exact drBc_ok h
    · exact drBc_ok (drBc_ok (drBc_ok h))
theorem drN_range (c : Cur) {n : Int} (hn : 0 < n) : 0 ≤ drN c n ∧ drN c n < n := by
  unfold drN
  rw [if_neg (by omega)]
  split
  · have := drB_range c
    rw [Int.tmod_eq_emod_of_nonneg this.1]
    exact ⟨Int.emod_nonneg _ (by omega), Int.emod_lt_of_pos _ hn⟩
  · have h1 := drB_range c
    have h2 := drB_range (drBc c)
    have h3 := drB_range (drBc (drBc c))
    unfold w64
    rw [wrap_small (n := drB c * 65536) (by omega), wrap_small (n := drB (drBc c) * 256) (by omega), wrap_small (n := drB c * 65536 + drB (drBc c) * 256) (by omega), wrap_small (by omega)]
    rw [Int.tmod_eq_emod_of_nonneg (by omega)]
    exact ⟨Int.emod_nonneg _ (by omega), Int.emod_lt_of_pos _ hn⟩
theorem drN_le (c : Cur) {n m : Int} (hn : n ≤ m) (hm : 0 < m) : 0 ≤ drN c n ∧ drN c n < m := by
  by_cases h : 0 < n
  · have := drN_range c h; omega
  · unfold drN; rw [if_pos (by omega)]; omega
theorem drKc_ok {c : Cur} (l : List Int) (h : CurOk c) : CurOk (drKc c l) := drNc_ok _ h
theorem drFc_ok {c : Cur} (h : CurOk c) : CurOk (drFc c) := by
  unfold drFc
  split
  · exact drKc_ok _ (drNc_ok _ h)
  · exact drNc_ok _ (drNc_ok _ h)
theorem drEc_ok {c : Cur} (f : Int) (h : CurOk c) : CurOk (drEc c f) := by
  unfold drEc
  split
  · exact drNc_ok _ h
  · split
    · exact drNc_ok _ (drNc_ok _ h)
    · split
      · exact drNc_ok _ (drNc_ok _ h)
      · split
        · exact drNc_ok _ (drNc_ok _ (drNc_ok _ h))
        · exact drNc_ok _ (drNc_ok _ h)
theorem drL_ok {c : Cur} (f : Int) (h : CurOk c) : ∀ n, CurOk (drL c f n).2 ∧ (drL c f n).1.length = n
  | 0 => ⟨h, rfl⟩
  | n + 1 => ⟨drEc_ok f (drL_ok f h n).1, by simp [drL, (drL_ok f h n).2]⟩
theorem drPs_ok {s : List Int × Cur} (f : Int) (h : CurOk s.2) : CurOk (drPs s f).2 ∧ s.1.length ≤ (drPs s f).1.length ∧ (drPs s f).1.length ≤ s.1.length + 1 ∧ 0 < (drPs s f).1.length := by
  unfold drPs
  split
  · exact ⟨drEc_ok f h, by simp, by simp, by simp⟩
  · rename_i hm
    have hm : drE s.2 f ∈ s.1 := by simpa using hm
    have := List.length_pos_of_mem hm
    split
    · exact ⟨drNc_ok _ (drEc_ok f h), by simp, by simp, by simp⟩
    · exact ⟨drNc_ok _ (drEc_ok f h), Nat.le_refl _, Nat.le_succ _, this⟩
theorem drP_ok {c : Cur} (f : Int) (h : CurOk c) : ∀ n, CurOk (drP c f n).2 ∧ (drP c f n).1.length ≤ n ∧ (0 < n → 0 < (drP c f n).1.length)
  | 0 => ⟨h, Nat.le_refl _, fun h => absurd h (by omega)⟩
  | n + 1 => by
    obtain ⟨h1, h2, h3⟩ := drP_ok f h n
    obtain ⟨g1, g2, g3, g4⟩ := drPs_ok f h1
    exact ⟨g1, by show (drPs _ f).1.length ≤ _; omega, fun _ => g4⟩
theorem drPo_ok {c : Cur} (f n : Int) (h : CurOk c) : CurOk (drPo c f n).2 ∧ (drPo c f n).1.length ≤ n.toNat ∧ (0 < n → 0 < (drPo c f n).1.length) := by
  obtain ⟨h1, h2, h3⟩ := drP_ok f h n.toNat
  unfold drPo drQ
  split
  · exact ⟨drKc_ok _ (drNc_ok _ (drNc_ok _ h1)), by simpa using h2, fun hn => by simpa using h3 (by omega)⟩
  · exact ⟨drNc_ok _ h1, h2, fun hn => h3 (by omega)⟩
theorem sizeF_le (b : List Int) (m : Int) : sizeF b m ≤ m := by
  unfold sizeF
  split <;> omega
theorem drNew_ok {b : List Int} (h : b.length ≤ 9223372036854775807) : CurOk (drNew b) := ⟨Int.le_refl _, h⟩
theorem drP_succ (c : Cur) (f : Int) (n : Nat) : drP c f (n + 1) = drPs (drP c f n) f := rfl
theorem has_not {l : List Int} {x : Int} (h : (!hasF l x) = true) : x ∉ l := by
  unfold hasF at h; simpa using h
theorem has_in {l : List Int} {x : Int} (h : (!hasF l x) = false) : x ∈ l := by
  unfold hasF at h; simpa using h
theorem prN_range (x : List Int) : 1 ≤ prN x ∧ prN x ≤ 55 := by
  unfold prN
  split
  · omega
  · have := drN_le (prC1 x) (sizeF_le x 20) (by decide)
    unfold w64
    rw [wrap_small (by omega)]; omega
theorem drO_ne {c : Cur} {n : Int} (h : drO c n = false) : ¬ drO c n = true := by rw [h]; decide
theorem wdX_ok {c : Cur} (h : CurOk c) : CurOk (wdX c).2 ∧ 1 ≤ (wdX c).1.length ∧ (wdX c).1.length ≤ 10 := by
  have h1 := drNc_ok 8 (drFc_ok h)
  have h2 := drN_range (drFc c) (n := 8) (by decide)
  obtain ⟨x1, x2, x3⟩ := drPo_ok (drF c) (w64 (3 + drN (drFc c) 8)) h1
  have e : w64 (3 + drN (drFc c) 8) = 3 + drN (drFc c) 8 := wrap_small (by omega)
  refine ⟨x1, x3 (by omega), ?_⟩
  have : (wdX c).1.length ≤ (w64 (3 + drN (drFc c) 8)).toNat := x2
  omega
theorem wdH_eq {c : Cur} (h : CurOk c) : wdH c = ((wdX c).1.length + 1) / 2 := by
  have := wdX_ok h
  unfold wdH w64
  rw [wrap_small (n := ((wdX c).1.length : Int) + 1) (by omega), Int.tdiv_eq_ediv_of_nonneg (by omega), wrap_small (by omega)]
theorem wdK_range {c : Cur} (h : CurOk c) : 1 ≤ wdK c ∧ wdK c ≤ (wdX c).1.length := by
  have hx := wdX_ok h
  unfold wdK
  split
  · have h1 := wdH_eq h
    have := drN_range (drNc (wdC4 c) 2) (n := wdH c) (by omega)
    unfold w64
    rw [wrap_small (by omega)]; omega
  · have := drN_range (wdX c).2 (n := ((wdX c).1.length : Int)) (by omega)
    unfold w64
    rw [wrap_small (by omega)]; omega
theorem wdC4_ok {c : Cur} (h : CurOk c) : CurOk (wdC4 c) := drNc_ok _ (wdX_ok h).1
theorem wdC6_ok {c : Cur} (h : CurOk c) : CurOk (wdC6 c) := by
  unfold wdC6
  split
  · exact drNc_ok _ (drNc_ok _ (wdC4_ok h))
  · exact drNc_ok _ (wdC4_ok h)
theorem wdM_ok {c : Cur} (h : CurOk c) : CurOk (wdM c).2 ∧ (wdM c).1.length = (wdK c).toNat := drL_ok _ (wdC6_ok h) _
theorem encS_len (f : Int) (xs m : List Int) : (encS f xs m).length = xs.length ∨ (encS f xs m).length = 0 := by
  unfold encS
  split
  · left; unfold evM; simp
  · right; rfl
theorem wdY_ok {c : Cur} (h : CurOk c) : CurOk (wdY c).2 ∧ (wdY c).1.length = (wdX c).1.length := by
  unfold wdY
  split
  · exact drL_ok _ (wdM_ok h).1 _
  · rename_i h0
    refine ⟨(wdM_ok h).1, ?_⟩
    rcases encS_len (drF c) (wdX c).1 (wdM c).1 with e | e
    · exact e
    · exact absurd e h0
theorem wdC9_ok {c : Cur} (h : CurOk c) : CurOk (wdC9 c) := drNc_ok _ (wdY_ok h).1
theorem wdC11_ok {c : Cur} (h : CurOk c) : CurOk (wdC11 c) := by
  unfold wdC11
  split
  · exact drNc_ok _ (drNc_ok _ (wdC9_ok h))
  · exact drNc_ok _ (wdC9_ok h)
theorem wdB_le {c : Cur} (h : CurOk c) : wdB c ≤ 100 := by
  have hx := wdX_ok h
  have hk := wdK_range h
  unfold wdB
  split
  · have e : wdL c = (wdX c).1.length + 1 := wrap_small (by omega)
    have := drN_range (drNc (wdC9 c) 5) (n := wdL c) (by omega)
    omega
  · have e : wdG c = (((wdX c).1.length : Int) - wdK c) / 2 + 2 := by
      unfold wdG w64
      rw [wrap_small (n := ((wdX c).1.length : Int) - wdK c) (by omega), Int.tdiv_eq_ediv_of_nonneg (by omega), wrap_small (n := (((wdX c).1.length : Int) - wdK c) / 2) (by omega), wrap_small (by omega)]
    have := drN_range (wdY c).2 (n := wdG c) (by omega)
    omega
theorem wdW_ok {c : Cur} (h : CurOk c) : ∀ n, CurOk (wdW c n).2 ∧ (wdW c n).1.length = (wdX c).1.length
  | 0 => ⟨wdC11_ok h, (wdY_ok h).2⟩
  | n + 1 => by
    obtain ⟨h1, h2⟩ := wdW_ok h n
    exact ⟨drEc_ok _ (drNc_ok _ h1), by simp [wdW, h2]⟩
end Go.SF
