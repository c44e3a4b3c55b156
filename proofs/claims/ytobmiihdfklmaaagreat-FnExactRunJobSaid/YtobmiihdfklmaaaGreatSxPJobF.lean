/- Products of two lists, from the code. No condition. -/
import Derived.Test.YtobmiihdfklmaaaGreatSxPJobE
import Derived.Test.YtobmiihdfklmaaaGreatSxPDivT
namespace Go.SF
open Go.SX Go
set_option linter.unusedVariables false
set_option linter.unusedSimpArgs false
theorem psum_none {p : Int} {a b : List Int} : ∀ j, j ≤ a.length - 1 → psum p a b (a.length + b.length - 2) j = 0
  | 0, _ => rfl
  | j + 1, h => by rw [psum_skip (by omega)]; exact psum_none j (by omega)
theorem mulLn_top {f : Int} {a b : List Int} (ha : polyB f a = true) (hb : polyB f b = true) (h0 : 0 < a.length) (h1 : 0 < b.length) : topB (mulLn (modF f) a b (a.length + b.length - 1)) = true := by
  obtain ⟨hm, hea, _, hta⟩ := poly_ok ha
  obtain ⟨_, heb, _, htb⟩ := poly_ok hb
  have hpr := mod_pr hm
  have hp := hpr.mod
  refine top_of (fun _ => ?_)
  rw [mulLn_len]
  unfold mulLn
  rw [mr_get, if_pos (by omega), show a.length + b.length - 1 - 1 = a.length + b.length - 2 by omega, Nat.min_eq_right (by omega), show a.length = (a.length - 1) + 1 by omega]
  have e : psum (modF f) a b (a.length - 1 + 1 + b.length - 2) (a.length - 1 + 1) = a.getD (a.length - 1) 0 * b.getD (b.length - 1) 0 % modF f := by
    rw [show a.length - 1 + 1 + b.length - 2 = a.length + b.length - 2 by omega, psum_step (by omega), psum_none _ (Nat.le_refl _), Int.zero_add, show a.length + b.length - 2 - (a.length - 1) = b.length - 1 by omega]
  rw [e]
  intro hz
  have xa := el_get hp hea (a.length - 1)
  have xb := el_get hp heb (b.length - 1)
  unfold El at xa xb
  rcases hpr.pr _ _ hz with h | h
  · rw [Int.emod_eq_of_lt xa.1 xa.2] at h; exact top_last hta h0 h
  · rw [Int.emod_eq_of_lt xb.1 xb.2] at h; exact top_last htb h1 h
theorem mulP_len {f : Int} {a b : List Int} (ha : polyB f a = true) (hb : polyB f b = true) (h0 : ¬ (a.length = 0 ∨ b.length = 0)) : (mulP (modF f) a b).length = a.length + b.length - 1 := by
  have ht := mulLn_top ha hb (by omega) (by omega)
  unfold mulP
  rw [if_neg h0, trim_len]
  unfold topB at ht
  rw [of_decide_eq_true ht, mulLn_len]
theorem v_I_MulPoly :
 ∀ (d : Int × List Int × List Int), Ty.wf i64T d.1 ∧ Ty.wf listT d.2.1 ∧ Ty.wf listT d.2.2 → True → (List.length [d.2.1, d.2.2] = (1 : Nat) ∨ List.length [d.2.1, d.2.2] = (2 : Nat)) ∧ (Ty.wf fldT (Prod.fst (polysF d.1
 [d.2.1, d.2.2])) ∧ Ty.wf Ty.bool (Prod.snd (polysF d.1 [d.2.1, d.2.2])) → ((!Prod.snd (polysF d.1 [d.2.1, d.2.2])) = true → ([], false) = mulPF d.1 d.2.1 d.2.2) ∧ ((!Prod.snd (polysF d.1 [d.2.1, d.2.2])) = false →
 (IsMod (Prod.fst (Prod.fst (polysF d.1 [d.2.1, d.2.2]))) ∧ elemsF (Prod.fst (Prod.fst (polysF d.1 [d.2.1, d.2.2]))) d.2.1 = true ∧ elemsF (Prod.fst (Prod.fst (polysF d.1 [d.2.1, d.2.2]))) d.2.2 = true ∧ d.2.1.length ≤
 (1000 : Nat) ∧ d.2.2.length ≤ (1000 : Nat)) ∧ (Ty.wf listT (mulP (Prod.fst (Prod.fst (polysF d.1 [d.2.1, d.2.2]))) d.2.1 d.2.2) → (decide ((400 : Int) < (↑(List.length (mulP (Prod.fst (Prod.fst (polysF d.1 [d.2.1,
 d.2.2]))) d.2.1 d.2.2)) : Int)) = true → ([], false) = mulPF d.1 d.2.1 d.2.2) ∧ (decide ((400 : Int) < (↑(List.length (mulP (Prod.fst (Prod.fst (polysF d.1 [d.2.1, d.2.2]))) d.2.1 d.2.2)) : Int)) = false → (mulP
 (Prod.fst (Prod.fst (polysF d.1 [d.2.1, d.2.2]))) d.2.1 d.2.2, true) = mulPF d.1 d.2.1 d.2.2)))) := by
  intro (d : Int × List Int × List Int) hw hp
  obtain ⟨f, a, b⟩ := d
  simp only [Int.toNat_natCast, exists_const, and_true, true_and, implies_true, decide_eq_true_eq, decide_eq_false_iff_not, Bool.not_eq_true', Bool.not_eq_false', beq_iff_eq, forall_const]
  refine ⟨.inr rfl, fun _ => ⟨fun h => ?_, fun h => ?_⟩⟩
  · unfold mulPF
    rw [if_neg (fun hh => ?_)]
    simp only [Bool.and_eq_true, decide_eq_true_eq] at hh
    have : (polysF f [a, b]).2 = true := polys_ok.2 ⟨(poly_ok hh.1.1).1, fun v hv => by
      rcases List.mem_cons.1 hv with h1 | h1
      · rw [h1]; exact hh.1.1
      · rw [List.mem_singleton.1 h1]; exact hh.1.2⟩
    rw [h] at this; cases this
  · have hk := polys_ok.1 h
    have ha := hk.2 a (List.mem_cons_self ..)
    have hb := hk.2 b (List.mem_cons_of_mem _ (List.mem_cons_self ..))
    have hmo : (polysF f [a, b]).1.1 = modF f := by rw [← polys_yes hk]; rfl
    rw [hmo]
    obtain ⟨hm, hea, hla, _⟩ := poly_ok ha
    obtain ⟨_, heb, hlb, _⟩ := poly_ok hb
    refine ⟨⟨(mod_is hm).1, hea, heb, by omega, by omega⟩, fun _ => ⟨fun h1 => ?_, fun h1 => ?_⟩⟩
    · unfold mulPF
      rw [if_neg (fun hh => ?_)]
      simp only [Bool.and_eq_true, decide_eq_true_eq] at hh
      by_cases h0 : a.length = 0 ∨ b.length = 0
      · unfold mulP at h1
        rw [if_pos h0] at h1
        simp at h1
      · rw [mulP_len ha hb h0] at h1
        omega
    · unfold mulPF
      rw [if_pos ?_]
      simp only [Bool.and_eq_true, decide_eq_true_eq]
      refine ⟨⟨ha, hb⟩, ?_⟩
      by_cases h0 : a.length = 0 ∨ b.length = 0
      · omega
      · rw [mulP_len ha hb h0] at h1
        omega
end Go.SF
