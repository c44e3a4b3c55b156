/- What is owed of the code of the functions on rings, their blocks told. No condition. -/
import Derived.Test.YtnjihkeflkemdaaSxC
import Derived.Test.YtnjihkeflkemdaaSxPRing
import Derived.Test.YtnjihkeflkemdaaSxPRing2
import Derived.Test.YtnjihkeflkemdaaSxPLine2
import Derived.Test.YtnjihkeflkemdaaSxPLine3
import Derived.Test.YtnjihkeflkemdaaSxPRingB
namespace Go.SF
open Go.SX Go
set_option linter.unusedVariables false
set_option linter.unusedSimpArgs false
set_option maxRecDepth 10000
theorem unTk (l : List Tk) : l.map (unD tkT) = l := by
  have : unD tkT = id := rfl
  rw [this]; exact List.map_id l
theorem unG0 (f : FlG) : unD flG f = unF f := by
  show (f.1, f.2.1, f.2.2.1, f.2.2.2.2.map (unD tkT)) = _
  rw [unTk]; rfl
theorem unG1 (L : List FlG) : unD (.sl flG) L = L.map unF := by
  show L.map (unD flG) = _
  congr 1
  funext f
  exact unG0 f
theorem unG2 (r : List FlG × Int × Bool) : unD ringG r = (r.1.map unF, r.2.1, r.2.2) := by
  show (unD (.sl flG) r.1, r.2.1, r.2.2) = _
  rw [unG1]; rfl
theorem idG0 (f : FlG) : ids flG f = idF f := by
  obtain ⟨a, b, c, i, l⟩ := f
  show [] ++ ([] ++ ([] ++ ids (.gs true tkT) (i, l))) = _
  rw [ids_gs, ids_noG (.sl tkT) rfl l |> fun q => (show idsL tkT l = [] from q)]
  cases l <;> simp [idF]
theorem rep_tell (n : Nat) : List.replicate n fg0 = List.map (tell0 flG) (List.replicate n (show flG.unG.den from ((0 : Int), (0 : Int), (0 : Int), []))) := by
  rw [List.map_replicate]; rfl
theorem idG1 (L : List FlG) : idsL flG L = L.flatMap idF := by
  unfold idsL
  congr 1
  funext f
  exact idG0 f
theorem idG2 (L : List FlG) : ids (.sl flG) L = L.flatMap idF := idG1 L
theorem idG3 (r : List FlG × Int × Bool) : ids ringG r = r.1.flatMap idF := by
  show ids (.sl flG) r.1 ++ ([] ++ []) = _
  rw [idG2]; simp
theorem idF_rep (n : Nat) : (List.replicate n fg0).flatMap idF = [] := by
  induction n with
  | zero => rfl
  | succ n ih => rw [List.replicate_succ, List.flatMap_cons, ih]; rfl
theorem idF_nodup (f : FlG) : (idF f).Nodup := by unfold idF; split <;> simp
theorem idF_get {L : List FlG} {i b : Nat} (h : b ∈ idF (L.getD i fg0)) : b ∈ L.flatMap idF := by
  rcases Nat.lt_or_ge i L.length with hi | hi
  · rw [List.getD_eq_getElem?_getD, List.getElem?_eq_getElem hi] at h
    exact List.mem_flatMap.2 ⟨_, List.getElem_mem hi, h⟩
  · rw [List.getD_eq_getElem?_getD, List.getElem?_eq_none hi] at h
    cases h
theorem nd_set {x : FlG} : ∀ {L : List FlG} {i : Nat}, (L.flatMap idF).Nodup → (∀ b ∈ idF x, b ∉ L.flatMap idF ∨ b ∈ idF (L.getD i fg0)) → ((L.set i x).flatMap idF).Nodup
  | [], i, h, _ => h
  | y :: r, 0, h, hx => by
    show ((x :: r).flatMap idF).Nodup
    rw [List.flatMap_cons, List.nodup_append] at h ⊢
    refine ⟨idF_nodup x, h.2.1, fun a ha b hb e => ?_⟩
    subst e
    rcases hx a ha with h1 | h1
    · exact h1 (List.mem_append_right _ hb)
    · exact h.2.2 a h1 a hb rfl
  | y :: r, i + 1, h, hx => by
    show ((y :: r.set i x).flatMap idF).Nodup
    rw [List.flatMap_cons, List.nodup_append] at h ⊢
    have hx' : ∀ b ∈ idF x, b ∉ r.flatMap idF ∨ b ∈ idF (r.getD i fg0) := by
      intro b hb
      rcases hx b hb with h1 | h1
      · exact .inl (fun h2 => h1 (List.mem_append_right _ h2))
      · exact .inr h1
    refine ⟨h.1, nd_set h.2.1 hx', fun a ha b hb e => ?_⟩
    subst e
    obtain ⟨z, hz, haz⟩ := List.mem_flatMap.1 hb
    rcases List.mem_or_eq_of_mem_set hz with hz | rfl
    · exact h.2.2 a ha a (List.mem_flatMap.2 ⟨z, hz, haz⟩) rfl
    · rcases hx a haz with h1 | h1
      · exact h1 (List.mem_append_left _ ha)
      · exact h.2.2 a ha a (idF_get h1) rfl
theorem nd_snoc {L : List FlG} {x : FlG} (h : (L.flatMap idF).Nodup) (hx : ∀ b ∈ idF x, b ∉ L.flatMap idF) : ((L ++ [x]).flatMap idF).Nodup := by
  rw [List.flatMap_append, List.nodup_append]
  refine ⟨h, by simpa using idF_nodup x, fun a ha b hb e => ?_⟩
  subst e
  exact hx a (by simpa using hb) ha
theorem idF_fresh {a c d : Int} {b : Nat} {l : List Tk} {K : List Nat} (hb : b ∉ K) : ∀ i ∈ idF (a, c, d, b, l), i ∉ K := by
  intro i hi
  unfold idF at hi
  split at hi
  · cases hi
  · rw [List.mem_singleton.1 hi]; exact hb
theorem take_un {L : List FlG} {xs : List Fl} {k : Nat} (h : L.map unF = xs.take k) (hk : k < xs.length) (b : Nat) :
    (L ++ [((xs.getD k fl0).1, (xs.getD k fl0).2.1, (xs.getD k fl0).2.2.1, b, (xs.getD k fl0).2.2.2)]).map unF = xs.take (k + 1) := by
  have h2 : xs.getD k fl0 = xs[k] := by simp [hk]
  rw [List.map_append, h, h2, List.take_succ_eq_append_getElem hk]
  rfl
theorem v_L_toFlowST :
  ∀ (d : List (Int × Int × Int × List (Int × Int))), Ty.wf (Ty.sl flT) d → FlsP d → ((0 : Int) ≤ (↑(List.length d) : Int) ∧ (↑(List.length d) : Int) ≤ (↑(List.length d) : Int) ∧ (↑(List.length d) : Int) * (↑(48 : Nat) :
  Int) ≤ (140737488355328 : Int)) ∧ ((0 : Nat) ≤ List.length d ∧ (0 : Nat) = (0 : Nat) ∧ List.map unF [] = List.take (0 : Nat) d ∧ List.Nodup (List.flatMap idF [])) ∧ ((d = d ∧ Value.slice none (0 : Nat) (0 : Nat) =
  Value.slice none (0 : Nat) (0 : Nat) ∧ (0 : Int) = (↑(0 : Nat) : Int)) ∧ (∀ (y : Int × Int × Int × List (Int × Int)), y ∈ List.replicate (Int.toNat (↑(List.length d) : Int)) ((0 : Int), (0 : Int), (0 : Int), []) → nilD
  flG y) ∧ [] ++ List.replicate (List.length d - (0 : Nat)) fg0 = List.map (tell0 flG) (List.replicate (Int.toNat (↑(List.length d) : Int)) ((0 : Int), (0 : Int), (0 : Int), []))) ∧ ∀ (x : Nat × List (Int × Int × Int ×
  Nat × List (Int × Int))), Prod.fst x ≤ List.length d ∧ List.length (Prod.snd x) = Prod.fst x ∧ List.map unF (Prod.snd x) = List.take (Prod.fst x) d ∧ List.Nodup (List.flatMap idF (Prod.snd x)) → (decide ((↑(Prod.fst x)
  : Int) < (↑(List.length d) : Int)) = true → ((0 : Int) ≤ (↑(Prod.fst x) : Int) ∧ (↑(Prod.fst x) : Int) < (↑(List.length d) : Int)) ∧ List.length (Prod.snd (Prod.snd (Prod.snd (List.getD d (Int.toNat (↑(Prod.fst x) :
  Int)) ((0 : Int), (0 : Int), (0 : Int), []))))) ≤ (1048576 : Nat) ∧ (Ty.wf flT (List.getD d (Int.toNat (↑(Prod.fst x) : Int)) ((0 : Int), (0 : Int), (0 : Int), [])) → ((0 : Int) ≤ (↑(Prod.fst x) : Int) ∧ (↑(Prod.fst x)
  : Int) < (↑(List.length (Prod.snd x ++ List.replicate (List.length d - Prod.fst x) fg0)) : Int)) ∧ ∀ (b : Nat), ¬b ∈ idsL flG (Prod.snd x ++ List.replicate (List.length d - Prod.fst x) fg0) → ∃ (x' : Nat × List (Int ×
  Int × Int × Nat × List (Int × Int))), (Prod.fst x' ≤ List.length d ∧ List.length (Prod.snd x') = Prod.fst x' ∧ List.map unF (Prod.snd x') = List.take (Prod.fst x') d ∧ List.Nodup (List.flatMap idF (Prod.snd x'))) ∧
  List.length d - Prod.fst x' < List.length d - Prod.fst x ∧ (d = d ∧ Value.slice none (0 : Nat) (0 : Nat) = Value.slice none (0 : Nat) (0 : Nat) ∧ IntKind.wrap IntKind.i64 ((↑(Prod.fst x) : Int) + (1 : Int)) =
  (↑(Prod.fst x') : Int)) ∧ List.set (Prod.snd x ++ List.replicate (List.length d - Prod.fst x) fg0) (Int.toNat (↑(Prod.fst x) : Int)) (Prod.fst (List.getD d (Int.toNat (↑(Prod.fst x) : Int)) ((0 : Int), (0 : Int), (0 :
  Int), [])), Prod.fst (Prod.snd (List.getD d (Int.toNat (↑(Prod.fst x) : Int)) ((0 : Int), (0 : Int), (0 : Int), []))), Prod.fst (Prod.snd (Prod.snd (List.getD d (Int.toNat (↑(Prod.fst x) : Int)) ((0 : Int), (0 : Int),
  (0 : Int), [])))), b, Prod.snd (Prod.snd (Prod.snd (List.getD d (Int.toNat (↑(Prod.fst x) : Int)) ((0 : Int), (0 : Int), (0 : Int), []))))) = Prod.snd x' ++ List.replicate (List.length d - Prod.fst x') fg0)) ∧ (decide
  ((↑(Prod.fst x) : Int) < (↑(List.length d) : Int)) = false → unD (Ty.sl flG) (Prod.snd x ++ List.replicate (List.length d - Prod.fst x) fg0) = d ∧ List.Nodup (ids (Ty.sl flG) (Prod.snd x ++ List.replicate (List.length
  d - Prod.fst x) fg0))) := by
  intro d hw hp
  have hl : d.length ≤ 9223372036854775807 := hw.1
  have hlen := hp.1
  simp only [Int.toNat_natCast] at *
  refine ⟨⟨by omega, by omega, by omega⟩, ⟨by omega, by simp, by simp, by simp⟩, ⟨by simp, fun y hy => ?_, ?_⟩, fun x ⟨h1, h2, h3, h4⟩ => ⟨fun h5 => ?_, fun h5 => ?_⟩⟩
  · rw [List.eq_of_mem_replicate hy]
    exact ⟨trivial, trivial, trivial, rfl⟩
  · rw [List.nil_append, Nat.sub_zero]; exact rep_tell _
  · have h6 : x.1 < d.length := by simpa using h5
    rw [wrap_succ (by omega)]
    refine ⟨⟨by omega, by omega⟩, ?_, fun _ => ⟨⟨by omega, by simp; omega⟩, fun b hb => ?_⟩⟩
    · refine hp.2 _ ?_
      rw [List.getD_eq_getElem?_getD, List.getElem?_eq_getElem h6]
      exact List.getElem_mem h6
    · rw [idG1, List.flatMap_append, idF_rep, List.append_nil] at hb
      refine ⟨(x.1 + 1, x.2 ++ [((d.getD x.1 fl0).1, (d.getD x.1 fl0).2.1, (d.getD x.1 fl0).2.2.1, b, (d.getD x.1 fl0).2.2.2)]), ⟨by simp only; omega, by simp [h2], take_un h3 h6 b, nd_snoc h4 (idF_fresh hb)⟩, by simp only; omega, by simp, ?_⟩
      have h7 : List.replicate (d.length - x.1) fg0 = fg0 :: List.replicate (d.length - (x.1 + 1)) fg0 := by
        rw [show d.length - x.1 = (d.length - (x.1 + 1)) + 1 by omega, List.replicate_succ]
      rw [h7, ← h2, List.set_append_right _ _ (Nat.le_refl _)]
      simp [fl0]
  · have h6 : x.1 = d.length := by simp at h5; omega
    rw [h6, Nat.sub_self, List.replicate_zero, List.append_nil, unG1, idG2, h3, h6, List.take_length]
    exact ⟨rfl, h4⟩
theorem v_L_toRingT :
  ∀ (d : List (Int × Int × Int × List (Int × Int)) × Int × Bool), Ty.wf ringT d → FlsP (Prod.fst d) → FlsP (Prod.fst d) ∧ ∀ (r : List (Int × Int × Int × Nat × List (Int × Int))), unD (Ty.sl flG) r = Prod.fst d →
  List.Nodup (ids (Ty.sl flG) r) → Ty.wf (Ty.sl flG) r → True → unD ringG (r, Prod.snd d) = d ∧ List.Nodup (ids ringG (r, Prod.snd d)) := by
  intro d hw hp
  refine ⟨hp, fun r h1 h2 _ _ => ?_⟩
  rw [unG1] at h1
  rw [idG2] at h2
  rw [unG2, idG3]
  exact ⟨by simp only; rw [h1], h2⟩
theorem v_I_copyRingT :
  ∀ (d : List (Int × Int × Int × List (Int × Int)) × Int × Bool), Ty.wf ringT d → FlsP (Prod.fst d) → ((0 : Nat) ≤ List.length (Prod.fst d) ∧ List.map unF [] = List.take (0 : Nat) (Prod.fst d) ∧ List.Nodup (List.flatMap
  idF [])) ∧ (((Prod.fst d = Prod.fst d ∧ Prod.fst (Prod.snd d) = Prod.fst (Prod.snd d) ∧ Prod.snd (Prod.snd d) = Prod.snd (Prod.snd d)) ∧ Prod.fst (Prod.snd d) = Prod.fst (Prod.snd d) ∧ Prod.snd (Prod.snd d) = Prod.snd
  (Prod.snd d) ∧ (Value.slice none (0 : Nat) (0 : Nat) = Value.slice none (0 : Nat) (0 : Nat) ∧ Prod.fst (Prod.snd d) = Prod.fst (Prod.snd d) ∧ Prod.snd (Prod.snd d) = Prod.snd (Prod.snd d)) ∧ Prod.fst d = Prod.fst d ∧
  (↑(List.length (Prod.fst d)) : Int) = (↑(List.length (Prod.fst d)) : Int) ∧ (0 : Int) = (↑(0 : Nat) : Int)) ∧ (Prod.fst d = Prod.fst d ∧ Prod.fst (Prod.snd d) = Prod.fst (Prod.snd d) ∧ Prod.snd (Prod.snd d) = Prod.snd
  (Prod.snd d)) ∧ (Value.slice none (0 : Nat) (0 : Nat) = Value.slice none (0 : Nat) (0 : Nat) ∧ (0 : Int) = (0 : Int)) ∧ (Prod.fst (Prod.snd d) = Prod.fst (Prod.snd d) ∧ Prod.snd (Prod.snd d) = Prod.snd (Prod.snd d)) ∧
  ([] : List FlG) = []) ∧ ∀ (x : Nat × List (Int × Int × Int × Nat × List (Int × Int))), Prod.fst x ≤ List.length (Prod.fst d) ∧ List.map unF (Prod.snd x) = List.take (Prod.fst x) (Prod.fst d) ∧ List.Nodup (List.flatMap
  idF (Prod.snd x)) → (decide ((↑(Prod.fst x) : Int) < (↑(List.length (Prod.fst d)) : Int)) = true → ((0 : Int) ≤ (↑(Prod.fst x) : Int) ∧ (↑(Prod.fst x) : Int) < (↑(List.length (Prod.fst d)) : Int)) ∧ List.length
  (Prod.snd (Prod.snd (Prod.snd (List.getD (Prod.fst d) (Int.toNat (↑(Prod.fst x) : Int)) ((0 : Int), (0 : Int), (0 : Int), []))))) ≤ (1048576 : Nat) ∧ (Ty.wf lineT (Prod.snd (Prod.snd (Prod.snd (List.getD (Prod.fst d)
  (Int.toNat (↑(Prod.fst x) : Int)) ((0 : Int), (0 : Int), (0 : Int), []))))) → ∀ (b : Nat), ¬b ∈ idsL flG (Prod.snd x) → (List.length (Prod.snd x) + List.length [(Prod.fst (List.getD (Prod.fst d) (Int.toNat (↑(Prod.fst
  x) : Int)) ((0 : Int), (0 : Int), (0 : Int), [])), Prod.fst (Prod.snd (List.getD (Prod.fst d) (Int.toNat (↑(Prod.fst x) : Int)) ((0 : Int), (0 : Int), (0 : Int), []))), Prod.fst (Prod.snd (Prod.snd (List.getD (Prod.fst
  d) (Int.toNat (↑(Prod.fst x) : Int)) ((0 : Int), (0 : Int), (0 : Int), [])))), b, Prod.snd (Prod.snd (Prod.snd (List.getD (Prod.fst d) (Int.toNat (↑(Prod.fst x) : Int)) ((0 : Int), (0 : Int), (0 : Int), [])))))]) * (48
  : Nat) ≤ (140737488355328 : Nat) ∧ ∃ (x' : Nat × List (Int × Int × Int × Nat × List (Int × Int))), (Prod.fst x' ≤ List.length (Prod.fst d) ∧ List.map unF (Prod.snd x') = List.take (Prod.fst x') (Prod.fst d) ∧
  List.Nodup (List.flatMap idF (Prod.snd x'))) ∧ List.length (Prod.fst d) - Prod.fst x' < List.length (Prod.fst d) - Prod.fst x ∧ ((Prod.fst d = Prod.fst d ∧ Prod.fst (Prod.snd d) = Prod.fst (Prod.snd d) ∧ Prod.snd
  (Prod.snd d) = Prod.snd (Prod.snd d)) ∧ Prod.fst (Prod.snd d) = Prod.fst (Prod.snd d) ∧ Prod.snd (Prod.snd d) = Prod.snd (Prod.snd d) ∧ (Value.slice none (0 : Nat) (0 : Nat) = Value.slice none (0 : Nat) (0 : Nat) ∧
  Prod.fst (Prod.snd d) = Prod.fst (Prod.snd d) ∧ Prod.snd (Prod.snd d) = Prod.snd (Prod.snd d)) ∧ Prod.fst d = Prod.fst d ∧ (↑(List.length (Prod.fst d)) : Int) = (↑(List.length (Prod.fst d)) : Int) ∧ IntKind.wrap
  IntKind.i64 ((↑(Prod.fst x) : Int) + (1 : Int)) = (↑(Prod.fst x') : Int)) ∧ (Prod.fst d = Prod.fst d ∧ Prod.fst (Prod.snd d) = Prod.fst (Prod.snd d) ∧ Prod.snd (Prod.snd d) = Prod.snd (Prod.snd d)) ∧ (Value.slice none
  (0 : Nat) (0 : Nat) = Value.slice none (0 : Nat) (0 : Nat) ∧ (0 : Int) = (0 : Int)) ∧ (Prod.fst (Prod.snd d) = Prod.fst (Prod.snd d) ∧ Prod.snd (Prod.snd d) = Prod.snd (Prod.snd d)) ∧ Prod.snd x ++ [(Prod.fst
  (List.getD (Prod.fst d) (Int.toNat (↑(Prod.fst x) : Int)) ((0 : Int), (0 : Int), (0 : Int), [])), Prod.fst (Prod.snd (List.getD (Prod.fst d) (Int.toNat (↑(Prod.fst x) : Int)) ((0 : Int), (0 : Int), (0 : Int), []))),
  Prod.fst (Prod.snd (Prod.snd (List.getD (Prod.fst d) (Int.toNat (↑(Prod.fst x) : Int)) ((0 : Int), (0 : Int), (0 : Int), [])))), b, Prod.snd (Prod.snd (Prod.snd (List.getD (Prod.fst d) (Int.toNat (↑(Prod.fst x) : Int))
  ((0 : Int), (0 : Int), (0 : Int), [])))))] = Prod.snd x')) ∧ (decide ((↑(Prod.fst x) : Int) < (↑(List.length (Prod.fst d)) : Int)) = false → unD ringG (Prod.snd x, Prod.snd d) = d ∧ List.Nodup (ids ringG (Prod.snd x,
  Prod.snd d))) := by
  intro d hw hp
  obtain ⟨xs, tn, fr⟩ := d
  have hl : xs.length ≤ 9223372036854775807 := hw.1.1
  have hlen := hp.1
  simp only [Int.toNat_natCast] at *
  refine ⟨⟨by omega, by simp, by simp⟩, by simp, fun x ⟨h1, h3, h4⟩ => ⟨fun h5 => ?_, fun h5 => ?_⟩⟩
  · have h6 : x.1 < xs.length := by simpa using h5
    have h2 : x.2.length = x.1 := by have := congrArg List.length h3; simpa [Nat.min_eq_left h1] using this
    rw [wrap_succ (by omega)]
    refine ⟨⟨by omega, by omega⟩, ?_, fun _ b hb => ⟨?_, (x.1 + 1, x.2 ++ [((xs.getD x.1 fl0).1, (xs.getD x.1 fl0).2.1, (xs.getD x.1 fl0).2.2.1, b, (xs.getD x.1 fl0).2.2.2)]), ⟨by simp only; omega, take_un h3 h6 b, ?_⟩, by simp only; omega, by simp [fl0]⟩⟩
    · refine hp.2 _ ?_
      rw [List.getD_eq_getElem?_getD, List.getElem?_eq_getElem h6]
      exact List.getElem_mem h6
    · simp; omega
    · rw [idG1] at hb
      exact nd_snoc h4 (idF_fresh hb)
  · have h6 : x.1 = xs.length := by simp at h5; omega
    rw [unG2, idG3]
    rw [h6, List.take_length] at h3
    exact ⟨by simp only; rw [h3], h4⟩
theorem v_S_l14Copy :
  ∀ (d : List (Int × Int × Int × List (Int × Int)) × Int × Bool), Ty.wf ringT d → FlsP (Prod.fst d) → (0 : Nat) ≤ List.length (Prod.fst d) ∧ (((Prod.fst d = Prod.fst d ∧ Prod.fst (Prod.snd d) = Prod.fst (Prod.snd d) ∧
  Prod.snd (Prod.snd d) = Prod.snd (Prod.snd d)) ∧ (0 : Int) = (↑(0 : Nat) : Int)) ∧ (Prod.fst d = Prod.fst d ∧ Prod.fst (Prod.snd d) = Prod.fst (Prod.snd d) ∧ Prod.snd (Prod.snd d) = Prod.snd (Prod.snd d)) ∧
  (Value.slice none (0 : Nat) (0 : Nat) = Value.slice none (0 : Nat) (0 : Nat) ∧ (0 : Int) = (0 : Int)) ∧ (Prod.fst (Prod.snd d) = Prod.fst (Prod.snd d) ∧ Prod.snd (Prod.snd d) = Prod.snd (Prod.snd d)) ∧ List.take (0 :
  Nat) (Prod.fst d) = []) ∧ ∀ (x : Nat), x ≤ List.length (Prod.fst d) → (decide ((↑x : Int) < (↑(List.length (Prod.fst d)) : Int)) = true → ((0 : Int) ≤ (↑x : Int) ∧ (↑x : Int) < (↑(List.length (Prod.fst d)) : Int)) ∧
  List.length (Prod.snd (Prod.snd (Prod.snd (List.getD (Prod.fst d) (Int.toNat (↑x : Int)) ((0 : Int), (0 : Int), (0 : Int), []))))) ≤ (1048576 : Nat) ∧ (Ty.wf lineT (Prod.snd (Prod.snd (Prod.snd (List.getD (Prod.fst d)
  (Int.toNat (↑x : Int)) ((0 : Int), (0 : Int), (0 : Int), []))))) → (List.length (List.take x (Prod.fst d)) + List.length [List.getD (Prod.fst d) (Int.toNat (↑x : Int)) ((0 : Int), (0 : Int), (0 : Int), [])]) * (48 :
  Nat) ≤ (140737488355328 : Nat) ∧ ∃ (x' : Nat), x' ≤ List.length (Prod.fst d) ∧ List.length (Prod.fst d) - x' < List.length (Prod.fst d) - x ∧ ((Prod.fst d = Prod.fst d ∧ Prod.fst (Prod.snd d) = Prod.fst (Prod.snd d) ∧
  Prod.snd (Prod.snd d) = Prod.snd (Prod.snd d)) ∧ IntKind.wrap IntKind.i64 ((↑x : Int) + (1 : Int)) = (↑x' : Int)) ∧ (Prod.fst d = Prod.fst d ∧ Prod.fst (Prod.snd d) = Prod.fst (Prod.snd d) ∧ Prod.snd (Prod.snd d) =
  Prod.snd (Prod.snd d)) ∧ (Value.slice none (0 : Nat) (0 : Nat) = Value.slice none (0 : Nat) (0 : Nat) ∧ (0 : Int) = (0 : Int)) ∧ (Prod.fst (Prod.snd d) = Prod.fst (Prod.snd d) ∧ Prod.snd (Prod.snd d) = Prod.snd
  (Prod.snd d)) ∧ List.take x (Prod.fst d) ++ [List.getD (Prod.fst d) (Int.toNat (↑x : Int)) ((0 : Int), (0 : Int), (0 : Int), [])] = List.take x' (Prod.fst d))) ∧ (decide ((↑x : Int) < (↑(List.length (Prod.fst d)) :
  Int)) = false → (List.take x (Prod.fst d), Prod.snd d) = d) := by
  intro d hw hp
  obtain ⟨xs, tn, fr⟩ := d
  have hl : xs.length ≤ 9223372036854775807 := hw.1.1
  have hlen := hp.1
  simp only [Int.toNat_natCast] at *
  refine ⟨by omega, by simp, fun x h1 => ⟨fun h5 => ?_, fun h5 => ?_⟩⟩
  · have h6 : x < xs.length := by simpa using h5
    rw [wrap_succ (by omega)]
    refine ⟨⟨by omega, by omega⟩, ?_, fun _ => ⟨?_, x + 1, by omega, by omega, by simp, ?_⟩⟩
    · refine hp.2 _ ?_
      rw [List.getD_eq_getElem?_getD, List.getElem?_eq_getElem h6]
      exact List.getElem_mem h6
    · simp; omega
    · have h7 : xs.take (x + 1) = xs.take x ++ [xs.getD x fl0] := by rw [List.take_succ_eq_append_getElem h6]; simp [h6]
      rw [h7]
      simp [fl0]
  · have h6 : x = xs.length := by simp at h5; omega
    rw [h6, List.take_length]
theorem v_L_markTicketSE :
  ∀ (d : List (Int × Int) × Int), Ty.wf (Ty.sl tkT) (Prod.fst d) ∧ Ty.wf (Ty.int IntKind.i64) (Prod.snd d) → Prod.fst d = [] ∧ True → True ∧ (Prod.fst d = Prod.fst d ∧ Prod.snd d = Prod.snd d ∧ (0 : Int) = (0 : Int)) ∧ ∀
  (x : Unit), True → (decide ((0 : Int) < (↑(List.length (Prod.fst d)) : Int)) = true → ((0 : Int) ≤ (0 : Int) ∧ (0 : Int) < (↑(List.length (Prod.fst d)) : Int)) ∧ False) ∧ (decide ((0 : Int) < (↑(List.length (Prod.fst
  d)) : Int)) = false → Prod.snd d = end2 (Prod.fst d) (Prod.snd d)) := by
  intro d hw hp
  obtain ⟨xs, k⟩ := d
  obtain ⟨h1, _⟩ := hp
  have h1 : xs = [] := h1
  subst h1
  refine ⟨trivial, by simp, fun x _ => ⟨fun h => ?_, fun _ => rfl⟩⟩
  simp at h
theorem getD_mid {α : Type} {A C : List α} {y z : α} {j : Nat} (h : A.length = j) : (A ++ y :: C).getD j z = y := by
  subst h
  simp [List.getD_eq_getElem?_getD]
theorem set_mid {α : Type} {A C : List α} {y y' : α} {j : Nat} (h : A.length = j) : (A ++ y :: C).set j y' = A ++ y' :: C := by
  subst h
  rw [List.set_append_right _ _ (Nat.le_refl _)]
  simp
theorem mark2_len : ∀ (l : List Tk) (k : Int), (mark2 l k).length = l.length := fun l k => mkGo_length _ _ l k
theorem idF_el (f : FlG) (k : Int) : idF (elF f k) = idF f := by
  obtain ⟨a, b, c, i, l⟩ := f
  unfold idF elF
  have := mark2_len l (n3 k)
  cases l with
  | nil => rfl
  | cons t r =>
    cases hx : mark2 (t :: r) (n3 k) with
    | nil => rw [hx] at this; cases this
    | cons u s => simp
theorem markF_len : ∀ (L : List FlG) (k : Int), (markF L k).length = L.length
  | [], _ => rfl
  | f :: L, k => by show (elF f k :: markF L (nxF f k)).length = _; simp [markF_len L]
theorem markF_ids : ∀ (L : List FlG) (k : Int), (markF L k).flatMap idF = L.flatMap idF
  | [], _ => rfl
  | f :: L, k => by show (elF f k :: markF L (nxF f k)).flatMap idF = _; rw [List.flatMap_cons, List.flatMap_cons, idF_el, markF_ids L]
theorem markF_snoc : ∀ (L : List FlG) (f : FlG) (k : Int), markF (L ++ [f]) k = markF L k ++ [elF f (endF L k)]
  | [], f, k => rfl
  | g :: L, f, k => by show elF g k :: markF (L ++ [f]) (nxF g k) = elF g k :: (markF L (nxF g k) ++ _); rw [markF_snoc L]; rfl
theorem endF_snoc : ∀ (L : List FlG) (f : FlG) (k : Int), endF (L ++ [f]) k = nxF f (endF L k)
  | [], f, k => rfl
  | g :: L, f, k => endF_snoc L f (nxF g k)
def updF (b : Nat) (new : List Tk) (f : FlG) : FlG := (f.1, f.2.1, f.2.2.1, if f.2.2.2.1 = b ∧ f.2.2.2.2.length = new.length then (f.2.2.2.1, new) else f.2.2.2)
theorem updF_eq (b : Nat) (new : List Tk) (f : FlG) : updG b tkT new flG f = updF b new f := by
  show (f.1, f.2.1, f.2.2.1, (if h : tkT = tkT then (if f.2.2.2.1 = b ∧ f.2.2.2.2.length = new.length then (f.2.2.2.1, castL h.symm new) else f.2.2.2) else f.2.2.2)) = _
  rw [dif_pos rfl]; rfl
theorem updF_other {b : Nat} {new : List Tk} {f : FlG} (h : b ∉ idF f ∨ new = []) : updF b new f = f := by
  obtain ⟨a, c, d, i, l⟩ := f
  unfold updF
  simp only
  split
  · rename_i hx
    obtain ⟨h1, h2⟩ := hx
    subst h1
    rcases h with h | h
    · have hl : l = [] := Classical.byContradiction fun hl => h (by unfold idF; simp [hl])
      subst hl
      have : new = [] := List.length_eq_zero_iff.1 h2.symm
      rw [this]
    · subst h
      have : l = [] := List.length_eq_zero_iff.1 h2
      rw [this]
  · rfl
theorem lensF {b n : Nat} {f : FlG} (h : f.2.2.2.1 = b → f.2.2.2.2 ≠ [] → f.2.2.2.2.length = n) : lensG b tkT n flG f := by
  refine ⟨trivial, trivial, trivial, ?_⟩
  show if tkT = tkT ∧ true = true then (f.2.2.2.1 = b → f.2.2.2.2 ≠ [] → f.2.2.2.2.length = n) else (f.2.2.2.1 = b → f.2.2.2.2 = [])
  rw [if_pos ⟨rfl, rfl⟩]
  exact h
theorem idF_of {f : FlG} (h : f.2.2.2.2 ≠ []) : idF f = [f.2.2.2.1] := by unfold idF; rw [if_neg h]
theorem v_L_markFlowS :
  ∀ (d : List (Int × Int × Int × Nat × List (Int × Int))) (k : Int), Ty.wf (Ty.sl flG) d → IntKind.min IntKind.i64 ≤ k ∧ k ≤ IntKind.max IntKind.i64 → List.Nodup (ids (Ty.sl flG) d) → True → (List.length (markF d k) =
  List.length d ∧ idsL flG (markF d k) = idsL flG d) ∧ ((0 : Nat) ≤ List.length d ∧ k = endF (List.take (0 : Nat) d) k) ∧ ((k = k ∧ (0 : Int) = (↑(0 : Nat) : Int)) ∧ d = markF (List.take (0 : Nat) d) k ++ List.drop (0 :
  Nat) d) ∧ ∀ (x : Nat × Int), Prod.fst x ≤ List.length d ∧ Prod.snd x = endF (List.take (Prod.fst x) d) k → (decide ((↑(Prod.fst x) : Int) < (↑(List.length (markF (List.take (Prod.fst x) d) k ++ List.drop (Prod.fst x)
  d)) : Int)) = true → ((0 : Int) ≤ (↑(Prod.fst x) : Int) ∧ (↑(Prod.fst x) : Int) < (↑(List.length (markF (List.take (Prod.fst x) d) k ++ List.drop (Prod.fst x) d)) : Int)) ∧ (∃ (x' : Unit), True ∧ (IntKind.wrap
  IntKind.i64 (Prod.snd x + (1 : Int)) = w64 (Prod.snd x + (1 : Int)) ∧ (↑(Prod.fst x) : Int) = (↑(Prod.fst x) : Int)) ∧ List.set (markF (List.take (Prod.fst x) d) k ++ List.drop (Prod.fst x) d) (Int.toNat (↑(Prod.fst x)
  : Int)) (Prod.snd x, Prod.snd (List.getD (markF (List.take (Prod.fst x) d) k ++ List.drop (Prod.fst x) d) (Int.toNat (↑(Prod.fst x) : Int)) ((0 : Int), (0 : Int), (0 : Int), (0 : Nat), []))) = markF (List.take
  (Prod.fst x) d) k ++ (Prod.snd x, Prod.snd (List.getD d (Prod.fst x) fg0)) :: List.drop (Prod.fst x + (1 : Nat)) d) ∧ ∀ (x_1 : Unit), True → ((0 : Int) ≤ (↑(Prod.fst x) : Int) ∧ (↑(Prod.fst x) : Int) < (↑(List.length
  (markF (List.take (Prod.fst x) d) k ++ (Prod.snd x, Prod.snd (List.getD d (Prod.fst x) fg0)) :: List.drop (Prod.fst x + (1 : Nat)) d)) : Int)) ∧ (∃ (x' : Unit), True ∧ (IntKind.wrap IntKind.i64 (w64 (Prod.snd x + (1 :
  Int)) + (1 : Int)) = w64 (w64 (Prod.snd x + (1 : Int)) + (1 : Int)) ∧ (↑(Prod.fst x) : Int) = (↑(Prod.fst x) : Int)) ∧ List.set (markF (List.take (Prod.fst x) d) k ++ (Prod.snd x, Prod.snd (List.getD d (Prod.fst x)
  fg0)) :: List.drop (Prod.fst x + (1 : Nat)) d) (Int.toNat (↑(Prod.fst x) : Int)) (Prod.fst (List.getD (markF (List.take (Prod.fst x) d) k ++ (Prod.snd x, Prod.snd (List.getD d (Prod.fst x) fg0)) :: List.drop (Prod.fst
  x + (1 : Nat)) d) (Int.toNat (↑(Prod.fst x) : Int)) ((0 : Int), (0 : Int), (0 : Int), (0 : Nat), [])), w64 (Prod.snd x + (1 : Int)), Prod.snd (Prod.snd (List.getD (markF (List.take (Prod.fst x) d) k ++ (Prod.snd x,
  Prod.snd (List.getD d (Prod.fst x) fg0)) :: List.drop (Prod.fst x + (1 : Nat)) d) (Int.toNat (↑(Prod.fst x) : Int)) ((0 : Int), (0 : Int), (0 : Int), (0 : Nat), [])))) = markF (List.take (Prod.fst x) d) k ++ (Prod.snd
  x, w64 (Prod.snd x + (1 : Int)), Prod.snd (Prod.snd (List.getD d (Prod.fst x) fg0))) :: List.drop (Prod.fst x + (1 : Nat)) d) ∧ ∀ (x_2 : Unit), True → ((0 : Int) ≤ (↑(Prod.fst x) : Int) ∧ (↑(Prod.fst x) : Int) <
  (↑(List.length (markF (List.take (Prod.fst x) d) k ++ (Prod.snd x, w64 (Prod.snd x + (1 : Int)), Prod.snd (Prod.snd (List.getD d (Prod.fst x) fg0))) :: List.drop (Prod.fst x + (1 : Nat)) d)) : Int)) ∧ (∃ (x' : Unit),
  True ∧ (IntKind.wrap IntKind.i64 (w64 (w64 (Prod.snd x + (1 : Int)) + (1 : Int)) + (1 : Int)) = n3 (Prod.snd x) ∧ (↑(Prod.fst x) : Int) = (↑(Prod.fst x) : Int)) ∧ List.set (markF (List.take (Prod.fst x) d) k ++
  (Prod.snd x, w64 (Prod.snd x + (1 : Int)), Prod.snd (Prod.snd (List.getD d (Prod.fst x) fg0))) :: List.drop (Prod.fst x + (1 : Nat)) d) (Int.toNat (↑(Prod.fst x) : Int)) (Prod.fst (List.getD (markF (List.take (Prod.fst
  x) d) k ++ (Prod.snd x, w64 (Prod.snd x + (1 : Int)), Prod.snd (Prod.snd (List.getD d (Prod.fst x) fg0))) :: List.drop (Prod.fst x + (1 : Nat)) d) (Int.toNat (↑(Prod.fst x) : Int)) ((0 : Int), (0 : Int), (0 : Int), (0
  : Nat), [])), Prod.fst (Prod.snd (List.getD (markF (List.take (Prod.fst x) d) k ++ (Prod.snd x, w64 (Prod.snd x + (1 : Int)), Prod.snd (Prod.snd (List.getD d (Prod.fst x) fg0))) :: List.drop (Prod.fst x + (1 : Nat)) d)
  (Int.toNat (↑(Prod.fst x) : Int)) ((0 : Int), (0 : Int), (0 : Int), (0 : Nat), []))), w64 (w64 (Prod.snd x + (1 : Int)) + (1 : Int)), Prod.snd (Prod.snd (Prod.snd (List.getD (markF (List.take (Prod.fst x) d) k ++
  (Prod.snd x, w64 (Prod.snd x + (1 : Int)), Prod.snd (Prod.snd (List.getD d (Prod.fst x) fg0))) :: List.drop (Prod.fst x + (1 : Nat)) d) (Int.toNat (↑(Prod.fst x) : Int)) ((0 : Int), (0 : Int), (0 : Int), (0 : Nat),
  []))))) = markF (List.take (Prod.fst x) d) k ++ (Prod.snd x, w64 (Prod.snd x + (1 : Int)), w64 (w64 (Prod.snd x + (1 : Int)) + (1 : Int)), Prod.snd (Prod.snd (Prod.snd (List.getD d (Prod.fst x) fg0)))) :: List.drop
  (Prod.fst x + (1 : Nat)) d) ∧ ∀ (x_3 : Unit), True → ((0 : Int) ≤ (↑(Prod.fst x) : Int) ∧ (↑(Prod.fst x) : Int) < (↑(List.length (markF (List.take (Prod.fst x) d) k ++ (Prod.snd x, w64 (Prod.snd x + (1 : Int)), w64
  (w64 (Prod.snd x + (1 : Int)) + (1 : Int)), Prod.snd (Prod.snd (Prod.snd (List.getD d (Prod.fst x) fg0)))) :: List.drop (Prod.fst x + (1 : Nat)) d)) : Int)) ∧ True ∧ List.length (mark2 (Prod.snd (Prod.snd (Prod.snd
  (Prod.snd (List.getD (markF (List.take (Prod.fst x) d) k ++ (Prod.snd x, w64 (Prod.snd x + (1 : Int)), w64 (w64 (Prod.snd x + (1 : Int)) + (1 : Int)), Prod.snd (Prod.snd (Prod.snd (List.getD d (Prod.fst x) fg0)))) ::
  List.drop (Prod.fst x + (1 : Nat)) d) (Int.toNat (↑(Prod.fst x) : Int)) ((0 : Int), (0 : Int), (0 : Int), (0 : Nat), [])))))) (n3 (Prod.snd x))) = List.length (Prod.snd (Prod.snd (Prod.snd (Prod.snd (List.getD (markF
  (List.take (Prod.fst x) d) k ++ (Prod.snd x, w64 (Prod.snd x + (1 : Int)), w64 (w64 (Prod.snd x + (1 : Int)) + (1 : Int)), Prod.snd (Prod.snd (Prod.snd (List.getD d (Prod.fst x) fg0)))) :: List.drop (Prod.fst x + (1 :
  Nat)) d) (Int.toNat (↑(Prod.fst x) : Int)) ((0 : Int), (0 : Int), (0 : Int), (0 : Nat), [])))))) ∧ (Prod.snd (Prod.snd (Prod.snd (Prod.snd (List.getD (markF (List.take (Prod.fst x) d) k ++ (Prod.snd x, w64 (Prod.snd x
  + (1 : Int)), w64 (w64 (Prod.snd x + (1 : Int)) + (1 : Int)), Prod.snd (Prod.snd (Prod.snd (List.getD d (Prod.fst x) fg0)))) :: List.drop (Prod.fst x + (1 : Nat)) d) (Int.toNat (↑(Prod.fst x) : Int)) ((0 : Int), (0 :
  Int), (0 : Int), (0 : Nat), []))))) ≠ [] → Prod.fst (Prod.snd (Prod.snd (Prod.snd (List.getD (markF (List.take (Prod.fst x) d) k ++ (Prod.snd x, w64 (Prod.snd x + (1 : Int)), w64 (w64 (Prod.snd x + (1 : Int)) + (1 :
  Int)), Prod.snd (Prod.snd (Prod.snd (List.getD d (Prod.fst x) fg0)))) :: List.drop (Prod.fst x + (1 : Nat)) d) (Int.toNat (↑(Prod.fst x) : Int)) ((0 : Int), (0 : Int), (0 : Int), (0 : Nat), []))))) ∈ idsL flG (markF
  (List.take (Prod.fst x) d) k ++ (Prod.snd x, w64 (Prod.snd x + (1 : Int)), w64 (w64 (Prod.snd x + (1 : Int)) + (1 : Int)), Prod.snd (Prod.snd (Prod.snd (List.getD d (Prod.fst x) fg0)))) :: List.drop (Prod.fst x + (1 :
  Nat)) d) ∧ (∀ (x_4 : Int × Int × Int × Nat × List (Int × Int)), x_4 ∈ markF (List.take (Prod.fst x) d) k ++ (Prod.snd x, w64 (Prod.snd x + (1 : Int)), w64 (w64 (Prod.snd x + (1 : Int)) + (1 : Int)), Prod.snd (Prod.snd
  (Prod.snd (List.getD d (Prod.fst x) fg0)))) :: List.drop (Prod.fst x + (1 : Nat)) d → lensG (Prod.fst (Prod.snd (Prod.snd (Prod.snd (List.getD (markF (List.take (Prod.fst x) d) k ++ (Prod.snd x, w64 (Prod.snd x + (1 :
  Int)), w64 (w64 (Prod.snd x + (1 : Int)) + (1 : Int)), Prod.snd (Prod.snd (Prod.snd (List.getD d (Prod.fst x) fg0)))) :: List.drop (Prod.fst x + (1 : Nat)) d) (Int.toNat (↑(Prod.fst x) : Int)) ((0 : Int), (0 : Int), (0
  : Int), (0 : Nat), [])))))) tkT (List.length (Prod.snd (Prod.snd (Prod.snd (Prod.snd (List.getD (markF (List.take (Prod.fst x) d) k ++ (Prod.snd x, w64 (Prod.snd x + (1 : Int)), w64 (w64 (Prod.snd x + (1 : Int)) + (1 :
  Int)), Prod.snd (Prod.snd (Prod.snd (List.getD d (Prod.fst x) fg0)))) :: List.drop (Prod.fst x + (1 : Nat)) d) (Int.toNat (↑(Prod.fst x) : Int)) ((0 : Int), (0 : Int), (0 : Int), (0 : Nat), []))))))) flG x_4) ∧ True) ∧
  (Prod.snd (Prod.snd (Prod.snd (Prod.snd (List.getD (markF (List.take (Prod.fst x) d) k ++ (Prod.snd x, w64 (Prod.snd x + (1 : Int)), w64 (w64 (Prod.snd x + (1 : Int)) + (1 : Int)), Prod.snd (Prod.snd (Prod.snd
  (List.getD d (Prod.fst x) fg0)))) :: List.drop (Prod.fst x + (1 : Nat)) d) (Int.toNat (↑(Prod.fst x) : Int)) ((0 : Int), (0 : Int), (0 : Int), (0 : Nat), []))))) = [] → True) ∧ ∃ (x' : Nat × Int), (Prod.fst x' ≤
  List.length d ∧ Prod.snd x' = endF (List.take (Prod.fst x') d) k) ∧ List.length d - Prod.fst x' < List.length d - Prod.fst x ∧ (end2 (Prod.snd (Prod.snd (Prod.snd (Prod.snd (List.getD (markF (List.take (Prod.fst x) d)
  k ++ (Prod.snd x, w64 (Prod.snd x + (1 : Int)), w64 (w64 (Prod.snd x + (1 : Int)) + (1 : Int)), Prod.snd (Prod.snd (Prod.snd (List.getD d (Prod.fst x) fg0)))) :: List.drop (Prod.fst x + (1 : Nat)) d) (Int.toNat
  (↑(Prod.fst x) : Int)) ((0 : Int), (0 : Int), (0 : Int), (0 : Nat), [])))))) (n3 (Prod.snd x)) = Prod.snd x' ∧ IntKind.wrap IntKind.i64 ((↑(Prod.fst x) : Int) + (1 : Int)) = (↑(Prod.fst x') : Int)) ∧ List.map (updG
  (Prod.fst (Prod.snd (Prod.snd (Prod.snd (List.getD (markF (List.take (Prod.fst x) d) k ++ (Prod.snd x, w64 (Prod.snd x + (1 : Int)), w64 (w64 (Prod.snd x + (1 : Int)) + (1 : Int)), Prod.snd (Prod.snd (Prod.snd
  (List.getD d (Prod.fst x) fg0)))) :: List.drop (Prod.fst x + (1 : Nat)) d) (Int.toNat (↑(Prod.fst x) : Int)) ((0 : Int), (0 : Int), (0 : Int), (0 : Nat), [])))))) tkT (MC.G fL_markTicketSC (castL (Eq.refl tkT)
  (Prod.snd (Prod.snd (Prod.snd (Prod.snd (List.getD (markF (List.take (Prod.fst x) d) k ++ (Prod.snd x, w64 (Prod.snd x + (1 : Int)), w64 (w64 (Prod.snd x + (1 : Int)) + (1 : Int)), Prod.snd (Prod.snd (Prod.snd
  (List.getD d (Prod.fst x) fg0)))) :: List.drop (Prod.fst x + (1 : Nat)) d) (Int.toNat (↑(Prod.fst x) : Int)) ((0 : Int), (0 : Int), (0 : Int), (0 : Nat), []))))))) (n3 (Prod.snd x))) flG) (markF (List.take (Prod.fst x)
  d) k ++ (Prod.snd x, w64 (Prod.snd x + (1 : Int)), w64 (w64 (Prod.snd x + (1 : Int)) + (1 : Int)), Prod.snd (Prod.snd (Prod.snd (List.getD d (Prod.fst x) fg0)))) :: List.drop (Prod.fst x + (1 : Nat)) d) = markF
  (List.take (Prod.fst x') d) k ++ List.drop (Prod.fst x') d) ∧ (decide ((↑(Prod.fst x) : Int) < (↑(List.length (markF (List.take (Prod.fst x) d) k ++ List.drop (Prod.fst x) d)) : Int)) = false → Prod.snd x = endF d k ∧
  markF (List.take (Prod.fst x) d) k ++ List.drop (Prod.fst x) d = markF d k) := by
  intro d k hw hk hnd _
  have hl : d.length ≤ 9223372036854775807 := hw.1
  rw [idG2] at hnd
  have hG : ∀ (l : List Tk) (k : Int), MC.G fL_markTicketSC (castL (Eq.refl tkT) l) k = mark2 l k := fun _ _ => rfl
  simp only [Int.toNat_natCast, idG1, hG] at *
  refine ⟨⟨markF_len d k, markF_ids d k⟩, ⟨by omega, by simp [endF]⟩, by simp [markF], fun x ⟨h1, h2⟩ => ⟨fun h5 => ?_, fun h5 => ?_⟩⟩
  · obtain ⟨j, kk⟩ := x
    simp only at h1 h2 h5 ⊢
    have hA : (markF (d.take j) k).length = j := by rw [markF_len]; simp [Nat.min_eq_left h1]
    have h6 : j < d.length := by simp [hA] at h5; omega
    have hd : d.drop j = d.getD j fg0 :: d.drop (j + 1) := getD_drop_cons h6
    have hdl : (d.drop (j + 1)).length = d.length - (j + 1) := List.length_drop
    have hsplit : d = d.take j ++ d.getD j fg0 :: d.drop (j + 1) := by rw [← hd, List.take_append_drop]
    rw [hd]
    have hg : ∀ (A C : List FlG) (y : FlG), A.length = j → (A ++ y :: C).getD j ((0 : Int), (0 : Int), (0 : Int), (0 : Nat), ([] : List Tk)) = y := fun A C y h => getD_mid h
    generalize hA0 : markF (d.take j) k = A at *
    generalize hC0 : d.drop (j + 1) = C at *
    generalize hf0 : d.getD j fg0 = f at *
    have hAids : A.flatMap idF = (d.take j).flatMap idF := by rw [← hA0]; exact markF_ids _ _
    have hnd2 : (A.flatMap idF ++ (idF f ++ C.flatMap idF)).Nodup := by
      rw [hAids, ← List.flatMap_cons, ← List.flatMap_append, ← hsplit]; exact hnd
    have hlen : ∀ y : FlG, (A ++ y :: C).length = d.length := fun y => by rw [List.length_append, List.length_cons, hA, hdl]; omega
    simp only [getD_mid hA, set_mid hA, hg A C _ hA, hlen]
    have hb : (0 : Int) ≤ (j : Int) ∧ (j : Int) < (d.length : Int) := by omega
    refine ⟨hb, ⟨(), trivial, ⟨rfl, trivial⟩, trivial⟩, fun _ _ => ⟨hb, ⟨(), trivial, ⟨rfl, trivial⟩, trivial⟩, fun _ _ => ⟨hb, ⟨(), trivial, ⟨rfl, trivial⟩, trivial⟩, fun _ _ => ⟨hb, trivial, mark2_len _ _, fun hne => ⟨?_, fun y hy => ?_, trivial⟩, fun _ => trivial,
      (j + 1, nxF f kk), ⟨by simp only; omega, ?_⟩, by simp only; omega, ⟨rfl, ?_⟩, ?_⟩⟩⟩⟩
    · rw [List.flatMap_append, List.flatMap_cons]
      refine List.mem_append_right _ (List.mem_append_left _ ?_)
      rw [idF_of (by exact hne)]
      exact List.mem_singleton.2 rfl
    · refine lensF (fun h1 h2 => ?_)
      have hfi : f.2.2.2.1 ∈ idF f := by rw [idF_of hne]; exact List.mem_singleton.2 rfl
      have hyi : f.2.2.2.1 ∈ idF y := by rw [idF_of h2, h1]; exact List.mem_singleton.2 rfl
      rw [List.nodup_append, List.nodup_append] at hnd2
      rcases List.mem_append.1 hy with hy | hy
      · exact absurd rfl (hnd2.2.2 _ (List.mem_flatMap.2 ⟨y, hy, hyi⟩) _ (List.mem_append_left _ hfi))
      · rcases List.mem_cons.1 hy with rfl | hy
        · rfl
        · exact absurd rfl (hnd2.2.1.2.2 _ hfi _ (List.mem_flatMap.2 ⟨y, hy, hyi⟩))
    · have : d.take (j + 1) = d.take j ++ [f] := by rw [List.take_succ_eq_append_getElem h6, ← hf0]; simp [h6]
      show nxF f kk = endF (d.take (j + 1)) k
      rw [this, endF_snoc, ← h2]
    · rw [wrap_succ (by omega)]
    · show List.map _ _ = markF (d.take (j + 1)) k ++ d.drop (j + 1)
      have : d.take (j + 1) = d.take j ++ [f] := by rw [List.take_succ_eq_append_getElem h6, ← hf0]; simp [h6]
      rw [this, markF_snoc, hA0, hC0, ← h2, List.append_assoc, List.map_append, List.map_cons]
      have hfi : ∀ hne : f.2.2.2.2 ≠ [], f.2.2.2.1 ∈ idF f := fun hne => by rw [idF_of hne]; exact List.mem_singleton.2 rfl
      rw [List.nodup_append, List.nodup_append] at hnd2
      have hother : ∀ y : FlG, (y ∈ A ∨ y ∈ C) → updG f.2.2.2.1 tkT (mark2 f.2.2.2.2 (n3 kk)) flG y = y := by
        intro y hy
        rw [updF_eq]
        refine updF_other ?_
        by_cases hne : f.2.2.2.2 = []
        · right
          have := mark2_len f.2.2.2.2 (n3 kk)
          rw [hne] at this
          exact List.length_eq_zero_iff.1 (by rw [hne]; exact this)
        · left
          intro hyi
          rcases hy with hy | hy
          · exact hnd2.2.2 _ (List.mem_flatMap.2 ⟨y, hy, hyi⟩) _ (List.mem_append_left _ (hfi hne)) rfl
          · exact hnd2.2.1.2.2 _ (hfi hne) _ (List.mem_flatMap.2 ⟨y, hy, hyi⟩) rfl
      rw [List.map_congr_left (g := id) (fun y hy => hother y (.inl hy)), List.map_congr_left (l := C) (g := id) (fun y hy => hother y (.inr hy)), List.map_id, List.map_id, updF_eq]
      show A ++ updF _ _ _ :: C = A ++ ([_] ++ C)
      unfold updF elF
      simp [mark2_len]
  · have h6 : x.1 = d.length := by
      have hA : (markF (d.take x.1) k ++ d.drop x.1).length = d.length := by rw [List.length_append, markF_len]; simp; omega
      rw [hA] at h5
      simp at h5; omega
    rw [h6, List.take_length] at h2
    rw [h6, List.take_length, List.drop_length, List.append_nil]
    exact ⟨h2, rfl⟩
theorem v_L_markRing :
  ∀ (d : List (Int × Int × Int × Nat × List (Int × Int)) × Int × Bool) (k : Int), Ty.wf ringG d → IntKind.min IntKind.i64 ≤ k ∧ k ≤ IntKind.max IntKind.i64 → List.Nodup (ids ringG d) → True → (List.length (markF
  (Prod.fst d) k) = List.length (Prod.fst d) ∧ idsL flG (markF (Prod.fst d) k) = idsL flG (Prod.fst d)) ∧ True ∧ List.Nodup (ids (Ty.sl flG) (Prod.fst d)) ∧ True ∧ endF (Prod.fst d) k = endF (Prod.fst d) k ∧ markF
  (Prod.fst d) k = markF (Prod.fst d) k := by
  intro d k hw hk hnd _
  rw [idG3] at hnd
  simp only [idG1, idG2]
  exact ⟨⟨markF_len _ _, markF_ids _ _⟩, trivial, hnd, trivial, trivial, trivial⟩
theorem okF_iff {f : Fl} {k : Int} : okF f k = true ↔ f.1 = k ∧ f.2.1 = w64 (k + 1) ∧ f.2.2.1 = w64 (w64 (k + 1) + 1) := by unfold okF; exact decide_eq_true_iff
theorem v_L_heldFlowS :
  ∀ (d : List (Int × Int × Int × List (Int × Int)) × Int), Ty.wf (Ty.sl flT) (Prod.fst d) ∧ Ty.wf i64T (Prod.snd d) → True → ((0 : Nat) ≤ List.length (Prod.fst d) ∧ heldF (List.drop (0 : Nat) (Prod.fst d)) (Prod.snd d) =
  heldF (Prod.fst d) (Prod.snd d)) ∧ (Prod.fst d = Prod.fst d ∧ Prod.snd d = Prod.snd d ∧ (0 : Int) = (↑(0 : Nat) : Int)) ∧ ∀ (x : Nat × Int), Prod.fst x ≤ List.length (Prod.fst d) ∧ heldF (List.drop (Prod.fst x)
  (Prod.fst d)) (Prod.snd x) = heldF (Prod.fst d) (Prod.snd d) → (decide ((↑(Prod.fst x) : Int) < (↑(List.length (Prod.fst d)) : Int)) = true → ((0 : Int) ≤ (↑(Prod.fst x) : Int) ∧ (↑(Prod.fst x) : Int) < (↑(List.length
  (Prod.fst d)) : Int)) ∧ ((!decide (Prod.fst (List.getD (Prod.fst d) (Int.toNat (↑(Prod.fst x) : Int)) ((0 : Int), (0 : Int), (0 : Int), [])) = Prod.snd x)) = true → (-1 : Int) = heldF (Prod.fst d) (Prod.snd d)) ∧
  ((!decide (Prod.fst (List.getD (Prod.fst d) (Int.toNat (↑(Prod.fst x) : Int)) ((0 : Int), (0 : Int), (0 : Int), [])) = Prod.snd x)) = false → ((0 : Int) ≤ (↑(Prod.fst x) : Int) ∧ (↑(Prod.fst x) : Int) < (↑(List.length
  (Prod.fst d)) : Int)) ∧ ((!decide (Prod.fst (Prod.snd (List.getD (Prod.fst d) (Int.toNat (↑(Prod.fst x) : Int)) ((0 : Int), (0 : Int), (0 : Int), []))) = IntKind.wrap IntKind.i64 (Prod.snd x + (1 : Int)))) = true → (-1
  : Int) = heldF (Prod.fst d) (Prod.snd d)) ∧ ((!decide (Prod.fst (Prod.snd (List.getD (Prod.fst d) (Int.toNat (↑(Prod.fst x) : Int)) ((0 : Int), (0 : Int), (0 : Int), []))) = IntKind.wrap IntKind.i64 (Prod.snd x + (1 :
  Int)))) = false → ((0 : Int) ≤ (↑(Prod.fst x) : Int) ∧ (↑(Prod.fst x) : Int) < (↑(List.length (Prod.fst d)) : Int)) ∧ ((!decide (Prod.fst (Prod.snd (Prod.snd (List.getD (Prod.fst d) (Int.toNat (↑(Prod.fst x) : Int))
  ((0 : Int), (0 : Int), (0 : Int), [])))) = IntKind.wrap IntKind.i64 (IntKind.wrap IntKind.i64 (Prod.snd x + (1 : Int)) + (1 : Int)))) = true → (-1 : Int) = heldF (Prod.fst d) (Prod.snd d)) ∧ ((!decide (Prod.fst
  (Prod.snd (Prod.snd (List.getD (Prod.fst d) (Int.toNat (↑(Prod.fst x) : Int)) ((0 : Int), (0 : Int), (0 : Int), [])))) = IntKind.wrap IntKind.i64 (IntKind.wrap IntKind.i64 (Prod.snd x + (1 : Int)) + (1 : Int)))) =
  false → ((0 : Int) ≤ (↑(Prod.fst x) : Int) ∧ (↑(Prod.fst x) : Int) < (↑(List.length (Prod.fst d)) : Int)) ∧ True ∧ (Ty.wf i64T (held2 (Prod.snd (Prod.snd (Prod.snd (List.getD (Prod.fst d) (Int.toNat (↑(Prod.fst x) :
  Int)) ((0 : Int), (0 : Int), (0 : Int), []))))) (IntKind.wrap IntKind.i64 (IntKind.wrap IntKind.i64 (IntKind.wrap IntKind.i64 (Prod.snd x + (1 : Int)) + (1 : Int)) + (1 : Int)))) → (decide (held2 (Prod.snd (Prod.snd
  (Prod.snd (List.getD (Prod.fst d) (Int.toNat (↑(Prod.fst x) : Int)) ((0 : Int), (0 : Int), (0 : Int), []))))) (IntKind.wrap IntKind.i64 (IntKind.wrap IntKind.i64 (IntKind.wrap IntKind.i64 (Prod.snd x + (1 : Int)) + (1
  : Int)) + (1 : Int))) < (0 : Int)) = true → (-1 : Int) = heldF (Prod.fst d) (Prod.snd d)) ∧ (decide (held2 (Prod.snd (Prod.snd (Prod.snd (List.getD (Prod.fst d) (Int.toNat (↑(Prod.fst x) : Int)) ((0 : Int), (0 : Int),
  (0 : Int), []))))) (IntKind.wrap IntKind.i64 (IntKind.wrap IntKind.i64 (IntKind.wrap IntKind.i64 (Prod.snd x + (1 : Int)) + (1 : Int)) + (1 : Int))) < (0 : Int)) = false → ∃ (x' : Nat × Int), (Prod.fst x' ≤ List.length
  (Prod.fst d) ∧ heldF (List.drop (Prod.fst x') (Prod.fst d)) (Prod.snd x') = heldF (Prod.fst d) (Prod.snd d)) ∧ List.length (Prod.fst d) - Prod.fst x' < List.length (Prod.fst d) - Prod.fst x ∧ Prod.fst d = Prod.fst d ∧
  held2 (Prod.snd (Prod.snd (Prod.snd (List.getD (Prod.fst d) (Int.toNat (↑(Prod.fst x) : Int)) ((0 : Int), (0 : Int), (0 : Int), []))))) (IntKind.wrap IntKind.i64 (IntKind.wrap IntKind.i64 (IntKind.wrap IntKind.i64
  (Prod.snd x + (1 : Int)) + (1 : Int)) + (1 : Int))) = Prod.snd x' ∧ IntKind.wrap IntKind.i64 ((↑(Prod.fst x) : Int) + (1 : Int)) = (↑(Prod.fst x') : Int))))))) ∧ (decide ((↑(Prod.fst x) : Int) < (↑(List.length
  (Prod.fst d)) : Int)) = false → Prod.snd x = heldF (Prod.fst d) (Prod.snd d)) := by
  intro d hw _
  obtain ⟨xs, k⟩ := d
  have hl : xs.length ≤ 9223372036854775807 := hw.1.1
  simp only [Int.toNat_natCast] at *
  refine ⟨⟨by omega, by simp⟩, by simp, fun x ⟨h1, h2⟩ => ⟨fun h3 => ?_, fun h3 => ?_⟩⟩
  · have h4 : x.1 < xs.length := by simpa using h3
    rw [getD_drop_cons (x := ((0 : Int), (0 : Int), (0 : Int), [])) h4, heldF] at h2
    rw [wrap_succ (by omega)]
    have hb : (0 : Int) ≤ (x.1 : Int) ∧ (x.1 : Int) < (xs.length : Int) := by omega
    have nt : ∀ {p : Prop} [Decidable p], (!decide p) = true → ¬ p := fun h => of_decide_eq_false (by rw [Bool.not_eq_true'] at h; exact h)
    have nf : ∀ {p : Prop} [Decidable p], (!decide p) = false → p := fun h => of_decide_eq_true (by rw [Bool.not_eq_false'] at h; exact h)
    refine ⟨hb, fun h5 => ?_, fun h5 => ⟨hb, fun h6 => ?_, fun h6 => ⟨hb, fun h7 => ?_, fun h7 => ⟨hb, trivial, fun _ => ⟨fun h8 => ?_, fun h8 => ⟨(x.1 + 1, held2 (xs.getD x.1 ((0 : Int), (0 : Int), (0 : Int), [])).2.2.2 (n3 x.2)), ⟨by simp only; omega, ?_⟩, by simp only; omega, trivial, rfl, rfl⟩⟩⟩⟩⟩⟩
    · rw [if_neg (fun h => nt h5 (okF_iff.1 h).1)] at h2; exact h2
    · rw [if_neg (fun h => nt h6 (okF_iff.1 h).2.1)] at h2; exact h2
    · rw [if_neg (fun h => nt h7 (okF_iff.1 h).2.2)] at h2; exact h2
    · replace h8 : held2 (xs.getD x.1 ((0 : Int), (0 : Int), (0 : Int), [])).2.2.2 (n3 x.2) < 0 := of_decide_eq_true h8
      rw [if_pos (okF_iff.2 ⟨nf h5, nf h6, nf h7⟩), if_pos h8] at h2; exact h2
    · replace h8 : ¬ held2 (xs.getD x.1 ((0 : Int), (0 : Int), (0 : Int), [])).2.2.2 (n3 x.2) < 0 := of_decide_eq_false h8
      rw [if_pos (okF_iff.2 ⟨nf h5, nf h6, nf h7⟩), if_neg h8] at h2
      exact h2
  · have h4 : x.1 = xs.length := by simp at h3; omega
    rw [h4, List.drop_length, heldF] at h2
    exact h2
theorem v_L_heldRing :
  ∀ (d : (List (Int × Int × Int × List (Int × Int)) × Int × Bool) × Int), Ty.wf ringT (Prod.fst d) ∧ Ty.wf i64T (Prod.snd d) → True → True ∧ (Ty.wf i64T (heldF (Prod.fst (Prod.fst d)) (Prod.snd d)) → (decide (heldF
  (Prod.fst (Prod.fst d)) (Prod.snd d) < (0 : Int)) = true → (-1 : Int) = neg1 (heldF (Prod.fst (Prod.fst d)) (Prod.snd d))) ∧ (decide (heldF (Prod.fst (Prod.fst d)) (Prod.snd d) < (0 : Int)) = false → heldF (Prod.fst
  (Prod.fst d)) (Prod.snd d) = neg1 (heldF (Prod.fst (Prod.fst d)) (Prod.snd d)))) := by
  intro d _ _
  unfold neg1
  grind
theorem getD_un (L : List FlG) (i : Nat) : (L.map unF).getD i fl0 = unF (L.getD i fg0) := by
  rw [List.getD_eq_getElem?_getD, List.getD_eq_getElem?_getD, List.getElem?_map]
  cases L[i]? <;> rfl
theorem len_un {L : List FlG} {xs : List Fl} (h : L.map unF = xs) : L.length = xs.length := by rw [← h, List.length_map]
theorem ringG_eq {r : List FlG × Int × Bool} {xs : List Fl} {y : Int × Bool} (h : unD ringG r = (xs, y)) : r.1.map unF = xs ∧ r.2 = y := by
  rw [unG2] at h
  injection h with h1 h2
  exact ⟨h1, by rw [← h2]⟩
theorem fidx_lt (t : Int) : ∀ (fs : List Fl) (k : Nat), 0 ≤ fidxGo t fs k → k ≤ (fidxGo t fs k).toNat ∧ (fidxGo t fs k).toNat < k + fs.length
  | [], k, h => by simp [fidxGo] at h
  | f :: fs, k, h => by
    unfold fidxGo at h ⊢
    split
    · simp
    · rename_i hf
      rw [if_neg hf] at h
      have := fidx_lt t fs (k + 1) h
      rw [List.length_cons]; omega
theorem ring_lines {fs : List Fl} {turn : Int} {fresh : Bool} (h : ringOkF fs turn fresh = true) : ∀ j, j < fs.length → lineOkF (fs.getD j fl0).2.2.2 = true := fun j hj =>
  (flow_iff.1 (((ring_iff.1 h).2 j hj).1)).2.2.1
theorem setLine_same {fs : List Fl} {j : Nat} (hj : j < fs.length) : setLine fs j (fs.getD j fl0).2.2.2 = fs := by
  unfold setLine
  have h : fs.getD j fl0 = fs[j] := by simp [hj]
  rw [h]
  exact List.set_getElem_self hj
theorem push_off {xs : List Tk} {t : Tk} (h : (ipushF xs t).2 = false) : (ipushF xs t).1 = xs := by
  unfold ipushF at h ⊢
  split at h
  · cases h
  · rename_i h2; rw [if_neg h2]
end Go.SF
