/- What is owed of the code of the functions on rings, their blocks told. No condition. -/
import Derived.Test.YtnjihkeflkemdaaSxC
import Derived.Test.YtnjihkeflkemdaaSxPRing
import Derived.Test.YtnjihkeflkemdaaSxPRing2
import Derived.Test.YtnjihkeflkemdaaSxPLine2
import Derived.Test.YtnjihkeflkemdaaSxPLine3
import Derived.Test.YtnjihkeflkemdaaSxPRingB
namespace Go.SF
open Go.SX Go
set_option linter.unusedVariables false
set_option linter.unusedSimpArgs false
set_option maxRecDepth 10000
theorem unTk (l : List Tk) : l.map (unD tkT) = l := by
  have : unD tkT = id := rfl
  rw [this]; exact List.map_id l
theorem unG0 (f : FlG) : unD flG f = unF f := by
  show (f.1, f.2.1, f.2.2.1, f.2.2.2.2.map (unD tkT)) = _
  rw [unTk]; rfl
theorem unG1 (L : List FlG) : unD (.sl flG) L = L.map unF := by
  show L.map (unD flG) = _
  congr 1
  funext f
  exact unG0 f
theorem unG2 (r : List FlG × Int × Bool) : unD ringG r = (r.1.map unF, r.2.1, r.2.2) := by
  show (unD (.sl flG) r.1, r.2.1, r.2.2) = _
  rw [unG1]; rfl
theorem idG0 (f : FlG) : ids flG f = idF f := by
  obtain ⟨a, b, c, i, l⟩ := f
  show [] ++ ([] ++ ([] ++ ids (.gs true tkT) (i, l))) = _
  rw [ids_gs, ids_noG (.sl tkT) rfl l |> fun q => (show idsL tkT l = [] from q)]
  cases l <;> simp [idF]
theorem rep_tell (n : Nat) : List.replicate n fg0 = List.map (tell0 flG) (List.replicate n (show flG.unG.den from ((0 : Int), (0 : Int), (0 : Int), []))) := by
  rw [List.map_replicate]; rfl
theorem idG1 (L : List FlG) : idsL flG L = L.flatMap idF := by
  unfold idsL
  congr 1
  funext f
  exact idG0 f
theorem idG2 (L : List FlG) : ids (.sl flG) L = L.flatMap idF := idG1 L
theorem idG3 (r : List FlG × Int × Bool) : ids ringG r = r.1.flatMap idF := by
  show ids (.sl flG) r.1 ++ ([] ++ []) = _
  rw [idG2]; simp
theorem idF_rep (n : Nat) : (List.replicate n fg0).flatMap idF = [] := by
  induction n with
  | zero => rfl
  | succ n ih => rw [List.replicate_succ, List.flatMap_cons, ih]; rfl
theorem idF_nodup (f : FlG) : (idF f).Nodup := by unfold idF; split <;> simp
theorem idF_get {L : List FlG} {i b : Nat} (h : b ∈ idF (L.getD i fg0)) : b ∈ L.flatMap idF := by
  rcases Nat.lt_or_ge i L.length with hi | hi
  · rw [List.getD_eq_getElem?_getD, List.getElem?_eq_getElem hi] at h
    exact List.mem_flatMap.2 ⟨_, List.getElem_mem hi, h⟩
  · rw [List.getD_eq_getElem?_getD, List.getElem?_eq_none hi] at h
    cases h
theorem nd_set {x : FlG} : ∀ {L : List FlG} {i : Nat}, (L.flatMap idF).Nodup → (∀ b ∈ idF x, b ∉ L.flatMap idF ∨ b ∈ idF (L.getD i fg0)) → ((L.set i x).flatMap idF).Nodup
  | [], i, h, _ => h
  | y :: r, 0, h, hx => by
    show ((x :: r).flatMap idF).Nodup
    rw [List.flatMap_cons, List.nodup_append] at h ⊢
    refine ⟨idF_nodup x, h.2.1, fun a ha b hb e => ?_⟩
    subst e
    rcases hx a ha with h1 | h1
    · exact h1 (List.mem_append_right _ hb)
    · exact h.2.2 a h1 a hb rfl
  | y :: r, i + 1, h, hx => by
    show ((y :: r.set i x).flatMap idF).Nodup
    rw [List.flatMap_cons, List.nodup_append] at h ⊢
    have hx' : ∀ b ∈ idF x, b ∉ r.flatMap idF ∨ b ∈ idF (r.getD i fg0) := by
      intro b hb
      rcases hx b hb with h1 | h1
      · exact .inl (fun h2 => h1 (List.mem_append_right _ h2))
      · exact .inr h1
    refine ⟨h.1, nd_set h.2.1 hx', fun a ha b hb e => ?_⟩
    subst e
    obtain ⟨z, hz, haz⟩ := List.mem_flatMap.1 hb
    rcases List.mem_or_eq_of_mem_set hz with hz | rfl
    · exact h.2.2 a ha a (List.mem_flatMap.2 ⟨z, hz, haz⟩) rfl
    · rcases hx a haz with h1 | h1
      · exact h1 (List.mem_append_left _ ha)
      · exact h.2.2 a ha a (idF_get h1) rfl
theorem nd_snoc {L : List FlG} {x : FlG} (h : (L.flatMap idF).Nodup) (hx : ∀ b ∈ idF x, b ∉ L.flatMap idF) : ((L ++ [x]).flatMap idF).Nodup := by
  rw [List.flatMap_append, List.nodup_append]
  refine ⟨h, by simpa using idF_nodup x, fun a ha b hb e => ?_⟩
  subst e
  exact hx a (by simpa using hb) ha
theorem idF_fresh {a c d : Int} {b : Nat} {l : List Tk} {K : List Nat} (hb : b ∉ K) : ∀ i ∈ idF (a, c, d, b, l), i ∉ K := by
  intro i hi
  unfold idF at hi
  split at hi
  · cases hi
  · rw [List.mem_singleton.1 hi]; exact hb
theorem take_un {L : List FlG} {xs : List Fl} {k : Nat} (h : L.map unF = xs.take k) (hk : k < xs.length) (b : Nat) :
    (L ++ [((xs.getD k fl0).1, (xs.getD k fl0).2.1, (xs.getD k fl0).2.2.1, b, (xs.getD k fl0).2.2.2)]).map unF = xs.take (k + 1) := by
  have h2 : xs.getD k fl0 = xs[k] := by simp [hk]
  rw [List.map_append, h, h2, List.take_succ_eq_append_getElem hk]
  rfl
theorem v_I_copyRingT :
  ∀ (d : List (Int × Int × Int × List (Int × Int)) × Int × Bool), Ty.wf ringT d → FlsP (Prod.fst d) → ((0 : Nat) ≤ List.length (Prod.fst d) ∧ List.map unF [] = List.take (0 : Nat) (Prod.fst d) ∧ List.Nodup (List.flatMap
  idF [])) ∧ (((Prod.fst d = Prod.fst d ∧ Prod.fst (Prod.snd d) = Prod.fst (Prod.snd d) ∧ Prod.snd (Prod.snd d) = Prod.snd (Prod.snd d)) ∧ Prod.fst (Prod.snd d) = Prod.fst (Prod.snd d) ∧ Prod.snd (Prod.snd d) = Prod.snd
  (Prod.snd d) ∧ (Value.slice none (0 : Nat) (0 : Nat) = Value.slice none (0 : Nat) (0 : Nat) ∧ Prod.fst (Prod.snd d) = Prod.fst (Prod.snd d) ∧ Prod.snd (Prod.snd d) = Prod.snd (Prod.snd d)) ∧ Prod.fst d = Prod.fst d ∧
  (↑(List.length (Prod.fst d)) : Int) = (↑(List.length (Prod.fst d)) : Int) ∧ (0 : Int) = (↑(0 : Nat) : Int)) ∧ (Prod.fst d = Prod.fst d ∧ Prod.fst (Prod.snd d) = Prod.fst (Prod.snd d) ∧ Prod.snd (Prod.snd d) = Prod.snd
  (Prod.snd d)) ∧ (Value.slice none (0 : Nat) (0 : Nat) = Value.slice none (0 : Nat) (0 : Nat) ∧ (0 : Int) = (0 : Int)) ∧ (Prod.fst (Prod.snd d) = Prod.fst (Prod.snd d) ∧ Prod.snd (Prod.snd d) = Prod.snd (Prod.snd d)) ∧
  ([] : List FlG) = []) ∧ ∀ (x : Nat × List (Int × Int × Int × Nat × List (Int × Int))), Prod.fst x ≤ List.length (Prod.fst d) ∧ List.map unF (Prod.snd x) = List.take (Prod.fst x) (Prod.fst d) ∧ List.Nodup (List.flatMap
  idF (Prod.snd x)) → (decide ((↑(Prod.fst x) : Int) < (↑(List.length (Prod.fst d)) : Int)) = true → ((0 : Int) ≤ (↑(Prod.fst x) : Int) ∧ (↑(Prod.fst x) : Int) < (↑(List.length (Prod.fst d)) : Int)) ∧ List.length
  (Prod.snd (Prod.snd (Prod.snd (List.getD (Prod.fst d) (Int.toNat (↑(Prod.fst x) : Int)) ((0 : Int), (0 : Int), (0 : Int), []))))) ≤ (1048576 : Nat) ∧ (Ty.wf lineT (Prod.snd (Prod.snd (Prod.snd (List.getD (Prod.fst d)
  (Int.toNat (↑(Prod.fst x) : Int)) ((0 : Int), (0 : Int), (0 : Int), []))))) → ∀ (b : Nat), ¬b ∈ idsL flG (Prod.snd x) → (List.length (Prod.snd x) + List.length [(Prod.fst (List.getD (Prod.fst d) (Int.toNat (↑(Prod.fst
  x) : Int)) ((0 : Int), (0 : Int), (0 : Int), [])), Prod.fst (Prod.snd (List.getD (Prod.fst d) (Int.toNat (↑(Prod.fst x) : Int)) ((0 : Int), (0 : Int), (0 : Int), []))), Prod.fst (Prod.snd (Prod.snd (List.getD (Prod.fst
  d) (Int.toNat (↑(Prod.fst x) : Int)) ((0 : Int), (0 : Int), (0 : Int), [])))), b, Prod.snd (Prod.snd (Prod.snd (List.getD (Prod.fst d) (Int.toNat (↑(Prod.fst x) : Int)) ((0 : Int), (0 : Int), (0 : Int), [])))))]) * (48
  : Nat) ≤ (140737488355328 : Nat) ∧ ∃ (x' : Nat × List (Int × Int × Int × Nat × List (Int × Int))), (Prod.fst x' ≤ List.length (Prod.fst d) ∧ List.map unF (Prod.snd x') = List.take (Prod.fst x') (Prod.fst d) ∧
  List.Nodup (List.flatMap idF (Prod.snd x'))) ∧ List.length (Prod.fst d) - Prod.fst x' < List.length (Prod.fst d) - Prod.fst x ∧ ((Prod.fst d = Prod.fst d ∧ Prod.fst (Prod.snd d) = Prod.fst (Prod.snd d) ∧ Prod.snd
  (Prod.snd d) = Prod.snd (Prod.snd d)) ∧ Prod.fst (Prod.snd d) = Prod.fst (Prod.snd d) ∧ Prod.snd (Prod.snd d) = Prod.snd (Prod.snd d) ∧ (Value.slice none (0 : Nat) (0 : Nat) = Value.slice none (0 : Nat) (0 : Nat) ∧
  Prod.fst (Prod.snd d) = Prod.fst (Prod.snd d) ∧ Prod.snd (Prod.snd d) = Prod.snd (Prod.snd d)) ∧ Prod.fst d = Prod.fst d ∧ (↑(List.length (Prod.fst d)) : Int) = (↑(List.length (Prod.fst d)) : Int) ∧ IntKind.wrap
  IntKind.i64 ((↑(Prod.fst x) : Int) + (1 : Int)) = (↑(Prod.fst x') : Int)) ∧ (Prod.fst d = Prod.fst d ∧ Prod.fst (Prod.snd d) = Prod.fst (Prod.snd d) ∧ Prod.snd (Prod.snd d) = Prod.snd (Prod.snd d)) ∧ (Value.slice none
  (0 : Nat) (0 : Nat) = Value.slice none (0 : Nat) (0 : Nat) ∧ (0 : Int) = (0 : Int)) ∧ (Prod.fst (Prod.snd d) = Prod.fst (Prod.snd d) ∧ Prod.snd (Prod.snd d) = Prod.snd (Prod.snd d)) ∧ Prod.snd x ++ [(Prod.fst
  (List.getD (Prod.fst d) (Int.toNat (↑(Prod.fst x) : Int)) ((0 : Int), (0 : Int), (0 : Int), [])), Prod.fst (Prod.snd (List.getD (Prod.fst d) (Int.toNat (↑(Prod.fst x) : Int)) ((0 : Int), (0 : Int), (0 : Int), []))),
  Prod.fst (Prod.snd (Prod.snd (List.getD (Prod.fst d) (Int.toNat (↑(Prod.fst x) : Int)) ((0 : Int), (0 : Int), (0 : Int), [])))), b, Prod.snd (Prod.snd (Prod.snd (List.getD (Prod.fst d) (Int.toNat (↑(Prod.fst x) : Int))
  ((0 : Int), (0 : Int), (0 : Int), [])))))] = Prod.snd x')) ∧ (decide ((↑(Prod.fst x) : Int) < (↑(List.length (Prod.fst d)) : Int)) = false → unD ringG (Prod.snd x, Prod.snd d) = d ∧ List.Nodup (ids ringG (Prod.snd x,
  Prod.snd d))) := by
  intro d hw hp
  obtain ⟨xs, tn, fr⟩ := d
  have hl : xs.length ≤ 9223372036854775807 := hw.1.1
  have hlen := hp.1
  simp only [Int.toNat_natCast] at *
  refine ⟨⟨by omega, by simp, by simp⟩, by simp, fun x ⟨h1, h3, h4⟩ => ⟨fun h5 => ?_, fun h5 => ?_⟩⟩
  · have h6 : x.1 < xs.length := by simpa using h5
    have h2 : x.2.length = x.1 := by have := congrArg List.length h3; simpa [Nat.min_eq_left h1] using this
    rw [wrap_succ (by omega)]
    refine ⟨⟨by omega, by omega⟩, ?_, fun _ b hb => ⟨?_, (x.1 + 1, x.2 ++ [((xs.getD x.1 fl0).1, (xs.getD x.1 fl0).2.1, (xs.getD x.1 fl0).2.2.1, b, (xs.getD x.1 fl0).2.2.2)]), ⟨by simp only; omega, take_un h3 h6 b, ?_⟩, by simp only; omega, by simp [fl0]⟩⟩
    · refine hp.2 _ ?_
      rw [List.getD_eq_getElem?_getD, List.getElem?_eq_getElem h6]
      exact List.getElem_mem h6
    · simp; omega
    · rw [idG1] at hb
      exact nd_snoc h4 (idF_fresh hb)
  · have h6 : x.1 = xs.length := by simp at h5; omega
    rw [unG2, idG3]
    rw [h6, List.take_length] at h3
    exact ⟨by simp only; rw [h3], h4⟩
theorem getD_mid {α : Type} {A C : List α} {y z : α} {j : Nat} (h : A.length = j) : (A ++ y :: C).getD j z = y := by
  subst h
  simp [List.getD_eq_getElem?_getD]
theorem set_mid {α : Type} {A C : List α} {y y' : α} {j : Nat} (h : A.length = j) : (A ++ y :: C).set j y' = A ++ y' :: C := by
  subst h
  rw [List.set_append_right _ _ (Nat.le_refl _)]
  simp
theorem mark2_len : ∀ (l : List Tk) (k : Int), (mark2 l k).length = l.length := fun l k => mkGo_length _ _ l k
theorem idF_el (f : FlG) (k : Int) : idF (elF f k) = idF f := by
  obtain ⟨a, b, c, i, l⟩ := f
  unfold idF elF
  have := mark2_len l (n3 k)
  cases l with
  | nil => rfl
  | cons t r =>
    cases hx : mark2 (t :: r) (n3 k) with
    | nil => rw [hx] at this; cases this
    | cons u s => simp
theorem markF_len : ∀ (L : List FlG) (k : Int), (markF L k).length = L.length
  | [], _ => rfl
  | f :: L, k => by show (elF f k :: markF L (nxF f k)).length = _; simp [markF_len L]
theorem markF_ids : ∀ (L : List FlG) (k : Int), (markF L k).flatMap idF = L.flatMap idF
  | [], _ => rfl
  | f :: L, k => by show (elF f k :: markF L (nxF f k)).flatMap idF = _; rw [List.flatMap_cons, List.flatMap_cons, idF_el, markF_ids L]
theorem markF_snoc : ∀ (L : List FlG) (f : FlG) (k : Int), markF (L ++ [f]) k = markF L k ++ [elF f (endF L k)]
  | [], f, k => rfl
  | g :: L, f, k => by show elF g k :: markF (L ++ [f]) (nxF g k) = elF g k :: (markF L (nxF g k) ++ _); rw [markF_snoc L]; rfl
theorem endF_snoc : ∀ (L : List FlG) (f : FlG) (k : Int), endF (L ++ [f]) k = nxF f (endF L k)
  | [], f, k => rfl
  | g :: L, f, k => endF_snoc L f (nxF g k)
def updF (b : Nat) (new : List Tk) (f : FlG) : FlG := (f.1, f.2.1, f.2.2.1, if f.2.2.2.1 = b ∧ f.2.2.2.2.length = new.length then (f.2.2.2.1, new) else f.2.2.2)
theorem updF_eq (b : Nat) (new : List Tk) (f : FlG) : updG b tkT new flG f = updF b new f := by
  show (f.1, f.2.1, f.2.2.1, (if h : tkT = tkT then (if f.2.2.2.1 = b ∧ f.2.2.2.2.length = new.length then (f.2.2.2.1, castL h.symm new) else f.2.2.2) else f.2.2.2)) = _
  rw [dif_pos rfl]; rfl
theorem updF_other {b : Nat} {new : List Tk} {f : FlG} (h : b ∉ idF f ∨ new = []) : updF b new f = f := by
  obtain ⟨a, c, d, i, l⟩ := f
  unfold updF
  simp only
  split
  · rename_i hx
    obtain ⟨h1, h2⟩ := hx
    subst h1
    rcases h with h | h
    · have hl : l = [] := Classical.byContradiction fun hl => h (by unfold idF; simp [hl])
      subst hl
      have : new = [] := List.length_eq_zero_iff.1 h2.symm
      rw [this]
    · subst h
      have : l = [] := List.length_eq_zero_iff.1 h2
      rw [this]
  · rfl
theorem lensF {b n : Nat} {f : FlG} (h : f.2.2.2.1 = b → f.2.2.2.2 ≠ [] → f.2.2.2.2.length = n) : lensG b tkT n flG f := by
  refine ⟨trivial, trivial, trivial, ?_⟩
  show if tkT = tkT ∧ true = true then (f.2.2.2.1 = b → f.2.2.2.2 ≠ [] → f.2.2.2.2.length = n) else (f.2.2.2.1 = b → f.2.2.2.2 = [])
  rw [if_pos ⟨rfl, rfl⟩]
  exact h
theorem idF_of {f : FlG} (h : f.2.2.2.2 ≠ []) : idF f = [f.2.2.2.1] := by unfold idF; rw [if_neg h]
theorem okF_iff {f : Fl} {k : Int} : okF f k = true ↔ f.1 = k ∧ f.2.1 = w64 (k + 1) ∧ f.2.2.1 = w64 (w64 (k + 1) + 1) := by unfold okF; exact decide_eq_true_iff
theorem getD_un (L : List FlG) (i : Nat) : (L.map unF).getD i fl0 = unF (L.getD i fg0) := by
  rw [List.getD_eq_getElem?_getD, List.getD_eq_getElem?_getD, List.getElem?_map]
  cases L[i]? <;> rfl
theorem len_un {L : List FlG} {xs : List Fl} (h : L.map unF = xs) : L.length = xs.length := by rw [← h, List.length_map]
theorem ringG_eq {r : List FlG × Int × Bool} {xs : List Fl} {y : Int × Bool} (h : unD ringG r = (xs, y)) : r.1.map unF = xs ∧ r.2 = y := by
  rw [unG2] at h
  injection h with h1 h2
  exact ⟨h1, by rw [← h2]⟩
theorem fidx_lt (t : Int) : ∀ (fs : List Fl) (k : Nat), 0 ≤ fidxGo t fs k → k ≤ (fidxGo t fs k).toNat ∧ (fidxGo t fs k).toNat < k + fs.length
  | [], k, h => by simp [fidxGo] at h
  | f :: fs, k, h => by
    unfold fidxGo at h ⊢
    split
    · simp
    · rename_i hf
      rw [if_neg hf] at h
      have := fidx_lt t fs (k + 1) h
      rw [List.length_cons]; omega
theorem v_I_PushTicketT :
  ∀ (d : (List (Int × Int × Int × List (Int × Int)) × Int × Bool) × Int × Int × Int), Ty.wf ringT (Prod.fst d) ∧ Ty.wf i64T (Prod.fst (Prod.snd d)) ∧ Ty.wf tkT (Prod.snd (Prod.snd d)) → FlsP (Prod.fst (Prod.fst d)) →
  FlsP (Prod.fst (Prod.fst d)) ∧ ∀ (r : List (Int × Int × Int × Nat × List (Int × Int)) × Int × Bool), unD ringG r = Prod.fst d → List.Nodup (ids ringG r) → Ty.wf ringG r → True → True ∧ (Ty.wf i64T (fidxGo (Prod.fst
  (Prod.snd d)) (Prod.fst (Prod.fst d)) (0 : Nat)) → True ∧ ((!ringOkF (Prod.fst (Prod.fst d)) (Prod.fst (Prod.snd (Prod.fst d))) (Prod.snd (Prod.snd (Prod.fst d)))) = true → (unD ringG r, unD Ty.bool false) = pushTkF
  (Prod.fst d) (Prod.fst (Prod.snd d)) (Prod.snd (Prod.snd d)) ∧ List.Nodup (ids ringG r ++ ids Ty.bool false)) ∧ ((!ringOkF (Prod.fst (Prod.fst d)) (Prod.fst (Prod.snd (Prod.fst d))) (Prod.snd (Prod.snd (Prod.fst d))))
  = false → (decide (fidxGo (Prod.fst (Prod.snd d)) (Prod.fst (Prod.fst d)) (0 : Nat) < (0 : Int)) = true → (unD ringG r, unD Ty.bool false) = pushTkF (Prod.fst d) (Prod.fst (Prod.snd d)) (Prod.snd (Prod.snd d)) ∧
  List.Nodup (ids ringG r ++ ids Ty.bool false)) ∧ (decide (fidxGo (Prod.fst (Prod.snd d)) (Prod.fst (Prod.fst d)) (0 : Nat) < (0 : Int)) = false → ((0 : Int) ≤ fidxGo (Prod.fst (Prod.snd d)) (Prod.fst (Prod.fst d)) (0 :
  Nat) ∧ fidxGo (Prod.fst (Prod.snd d)) (Prod.fst (Prod.fst d)) (0 : Nat) < (↑(List.length (Prod.fst (Prod.fst d))) : Int)) ∧ List.length (Prod.snd (Prod.snd (Prod.snd (List.getD (Prod.fst (Prod.fst d)) (Int.toNat
  (fidxGo (Prod.fst (Prod.snd d)) (Prod.fst (Prod.fst d)) (0 : Nat))) ((0 : Int), (0 : Int), (0 : Int), []))))) ≤ (1048576 : Nat) ∧ (Ty.wf lineT (Prod.fst (ipushF (Prod.snd (Prod.snd (Prod.snd (List.getD (Prod.fst
  (Prod.fst d)) (Int.toNat (fidxGo (Prod.fst (Prod.snd d)) (Prod.fst (Prod.fst d)) (0 : Nat))) ((0 : Int), (0 : Int), (0 : Int), []))))) (Prod.snd (Prod.snd d)))) ∧ Ty.wf Ty.bool (Prod.snd (ipushF (Prod.snd (Prod.snd
  (Prod.snd (List.getD (Prod.fst (Prod.fst d)) (Int.toNat (fidxGo (Prod.fst (Prod.snd d)) (Prod.fst (Prod.fst d)) (0 : Nat))) ((0 : Int), (0 : Int), (0 : Int), []))))) (Prod.snd (Prod.snd d)))) → ((0 : Int) ≤ fidxGo
  (Prod.fst (Prod.snd d)) (Prod.fst (Prod.fst d)) (0 : Nat) ∧ fidxGo (Prod.fst (Prod.snd d)) (Prod.fst (Prod.fst d)) (0 : Nat) < (↑(List.length (Prod.fst r)) : Int)) ∧ ∀ (b : Nat), ¬b ∈ idsL flG (Prod.fst r) → (unD ringG
  (List.set (Prod.fst r) (Int.toNat (fidxGo (Prod.fst (Prod.snd d)) (Prod.fst (Prod.fst d)) (0 : Nat))) (Prod.fst (List.getD (Prod.fst r) (Int.toNat (fidxGo (Prod.fst (Prod.snd d)) (Prod.fst (Prod.fst d)) (0 : Nat))) ((0
  : Int), (0 : Int), (0 : Int), (0 : Nat), [])), Prod.fst (Prod.snd (List.getD (Prod.fst r) (Int.toNat (fidxGo (Prod.fst (Prod.snd d)) (Prod.fst (Prod.fst d)) (0 : Nat))) ((0 : Int), (0 : Int), (0 : Int), (0 : Nat),
  []))), Prod.fst (Prod.snd (Prod.snd (List.getD (Prod.fst r) (Int.toNat (fidxGo (Prod.fst (Prod.snd d)) (Prod.fst (Prod.fst d)) (0 : Nat))) ((0 : Int), (0 : Int), (0 : Int), (0 : Nat), [])))), b, Prod.fst (ipushF
  (Prod.snd (Prod.snd (Prod.snd (List.getD (Prod.fst (Prod.fst d)) (Int.toNat (fidxGo (Prod.fst (Prod.snd d)) (Prod.fst (Prod.fst d)) (0 : Nat))) ((0 : Int), (0 : Int), (0 : Int), []))))) (Prod.snd (Prod.snd d)))),
  Prod.snd r), unD Ty.bool (Prod.snd (ipushF (Prod.snd (Prod.snd (Prod.snd (List.getD (Prod.fst (Prod.fst d)) (Int.toNat (fidxGo (Prod.fst (Prod.snd d)) (Prod.fst (Prod.fst d)) (0 : Nat))) ((0 : Int), (0 : Int), (0 :
  Int), []))))) (Prod.snd (Prod.snd d))))) = pushTkF (Prod.fst d) (Prod.fst (Prod.snd d)) (Prod.snd (Prod.snd d)) ∧ List.Nodup (ids ringG (List.set (Prod.fst r) (Int.toNat (fidxGo (Prod.fst (Prod.snd d)) (Prod.fst
  (Prod.fst d)) (0 : Nat))) (Prod.fst (List.getD (Prod.fst r) (Int.toNat (fidxGo (Prod.fst (Prod.snd d)) (Prod.fst (Prod.fst d)) (0 : Nat))) ((0 : Int), (0 : Int), (0 : Int), (0 : Nat), [])), Prod.fst (Prod.snd
  (List.getD (Prod.fst r) (Int.toNat (fidxGo (Prod.fst (Prod.snd d)) (Prod.fst (Prod.fst d)) (0 : Nat))) ((0 : Int), (0 : Int), (0 : Int), (0 : Nat), []))), Prod.fst (Prod.snd (Prod.snd (List.getD (Prod.fst r) (Int.toNat
  (fidxGo (Prod.fst (Prod.snd d)) (Prod.fst (Prod.fst d)) (0 : Nat))) ((0 : Int), (0 : Int), (0 : Int), (0 : Nat), [])))), b, Prod.fst (ipushF (Prod.snd (Prod.snd (Prod.snd (List.getD (Prod.fst (Prod.fst d)) (Int.toNat
  (fidxGo (Prod.fst (Prod.snd d)) (Prod.fst (Prod.fst d)) (0 : Nat))) ((0 : Int), (0 : Int), (0 : Int), []))))) (Prod.snd (Prod.snd d)))), Prod.snd r) ++ ids Ty.bool (Prod.snd (ipushF (Prod.snd (Prod.snd (Prod.snd
  (List.getD (Prod.fst (Prod.fst d)) (Int.toNat (fidxGo (Prod.fst (Prod.snd d)) (Prod.fst (Prod.fst d)) (0 : Nat))) ((0 : Int), (0 : Int), (0 : Int), []))))) (Prod.snd (Prod.snd d))))))))) := by
  intro d hw hp
  obtain ⟨⟨xs, tn, fr⟩, t, tk⟩ := d
  refine ⟨hp, fun r h1 h2 _ _ => ⟨trivial, fun _ => ⟨trivial, fun h3 => ?_, fun h3 => ⟨fun h4 => ?_, fun h4 => ?_⟩⟩⟩⟩
  · rw [Bool.not_eq_true'] at h3
    simp only at h3 h1
    refine ⟨?_, by rw [idG3] at h2 ⊢; simpa [ids] using h2⟩
    unfold pushTkF
    rw [if_neg (fun h => by rw [h.1] at h3; cases h3), h1]; rfl
  · have h4 := of_decide_eq_true h4
    simp only at h4 h1
    refine ⟨?_, by rw [idG3] at h2 ⊢; simpa [ids] using h2⟩
    unfold pushTkF
    rw [if_neg (fun h => by have := h.2; simp only at this; omega), h1]; rfl
  · have h4 := of_decide_eq_false h4
    rw [Bool.not_eq_false'] at h3
    simp only at h3 h4 h1 ⊢
    have h5 : 0 ≤ fidxGo t xs 0 := by omega
    obtain ⟨_, h6⟩ := fidx_lt t xs 0 h5
    rw [Nat.zero_add] at h6
    obtain ⟨hr1, hr2⟩ := ringG_eq h1
    have hl := len_un hr1
    refine ⟨⟨h5, by omega⟩, ?_, fun _ => ⟨⟨h5, by omega⟩, fun b hb => ⟨?_, ?_⟩⟩⟩
    · refine hp.2 _ ?_
      rw [List.getD_eq_getElem?_getD, List.getElem?_eq_getElem h6]
      exact List.getElem_mem h6
    · unfold pushTkF
      rw [if_pos ⟨h3, h5⟩]
      have h7 := getD_un r.1 (fidxGo t xs 0).toNat
      rw [hr1] at h7
      have h8 : xs.getD (fidxGo t xs 0).toNat ((0 : Int), (0 : Int), (0 : Int), ([] : List Tk)) = unF (r.1.getD (fidxGo t xs 0).toNat fg0) := h7
      rw [unG2]
      simp only [List.map_set, hr1]
      rw [hr2, h8]
      unfold setLine
      rw [h7]
      rfl
    · rw [idG1] at hb
      rw [idG3] at h2 ⊢
      have := nd_set (x := ((r.1.getD (fidxGo t xs 0).toNat fg0).1, (r.1.getD (fidxGo t xs 0).toNat fg0).2.1, (r.1.getD (fidxGo t xs 0).toNat fg0).2.2.1, b, (ipushF (xs.getD (fidxGo t xs 0).toNat fl0).2.2.2 tk).1)) (i := (fidxGo t xs 0).toNat) h2 (fun i hi => .inl (idF_fresh hb i hi))
      show (_ ++ []).Nodup
      rw [List.append_nil]
      exact this
theorem ring_lines {fs : List Fl} {turn : Int} {fresh : Bool} (h : ringOkF fs turn fresh = true) : ∀ j, j < fs.length → lineOkF (fs.getD j fl0).2.2.2 = true := fun j hj =>
  (flow_iff.1 (((ring_iff.1 h).2 j hj).1)).2.2.1
theorem setLine_same {fs : List Fl} {j : Nat} (hj : j < fs.length) : setLine fs j (fs.getD j fl0).2.2.2 = fs := by
  unfold setLine
  have h : fs.getD j fl0 = fs[j] := by simp [hj]
  rw [h]
  exact List.set_getElem_self hj
theorem push_off {xs : List Tk} {t : Tk} (h : (ipushF xs t).2 = false) : (ipushF xs t).1 = xs := by
  unfold ipushF at h ⊢
  split at h
  · cases h
  · rename_i h2; rw [if_neg h2]
end Go.SF
