/- Caches whose entries' blocks are told. No condition. -/
import Derived.Test.YtdomcnkhdnagiaaSxC
import Derived.Test.YtdomcnkhdnagiaaSxPCache
import Derived.Test.YtdomcnkhdnagiaaSxPLine2
namespace Go.SF
open Go.SX Go
set_option linter.unusedVariables false
set_option linter.unusedSimpArgs false
theorem unBy (l : List Int) : l.map (unD byT) = l := by
  have : unD byT = id := rfl
  rw [this]; exact List.map_id l
theorem unIn (l : List Int) : l.map (unD i64T) = l := by
  have : unD i64T = id := rfl
  rw [this]; exact List.map_id l
theorem unE0 (e : EnG) : unD enG e = unE e := by
  show (List.map (unD byT) e.1.2, e.2.1, List.map (unD i64T) e.2.2.1.2, List.map (unD i64T) e.2.2.2.2) = _
  rw [unBy, unIn, unIn]
  rfl
theorem unE1 (L : List EnG) : unL enG L = L.map unE := by
  show L.map (unD enG) = _
  congr 1
  funext f
  exact unE0 f
theorem unE1' (L : List EnG) : unD (.sl enG) L = L.map unE := unE1 L
theorem unE2 (r : Int × List EnG) : unD cacheG r = (r.1, r.2.map unE) := by
  show (r.1, unD (.sl enG) r.2) = _
  rw [unE1']; rfl
theorem unEN0 (e : EnG) : unD enN e = unE e := by
  show (List.map (unD byT) e.1.2, e.2.1, List.map (unD i64T) e.2.2.1.2, List.map (unD i64T) e.2.2.2.2) = _
  rw [unBy, unIn, unIn]
  rfl
theorem unEN2 (r : Int × List EnG) : unD cacheNN r = (r.1, r.2.map unE) := by
  show (r.1, r.2.map (unD enN)) = _
  congr 2
  funext f
  exact unEN0 f
theorem id1_gs (wh : Bool) (k : IntKind) (p : PG) : ids (.gs wh (.int k)) p = id1 p := by
  obtain ⟨i, l⟩ := p
  rw [ids_gs, show idsL (.int k) l = [] from ids_noG (.sl (.int k)) rfl l]
  cases l <;> simp [id1]
theorem idE0 (e : EnG) : ids enG e = idE e := by
  obtain ⟨a, b, c, d⟩ := e
  show ids (.gs true byT) a ++ ([] ++ (ids (.gs true i64T) c ++ ids (.gs true i64T) d)) = _
  rw [id1_gs, id1_gs, id1_gs]
  rfl
theorem idE1 (L : List EnG) : idsL enG L = L.flatMap idE := by
  unfold idsL
  congr 1
  funext f
  exact idE0 f
theorem idE2 (L : List EnG) : ids (.sl enG) L = L.flatMap idE := idE1 L
theorem idE3 (r : Int × List EnG) : ids cacheG r = r.2.flatMap idE := by
  show [] ++ ids (.sl enG) r.2 = _
  rw [idE2]; simp
theorem repE_tell (n : Nat) : List.replicate n eg0 = List.map (tell0 enG) (List.replicate n (show enG.unG.den from ([], (0 : Int), [], []))) := by
  rw [List.map_replicate]; rfl
theorem idE_rep (n : Nat) : (List.replicate n eg0).flatMap idE = [] := by
  induction n with
  | zero => rfl
  | succ n ih => rw [List.replicate_succ, List.flatMap_cons, ih]; rfl
theorem id1_mem {i : Nat} {p : PG} (h : i ∈ id1 p) : i = p.1 := by
  unfold id1 at h
  split at h
  · cases h
  · exact List.mem_singleton.1 h
theorem id1_nodup (p : PG) : (id1 p).Nodup := by unfold id1; split <;> simp
/-- Three new blocks. -/
theorem idE_new {b b1 b2 : Nat} (h1 : b1 ≠ b) (h2 : b2 ≠ b1) (h3 : b2 ≠ b) (l : List Int) (c : Int) (o m : List Int) : (idE ((b, l), c, (b1, o), (b2, m))).Nodup := by
  unfold idE
  rw [List.nodup_append, List.nodup_append]
  refine ⟨id1_nodup _, ⟨id1_nodup _, id1_nodup _, fun x hx y hy e => ?_⟩, fun x hx y hy e => ?_⟩
  · have := id1_mem hx; have := id1_mem hy; simp_all
  · have := id1_mem hx
    rcases List.mem_append.1 hy with hy | hy <;> (have := id1_mem hy; simp_all)
theorem idE_in {b b1 b2 : Nat} {l : List Int} {c : Int} {o m : List Int} {i : Nat} (h : i ∈ idE ((b, l), c, (b1, o), (b2, m))) : i = b ∨ i = b1 ∨ i = b2 := by
  unfold idE at h
  rcases List.mem_append.1 h with h | h
  · exact .inl (id1_mem h)
  · rcases List.mem_append.1 h with h | h
    · exact .inr (.inl (id1_mem h))
    · exact .inr (.inr (id1_mem h))
theorem ndE_snoc {L : List EnG} {e : EnG} (h : (L.flatMap idE).Nodup) (he : (idE e).Nodup) (hx : ∀ b ∈ idE e, b ∉ L.flatMap idE) : ((L ++ [e]).flatMap idE).Nodup := by
  rw [List.flatMap_append, List.nodup_append]
  refine ⟨h, by simpa using he, fun a ha b hb e => ?_⟩
  subst e
  exact hx a (by simpa using hb) ha
theorem ndE_new {L : List EnG} (h : (L.flatMap idE).Nodup) {b b1 b2 : Nat} (hb : b ∉ L.flatMap idE) (hb1 : b1 ∉ L.flatMap idE ∧ b1 ≠ b) (hb2 : b2 ∉ L.flatMap idE ∧ b2 ≠ b1 ∧ b2 ≠ b) (l : List Int) (c : Int) (o m : List Int) :
    ((L ++ [((b, l), c, (b1, o), (b2, m))]).flatMap idE).Nodup := by
  refine ndE_snoc h (idE_new hb1.2 hb2.2.1 hb2.2.2 l c o m) (fun i hi => ?_)
  rcases idE_in hi with rfl | rfl | rfl
  · exact hb
  · exact hb1.1
  · exact hb2.1
theorem takeE_un {L : List EnG} {xs : List En} {k : Nat} (h : L.map unE = xs.take k) (hk : k < xs.length) (b b1 b2 : Nat) :
    (L ++ [((b, (xs.getD k en0).1), (xs.getD k en0).2.1, (b1, (xs.getD k en0).2.2.1), (b2, (xs.getD k en0).2.2.2))]).map unE = xs.take (k + 1) := by
  have h2 : xs.getD k en0 = xs[k] := by simp [hk]
  rw [List.map_append, h, h2, List.take_succ_eq_append_getElem hk]
  rfl
theorem lenE_un {L : List EnG} {xs : List En} (h : L.map unE = xs) : L.length = xs.length := by rw [← h, List.length_map]
theorem v_L_toEntryST :
  ∀ (d : List (List Int × Int × List Int × List Int)), Ty.wf (Ty.sl entT) d → EnsP d → ((0 : Int) ≤ (↑(List.length d) : Int) ∧ (↑(List.length d) : Int) ≤ (↑(List.length d) : Int) ∧ (↑(List.length d) : Int) * (↑(80 : Nat)
  : Int) ≤ (140737488355328 : Int)) ∧ ((0 : Nat) ≤ List.length d ∧ (0 : Nat) = (0 : Nat) ∧ List.map unE [] = List.take (0 : Nat) d ∧ List.Nodup (List.flatMap idE [])) ∧ ((d = d ∧ Value.slice none (0 : Nat) (0 : Nat) =
  Value.slice none (0 : Nat) (0 : Nat) ∧ (0 : Int) = (↑(0 : Nat) : Int)) ∧ (∀ (y : List Int × Int × List Int × List Int), y ∈ List.replicate (Int.toNat (↑(List.length d) : Int)) ([], (0 : Int), [], []) → nilD enG y) ∧ []
  ++ List.replicate (List.length d - (0 : Nat)) eg0 = List.map (tell0 enG) (List.replicate (Int.toNat (↑(List.length d) : Int)) ([], (0 : Int), [], []))) ∧ ∀ (x : Nat × List ((Nat × List Int) × Int × (Nat × List Int) ×
  Nat × List Int)), Prod.fst x ≤ List.length d ∧ List.length (Prod.snd x) = Prod.fst x ∧ List.map unE (Prod.snd x) = List.take (Prod.fst x) d ∧ List.Nodup (List.flatMap idE (Prod.snd x)) → (decide ((↑(Prod.fst x) : Int)
  < (↑(List.length d) : Int)) = true → ((0 : Int) ≤ (↑(Prod.fst x) : Int) ∧ (↑(Prod.fst x) : Int) < (↑(List.length d) : Int)) ∧ EnP (List.getD d (Int.toNat (↑(Prod.fst x) : Int)) ([], (0 : Int), [], [])) ∧ (Ty.wf entT
  (List.getD d (Int.toNat (↑(Prod.fst x) : Int)) ([], (0 : Int), [], [])) → ((0 : Int) ≤ (↑(Prod.fst x) : Int) ∧ (↑(Prod.fst x) : Int) < (↑(List.length (Prod.snd x ++ List.replicate (List.length d - Prod.fst x) eg0)) :
  Int)) ∧ ∀ (b : Nat), ¬b ∈ idsL enG (Prod.snd x ++ List.replicate (List.length d - Prod.fst x) eg0) → ∀ (b_1 : Nat), ¬b_1 ∈ idsL enG (Prod.snd x ++ List.replicate (List.length d - Prod.fst x) eg0) ∧ b_1 ≠ b → ∀ (b_2 :
  Nat), ¬b_2 ∈ idsL enG (Prod.snd x ++ List.replicate (List.length d - Prod.fst x) eg0) ∧ b_2 ≠ b_1 ∧ b_2 ≠ b → ∃ (x' : Nat × List ((Nat × List Int) × Int × (Nat × List Int) × Nat × List Int)), (Prod.fst x' ≤ List.length
  d ∧ List.length (Prod.snd x') = Prod.fst x' ∧ List.map unE (Prod.snd x') = List.take (Prod.fst x') d ∧ List.Nodup (List.flatMap idE (Prod.snd x'))) ∧ List.length d - Prod.fst x' < List.length d - Prod.fst x ∧ (d = d ∧
  Value.slice none (0 : Nat) (0 : Nat) = Value.slice none (0 : Nat) (0 : Nat) ∧ IntKind.wrap IntKind.i64 ((↑(Prod.fst x) : Int) + (1 : Int)) = (↑(Prod.fst x') : Int)) ∧ List.set (Prod.snd x ++ List.replicate (List.length
  d - Prod.fst x) eg0) (Int.toNat (↑(Prod.fst x) : Int)) ((b, Prod.fst (List.getD d (Int.toNat (↑(Prod.fst x) : Int)) ([], (0 : Int), [], []))), Prod.fst (Prod.snd (List.getD d (Int.toNat (↑(Prod.fst x) : Int)) ([], (0 :
  Int), [], []))), (b_1, Prod.fst (Prod.snd (Prod.snd (List.getD d (Int.toNat (↑(Prod.fst x) : Int)) ([], (0 : Int), [], []))))), b_2, Prod.snd (Prod.snd (Prod.snd (List.getD d (Int.toNat (↑(Prod.fst x) : Int)) ([], (0 :
  Int), [], []))))) = Prod.snd x' ++ List.replicate (List.length d - Prod.fst x') eg0)) ∧ (decide ((↑(Prod.fst x) : Int) < (↑(List.length d) : Int)) = false → unD (Ty.sl enG) (Prod.snd x ++ List.replicate (List.length d
  - Prod.fst x) eg0) = d ∧ List.Nodup (ids (Ty.sl enG) (Prod.snd x ++ List.replicate (List.length d - Prod.fst x) eg0))) := by
  intro d hw hp
  have hl : d.length ≤ 9223372036854775807 := hw.1
  have hlen := hp.1
  simp only [Int.toNat_natCast, exists_const, and_true, true_and, implies_true, decide_eq_true_eq, decide_eq_false_iff_not, Bool.not_eq_true', Bool.not_eq_false', beq_iff_eq, forall_const]
  refine ⟨⟨by omega, by omega, by omega⟩, ⟨Nat.zero_le _, rfl, List.nodup_nil⟩, ⟨rfl, fun y hy => ?_, ?_⟩, fun x ⟨h1, h2, h3, h4⟩ => ⟨fun h5 => ?_, fun h5 => ?_⟩⟩
  · rw [List.eq_of_mem_replicate hy]
    exact ⟨rfl, trivial, rfl, rfl⟩
  · rw [List.nil_append, Nat.sub_zero]; exact repE_tell _
  · have h6 : x.1 < d.length := by omega
    rw [wrap_succ (by omega)]
    refine ⟨⟨by omega, h5⟩, ens_at hp h6, fun _ => ⟨⟨by omega, by simp; omega⟩, fun b hb b1 hb1 b2 hb2 => ?_⟩⟩
    rw [idE1, List.flatMap_append, idE_rep, List.append_nil] at hb hb1 hb2
    refine ⟨(x.1 + 1, x.2 ++ [((b, (d.getD x.1 en0).1), (d.getD x.1 en0).2.1, (b1, (d.getD x.1 en0).2.2.1), (b2, (d.getD x.1 en0).2.2.2))]), ⟨by simp only; omega, by simp [h2], takeE_un h3 h6 b b1 b2, ndE_new h4 hb hb1 hb2 _ _ _ _⟩, by simp only; omega, by simp, ?_⟩
    have h7 : List.replicate (d.length - x.1) eg0 = eg0 :: List.replicate (d.length - (x.1 + 1)) eg0 := by
      rw [show d.length - x.1 = (d.length - (x.1 + 1)) + 1 by omega, List.replicate_succ]
    rw [h7, ← h2, List.set_append_right _ _ (Nat.le_refl _)]
    simp [en0]
  · have h6 : x.1 = d.length := by omega
    rw [h6, Nat.sub_self, List.replicate_zero, List.append_nil, unE1', idE2, h3, h6, List.take_length]
    exact ⟨rfl, h4⟩
theorem v_L_toCacheT :
  ∀ (d : Int × List (List Int × Int × List Int × List Int)), Ty.wf cacheT d → EnsP (Prod.snd d) → EnsP (Prod.snd d) ∧ ∀ (r : List ((Nat × List Int) × Int × (Nat × List Int) × Nat × List Int)), unD (Ty.sl enG) r =
  Prod.snd d → List.Nodup (ids (Ty.sl enG) r) → Ty.wf (Ty.sl enG) r → True → unD cacheG (Prod.fst d, r) = d ∧ List.Nodup (ids cacheG (Prod.fst d, r)) := by
  intro d hw hp
  refine ⟨hp, fun r h1 h2 _ _ => ?_⟩
  rw [unE1'] at h1
  rw [idE2] at h2
  rw [unE2, idE3]
  exact ⟨by simp only; rw [h1], h2⟩
theorem v_I_copyEntry :
  ∀ (d : List Int × Int × List Int × List Int), Ty.wf entT d → EnP d → (((((0 : Nat) + List.length (Prod.fst d)) * (1 : Nat) ≤ (140737488355328 : Nat) ∧ RsP (Prod.snd d) ∧ (Ty.wf resT (Prod.snd d) → ([] ++ Prod.fst d,
  Prod.snd d) = d)) ∧ ((0 : Nat) + List.length (Prod.fst d)) * (1 : Nat) ≤ (140737488355328 : Nat) ∧ RsP (Prod.snd d) ∧ (Ty.wf resT (Prod.snd d) → ([] ++ Prod.fst d, Prod.snd d) = d)) ∧ ((0 : Nat) + List.length (Prod.fst
  d)) * (1 : Nat) ≤ (140737488355328 : Nat) ∧ RsP (Prod.snd d) ∧ (Ty.wf resT (Prod.snd d) → ([] ++ Prod.fst d, Prod.snd d) = d)) ∧ (((((0 : Nat) + List.length (Prod.fst d)) * (1 : Nat) ≤ (140737488355328 : Nat) ∧ RsP
  (Prod.snd d) ∧ (Ty.wf resT (Prod.snd d) → ([] ++ Prod.fst d, Prod.snd d) = d)) ∧ ((0 : Nat) + List.length (Prod.fst d)) * (1 : Nat) ≤ (140737488355328 : Nat) ∧ RsP (Prod.snd d) ∧ (Ty.wf resT (Prod.snd d) → ([] ++
  Prod.fst d, Prod.snd d) = d)) ∧ ((0 : Nat) + List.length (Prod.fst d)) * (1 : Nat) ≤ (140737488355328 : Nat) ∧ RsP (Prod.snd d) ∧ (Ty.wf resT (Prod.snd d) → ([] ++ Prod.fst d, Prod.snd d) = d)) ∧ (((0 : Nat) +
  List.length (Prod.fst d)) * (1 : Nat) ≤ (140737488355328 : Nat) ∧ RsP (Prod.snd d) ∧ (Ty.wf resT (Prod.snd d) → ([] ++ Prod.fst d, Prod.snd d) = d)) ∧ ((0 : Nat) + List.length (Prod.fst d)) * (1 : Nat) ≤
  (140737488355328 : Nat) ∧ RsP (Prod.snd d) ∧ (Ty.wf resT (Prod.snd d) → ([] ++ Prod.fst d, Prod.snd d) = d) := by
  intro d hw hp
  have h1 : (0 + d.1.length) * 1 ≤ 140737488355328 := by have := hp.1; omega
  have h2 : RsP d.2 := hp.2
  have h3 : resT.wf d.2 → ([] ++ d.1, d.2) = d := fun _ => rfl
  repeat' (first | assumption | apply And.intro)
def icr1 (d : Int × List Int × List Int) : Prop :=
  (((0 : Nat) + List.length (Prod.fst (Prod.snd d))) * (8 : Nat) ≤ (140737488355328 : Nat) ∧ ((0 : Nat) + List.length (Prod.snd (Prod.snd d))) * (8 : Nat) ≤ (140737488355328 : Nat) ∧ (Prod.fst d, [] ++ Prod.fst (Prod.snd
  d), [] ++ Prod.snd (Prod.snd d)) = d)
def icr8 (d : Int × List Int × List Int) : Prop :=
  ((icr1 d) ∧ (icr1 d) ∧ ((0 : Nat) + List.length (Prod.fst (Prod.snd d))) * (8 : Nat) ≤ (140737488355328 : Nat) ∧ (((0 : Nat) + List.length (Prod.snd (Prod.snd d))) * (8 : Nat) ≤ (140737488355328 : Nat) ∧ (Prod.fst d,
  [] ++ Prod.fst (Prod.snd d), [] ++ Prod.snd (Prod.snd d)) = d) ∧ ((0 : Nat) + List.length (Prod.snd (Prod.snd d))) * (8 : Nat) ≤ (140737488355328 : Nat) ∧ (Prod.fst d, [] ++ Prod.fst (Prod.snd d), [] ++ Prod.snd
  (Prod.snd d)) = d)
def icr9 (d : Int × List Int × List Int) : Prop :=
  ((icr1 d) ∧ ((0 : Nat) + List.length (Prod.fst (Prod.snd d))) * (8 : Nat) ≤ (140737488355328 : Nat) ∧ ((0 : Nat) + List.length (Prod.snd (Prod.snd d))) * (8 : Nat) ≤ (140737488355328 : Nat) ∧ (Prod.fst d, [] ++
  Prod.fst (Prod.snd d), [] ++ Prod.snd (Prod.snd d)) = d)
def icr2 (d : Int × List Int × List Int) : Prop :=
  ((icr9 d) ∧ (((0 : Nat) + List.length (Prod.fst (Prod.snd d))) * (8 : Nat) ≤ (140737488355328 : Nat) ∧ (((0 : Nat) + List.length (Prod.snd (Prod.snd d))) * (8 : Nat) ≤ (140737488355328 : Nat) ∧ (Prod.fst d, [] ++
  Prod.fst (Prod.snd d), [] ++ Prod.snd (Prod.snd d)) = d) ∧ (((0 : Nat) + List.length (Prod.snd (Prod.snd d))) * (8 : Nat) ≤ (140737488355328 : Nat) ∧ (Prod.fst d, [] ++ Prod.fst (Prod.snd d), [] ++ Prod.snd (Prod.snd
  d)) = d) ∧ ((0 : Nat) + List.length (Prod.snd (Prod.snd d))) * (8 : Nat) ≤ (140737488355328 : Nat) ∧ (Prod.fst d, [] ++ Prod.fst (Prod.snd d), [] ++ Prod.snd (Prod.snd d)) = d) ∧ (icr1 d) ∧ ((0 : Nat) + List.length
  (Prod.fst (Prod.snd d))) * (8 : Nat) ≤ (140737488355328 : Nat) ∧ (((0 : Nat) + List.length (Prod.snd (Prod.snd d))) * (8 : Nat) ≤ (140737488355328 : Nat) ∧ (Prod.fst d, [] ++ Prod.fst (Prod.snd d), [] ++ Prod.snd
  (Prod.snd d)) = d) ∧ ((0 : Nat) + List.length (Prod.snd (Prod.snd d))) * (8 : Nat) ≤ (140737488355328 : Nat) ∧ (Prod.fst d, [] ++ Prod.fst (Prod.snd d), [] ++ Prod.snd (Prod.snd d)) = d)
def icr3 (d : Int × List Int × List Int) : Prop :=
  ((icr9 d) ∧ ((0 : Nat) + List.length (Prod.fst (Prod.snd d))) * (8 : Nat) ≤ (140737488355328 : Nat) ∧ ((0 : Nat) + List.length (Prod.snd (Prod.snd d))) * (8 : Nat) ≤ (140737488355328 : Nat) ∧ (Prod.fst d, [] ++
  Prod.fst (Prod.snd d), [] ++ Prod.snd (Prod.snd d)) = d)
def icr5 (d : Int × List Int × List Int) : Prop :=
  (((((0 : Nat) + List.length (Prod.fst (Prod.snd d))) * (8 : Nat) ≤ (140737488355328 : Nat) ∧ (((0 : Nat) + List.length (Prod.snd (Prod.snd d))) * (8 : Nat) ≤ (140737488355328 : Nat) ∧ (Prod.fst d, [] ++ Prod.fst
  (Prod.snd d), [] ++ Prod.snd (Prod.snd d)) = d) ∧ ((0 : Nat) + List.length (Prod.snd (Prod.snd d))) * (8 : Nat) ≤ (140737488355328 : Nat) ∧ (Prod.fst d, [] ++ Prod.fst (Prod.snd d), [] ++ Prod.snd (Prod.snd d)) = d) ∧
  (icr9 d) ∧ (icr1 d) ∧ ((0 : Nat) + List.length (Prod.fst (Prod.snd d))) * (8 : Nat) ≤ (140737488355328 : Nat) ∧ ((0 : Nat) + List.length (Prod.snd (Prod.snd d))) * (8 : Nat) ≤ (140737488355328 : Nat) ∧ (Prod.fst d, []
  ++ Prod.fst (Prod.snd d), [] ++ Prod.snd (Prod.snd d)) = d) ∧ (icr3 d) ∧ (icr9 d) ∧ ((0 : Nat) + List.length (Prod.fst (Prod.snd d))) * (8 : Nat) ≤ (140737488355328 : Nat) ∧ ((0 : Nat) + List.length (Prod.snd (Prod.snd
  d))) * (8 : Nat) ≤ (140737488355328 : Nat) ∧ (Prod.fst d, [] ++ Prod.fst (Prod.snd d), [] ++ Prod.snd (Prod.snd d)) = d)
def icr6 (d : Int × List Int × List Int) : Prop :=
  ((icr3 d) ∧ (icr2 d) ∧ (icr1 d) ∧ (icr1 d) ∧ ((0 : Nat) + List.length (Prod.fst (Prod.snd d))) * (8 : Nat) ≤ (140737488355328 : Nat) ∧ (((0 : Nat) + List.length (Prod.snd (Prod.snd d))) * (8 : Nat) ≤ (140737488355328 :
  Nat) ∧ (Prod.fst d, [] ++ Prod.fst (Prod.snd d), [] ++ Prod.snd (Prod.snd d)) = d) ∧ ((0 : Nat) + List.length (Prod.snd (Prod.snd d))) * (8 : Nat) ≤ (140737488355328 : Nat) ∧ (Prod.fst d, [] ++ Prod.fst (Prod.snd d),
  [] ++ Prod.snd (Prod.snd d)) = d)
def icr4 (d : Int × List Int × List Int) : Prop :=
  ((icr5 d) ∧ (((((0 : Nat) + List.length (Prod.fst (Prod.snd d))) * (8 : Nat) ≤ (140737488355328 : Nat) ∧ (((0 : Nat) + List.length (Prod.snd (Prod.snd d))) * (8 : Nat) ≤ (140737488355328 : Nat) ∧ (Prod.fst d, [] ++
  Prod.fst (Prod.snd d), [] ++ Prod.snd (Prod.snd d)) = d) ∧ ((0 : Nat) + List.length (Prod.snd (Prod.snd d))) * (8 : Nat) ≤ (140737488355328 : Nat) ∧ (Prod.fst d, [] ++ Prod.fst (Prod.snd d), [] ++ Prod.snd (Prod.snd
  d)) = d) ∧ (icr9 d) ∧ (icr1 d) ∧ ((0 : Nat) + List.length (Prod.fst (Prod.snd d))) * (8 : Nat) ≤ (140737488355328 : Nat) ∧ ((0 : Nat) + List.length (Prod.snd (Prod.snd d))) * (8 : Nat) ≤ (140737488355328 : Nat) ∧
  (Prod.fst d, [] ++ Prod.fst (Prod.snd d), [] ++ Prod.snd (Prod.snd d)) = d) ∧ (((0 : Nat) + List.length (Prod.fst (Prod.snd d))) * (8 : Nat) ≤ (140737488355328 : Nat) ∧ ((((0 : Nat) + List.length (Prod.snd (Prod.snd
  d))) * (8 : Nat) ≤ (140737488355328 : Nat) ∧ (Prod.fst d, [] ++ Prod.fst (Prod.snd d), [] ++ Prod.snd (Prod.snd d)) = d) ∧ ((0 : Nat) + List.length (Prod.snd (Prod.snd d))) * (8 : Nat) ≤ (140737488355328 : Nat) ∧
  (Prod.fst d, [] ++ Prod.fst (Prod.snd d), [] ++ Prod.snd (Prod.snd d)) = d) ∧ ((((0 : Nat) + List.length (Prod.snd (Prod.snd d))) * (8 : Nat) ≤ (140737488355328 : Nat) ∧ (Prod.fst d, [] ++ Prod.fst (Prod.snd d), [] ++
  Prod.snd (Prod.snd d)) = d) ∧ (((0 : Nat) + List.length (Prod.snd (Prod.snd d))) * (8 : Nat) ≤ (140737488355328 : Nat) ∧ (Prod.fst d, [] ++ Prod.fst (Prod.snd d), [] ++ Prod.snd (Prod.snd d)) = d) ∧ ((0 : Nat) +
  List.length (Prod.snd (Prod.snd d))) * (8 : Nat) ≤ (140737488355328 : Nat) ∧ (Prod.fst d, [] ++ Prod.fst (Prod.snd d), [] ++ Prod.snd (Prod.snd d)) = d) ∧ (((0 : Nat) + List.length (Prod.snd (Prod.snd d))) * (8 : Nat)
  ≤ (140737488355328 : Nat) ∧ (Prod.fst d, [] ++ Prod.fst (Prod.snd d), [] ++ Prod.snd (Prod.snd d)) = d) ∧ (((0 : Nat) + List.length (Prod.snd (Prod.snd d))) * (8 : Nat) ≤ (140737488355328 : Nat) ∧ (Prod.fst d, [] ++
  Prod.fst (Prod.snd d), [] ++ Prod.snd (Prod.snd d)) = d) ∧ ((0 : Nat) + List.length (Prod.snd (Prod.snd d))) * (8 : Nat) ≤ (140737488355328 : Nat) ∧ (Prod.fst d, [] ++ Prod.fst (Prod.snd d), [] ++ Prod.snd (Prod.snd
  d)) = d) ∧ (icr2 d) ∧ (icr9 d) ∧ (((0 : Nat) + List.length (Prod.fst (Prod.snd d))) * (8 : Nat) ≤ (140737488355328 : Nat) ∧ (((0 : Nat) + List.length (Prod.snd (Prod.snd d))) * (8 : Nat) ≤ (140737488355328 : Nat) ∧
  (Prod.fst d, [] ++ Prod.fst (Prod.snd d), [] ++ Prod.snd (Prod.snd d)) = d) ∧ (((0 : Nat) + List.length (Prod.snd (Prod.snd d))) * (8 : Nat) ≤ (140737488355328 : Nat) ∧ (Prod.fst d, [] ++ Prod.fst (Prod.snd d), [] ++
  Prod.snd (Prod.snd d)) = d) ∧ ((0 : Nat) + List.length (Prod.snd (Prod.snd d))) * (8 : Nat) ≤ (140737488355328 : Nat) ∧ (Prod.fst d, [] ++ Prod.fst (Prod.snd d), [] ++ Prod.snd (Prod.snd d)) = d) ∧ (icr1 d) ∧ ((0 :
  Nat) + List.length (Prod.fst (Prod.snd d))) * (8 : Nat) ≤ (140737488355328 : Nat) ∧ (((0 : Nat) + List.length (Prod.snd (Prod.snd d))) * (8 : Nat) ≤ (140737488355328 : Nat) ∧ (Prod.fst d, [] ++ Prod.fst (Prod.snd d),
  [] ++ Prod.snd (Prod.snd d)) = d) ∧ ((0 : Nat) + List.length (Prod.snd (Prod.snd d))) * (8 : Nat) ≤ (140737488355328 : Nat) ∧ (Prod.fst d, [] ++ Prod.fst (Prod.snd d), [] ++ Prod.snd (Prod.snd d)) = d) ∧ (icr6 d) ∧
  (icr3 d) ∧ (icr2 d) ∧ (icr1 d) ∧ (icr1 d) ∧ ((0 : Nat) + List.length (Prod.fst (Prod.snd d))) * (8 : Nat) ≤ (140737488355328 : Nat) ∧ (((0 : Nat) + List.length (Prod.snd (Prod.snd d))) * (8 : Nat) ≤ (140737488355328 :
  Nat) ∧ (Prod.fst d, [] ++ Prod.fst (Prod.snd d), [] ++ Prod.snd (Prod.snd d)) = d) ∧ ((0 : Nat) + List.length (Prod.snd (Prod.snd d))) * (8 : Nat) ≤ (140737488355328 : Nat) ∧ (Prod.fst d, [] ++ Prod.fst (Prod.snd d),
  [] ++ Prod.snd (Prod.snd d)) = d)
def icr7 (d : Int × List Int × List Int) : Prop :=
  ((icr3 d) ∧ (icr3 d) ∧ (icr1 d) ∧ ((0 : Nat) + List.length (Prod.fst (Prod.snd d))) * (8 : Nat) ≤ (140737488355328 : Nat) ∧ ((0 : Nat) + List.length (Prod.snd (Prod.snd d))) * (8 : Nat) ≤ (140737488355328 : Nat) ∧
  (Prod.fst d, [] ++ Prod.fst (Prod.snd d), [] ++ Prod.snd (Prod.snd d)) = d)

theorem v_I_copyResult :
  ∀ (d : Int × List Int × List Int), Ty.wf resT d → RsP d → ((icr5 d) ∧ (icr5 d) ∧ (icr7 d) ∧ (icr3 d) ∧ (icr3 d) ∧ (icr1 d) ∧ ((0 : Nat) + List.length (Prod.fst (Prod.snd d))) * (8 : Nat) ≤ (140737488355328 : Nat) ∧ ((0
  : Nat) + List.length (Prod.snd (Prod.snd d))) * (8 : Nat) ≤ (140737488355328 : Nat) ∧ (Prod.fst d, [] ++ Prod.fst (Prod.snd d), [] ++ Prod.snd (Prod.snd d)) = d) ∧ (icr4 d) ∧ (icr4 d) ∧ ((icr7 d) ∧ (icr6 d) ∧ (icr6 d)
  ∧ (icr9 d) ∧ (icr8 d) ∧ (icr1 d) ∧ (icr1 d) ∧ ((0 : Nat) + List.length (Prod.fst (Prod.snd d))) * (8 : Nat) ≤ (140737488355328 : Nat) ∧ (((0 : Nat) + List.length (Prod.snd (Prod.snd d))) * (8 : Nat) ≤ (140737488355328
  : Nat) ∧ (Prod.fst d, [] ++ Prod.fst (Prod.snd d), [] ++ Prod.snd (Prod.snd d)) = d) ∧ ((0 : Nat) + List.length (Prod.snd (Prod.snd d))) * (8 : Nat) ≤ (140737488355328 : Nat) ∧ (Prod.fst d, [] ++ Prod.fst (Prod.snd d),
  [] ++ Prod.snd (Prod.snd d)) = d) ∧ (icr7 d) ∧ (icr6 d) ∧ (icr6 d) ∧ (icr9 d) ∧ (icr8 d) ∧ (icr1 d) ∧ (icr1 d) ∧ ((0 : Nat) + List.length (Prod.fst (Prod.snd d))) * (8 : Nat) ≤ (140737488355328 : Nat) ∧ (((0 : Nat) +
  List.length (Prod.snd (Prod.snd d))) * (8 : Nat) ≤ (140737488355328 : Nat) ∧ (Prod.fst d, [] ++ Prod.fst (Prod.snd d), [] ++ Prod.snd (Prod.snd d)) = d) ∧ ((0 : Nat) + List.length (Prod.snd (Prod.snd d))) * (8 : Nat) ≤
  (140737488355328 : Nat) ∧ (Prod.fst d, [] ++ Prod.fst (Prod.snd d), [] ++ Prod.snd (Prod.snd d)) = d := by
  intro d hw hp
  have h1 : (0 + d.2.1.length) * 8 ≤ 140737488355328 := by have := hp.1; omega
  have h2 : (0 + d.2.2.length) * 8 ≤ 140737488355328 := by have := hp.2; omega
  have h3 : (d.1, [] ++ d.2.1, [] ++ d.2.2) = d := rfl
  have h_icr1 : icr1 d := by
    unfold icr1
    repeat' (first | assumption | apply And.intro)
  have h_icr8 : icr8 d := by
    unfold icr8
    repeat' (first | assumption | apply And.intro)
  have h_icr9 : icr9 d := by
    unfold icr9
    repeat' (first | assumption | apply And.intro)
  have h_icr2 : icr2 d := by
    unfold icr2
    repeat' (first | assumption | apply And.intro)
  have h_icr3 : icr3 d := by
    unfold icr3
    repeat' (first | assumption | apply And.intro)
  have h_icr5 : icr5 d := by
    unfold icr5
    repeat' (first | assumption | apply And.intro)
  have h_icr6 : icr6 d := by
    unfold icr6
    repeat' (first | assumption | apply And.intro)
  have h_icr4 : icr4 d := by
    unfold icr4
    repeat' (first | assumption | apply And.intro)
  have h_icr7 : icr7 d := by
    unfold icr7
    repeat' (first | assumption | apply And.intro)
  repeat' (first | assumption | apply And.intro)
theorem v_S_l16CopyRes :
  ∀ (d : Int × List Int × List Int), Ty.wf resT d → RsP d → List.length (Prod.fst (Prod.snd d)) ≤ (1048576 : Nat) ∧ List.length (Prod.snd (Prod.snd d)) ≤ (1048576 : Nat) ∧ (Ty.wf listT (Prod.snd (Prod.snd d)) → Ty.wf
  listT (Prod.fst (Prod.snd d)) → d = d) := by
  intro d hw hp
  simp only [Int.toNat_natCast, exists_const, and_true, true_and, implies_true, decide_eq_true_eq, decide_eq_false_iff_not, Bool.not_eq_true', Bool.not_eq_false', beq_iff_eq, forall_const]
  exact hp
theorem v_S_l01Bytes :
  ∀ (d : List Int), Ty.wf bytesT d → List.length d ≤ (1048576 : Nat) → (0 : Nat) ≤ List.length d ∧ ((d = d ∧ Value.slice none (0 : Nat) (0 : Nat) = Value.slice none (0 : Nat) (0 : Nat) ∧ (0 : Int) = (↑(0 : Nat) : Int)) ∧
  [] = List.take (0 : Nat) d) ∧ ∀ (x : Nat), x ≤ List.length d → (decide ((↑x : Int) < (↑(List.length d) : Int)) = true → ((0 : Int) ≤ (↑x : Int) ∧ (↑x : Int) < (↑(List.length d) : Int)) ∧ (List.length (List.take x d) +
  List.length [List.getD d (Int.toNat (↑x : Int)) (0 : Int)]) * (1 : Nat) ≤ (140737488355328 : Nat) ∧ ∃ (x' : Nat), x' ≤ List.length d ∧ List.length d - x' < List.length d - x ∧ (d = d ∧ Value.slice none (0 : Nat) (0 :
  Nat) = Value.slice none (0 : Nat) (0 : Nat) ∧ IntKind.wrap IntKind.i64 ((↑x : Int) + (1 : Int)) = (↑x' : Int)) ∧ List.take x d ++ [List.getD d (Int.toNat (↑x : Int)) (0 : Int)] = List.take x' d) ∧ (decide ((↑x : Int) <
  (↑(List.length d) : Int)) = false → List.take x d = d) := by
  intro d hw hp
  have hp : d.length ≤ 1048576 := hp
  simp only [Int.toNat_natCast, exists_const, and_true, true_and, implies_true, decide_eq_true_eq, decide_eq_false_iff_not, Bool.not_eq_true', Bool.not_eq_false', beq_iff_eq, forall_const]
  refine ⟨Nat.zero_le _, ⟨rfl, rfl⟩, fun x hx => ⟨fun h => ?_, fun h => ?_⟩⟩
  · have h1 : x < d.length := by omega
    have hw1 : IntKind.i64.wrap ((x : Int) + 1) = ((x + 1 : Nat) : Int) := by rw [wrap_small (by omega)]; rfl
    refine ⟨⟨by omega, h⟩, by rw [List.length_take, List.length_singleton]; omega, x + 1, by omega, by omega, hw1, ?_⟩
    rw [List.take_succ_eq_append_getElem h1]; simp [h1]
  · have h1 : x = d.length := by omega
    rw [h1, List.take_length]
def icc2 (d : Int × List (List Int × Int × List Int × List Int)) (x : Nat × List ((Nat × List Int) × Int × (Nat × List Int) × Nat × List Int)) (x' : Nat × List ((Nat × List Int) × Int × (Nat × List Int) × Nat × List
  Int)) : Prop :=
  ((Prod.fst d = Prod.fst d ∧ Prod.snd d = Prod.snd d) ∧ Prod.fst d = Prod.fst d ∧ (Prod.fst d = Prod.fst d ∧ Value.slice none (0 : Nat) (0 : Nat) = Value.slice none (0 : Nat) (0 : Nat)) ∧ Prod.snd d = Prod.snd d ∧
  (↑(List.length (Prod.snd d)) : Int) = (↑(List.length (Prod.snd d)) : Int) ∧ IntKind.wrap IntKind.i64 ((↑(Prod.fst x) : Int) + (1 : Int)) = (↑(Prod.fst x') : Int))
def icc1 (d : Int × List (List Int × Int × List Int × List Int)) (x : Nat × List ((Nat × List Int) × Int × (Nat × List Int) × Nat × List Int)) : Prop :=
  (EnP (List.getD (Prod.snd d) (Int.toNat (↑(Prod.fst x) : Int)) ([], (0 : Int), [], [])) ∧ (Ty.wf entT (List.getD (Prod.snd d) (Int.toNat (↑(Prod.fst x) : Int)) ([], (0 : Int), [], [])) → ∀ (b : Nat), ¬b ∈ idsL enG
  (Prod.snd x) → ∀ (b_1 : Nat), ¬b_1 ∈ idsL enG (Prod.snd x) ∧ b_1 ≠ b → ∀ (b_2 : Nat), ¬b_2 ∈ idsL enG (Prod.snd x) ∧ b_2 ≠ b_1 ∧ b_2 ≠ b → (List.length (Prod.snd x) + List.length [((b, Prod.fst (List.getD (Prod.snd d)
  (Int.toNat (↑(Prod.fst x) : Int)) ([], (0 : Int), [], []))), Prod.fst (Prod.snd (List.getD (Prod.snd d) (Int.toNat (↑(Prod.fst x) : Int)) ([], (0 : Int), [], []))), (b_1, Prod.fst (Prod.snd (Prod.snd (List.getD
  (Prod.snd d) (Int.toNat (↑(Prod.fst x) : Int)) ([], (0 : Int), [], []))))), b_2, Prod.snd (Prod.snd (Prod.snd (List.getD (Prod.snd d) (Int.toNat (↑(Prod.fst x) : Int)) ([], (0 : Int), [], [])))))]) * (80 : Nat) ≤
  (140737488355328 : Nat) ∧ ∃ (x' : Nat × List ((Nat × List Int) × Int × (Nat × List Int) × Nat × List Int)), (Prod.fst x' ≤ List.length (Prod.snd d) ∧ List.map unE (Prod.snd x') = List.take (Prod.fst x') (Prod.snd d) ∧
  List.Nodup (List.flatMap idE (Prod.snd x'))) ∧ List.length (Prod.snd d) - Prod.fst x' < List.length (Prod.snd d) - Prod.fst x ∧ (icc2 d x x') ∧ (Prod.fst d = Prod.fst d ∧ Prod.snd d = Prod.snd d) ∧ ((0 : Int) = (0 :
  Int) ∧ Value.slice none (0 : Nat) (0 : Nat) = Value.slice none (0 : Nat) (0 : Nat)) ∧ Prod.fst d = Prod.fst d ∧ Prod.snd x ++ [((b, Prod.fst (List.getD (Prod.snd d) (Int.toNat (↑(Prod.fst x) : Int)) ([], (0 : Int), [],
  []))), Prod.fst (Prod.snd (List.getD (Prod.snd d) (Int.toNat (↑(Prod.fst x) : Int)) ([], (0 : Int), [], []))), (b_1, Prod.fst (Prod.snd (Prod.snd (List.getD (Prod.snd d) (Int.toNat (↑(Prod.fst x) : Int)) ([], (0 :
  Int), [], []))))), b_2, Prod.snd (Prod.snd (Prod.snd (List.getD (Prod.snd d) (Int.toNat (↑(Prod.fst x) : Int)) ([], (0 : Int), [], [])))))] = Prod.snd x'))

theorem v_I_copyCacheT :
  ∀ (d : Int × List (List Int × Int × List Int × List Int)), Ty.wf cacheT d → EnsP (Prod.snd d) → ((0 : Nat) ≤ List.length (Prod.snd d) ∧ List.map unE [] = List.take (0 : Nat) (Prod.snd d) ∧ List.Nodup (List.flatMap idE
  [])) ∧ (((Prod.fst d = Prod.fst d ∧ Prod.snd d = Prod.snd d) ∧ Prod.fst d = Prod.fst d ∧ (Prod.fst d = Prod.fst d ∧ Value.slice none (0 : Nat) (0 : Nat) = Value.slice none (0 : Nat) (0 : Nat)) ∧ Prod.snd d = Prod.snd d
  ∧ (↑(List.length (Prod.snd d)) : Int) = (↑(List.length (Prod.snd d)) : Int) ∧ (0 : Int) = (↑(0 : Nat) : Int)) ∧ (Prod.fst d = Prod.fst d ∧ Prod.snd d = Prod.snd d) ∧ ((0 : Int) = (0 : Int) ∧ Value.slice none (0 : Nat)
  (0 : Nat) = Value.slice none (0 : Nat) (0 : Nat)) ∧ Prod.fst d = Prod.fst d ∧ ([] : List EnG) = []) ∧ ∀ (x : Nat × List ((Nat × List Int) × Int × (Nat × List Int) × Nat × List Int)), Prod.fst x ≤ List.length (Prod.snd
  d) ∧ List.map unE (Prod.snd x) = List.take (Prod.fst x) (Prod.snd d) ∧ List.Nodup (List.flatMap idE (Prod.snd x)) → (decide ((↑(Prod.fst x) : Int) < (↑(List.length (Prod.snd d)) : Int)) = true → ((0 : Int) ≤
  (↑(Prod.fst x) : Int) ∧ (↑(Prod.fst x) : Int) < (↑(List.length (Prod.snd d)) : Int)) ∧ (icc1 d x) ∧ (icc1 d x) ∧ EnP (List.getD (Prod.snd d) (Int.toNat (↑(Prod.fst x) : Int)) ([], (0 : Int), [], [])) ∧ (Ty.wf entT
  (List.getD (Prod.snd d) (Int.toNat (↑(Prod.fst x) : Int)) ([], (0 : Int), [], [])) → (∀ (b : Nat), ¬b ∈ idsL enG (Prod.snd x) → ∀ (b_1 : Nat), ¬b_1 ∈ idsL enG (Prod.snd x) ∧ b_1 ≠ b → ∀ (b_2 : Nat), ¬b_2 ∈ idsL enG
  (Prod.snd x) ∧ b_2 ≠ b_1 ∧ b_2 ≠ b → (List.length (Prod.snd x) + List.length [((b, Prod.fst (List.getD (Prod.snd d) (Int.toNat (↑(Prod.fst x) : Int)) ([], (0 : Int), [], []))), Prod.fst (Prod.snd (List.getD (Prod.snd
  d) (Int.toNat (↑(Prod.fst x) : Int)) ([], (0 : Int), [], []))), (b_1, Prod.fst (Prod.snd (Prod.snd (List.getD (Prod.snd d) (Int.toNat (↑(Prod.fst x) : Int)) ([], (0 : Int), [], []))))), b_2, Prod.snd (Prod.snd
  (Prod.snd (List.getD (Prod.snd d) (Int.toNat (↑(Prod.fst x) : Int)) ([], (0 : Int), [], [])))))]) * (80 : Nat) ≤ (140737488355328 : Nat) ∧ ∃ (x' : Nat × List ((Nat × List Int) × Int × (Nat × List Int) × Nat × List
  Int)), (Prod.fst x' ≤ List.length (Prod.snd d) ∧ List.map unE (Prod.snd x') = List.take (Prod.fst x') (Prod.snd d) ∧ List.Nodup (List.flatMap idE (Prod.snd x'))) ∧ List.length (Prod.snd d) - Prod.fst x' < List.length
  (Prod.snd d) - Prod.fst x ∧ (icc2 d x x') ∧ (Prod.fst d = Prod.fst d ∧ Prod.snd d = Prod.snd d) ∧ ((0 : Int) = (0 : Int) ∧ Value.slice none (0 : Nat) (0 : Nat) = Value.slice none (0 : Nat) (0 : Nat)) ∧ Prod.fst d =
  Prod.fst d ∧ Prod.snd x ++ [((b, Prod.fst (List.getD (Prod.snd d) (Int.toNat (↑(Prod.fst x) : Int)) ([], (0 : Int), [], []))), Prod.fst (Prod.snd (List.getD (Prod.snd d) (Int.toNat (↑(Prod.fst x) : Int)) ([], (0 :
  Int), [], []))), (b_1, Prod.fst (Prod.snd (Prod.snd (List.getD (Prod.snd d) (Int.toNat (↑(Prod.fst x) : Int)) ([], (0 : Int), [], []))))), b_2, Prod.snd (Prod.snd (Prod.snd (List.getD (Prod.snd d) (Int.toNat
  (↑(Prod.fst x) : Int)) ([], (0 : Int), [], [])))))] = Prod.snd x') ∧ ∀ (b : Nat), ¬b ∈ idsL enG (Prod.snd x) → ∀ (b_1 : Nat), ¬b_1 ∈ idsL enG (Prod.snd x) ∧ b_1 ≠ b → ∀ (b_2 : Nat), ¬b_2 ∈ idsL enG (Prod.snd x) ∧ b_2 ≠
  b_1 ∧ b_2 ≠ b → (List.length (Prod.snd x) + List.length [((b, Prod.fst (List.getD (Prod.snd d) (Int.toNat (↑(Prod.fst x) : Int)) ([], (0 : Int), [], []))), Prod.fst (Prod.snd (List.getD (Prod.snd d) (Int.toNat
  (↑(Prod.fst x) : Int)) ([], (0 : Int), [], []))), (b_1, Prod.fst (Prod.snd (Prod.snd (List.getD (Prod.snd d) (Int.toNat (↑(Prod.fst x) : Int)) ([], (0 : Int), [], []))))), b_2, Prod.snd (Prod.snd (Prod.snd (List.getD
  (Prod.snd d) (Int.toNat (↑(Prod.fst x) : Int)) ([], (0 : Int), [], [])))))]) * (80 : Nat) ≤ (140737488355328 : Nat) ∧ ∃ (x' : Nat × List ((Nat × List Int) × Int × (Nat × List Int) × Nat × List Int)), (Prod.fst x' ≤
  List.length (Prod.snd d) ∧ List.map unE (Prod.snd x') = List.take (Prod.fst x') (Prod.snd d) ∧ List.Nodup (List.flatMap idE (Prod.snd x'))) ∧ List.length (Prod.snd d) - Prod.fst x' < List.length (Prod.snd d) - Prod.fst
  x ∧ (icc2 d x x') ∧ (Prod.fst d = Prod.fst d ∧ Prod.snd d = Prod.snd d) ∧ ((0 : Int) = (0 : Int) ∧ Value.slice none (0 : Nat) (0 : Nat) = Value.slice none (0 : Nat) (0 : Nat)) ∧ Prod.fst d = Prod.fst d ∧ Prod.snd x ++
  [((b, Prod.fst (List.getD (Prod.snd d) (Int.toNat (↑(Prod.fst x) : Int)) ([], (0 : Int), [], []))), Prod.fst (Prod.snd (List.getD (Prod.snd d) (Int.toNat (↑(Prod.fst x) : Int)) ([], (0 : Int), [], []))), (b_1, Prod.fst
  (Prod.snd (Prod.snd (List.getD (Prod.snd d) (Int.toNat (↑(Prod.fst x) : Int)) ([], (0 : Int), [], []))))), b_2, Prod.snd (Prod.snd (Prod.snd (List.getD (Prod.snd d) (Int.toNat (↑(Prod.fst x) : Int)) ([], (0 : Int), [],
  [])))))] = Prod.snd x')) ∧ (decide ((↑(Prod.fst x) : Int) < (↑(List.length (Prod.snd d)) : Int)) = false → unD cacheG (Prod.fst d, Prod.snd x) = d ∧ List.Nodup (ids cacheG (Prod.fst d, Prod.snd x))) := by
  intro d hw hp
  have hlen := hp.1
  refine ⟨⟨Nat.zero_le _, rfl, List.nodup_nil⟩, ?_, fun x ⟨h1, h2, h3⟩ => ⟨fun h5 => ?_, fun h5 => ?_⟩⟩
  · repeat' (first | exact rfl | apply And.intro)
  · have h5 : (x.1 : Int) < (d.2.length : Int) := of_decide_eq_true h5
    have h6 : x.1 < d.2.length := by omega
    have h7 : (0 : Int) ≤ (x.1 : Int) ∧ (x.1 : Int) < (d.2.length : Int) := ⟨by omega, h5⟩
    have hw1 : IntKind.i64.wrap ((x.1 : Int) + 1) = ((x.1 + 1 : Nat) : Int) := by rw [wrap_small (by omega)]; rfl
    have hE := ens_at hp h6
    have hE1 := hE.1
    have hE2 := hE.2
    have hlx := lenE_un h2
    rw [List.length_take] at hlx
    have leaf : ∀ (b : Nat), ¬b ∈ idsL enG x.2 → ∀ (b_1 : Nat), ¬b_1 ∈ idsL enG x.2 ∧ b_1 ≠ b → ∀ (b_2 : Nat), ¬b_2 ∈ idsL enG x.2 ∧ b_2 ≠ b_1 ∧ b_2 ≠ b →
        (List.length x.2 + List.length [((b, (d.2.getD x.1 en0).1), (d.2.getD x.1 en0).2.1, (b_1, (d.2.getD x.1 en0).2.2.1), (b_2, (d.2.getD x.1 en0).2.2.2))]) * 80 ≤ 140737488355328 ∧ ∃ x' : Nat × List EnG, (x'.1 ≤ d.2.length ∧ x'.2.map unE = d.2.take x'.1 ∧ (x'.2.flatMap idE).Nodup) ∧
          d.2.length - x'.1 < d.2.length - x.1 ∧ icc2 d x x' ∧ (d.1 = d.1 ∧ d.2 = d.2) ∧ ((0 : Int) = 0 ∧ Value.slice none 0 0 = Value.slice none 0 0) ∧ d.1 = d.1 ∧ x.2 ++ [((b, (d.2.getD x.1 en0).1), (d.2.getD x.1 en0).2.1, (b_1, (d.2.getD x.1 en0).2.2.1), (b_2, (d.2.getD x.1 en0).2.2.2))] = x'.2 := by
      intro b hb b1 hb1 b2 hb2
      rw [idE1] at hb hb1 hb2
      refine ⟨by simp only [List.length_singleton]; omega, (x.1 + 1, _), ⟨by simp only; omega, takeE_un h2 h6 b b1 b2, ndE_new h3 hb hb1 hb2 _ _ _ _⟩, by simp only; omega, by repeat' (first | exact rfl | exact hw1 | apply And.intro), ⟨rfl, rfl⟩, ⟨rfl, rfl⟩, rfl, rfl⟩
    have h_icc1 : icc1 d x := by
      unfold icc1
      repeat' (first | assumption | exact hE | exact hE1 | exact hE2 | exact leaf | apply And.intro | intro _)
    repeat' (first | assumption | exact hE | exact hE1 | exact hE2 | exact leaf | apply And.intro | intro _)
  · have h5 : ¬ (x.1 : Int) < (d.2.length : Int) := of_decide_eq_false h5
    have h6 : x.1 = d.2.length := by omega
    rw [unE2, idE3, h2, h6, List.take_length]
    exact ⟨rfl, h3⟩
theorem v_S_l16Copy :
  ∀ (d : Int × List (List Int × Int × List Int × List Int)), Ty.wf cacheT d → EnsP (Prod.snd d) → (0 : Nat) ≤ List.length (Prod.snd d) ∧ (((Prod.fst d = Prod.fst d ∧ Prod.snd d = Prod.snd d) ∧ (0 : Int) = (↑(0 : Nat) :
  Int)) ∧ (Prod.fst d = Prod.fst d ∧ Prod.snd d = Prod.snd d) ∧ ((0 : Int) = (0 : Int) ∧ Value.slice none (0 : Nat) (0 : Nat) = Value.slice none (0 : Nat) (0 : Nat)) ∧ Prod.fst d = Prod.fst d ∧ List.take (0 : Nat)
  (Prod.snd d) = []) ∧ ∀ (x : Nat), x ≤ List.length (Prod.snd d) → (decide ((↑x : Int) < (↑(List.length (Prod.snd d)) : Int)) = true → ((0 : Int) ≤ (↑x : Int) ∧ (↑x : Int) < (↑(List.length (Prod.snd d)) : Int)) ∧
  List.length (Prod.fst (List.getD (Prod.snd d) (Int.toNat (↑x : Int)) ([], (0 : Int), [], []))) ≤ (1048576 : Nat) ∧ ((0 : Int) ≤ (↑x : Int) ∧ (↑x : Int) < (↑(List.length (Prod.snd d)) : Int)) ∧ RsP (Prod.snd (List.getD
  (Prod.snd d) (Int.toNat (↑x : Int)) ([], (0 : Int), [], []))) ∧ (Ty.wf resT (Prod.snd (List.getD (Prod.snd d) (Int.toNat (↑x : Int)) ([], (0 : Int), [], []))) → Ty.wf bytesT (Prod.fst (List.getD (Prod.snd d) (Int.toNat
  (↑x : Int)) ([], (0 : Int), [], []))) → (List.length (List.take x (Prod.snd d)) + List.length [List.getD (Prod.snd d) (Int.toNat (↑x : Int)) ([], (0 : Int), [], [])]) * (80 : Nat) ≤ (140737488355328 : Nat) ∧ ∃ (x' :
  Nat), x' ≤ List.length (Prod.snd d) ∧ List.length (Prod.snd d) - x' < List.length (Prod.snd d) - x ∧ ((Prod.fst d = Prod.fst d ∧ Prod.snd d = Prod.snd d) ∧ IntKind.wrap IntKind.i64 ((↑x : Int) + (1 : Int)) = (↑x' :
  Int)) ∧ (Prod.fst d = Prod.fst d ∧ Prod.snd d = Prod.snd d) ∧ ((0 : Int) = (0 : Int) ∧ Value.slice none (0 : Nat) (0 : Nat) = Value.slice none (0 : Nat) (0 : Nat)) ∧ Prod.fst d = Prod.fst d ∧ List.take x (Prod.snd d)
  ++ [List.getD (Prod.snd d) (Int.toNat (↑x : Int)) ([], (0 : Int), [], [])] = List.take x' (Prod.snd d))) ∧ (decide ((↑x : Int) < (↑(List.length (Prod.snd d)) : Int)) = false → (Prod.fst d, List.take x (Prod.snd d)) =
  d) := by
  intro d hw hp
  have hlen := hp.1
  simp only [Int.toNat_natCast, exists_const, and_true, true_and, implies_true, decide_eq_true_eq, decide_eq_false_iff_not, Bool.not_eq_true', Bool.not_eq_false', beq_iff_eq, forall_const]
  refine ⟨Nat.zero_le _, ?_, fun x hx => ⟨fun h => ?_, fun h => ?_⟩⟩
  · repeat' (first | exact rfl | apply And.intro)
  · have h6 : x < d.2.length := by omega
    have hE := ens_at hp h6
    have hw1 : IntKind.i64.wrap ((x : Int) + 1) = ((x + 1 : Nat) : Int) := by rw [wrap_small (by omega)]; rfl
    refine ⟨⟨by omega, h⟩, hE.1, ⟨by omega, h⟩, hE.2, fun _ _ => ⟨by rw [List.length_take, List.length_singleton]; omega, x + 1, by omega, by omega, hw1, ?_⟩⟩
    rw [List.take_succ_eq_append_getElem h6]; simp [h6]
  · have h6 : x = d.2.length := by omega
    rw [h6, List.take_length]
theorem mark8_length (xs : List Int) (k : Int) : (mark8 xs k).length = xs.length := mkGo_length _ _ xs k
theorem v_L_markByteS :
  ∀ (d : List Int) (k : Int), Ty.wf (Ty.sl byT) d → IntKind.min IntKind.i64 ≤ k ∧ k ≤ IntKind.max IntKind.i64 → True → List.length (mark8 d k) = List.length d ∧ ((0 : Nat) ≤ List.length d ∧ k = end8 (List.take (0 : Nat)
  d) k) ∧ ((k = k ∧ (0 : Int) = (↑(0 : Nat) : Int)) ∧ d = mark8 (List.take (0 : Nat) d) k ++ List.drop (0 : Nat) d) ∧ ∀ (x : Nat × Int), Prod.fst x ≤ List.length d ∧ Prod.snd x = end8 (List.take (Prod.fst x) d) k →
  (decide ((↑(Prod.fst x) : Int) < (↑(List.length (mark8 (List.take (Prod.fst x) d) k ++ List.drop (Prod.fst x) d)) : Int)) = true → ((0 : Int) ≤ (↑(Prod.fst x) : Int) ∧ (↑(Prod.fst x) : Int) < (↑(List.length (mark8
  (List.take (Prod.fst x) d) k ++ List.drop (Prod.fst x) d)) : Int)) ∧ ∃ (x' : Nat × Int), (Prod.fst x' ≤ List.length d ∧ Prod.snd x' = end8 (List.take (Prod.fst x') d) k) ∧ List.length d - Prod.fst x' < List.length d -
  Prod.fst x ∧ (IntKind.wrap IntKind.i64 (Prod.snd x + (1 : Int)) = Prod.snd x' ∧ IntKind.wrap IntKind.i64 ((↑(Prod.fst x) : Int) + (1 : Int)) = (↑(Prod.fst x') : Int)) ∧ List.set (mark8 (List.take (Prod.fst x) d) k ++
  List.drop (Prod.fst x) d) (Int.toNat (↑(Prod.fst x) : Int)) (IntKind.wrap IntKind.u8 (Prod.snd x)) = mark8 (List.take (Prod.fst x') d) k ++ List.drop (Prod.fst x') d) ∧ (decide ((↑(Prod.fst x) : Int) < (↑(List.length
  (mark8 (List.take (Prod.fst x) d) k ++ List.drop (Prod.fst x) d)) : Int)) = false → Prod.snd x = end8 d k ∧ mark8 (List.take (Prod.fst x) d) k ++ List.drop (Prod.fst x) d = mark8 d k) := by
  intro (d : List (Int)) k hw hk _
  have hl : d.length ≤ 9223372036854775807 := hw.1
  refine ⟨mark8_length d k, ⟨Nat.zero_le _, by simp [end8, mkEnd]⟩, ⟨⟨rfl, rfl⟩, by simp [mark8, mkGo]⟩, fun x ⟨h1, h2⟩ => ?_⟩
  obtain ⟨j, kk⟩ := x
  simp only at h1 h2
  have hlen : (mark8 (d.take j) k ++ d.drop j).length = d.length := by rw [List.length_append, mark8_length, List.length_take, List.length_drop]; omega
  have hstep : j < d.length → (mark8 (d.take j) k ++ d.drop j).set j (w8 (end8 (d.take j) k)) = mark8 (d.take (j + 1)) k ++ d.drop (j + 1) := fun h => mk_step w8 n1 d k j h
  have hend : j < d.length → end8 (d.take (j + 1)) k = n1 (end8 (d.take j) k) := fun h => mkEnd_take n1 d k j h
  refine ⟨fun h3 => ?_, fun h3 => ?_⟩
  · have h3 : j < d.length := by rw [hlen] at h3; simpa using h3
    replace hstep := hstep h3
    replace hend := hend h3
    simp only [Int.toNat_natCast]
    generalize mark8 (d.take j) k ++ d.drop j = ys at *
    have h4 : j < ys.length := by omega
    rw [wrap_succ (by omega), hlen]
    refine ⟨⟨by omega, by omega⟩, (j + 1, n1 kk), ⟨by simp only; omega, by simp only; rw [hend, h2]⟩, by simp only; omega, ⟨rfl, rfl⟩, ?_⟩
    rw [← hstep, h2]; rfl
  · have h4 : j = d.length := by rw [hlen] at h3; simp at h3; omega
    subst h4
    rw [List.take_length] at h2 ⊢
    rw [List.drop_length, List.append_nil]
    exact ⟨h2, rfl⟩
theorem v_L_markByteSE :
  ∀ (d : List Int × Int), Ty.wf (Ty.sl byT) (Prod.fst d) ∧ Ty.wf (Ty.int IntKind.i64) (Prod.snd d) → Prod.fst d = [] ∧ True → True ∧ (Prod.fst d = Prod.fst d ∧ Prod.snd d = Prod.snd d ∧ (0 : Int) = (0 : Int)) ∧ ∀ (x :
  Unit), True → (decide ((0 : Int) < (↑(List.length (Prod.fst d)) : Int)) = true → ((0 : Int) ≤ (0 : Int) ∧ (0 : Int) < (↑(List.length (Prod.fst d)) : Int)) ∧ False) ∧ (decide ((0 : Int) < (↑(List.length (Prod.fst d)) :
  Int)) = false → Prod.snd d = end8 (Prod.fst d) (Prod.snd d)) := by
  intro d hw hp
  obtain ⟨xs, k⟩ := d
  obtain ⟨h1, _⟩ := hp
  have h1 : xs = [] := h1
  subst h1
  refine ⟨trivial, by simp, fun x _ => ⟨fun h => ?_, fun _ => rfl⟩⟩
  simp at h
theorem v_L_markIntSE :
  ∀ (d : List Int × Int), Ty.wf (Ty.sl i64T) (Prod.fst d) ∧ Ty.wf (Ty.int IntKind.i64) (Prod.snd d) → Prod.fst d = [] ∧ True → True ∧ (Prod.fst d = Prod.fst d ∧ Prod.snd d = Prod.snd d ∧ (0 : Int) = (0 : Int)) ∧ ∀ (x :
  Unit), True → (decide ((0 : Int) < (↑(List.length (Prod.fst d)) : Int)) = true → ((0 : Int) ≤ (0 : Int) ∧ (0 : Int) < (↑(List.length (Prod.fst d)) : Int)) ∧ False) ∧ (decide ((0 : Int) < (↑(List.length (Prod.fst d)) :
  Int)) = false → Prod.snd d = end1 (Prod.fst d) (Prod.snd d)) := by
  intro d hw hp
  obtain ⟨xs, k⟩ := d
  obtain ⟨h1, _⟩ := hp
  have h1 : xs = [] := h1
  subst h1
  refine ⟨trivial, by simp, fun x _ => ⟨fun h => ?_, fun _ => rfl⟩⟩
  simp at h
theorem v_L_heldByteS :
  ∀ (d : List Int × Int), Ty.wf (Ty.sl byT) (Prod.fst d) ∧ Ty.wf i64T (Prod.snd d) → True → ((0 : Nat) ≤ List.length (Prod.fst d) ∧ held8 (List.drop (0 : Nat) (Prod.fst d)) (Prod.snd d) = held8 (Prod.fst d) (Prod.snd d))
  ∧ (Prod.fst d = Prod.fst d ∧ Prod.snd d = Prod.snd d ∧ (0 : Int) = (↑(0 : Nat) : Int)) ∧ ∀ (x : Nat × Int), Prod.fst x ≤ List.length (Prod.fst d) ∧ held8 (List.drop (Prod.fst x) (Prod.fst d)) (Prod.snd x) = held8
  (Prod.fst d) (Prod.snd d) → (decide ((↑(Prod.fst x) : Int) < (↑(List.length (Prod.fst d)) : Int)) = true → ((0 : Int) ≤ (↑(Prod.fst x) : Int) ∧ (↑(Prod.fst x) : Int) < (↑(List.length (Prod.fst d)) : Int)) ∧ ((!decide
  (List.getD (Prod.fst d) (Int.toNat (↑(Prod.fst x) : Int)) (0 : Int) = IntKind.wrap IntKind.u8 (Prod.snd x))) = true → (-1 : Int) = held8 (Prod.fst d) (Prod.snd d)) ∧ ((!decide (List.getD (Prod.fst d) (Int.toNat
  (↑(Prod.fst x) : Int)) (0 : Int) = IntKind.wrap IntKind.u8 (Prod.snd x))) = false → ∃ (x' : Nat × Int), (Prod.fst x' ≤ List.length (Prod.fst d) ∧ held8 (List.drop (Prod.fst x') (Prod.fst d)) (Prod.snd x') = held8
  (Prod.fst d) (Prod.snd d)) ∧ List.length (Prod.fst d) - Prod.fst x' < List.length (Prod.fst d) - Prod.fst x ∧ Prod.fst d = Prod.fst d ∧ IntKind.wrap IntKind.i64 (Prod.snd x + (1 : Int)) = Prod.snd x' ∧ IntKind.wrap
  IntKind.i64 ((↑(Prod.fst x) : Int) + (1 : Int)) = (↑(Prod.fst x') : Int))) ∧ (decide ((↑(Prod.fst x) : Int) < (↑(List.length (Prod.fst d)) : Int)) = false → Prod.snd x = held8 (Prod.fst d) (Prod.snd d)) := by
  intro (d : List Int × Int) hw _
  obtain ⟨xs, k⟩ := d
  have hl : xs.length ≤ 9223372036854775807 := hw.1.1
  simp only [Int.toNat_natCast, exists_const, and_true, true_and, implies_true, decide_eq_true_eq, decide_eq_false_iff_not, Bool.not_eq_true', Bool.not_eq_false', beq_iff_eq, forall_const]
  refine ⟨⟨Nat.zero_le _, by simp⟩, rfl, fun x ⟨h1, h2⟩ => ⟨fun h3 => ?_, fun h3 => ?_⟩⟩
  · have h4 : x.1 < xs.length := by omega
    rw [getD_drop_cons (x := (0 : Int)) h4] at h2
    generalize held8 xs k = r at h2 ⊢
    unfold held8 heldGo at h2
    rw [wrap_succ (by omega)]
    refine ⟨⟨by omega, by omega⟩, ?_⟩
    generalize xs.getD x.1 0 = y at *
    by_cases a1 : y = IntKind.u8.wrap x.2
    · refine ⟨fun h => absurd a1 (by simpa using h), fun _ => ⟨(x.1 + 1, n1 x.2), ⟨by simp only; omega, ?_⟩, by simp only; omega, rfl, rfl⟩⟩
      rw [if_pos (by simp [ok8, w8, a1])] at h2
      exact h2
    · refine ⟨fun _ => ?_, fun h => absurd (by simpa using h) a1⟩
      rw [if_neg (by simp [ok8, w8, a1])] at h2
      exact h2
  · have h4 : x.1 = xs.length := by omega
    rw [h4, List.drop_length] at h2
    exact h2
theorem trim_le (c : Int) (es : List En) : ∀ n, trimLen c es n ≤ n
  | 0 => Nat.le_refl _
  | n + 1 => by
    unfold trimLen
    split
    · have := trim_le c es n; omega
    · exact Nat.le_refl _
theorem trim_step {c : Int} {es : List En} {n : Nat} (h : 30 < n + 1 ∨ c < (sumE (es.take (n + 1)) : Int)) : trimLen c es (n + 1) = trimLen c es n := by
  conv => lhs; unfold trimLen
  rw [if_pos h]
theorem trim_stop {c : Int} {es : List En} : ∀ {n : Nat}, ¬ 30 < n → ¬ c < (sumE (es.take n) : Int) → trimLen c es n = n
  | 0, _, _ => rfl
  | n + 1, h1, h2 => by
    unfold trimLen
    rw [if_neg (by omega)]
theorem ens_take {es : List En} (h : EnsP es) (n : Nat) : EnsP (es.take n) := ⟨by rw [List.length_take]; have := h.1; omega, fun e he => h.2 e (List.mem_of_mem_take he)⟩
theorem unE_take (L : List EnG) (n : Nat) : unL enG (L.take n) = (L.map unE).take n := by rw [unE1, List.map_take]
theorem v_I_trimCache :
  ∀ (c : Int) (xs : List ((Nat × List Int) × Int × (Nat × List Int) × Nat × List Int)), IntKind.min IntKind.i64 ≤ c ∧ c ≤ IntKind.max IntKind.i64 → Ty.wf (Ty.sl enG) xs → EnsP (List.map unE xs) ∧ (0 : Int) ≤ c →
  (List.length xs ≤ List.length xs ∧ trimLen c (List.map unE xs) (List.length xs) = trimLen c (List.map unE xs) (List.length xs)) ∧ ((c = c ∧ List.length xs = List.length xs) ∧ xs = xs ∧ (c = c ∧ List.length xs =
  List.length xs) ∧ (0 : Int) = (0 : Int) ∧ Value.slice none (0 : Nat) (0 : Nat) = Value.slice none (0 : Nat) (0 : Nat)) ∧ ∀ (x : Nat), x ≤ List.length xs ∧ trimLen c (List.map unE xs) x = trimLen c (List.map unE xs)
  (List.length xs) → (decide ((30 : Int) < (↑x : Int)) = true → ((0 : Int) ≤ IntKind.wrap IntKind.i64 ((↑x : Int) - (1 : Int)) ∧ IntKind.wrap IntKind.i64 ((↑x : Int) - (1 : Int)) ≤ (↑x : Int)) ∧ ∃ (x' : Nat), (x' ≤
  List.length xs ∧ trimLen c (List.map unE xs) x' = trimLen c (List.map unE xs) (List.length xs)) ∧ x' < x ∧ (c = c ∧ List.length xs = List.length xs) ∧ xs = xs ∧ (c = c ∧ Int.toNat (IntKind.wrap IntKind.i64 ((↑x : Int)
  - (1 : Int))) = x') ∧ (0 : Int) = (0 : Int) ∧ Value.slice none (0 : Nat) (0 : Nat) = Value.slice none (0 : Nat) (0 : Nat)) ∧ (decide ((30 : Int) < (↑x : Int)) = false → EnsP (unL enG (List.take x xs)) ∧ (Ty.wf i64T
  (↑(sumE (unL enG (List.take x xs))) : Int) → (decide (c < (↑(sumE (unL enG (List.take x xs))) : Int)) = true → ((0 : Int) ≤ IntKind.wrap IntKind.i64 ((↑x : Int) - (1 : Int)) ∧ IntKind.wrap IntKind.i64 ((↑x : Int) - (1
  : Int)) ≤ (↑x : Int)) ∧ ∃ (x' : Nat), (x' ≤ List.length xs ∧ trimLen c (List.map unE xs) x' = trimLen c (List.map unE xs) (List.length xs)) ∧ x' < x ∧ (c = c ∧ List.length xs = List.length xs) ∧ xs = xs ∧ (c = c ∧
  Int.toNat (IntKind.wrap IntKind.i64 ((↑x : Int) - (1 : Int))) = x') ∧ (0 : Int) = (0 : Int) ∧ Value.slice none (0 : Nat) (0 : Nat) = Value.slice none (0 : Nat) (0 : Nat)) ∧ (decide (c < (↑(sumE (unL enG (List.take x
  xs))) : Int)) = false → c = c ∧ x = trimLen c (List.map unE xs) (List.length xs) ∧ xs = xs))) := by
  intro c xs hc hw hp
  have hp0 : (0 : Int) ≤ c := hp.2
  have hpe : EnsP (xs.map unE) := hp.1
  have hxl : xs.length ≤ 1048576 := by have := hpe.1; rw [List.length_map] at this; exact this
  simp only [Int.toNat_natCast, exists_const, and_true, true_and, implies_true, decide_eq_true_eq, decide_eq_false_iff_not, Bool.not_eq_true', Bool.not_eq_false', beq_iff_eq, forall_const]
  refine ⟨Nat.le_refl _, fun x ⟨h1, h2⟩ => ?_⟩
  have step : (30 < x ∨ c < (sumE ((xs.map unE).take x) : Int)) → ((0 : Int) ≤ IntKind.i64.wrap ((x : Int) - 1) ∧ IntKind.i64.wrap ((x : Int) - 1) ≤ (x : Int)) ∧ ∃ x' : Nat, (x' ≤ xs.length ∧ trimLen c (xs.map unE) x' = trimLen c (xs.map unE) xs.length) ∧ x' < x ∧ (IntKind.i64.wrap ((x : Int) - 1)).toNat = x' := by
    intro h
    cases x with
    | zero => simp [sumE] at h; omega
    | succ n =>
      have hw1 : IntKind.i64.wrap (((n + 1 : Nat) : Int) - 1) = (n : Int) := by rw [wrap_small (by omega)]; omega
      rw [hw1]
      refine ⟨by omega, n, ⟨by omega, ?_⟩, by omega, by omega⟩
      rw [← h2, trim_step h]
  rw [unE_take]
  refine ⟨fun h3 => step (.inl (by omega)), fun h3 => ⟨ens_take hpe x, fun _ => ⟨fun h4 => step (.inr h4), fun h4 => ?_⟩⟩⟩
  rw [← h2, trim_stop (by omega) h4]
theorem v_S_l16Trim :
  ∀ (c : Int) (xs : List ((Nat × List Int) × Int × (Nat × List Int) × Nat × List Int)), IntKind.min IntKind.i64 ≤ c ∧ c ≤ IntKind.max IntKind.i64 → Ty.wf (Ty.sl enN) xs → EnsP (List.map unE xs) ∧ (0 : Int) ≤ c →
  (List.length xs ≤ List.length xs ∧ trimLen c (List.map unE xs) (List.length xs) = trimLen c (List.map unE xs) (List.length xs)) ∧ ((c = c ∧ List.length xs = List.length xs) ∧ xs = xs ∧ (c = c ∧ List.length xs =
  List.length xs) ∧ (0 : Int) = (0 : Int) ∧ Value.slice none (0 : Nat) (0 : Nat) = Value.slice none (0 : Nat) (0 : Nat)) ∧ ∀ (x : Nat), x ≤ List.length xs ∧ trimLen c (List.map unE xs) x = trimLen c (List.map unE xs)
  (List.length xs) → (decide ((30 : Int) < (↑x : Int)) = true → ((0 : Int) ≤ IntKind.wrap IntKind.i64 ((↑x : Int) - (1 : Int)) ∧ IntKind.wrap IntKind.i64 ((↑x : Int) - (1 : Int)) ≤ (↑x : Int)) ∧ ∃ (x' : Nat), (x' ≤
  List.length xs ∧ trimLen c (List.map unE xs) x' = trimLen c (List.map unE xs) (List.length xs)) ∧ x' < x ∧ (c = c ∧ List.length xs = List.length xs) ∧ xs = xs ∧ (c = c ∧ Int.toNat (IntKind.wrap IntKind.i64 ((↑x : Int)
  - (1 : Int))) = x') ∧ (0 : Int) = (0 : Int) ∧ Value.slice none (0 : Nat) (0 : Nat) = Value.slice none (0 : Nat) (0 : Nat)) ∧ (decide ((30 : Int) < (↑x : Int)) = false → EnsP (unL enN (List.take x xs)) ∧ (Ty.wf i64T
  (↑(sumE (unL enN (List.take x xs))) : Int) → (decide (c < (↑(sumE (unL enN (List.take x xs))) : Int)) = true → ((0 : Int) ≤ IntKind.wrap IntKind.i64 ((↑x : Int) - (1 : Int)) ∧ IntKind.wrap IntKind.i64 ((↑x : Int) - (1
  : Int)) ≤ (↑x : Int)) ∧ ∃ (x' : Nat), (x' ≤ List.length xs ∧ trimLen c (List.map unE xs) x' = trimLen c (List.map unE xs) (List.length xs)) ∧ x' < x ∧ (c = c ∧ List.length xs = List.length xs) ∧ xs = xs ∧ (c = c ∧
  Int.toNat (IntKind.wrap IntKind.i64 ((↑x : Int) - (1 : Int))) = x') ∧ (0 : Int) = (0 : Int) ∧ Value.slice none (0 : Nat) (0 : Nat) = Value.slice none (0 : Nat) (0 : Nat)) ∧ (decide (c < (↑(sumE (unL enN (List.take x
  xs))) : Int)) = false → c = c ∧ x = trimLen c (List.map unE xs) (List.length xs) ∧ xs = xs))) := by
  exact v_I_trimCache
theorem shrink_no {c : Ca} {room : Int} (h : cacheB c = false ∨ room < 0 ∨ 5000 < room) : shrinkF c room = (c, false) := by
  unfold shrinkF
  rw [if_neg]
  intro ⟨h1, h2, h3⟩
  rcases h with h | h | h
  · rw [h] at h1; cases h1
  · omega
  · omega
theorem trimE {c : Ca} {r : List EnG} {room : Int} (h : r.map unE = c.2) : (room, (r.take (trimLen room (r.map unE) r.length)).map unE) = trimF (room, c.2) := by
  unfold trimF
  have hl : r.length = c.2.length := lenE_un h
  rw [List.map_take, h, hl]
theorem idE_take {L : List EnG} (h : (L.flatMap idE).Nodup) (n : Nat) : ((L.take n).flatMap idE).Nodup := by
  have h1 : L.flatMap idE = (L.take n).flatMap idE ++ (L.drop n).flatMap idE := by rw [← List.flatMap_append, List.take_append_drop]
  rw [h1, List.nodup_append] at h
  exact h.1
theorem cache_eq {r : Int × List EnG} {c : Ca} (h : unD cacheG r = c) : r.1 = c.1 ∧ r.2.map unE = c.2 := by
  rw [unE2] at h
  rw [← h]
  exact ⟨rfl, rfl⟩
def u1 (b : Nat) (new : List Int) (q : PG) : PG := if q.1 = b ∧ q.2.length = new.length then (q.1, new) else q
theorem updE_by (b : Nat) (new : List Int) (y : EnG) : updG b byT new enG y = (u1 b new y.1, y.2.1, y.2.2.1, y.2.2.2) := by
  have h : ¬ (i64T = byT) := by decide
  show ((if h : byT = byT then (if y.1.1 = b ∧ y.1.2.length = new.length then (y.1.1, castL h.symm new) else y.1) else y.1), y.2.1, (if h : i64T = byT then (if y.2.2.1.1 = b ∧ y.2.2.1.2.length = new.length then (y.2.2.1.1, castL h.symm new) else y.2.2.1) else y.2.2.1), (if h : i64T = byT then (if y.2.2.2.1 = b ∧ y.2.2.2.2.length = new.length then (y.2.2.2.1, castL h.symm new) else y.2.2.2) else y.2.2.2)) = _
  rw [dif_pos rfl, dif_neg h, dif_neg h]
  rfl
theorem updE_in (b : Nat) (new : List Int) (y : EnG) : updG b i64T new enG y = (y.1, y.2.1, u1 b new y.2.2.1, u1 b new y.2.2.2) := by
  have h : ¬ (byT = i64T) := by decide
  show ((if h : byT = i64T then (if y.1.1 = b ∧ y.1.2.length = new.length then (y.1.1, castL h.symm new) else y.1) else y.1), y.2.1, (if h : i64T = i64T then (if y.2.2.1.1 = b ∧ y.2.2.1.2.length = new.length then (y.2.2.1.1, castL h.symm new) else y.2.2.1) else y.2.2.1), (if h : i64T = i64T then (if y.2.2.2.1 = b ∧ y.2.2.2.2.length = new.length then (y.2.2.2.1, castL h.symm new) else y.2.2.2) else y.2.2.2)) = _
  rw [dif_neg h, dif_pos rfl, dif_pos rfl]
  rfl
theorem lensE_by {b n : Nat} {y : EnG} (h1 : y.1.1 = b → y.1.2 ≠ [] → y.1.2.length = n) (h2 : y.2.2.1.1 = b → y.2.2.1.2 = []) (h3 : y.2.2.2.1 = b → y.2.2.2.2 = []) : lensG b byT n enG y := by
  have h : ¬ (i64T = byT ∧ true = true) := by decide
  refine ⟨?_, trivial, ?_, ?_⟩
  · show if byT = byT ∧ true = true then (y.1.1 = b → y.1.2 ≠ [] → y.1.2.length = n) else (y.1.1 = b → y.1.2 = [])
    rw [if_pos ⟨rfl, rfl⟩]; exact h1
  · show if i64T = byT ∧ true = true then (y.2.2.1.1 = b → y.2.2.1.2 ≠ [] → y.2.2.1.2.length = n) else (y.2.2.1.1 = b → y.2.2.1.2 = [])
    rw [if_neg h]; exact h2
  · show if i64T = byT ∧ true = true then (y.2.2.2.1 = b → y.2.2.2.2 ≠ [] → y.2.2.2.2.length = n) else (y.2.2.2.1 = b → y.2.2.2.2 = [])
    rw [if_neg h]; exact h3
theorem lensE_in {b n : Nat} {y : EnG} (h1 : y.1.1 = b → y.1.2 = []) (h2 : y.2.2.1.1 = b → y.2.2.1.2 ≠ [] → y.2.2.1.2.length = n) (h3 : y.2.2.2.1 = b → y.2.2.2.2 ≠ [] → y.2.2.2.2.length = n) : lensG b i64T n enG y := by
  have h : ¬ (byT = i64T ∧ true = true) := by decide
  refine ⟨?_, trivial, ?_, ?_⟩
  · show if byT = i64T ∧ true = true then (y.1.1 = b → y.1.2 ≠ [] → y.1.2.length = n) else (y.1.1 = b → y.1.2 = [])
    rw [if_neg h]; exact h1
  · show if i64T = i64T ∧ true = true then (y.2.2.1.1 = b → y.2.2.1.2 ≠ [] → y.2.2.1.2.length = n) else (y.2.2.1.1 = b → y.2.2.1.2 = [])
    rw [if_pos ⟨rfl, rfl⟩]; exact h2
  · show if i64T = i64T ∧ true = true then (y.2.2.2.1 = b → y.2.2.2.2 ≠ [] → y.2.2.2.2.length = n) else (y.2.2.2.1 = b → y.2.2.2.2 = [])
    rw [if_pos ⟨rfl, rfl⟩]; exact h3
theorem id1_off {b : Nat} {q : PG} (h : b ∉ id1 q) : q.1 = b → q.2 = [] := by
  intro e
  refine Classical.byContradiction fun hn => h ?_
  unfold id1
  rw [if_neg hn, e]
  exact List.mem_singleton.2 rfl
theorem id1_on {q : PG} (h : q.2 ≠ []) : id1 q = [q.1] := by unfold id1; rw [if_neg h]
theorem u1_off {b : Nat} {new : List Int} {q : PG} (h : q.1 = b → q.2 = []) : u1 b new q = q := by
  unfold u1
  split
  · rename_i hx
    obtain ⟨h1, h2⟩ := hx
    have h3 := h h1
    rw [h3] at h2
    have : new = [] := List.length_eq_zero_iff.1 h2.symm
    rw [this]
    obtain ⟨a, c⟩ := q
    simp only at h3
    rw [h3]
  · rfl
theorem u1_on {new : List Int} {q : PG} (h : q.2.length = new.length) : u1 q.1 new q = (q.1, new) := by unfold u1; rw [if_pos ⟨rfl, h⟩]
theorem u1_nil {b : Nat} {q : PG} : u1 b [] q = q := by
  unfold u1
  split
  · rename_i hx
    have h3 : q.2 = [] := List.length_eq_zero_iff.1 hx.2
    obtain ⟨a, c⟩ := q
    simp only at h3
    rw [h3]
  · rfl

theorem off_other {A C : List EnG} {f : EnG} (hnd : (A.flatMap idE ++ (idE f ++ C.flatMap idE)).Nodup) {b : Nat} (hb : b ∈ idE f) {y : EnG} (hy : y ∈ A ∨ y ∈ C) : b ∉ idE y := by
  rw [List.nodup_append, List.nodup_append] at hnd
  intro h
  rcases hy with hy | hy
  · exact hnd.2.2 b (List.mem_flatMap.2 ⟨y, hy, h⟩) b (List.mem_append_left _ hb) rfl
  · exact hnd.2.1.2.2 b hb b (List.mem_flatMap.2 ⟨y, hy, h⟩) rfl
theorem slots_off {b : Nat} {y : EnG} (h : b ∉ idE y) : (y.1.1 = b → y.1.2 = []) ∧ (y.2.2.1.1 = b → y.2.2.1.2 = []) ∧ (y.2.2.2.1 = b → y.2.2.2.2 = []) := by
  unfold idE at h
  rw [List.mem_append, List.mem_append] at h
  exact ⟨id1_off (fun q => h (.inl q)), id1_off (fun q => h (.inr (.inl q))), id1_off (fun q => h (.inr (.inr q)))⟩
theorem idE_nodup {A C : List EnG} {f : EnG} (hnd : (A.flatMap idE ++ (idE f ++ C.flatMap idE)).Nodup) : (idE f).Nodup := by
  rw [List.nodup_append, List.nodup_append] at hnd
  exact hnd.2.1.1
theorem key_on {f : EnG} (hn : (idE f).Nodup) (h : f.1.2 ≠ []) : f.1.1 ∈ idE f ∧ (f.2.2.1.1 = f.1.1 → f.2.2.1.2 = []) ∧ (f.2.2.2.1 = f.1.1 → f.2.2.2.2 = []) := by
  unfold idE at hn ⊢
  rw [id1_on h] at hn ⊢
  rw [List.nodup_append] at hn
  refine ⟨List.mem_append_left _ (List.mem_singleton.2 rfl), id1_off (fun q => ?_), id1_off (fun q => ?_)⟩
  · exact hn.2.2 _ (List.mem_singleton.2 rfl) _ (List.mem_append_left _ q) rfl
  · exact hn.2.2 _ (List.mem_singleton.2 rfl) _ (List.mem_append_right _ q) rfl
theorem out_on {f : EnG} (hn : (idE f).Nodup) (h : f.2.2.1.2 ≠ []) : f.2.2.1.1 ∈ idE f ∧ (f.1.1 = f.2.2.1.1 → f.1.2 = []) ∧ (f.2.2.2.1 = f.2.2.1.1 → f.2.2.2.2 = []) := by
  unfold idE at hn ⊢
  rw [id1_on h] at hn ⊢
  rw [List.nodup_append, List.nodup_append] at hn
  refine ⟨List.mem_append_right _ (List.mem_append_left _ (List.mem_singleton.2 rfl)), id1_off (fun q => ?_), id1_off (fun q => ?_)⟩
  · exact hn.2.2 _ q _ (List.mem_append_left _ (List.mem_singleton.2 rfl)) rfl
  · exact hn.2.1.2.2 _ (List.mem_singleton.2 rfl) _ q rfl
theorem more_on {f : EnG} (hn : (idE f).Nodup) (h : f.2.2.2.2 ≠ []) : f.2.2.2.1 ∈ idE f ∧ (f.1.1 = f.2.2.2.1 → f.1.2 = []) ∧ (f.2.2.1.1 = f.2.2.2.1 → f.2.2.1.2 = []) := by
  unfold idE at hn ⊢
  rw [id1_on h] at hn ⊢
  rw [List.nodup_append, List.nodup_append] at hn
  refine ⟨List.mem_append_right _ (List.mem_append_right _ (List.mem_singleton.2 rfl)), id1_off (fun q => ?_), id1_off (fun q => ?_)⟩
  · exact hn.2.2 _ q _ (List.mem_append_right _ (List.mem_singleton.2 rfl)) rfl
  · exact hn.2.1.2.2 _ q _ (List.mem_singleton.2 rfl) rfl
theorem mem_row {A C : List EnG} {f : EnG} {b : Nat} (h : b ∈ idE f) : b ∈ (A ++ f :: C).flatMap idE := by
  rw [List.flatMap_append, List.flatMap_cons]
  exact List.mem_append_right _ (List.mem_append_left _ h)
theorem row_cases {A C : List EnG} {f y : EnG} (h : y ∈ A ++ f :: C) : y = f ∨ y ∈ A ∨ y ∈ C := by
  rcases List.mem_append.1 h with h | h
  · exact .inr (.inl h)
  · rcases List.mem_cons.1 h with h | h
    · exact .inl h
    · exact .inr (.inr h)
/-- What a mark on one slice of one entry comes to. -/
def SlotP (A C : List EnG) (f f' : EnG) (p : PG) (e : Ty) (new : List e.den) : Prop :=
  (p.2 ≠ [] → p.1 ∈ (A ++ f :: C).flatMap idE ∧ ∀ y, y ∈ A ++ f :: C → lensG p.1 e p.2.length enG y) ∧ (A ++ f :: C).map (updG p.1 e new enG) = A ++ f' :: C
theorem map_row {A C : List EnG} {f f' : EnG} {g : EnG → EnG} (h : ∀ y, y ∈ A ∨ y ∈ C → g y = y) (hf : g f = f') : (A ++ f :: C).map g = A ++ f' :: C := by
  rw [List.map_append, List.map_cons, hf, List.map_congr_left (g := id) (fun y hy => h y (.inl hy)), List.map_congr_left (l := C) (g := id) (fun y hy => h y (.inr hy)), List.map_id, List.map_id]
theorem slot_key {A C : List EnG} {f : EnG} (hnd : (A.flatMap idE ++ (idE f ++ C.flatMap idE)).Nodup) {new : List Int} (hl : new.length = f.1.2.length) : SlotP A C f ((f.1.1, new), f.2) f.1 byT new := by
  have hn := idE_nodup hnd
  refine ⟨fun h => ⟨mem_row (key_on hn h).1, fun y hy => ?_⟩, ?_⟩
  · obtain ⟨k1, k2, k3⟩ := key_on hn h
    rcases row_cases hy with rfl | hy
    · exact lensE_by (fun _ _ => rfl) k2 k3
    · obtain ⟨o1, o2, o3⟩ := slots_off (off_other hnd k1 hy)
      exact lensE_by (fun q1 q2 => absurd (o1 q1) q2) o2 o3
  · by_cases h : f.1.2 = []
    · have hnew : new = [] := List.length_eq_zero_iff.1 (by rw [hl, h]; rfl)
      subst hnew
      refine map_row (fun y _ => by rw [updE_by, u1_nil]) ?_
      rw [updE_by, u1_nil, ← h]
    · obtain ⟨k1, k2, k3⟩ := key_on hn h
      refine map_row (fun y hy => ?_) ?_
      · rw [updE_by, u1_off (slots_off (off_other hnd k1 hy)).1]
      · rw [updE_by, u1_on hl.symm]
theorem slot_out {A C : List EnG} {f : EnG} (hnd : (A.flatMap idE ++ (idE f ++ C.flatMap idE)).Nodup) {new : List Int} (hl : new.length = f.2.2.1.2.length) : SlotP A C f (f.1, f.2.1, (f.2.2.1.1, new), f.2.2.2) f.2.2.1 i64T new := by
  have hn := idE_nodup hnd
  refine ⟨fun h => ⟨mem_row (out_on hn h).1, fun y hy => ?_⟩, ?_⟩
  · obtain ⟨k1, k2, k3⟩ := out_on hn h
    rcases row_cases hy with rfl | hy
    · exact lensE_in k2 (fun _ _ => rfl) (fun q1 q2 => absurd (k3 q1) q2)
    · obtain ⟨o1, o2, o3⟩ := slots_off (off_other hnd k1 hy)
      exact lensE_in o1 (fun q1 q2 => absurd (o2 q1) q2) (fun q1 q2 => absurd (o3 q1) q2)
  · by_cases h : f.2.2.1.2 = []
    · have hnew : new = [] := List.length_eq_zero_iff.1 (by rw [hl, h]; rfl)
      subst hnew
      refine map_row (fun y _ => by rw [updE_in, u1_nil, u1_nil]) ?_
      rw [updE_in, u1_nil, u1_nil, ← h]
    · obtain ⟨k1, k2, k3⟩ := out_on hn h
      refine map_row (fun y hy => ?_) ?_
      · rw [updE_in, u1_off (slots_off (off_other hnd k1 hy)).2.1, u1_off (slots_off (off_other hnd k1 hy)).2.2]
      · rw [updE_in, u1_on hl.symm, u1_off k3]
theorem slot_more {A C : List EnG} {f : EnG} (hnd : (A.flatMap idE ++ (idE f ++ C.flatMap idE)).Nodup) {new : List Int} (hl : new.length = f.2.2.2.2.length) : SlotP A C f (f.1, f.2.1, f.2.2.1, (f.2.2.2.1, new)) f.2.2.2 i64T new := by
  have hn := idE_nodup hnd
  refine ⟨fun h => ⟨mem_row (more_on hn h).1, fun y hy => ?_⟩, ?_⟩
  · obtain ⟨k1, k2, k3⟩ := more_on hn h
    rcases row_cases hy with rfl | hy
    · exact lensE_in k2 (fun q1 q2 => absurd (k3 q1) q2) (fun _ _ => rfl)
    · obtain ⟨o1, o2, o3⟩ := slots_off (off_other hnd k1 hy)
      exact lensE_in o1 (fun q1 q2 => absurd (o2 q1) q2) (fun q1 q2 => absurd (o3 q1) q2)
  · by_cases h : f.2.2.2.2 = []
    · have hnew : new = [] := List.length_eq_zero_iff.1 (by rw [hl, h]; rfl)
      subst hnew
      refine map_row (fun y _ => by rw [updE_in, u1_nil, u1_nil]) ?_
      rw [updE_in, u1_nil, u1_nil, ← h]
    · obtain ⟨k1, k2, k3⟩ := more_on hn h
      refine map_row (fun y hy => ?_) ?_
      · rw [updE_in, u1_off (slots_off (off_other hnd k1 hy)).2.1, u1_off (slots_off (off_other hnd k1 hy)).2.2]
      · rw [updE_in, u1_on hl.symm, u1_off k3]
theorem mark1_length' (xs : List Int) (k : Int) : (mark1 xs k).length = xs.length := mkGo_length _ _ xs k
theorem id1_len {a : Nat} {l l' : List Int} (h : l'.length = l.length) : id1 (a, l') = id1 (a, l) := by
  unfold id1
  cases l with
  | nil => rw [List.length_eq_zero_iff.1 h]
  | cons x r =>
    cases l' with
    | nil => cases h
    | cons y s => simp
theorem idE_m1 (f : EnG) (k : Int) : idE (m1E f k) = idE f := by
  obtain ⟨⟨a, l⟩, c, ⟨b, o⟩, ⟨b2, m⟩⟩ := f
  show id1 (a, mark8 l k) ++ _ = id1 (a, l) ++ _
  rw [id1_len (mark8_length l k)]; rfl
theorem idE_m2 (f : EnG) (k : Int) : idE (m2E f k) = idE f := idE_m1 f k
theorem idE_m3 (f : EnG) (k : Int) : idE (m3E f k) = idE f := by
  obtain ⟨⟨a, l⟩, c, ⟨b, o⟩, ⟨b2, m⟩⟩ := f
  show id1 (a, mark8 l k) ++ (id1 (b, mark1 o (e2F ((a, l), c, (b, o), (b2, m)) k)) ++ _) = id1 (a, l) ++ (id1 (b, o) ++ _)
  rw [id1_len (mark8_length l k), id1_len (mark1_length' o _)]; rfl
theorem idE_el (f : EnG) (k : Int) : idE (elE f k) = idE f := by
  obtain ⟨⟨a, l⟩, c, ⟨b, o⟩, ⟨b2, m⟩⟩ := f
  show id1 (a, mark8 l k) ++ (id1 (b, mark1 o (e2F ((a, l), c, (b, o), (b2, m)) k)) ++ id1 (b2, mark1 m (e3F ((a, l), c, (b, o), (b2, m)) k))) = id1 (a, l) ++ (id1 (b, o) ++ id1 (b2, m))
  rw [id1_len (mark8_length l k), id1_len (mark1_length' o _), id1_len (mark1_length' m _)]
theorem markE_len : ∀ (L : List EnG) (k : Int), (markE L k).length = L.length
  | [], _ => rfl
  | f :: L, k => by show (elE f k :: markE L (nxE f k)).length = _; simp [markE_len L]
theorem markE_ids : ∀ (L : List EnG) (k : Int), (markE L k).flatMap idE = L.flatMap idE
  | [], _ => rfl
  | f :: L, k => by show (elE f k :: markE L (nxE f k)).flatMap idE = _; rw [List.flatMap_cons, List.flatMap_cons, idE_el, markE_ids L]
theorem markE_snoc : ∀ (L : List EnG) (f : EnG) (k : Int), markE (L ++ [f]) k = markE L k ++ [elE f (endE L k)]
  | [], f, k => rfl
  | g :: L, f, k => by show elE g k :: markE (L ++ [f]) (nxE g k) = elE g k :: (markE L (nxE g k) ++ _); rw [markE_snoc L]; rfl
theorem endE_snoc : ∀ (L : List EnG) (f : EnG) (k : Int), endE (L ++ [f]) k = nxE f (endE L k)
  | [], f, k => rfl
  | g :: L, f, k => endE_snoc L f (nxE g k)
theorem getD_mid' {α : Type} {A C : List α} {y z : α} {j : Nat} (h : A.length = j) : (A ++ y :: C).getD j z = y := by
  subst h
  simp [List.getD_eq_getElem?_getD]
theorem set_mid' {α : Type} {A C : List α} {y y' : α} {j : Nat} (h : A.length = j) : (A ++ y :: C).set j y' = A ++ y' :: C := by
  subst h
  rw [List.set_append_right _ _ (Nat.le_refl _)]
  simp
theorem v_L_markEntryS :
  ∀ (d : List ((Nat × List Int) × Int × (Nat × List Int) × Nat × List Int)) (k : Int), Ty.wf (Ty.sl enG) d → IntKind.min IntKind.i64 ≤ k ∧ k ≤ IntKind.max IntKind.i64 → List.Nodup (ids (Ty.sl enG) d) → True →
  (List.length (markE d k) = List.length d ∧ idsL enG (markE d k) = idsL enG d) ∧ ((0 : Nat) ≤ List.length d ∧ k = endE (List.take (0 : Nat) d) k) ∧ ((k = k ∧ (0 : Int) = (↑(0 : Nat) : Int)) ∧ d = markE (List.take (0 :
  Nat) d) k ++ List.drop (0 : Nat) d) ∧ ∀ (x : Nat × Int), Prod.fst x ≤ List.length d ∧ Prod.snd x = endE (List.take (Prod.fst x) d) k → (decide ((↑(Prod.fst x) : Int) < (↑(List.length (markE (List.take (Prod.fst x) d) k
  ++ List.drop (Prod.fst x) d)) : Int)) = true → (((0 : Int) ≤ (↑(Prod.fst x) : Int) ∧ (↑(Prod.fst x) : Int) < (↑(List.length (markE (List.take (Prod.fst x) d) k ++ List.drop (Prod.fst x) d)) : Int)) ∧ True ∧ List.length
  (mark8 (Prod.snd (Prod.fst (List.getD (markE (List.take (Prod.fst x) d) k ++ List.drop (Prod.fst x) d) (Int.toNat (↑(Prod.fst x) : Int)) (((0 : Nat), []), (0 : Int), ((0 : Nat), []), (0 : Nat), [])))) (Prod.snd x)) =
  List.length (Prod.snd (Prod.fst (List.getD (markE (List.take (Prod.fst x) d) k ++ List.drop (Prod.fst x) d) (Int.toNat (↑(Prod.fst x) : Int)) (((0 : Nat), []), (0 : Int), ((0 : Nat), []), (0 : Nat), [])))) ∧ (Prod.snd
  (Prod.fst (List.getD (markE (List.take (Prod.fst x) d) k ++ List.drop (Prod.fst x) d) (Int.toNat (↑(Prod.fst x) : Int)) (((0 : Nat), []), (0 : Int), ((0 : Nat), []), (0 : Nat), []))) ≠ [] → Prod.fst (Prod.fst
  (List.getD (markE (List.take (Prod.fst x) d) k ++ List.drop (Prod.fst x) d) (Int.toNat (↑(Prod.fst x) : Int)) (((0 : Nat), []), (0 : Int), ((0 : Nat), []), (0 : Nat), []))) ∈ idsL enG (markE (List.take (Prod.fst x) d)
  k ++ List.drop (Prod.fst x) d) ∧ (∀ (x_1 : (Nat × List Int) × Int × (Nat × List Int) × Nat × List Int), x_1 ∈ markE (List.take (Prod.fst x) d) k ++ List.drop (Prod.fst x) d → lensG (Prod.fst (Prod.fst (List.getD (markE
  (List.take (Prod.fst x) d) k ++ List.drop (Prod.fst x) d) (Int.toNat (↑(Prod.fst x) : Int)) (((0 : Nat), []), (0 : Int), ((0 : Nat), []), (0 : Nat), [])))) byT (List.length (Prod.snd (Prod.fst (List.getD (markE
  (List.take (Prod.fst x) d) k ++ List.drop (Prod.fst x) d) (Int.toNat (↑(Prod.fst x) : Int)) (((0 : Nat), []), (0 : Int), ((0 : Nat), []), (0 : Nat), []))))) enG x_1) ∧ True) ∧ (Prod.snd (Prod.fst (List.getD (markE
  (List.take (Prod.fst x) d) k ++ List.drop (Prod.fst x) d) (Int.toNat (↑(Prod.fst x) : Int)) (((0 : Nat), []), (0 : Int), ((0 : Nat), []), (0 : Nat), []))) = [] → True) ∧ ∃ (x' : Unit), True ∧ (end8 (Prod.snd (Prod.fst
  (List.getD (markE (List.take (Prod.fst x) d) k ++ List.drop (Prod.fst x) d) (Int.toNat (↑(Prod.fst x) : Int)) (((0 : Nat), []), (0 : Int), ((0 : Nat), []), (0 : Nat), [])))) (Prod.snd x) = e1F (List.getD d (Prod.fst x)
  eg0) (Prod.snd x) ∧ (↑(Prod.fst x) : Int) = (↑(Prod.fst x) : Int)) ∧ List.map (updG (Prod.fst (Prod.fst (List.getD (markE (List.take (Prod.fst x) d) k ++ List.drop (Prod.fst x) d) (Int.toNat (↑(Prod.fst x) : Int)) (((0
  : Nat), []), (0 : Int), ((0 : Nat), []), (0 : Nat), [])))) byT (MC.G fL_markByteSC (castL (Eq.refl byT) (Prod.snd (Prod.fst (List.getD (markE (List.take (Prod.fst x) d) k ++ List.drop (Prod.fst x) d) (Int.toNat
  (↑(Prod.fst x) : Int)) (((0 : Nat), []), (0 : Int), ((0 : Nat), []), (0 : Nat), []))))) (Prod.snd x)) enG) (markE (List.take (Prod.fst x) d) k ++ List.drop (Prod.fst x) d) = rowE d k (Prod.fst x) (m1E (List.getD d
  (Prod.fst x) eg0) (Prod.snd x))) ∧ ∀ (x_1 : Unit), True → (((0 : Int) ≤ (↑(Prod.fst x) : Int) ∧ (↑(Prod.fst x) : Int) < (↑(List.length (rowE d k (Prod.fst x) (m1E (List.getD d (Prod.fst x) eg0) (Prod.snd x)))) : Int))
  ∧ ∃ (x' : Unit), True ∧ (e1F (List.getD d (Prod.fst x) eg0) (Prod.snd x) = e1F (List.getD d (Prod.fst x) eg0) (Prod.snd x) ∧ (↑(Prod.fst x) : Int) = (↑(Prod.fst x) : Int)) ∧ List.set (rowE d k (Prod.fst x) (m1E
  (List.getD d (Prod.fst x) eg0) (Prod.snd x))) (Int.toNat (↑(Prod.fst x) : Int)) (Prod.fst (List.getD (rowE d k (Prod.fst x) (m1E (List.getD d (Prod.fst x) eg0) (Prod.snd x))) (Int.toNat (↑(Prod.fst x) : Int)) (((0 :
  Nat), []), (0 : Int), ((0 : Nat), []), (0 : Nat), [])), e1F (List.getD d (Prod.fst x) eg0) (Prod.snd x), Prod.snd (Prod.snd (List.getD (rowE d k (Prod.fst x) (m1E (List.getD d (Prod.fst x) eg0) (Prod.snd x)))
  (Int.toNat (↑(Prod.fst x) : Int)) (((0 : Nat), []), (0 : Int), ((0 : Nat), []), (0 : Nat), [])))) = rowE d k (Prod.fst x) (m2E (List.getD d (Prod.fst x) eg0) (Prod.snd x))) ∧ ∀ (x_2 : Unit), True → (((0 : Int) ≤
  (↑(Prod.fst x) : Int) ∧ (↑(Prod.fst x) : Int) < (↑(List.length (rowE d k (Prod.fst x) (m2E (List.getD d (Prod.fst x) eg0) (Prod.snd x)))) : Int)) ∧ True ∧ List.length (mark1 (Prod.snd (Prod.fst (Prod.snd (Prod.snd
  (List.getD (rowE d k (Prod.fst x) (m2E (List.getD d (Prod.fst x) eg0) (Prod.snd x))) (Int.toNat (↑(Prod.fst x) : Int)) (((0 : Nat), []), (0 : Int), ((0 : Nat), []), (0 : Nat), [])))))) (IntKind.wrap IntKind.i64 (e1F
  (List.getD d (Prod.fst x) eg0) (Prod.snd x) + (1 : Int)))) = List.length (Prod.snd (Prod.fst (Prod.snd (Prod.snd (List.getD (rowE d k (Prod.fst x) (m2E (List.getD d (Prod.fst x) eg0) (Prod.snd x))) (Int.toNat
  (↑(Prod.fst x) : Int)) (((0 : Nat), []), (0 : Int), ((0 : Nat), []), (0 : Nat), [])))))) ∧ (Prod.snd (Prod.fst (Prod.snd (Prod.snd (List.getD (rowE d k (Prod.fst x) (m2E (List.getD d (Prod.fst x) eg0) (Prod.snd x)))
  (Int.toNat (↑(Prod.fst x) : Int)) (((0 : Nat), []), (0 : Int), ((0 : Nat), []), (0 : Nat), []))))) ≠ [] → Prod.fst (Prod.fst (Prod.snd (Prod.snd (List.getD (rowE d k (Prod.fst x) (m2E (List.getD d (Prod.fst x) eg0)
  (Prod.snd x))) (Int.toNat (↑(Prod.fst x) : Int)) (((0 : Nat), []), (0 : Int), ((0 : Nat), []), (0 : Nat), []))))) ∈ idsL enG (rowE d k (Prod.fst x) (m2E (List.getD d (Prod.fst x) eg0) (Prod.snd x))) ∧ (∀ (x_3 : (Nat ×
  List Int) × Int × (Nat × List Int) × Nat × List Int), x_3 ∈ rowE d k (Prod.fst x) (m2E (List.getD d (Prod.fst x) eg0) (Prod.snd x)) → lensG (Prod.fst (Prod.fst (Prod.snd (Prod.snd (List.getD (rowE d k (Prod.fst x) (m2E
  (List.getD d (Prod.fst x) eg0) (Prod.snd x))) (Int.toNat (↑(Prod.fst x) : Int)) (((0 : Nat), []), (0 : Int), ((0 : Nat), []), (0 : Nat), [])))))) i64T (List.length (Prod.snd (Prod.fst (Prod.snd (Prod.snd (List.getD
  (rowE d k (Prod.fst x) (m2E (List.getD d (Prod.fst x) eg0) (Prod.snd x))) (Int.toNat (↑(Prod.fst x) : Int)) (((0 : Nat), []), (0 : Int), ((0 : Nat), []), (0 : Nat), []))))))) enG x_3) ∧ True) ∧ (Prod.snd (Prod.fst
  (Prod.snd (Prod.snd (List.getD (rowE d k (Prod.fst x) (m2E (List.getD d (Prod.fst x) eg0) (Prod.snd x))) (Int.toNat (↑(Prod.fst x) : Int)) (((0 : Nat), []), (0 : Int), ((0 : Nat), []), (0 : Nat), []))))) = [] → True) ∧
  ∃ (x' : Unit), True ∧ (end1 (Prod.snd (Prod.fst (Prod.snd (Prod.snd (List.getD (rowE d k (Prod.fst x) (m2E (List.getD d (Prod.fst x) eg0) (Prod.snd x))) (Int.toNat (↑(Prod.fst x) : Int)) (((0 : Nat), []), (0 : Int),
  ((0 : Nat), []), (0 : Nat), [])))))) (IntKind.wrap IntKind.i64 (e1F (List.getD d (Prod.fst x) eg0) (Prod.snd x) + (1 : Int))) = e3F (List.getD d (Prod.fst x) eg0) (Prod.snd x) ∧ (↑(Prod.fst x) : Int) = (↑(Prod.fst x) :
  Int)) ∧ List.map (updG (Prod.fst (Prod.fst (Prod.snd (Prod.snd (List.getD (rowE d k (Prod.fst x) (m2E (List.getD d (Prod.fst x) eg0) (Prod.snd x))) (Int.toNat (↑(Prod.fst x) : Int)) (((0 : Nat), []), (0 : Int), ((0 :
  Nat), []), (0 : Nat), [])))))) i64T (MC.G fL_markIntSC (castL (Eq.refl i64T) (Prod.snd (Prod.fst (Prod.snd (Prod.snd (List.getD (rowE d k (Prod.fst x) (m2E (List.getD d (Prod.fst x) eg0) (Prod.snd x))) (Int.toNat
  (↑(Prod.fst x) : Int)) (((0 : Nat), []), (0 : Int), ((0 : Nat), []), (0 : Nat), []))))))) (IntKind.wrap IntKind.i64 (e1F (List.getD d (Prod.fst x) eg0) (Prod.snd x) + (1 : Int)))) enG) (rowE d k (Prod.fst x) (m2E
  (List.getD d (Prod.fst x) eg0) (Prod.snd x))) = rowE d k (Prod.fst x) (m3E (List.getD d (Prod.fst x) eg0) (Prod.snd x))) ∧ ∀ (x_3 : Unit), True → ((0 : Int) ≤ (↑(Prod.fst x) : Int) ∧ (↑(Prod.fst x) : Int) <
  (↑(List.length (rowE d k (Prod.fst x) (m3E (List.getD d (Prod.fst x) eg0) (Prod.snd x)))) : Int)) ∧ True ∧ List.length (mark1 (Prod.snd (Prod.snd (Prod.snd (Prod.snd (List.getD (rowE d k (Prod.fst x) (m3E (List.getD d
  (Prod.fst x) eg0) (Prod.snd x))) (Int.toNat (↑(Prod.fst x) : Int)) (((0 : Nat), []), (0 : Int), ((0 : Nat), []), (0 : Nat), [])))))) (e3F (List.getD d (Prod.fst x) eg0) (Prod.snd x))) = List.length (Prod.snd (Prod.snd
  (Prod.snd (Prod.snd (List.getD (rowE d k (Prod.fst x) (m3E (List.getD d (Prod.fst x) eg0) (Prod.snd x))) (Int.toNat (↑(Prod.fst x) : Int)) (((0 : Nat), []), (0 : Int), ((0 : Nat), []), (0 : Nat), [])))))) ∧ (Prod.snd
  (Prod.snd (Prod.snd (Prod.snd (List.getD (rowE d k (Prod.fst x) (m3E (List.getD d (Prod.fst x) eg0) (Prod.snd x))) (Int.toNat (↑(Prod.fst x) : Int)) (((0 : Nat), []), (0 : Int), ((0 : Nat), []), (0 : Nat), []))))) ≠ []
  → Prod.fst (Prod.snd (Prod.snd (Prod.snd (List.getD (rowE d k (Prod.fst x) (m3E (List.getD d (Prod.fst x) eg0) (Prod.snd x))) (Int.toNat (↑(Prod.fst x) : Int)) (((0 : Nat), []), (0 : Int), ((0 : Nat), []), (0 : Nat),
  []))))) ∈ idsL enG (rowE d k (Prod.fst x) (m3E (List.getD d (Prod.fst x) eg0) (Prod.snd x))) ∧ (∀ (x_4 : (Nat × List Int) × Int × (Nat × List Int) × Nat × List Int), x_4 ∈ rowE d k (Prod.fst x) (m3E (List.getD d
  (Prod.fst x) eg0) (Prod.snd x)) → lensG (Prod.fst (Prod.snd (Prod.snd (Prod.snd (List.getD (rowE d k (Prod.fst x) (m3E (List.getD d (Prod.fst x) eg0) (Prod.snd x))) (Int.toNat (↑(Prod.fst x) : Int)) (((0 : Nat), []),
  (0 : Int), ((0 : Nat), []), (0 : Nat), [])))))) i64T (List.length (Prod.snd (Prod.snd (Prod.snd (Prod.snd (List.getD (rowE d k (Prod.fst x) (m3E (List.getD d (Prod.fst x) eg0) (Prod.snd x))) (Int.toNat (↑(Prod.fst x) :
  Int)) (((0 : Nat), []), (0 : Int), ((0 : Nat), []), (0 : Nat), []))))))) enG x_4) ∧ True) ∧ (Prod.snd (Prod.snd (Prod.snd (Prod.snd (List.getD (rowE d k (Prod.fst x) (m3E (List.getD d (Prod.fst x) eg0) (Prod.snd x)))
  (Int.toNat (↑(Prod.fst x) : Int)) (((0 : Nat), []), (0 : Int), ((0 : Nat), []), (0 : Nat), []))))) = [] → True) ∧ ∃ (x' : Nat × Int), (Prod.fst x' ≤ List.length d ∧ Prod.snd x' = endE (List.take (Prod.fst x') d) k) ∧
  List.length d - Prod.fst x' < List.length d - Prod.fst x ∧ (end1 (Prod.snd (Prod.snd (Prod.snd (Prod.snd (List.getD (rowE d k (Prod.fst x) (m3E (List.getD d (Prod.fst x) eg0) (Prod.snd x))) (Int.toNat (↑(Prod.fst x) :
  Int)) (((0 : Nat), []), (0 : Int), ((0 : Nat), []), (0 : Nat), [])))))) (e3F (List.getD d (Prod.fst x) eg0) (Prod.snd x)) = Prod.snd x' ∧ IntKind.wrap IntKind.i64 ((↑(Prod.fst x) : Int) + (1 : Int)) = (↑(Prod.fst x') :
  Int)) ∧ List.map (updG (Prod.fst (Prod.snd (Prod.snd (Prod.snd (List.getD (rowE d k (Prod.fst x) (m3E (List.getD d (Prod.fst x) eg0) (Prod.snd x))) (Int.toNat (↑(Prod.fst x) : Int)) (((0 : Nat), []), (0 : Int), ((0 :
  Nat), []), (0 : Nat), [])))))) i64T (MC.G fL_markIntSC (castL (Eq.refl i64T) (Prod.snd (Prod.snd (Prod.snd (Prod.snd (List.getD (rowE d k (Prod.fst x) (m3E (List.getD d (Prod.fst x) eg0) (Prod.snd x))) (Int.toNat
  (↑(Prod.fst x) : Int)) (((0 : Nat), []), (0 : Int), ((0 : Nat), []), (0 : Nat), []))))))) (e3F (List.getD d (Prod.fst x) eg0) (Prod.snd x))) enG) (rowE d k (Prod.fst x) (m3E (List.getD d (Prod.fst x) eg0) (Prod.snd
  x))) = markE (List.take (Prod.fst x') d) k ++ List.drop (Prod.fst x') d) ∧ (decide ((↑(Prod.fst x) : Int) < (↑(List.length (markE (List.take (Prod.fst x) d) k ++ List.drop (Prod.fst x) d)) : Int)) = false → Prod.snd x
  = endE d k ∧ markE (List.take (Prod.fst x) d) k ++ List.drop (Prod.fst x) d = markE d k) := by
  intro d k hw hk hnd _
  have hl : d.length ≤ 9223372036854775807 := hw.1
  rw [idE2] at hnd
  have hG8 : ∀ (l : List Int) (k : Int), MC.G fL_markByteSC (castL (Eq.refl byT) l) k = mark8 l k := fun _ _ => rfl
  have hG1 : ∀ (l : List Int) (k : Int), MC.G fL_markIntSC (castL (Eq.refl i64T) l) k = mark1 l k := fun _ _ => rfl
  simp only [Int.toNat_natCast, idE1, hG8, hG1] at *
  refine ⟨⟨markE_len d k, markE_ids d k⟩, ⟨Nat.zero_le _, rfl⟩, ⟨⟨trivial, rfl⟩, rfl⟩, fun x ⟨h1, h2⟩ => ⟨fun h5 => ?_, fun h5 => ?_⟩⟩
  · obtain ⟨j, kk⟩ := x
    simp only at h1 h2 h5 ⊢
    have hA : (markE (d.take j) k).length = j := by rw [markE_len]; simp [Nat.min_eq_left h1]
    have h6 : j < d.length := by simp [hA] at h5; omega
    have hd : d.drop j = d.getD j eg0 :: d.drop (j + 1) := getD_drop_cons h6
    have hdl : (d.drop (j + 1)).length = d.length - (j + 1) := List.length_drop
    have hsplit : d = d.take j ++ d.getD j eg0 :: d.drop (j + 1) := by rw [← hd, List.take_append_drop]
    have htk : d.take (j + 1) = d.take j ++ [d.getD j eg0] := by rw [List.take_succ_eq_append_getElem h6]; simp [h6]
    have hro : ∀ e, rowE d k j e = markE (d.take j) k ++ e :: d.drop (j + 1) := fun e => rfl
    have hen : endE (d.take (j + 1)) k = nxE (d.getD j eg0) kk := by rw [htk, endE_snoc, ← h2]
    have hma : markE (d.take (j + 1)) k = markE (d.take j) k ++ [elE (d.getD j eg0) kk] := by rw [htk, markE_snoc, ← h2]
    have hAids : (markE (d.take j) k).flatMap idE = (d.take j).flatMap idE := markE_ids _ _
    have hnd2 : ((markE (d.take j) k).flatMap idE ++ (idE (d.getD j eg0) ++ (d.drop (j + 1)).flatMap idE)).Nodup := by
      rw [hAids, ← List.flatMap_cons, ← List.flatMap_append, ← hsplit]; exact hnd
    simp only [hro, hd]
    rw [wrap_succ (by omega)]
    generalize markE (d.take j) k = A at *
    generalize hC0 : d.drop (j + 1) = C at *
    generalize d.getD j eg0 = f at *
    have hg : ∀ (y : EnG), (A ++ y :: C).getD j (((0 : Nat), ([] : List Int)), (0 : Int), ((0 : Nat), ([] : List Int)), (0 : Nat), ([] : List Int)) = y := fun y => getD_mid' hA
    have hlen : ∀ y : EnG, (A ++ y :: C).length = d.length := fun y => by rw [List.length_append, List.length_cons, hA, hdl]; omega
    simp only [hg, set_mid' hA, hlen]
    have hb : (0 : Int) ≤ (j : Int) ∧ (j : Int) < (d.length : Int) := by omega
    have S1 := slot_key hnd2 (new := mark8 f.1.2 kk) (mark8_length _ _)
    have S2 := slot_out (f := m2E f kk) (by rw [idE_m2]; exact hnd2) (new := mark1 f.2.2.1.2 (e2F f kk)) (mark1_length' _ _)
    have S3 := slot_more (f := m3E f kk) (by rw [idE_m3]; exact hnd2) (new := mark1 f.2.2.2.2 (e3F f kk)) (mark1_length' _ _)
    refine ⟨⟨hb, trivial, mark8_length _ _, fun h => ⟨(S1.1 h).1, (S1.1 h).2, trivial⟩, fun _ => trivial, (), trivial, ⟨rfl, trivial⟩, S1.2⟩, fun _ _ => ⟨⟨hb, (), trivial, ⟨trivial, trivial⟩, rfl⟩, fun _ _ => ⟨⟨hb, trivial, mark1_length' _ _, fun h => ⟨(S2.1 h).1, (S2.1 h).2, trivial⟩, fun _ => trivial, (), trivial, ⟨rfl, trivial⟩, S2.2⟩,
      fun _ _ => ⟨hb, trivial, mark1_length' _ _, fun h => ⟨(S3.1 h).1, (S3.1 h).2, trivial⟩, fun _ => trivial, (j + 1, nxE f kk), ⟨by simp only; omega, hen.symm⟩, by simp only; omega, ⟨rfl, rfl⟩, ?_⟩⟩⟩⟩
    show List.map _ _ = markE (d.take (j + 1)) k ++ d.drop (j + 1)
    rw [hma, hC0, List.append_assoc]
    exact S3.2
  · have h6 : x.1 = d.length := by
      have hA : (markE (d.take x.1) k ++ d.drop x.1).length = d.length := by rw [List.length_append, markE_len]; simp; omega
      rw [hA] at h5
      simp at h5; omega
    rw [h6, List.take_length] at h2
    rw [h6, List.take_length, List.drop_length, List.append_nil]
    exact ⟨h2, rfl⟩
theorem v_L_markCache :
  ∀ (d : Int × List ((Nat × List Int) × Int × (Nat × List Int) × Nat × List Int)) (k : Int), Ty.wf cacheG d → IntKind.min IntKind.i64 ≤ k ∧ k ≤ IntKind.max IntKind.i64 → List.Nodup (ids cacheG d) → True → (List.length
  (markE (Prod.snd d) k) = List.length (Prod.snd d) ∧ idsL enG (markE (Prod.snd d) k) = idsL enG (Prod.snd d)) ∧ True ∧ List.Nodup (ids (Ty.sl enG) (Prod.snd d)) ∧ True ∧ endE (Prod.snd d) k = endE (Prod.snd d) k ∧ markE
  (Prod.snd d) k = markE (Prod.snd d) k := by
  intro d k hw hk hnd _
  rw [idE3] at hnd
  simp only [idE1, idE2]
  exact ⟨⟨markE_len _ _, markE_ids _ _⟩, trivial, hnd, trivial, trivial, trivial⟩
theorem v_L_heldEntryS :
  ∀ (d : List (List Int × Int × List Int × List Int) × Int), Ty.wf (Ty.sl entT) (Prod.fst d) ∧ Ty.wf i64T (Prod.snd d) → True → ((0 : Nat) ≤ List.length (Prod.fst d) ∧ heldE (List.drop (0 : Nat) (Prod.fst d)) (Prod.snd
  d) = heldE (Prod.fst d) (Prod.snd d)) ∧ (Prod.fst d = Prod.fst d ∧ Prod.snd d = Prod.snd d ∧ (0 : Int) = (↑(0 : Nat) : Int)) ∧ ∀ (x : Nat × Int), Prod.fst x ≤ List.length (Prod.fst d) ∧ heldE (List.drop (Prod.fst x)
  (Prod.fst d)) (Prod.snd x) = heldE (Prod.fst d) (Prod.snd d) → (decide ((↑(Prod.fst x) : Int) < (↑(List.length (Prod.fst d)) : Int)) = true → ((0 : Int) ≤ (↑(Prod.fst x) : Int) ∧ (↑(Prod.fst x) : Int) < (↑(List.length
  (Prod.fst d)) : Int)) ∧ True ∧ (Ty.wf i64T (held8 (Prod.fst (List.getD (Prod.fst d) (Int.toNat (↑(Prod.fst x) : Int)) ([], (0 : Int), [], []))) (Prod.snd x)) → (decide (held8 (Prod.fst (List.getD (Prod.fst d)
  (Int.toNat (↑(Prod.fst x) : Int)) ([], (0 : Int), [], []))) (Prod.snd x) < (0 : Int)) = true → (-1 : Int) = heldE (Prod.fst d) (Prod.snd d)) ∧ (decide (held8 (Prod.fst (List.getD (Prod.fst d) (Int.toNat (↑(Prod.fst x)
  : Int)) ([], (0 : Int), [], []))) (Prod.snd x) < (0 : Int)) = false → ((0 : Int) ≤ (↑(Prod.fst x) : Int) ∧ (↑(Prod.fst x) : Int) < (↑(List.length (Prod.fst d)) : Int)) ∧ ((!decide (Prod.fst (Prod.snd (List.getD
  (Prod.fst d) (Int.toNat (↑(Prod.fst x) : Int)) ([], (0 : Int), [], []))) = held8 (Prod.fst (List.getD (Prod.fst d) (Int.toNat (↑(Prod.fst x) : Int)) ([], (0 : Int), [], []))) (Prod.snd x))) = true → (-1 : Int) = heldE
  (Prod.fst d) (Prod.snd d)) ∧ ((!decide (Prod.fst (Prod.snd (List.getD (Prod.fst d) (Int.toNat (↑(Prod.fst x) : Int)) ([], (0 : Int), [], []))) = held8 (Prod.fst (List.getD (Prod.fst d) (Int.toNat (↑(Prod.fst x) : Int))
  ([], (0 : Int), [], []))) (Prod.snd x))) = false → ((0 : Int) ≤ (↑(Prod.fst x) : Int) ∧ (↑(Prod.fst x) : Int) < (↑(List.length (Prod.fst d)) : Int)) ∧ True ∧ (Ty.wf i64T (held1 (Prod.fst (Prod.snd (Prod.snd (List.getD
  (Prod.fst d) (Int.toNat (↑(Prod.fst x) : Int)) ([], (0 : Int), [], []))))) (IntKind.wrap IntKind.i64 (held8 (Prod.fst (List.getD (Prod.fst d) (Int.toNat (↑(Prod.fst x) : Int)) ([], (0 : Int), [], []))) (Prod.snd x) +
  (1 : Int)))) → (decide (held1 (Prod.fst (Prod.snd (Prod.snd (List.getD (Prod.fst d) (Int.toNat (↑(Prod.fst x) : Int)) ([], (0 : Int), [], []))))) (IntKind.wrap IntKind.i64 (held8 (Prod.fst (List.getD (Prod.fst d)
  (Int.toNat (↑(Prod.fst x) : Int)) ([], (0 : Int), [], []))) (Prod.snd x) + (1 : Int))) < (0 : Int)) = true → (-1 : Int) = heldE (Prod.fst d) (Prod.snd d)) ∧ (decide (held1 (Prod.fst (Prod.snd (Prod.snd (List.getD
  (Prod.fst d) (Int.toNat (↑(Prod.fst x) : Int)) ([], (0 : Int), [], []))))) (IntKind.wrap IntKind.i64 (held8 (Prod.fst (List.getD (Prod.fst d) (Int.toNat (↑(Prod.fst x) : Int)) ([], (0 : Int), [], []))) (Prod.snd x) +
  (1 : Int))) < (0 : Int)) = false → ((0 : Int) ≤ (↑(Prod.fst x) : Int) ∧ (↑(Prod.fst x) : Int) < (↑(List.length (Prod.fst d)) : Int)) ∧ True ∧ (Ty.wf i64T (held1 (Prod.snd (Prod.snd (Prod.snd (List.getD (Prod.fst d)
  (Int.toNat (↑(Prod.fst x) : Int)) ([], (0 : Int), [], []))))) (held1 (Prod.fst (Prod.snd (Prod.snd (List.getD (Prod.fst d) (Int.toNat (↑(Prod.fst x) : Int)) ([], (0 : Int), [], []))))) (IntKind.wrap IntKind.i64 (held8
  (Prod.fst (List.getD (Prod.fst d) (Int.toNat (↑(Prod.fst x) : Int)) ([], (0 : Int), [], []))) (Prod.snd x) + (1 : Int))))) → (decide (held1 (Prod.snd (Prod.snd (Prod.snd (List.getD (Prod.fst d) (Int.toNat (↑(Prod.fst
  x) : Int)) ([], (0 : Int), [], []))))) (held1 (Prod.fst (Prod.snd (Prod.snd (List.getD (Prod.fst d) (Int.toNat (↑(Prod.fst x) : Int)) ([], (0 : Int), [], []))))) (IntKind.wrap IntKind.i64 (held8 (Prod.fst (List.getD
  (Prod.fst d) (Int.toNat (↑(Prod.fst x) : Int)) ([], (0 : Int), [], []))) (Prod.snd x) + (1 : Int)))) < (0 : Int)) = true → (-1 : Int) = heldE (Prod.fst d) (Prod.snd d)) ∧ (decide (held1 (Prod.snd (Prod.snd (Prod.snd
  (List.getD (Prod.fst d) (Int.toNat (↑(Prod.fst x) : Int)) ([], (0 : Int), [], []))))) (held1 (Prod.fst (Prod.snd (Prod.snd (List.getD (Prod.fst d) (Int.toNat (↑(Prod.fst x) : Int)) ([], (0 : Int), [], [])))))
  (IntKind.wrap IntKind.i64 (held8 (Prod.fst (List.getD (Prod.fst d) (Int.toNat (↑(Prod.fst x) : Int)) ([], (0 : Int), [], []))) (Prod.snd x) + (1 : Int)))) < (0 : Int)) = false → ∃ (x' : Nat × Int), (Prod.fst x' ≤
  List.length (Prod.fst d) ∧ heldE (List.drop (Prod.fst x') (Prod.fst d)) (Prod.snd x') = heldE (Prod.fst d) (Prod.snd d)) ∧ List.length (Prod.fst d) - Prod.fst x' < List.length (Prod.fst d) - Prod.fst x ∧ Prod.fst d =
  Prod.fst d ∧ held1 (Prod.snd (Prod.snd (Prod.snd (List.getD (Prod.fst d) (Int.toNat (↑(Prod.fst x) : Int)) ([], (0 : Int), [], []))))) (held1 (Prod.fst (Prod.snd (Prod.snd (List.getD (Prod.fst d) (Int.toNat (↑(Prod.fst
  x) : Int)) ([], (0 : Int), [], []))))) (IntKind.wrap IntKind.i64 (held8 (Prod.fst (List.getD (Prod.fst d) (Int.toNat (↑(Prod.fst x) : Int)) ([], (0 : Int), [], []))) (Prod.snd x) + (1 : Int)))) = Prod.snd x' ∧
  IntKind.wrap IntKind.i64 ((↑(Prod.fst x) : Int) + (1 : Int)) = (↑(Prod.fst x') : Int))))))))) ∧ (decide ((↑(Prod.fst x) : Int) < (↑(List.length (Prod.fst d)) : Int)) = false → Prod.snd x = heldE (Prod.fst d) (Prod.snd
  d)) := by
  intro d hw hp
  obtain ⟨xs, k⟩ := d
  have hl : xs.length ≤ 9223372036854775807 := hw.1.1
  simp only [Int.toNat_natCast, exists_const, and_true, true_and, implies_true, decide_eq_true_eq, decide_eq_false_iff_not, Bool.not_eq_true', Bool.not_eq_false', beq_iff_eq, forall_const]
  refine ⟨⟨Nat.zero_le _, rfl⟩, rfl, fun x ⟨h1, h2⟩ => ⟨fun h3 => ?_, fun h3 => ?_⟩⟩
  · have h4 : x.1 < xs.length := by omega
    rw [getD_drop_cons (x := (([] : List Int), (0 : Int), ([] : List Int), ([] : List Int))) h4] at h2
    have hb : (0 : Int) ≤ (x.1 : Int) ∧ (x.1 : Int) < (xs.length : Int) := ⟨by omega, h3⟩
    rw [wrap_succ (by omega)]
    generalize heldE xs k = r at h2 ⊢
    unfold heldE at h2
    generalize xs.getD x.1 (([] : List Int), (0 : Int), ([] : List Int), ([] : List Int)) = y at *
    have e1 : IntKind.i64.wrap (held8 y.1 x.2 + 1) = w64 (held8 y.1 x.2 + 1) := rfl
    rw [e1]
    generalize held8 y.1 x.2 = a at *
    refine ⟨hb, fun _ => ⟨fun h5 => ?_, fun h5 => ⟨hb, fun h6 => ?_, fun h6 => ⟨hb, fun _ => ?_⟩⟩⟩⟩
    · rw [if_pos h5] at h2; exact h2
    · rw [if_neg h5, if_neg h6] at h2; exact h2
    · rw [if_neg h5, if_pos h6] at h2
      generalize held1 y.2.2.1 (w64 (a + 1)) = b at *
      refine ⟨fun h7 => ?_, fun h7 => ⟨hb, fun _ => ?_⟩⟩
      · rw [if_pos h7] at h2; exact h2
      · rw [if_neg h7] at h2
        generalize held1 y.2.2.2 b = c at *
        refine ⟨fun h8 => ?_, fun h8 => ⟨(x.1 + 1, c), ⟨by simp only; omega, ?_⟩, by simp only; omega, rfl, rfl⟩⟩
        · rw [if_pos h8] at h2; exact h2
        · rw [if_neg h8] at h2; exact h2
  · have h4 : x.1 = xs.length := by omega
    rw [h4, List.drop_length] at h2
    exact h2
theorem v_L_heldCache :
  ∀ (d : (Int × List (List Int × Int × List Int × List Int)) × Int), Ty.wf cacheT (Prod.fst d) ∧ Ty.wf i64T (Prod.snd d) → True → True ∧ (Ty.wf i64T (heldE (Prod.snd (Prod.fst d)) (Prod.snd d)) → (decide (heldE (Prod.snd
  (Prod.fst d)) (Prod.snd d) < (0 : Int)) = true → (-1 : Int) = neg1 (heldE (Prod.snd (Prod.fst d)) (Prod.snd d))) ∧ (decide (heldE (Prod.snd (Prod.fst d)) (Prod.snd d) < (0 : Int)) = false → heldE (Prod.snd (Prod.fst
  d)) (Prod.snd d) = neg1 (heldE (Prod.snd (Prod.fst d)) (Prod.snd d)))) := by
  intro d _ _
  unfold neg1
  grind
end Go.SF
