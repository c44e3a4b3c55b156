/- slices.Delete on a row that the caller owns: the rule, and what a walk of its body must show. No condition. -/
import Derived.Test.YtdfdoigiehmnoaaSx28
import Derived.Lib.SliceRun
import Derived.Deep.RegionLaw
import Derived.Lib.SlicesDelete
import Derived.Laws.Rows
namespace Go.SX
open Go.RowKit Go.Lib
set_option linter.unusedVariables false
set_option linter.unusedSimpArgs false
variable {P : Program}

/-- 'clear' of places of many cells each. -/
theorem run_clear_many (w : World) (t e ty : TypeId) (z : Value) (ht : P.underlying t = some (.slice e)) (hv : ∀ w, (zeroValue e).run P w = .ok z w) (h1 : ∀ u ∈ z.cells, u.oneCell' = true) (hpos : 0 < z.cells.size) (b o n c : Nat) (hn : 0 < n)
    (hc : ∀ j, j < n * z.cells.size → (w.cell? ⟨b, o + j, none⟩).isSome = true) (hf : ∀ j, j < n * z.cells.size → w.frozen? ⟨b, o + j, none⟩ = false) :
    (Builtin.clear_ #[t] ty #[.slice (some ⟨b, o, none⟩) n c]).run P w = .ok (.tuple #[]) (w.setCells b o (Builtin.zeroCells z.cells n).toList) := by
  have hl : (Builtin.zeroCells z.cells n).toList.length = n * z.cells.size := by simp [Builtin.zeroCells]
  have hst := run_storeCells_cells (P := P) b o (Builtin.zeroCells z.cells n).toList 0 w (by rw [hl]; simpa using hc) (by rw [hl]; simpa using hf) (by
    intro v hv'
    simp only [Builtin.zeroCells, Array.toList_map, List.mem_map] at hv'
    obtain ⟨i, _, rfl⟩ := hv'
    have : i % z.cells.size < z.cells.size := Nat.mod_lt _ hpos
    rw [getElem!_pos z.cells _ this]
    exact h1 _ (Array.getElem_mem this))
  simp only [Nat.add_zero] at hst
  obtain ⟨m, rfl⟩ : ∃ m, n = m + 1 := ⟨n - 1, by omega⟩
  simp [Builtin.clear_, run_underlying ht, hv, hst]

theorem setCells_frame (g : Nat) : ∀ (vs : List Value) (o : Nat) (w : World), (w.setCells g o vs).heap.size = w.heap.size ∧ (∀ b, b ≠ g → (w.setCells g o vs).heap[b]? = w.heap[b]?) ∧
    (w.setCells g o vs).os = w.os ∧ (w.setCells g o vs).tape = w.tape ∧ (w.setCells g o vs).output = w.output
  | [], _, _ => ⟨rfl, fun _ _ => rfl, rfl, rfl, rfl⟩
  | v :: r, o, w => by
    obtain ⟨h1, h2, h3, h4, h5⟩ := setCells_frame g r (o + 1) (w.setCell ⟨g, o, none⟩ v)
    refine ⟨h1.trans (World.size_setCell ..), fun b hb => (h2 b hb).trans ?_, h3, h4, h5⟩
    exact heap_setCell_other w ⟨g, o, none⟩ b v hb

theorem setCells_block (g : Nat) (el : TypeId) : ∀ (vs : List Value) (o : Nat) (w : World) (vals : Array Value), w.heap[g]? = some (.cells vals el (0, 0)) → o + vs.length ≤ vals.size →
    ∃ vals', (w.setCells g o vs).heap[g]? = some (.cells vals' el (0, 0)) ∧ vals'.size = vals.size ∧ ∀ k, vals'[k]? = if o ≤ k ∧ k < o + vs.length then vs[k - o]? else vals[k]?
  | [], o, w, vals, h, _ => ⟨vals, h, rfl, fun k => by rw [if_neg (by rw [List.length_nil]; omega)]⟩
  | v :: r, o, w, vals, h, hl => by
    rw [List.length_cons] at hl
    have h1 := heap_setCell_same w g o vals el v h
    obtain ⟨vals', k1, k2, k3⟩ := setCells_block g el r (o + 1) _ _ h1 (by rw [Array.size_setIfInBounds]; omega)
    refine ⟨vals', k1, by rw [k2]; simp, fun k => ?_⟩
    rw [k3 k, List.length_cons]
    by_cases hk : o = k
    · subst hk
      rw [if_neg (by omega), if_pos (by omega)]
      rw [Array.getElem?_setIfInBounds_self_of_lt (by omega)]; simp
    · by_cases hk2 : o + 1 ≤ k ∧ k < o + 1 + r.length
      · rw [if_pos hk2, if_pos (by omega), show k - o = (k - (o + 1)) + 1 by omega]
        simp
      · rw [if_neg hk2, if_neg (by omega)]
        simp [Array.getElem?_setIfInBounds, hk]

/-- What a walk of 'slices.Delete' at places of 'sz' cells must show. -/
structure DelRun (P : Program) (f : FuncId) (sz : Nat) : Prop where
  same : ∀ (v : Value) (i : Nat) (w : World), (v = .slice none 0 0 ∧ i = 0 ∨ ∃ blk n cap, v = .slice (some ⟨blk, 0, none⟩) n cap ∧ n ≤ cap ∧ i ≤ n) →
    Calls P f #[v, .int .i64 i, .int .i64 i] w fun e w' => e = .returned v ∧ w' = w
  cut : ∀ (blk n cap i j : Nat) (news : List Value) (w : World), n ≤ cap → i < j → j ≤ n → news.length = (n - j) * sz →
    (∀ t u, news[t]? = some u → w.cell? ⟨blk, j * sz + t, none⟩ = some u) → (∀ u ∈ news, u.oneCell' = true) →
    (∀ t, t < n * sz → (w.cell? ⟨blk, t, none⟩).isSome = true ∧ w.frozen? ⟨blk, t, none⟩ = false) →
    Calls P f #[.slice (some ⟨blk, 0, none⟩) n cap, .int .i64 i, .int .i64 j] w fun e w' => e = .returned (.slice (some ⟨blk, 0, none⟩) (i + (n - j)) cap) ∧
      ∃ zs : List Value, zs.length = (n - (i + (n - j))) * sz ∧ w' = (w.drew.setCells blk (i * sz) news).setCells blk ((i + (n - j)) * sz) zs

/-- 'slices.Delete' of a row that the caller owns. -/
def delRule (e : Ty) : Rule := fun ss st K =>
  match ss with
  | [.c (.own m), .c (.val (.int .i64 i)), .c (.val (.int .i64 j))] =>
    match st.ent m with
    | .row true e' xs =>
      if h : e' = e then
        (0 ≤ i ∧ i ≤ j ∧ j ≤ (xs.length : Nat)) ∧
          K (.c (.own m)) { (st.map (killO m)) with hp := lset (st.map (killO m)).hp m (.row true e ((castL h xs).take i.toNat ++ (castL h xs).drop j.toNat)) }
      else False
    | _ => False
  | _ => False

theorem cell_block {w : World} {g : Nat} {vals : Array Value} {el : TypeId} (h : w.heap[g]? = some (.cells vals el (0, 0))) (j : Nat) : w.cell? ⟨g, j, none⟩ = vals[j]? ∧ w.frozen? ⟨g, j, none⟩ = false := by
  constructor
  · simp [World.cell?, h]
  · simp [World.frozen?, h]

theorem del_rule {f : FuncId} {e : Ty} (D : DelRun P f e.size) : RuleOk P f (delRule e) := by
  intro base M w0 V st ts w ss vs K r hlen hss hr
  unfold delRule at hr
  split at hr
  case h_2 => exact hr.elim
  rename_i m i j
  split at hr
  case h_2 => exact hr.elim
  rename_i e' xs hm
  split at hr
  case isFalse => exact hr.elim
  rename_i he
  subst he
  obtain ⟨⟨hi0, hij, hjl⟩, hK⟩ := hr
  simp only [castL] at hK
  obtain ⟨v0, v1, v2, rfl⟩ : ∃ v0 v1 v2, vs = [v0, v1, v2] := by
    match vs, hlen with
    | [a, b, c], _ => exact ⟨a, b, c, rfl⟩
  have k0 := hss 0 _ _ rfl rfl
  have k1 := hss 1 _ _ rfl rfl
  have k2 := hss 2 _ _ rfl rfl
  obtain ⟨rfl, _⟩ := (k1 : v1 = .int .i64 i ∧ _)
  obtain ⟨rfl, _⟩ := (k2 : v2 = .int .i64 j ∧ _)
  obtain ⟨fr0, e9, xs0, hm0, hrow⟩ := k0
  rw [hm] at hm0
  injection hm0 with q1 q2 q3
  subst q1; subst q2
  have q3 := eq_of_heq q3
  subst q3
  obtain ⟨i, rfl⟩ := Int.eq_ofNat_of_zero_le hi0
  obtain ⟨j, rfl⟩ := Int.eq_ofNat_of_zero_le (show 0 ≤ j by omega)
  simp only [Int.toNat_natCast] at hK
  have hij' : i ≤ j := by omega
  have hjl' : j ≤ xs.length := by omega
  have hrk := r.mem.ents m
  rw [hm] at hrk
  have hl : (st.ent m).live = true := by rw [hm]; rfl
  have hlt : m < st.hp.length := ent_lt hl
  have hent : (St.mk (st.map (killO m)).ts (lset (st.map (killO m)).hp m (.row true e' (xs.take i ++ xs.drop j)))).ent m = .row true e' (xs.take i ++ xs.drop j) := by
    rw [ent_set (by show m < (lmap _ _).length; rw [lmap_eq, List.length_map]; exact hlt)]
    simp only [hpSet, if_true]
  have hnl : (xs.take i ++ xs.drop j).length = i + (xs.length - j) := by rw [List.length_append, List.length_take, List.length_drop]; omega
  by_cases heq : i = j
  · subst heq
    have hnew : xs.take i ++ xs.drop i = xs := List.take_append_drop i xs
    rw [hnew] at hK hent
    refine (D.same v0 i w ?_).mono ?_
    · rcases hrow with ⟨h1, h2, h3⟩ | ⟨h1, cap, vals, el, h2, h3, h4, h5⟩
      · exact .inl ⟨h2, by omega⟩
      · exact .inr ⟨_, _, _, h2, h5, hjl'⟩
    · rintro e1 w1 ⟨rfl, rfl⟩
      refine ⟨v0, rfl, V, _, _, hK, ?_, ⟨true, e', xs, hent, hrow⟩⟩
      refine rel_row r hm r.mem.kept (Nat.le_refl _) (fun _ _ _ => rfl) (fun _ _ => ⟨rfl, Iff.rfl⟩) rfl rfl (fun hp' _ => hrk) (fun hh => ?_) (fun _ hh => r.mem.mine m e' xs hm hh) (fun h _ => h.elim)
      obtain ⟨q1, q2, _⟩ := r.mem.own m hl hh
      exact ⟨q1, q2, .inr ⟨hh, rfl⟩⟩
  · have hlt' : i < j := by omega
    rcases hrow with ⟨h1, h2, h3⟩ | ⟨h1, cap, vals, el, h2, h3, h4, h5⟩
    · omega
    rcases hrk with ⟨g1, _⟩ | ⟨_, vals2, el2, g2, g3, g4⟩
    · exact absurd h1 g1
    rw [h3] at g2
    injection g2 with g2
    injection g2 with g2a g2b _
    subst g2a; subst g2b
    have hsz : ∀ a, a ≤ xs.length → a * e'.size ≤ vals.size := fun a ha => by rw [h4]; exact Nat.mul_le_mul_right _ (by omega)
    -- the cells that move
    obtain ⟨news, hnews⟩ : ∃ news, news = (vals.toList.drop (j * e'.size)).take ((xs.length - j) * e'.size) := ⟨_, rfl⟩
    have hjn : j * e'.size + (xs.length - j) * e'.size = xs.length * e'.size := by rw [← Nat.add_mul]; congr 1; omega
    have hnlen : news.length = (xs.length - j) * e'.size := by
      have hvl : vals.toList.length = vals.size := Array.length_toList
      rw [hnews, List.length_take, List.length_drop, hvl]
      have := hsz xs.length (Nat.le_refl _)
      omega
    have hnget : ∀ t, t < (xs.length - j) * e'.size → news[t]? = vals[j * e'.size + t]? := by
      intro t ht
      rw [hnews, List.getElem?_take, if_pos ht, List.getElem?_drop, Array.getElem?_toList]
    have hone : ∀ u ∈ news, u.oneCell' = true := by
      intro u hu
      obtain ⟨t, hu⟩ := List.mem_iff_getElem?.1 hu
      have ht := (List.getElem?_eq_some_iff.1 hu).1
      rw [hnlen] at ht
      rw [hnget t ht] at hu
      have hpos := e'.size_pos
      have hx : j + t / e'.size < xs.length := by
        have := (Nat.div_lt_iff_lt_mul hpos).2 ht
        omega
      obtain ⟨es, p1, p2, p3⟩ := g4 (j + t / e'.size) hx
      have hmod : t % e'.size < es.length := by rw [p1]; exact Nat.mod_lt _ hpos
      have := p2 (t % e'.size) _ (List.getElem?_eq_getElem hmod)
      rw [show (j + t / e'.size) * e'.size + t % e'.size = j * e'.size + t by rw [Nat.add_mul, Nat.add_assoc, Nat.div_add_mod']] at this
      rw [this] at hu
      injection hu with hu
      subst hu
      exact p3.oneCell _ (List.getElem_mem hmod)
    rw [h2]
    refine (D.cut (V.blk m) xs.length cap i j news w h5 hlt' hjl' hnlen (fun t u hu => ?_) hone (fun t ht => ?_)).mono ?_
    · have ht := (List.getElem?_eq_some_iff.1 hu).1
      rw [hnlen] at ht
      rw [(cell_block h3 _).1, ← hnget t ht]; exact hu
    · have := hsz xs.length (Nat.le_refl _)
      refine ⟨?_, (cell_block h3 _).2⟩
      rw [(cell_block h3 _).1, Array.getElem?_eq_getElem (by omega)]; rfl
    · rintro e1 w1 ⟨rfl, zs, hzl, rfl⟩
      have hin : i * e'.size + news.length ≤ vals.size := by
        rw [hnlen, ← Nat.add_mul]; exact hsz _ (by omega)
      obtain ⟨va, a1, a2, a3⟩ := setCells_block (V.blk m) el news (i * e'.size) w.drew vals h3 hin
      obtain ⟨vb, b1, b2, b3⟩ := setCells_block (V.blk m) el zs ((i + (xs.length - j)) * e'.size) _ va a1 (by rw [hzl, a2, ← Nat.add_mul]; exact hsz _ (by omega))
      obtain ⟨c1, c2, c3, c4, c5⟩ := setCells_frame (V.blk m) news (i * e'.size) w.drew
      obtain ⟨d1, d2, d3, d4, d5⟩ := setCells_frame (V.blk m) zs ((i + (xs.length - j)) * e'.size) (w.drew.setCells (V.blk m) (i * e'.size) news)
      have hother : ∀ b, b ≠ V.blk m → ((w.drew.setCells (V.blk m) (i * e'.size) news).setCells (V.blk m) ((i + (xs.length - j)) * e'.size) zs).heap[b]? = w.heap[b]? := fun b hb => (d2 b hb).trans (c2 b hb)
      obtain ⟨o1, o2, o3⟩ := r.mem.own m hl h1
      refine ⟨_, rfl, V, _, _, hK, ?_, ⟨true, e', _, hent, .inr ⟨h1, cap, vb, el, by rw [hnl], b1, by rw [b2, a2, h4], by rw [hnl]; omega⟩⟩⟩
      refine rel_row r hm ?_ (by rw [d1, c1]; exact Nat.le_refl _) (fun b _ hb => hother b (hb h1)) (fun _ _ => ⟨rfl, Iff.rfl⟩) rfl rfl (fun hp' _ => ?_) (fun hh => ⟨o1, by rw [d1, c1]; exact o2, .inr ⟨hh, rfl⟩⟩) (fun _ hh => r.mem.mine m e' xs hm hh) (fun h _ => h.elim)
      · refine ⟨d3.trans (c3.trans r.mem.kept.os), d4.trans (c4.trans r.mem.kept.tape), d5.trans (c5.trans r.mem.kept.output), by rw [d1, c1]; exact r.mem.kept.size, fun b hb hM => ?_, fun b vals0 el0 hb hM hv0 => ?_⟩
        · rw [hother b (fun e => by subst e; rcases o1 with h | h; omega; exact hM h)]
          exact r.mem.kept.block b hb hM
        · obtain ⟨vals1, el1, j1, j2⟩ := r.mem.kept.shape b vals0 el0 hb hM hv0
          by_cases hbg : b = V.blk m
          · subst hbg
            rw [h3] at j1
            injection j1 with j1
            injection j1 with j1 _ _
            subst j1
            exact ⟨vb, el, b1, by rw [b2, a2]; exact j2⟩
          · exact ⟨vals1, el1, by rw [hother b hbg]; exact j1, j2⟩
      · refine .inr ⟨h1, vb, el, b1, by rw [hnl]; omega, fun x hx => ?_⟩
        rw [hnl] at hx
        have hag : ∀ {f : Bool} {b : Nat}, V.Z f b → ((w.drew.setCells (V.blk m) (i * e'.size) news).setCells (V.blk m) ((i + (xs.length - j)) * e'.size) zs).heap[b]? = w.heap[b]? := fun hb => hother _ (fun e => by subst e; exact o3 (Vl.Z_all hb))
        have hcell : ∀ k, k < e'.size → vb[x * e'.size + k]? = vals[(if x < i then x else x + (j - i)) * e'.size + k]? := by
          intro k hk
          have hxb : x * e'.size + k < (i + (xs.length - j)) * e'.size := by
            have : (x + 1) * e'.size ≤ (i + (xs.length - j)) * e'.size := Nat.mul_le_mul_right _ (by omega)
            rw [Nat.add_mul, Nat.one_mul] at this
            omega
          rw [b3, if_neg (by omega), a3]
          by_cases hxi : x < i
          · have : (x + 1) * e'.size ≤ i * e'.size := Nat.mul_le_mul_right _ (by omega)
            rw [Nat.add_mul, Nat.one_mul] at this
            rw [if_neg (by omega), if_pos hxi]
          · have h6 : i * e'.size ≤ x * e'.size := Nat.mul_le_mul_right _ (by omega)
            have h7 : (i + (xs.length - j)) * e'.size = i * e'.size + news.length := by rw [hnlen, Nat.add_mul]
            rw [if_pos (by omega), if_neg hxi, hnget _ (by omega)]
            congr 1
            rw [show x + (j - i) = j + (x - i) by omega, Nat.add_mul, show x * e'.size = i * e'.size + (x - i) * e'.size by rw [← Nat.add_mul]; congr 1; omega]
            omega
        obtain ⟨es, p1, p2, p3⟩ := g4 (if x < i then x else x + (j - i)) (by split <;> omega)
        refine ⟨es, p1, fun k u hu => ?_, ?_⟩
        · have hk := (List.getElem?_eq_some_iff.1 hu).1
          rw [hcell k (by omega)]
          exact p2 k u hu
        · have hxe : (xs.take i ++ xs.drop j)[x]'(by omega) = xs[if x < i then x else x + (j - i)]'(by split <;> omega) := by
            rw [List.getElem_append]
            by_cases hxi : x < i
            · simp only [List.length_take, hxi]
              rw [dif_pos (by omega)]
              simp
            · rw [dif_neg (by rw [List.length_take]; omega)]
              simp only [List.getElem_drop, hxi, if_false]
              congr 1
              rw [List.length_take]
              omega
          rw [hxe]
          exact p3.mono (fun b hb => hb) (fun b hb => hag hb)
end Go.SX
