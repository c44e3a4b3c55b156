/- Append. No condition. -/
import Derived.Test.YtdfdoigiehmnoaaSx16
namespace Go.SX
open Go.RowKit
set_option linter.unusedVariables false
set_option linter.unusedSimpArgs false

section
variable {P : Program} {T : Tab} {base : Nat} {M : LM} {w0 : World} {V : Vl} {hp : Nat → Ent} {w : World} {a : Act} {next : Act → World → Prop} {Q : Exit → Act → World → Prop}

theorem cellsOf_block {g : Nat} {vals : Array Value} {el : TypeId} {fr : Nat × Nat} (h : w.heap[g]? = some (.cells vals el fr)) (j : Nat) : w.cell? ⟨g, j, none⟩ = vals[j]? := by
  simp [World.cell?, h]

/-- What an append leaves: 'olds' and behind them 'news'. -/
inductive Appended (w w' : World) (v v' : Value) (sz k : Nat) (all : List Value) : Prop where
  | same (h1 : v' = v) (h2 : w' = w)
  | row (g cap : Nat) (vals : Array Value) (el : TypeId) (h1 : v' = .slice (some ⟨g, 0, none⟩) k cap) (h2 : w'.heap[g]? = some (.cells vals el (0, 0))) (h3 : vals.size = cap * sz) (h4 : k ≤ cap)
      (h5 : vals.toList.take (k * sz) = all) (h6 : (∃ l, v = .slice (some ⟨g, 0, none⟩) l cap ∧ g < w.heap.size ∧ w'.heap.size = w.heap.size) ∨ (g = w.heap.size ∧ w'.heap.size = w.heap.size + 1))
      (h7 : ∀ b, b ≠ g → b < w.heap.size → w'.heap[b]? = w.heap[b]?) (h8 : w'.os = w.os ∧ w'.tape = w.tape ∧ w'.output = w.output)

theorem run_append_zero {t ty te : TypeId} {i : TypeInfo} (ht : P.underlying t = some (.slice te)) (hi : P.info? te = some i) (bs aa : Option Addr) (h cap c : Nat) (hc : h ≤ cap) :
    (Builtin.append_ #[t, t] ty #[.slice bs h cap, .slice aa 0 c]).run P w = .ok (.slice bs h cap) w := by
  cases bs <;> cases aa <;> simp [Builtin.append_, run_underlying ht, sizeOf, typeInfo, hi, Builtin.lenOf, Builtin.firstCells, loadCells, loadCellsFrom, hc, storeCells]

theorem run_append_any {t ty te : TypeId} {i : TypeInfo} {z : Value} (ht : P.underlying t = some (.slice te)) (hi : P.info? te = some i) (hz : i.zero = some z) (hzs : z.cells.size = i.size) (hpos : 0 < i.size)
    {v : Value} {h cap : Nat} {g : Nat} {vals : Array Value} {el : TypeId}
    (hv : (v = .slice none 0 0 ∧ h = 0 ∧ vals = #[]) ∨ (v = .slice (some ⟨g, 0, none⟩) h cap ∧ w.heap[g]? = some (.cells vals el (0, 0)) ∧ vals.size = cap * i.size ∧ h ≤ cap))
    {aa : Option Addr} {m c : Nat} {news : List Value} (hl : news.length = m * i.size) (hnews : 0 < m → ∃ b o, aa = some ⟨b, o, none⟩ ∧ ∀ (j : Nat) u, news[j]? = some u → w.cell? ⟨b, o + j, none⟩ = some u)
    (h1 : ∀ u ∈ news, u.oneCell' = true) (h63 : h + m ≤ 9223372036854775807) (hb : (h + m) * i.bytes ≤ 140737488355328) :
    ∃ v' w', (Builtin.append_ #[t, t] ty #[v, .slice aa m c]).run P w = .ok v' w' ∧ Appended w w' v v' i.size (h + m) (vals.toList.take (h * i.size) ++ news) ∧ (0 < m → ∃ g' cap', v' = .slice (some ⟨g', 0, none⟩) (h + m) cap') ∧ (m = 0 → v' = v ∧ w' = w) := by
  by_cases hm : m = 0
  · subst hm
    have hn : news = [] := List.eq_nil_of_length_eq_zero (by simpa using hl)
    subst hn
    rcases hv with ⟨rfl, rfl, rfl⟩ | ⟨rfl, _, _, h4⟩
    · exact ⟨_, w, run_append_zero ht hi none aa 0 0 c (Nat.le_refl _), .same rfl rfl, fun h => absurd h (by omega), fun _ => ⟨rfl, rfl⟩⟩
    · exact ⟨_, w, run_append_zero ht hi _ aa h cap c h4, .same rfl rfl, fun h => absurd h (by omega), fun _ => ⟨rfl, rfl⟩⟩
  · obtain ⟨b, o, rfl, hn⟩ := hnews (by omega)
    have hn' : ∀ (j : Nat) u, news[j]? = some u → w.cell? ((⟨b, o, none⟩ : Addr).add j) = some u := fun j u hu => by rw [add_mk]; exact hn j u hu
    rcases hv with ⟨rfl, rfl, rfl⟩ | ⟨rfl, k2, k3, k4⟩
    · have hr := run_append_nil (P := P) w t ty te i z ht hi hz ⟨b, o, none⟩ m c news hl hn' (by omega) (by omega) (by simp only [Nat.zero_add] at hb; omega)
      have hge := grownCap_ge w m 0 te
      refine ⟨_, _, hr, .row w.heap.size (grownCap w m 0 te) _ te (by simp) (heap_new w.drew _) ?_ (by omega) ?_ (.inr ⟨rfl, by simp [World.alloc, heap_drew]⟩) (fun q hq hlt => ?_) ⟨rfl, rfl, rfl⟩, fun _ => ⟨w.heap.size, grownCap w m 0 te, by simp⟩, fun h => absurd h hm⟩
      · simp only [Array.size_append, List.size_toArray, size_zeroCells, hzs, hl, ← Nat.add_mul]
        congr 1; omega
      · simp only [Array.toList_append, Nat.zero_add, Nat.zero_mul, List.take_zero, List.nil_append]
        rw [← hl]; exact List.take_left
      · show (w.heap.push _)[q]? = _; rw [Array.getElem?_push, if_neg (by omega)]
    · have hglt : g < w.heap.size := (Array.getElem?_eq_some_iff.1 k2).1
      by_cases hroom : h + m ≤ cap
      · have hfit : h * i.size + news.length ≤ vals.size := by rw [hl, k3, ← Nat.add_mul]; exact Nat.mul_le_mul_right _ hroom
        have hf := run_firstCells_some (P := P) w i.size m ⟨b, o, none⟩ m c news hl hn'
        have hst := run_storeCells_at P g (h * i.size) el news 0 vals w k2 (by simpa using hfit) h1
        simp only [Nat.add_zero] at hst
        have hr : (Builtin.append_ #[t, t] ty #[.slice (some ⟨g, 0, none⟩) h cap, .slice (some ⟨b, o, none⟩) m c]).run P w =
            .ok (.slice (some ⟨g, 0, none⟩) (h + m) cap) (w.setRow g (vals.toList.take (h * i.size) ++ news ++ vals.toList.drop (h * i.size + news.length)).toArray) := by
          simp [Builtin.append_, run_underlying ht, sizeOf, typeInfo, hi, Builtin.lenOf, hroom, hf, Addr.add_lit, hst]
        have hlen : (vals.toList.take (h * i.size) ++ news).length = (h + m) * i.size := by
          rw [List.length_append, List.length_take, Array.length_toList, hl, Nat.add_mul]; omega
        refine ⟨_, _, hr, .row g cap _ el rfl (setRow_heap w g vals _ el (0, 0) k2) ?_ hroom ?_ (.inl ⟨h, rfl, hglt, setRow_size _ _ _⟩) (fun q hq _ => setRow_other' w g q _ hq) ⟨rfl, rfl, rfl⟩, fun _ => ⟨g, cap, rfl⟩, fun h => absurd h hm⟩
        · simp only [List.size_toArray, List.length_append, List.length_take, List.length_drop, Array.length_toList]; omega
        · rw [← hlen]; exact List.take_left
      · have holds : ∀ (j : Nat) u, (vals.toList.take (h * i.size))[j]? = some u → w.cell? ((⟨g, 0, none⟩ : Addr).add j) = some u := by
          intro j u hu
          rw [add_mk, Nat.zero_add, cellsOf_block k2]
          rw [List.getElem?_take] at hu
          split at hu
          · simpa using hu
          · cases hu
        have hlo : (vals.toList.take (h * i.size)).length = h * i.size := by
          rw [List.length_take, Array.length_toList, k3]
          exact Nat.min_eq_left (Nat.mul_le_mul_right _ k4)
        have hr := run_append_grow (P := P) w t ty te i z ht hi hz ⟨g, 0, none⟩ h cap _ hlo holds ⟨b, o, none⟩ m c news hl hn' (by omega) (by omega) (growslice_fits (by omega) hb)
        have hge := grownCap_ge w (h + m) cap te
        have hlen : (vals.toList.take (h * i.size) ++ news).length = (h + m) * i.size := by rw [List.length_append, hlo, hl, Nat.add_mul]
        refine ⟨_, _, hr, .row w.heap.size (grownCap w (h + m) cap te) _ te rfl (heap_new w.drew _) ?_ hge ?_ (.inr ⟨rfl, by simp [World.alloc, heap_drew]⟩) (fun q hq hlt => ?_) ⟨rfl, rfl, rfl⟩, fun _ => ⟨_, _, rfl⟩, fun h => absurd h hm⟩
        · simp only [Array.size_append, List.size_toArray, size_zeroCells, hzs, hlo, hl, ← Nat.add_mul]
          congr 1; omega
        · simp only [Array.toList_append, List.append_assoc]
          rw [← List.append_assoc, ← hlen]
          exact List.take_left
        · show (w.heap.push _)[q]? = _; rw [Array.getElem?_push, if_neg (by omega)]

/-- What is read of a slice: its elements. -/
def Elems (Z : Nat → Prop) (w : World) (e : Ty) (aa : Option Addr) (ys : List e.den) : Prop :=
  ∀ i (h : i < ys.length), ∃ b o, aa = some ⟨b, o, none⟩ ∧ ∃ es, es.length = e.size ∧ cellsAt w b (o + i * e.size) es ∧ RdC Z w e es ys[i]

theorem elems_of_rd {Z : Nat → Prop} {e : Ty} {v : Value} {ys : List e.den} (h : RdC Z w (.sl e) [v] ys) : ∃ aa cap, v = .slice aa ys.length cap ∧ ys.length ≤ cap ∧ ys.length ≤ lenMax ∧ Elems Z w e aa ys := by
  obtain ⟨a, cap, hv, h2, h3, h4⟩ := h
  simp only [List.cons.injEq, and_true] at hv
  refine ⟨a, cap, hv, h2, h3, fun i hi => ?_⟩
  obtain ⟨ad, rfl, h5, h6, es, h7, h8, h9⟩ := h4 i hi
  obtain ⟨b, o, sp⟩ := ad
  simp only at h5
  subst h5
  exact ⟨b, o, rfl, es, h7, h8, h9⟩

theorem elems_of_row {n h : Nat} {fr : Bool} {e : Ty} {xs : List e.den} {v : Value} (he : (Ent.row fr e xs).ok V hp w n) (hr : hasRow V w n e h v) (hh : h ≤ xs.length) :
    ∃ aa cap, v = .slice aa (xs.take h).length cap ∧ (xs.take h).length ≤ cap ∧ (xs.take h).length ≤ lenMax ∧ Elems (V.Z fr) w e aa (xs.take h) := by
  have hlen : (xs.take h).length = h := by rw [List.length_take]; omega
  rcases hr with ⟨h1, rfl, rfl⟩ | ⟨h1, cap, vals, el, rfl, h3, h4, h5⟩
  · exact ⟨none, 0, by simp, by simp, by simp, fun i hi => by simp at hi⟩
  · rcases he with ⟨k1, _⟩ | ⟨_, vals', el', k2, k3, k4⟩
    · exact absurd h1 k1
    · refine ⟨_, cap, by rw [hlen], by omega, by omega, fun i hi => ?_⟩
      rw [hlen] at hi
      obtain ⟨es, q1, q2, q3⟩ := k4 i (by omega)
      refine ⟨V.blk n, 0, rfl, es, q1, fun j hj => ?_, by rw [List.getElem_take]; exact q3⟩
      rw [Nat.zero_add, cellsOf_block k2]
      exact q2 j _ (List.getElem?_eq_getElem hj)

theorem flat_zone {Z Z' : Nat → Prop} {e : Ty} (hf : e.flat = true) {aa : Option Addr} {ys : List e.den} (h : Elems Z w e aa ys) : Elems Z' w e aa ys := fun i hi =>
  let ⟨b, o, h1, es, h2, h3, h4⟩ := h i hi
  ⟨b, o, h1, es, h2, h3, h4.flat hf⟩

theorem sl_elems (he : ∀ n, (hp n).ok V hp w n) {e : Ty} {c : C} {ys : List e.den} {f : Bool} {v : Value} (h : rdSl hp e c = some ys) (hf : rowFr hp e c = some f) (ho : C.ok V hp w c v) :
    ∃ aa cap, v = .slice aa ys.length cap ∧ ys.length ≤ lenMax ∧ Elems (V.Z f) w e aa ys := by
  have fix : ∀ {fr : Bool} {aa : Option Addr} {ys : List e.den}, Elems (V.Z fr) w e aa ys → Elems (V.Z (e.flat || fr)) w e aa ys := by
    intro fr aa ys h
    cases hfl : e.flat with
    | true => exact flat_zone hfl h
    | false => rw [Bool.false_or]; exact h
  unfold rdSl at h
  split at h
  · rename_i fr e' xs
    split at h
    · rename_i hk; subst hk; injection h with h; subst h
      simp only [rowFr, Option.some.injEq] at hf; subst hf
      obtain ⟨aa, cap, h1, _, h3, h4⟩ := elems_of_rd ho
      exact ⟨aa, cap, h1, h3, fix h4⟩
    · cases h
  · rename_i n e' xs
    split at h
    · rename_i hk; subst hk; injection h with h; subst h
      simp only [rowFr] at hf
      split at hf
      · rename_i hfl
        injection hf with hf; subst hf
        obtain ⟨aa, cap, h1, _, h3, h4⟩ := elems_of_rd ho.2
        exact ⟨aa, cap, h1, h3, flat_zone hfl h4⟩
      · cases hf
    · cases h
  · rename_i n
    split at h
    · rename_i fr e' xs' hn
      split at h
      · rename_i hk; subst hk; injection h with h; subst h
        simp only [rowFr, hn, Option.some.injEq] at hf; subst hf
        obtain ⟨fr', e2, xs2, h3, h4⟩ := ho
        rw [hn] at h3
        injection h3 with e1 e2 e3
        subst e1; subst e2; cases e3
        have h5 := he n
        rw [hn] at h5
        obtain ⟨aa, cap, g1, _, g3, g4⟩ := elems_of_row h5 h4 (Nat.le_refl _)
        rw [List.take_length] at g1 g3 g4
        exact ⟨aa, cap, g1, g3, fix g4⟩
      · cases h
    · cases h
  · rename_i n mm
    split at h
    · rename_i fr e' xs' hn
      split at h
      · rename_i hk; subst hk; injection h with h; subst h
        simp only [rowFr, hn, Option.some.injEq] at hf; subst hf
        obtain ⟨fr', e2, xs2, h3, h6, h4⟩ := ho
        rw [hn] at h3
        injection h3 with e1 e2 e3
        subst e1; subst e2; cases e3
        have h5 := he n
        rw [hn] at h5
        obtain ⟨aa, cap, g1, _, g3, g4⟩ := elems_of_row h5 h4 h6
        exact ⟨aa, cap, g1, g3, fix g4⟩
      · cases h
    · cases h
  · injection h with h; subst h
    rw [ho.1]
    exact ⟨none, 0, rfl, Nat.zero_le _, fun i hi => by simp at hi⟩
  · cases h

/-- The elements' cells, in a row. -/
theorem flat_cells {Z : Nat → Prop} {e : Ty} {aa : Option Addr} {ys : List e.den} (h : Elems Z w e aa ys) : ∃ news : List Value, news.length = ys.length * e.size ∧
    (0 < ys.length → ∃ b o, aa = some ⟨b, o, none⟩ ∧ ∀ (j : Nat) u, news[j]? = some u → w.cell? ⟨b, o + j, none⟩ = some u) ∧ (∀ u ∈ news, u.oneCell' = true) ∧
    ∀ i (h : i < ys.length), ∃ es, es.length = e.size ∧ (∀ (j : Nat) u, es[j]? = some u → news[i * e.size + j]? = some u) ∧ RdC Z w e es ys[i] := by
  cases ys with
  | nil => exact ⟨[], by simp, fun h => by simp at h, fun u hu => by simp at hu, fun i hi => by simp at hi⟩
  | cons y0 yr =>
    generalize hys : y0 :: yr = ys at *
    have hpos : 0 < ys.length := by rw [← hys]; simp
    obtain ⟨b, o, rfl, _⟩ := h 0 hpos
    have hsz := e.size_pos
    have hk : ∀ k, k < ys.length * e.size → ∃ u, w.cell? ⟨b, o + k, none⟩ = some u ∧ u.oneCell' = true := by
      intro k hk
      have hi : k / e.size < ys.length := by rw [Nat.div_lt_iff_lt_mul hsz]; exact hk
      obtain ⟨b', o', hb, es, h1, h2, h3⟩ := h _ hi
      injection hb with hb
      injection hb with hb1 hb2
      subst hb1; subst hb2
      have hj : k % e.size < es.length := by rw [h1]; exact Nat.mod_lt _ hsz
      have := h2 (k % e.size) hj
      have hdm : k / e.size * e.size + k % e.size = k := by rw [Nat.mul_comm]; exact Nat.div_add_mod k e.size
      rw [Nat.add_assoc, hdm] at this
      exact ⟨_, this, RdC.oneCell h3 _ (List.getElem_mem _)⟩
    refine ⟨(List.range (ys.length * e.size)).map (fun k => (w.cell? ⟨b, o + k, none⟩).getD undef), by simp, fun _ => ⟨b, o, rfl, fun j u hu => ?_⟩, fun u hu => ?_, fun i hi => ?_⟩
    · rw [List.getElem?_map] at hu
      cases hj : (List.range (ys.length * e.size))[j]? with
      | none => rw [hj] at hu; cases hu
      | some k =>
        rw [hj] at hu
        have hjl := (List.getElem?_eq_some_iff.1 hj).1
        have hkj : k = j := by have := (List.getElem?_eq_some_iff.1 hj).2; simpa using this.symm
        subst hkj
        simp only [List.length_range] at hjl
        simp only [Option.map_some, Option.some.injEq] at hu
        obtain ⟨u', h1, _⟩ := hk k hjl
        rw [h1] at hu ⊢
        simpa using hu
    · rw [List.mem_map] at hu
      obtain ⟨k, hk', rfl⟩ := hu
      obtain ⟨u', h1, h2⟩ := hk k (List.mem_range.1 hk')
      rw [h1]; exact h2
    · obtain ⟨b', o', hb, es, h1, h2, h3⟩ := h i hi
      injection hb with hb
      injection hb with hb1 hb2
      subst hb1; subst hb2
      refine ⟨es, h1, fun j u hu => ?_, h3⟩
      have hj := (List.getElem?_eq_some_iff.1 hu).1
      have hlt : i * e.size + j < ys.length * e.size := by
        have : (i + 1) * e.size ≤ ys.length * e.size := Nat.mul_le_mul_right _ hi
        rw [Nat.add_mul, Nat.one_mul] at this; omega
      rw [List.getElem?_map, List.getElem?_range hlt]
      have h5 := h2 j hj
      rw [Nat.add_assoc] at h5
      simp only [Option.map_some, h5, Option.getD_some]
      rw [List.getElem?_eq_getElem hj] at hu
      exact hu

end
end Go.SX
