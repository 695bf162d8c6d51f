/-
  strings.NewReplacer("A", a, "B", b): its table, built once: what (*strings.Replacer).build answers for names a and b of at most two bytes.
-/
import Derived.Test.YtndkkpjofddfjaaGreatDoorRepl
import Derived.Handy
namespace Go.Proofs.YtndkkpjofddfjaaGreatDoorRepl
open Go.RowKit Go.Lib Go.Proofs Go.Proofs.YtndkkpjofddfjaaGreatDoorW.PrintWords Go.Proofs.YtndkkpjofddfjaaGreatDoorW.PrintLast Go.Proofs.YtndkkpjofddfjaaGreatDoorW.PrintMore
set_option linter.unusedVariables false
set_option linter.unusedSimpArgs false
structure Pairs (W : World) (r : Nat) (a b : ByteArray) : Prop where
  ho : ∃ g c, W.cell? ⟨r, 4, none⟩ = some (.slice (some ⟨g, 0, none⟩) 4 c) ∧ W.cell? ⟨g, 0, none⟩ = some (.string ⟨#[65]⟩) ∧ W.cell? ⟨g, 1, none⟩ = some (.string a) ∧ W.cell? ⟨g, 2, none⟩ = some (.string ⟨#[66]⟩) ∧ W.cell? ⟨g, 3, none⟩ = some (.string b)
theorem store_same {W : World} {g : Nat} {cur : Array Value} {t : TypeId} (hg : W.heap[g]? = some (.cells cur t (0, 0))) (h1 : cur.toList.all (fun v => v.oneCell') = true) : (storeCells ⟨g, 0, none⟩ cur.toList).run Tryz.prog W = .ok () W := by
  have := run_storeCells_at Tryz.prog g 0 t cur.toList 0 cur W hg (by simp) (fun v hv => List.all_eq_true.mp h1 v hv)
  rw [this]
  congr 1
  simp only [Nat.zero_add, List.take_zero, List.nil_append]
  rw [List.drop_of_length_le (by simp), List.append_nil, Array.toArray_toList]
  exact setRow_self W g cur t (0, 0) hg
def TabAt (W : World) (G i : Nat) : Prop := ∀ j, j < 256 → W.cell? ⟨G, j, none⟩ = some (.int .u8 (((if j < i then j else 0 : Nat)) : Int)) ∧ W.frozen? ⟨G, j, none⟩ = false
theorem TabAt.turn {W : World} {G i : Nat} (h : TabAt W G i) (hi : i < 256) : TabAt (W.setCell ⟨G, i, none⟩ (.int .u8 (i : Int))) G (i + 1) := fun j hj => by
  refine ⟨?_, by rw [World.frozen?_setCell]; exact (h j hj).2⟩
  by_cases e : j = i
  · subst e
    rw [World.cell?_setCell_same _ _ _ (h j hj).1, if_pos (by omega)]
  · rw [World.cell?_setCell_other _ ⟨G, i, none⟩ ⟨G, j, none⟩ _ (fun e2 => e (Addr.mk.inj e2).2.1.symm), (h j hj).1]
    by_cases e2 : j < i
    · rw [if_pos e2, if_pos (by omega)]
    · rw [if_neg e2, if_neg (by omega)]
set_option maxHeartbeats 4000000 in
set_option maxRecDepth 100000 in
theorem build_bytes (r : Nat) (x y : UInt8) (w : World) (h : Pairs w r ⟨#[x]⟩ ⟨#[y]⟩) :
    Calls Tryz.prog 121 #[.pointer (some ⟨r, 0, none⟩)] w fun e w' => ∃ G, w.heap.size ≤ G ∧ e = .returned (.iface 176 (.pointer (some ⟨G, 0, none⟩))) ∧ BRT w' G (fun c => if c = 65 then x else if c = 66 then y else c) ∧ Below w.heap.size w w' := by
  obtain ⟨g, c, h4, q0, q1, q2, q3⟩ := h.ho
  have hu42 := Tryz.underlying22
  go_enter Tryz.func121, Tryz.ntmps121
  go_wp2
  have hz1 : (Tryz.zeroCells175.toList.all (fun v => v.oneCell')) = true := by kernel_rfl
  have hz2 : Tryz.zeroCells175.toList = List.replicate 256 (.int .u8 0) := by kernel_rfl
  have hst := store_same (W := w.alloc (.cells Tryz.zeroCells175 175)) (g := w.heap.size) (cur := Tryz.zeroCells175) (t := 175) (by simp [World.alloc, -World.alloc_eq]) hz1
  have hcell : ∀ j, j < 256 → (w.alloc (.cells Tryz.zeroCells175 175)).cell? ⟨w.heap.size, j, none⟩ = some (.int .u8 0) ∧ (w.alloc (.cells Tryz.zeroCells175 175)).frozen? ⟨w.heap.size, j, none⟩ = false := fun j hj => by
    have e : Tryz.zeroCells175[j]? = some (.int .u8 0) := by
      rw [← Array.getElem?_toList, hz2, List.getElem?_replicate, if_pos hj]
    refine ⟨?_, ?_⟩
    · simp [World.cell?, World.alloc, -World.alloc_eq, e]
    · simp [World.frozen?, World.alloc, -World.alloc_eq]
  have HB0 := Aside0.mk ((Below.refl w.heap.size w).alloc (Nat.le_refl _) (.cells Tryz.zeroCells175 175))
  have HT0 : Aside0 (TabAt (w.alloc (.cells Tryz.zeroCells175 175)) w.heap.size 0) := ⟨fun j hj => by
    rw [if_neg (by omega)]
    exact hcell j hj⟩
  clear hz1 hz2 hcell
  go_rounds 3
  go_loopg [7, 61] 256 (fun gf s7 s61 wx => ∃ i : Nat, i + gf = 256 ∧ s61 = .int .i64 (i : Int) ∧ Aside0 (TabAt wx w.heap.size i) ∧ Aside0 (Below w.heap.size w wx))
  case atStart => exact ⟨0, by omega, rfl, HT0, HB0⟩
  case round =>
    obtain ⟨i, hgf, rfl, HT, HB⟩ := hrel
    by_cases hlt : i < 256
    · have hc1 := (HT.out i hlt).1
      have hc2 := (HT.out i hlt).2
      generalize (Value.int .u8 ((if i < i then i else 0 : Nat) : Int)) = old at hc1
      have hlz : (i : Int) < 256 := by omega
      go_wp2
      go_roundg (gk - 1)
      case measure => omega
      case rel => exact ⟨i + 1, by omega, rfl, ⟨HT.out.turn hlt⟩, ⟨below_set HB.out (Nat.le_refl _)⟩⟩
    · have hi : i = 256 := by omega
      subst hi
      have hlz : ¬ ((256 : Nat) : Int) < 256 := by omega
      have q0' := (HB.out.cell (World.block_lt_of_cell? w _ q0)).trans q0
      have q1' := (HB.out.cell (World.block_lt_of_cell? w _ q1)).trans q1
      have q2' := (HB.out.cell (World.block_lt_of_cell? w _ q2)).trans q2
      have q3' := (HB.out.cell (World.block_lt_of_cell? w _ q3)).trans q3
      have hgl : g < w.heap.size := World.block_lt_of_cell? w _ q0
      have hn1 : ¬ w.heap.size = g := by omega
      have hn2 : ¬ g = w.heap.size := by omega
      have t65 := (HT.out 65 (by decide)).1
      have z65 := (HT.out 65 (by decide)).2
      have t66 := (HT.out 66 (by decide)).1
      have z66 := (HT.out 66 (by decide)).2
      have e65 : (⟨#[65]⟩ : ByteArray)[0].toNat = 65 := rfl
      have e66 : (⟨#[66]⟩ : ByteArray)[0].toNat = 66 := rfl
      have ex : ((⟨#[x]⟩ : ByteArray)[0]'(by show 0 < 1; decide)).toNat = x.toNat := rfl
      have ey : ((⟨#[y]⟩ : ByteArray)[0]'(by show 0 < 1; decide)).toNat = y.toNat := rfl
      clear hst HT0 HB0 q0 q1 q2 q3
      go_wp2
      go_rounds 3
      go_ret
      refine ⟨_, Nat.le_refl _, rfl, ⟨fun cc => ?_⟩, below_set (below_set HB.out (Nat.le_refl _)) (Nat.le_refl _)⟩
      have hcc : cc.toNat < 256 := UInt8.toNat_lt _
      by_cases e1 : cc = 65
      · subst e1
        rw [if_pos rfl]
        exact World.cell?_setCell_same _ _ _ ((World.cell?_setCell_other _ ⟨w.heap.size, 66, none⟩ ⟨w.heap.size, 65, none⟩ _ (fun e2 => by cases e2)).trans t65)
      · have n1 : cc.toNat ≠ 65 := fun e => e1 (UInt8.toNat_inj.mp e)
        rw [if_neg e1, World.cell?_setCell_other _ ⟨w.heap.size, 65, none⟩ ⟨w.heap.size, cc.toNat, none⟩ _ (fun e2 => n1 (Addr.mk.inj e2).2.1.symm)]
        by_cases e2 : cc = 66
        · subst e2
          rw [if_pos rfl]
          exact World.cell?_setCell_same _ _ _ t66
        · have n2 : cc.toNat ≠ 66 := fun e => e2 (UInt8.toNat_inj.mp e)
          rw [if_neg e2, World.cell?_setCell_other _ ⟨w.heap.size, 66, none⟩ ⟨w.heap.size, cc.toNat, none⟩ _ (fun e3 => n2 (Addr.mk.inj e3).2.1.symm), (HT.out cc.toNat hcc).1, if_pos hcc]
def BytesRow (W : World) (v : Value) (l : List UInt8) : Prop := ∃ g c cs fr, v = .slice (some ⟨g, 0, none⟩) l.length c ∧ W.heap[g]? = some (.cells cs 5 fr) ∧ ∀ j (hj : j < l.length), cs[j]? = some (.int .u8 (l[j].toNat : Int))
theorem BytesRow.at {W : World} {v : Value} {l : List UInt8} (h : BytesRow W v l) : BytesAt W v l := by
  obtain ⟨g, c, cs, fr, e, hb, hc⟩ := h
  exact ⟨g, c, e, (Array.getElem?_eq_some_iff.1 hb).1, fun j hj => by simp [World.cell?, hb, hc j hj]⟩
theorem BytesRow.below {W W' : World} {v : Value} {l : List UInt8} (h : BytesRow W v l) (hb : Below W.heap.size W W') : BytesRow W' v l := by
  obtain ⟨g, c, cs, fr, e, hg, hc⟩ := h
  exact ⟨g, c, cs, fr, e, (hb.block g (Array.getElem?_eq_some_iff.1 hg).1).trans hg, hc⟩
theorem BytesRow.set {W : World} {v : Value} {l : List UInt8} (h : BytesRow W v l) {G i : Nat} {cg : Array Value} {fg : Nat × Nat} (hG : W.heap[G]? = some (.cells cg 179 fg)) (u : Value) : BytesRow (W.setCell ⟨G, i, none⟩ u) v l := by
  obtain ⟨g, c, cs, fr, e, hg, hc⟩ := h
  have hne : g ≠ G := fun e => by
    subst e
    rw [hg] at hG
    cases hG
  exact ⟨g, c, cs, fr, e, (Below.heap_setCell W _ _ g hne).trans hg, hc⟩
theorem BytesRow.setT {W : World} {v : Value} {l : List UInt8} (h : BytesRow W v l) {G i : Nat} {cg : Array Value} {fg : Nat × Nat} (hG : W.heap[G]? = some (.cells cg 9 fg)) (u : Value) : BytesRow (W.setCell ⟨G, i, none⟩ u) v l := by
  obtain ⟨g, c, cs, fr, e, hg, hc⟩ := h
  have hne : g ≠ G := fun e => by
    subst e
    rw [hg] at hG
    cases hG
  exact ⟨g, c, cs, fr, e, (Below.heap_setCell W _ _ g hne).trans hg, hc⟩
theorem BytesRow.new (W : World) (s : ByteArray) : BytesRow (bytesWorld W 5 s) (.slice (some ⟨W.heap.size, 0, none⟩) s.size (grownCap W s.size 0 5)) s.data.toList := by
  refine ⟨W.heap.size, _, _, _, by rw [Array.length_toList]; rfl, bytesWorld_at_new W _ s, fun j hj => ?_⟩
  have hj' : j < s.data.size := by simpa using hj
  unfold bytesCells
  rw [Array.getElem?_append_left (by simpa using hj')]
  simp [hj']
  exact ⟨s.data[j], Array.getElem?_eq_getElem hj', rfl⟩
theorem BytesRow.setX {W : World} {v : Value} {l : List UInt8} (h : BytesRow W v l) {G i : Nat} {cg : Array Value} {fg : Nat × Nat} {t : TypeId} (hG : W.heap[G]? = some (.cells cg t fg)) (ht : t ≠ 5) (u : Value) : BytesRow (W.setCell ⟨G, i, none⟩ u) v l := by
  obtain ⟨g, c, cs, fr, e, hg, hc⟩ := h
  have hne : g ≠ G := fun e => by
    subst e
    rw [hg] at hG
    injection hG with hG
    injection hG with _ hG _
    exact ht hG.symm
  exact ⟨g, c, cs, fr, e, (Below.heap_setCell W _ _ g hne).trans hg, hc⟩
structure BSRr (W : World) (g : Nat) (a b : List UInt8) : Prop where
  hA : ∃ v, W.cell? ⟨g, 65, none⟩ = some v ∧ BytesRow W v a
  hB : ∃ v, W.cell? ⟨g, 66, none⟩ = some v ∧ BytesRow W v b
  hN : ∀ i, i < 256 → i ≠ 65 → i ≠ 66 → W.cell? ⟨g, i, none⟩ = some (.slice none 0 0)
  hT : ∃ t c, W.cell? ⟨g, 256, none⟩ = some (.slice (some t) 2 c)
theorem BSRr.at {W : World} {g : Nat} {a b : List UInt8} (h : BSRr W g a b) : BSR W g a b := by
  obtain ⟨v, h1, h2⟩ := h.hA
  obtain ⟨u, h3, h4⟩ := h.hB
  exact ⟨⟨v, h1, h2.at⟩, ⟨u, h3, h4.at⟩, h.hN, h.hT⟩
theorem BSRr.setX {W : World} {g : Nat} {a b : List UInt8} (h : BSRr W g a b) {G i : Nat} {cg : Array Value} {fg : Nat × Nat} {t : TypeId} (hG : W.heap[G]? = some (.cells cg t fg)) (ht : t ≠ 5) (hg : g ≠ G) (u : Value) : BSRr (W.setCell ⟨G, i, none⟩ u) g a b := by
  have hc : ∀ j, (W.setCell ⟨G, i, none⟩ u).cell? ⟨g, j, none⟩ = W.cell? ⟨g, j, none⟩ := fun j => World.cell?_of_block (Below.heap_setCell W _ _ g hg)
  obtain ⟨v, h1, h2⟩ := h.hA
  obtain ⟨u2, h3, h4⟩ := h.hB
  obtain ⟨t5, c5, h5⟩ := h.hT
  exact ⟨⟨v, (hc _).trans h1, h2.setX hG ht u⟩, ⟨u2, (hc _).trans h3, h4.setX hG ht u⟩, fun i h1 h2 h3 => (hc _).trans (h.hN i h1 h2 h3), ⟨t5, c5, (hc _).trans h5⟩⟩
theorem BSRr.drew {W : World} {g : Nat} {a b : List UInt8} (h : BSRr W g a b) : BSRr W.drew g a b := ⟨h.hA, h.hB, h.hN, h.hT⟩
theorem BRT.setX {W : World} {g : Nat} {T : UInt8 → UInt8} (h : BRT W g T) {G i : Nat} (hg : g ≠ G) (u : Value) : BRT (W.setCell ⟨G, i, none⟩ u) g T := ⟨fun c => (World.cell?_of_block (Below.heap_setCell W _ _ g hg)).trans (h.hT c)⟩
theorem BRT.drew {W : World} {g : Nat} {T : UInt8 → UInt8} (h : BRT W g T) : BRT W.drew g T := ⟨h.hT⟩
structure BS (w : World) (G : Nat) (W : World) (v256 va vb : Value) : Prop where
  bel : Below w.heap.size w W
  lo : w.heap.size < G
  ty : ∃ cs, W.heap[G]? = some (.cells cs 179 (0, 0))
  tt : ∃ cs : Array Value, W.heap[w.heap.size]? = some (.cells cs 9 (0, 0)) ∧ cs.size = 2
  c256 : W.cell? ⟨G, 256, none⟩ = some v256
  c65 : W.cell? ⟨G, 65, none⟩ = some va
  c66 : W.cell? ⟨G, 66, none⟩ = some vb
  cn : ∀ i, i < 256 → i ≠ 65 → i ≠ 66 → W.cell? ⟨G, i, none⟩ = some (.slice none 0 0)
section
variable {w W W' : World} {G : Nat} {v256 va vb : Value}
theorem BS.fz (h : BS w G W v256 va vb) (i : Nat) : W.frozen? ⟨G, i, none⟩ = false := by
  obtain ⟨cs, hc⟩ := h.ty
  simp [World.frozen?, hc]
theorem BS.fzT (h : BS w G W v256 va vb) (i : Nat) : W.frozen? ⟨w.heap.size, i, none⟩ = false := by
  obtain ⟨cs, hc, _⟩ := h.tt
  simp [World.frozen?, hc]
theorem BS.cT (h : BS w G W v256 va vb) (i : Nat) (hi : i < 2) : ∃ x, W.cell? ⟨w.heap.size, i, none⟩ = some x := by
  obtain ⟨cs, hc, hs⟩ := h.tt
  exact ⟨cs[i], by simp [World.cell?, hc, Array.getElem?_eq_getElem (show i < cs.size by omega)]⟩
theorem BS.lt (h : BS w G W v256 va vb) : G < W.heap.size := by
  obtain ⟨cs, hc⟩ := h.ty
  exact (Array.getElem?_eq_some_iff.1 hc).1
theorem BS.below (h : BS w G W v256 va vb) (hb : Below W.heap.size W W') : BS w G W' v256 va vb := by
  have hG : W'.heap[G]? = W.heap[G]? := hb.block G h.lt
  have hT : W'.heap[w.heap.size]? = W.heap[w.heap.size]? := hb.block _ (by have := h.lt; have := h.lo; omega)
  have hc : ∀ i, W'.cell? ⟨G, i, none⟩ = W.cell? ⟨G, i, none⟩ := fun i => World.cell?_of_block hG
  exact ⟨h.bel.trans (hb.mono h.bel.size), h.lo, by rw [hG]; exact h.ty, by rw [hT]; exact h.tt, (hc _).trans h.c256, (hc _).trans h.c65, (hc _).trans h.c66, fun i h1 h2 h3 => (hc _).trans (h.cn i h1 h2 h3)⟩
theorem BS.setT (h : BS w G W v256 va vb) (i : Nat) (u : Value) : BS w G (W.setCell ⟨w.heap.size, i, none⟩ u) v256 va vb := by
  have hne : G ≠ w.heap.size := by have := h.lo; omega
  have hc : ∀ j, (W.setCell ⟨w.heap.size, i, none⟩ u).cell? ⟨G, j, none⟩ = W.cell? ⟨G, j, none⟩ := fun j => World.cell?_of_block (Below.heap_setCell W _ _ G hne)
  obtain ⟨cs, hcs, hs⟩ := h.tt
  exact ⟨below_set h.bel (Nat.le_refl _), h.lo, by rw [Below.heap_setCell W _ _ G hne]; exact h.ty, ⟨_, set_heap hcs u, by simp [hs]⟩, (hc _).trans h.c256, (hc _).trans h.c65, (hc _).trans h.c66, fun i h1 h2 h3 => (hc _).trans (h.cn i h1 h2 h3)⟩
theorem BS.set (h : BS w G W v256 va vb) (i : Nat) (u : Value) {v256' va' vb' : Value} (e1 : v256' = if i = 256 then u else v256) (e2 : va' = if i = 65 then u else va) (e3 : vb' = if i = 66 then u else vb) (e4 : i = 256 ∨ i = 65 ∨ i = 66) : BS w G (W.setCell ⟨G, i, none⟩ u) v256' va' vb' := by
  have hlo := h.lo
  have hs : ∀ j v, W.cell? ⟨G, j, none⟩ = some v → (W.setCell ⟨G, i, none⟩ u).cell? ⟨G, j, none⟩ = some (if i = j then u else v) := fun j v hj => by
    by_cases e : i = j
    · subst e
      rw [if_pos rfl]
      exact World.cell?_setCell_same _ _ _ hj
    · rw [if_neg e, World.cell?_setCell_other _ ⟨G, i, none⟩ ⟨G, j, none⟩ _ (fun e5 => e (Addr.mk.inj e5).2.1)]
      exact hj
  obtain ⟨cs, hcs⟩ := h.ty
  refine ⟨below_set h.bel (Nat.le_of_lt hlo), hlo, ⟨_, set_heap hcs u⟩, by rw [Below.heap_setCell W _ _ _ (by show w.heap.size ≠ G; omega)]; exact h.tt, by rw [e1]; exact hs _ _ h.c256, by rw [e2]; exact hs _ _ h.c65, by rw [e3]; exact hs _ _ h.c66, fun j h1 h2 h3 => ?_⟩
  rw [hs _ _ (h.cn j h1 h2 h3), if_neg (by omega)]
end
theorem store_row {W : World} {g : Nat} {cur : Array Value} {t : TypeId} (hg : W.heap[g]? = some (.cells cur t (0, 0))) (vs : List Value) (hl : vs.length = cur.size) (h1 : ∀ v ∈ vs, v.oneCell' = true) :
    ∃ W2, (storeCells ⟨g, 0, none⟩ vs).run Tryz.prog W = .ok () W2 ∧ W2.heap[g]? = some (.cells vs.toArray t (0, 0)) ∧ W.grownBy W2 (some g) := by
  have := run_storeCells_at Tryz.prog g 0 t vs 0 cur W hg (by omega) h1
  refine ⟨_, this, ?_, ⟨rfl, rfl, rfl, by simp [World.setRow], fun k hk hne => setRow_other W g k _ (fun e => hne (by rw [e]))⟩⟩
  rw [setRow_heap W g cur _ t (0, 0) hg]
  congr 3
  simp only [Nat.zero_add, List.take_zero, List.nil_append]
  rw [List.drop_of_length_le (by rw [hl]; simp), List.append_nil]
set_option maxHeartbeats 4000000 in
set_option maxRecDepth 100000 in
theorem build_strings (r : Nat) (a b : ByteArray) (w : World) (h : Pairs w r a b) (ha : a.size ≤ 2) (hb : b.size ≤ 2) (hab : ¬ (a.size = 1 ∧ b.size = 1)) :
    Calls Tryz.prog 121 #[.pointer (some ⟨r, 0, none⟩)] w fun e w' => ∃ G, w.heap.size ≤ G ∧ e = .returned (.iface 180 (.pointer (some ⟨G, 0, none⟩))) ∧ BSRr w' G a.data.toList b.data.toList ∧ Below w.heap.size w w' := by
  obtain ⟨g, c, h4, q0, q1, q2, q3⟩ := h.ho
  have hu42 := Tryz.underlying22
  have hu33 := Tryz.underlying38
  have heql := eql_nil 38 5 hu33
  have hgl : g < w.heap.size := World.block_lt_of_cell? w _ q0
  obtain ⟨i9, hi9⟩ := Option.isSome_iff_exists.mp (show (Tryz.prog.info? 9).isSome = true by kernel_rfl)
  have hz9 : i9.zero = some (.string ⟨#[]⟩) := by have : (Tryz.prog.info? 9).map (·.zero) = some (some (.string ⟨#[]⟩)) := by kernel_rfl
                                                  rw [hi9] at this; exact Option.some.inj this
  have hs9 : i9.size = 1 := by have : (Tryz.prog.info? 9).map (·.size) = some 1 := by kernel_rfl
                               rw [hi9] at this; exact Option.some.inj this
  have hb9 : i9.bytes = 16 := by have : (Tryz.prog.info? 9).map (·.bytes) = some 16 := by kernel_rfl
                                 rw [hi9] at this; exact Option.some.inj this
  obtain ⟨W1, hmk', hB1, hGT, hT1⟩ : ∃ W1, (Instr.makeSlice 22 (.int .i64 0) (.int .i64 2)).run Tryz.prog w = .ok (.slice (some ⟨w.heap.size, 0, none⟩) 0 2) W1 ∧ Below w.heap.size w W1 ∧ w.heap.size < W1.heap.size ∧ ∃ cs : Array Value, W1.heap[w.heap.size]? = some (.cells cs 9 (0, 0)) ∧ cs.size = 2 := by
    have := run_make (P := Tryz.prog) w 22 9 i9 _ hu42 hi9 hz9 .i64 .i64 0 2 (by decide) (by decide) (by rw [hb9]; decide) (by decide)
    exact ⟨_, this, (Below.refl _ w).alloc (Nat.le_refl _) _, by simp, _, by simp [World.alloc, -World.alloc_eq]; rfl, by rw [size_madeCells, hs9]⟩
  have hz1 : (Tryz.zeroCells179.toList.all (fun v => v.oneCell')) = true := by kernel_rfl
  have hz2 : Tryz.zeroCells179.toList = List.replicate 257 (.slice none 0 0) := by kernel_rfl
  have hcl : (Tryz.zeroCells179.toList.set 256 (.slice (some ⟨w.heap.size, 0, none⟩) 0 2)).length = 257 := by rw [List.length_set, hz2, List.length_replicate]
  obtain ⟨W2, hst, hrow, hgr2⟩ := store_row (W := W1.alloc (.cells Tryz.zeroCells179 179)) (g := W1.heap.size) (cur := Tryz.zeroCells179) (t := 179) (by simp [World.alloc, -World.alloc_eq]) (Tryz.zeroCells179.toList.set 256 (.slice (some ⟨w.heap.size, 0, none⟩) 0 2)) (by rw [hcl, ← Array.length_toList, hz2]; simp) (by
    intro v hv
    rcases List.mem_or_eq_of_mem_set hv with h | rfl
    · exact List.all_eq_true.mp hz1 v h
    · rfl)
  have hcc : ∀ i, i < 257 → W2.cell? ⟨W1.heap.size, i, none⟩ = some (if 256 = i then .slice (some ⟨w.heap.size, 0, none⟩) 0 2 else .slice none 0 0) := fun i hi => by
    have e1 : (Tryz.zeroCells179.toList.set 256 (.slice (some ⟨w.heap.size, 0, none⟩) 0 2))[i]? = some (if 256 = i then .slice (some ⟨w.heap.size, 0, none⟩) 0 2 else .slice none 0 0) := by
      rw [List.getElem?_set, hz2, List.length_replicate, List.getElem?_replicate]
      by_cases e : 256 = i
      · rw [if_pos e, if_pos e, if_pos (by decide)]
      · rw [if_neg e, if_neg e, if_pos hi]
    generalize Tryz.zeroCells179.toList.set 256 (.slice (some ⟨w.heap.size, 0, none⟩) 0 2) = vs at hrow e1
    simp only [World.cell?, hrow]
    simpa using e1
  have hB2 : Below w.heap.size w W2 := (hB1.alloc (Nat.le_of_lt hGT) _).grown hgr2 (by simp; omega) (fun k hk => by cases hk; omega)
  have hT2 : W2.heap[w.heap.size]? = W1.heap[w.heap.size]? := (hgr2.block _ (by simp; omega) (by simp; omega)).trans (Below.heap_alloc _ _ _ hGT)
  have B2 : BS w W1.heap.size W2 (.slice (some ⟨w.heap.size, 0, none⟩) 0 2) (.slice none 0 0) (.slice none 0 0) :=
    ⟨hB2, hGT, ⟨_, hrow⟩, by rw [hT2]; exact hT1, hcc 256 (by decide), hcc 65 (by decide), hcc 66 (by decide), fun i h1 _ _ => (hcc i (by omega)).trans (by rw [if_neg (by omega)])⟩
  have hgG : ¬ W1.heap.size = g := by omega
  have hgG' : ¬ g = W1.heap.size := by omega
  have hn1 : ¬ w.heap.size = W1.heap.size := by omega
  have hn2 : ¬ W1.heap.size = w.heap.size := by omega
  have hn3 : ¬ w.heap.size = g := by omega
  have hn4 : ¬ g = w.heap.size := by omega
  clear hB1 hz1 hz2 hcl hrow hgr2 hcc h hGT hT1 hB2 hT2
  have q0' := (B2.bel.cell (World.block_lt_of_cell? w _ q0)).trans q0
  have q1' := (B2.bel.cell (World.block_lt_of_cell? w _ q1)).trans q1
  have q2' := (B2.bel.cell (World.block_lt_of_cell? w _ q2)).trans q2
  have q3' := (B2.bel.cell (World.block_lt_of_cell? w _ q3)).trans q3
  have k256 := B2.c256
  have k65 := B2.c65
  have k66 := B2.c66
  have e65 : (⟨#[65]⟩ : ByteArray)[0].toNat = 65 := rfl
  have e66 : (⟨#[66]⟩ : ByteArray)[0].toNat = 66 := rfl
  have hcvs := fun (W : World) (s : ByteArray) => Go.Lib.run_convert_string_bytes (P := Tryz.prog) W 9 38 5 s Tryz.underlying9 hu33 Tryz.underlying5
  have hcvb : ∀ (W : World) (bk c : Nat) (x : UInt8), W.cell? ⟨bk, 0, none⟩ = some (.int .u8 (x.toNat : Int)) → (convert 38 9 (.slice (some ⟨bk, 0, none⟩) 1 c)).run Tryz.prog W = .ok (.string ⟨#[x]⟩) W := fun W bk c x hx =>
    run_convert_bytes_back (P := Tryz.prog) W 38 9 5 ⟨bk, 0, none⟩ c [x] hu33 Tryz.underlying5 Tryz.underlying9 (fun q hq => by
      obtain rfl : q = 0 := by simpa using hq
      exact hx)
  have hcv66 := fun W bk c => hcvb W bk c 66
  have hcv65 := fun W bk c => hcvb W bk c 65
  clear hcvb
  obtain ⟨x0, hx0⟩ := B2.cT 0 (by decide)
  have fx0 := B2.fzT 0
  have f256 := B2.fz 256
  have l1 : w.heap.size < W2.heap.size := Nat.lt_trans B2.lo B2.lt
  have l2 : W1.heap.size < W2.heap.size := B2.lt
  have l3 : w.heap.size < W2.heap.size + 1 := by omega
  have l4 : W1.heap.size < W2.heap.size + 1 := by omega
  by_cases ca : a.size = 1
  · have cb : ¬ b.size = 1 := fun e => hab ⟨ca, e⟩
    have da : ((a.size : Int) != 1) = false := by rw [bne_eq_false_iff_eq]; omega
    have db : ((b.size : Int) != 1) = true := by rw [bne_iff_ne]; omega
    clear hab ca cb
    have HB2 := Aside0.mk B2
    clear B2
    go_enter Tryz.func121, Tryz.ntmps121
    go_wp2
    go_rounds 3
    refine wp_loop_rounds 3 ?_
    rw [rounds_succ]
    go_wp2_with (first
      | ((with_reducible refine gate_store (t := 22) (p := 125) rfl ?_); refine store_event (t := 22) (p := 125) (v := ?vo_125) (w1 := ((((W2.alloc (.cells #[.int .u8 66] 5)).alloc (.cells #[.string ⟨#[66]⟩] 9)).setCell ⟨w.heap.size, 0, none⟩ (.string ⟨#[66]⟩)).setCell ⟨W1.heap.size, 256, none⟩ (.slice (some ⟨w.heap.size, 0, none⟩) 1 2))) ?hg ?ho ?hn ?hr ?_; (case ho => rfl); (case hg => rfl); (case hn => rfl); (case hr => first | (go_simp; done) | (go_simp; rfl)); intro w3 hw; have B3 : Aside0 (BS w W1.heap.size w3 (.slice (some ⟨w.heap.size, 0, none⟩) 1 2) (.slice none 0 0) (.slice none 0 0)) := ⟨by rw [hw]; exact ((((HB2.out.below ((Below.refl _ _).alloc (Nat.le_refl _) _)).below ((Below.refl _ _).alloc (Nat.le_refl _) _)).setT 0 _).set 256 _ (by simp) (by simp) (by simp) (.inl rfl))⟩; have hk66 : (bytesWorld w3 5 b).cell? ⟨W1.heap.size, 66, none⟩ = some (.slice none 0 0) := (B3.out.below (bytesWorld_below w3 _ b)).c66; have hf66 : (bytesWorld w3 5 b).frozen? ⟨W1.heap.size, 66, none⟩ = false := (B3.out.below (bytesWorld_below w3 _ b)).fz 66; clear hw)
      | ((with_reducible refine gate_store (t := 38) (p := 130) rfl ?_); refine store_event (t := 38) (p := 130) (v := ?vo_130) (w1 := ((bytesWorld w3 5 b).setCell ⟨W1.heap.size, 66, none⟩ (.slice (some ⟨w3.heap.size, 0, none⟩) b.size (grownCap w3 b.size 0 5)))) ?hg ?ho ?hn ?hr ?_; (case ho => rfl); (case hg => rfl); (case hn => rfl); (case hr => first | (go_simp; done) | (go_simp; rfl)); intro w4 hw; have B4 : Aside0 (BS w W1.heap.size w4 (.slice (some ⟨w.heap.size, 0, none⟩) 1 2) (.slice none 0 0) (.slice (some ⟨w3.heap.size, 0, none⟩) b.size (grownCap w3 b.size 0 5))) := ⟨by rw [hw]; exact (B3.out.below (bytesWorld_below w3 _ b)).set 66 _ (by simp) (by simp) (by simp) (by simp)⟩; have R4 : Aside0 (BytesRow w4 (.slice (some ⟨w3.heap.size, 0, none⟩) b.size (grownCap w3 b.size 0 5)) b.data.toList) := ⟨by rw [hw]; exact ((BytesRow.new w3 b).set (B3.out.below (bytesWorld_below w3 _ b)).ty.choose_spec _)⟩; have q40 := (B4.out.bel.cell (World.block_lt_of_cell? w _ q0)).trans q0; have q41 := (B4.out.bel.cell (World.block_lt_of_cell? w _ q1)).trans q1; have q42 := (B4.out.bel.cell (World.block_lt_of_cell? w _ q2)).trans q2; have q43 := (B4.out.bel.cell (World.block_lt_of_cell? w _ q3)).trans q3; have k4256 := B4.out.c256; have k465 := B4.out.c65; obtain ⟨x1, hx1⟩ := B4.out.cT 1 (by decide); have fx1 := B4.out.fzT 1; have f4256 := B4.out.fz 256; have l41 : w.heap.size < w4.heap.size := Nat.lt_trans B4.out.lo B4.out.lt; have l42 : W1.heap.size < w4.heap.size := B4.out.lt; have l43 : w.heap.size < w4.heap.size + 1 := (by omega); have l44 : W1.heap.size < w4.heap.size + 1 := (by omega); clear hw))
    rw [rounds_succ]
    go_wp2_with (first
      | ((with_reducible refine gate_store (t := 22) (p := 125) rfl ?_); refine store_event (t := 22) (p := 125) (v := ?vo_125) (w1 := ((((w4.alloc (.cells #[.int .u8 65] 5)).alloc (.cells #[.string ⟨#[65]⟩] 9)).setCell ⟨w.heap.size, 1, none⟩ (.string ⟨#[65]⟩)).setCell ⟨W1.heap.size, 256, none⟩ (.slice (some ⟨w.heap.size, 0, none⟩) 2 2))) ?hg ?ho ?hn ?hr ?_; (case ho => rfl); (case hg => rfl); (case hn => rfl); (case hr => first | (go_simp; done) | (go_simp; rfl)); intro w5 hw; have B5 : Aside0 (BS w W1.heap.size w5 (.slice (some ⟨w.heap.size, 0, none⟩) 2 2) (.slice none 0 0) (.slice (some ⟨w3.heap.size, 0, none⟩) b.size (grownCap w3 b.size 0 5))) := ⟨by rw [hw]; exact ((((B4.out.below ((Below.refl _ _).alloc (Nat.le_refl _) _)).below ((Below.refl _ _).alloc (Nat.le_refl _) _)).setT 1 _).set 256 _ (by simp) (by simp) (by simp) (.inl rfl))⟩; have hk65 : (bytesWorld w5 5 a).cell? ⟨W1.heap.size, 65, none⟩ = some (.slice none 0 0) := (B5.out.below (bytesWorld_below w5 _ a)).c65; have hf65 : (bytesWorld w5 5 a).frozen? ⟨W1.heap.size, 65, none⟩ = false := (B5.out.below (bytesWorld_below w5 _ a)).fz 65; have R5 : Aside0 (BytesRow w5 (.slice (some ⟨w3.heap.size, 0, none⟩) b.size (grownCap w3 b.size 0 5)) b.data.toList) := ⟨by rw [hw]; exact ((((R4.out.below ((Below.refl _ _).alloc (Nat.le_refl _) _)).below ((Below.refl _ _).alloc (Nat.le_refl _) _)).setT (((B4.out.below ((Below.refl _ _).alloc (Nat.le_refl _) _)).below ((Below.refl _ _).alloc (Nat.le_refl _) _))).tt.choose_spec.1 _).set ((((B4.out.below ((Below.refl _ _).alloc (Nat.le_refl _) _)).below ((Below.refl _ _).alloc (Nat.le_refl _) _)).setT 1 _)).ty.choose_spec _)⟩; clear hw)
      | ((with_reducible refine gate_store (t := 38) (p := 130) rfl ?_); refine store_event (t := 38) (p := 130) (v := ?vo_130) (w1 := ((bytesWorld w5 5 a).setCell ⟨W1.heap.size, 65, none⟩ (.slice (some ⟨w5.heap.size, 0, none⟩) a.size (grownCap w5 a.size 0 5)))) ?hg ?ho ?hn ?hr ?_; (case ho => rfl); (case hg => rfl); (case hn => rfl); (case hr => first | (go_simp; done) | (go_simp; rfl)); intro w6 hw; have B6 : Aside0 (BS w W1.heap.size w6 (.slice (some ⟨w.heap.size, 0, none⟩) 2 2) (.slice (some ⟨w5.heap.size, 0, none⟩) a.size (grownCap w5 a.size 0 5)) (.slice (some ⟨w3.heap.size, 0, none⟩) b.size (grownCap w3 b.size 0 5))) := ⟨by rw [hw]; exact (B5.out.below (bytesWorld_below w5 _ a)).set 65 _ (by simp) (by simp) (by simp) (by simp)⟩; have R6 : Aside0 (BytesRow w6 (.slice (some ⟨w3.heap.size, 0, none⟩) b.size (grownCap w3 b.size 0 5)) b.data.toList) := ⟨by rw [hw]; exact ((R5.out.below (bytesWorld_below w5 _ a)).set (B5.out.below (bytesWorld_below w5 _ a)).ty.choose_spec _)⟩; have R6a : Aside0 (BytesRow w6 (.slice (some ⟨w5.heap.size, 0, none⟩) a.size (grownCap w5 a.size 0 5)) a.data.toList) := ⟨by rw [hw]; exact ((BytesRow.new w5 a).set (B5.out.below (bytesWorld_below w5 _ a)).ty.choose_spec _)⟩; clear hw))
    rw [rounds_succ]
    go_wp2
    go_ret
    exact ⟨_, Nat.le_of_lt B6.out.lo, rfl, ⟨⟨_, B6.out.c65, R6a.out⟩, ⟨_, B6.out.c66, R6.out⟩, B6.out.cn, ⟨_, _, B6.out.c256⟩⟩, B6.out.bel⟩
  by_cases cb : b.size = 1
  · have da : ((a.size : Int) != 1) = true := by rw [bne_iff_ne]; omega
    have db : ((b.size : Int) != 1) = false := by rw [bne_eq_false_iff_eq]; omega
    clear hab ca cb
    have HB2 := Aside0.mk B2
    clear B2
    go_enter Tryz.func121, Tryz.ntmps121
    go_wp2
    go_rounds 3
    refine wp_loop_rounds 3 ?_
    rw [rounds_succ]
    go_wp2_with (first
      | ((with_reducible refine gate_store (t := 22) (p := 125) rfl ?_); refine store_event (t := 22) (p := 125) (v := ?vo_125) (w1 := ((((W2.alloc (.cells #[.int .u8 66] 5)).alloc (.cells #[.string ⟨#[66]⟩] 9)).setCell ⟨w.heap.size, 0, none⟩ (.string ⟨#[66]⟩)).setCell ⟨W1.heap.size, 256, none⟩ (.slice (some ⟨w.heap.size, 0, none⟩) 1 2))) ?hg ?ho ?hn ?hr ?_; (case ho => rfl); (case hg => rfl); (case hn => rfl); (case hr => first | (go_simp; done) | (go_simp; rfl)); intro w3 hw; have B3 : Aside0 (BS w W1.heap.size w3 (.slice (some ⟨w.heap.size, 0, none⟩) 1 2) (.slice none 0 0) (.slice none 0 0)) := ⟨by rw [hw]; exact ((((HB2.out.below ((Below.refl _ _).alloc (Nat.le_refl _) _)).below ((Below.refl _ _).alloc (Nat.le_refl _) _)).setT 0 _).set 256 _ (by simp) (by simp) (by simp) (.inl rfl))⟩; have hk66 : (bytesWorld w3 5 b).cell? ⟨W1.heap.size, 66, none⟩ = some (.slice none 0 0) := (B3.out.below (bytesWorld_below w3 _ b)).c66; have hf66 : (bytesWorld w3 5 b).frozen? ⟨W1.heap.size, 66, none⟩ = false := (B3.out.below (bytesWorld_below w3 _ b)).fz 66; clear hw)
      | ((with_reducible refine gate_store (t := 38) (p := 130) rfl ?_); refine store_event (t := 38) (p := 130) (v := ?vo_130) (w1 := ((bytesWorld w3 5 b).setCell ⟨W1.heap.size, 66, none⟩ (.slice (some ⟨w3.heap.size, 0, none⟩) b.size (grownCap w3 b.size 0 5)))) ?hg ?ho ?hn ?hr ?_; (case ho => rfl); (case hg => rfl); (case hn => rfl); (case hr => first | (go_simp; done) | (go_simp; rfl)); intro w4 hw; have B4 : Aside0 (BS w W1.heap.size w4 (.slice (some ⟨w.heap.size, 0, none⟩) 1 2) (.slice none 0 0) (.slice (some ⟨w3.heap.size, 0, none⟩) b.size (grownCap w3 b.size 0 5))) := ⟨by rw [hw]; exact (B3.out.below (bytesWorld_below w3 _ b)).set 66 _ (by simp) (by simp) (by simp) (by simp)⟩; have R4 : Aside0 (BytesRow w4 (.slice (some ⟨w3.heap.size, 0, none⟩) b.size (grownCap w3 b.size 0 5)) b.data.toList) := ⟨by rw [hw]; exact ((BytesRow.new w3 b).set (B3.out.below (bytesWorld_below w3 _ b)).ty.choose_spec _)⟩; have q40 := (B4.out.bel.cell (World.block_lt_of_cell? w _ q0)).trans q0; have q41 := (B4.out.bel.cell (World.block_lt_of_cell? w _ q1)).trans q1; have q42 := (B4.out.bel.cell (World.block_lt_of_cell? w _ q2)).trans q2; have q43 := (B4.out.bel.cell (World.block_lt_of_cell? w _ q3)).trans q3; have k4256 := B4.out.c256; have k465 := B4.out.c65; obtain ⟨x1, hx1⟩ := B4.out.cT 1 (by decide); have fx1 := B4.out.fzT 1; have f4256 := B4.out.fz 256; have l41 : w.heap.size < w4.heap.size := Nat.lt_trans B4.out.lo B4.out.lt; have l42 : W1.heap.size < w4.heap.size := B4.out.lt; have l43 : w.heap.size < w4.heap.size + 1 := (by omega); have l44 : W1.heap.size < w4.heap.size + 1 := (by omega); clear hw))
    rw [rounds_succ]
    go_wp2_with (first
      | ((with_reducible refine gate_store (t := 22) (p := 125) rfl ?_); refine store_event (t := 22) (p := 125) (v := ?vo_125) (w1 := ((((w4.alloc (.cells #[.int .u8 65] 5)).alloc (.cells #[.string ⟨#[65]⟩] 9)).setCell ⟨w.heap.size, 1, none⟩ (.string ⟨#[65]⟩)).setCell ⟨W1.heap.size, 256, none⟩ (.slice (some ⟨w.heap.size, 0, none⟩) 2 2))) ?hg ?ho ?hn ?hr ?_; (case ho => rfl); (case hg => rfl); (case hn => rfl); (case hr => first | (go_simp; done) | (go_simp; rfl)); intro w5 hw; have B5 : Aside0 (BS w W1.heap.size w5 (.slice (some ⟨w.heap.size, 0, none⟩) 2 2) (.slice none 0 0) (.slice (some ⟨w3.heap.size, 0, none⟩) b.size (grownCap w3 b.size 0 5))) := ⟨by rw [hw]; exact ((((B4.out.below ((Below.refl _ _).alloc (Nat.le_refl _) _)).below ((Below.refl _ _).alloc (Nat.le_refl _) _)).setT 1 _).set 256 _ (by simp) (by simp) (by simp) (.inl rfl))⟩; have hk65 : (bytesWorld w5 5 a).cell? ⟨W1.heap.size, 65, none⟩ = some (.slice none 0 0) := (B5.out.below (bytesWorld_below w5 _ a)).c65; have hf65 : (bytesWorld w5 5 a).frozen? ⟨W1.heap.size, 65, none⟩ = false := (B5.out.below (bytesWorld_below w5 _ a)).fz 65; have R5 : Aside0 (BytesRow w5 (.slice (some ⟨w3.heap.size, 0, none⟩) b.size (grownCap w3 b.size 0 5)) b.data.toList) := ⟨by rw [hw]; exact ((((R4.out.below ((Below.refl _ _).alloc (Nat.le_refl _) _)).below ((Below.refl _ _).alloc (Nat.le_refl _) _)).setT (((B4.out.below ((Below.refl _ _).alloc (Nat.le_refl _) _)).below ((Below.refl _ _).alloc (Nat.le_refl _) _))).tt.choose_spec.1 _).set ((((B4.out.below ((Below.refl _ _).alloc (Nat.le_refl _) _)).below ((Below.refl _ _).alloc (Nat.le_refl _) _)).setT 1 _)).ty.choose_spec _)⟩; clear hw)
      | ((with_reducible refine gate_store (t := 38) (p := 130) rfl ?_); refine store_event (t := 38) (p := 130) (v := ?vo_130) (w1 := ((bytesWorld w5 5 a).setCell ⟨W1.heap.size, 65, none⟩ (.slice (some ⟨w5.heap.size, 0, none⟩) a.size (grownCap w5 a.size 0 5)))) ?hg ?ho ?hn ?hr ?_; (case ho => rfl); (case hg => rfl); (case hn => rfl); (case hr => first | (go_simp; done) | (go_simp; rfl)); intro w6 hw; have B6 : Aside0 (BS w W1.heap.size w6 (.slice (some ⟨w.heap.size, 0, none⟩) 2 2) (.slice (some ⟨w5.heap.size, 0, none⟩) a.size (grownCap w5 a.size 0 5)) (.slice (some ⟨w3.heap.size, 0, none⟩) b.size (grownCap w3 b.size 0 5))) := ⟨by rw [hw]; exact (B5.out.below (bytesWorld_below w5 _ a)).set 65 _ (by simp) (by simp) (by simp) (by simp)⟩; have R6 : Aside0 (BytesRow w6 (.slice (some ⟨w3.heap.size, 0, none⟩) b.size (grownCap w3 b.size 0 5)) b.data.toList) := ⟨by rw [hw]; exact ((R5.out.below (bytesWorld_below w5 _ a)).set (B5.out.below (bytesWorld_below w5 _ a)).ty.choose_spec _)⟩; have R6a : Aside0 (BytesRow w6 (.slice (some ⟨w5.heap.size, 0, none⟩) a.size (grownCap w5 a.size 0 5)) a.data.toList) := ⟨by rw [hw]; exact ((BytesRow.new w5 a).set (B5.out.below (bytesWorld_below w5 _ a)).ty.choose_spec _)⟩; clear hw))
    rw [rounds_succ]
    go_wp2
    go_ret
    exact ⟨_, Nat.le_of_lt B6.out.lo, rfl, ⟨⟨_, B6.out.c65, R6a.out⟩, ⟨_, B6.out.c66, R6.out⟩, B6.out.cn, ⟨_, _, B6.out.c256⟩⟩, B6.out.bel⟩
  · have da : ((a.size : Int) != 1) = true := by rw [bne_iff_ne]; omega
    have db : ((b.size : Int) != 1) = true := by rw [bne_iff_ne]; omega
    clear hab ca cb
    have HB2 := Aside0.mk B2
    clear B2
    go_enter Tryz.func121, Tryz.ntmps121
    go_wp2
    go_rounds 3
    refine wp_loop_rounds 3 ?_
    rw [rounds_succ]
    go_wp2_with (first
      | ((with_reducible refine gate_store (t := 22) (p := 125) rfl ?_); refine store_event (t := 22) (p := 125) (v := ?vo_125) (w1 := ((((W2.alloc (.cells #[.int .u8 66] 5)).alloc (.cells #[.string ⟨#[66]⟩] 9)).setCell ⟨w.heap.size, 0, none⟩ (.string ⟨#[66]⟩)).setCell ⟨W1.heap.size, 256, none⟩ (.slice (some ⟨w.heap.size, 0, none⟩) 1 2))) ?hg ?ho ?hn ?hr ?_; (case ho => rfl); (case hg => rfl); (case hn => rfl); (case hr => first | (go_simp; done) | (go_simp; rfl)); intro w3 hw; have B3 : Aside0 (BS w W1.heap.size w3 (.slice (some ⟨w.heap.size, 0, none⟩) 1 2) (.slice none 0 0) (.slice none 0 0)) := ⟨by rw [hw]; exact ((((HB2.out.below ((Below.refl _ _).alloc (Nat.le_refl _) _)).below ((Below.refl _ _).alloc (Nat.le_refl _) _)).setT 0 _).set 256 _ (by simp) (by simp) (by simp) (.inl rfl))⟩; have hk66 : (bytesWorld w3 5 b).cell? ⟨W1.heap.size, 66, none⟩ = some (.slice none 0 0) := (B3.out.below (bytesWorld_below w3 _ b)).c66; have hf66 : (bytesWorld w3 5 b).frozen? ⟨W1.heap.size, 66, none⟩ = false := (B3.out.below (bytesWorld_below w3 _ b)).fz 66; clear hw)
      | ((with_reducible refine gate_store (t := 38) (p := 130) rfl ?_); refine store_event (t := 38) (p := 130) (v := ?vo_130) (w1 := ((bytesWorld w3 5 b).setCell ⟨W1.heap.size, 66, none⟩ (.slice (some ⟨w3.heap.size, 0, none⟩) b.size (grownCap w3 b.size 0 5)))) ?hg ?ho ?hn ?hr ?_; (case ho => rfl); (case hg => rfl); (case hn => rfl); (case hr => first | (go_simp; done) | (go_simp; rfl)); intro w4 hw; have B4 : Aside0 (BS w W1.heap.size w4 (.slice (some ⟨w.heap.size, 0, none⟩) 1 2) (.slice none 0 0) (.slice (some ⟨w3.heap.size, 0, none⟩) b.size (grownCap w3 b.size 0 5))) := ⟨by rw [hw]; exact (B3.out.below (bytesWorld_below w3 _ b)).set 66 _ (by simp) (by simp) (by simp) (by simp)⟩; have R4 : Aside0 (BytesRow w4 (.slice (some ⟨w3.heap.size, 0, none⟩) b.size (grownCap w3 b.size 0 5)) b.data.toList) := ⟨by rw [hw]; exact ((BytesRow.new w3 b).set (B3.out.below (bytesWorld_below w3 _ b)).ty.choose_spec _)⟩; have q40 := (B4.out.bel.cell (World.block_lt_of_cell? w _ q0)).trans q0; have q41 := (B4.out.bel.cell (World.block_lt_of_cell? w _ q1)).trans q1; have q42 := (B4.out.bel.cell (World.block_lt_of_cell? w _ q2)).trans q2; have q43 := (B4.out.bel.cell (World.block_lt_of_cell? w _ q3)).trans q3; have k4256 := B4.out.c256; have k465 := B4.out.c65; obtain ⟨x1, hx1⟩ := B4.out.cT 1 (by decide); have fx1 := B4.out.fzT 1; have f4256 := B4.out.fz 256; have l41 : w.heap.size < w4.heap.size := Nat.lt_trans B4.out.lo B4.out.lt; have l42 : W1.heap.size < w4.heap.size := B4.out.lt; have l43 : w.heap.size < w4.heap.size + 1 := (by omega); have l44 : W1.heap.size < w4.heap.size + 1 := (by omega); clear hw))
    rw [rounds_succ]
    go_wp2_with (first
      | ((with_reducible refine gate_store (t := 22) (p := 125) rfl ?_); refine store_event (t := 22) (p := 125) (v := ?vo_125) (w1 := ((((w4.alloc (.cells #[.int .u8 65] 5)).alloc (.cells #[.string ⟨#[65]⟩] 9)).setCell ⟨w.heap.size, 1, none⟩ (.string ⟨#[65]⟩)).setCell ⟨W1.heap.size, 256, none⟩ (.slice (some ⟨w.heap.size, 0, none⟩) 2 2))) ?hg ?ho ?hn ?hr ?_; (case ho => rfl); (case hg => rfl); (case hn => rfl); (case hr => first | (go_simp; done) | (go_simp; rfl)); intro w5 hw; have B5 : Aside0 (BS w W1.heap.size w5 (.slice (some ⟨w.heap.size, 0, none⟩) 2 2) (.slice none 0 0) (.slice (some ⟨w3.heap.size, 0, none⟩) b.size (grownCap w3 b.size 0 5))) := ⟨by rw [hw]; exact ((((B4.out.below ((Below.refl _ _).alloc (Nat.le_refl _) _)).below ((Below.refl _ _).alloc (Nat.le_refl _) _)).setT 1 _).set 256 _ (by simp) (by simp) (by simp) (.inl rfl))⟩; have hk65 : (bytesWorld w5 5 a).cell? ⟨W1.heap.size, 65, none⟩ = some (.slice none 0 0) := (B5.out.below (bytesWorld_below w5 _ a)).c65; have hf65 : (bytesWorld w5 5 a).frozen? ⟨W1.heap.size, 65, none⟩ = false := (B5.out.below (bytesWorld_below w5 _ a)).fz 65; have R5 : Aside0 (BytesRow w5 (.slice (some ⟨w3.heap.size, 0, none⟩) b.size (grownCap w3 b.size 0 5)) b.data.toList) := ⟨by rw [hw]; exact ((((R4.out.below ((Below.refl _ _).alloc (Nat.le_refl _) _)).below ((Below.refl _ _).alloc (Nat.le_refl _) _)).setT (((B4.out.below ((Below.refl _ _).alloc (Nat.le_refl _) _)).below ((Below.refl _ _).alloc (Nat.le_refl _) _))).tt.choose_spec.1 _).set ((((B4.out.below ((Below.refl _ _).alloc (Nat.le_refl _) _)).below ((Below.refl _ _).alloc (Nat.le_refl _) _)).setT 1 _)).ty.choose_spec _)⟩; clear hw)
      | ((with_reducible refine gate_store (t := 38) (p := 130) rfl ?_); refine store_event (t := 38) (p := 130) (v := ?vo_130) (w1 := ((bytesWorld w5 5 a).setCell ⟨W1.heap.size, 65, none⟩ (.slice (some ⟨w5.heap.size, 0, none⟩) a.size (grownCap w5 a.size 0 5)))) ?hg ?ho ?hn ?hr ?_; (case ho => rfl); (case hg => rfl); (case hn => rfl); (case hr => first | (go_simp; done) | (go_simp; rfl)); intro w6 hw; have B6 : Aside0 (BS w W1.heap.size w6 (.slice (some ⟨w.heap.size, 0, none⟩) 2 2) (.slice (some ⟨w5.heap.size, 0, none⟩) a.size (grownCap w5 a.size 0 5)) (.slice (some ⟨w3.heap.size, 0, none⟩) b.size (grownCap w3 b.size 0 5))) := ⟨by rw [hw]; exact (B5.out.below (bytesWorld_below w5 _ a)).set 65 _ (by simp) (by simp) (by simp) (by simp)⟩; have R6 : Aside0 (BytesRow w6 (.slice (some ⟨w3.heap.size, 0, none⟩) b.size (grownCap w3 b.size 0 5)) b.data.toList) := ⟨by rw [hw]; exact ((R5.out.below (bytesWorld_below w5 _ a)).set (B5.out.below (bytesWorld_below w5 _ a)).ty.choose_spec _)⟩; have R6a : Aside0 (BytesRow w6 (.slice (some ⟨w5.heap.size, 0, none⟩) a.size (grownCap w5 a.size 0 5)) a.data.toList) := ⟨by rw [hw]; exact ((BytesRow.new w5 a).set (B5.out.below (bytesWorld_below w5 _ a)).ty.choose_spec _)⟩; clear hw))
    rw [rounds_succ]
    go_wp2
    go_ret
    exact ⟨_, Nat.le_of_lt B6.out.lo, rfl, ⟨⟨_, B6.out.c65, R6a.out⟩, ⟨_, B6.out.c66, R6.out⟩, B6.out.cn, ⟨_, _, B6.out.c256⟩⟩, B6.out.bel⟩
end Go.Proofs.YtndkkpjofddfjaaGreatDoorRepl
