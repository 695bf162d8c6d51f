/-
  strings.NewReplacer("A", a, "B", b).Replace(s) answers s with a in the place of 'A' and b in the place of 'B', for a and b of at most two bytes and s of fewer than 16.
-/
import Derived.Test.YtndkkpjofddfjaaGreatDoorBuild
import Derived.Deep.RegionWith
import Derived.Deep.RegionHeld3
namespace Go.Proofs.YtndkkpjofddfjaaGreatDoorRepl
open Go.RowKit Go.Lib Go.Proofs Go.Proofs.YtndkkpjofddfjaaGreatDoorW.PrintWords Go.Proofs.YtndkkpjofddfjaaGreatDoorW.PrintLast Go.Proofs.YtndkkpjofddfjaaGreatDoorW.PrintMore
set_option linter.unusedVariables false
set_option linter.unusedSimpArgs false
def Rdy (W : World) (r : Nat) (v : Value) (a b : ByteArray) : Prop := (∃ G x y, G ≠ r ∧ v = .iface 176 (.pointer (some ⟨G, 0, none⟩)) ∧ a = ⟨#[x]⟩ ∧ b = ⟨#[y]⟩ ∧ BRT W G (fun c => if c = 65 then x else if c = 66 then y else c)) ∨ ∃ G, G ≠ r ∧ v = .iface 180 (.pointer (some ⟨G, 0, none⟩)) ∧ BSRr W G a.data.toList b.data.toList
theorem Rdy.set {W : World} {r : Nat} {v : Value} {a b : ByteArray} (h : Rdy W r v a b) {cs : Array Value} {fr : Nat × Nat} (hr : W.heap[r]? = some (.cells cs 136 fr)) (i : Nat) (u : Value) : Rdy (W.setCell ⟨r, i, none⟩ u) r v a b := by
  rcases h with ⟨G, x, y, h1, h2, h3, h4, h5⟩ | ⟨G, h1, h2, h3⟩
  · exact .inl ⟨G, x, y, h1, h2, h3, h4, h5.setX h1 u⟩
  · exact .inr ⟨G, h1, h2, h3.setX hr (by decide) h1 u⟩
theorem Rdy.drew {W : World} {r : Nat} {v : Value} {a b : ByteArray} (h : Rdy W r v a b) : Rdy W.drew r v a b := by
  rcases h with ⟨G, x, y, h1, h2, h3, h4, h5⟩ | ⟨G, h1, h2, h3⟩
  · exact .inl ⟨G, x, y, h1, h2, h3, h4, h5.drew⟩
  · exact .inr ⟨G, h1, h2, h3.drew⟩
theorem Rdy.shape {W : World} {r : Nat} {v : Value} {a b : ByteArray} (h : Rdy W r v a b) : ∃ t G, v = .iface t (.pointer (some ⟨G, 0, none⟩)) := by
  rcases h with ⟨G, x, y, h1, h2, h3, h4, h5⟩ | ⟨G, h1, h2, h3⟩
  · exact ⟨_, G, h2⟩
  · exact ⟨_, G, h2⟩
theorem one_byte (a : ByteArray) (h : a.size = 1) : ∃ x, a = ⟨#[x]⟩ := by
  obtain ⟨d⟩ := a
  obtain ⟨l⟩ := d
  match l, h with
  | [x], _ => exact ⟨x, rfl⟩
theorem build_any (r : Nat) (a b : ByteArray) (w : World) (h : Pairs w r a b) (hr : r < w.heap.size) (ha : a.size ≤ 2) (hb : b.size ≤ 2) :
    Calls Tryz.prog 121 #[.pointer (some ⟨r, 0, none⟩)] w fun e w' => ∃ v, e = .returned v ∧ Rdy w' r v a b ∧ Below w.heap.size w w' := by
  by_cases hab : a.size = 1 ∧ b.size = 1
  · obtain ⟨x, rfl⟩ := one_byte a hab.1
    obtain ⟨y, rfl⟩ := one_byte b hab.2
    refine (build_bytes r x y w h).mono ?_
    rintro e w' ⟨G, hG, rfl, hT, hB⟩
    exact ⟨_, rfl, .inl ⟨G, x, y, by omega, rfl, rfl, rfl, hT⟩, hB⟩
  · refine (build_strings r a b w h ha hb hab).mono ?_
    rintro e w' ⟨G, hG, rfl, hT, hB⟩
    exact ⟨_, rfl, .inr ⟨G, by omega, rfl, hT⟩, hB⟩
set_option maxHeartbeats 4000000 in
set_option maxRecDepth 100000 in
theorem buildOnce_any (r : Nat) (a b : ByteArray) (w : World) (h : Pairs w r a b) {cs : Array Value} (hr : w.heap[r]? = some (.cells cs 136 (0, 0))) (hs : cs.size = 5) (ha : a.size ≤ 2) (hb : b.size ≤ 2) :
    Calls Tryz.prog 105 #[.pointer (some ⟨r, 0, none⟩)] w fun e w' => e = .returned (.tuple #[]) ∧ ∃ v w1, Rdy w1 r v a b ∧ Below w.heap.size w w1 ∧ w' = (w1.setCell ⟨r, 3, none⟩ v).setCell ⟨r, 4, none⟩ (.slice none 0 0) := by
  have hrl : r < w.heap.size := (Array.getElem?_eq_some_iff.1 hr).1
  go_enter Tryz.func105, Tryz.ntmps105
  go_wp2_with (go_at_call 121; refine (build_any r a b _ h hrl ha hb).mono ?_; rintro e w1 ⟨v, rfl, hR, hB⟩; obtain ⟨T, G, rfl⟩ := hR.shape; have c3 : w1.cell? ⟨r, 3, none⟩ = some cs[3] := ((hB.cell hrl).trans (by simp [World.cell?, hr])); have c4 : w1.cell? ⟨r, 4, none⟩ = some cs[4] := ((hB.cell hrl).trans (by simp [World.cell?, hr])); have f3 : w1.frozen? ⟨r, 3, none⟩ = false := ((hB.frozen hrl).trans (by simp [World.frozen?, hr])); have f4 : w1.frozen? ⟨r, 4, none⟩ = false := ((hB.frozen hrl).trans (by simp [World.frozen?, hr])); have HB := Aside0.mk hB; have HR := Aside0.mk hR; clear hB hR)
  go_wp2
  go_end0
  exact ⟨rfl, _, w1, HR.out, HB.out, rfl⟩
def NewRep (a b : ByteArray) (W : World) (r : Nat) : Prop := ∃ g c cg fg, W.heap[r]? = some (.cells #[.int .u32 0, .int .i32 0, .int .u32 0, .nilIface, .slice (some ⟨g, 0, none⟩) 4 c] 136 (0, 0)) ∧ g ≠ r ∧ W.heap[g]? = some (.cells cg 9 fg) ∧ cg.toList.take 4 = [.string ⟨#[65]⟩, .string a, .string ⟨#[66]⟩, .string b]
theorem NewRep.pairs {a b : ByteArray} {W : World} {r : Nat} (h : NewRep a b W r) : Pairs W r a b := by
  obtain ⟨g, c, cg, fg, h1, h2, h3, h4⟩ := h
  have hc : ∀ i v, [Value.string ⟨#[65]⟩, .string a, .string ⟨#[66]⟩, .string b][i]? = some v → W.cell? ⟨g, i, none⟩ = some v := fun i v hv => by
    have hi : i < 4 := by
      have := (List.getElem?_eq_some_iff.1 hv).1
      simpa using this
    rw [← h4, List.getElem?_take_of_lt hi, Array.getElem?_toList] at hv
    simp [World.cell?, h3, hv]
  exact ⟨g, c, by simp [World.cell?, h1], hc 0 _ rfl, hc 1 _ rfl, hc 2 _ rfl, hc 3 _ rfl⟩
theorem repl_map (x y : UInt8) : ∀ s : List UInt8, repl [x] [y] s = s.map (fun c => if c = 65 then x else if c = 66 then y else c)
  | [] => rfl
  | c :: s => by
    have ih := repl_map x y s
    unfold repl at ih ⊢
    rw [List.flatMap_cons, List.map_cons, ih]
    unfold rep1
    by_cases c1 : c = 65
    · rw [if_pos c1, if_pos c1]
      rfl
    · by_cases c2 : c = 66
      · rw [if_neg c1, if_pos c2, if_neg c1, if_pos c2]
        rfl
      · rw [if_neg c1, if_neg c2, if_neg c1, if_neg c2]
        rfl
theorem after_build {w w1 : World} {r : Nat} {v : Value} {a b : ByteArray} {sl : Value} (h1 : w.heap[r]? = some (.cells #[.int .u32 0, .int .i32 0, .int .u32 0, .nilIface, sl] 136 (0, 0))) (k1 : Rdy w1 r v a b) (k2 : Below w.heap.size (w.setCell ⟨r, 1, none⟩ (.int .i32 1)) w1) :
    ∃ cs, ((w1.setCell ⟨r, 3, none⟩ v).setCell ⟨r, 4, none⟩ (.slice none 0 0)).heap[r]? = some (.cells cs 136 (0, 0)) ∧ cs.size = 5 ∧ cs[0]? = some (.int .u32 0) ∧ cs[1]? = some (.int .i32 1) ∧ cs[3]? = some v ∧ Rdy ((w1.setCell ⟨r, 3, none⟩ v).setCell ⟨r, 4, none⟩ (.slice none 0 0)) r v a b := by
  have hrl : r < w.heap.size := (Array.getElem?_eq_some_iff.1 h1).1
  have r0 := set_heap (i := 1) h1 (.int .i32 1)
  have r1 := (k2.block r hrl).trans r0
  have r3 := set_heap (i := 3) r1 v
  have r4 := set_heap (i := 4) r3 (.slice none 0 0)
  exact ⟨_, r4, by simp, by simp, by simp, by simp, (k1.set r1 3 v).set r3 4 _⟩
theorem after_once {W : World} {r : Nat} {v : Value} {a b : ByteArray} {cs : Array Value} (m1 : W.heap[r]? = some (.cells cs 136 (0, 0))) (m5 : cs[3]? = some v) (m6 : Rdy W r v a b) :
    Rdy ((W.drew.setCell ⟨r, 0, none⟩ (.int .u32 1)).setCell ⟨r, 1, none⟩ (.int .i32 0)) r v a b ∧ ((W.drew.setCell ⟨r, 0, none⟩ (.int .u32 1)).setCell ⟨r, 1, none⟩ (.int .i32 0)).cell? ⟨r, 3, none⟩ = some v := by
  have m1' : W.drew.heap[r]? = some (.cells cs 136 (0, 0)) := m1
  have n0 := set_heap (i := 0) m1' (.int .u32 1)
  have n1 := set_heap (i := 1) n0 (.int .i32 0)
  exact ⟨(m6.drew.set m1' 0 _).set n0 1 _, by simp only [World.cell?, n1]; simp [m5]⟩
set_option maxHeartbeats 4000000 in
set_option maxRecDepth 100000 in
theorem replace_any (r : Nat) (a b s : ByteArray) (w0 w : World) (hB0 : Below w0.heap.size w0 w) (hr0 : w0.heap.size ≤ r) (h : NewRep a b w r) (ha : a.size ≤ 2) (hb : b.size ≤ 2) (hs : s.size < 16) :
    Calls Tryz.prog 76 #[.pointer (some ⟨r, 0, none⟩), .string s] w fun e w' => e = .returned (.string ⟨(repl a.data.toList b.data.toList s.data.toList).toArray⟩) ∧ Below w0.heap.size w0 w' := by
  have hp := h.pairs
  obtain ⟨g, c, cg, fg, h1, h2, h3, h4⟩ := h
  have hmf : ∀ (fn : Fn) (first cap : Array Value) (w : World), (Instr.makeFunc fn first cap).run Tryz.prog w = .ok (.func fn first cap) w := fun _ _ _ _ => rfl
  have c0 : w.cell? ⟨r, 0, none⟩ = some (.int .u32 0) := by simp [World.cell?, h1]
  have c1 : w.cell? ⟨r, 1, none⟩ = some (.int .i32 0) := by simp [World.cell?, h1]
  have f0 : w.frozen? ⟨r, 0, none⟩ = false := by simp [World.frozen?, h1]
  have f1 : w.frozen? ⟨r, 1, none⟩ = false := by simp [World.frozen?, h1]
  have hrl : r < w.heap.size := (Array.getElem?_eq_some_iff.1 h1).1
  have hrow1 := set_heap (i := 1) h1 (.int .i32 1)
  have hp1 : Pairs (w.setCell ⟨r, 1, none⟩ (.int .i32 1)) r a b := by
    obtain ⟨g', c', k4, q0, q1, q2, q3⟩ := hp.ho
    have e4 : w.cell? ⟨r, 4, none⟩ = some (.slice (some ⟨g, 0, none⟩) 4 c) := by simp [World.cell?, h1]
    rw [e4] at k4
    obtain ⟨rfl, rfl⟩ : g = g' ∧ c = c' := by simpa using k4
    have ho : ∀ i, (w.setCell ⟨r, 1, none⟩ (.int .i32 1)).cell? ⟨g, i, none⟩ = w.cell? ⟨g, i, none⟩ := fun i => World.cell?_of_block (Below.heap_setCell w _ _ g h2)
    exact ⟨g, c, (World.cell?_setCell_other _ ⟨r, 1, none⟩ ⟨r, 4, none⟩ _ (by simp)).trans e4, (ho _).trans q0, (ho _).trans q1, (ho _).trans q2, (ho _).trans q3⟩
  have hbo := buildOnce_any r a b _ hp1 hrow1 (by simp) ha hb
  have hdo := Go.Proofs.YtndkkpjofddfjaaGreatDoorOnce.do_first r w (fun w' => ∃ v w1, Rdy w1 r v a b ∧ Below w.heap.size (w.setCell ⟨r, 1, none⟩ (.int .i32 1)) w1 ∧ w' = (w1.setCell ⟨r, 3, none⟩ v).setCell ⟨r, 4, none⟩ (.slice none 0 0)) c0 c1 f0 f1 (hbo.mono fun e w' ⟨he, v, w1, k1, k2, k3⟩ => ⟨he, v, w1, k1, by simpa [World.setCell] using k2, k3⟩) ?_
  · go_enter Tryz.func76, Tryz.ntmps76
    go_wp2_with (go_at_call 104; refine hdo.mono ?_; rintro e w9 ⟨rfl, w8, ⟨v, w1, k1, k2, rfl⟩, hw9⟩; obtain ⟨T, G0, rfl⟩ := k1.shape; obtain ⟨cs, m1, m2, m3, m4, m5, m6⟩ := after_build h1 k1 k2; have HRD : Aside0 (Rdy w9 r (.iface T (.pointer (some ⟨G0, 0, none⟩))) a b) := ⟨by rw [hw9]; exact (after_once m1 m5 m6).1⟩; have c3 : w9.cell? ⟨r, 3, none⟩ = some (.iface T (.pointer (some ⟨G0, 0, none⟩))) := (by rw [hw9]; exact (after_once m1 m5 m6).2); have HB9 : Aside0 (Below w0.heap.size w0 w9) := ⟨by rw [hw9]; exact below_set (below_set (below_drew1 (below_set (below_set ((below_set hB0 hr0).trans (k2.mono hB0.size)) hr0) hr0)) hr0) hr0⟩; clear hw9 m1 m2 m3 m4 m5 m6 k1 k2)
    obtain ⟨HRD⟩ := HRD
    rcases HRD with ⟨G, x, y, p1, p2, rfl, rfl, p5⟩ | ⟨G, p1, p2, p3⟩
    · obtain ⟨rfl, rfl⟩ : T = 176 ∧ G0 = G := by simpa using p2
      clear p2
      have hcall := br_replace G0 _ s w9 p5 hs
      clear p5
      go_wp2_with (go_at_call 211; refine hcall.mono ?_; rintro e w10 ⟨rfl, hb⟩; have HB10 := Aside0.mk (HB9.out.trans (hb.mono HB9.out.size)); clear hb)
      go_wp2
      go_ret
      exact ⟨by rw [← repl_map]; rfl, HB10.out⟩
    · obtain ⟨rfl, rfl⟩ : T = 180 ∧ G0 = G := by simpa using p2
      clear p2
      have hcall := bsr_replace G0 a.data.toList b.data.toList s w9 p3.at hs (by simpa using ha) (by simpa using hb)
      clear p3
      go_wp2_with (go_at_call 213; refine hcall.mono ?_; rintro e w10 ⟨rfl, hb⟩; have HB10 := Aside0.mk (HB9.out.trans (hb.mono HB9.out.size)); clear hb)
      go_wp2
      go_ret
      exact ⟨rfl, HB10.out⟩
  · rintro w' ⟨v, w1, k1, k2, rfl⟩
    obtain ⟨cs, m1, m2, m3, m4, m5, m6⟩ := after_build h1 k1 k2
    exact ⟨by simp only [World.cell?, m1]; simp [m3], by simp only [World.cell?, m1]; simp [m4], by simp [World.frozen?, m1], by simp [World.frozen?, m1]⟩
theorem NewRep.below {a b : ByteArray} {W W' : World} {r : Nat} (h : NewRep a b W r) (hb : Below W.heap.size W W') : NewRep a b W' r := by
  obtain ⟨g, c, cg, fg, h1, h2, h3, h4⟩ := h
  exact ⟨g, c, cg, fg, (hb.block r (Array.getElem?_eq_some_iff.1 h1).1).trans h1, h2, (hb.block g (Array.getElem?_eq_some_iff.1 h3).1).trans h3, h4⟩
theorem own_shape {W : World} {B e n : Nat} {v : Value} {xs : List Value} (h : W.ownsRow B e 1 v n xs) (hn : v ≠ .slice none 0 0) : ∃ g cap cur, v = .slice (some ⟨g, 0, none⟩) n cap ∧ B ≤ g ∧ W.heap[g]? = some (.cells cur e (0, 0)) ∧ cur.toList.take n = xs := by
  rcases h.2 with ⟨rfl, _⟩ | ⟨g, cap, cur, rfl, hb, hg, _, _, _, ht⟩
  · exact absurd rfl hn
  · exact ⟨g, cap, cur, rfl, hb, hg, by rw [Nat.mul_one] at ht; exact ht⟩
set_option maxHeartbeats 4000000 in
set_option maxRecDepth 100000 in
theorem new_any (ga c : Nat) (a b : ByteArray) (w0 w : World) (hB0 : Below w0.heap.size w0 w) (hg : ∀ j u, [Value.string ⟨#[65]⟩, .string a, .string ⟨#[66]⟩, .string b][j]? = some u → w.cell? ((⟨ga, 0, none⟩ : Addr).add j) = some u) :
    Calls Tryz.prog 75 #[.slice (some ⟨ga, 0, none⟩) 4 c] w fun e w' => ∃ r, e = .returned (.pointer (some ⟨r, 0, none⟩)) ∧ w0.heap.size ≤ r ∧ NewRep a b w' r ∧ Below w.heap.size w w' := by
  have hu42 := Tryz.underlying22
  obtain ⟨i9, hi9⟩ := Option.isSome_iff_exists.mp (show (Tryz.prog.info? 9).isSome = true by kernel_rfl)
  have hz9 : i9.zero = some (.string ⟨#[]⟩) := by have : (Tryz.prog.info? 9).map (·.zero) = some (some (.string ⟨#[]⟩)) := by kernel_rfl
                                                  rw [hi9] at this; exact Option.some.inj this
  have hs9 : i9.size = 1 := by have : (Tryz.prog.info? 9).map (·.size) = some 1 := by kernel_rfl
                               rw [hi9] at this; exact Option.some.inj this
  have hb9 : i9.bytes = 16 := by have : (Tryz.prog.info? 9).map (·.bytes) = some 16 := by kernel_rfl
                                 rw [hi9] at this; exact Option.some.inj this
  have hnil : w.ownsRow w.heap.size 9 1 (.slice none 0 0) 0 [] := ⟨rfl, .inl ⟨rfl, rfl⟩⟩
  go_enter Tryz.func75, Tryz.ntmps75
  go_wp2_with (at_builtin; (refine wpList_append_own _ ?hgd (.const (.slice none 0 0)) (.tmp 8) 22 ?ho w.heap.size 9 i9 (.string ⟨#[]⟩) 1 16 hu42 hi9 hz9 hs9 hb9 ?hzs (by decide) (.slice none 0 0) 0 [] ?hs hnil ⟨ga, 0, none⟩ 4 c [.string ⟨#[65]⟩, .string a, .string ⟨#[66]⟩, .string b] ?hx ?hl hg ?h1 ?h63 ?hby (Nat.le_refl _) ?h); (case hgd => rfl); (case ho => rfl); (case hzs => rfl); (case hs => rfl); (case hx => rfl); (case hl => rfl); (case h1 => intro u hu; simp at hu; rcases hu with rfl | rfl | rfl | rfl <;> rfl); (case h63 => unfold maxLen; omega); (case hby => omega); intro v3 w3 hown3 hgrow3 hnil3; obtain ⟨g3, c3, cur, rfl, hb3, hr3, ht3⟩ := own_shape hown3 (fun e => by have := (hnil3.1 e).2; omega); have HB3 : Aside0 (Below w.heap.size w w3) := ⟨(Below.refl _ w).grown hgrow3 (Nat.le_refl _) (fun k hk => by cases hk)⟩; have HR3 := Aside0.mk hr3; have HT3 := Aside0.mk ht3; clear hnil3 hown3 hgrow3 hr3 ht3)
  go_wp2
  go_ret
  have hlt : g3 < w3.heap.size := (Array.getElem?_eq_some_iff.1 HR3.out).1
  refine ⟨w3.heap.size, rfl, Nat.le_trans hB0.size HB3.out.size, ⟨g3, c3, cur, (0, 0), ?_, by omega, ?_, HT3.out⟩, HB3.out.alloc HB3.out.size _⟩
  · simp [World.alloc, -World.alloc_eq]
  · exact (Below.heap_alloc _ _ _ hlt).trans HR3.out
def formList : List ByteArray := [⟨#[115, 107, 105, 112]⟩, ⟨#[65, 61, 110, 117, 108, 108]⟩, ⟨#[65, 61, 110, 101, 119]⟩, ⟨#[65, 61, 66]⟩, ⟨#[65, 61, 66, 46, 110]⟩, ⟨#[65, 46, 110, 61, 110, 117, 108, 108]⟩, ⟨#[65, 46, 110, 61, 66]⟩, ⟨#[102, 114, 101, 101, 32, 65]⟩, ⟨#[65, 61, 61, 110, 117, 108, 108]⟩, ⟨#[65, 33, 61, 110, 117, 108, 108]⟩, ⟨#[65, 61, 61, 66]⟩, ⟨#[65, 33, 61, 66]⟩]
set_option maxHeartbeats 4000000 in
set_option maxRecDepth 100000 in
theorem forms_any (w : World) : Calls Tryz.prog 77 #[] w fun e w' => ∃ F, e = .returned (.slice (some ⟨F, 0, none⟩) 12 12) ∧ (∀ i (hi : i < 12), w'.cell? ⟨F, i, none⟩ = some (.string (formList[i]'hi))) ∧ Below w.heap.size w w' := by
  go_enter Tryz.func77, Tryz.ntmps77
  go_wp2
  go_ret
  refine ⟨w.heap.size, rfl, fun i hi => ?_, (Below.refl _ w).alloc (Nat.le_refl _) _⟩
  have : i = 0 ∨ i = 1 ∨ i = 2 ∨ i = 3 ∨ i = 4 ∨ i = 5 ∨ i = 6 ∨ i = 7 ∨ i = 8 ∨ i = 9 ∨ i = 10 ∨ i = 11 := by omega
  rcases this with rfl | rfl | rfl | rfl | rfl | rfl | rfl | rfl | rfl | rfl | rfl | rfl <;> simp [formList]
theorem four_cells (W : World) (t : TypeId) (x0 x1 x2 x3 : Value) : ∀ j u, [x0, x1, x2, x3][j]? = some u → (W.alloc (.cells #[x0, x1, x2, x3] t)).cell? ((⟨W.heap.size, 0, none⟩ : Addr).add j) = some u := by
  intro j u hj
  match j, hj with
  | 0, hj => simp at hj; subst hj; simp [Addr.add]
  | 1, hj => simp at hj; subst hj; simp [Addr.add]
  | 2, hj => simp at hj; subst hj; simp [Addr.add]
  | 3, hj => simp at hj; subst hj; simp [Addr.add]
  | (j + 4), hj => simp at hj
set_option maxHeartbeats 8000000 in
set_option maxRecDepth 100000 in
theorem text_rest (n : Nat) (hn : n < 12) (a b : ByteArray) (ha : a.size ≤ 2) (hb : b.size ≤ 2) (w : World)
    (hnames : ∀ w, Calls Tryz.prog 73 #[.agg #[.int .i64 ((n : Int) + 1), .string a, .string b], .func (.func 74) #[] #[]] w fun e w' => e = .returned (.bool true) ∧ Below w.heap.size w w') :
    Calls Tryz.prog 36 #[.agg #[.int .i64 ((n : Int) + 1), .string a, .string b]] w fun e w' => e = .returned (.string ⟨(repl a.data.toList b.data.toList (formList[n]'hn).data.toList).toArray⟩) ∧ Below w.heap.size w w' := by
  have hu42 := Tryz.underlying22
  have hu26 := Tryz.underlying50
  have hs16 : (formList[n]'hn).size < 16 := by
    have : ∀ x ∈ formList, x.size < 16 := by decide
    exact this _ (List.getElem_mem hn)
  have hn0 : (0 : Int) ≤ (n : Int) := by omega
  have hn1 : (n : Int) < 12 := by omega
  have hn2 : (n : Int) + 1 ≤ 12 := by omega
  have hw1 : IntKind.i64.wrap ((n : Int) + 1 - 1) = (n : Int) := by rw [IntKind.wrap_i64]; omega
  have hw3 : IntKind.i64.wrap (n : Int) = (n : Int) := by rw [IntKind.wrap_i64]; omega
  have hw2 : ((n : Int)).toNat = n := Int.toNat_natCast n
  go_enter Tryz.func36, Tryz.ntmps36
  go_wp2_with (first
    | ((with_reducible refine gate_dst (N := 1) rfl ?_); refine box_event ?hg (N := 1) ?hd (cs := #[.int .i64 ((n : Int) + 1), .string a, .string b]) (t := 50) ?hr ?_; (case hd => rfl); (case hg => rfl); (case hr => first | (go_simp; done) | (go_simp; rfl)); intro gb hgb W1 hbox hb1; have HB1 := Aside0.mk hb1; have BX := Aside0.mk hbox; have q0 : W1.cell? ⟨gb, 0, none⟩ = some (.int .i64 ((n : Int) + 1)) := (blk_cell hbox 0).trans rfl; have q1 : W1.cell? ⟨gb, 1, none⟩ = some (.string a) := (blk_cell hbox 1).trans rfl; have q2 : W1.cell? ⟨gb, 2, none⟩ = some (.string b) := (blk_cell hbox 2).trans rfl; clear hb1 hbox hgb)
    | (go_at_call 73; refine (hnames _).mono ?_; rintro e W2 ⟨rfl, hb2⟩; have HB2 := Aside0.mk (below_step HB1.out hb2); have BX2 := Aside0.mk (blk_below BX.out hb2); have r0 : W2.cell? ⟨gb, 0, none⟩ = some (.int .i64 ((n : Int) + 1)) := (blk_cell BX2.out 0).trans rfl; have r1 : W2.cell? ⟨gb, 1, none⟩ = some (.string a) := (blk_cell BX2.out 1).trans rfl; have r2 : W2.cell? ⟨gb, 2, none⟩ = some (.string b) := (blk_cell BX2.out 2).trans rfl; have hgb2 : gb < W2.heap.size := World.block_lt_of_cell? W2 _ r0; clear hb2 BX HB1))
  go_region_with (first
    | (go_at_call 75; refine (new_any W2.heap.size 4 a b w _ ?hB ?hg).mono ?_; (case hB => repeat (first | exact HB2.out | apply below_alloc | apply below_drew1)); (case hg => exact four_cells _ _ _ _ _ _); rintro e W3 ⟨r, rfl, hr, hN, hb3⟩; have HB3 : Aside0 (Below w.heap.size w W3) := ⟨below_step (by repeat (first | exact HB2.out | apply below_alloc | apply below_drew1)) hb3⟩; have BX3 := Aside0.mk (blk_below (w := _) (g := gb) (o := .cells #[.int .i64 ((n : Int) + 1), .string a, .string b] 50 (0, 0)) (by (with_reducible repeat (first | refine blk_drewN ?_ _ | refine blk_drew ?_ | refine blk_alloc ?_ _)); exact BX2.out) hb3); have s0 : W3.cell? ⟨gb, 0, none⟩ = some (.int .i64 ((n : Int) + 1)) := (blk_cell BX3.out 0).trans rfl; have NR3 := Aside0.mk hN; clear hN hb3)
    | (go_at_call 77; refine (forms_any _).mono ?_; rintro e W4 ⟨F, rfl, hF, hb4⟩; have HB4 := Aside0.mk (below_step HB3.out hb4); have BX4 := Aside0.mk (blk_below BX3.out hb4); have t0 : W4.cell? ⟨gb, 0, none⟩ = some (.int .i64 ((n : Int) + 1)) := (blk_cell BX4.out 0).trans rfl; have NR4 := Aside0.mk (NR3.out.below hb4); have hFn := hF n hn; clear hF hb4)
    | (go_at_call 76; refine (replace_any r a b (formList[n]'hn) w _ HB4.out hr NR4.out ha hb hs16).mono ?_; rintro e W5 ⟨rfl, hb5⟩; have HB5 := Aside0.mk hb5; clear hb5))
  all_goals
    go_wp2
    go_ret
    exact ⟨rfl, HB5.out⟩
end Go.Proofs.YtndkkpjofddfjaaGreatDoorRepl
