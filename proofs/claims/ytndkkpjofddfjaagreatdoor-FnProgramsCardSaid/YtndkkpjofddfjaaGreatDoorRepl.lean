/-
  strings.NewReplacer("A", a, "B", b).Replace(s): what its parts compute, for names a and b of at most two bytes and a text s of fewer than 16 bytes.
-/
import Derived.Test.YtndkkpjofddfjaaGreatDoorOnce
import Derived.Test.YtndkkpjofddfjaaGreatDoorWWords
import Derived.Test.YtndkkpjofddfjaaGreatDoorWLast
import Derived.Test.YtndkkpjofddfjaaGreatDoorWMore
import Derived.Handy
import Derived.Laws.CopyOwn
import Derived.Laws.Cover3
import Derived.Laws.OwnMore
import Derived.Laws.IdiomStrings
import Derived.Lib.ConvBytes
import Derived.Lib.AtoiErrMem
import Derived.Deep.LoopGhost
import Derived.Deep.DeepCutAuto
import Derived.Deep.CutBlock
import Derived.Deep.RegionLaw
import Derived.Deep.QuietTactic
import Derived.BigQuiet
import Derived.RowKit
namespace Go.Proofs.YtndkkpjofddfjaaGreatDoorRepl
open Go.RowKit Go.Lib Go.Proofs Go.Proofs.YtndkkpjofddfjaaGreatDoorW.PrintWords Go.Proofs.YtndkkpjofddfjaaGreatDoorW.PrintLast Go.Proofs.YtndkkpjofddfjaaGreatDoorW.PrintMore
set_option linter.unusedVariables false
set_option linter.unusedSimpArgs false
def rep1 (a b : List UInt8) (c : UInt8) : List UInt8 := if c = 65 then a else if c = 66 then b else [c]
def repl (a b s : List UInt8) : List UInt8 := s.flatMap (rep1 a b)
theorem repl_take (a b s : List UInt8) (i : Nat) (h : i < s.length) : repl a b (s.take (i + 1)) = repl a b (s.take i) ++ rep1 a b s[i] := by
  unfold repl
  rw [List.take_succ_eq_append_getElem h, List.flatMap_append]
  simp
theorem rep1_le (a b : List UInt8) (c : UInt8) (ha : a.length ≤ 2) (hb : b.length ≤ 2) : (rep1 a b c).length ≤ 2 := by
  unfold rep1
  split
  · exact ha
  · split
    · exact hb
    · simp
theorem repl_le (a b : List UInt8) (ha : a.length ≤ 2) (hb : b.length ≤ 2) : ∀ s : List UInt8, (repl a b s).length ≤ 2 * s.length
  | [] => by simp [repl]
  | c :: s => by
    have h1 := rep1_le a b c ha hb
    have h2 := repl_le a b ha hb s
    unfold repl at h2 ⊢
    rw [List.flatMap_cons, List.length_append, List.length_cons]
    omega
def chg (s : List UInt8) : Bool := s.any fun c => c == 65 || c == 66
theorem chg_take (s : List UInt8) (i : Nat) (h : i < s.length) : chg (s.take (i + 1)) = (chg (s.take i) || (s[i] == 65 || s[i] == 66)) := by
  unfold chg
  rw [List.take_succ_eq_append_getElem h, List.any_append]
  simp
theorem repl_same (a b : List UInt8) : ∀ s : List UInt8, chg s = false → repl a b s = s
  | [], _ => rfl
  | c :: s, h => by
    unfold chg at h
    rw [List.any_cons, Bool.or_eq_false_iff, Bool.or_eq_false_iff, beq_eq_false_iff_ne, beq_eq_false_iff_ne] at h
    have := repl_same a b s h.2
    unfold repl at this ⊢
    rw [List.flatMap_cons, this]
    unfold rep1
    rw [if_neg h.1.1, if_neg h.1.2]
    rfl
theorem repl_take_le (a b s : List UInt8) (k : Nat) : (repl a b (s.take k)).length ≤ (repl a b s).length := by
  have : repl a b s = repl a b (s.take k) ++ repl a b (s.drop k) := by
    unfold repl
    rw [← List.flatMap_append, List.take_append_drop]
  rw [this, List.length_append]
  omega
def u8s (l : List UInt8) : List Value := l.map fun c => Value.int .u8 (c.toNat : Int)
def bufc (n : Nat) (l : List UInt8) : List Value := u8s l ++ List.replicate (n - l.length) (.int .u8 0)
theorem bufc_length (n : Nat) (l : List UInt8) (h : l.length ≤ n) : (bufc n l).length = n := by
  unfold bufc u8s
  rw [List.length_append, List.length_map, List.length_replicate]
  omega
theorem bufc_splice (n : Nat) (l m : List UInt8) (h : l.length + m.length ≤ n) : splice (bufc n l) l.length (u8s m) = bufc n (l ++ m) := by
  have hu : (u8s m).length = m.length := by simp [u8s]
  have hl : (u8s l).length = l.length := by simp [u8s]
  unfold splice
  rw [hu]
  unfold bufc
  rw [← hl, List.take_left', List.drop_append, List.drop_of_length_le (by omega), hl]
  · rw [List.drop_replicate]
    unfold u8s
    rw [List.map_append, List.nil_append, List.append_assoc, List.length_append]
    congr 3
    omega
  · rfl
theorem bufc_set (n : Nat) (l : List UInt8) (c : UInt8) (h : l.length < n) : (bufc n l).set l.length (.int .u8 (c.toNat : Int)) = bufc n (l ++ [c]) := by
  have hl : (u8s l).length = l.length := by simp [u8s]
  unfold bufc
  obtain ⟨k, hk⟩ : ∃ k, n - l.length = k + 1 := ⟨n - l.length - 1, by omega⟩
  rw [hk, List.replicate_succ, ← hl, List.set_append_right _ _ (by omega), Nat.sub_self, List.set_cons_zero]
  unfold u8s
  rw [List.map_append, List.append_assoc, List.length_append]
  simp only [List.length_singleton, List.map_cons, List.map_nil, List.singleton_append]
  congr 2
  rw [show n - (l.length + 1) = k by omega]
def BytesAt (W : World) (v : Value) (l : List UInt8) : Prop := ∃ g c, v = .slice (some ⟨g, 0, none⟩) l.length c ∧ g < W.heap.size ∧ ∀ j (hj : j < l.length), W.cell? ⟨g, j, none⟩ = some (.int .u8 (l[j].toNat : Int))
structure BSR (W : World) (g : Nat) (a b : List UInt8) : Prop where
  hA : ∃ v, W.cell? ⟨g, 65, none⟩ = some v ∧ BytesAt W v a
  hB : ∃ v, W.cell? ⟨g, 66, none⟩ = some v ∧ BytesAt W v b
  hN : ∀ i, i < 256 → i ≠ 65 → i ≠ 66 → W.cell? ⟨g, i, none⟩ = some (.slice none 0 0)
  hT : ∃ t c, W.cell? ⟨g, 256, none⟩ = some (.slice (some t) 2 c)
theorem set_heap {W : World} {g i : Nat} {cur : Array Value} {t : TypeId} {fr : Nat × Nat} (h : W.heap[g]? = some (.cells cur t fr)) (u : Value) : (W.setCell ⟨g, i, none⟩ u).heap[g]? = some (.cells (cur.setIfInBounds i u) t fr) := by
  simp only [World.setCell, Array.getElem?_modify, h]
  simp
set_option maxHeartbeats 4000000 in
set_option maxRecDepth 100000 in
theorem bsr_replace (g : Nat) (a b : List UInt8) (s : ByteArray) (w : World) (h : BSR w g a b) (hs : s.size < 16) (ha : a.length ≤ 2) (hb : b.length ≤ 2) :
    Calls Tryz.prog 213 #[.pointer (some ⟨g, 0, none⟩), .string s] w fun e w' => e = .returned (.string ⟨(repl a b s.data.toList).toArray⟩) ∧ Below w.heap.size w w' := by
  obtain ⟨t, c, hT⟩ := h.hT
  have hu33 := Tryz.underlying38
  have hs' : ¬ (16 : Int) ≤ (s.size : Int) := by omega
  have hsb : decide ((16 : Int) ≤ (s.size : Int)) = false := decide_eq_false hs'
  go_enter Tryz.func213, Tryz.ntmps213
  go_wp2
  go_loopg [5, 6, 10] s.size (fun gf s5 s6 s10 wx => ∃ (i : Nat) (n : Int) (bb : Bool), i + gf = s.size ∧ s10 = .int .i64 (i : Int) ∧ s5 = .int .i64 n ∧ s6 = .bool bb ∧ Aside0 (n = ((repl a b (s.data.toList.take i)).length : Int) + ((s.size : Int) - i)) ∧ Aside0 (bb = chg (s.data.toList.take i)) ∧ w = wx)
  case atStart => exact ⟨0, s.size, false, by omega, rfl, rfl, rfl, ⟨by simp [repl]⟩, ⟨rfl⟩, rfl⟩
  case round =>
    obtain ⟨i, n, bb, hgf, rfl, rfl, rfl, hn, hbb, rfl⟩ := hrel
    have hl2 := repl_le a b ha hb (s.data.toList.take i)
    have hl3 : (s.data.toList.take i).length ≤ i := List.length_take_le _ _
    by_cases hlt : i < s.size
    · have hlt' : i < s.data.toList.length := by simpa using hlt
      have hrt := repl_take a b s.data.toList i hlt'
      have hct := chg_take s.data.toList i hlt'
      have hsi : s.data.toList[i] = s[i] := rfl
      rw [hsi] at hrt hct
      have hcm : s[i].toNat < 256 := UInt8.toNat_lt _
      have hlz : (i : Int) < (s.size : Int) := by omega
      obtain ⟨C, hC⟩ : ∃ C, s[i] = C := ⟨_, rfl⟩
      rw [hC] at hrt hct hcm
      by_cases c1 : C = 65
      · obtain ⟨v, hv, gv, cv, rfl, hgv, hcv⟩ := h.hA
        have hCn : (s[i].toNat : Nat) = 65 := by rw [hC, c1]; rfl
        clear hsi hC
        go_wp2
        go_roundg (gk - 1)
        case measure => omega
        case rel => exact ⟨i + 1, _, true, by omega, rfl, rfl, rfl, ⟨by rw [hrt, List.length_append, show rep1 a b C = a by rw [c1]; rfl, show wrap64 (n + ((a.length : Int) - 1)) = n + ((a.length : Int) - 1) by have := hn.out; unfold wrap64; omega, hn.out]; omega⟩, ⟨by rw [hct, c1]; simp⟩, rfl⟩
      by_cases c2 : C = 66
      · obtain ⟨v, hv, gv, cv, rfl, hgv, hcv⟩ := h.hB
        have hCn : (s[i].toNat : Nat) = 66 := by rw [hC, c2]; rfl
        clear hsi hC
        go_wp2
        go_roundg (gk - 1)
        case measure => omega
        case rel => exact ⟨i + 1, _, true, by omega, rfl, rfl, rfl, ⟨by rw [hrt, List.length_append, show rep1 a b C = b by rw [c2]; rfl, show wrap64 (n + ((b.length : Int) - 1)) = n + ((b.length : Int) - 1) by have := hn.out; unfold wrap64; omega, hn.out]; omega⟩, ⟨by rw [hct, c2]; simp⟩, rfl⟩
      · have hv := h.hN C.toNat hcm (fun e => c1 (UInt8.toNat_inj.mp e)) (fun e => c2 (UInt8.toNat_inj.mp e))
        rw [← hC] at hv hcm
        have hcI : (s[i].toNat : Int) < 256 := by omega
        clear hsi
        have HC := Aside0.mk hC
        clear hC
        go_wp2
        go_roundg (gk - 1)
        case measure => omega
        case rel => exact ⟨i + 1, n, bb, by omega, rfl, rfl, rfl, ⟨by rw [hrt, List.length_append, show rep1 a b C = [C] by unfold rep1; rw [if_neg c1, if_neg c2], hn.out, List.length_singleton]; omega⟩, ⟨by rw [hct, hbb.out, beq_eq_false_iff_ne.mpr c1, beq_eq_false_iff_ne.mpr c2]; simp⟩, rfl⟩
    · have hi : i = s.size := by omega
      subst hi
      have htk : s.data.toList.take s.size = s.data.toList := List.take_of_length_le (by simp)
      rw [htk] at hn hbb hl2
      have hlz : ¬ (s.size : Int) < (s.size : Int) := by omega
      obtain ⟨hn0⟩ := hn
      obtain ⟨hbb⟩ := hbb
      cases bb with
      | false =>
        have hsame := repl_same a b s.data.toList hbb.symm
        have HS := Aside0.mk hsame
        clear hn0 hbb hsame htk hl2 hl3
        go_wp2
        go_ret
        exact ⟨by rw [HS.out]; rfl, Below.refl _ _⟩
      | true =>
        obtain ⟨N, hN⟩ : ∃ N, (repl a b s.data.toList).length = N := ⟨_, rfl⟩
        have hn : n = (N : Int) := by rw [hN] at hn0; omega
        subst hn
        rw [hN] at hl2
        have HN := Aside0.mk hN
        clear hbb hN htk hn0
        obtain ⟨i5, hi5⟩ := Option.isSome_iff_exists.mp (show (Tryz.prog.info? 5).isSome = true by kernel_rfl)
        have hz5 : i5.zero = some (.int .u8 0) := by have : (Tryz.prog.info? 5).map (·.zero) = some (some (.int .u8 0)) := by kernel_rfl
                                                     rw [hi5] at this; exact Option.some.inj this
        have hs5 : i5.size = 1 := by have : (Tryz.prog.info? 5).map (·.size) = some 1 := by kernel_rfl
                                     rw [hi5] at this; exact Option.some.inj this
        have hb5 : i5.bytes = 1 := by have : (Tryz.prog.info? 5).map (·.bytes) = some 1 := by kernel_rfl
                                      rw [hi5] at this; exact Option.some.inj this
        have hlN : N ≤ 32 := by simp at hl2; omega
        obtain ⟨W1, hmk, hown, hgr⟩ := run_make_full (P := Tryz.prog) w w.heap.size 38 5 i5 _ 1 hu33 hi5 hz5 hs5 .i64 .i64 N (by rw [hb5]; omega) (by unfold maxLen; omega) (Nat.le_refl _)
        have hB1 : Below w.heap.size w W1 := (Below.refl _ w).grown hgr (Nat.le_refl _) (fun k hk => by cases hk)
        have hrow : Aside0 (W1.heap[w.heap.size]? = some (.cells (bufc N []).toArray 5 (0, 0))) := by
          rcases hown.2 with ⟨h1, _⟩ | ⟨g', cap, cur, hv, _, hb, _, _, hsz, htk⟩
          · cases h1
          · injection hv with e1 _ e3
            injection e1 with e1
            injection e1 with e1
            subst e1 e3
            refine ⟨?_⟩
            rw [hb]
            congr 1
            congr 1
            have hcl : cur.toList.length = N * 1 := by simpa using hsz
            rw [List.take_of_length_le (by omega)] at htk
            apply Array.ext'
            rw [htk]
            show (madeCells #[Value.int .u8 0] (N * 1)).toList = _
            rw [Nat.mul_one, toList_madeCells_one]
            rfl
        have HB := Aside0.mk hB1
        clear hown hgr hB1
        have HU := Aside0.mk hmk
        go_wp2
        go_loopg [13, 14] s.size (fun gf s13 s14 wx => ∃ i : Nat, i + gf = s.size ∧ s14 = .int .i64 (i : Int) ∧ s13 = .int .i64 ((repl a b (s.data.toList.take i)).length : Int) ∧ Aside0 (wx.heap[w.heap.size]? = some (.cells (bufc N (repl a b (s.data.toList.take i))).toArray 5 (0, 0))) ∧ Aside0 (Below w.heap.size w wx))
        case atStart => exact ⟨0, by omega, rfl, rfl, hrow, HB⟩
        case round =>
          clear hmk hrow HB HU hl2 hl3 hlz
          obtain ⟨i, hgf, rfl, rfl, hrow, HB⟩ := hrel
          have hlN2 := repl_take_le a b s.data.toList
          rw [HN.out] at hlN2
          by_cases hlt : i < s.size
          · have hlt' : i < s.data.toList.length := by simpa using hlt
            have hrt := repl_take a b s.data.toList i hlt'
            have hl4 := hlN2 (i + 1)
            have hsi : s.data.toList[i] = s[i] := rfl
            rw [hrt, List.length_append] at hl4
            rw [hsi] at hrt hl4
            have hcm : s[i].toNat < 256 := UInt8.toNat_lt _
            have hlz : (i : Int) < (s.size : Int) := by omega
            obtain ⟨C, hC⟩ : ∃ C, s[i] = C := ⟨_, rfl⟩
            rw [hC] at hrt hcm hl4
            obtain ⟨j, hj⟩ : ∃ j, (repl a b (s.data.toList.take i)).length = j := ⟨_, rfl⟩
            have HJ := Aside0.mk hj
            rw [hj] at hl4
            rw [hj]
            clear hlN2 hsi hj
            by_cases c1 : C = 65
            · obtain ⟨v, hv, gv, cv, rfl, hgv, hcv⟩ := h.hA
              have hCn : (s[i].toNat : Nat) = 65 := by rw [hC, c1]; rfl
              rw [show rep1 a b C = a by rw [c1]; rfl] at hl4 hrt
              have hv' : wr.cell? ⟨g, 65, none⟩ = some (.slice (some ⟨gv, 0, none⟩) a.length cv) := (HB.out.cell (World.block_lt_of_cell? w _ hv)).trans hv
              have HRT := Aside0.mk hrt
              obtain ⟨CS, hCS⟩ : ∃ CS, u8s a = CS := ⟨_, rfl⟩
              have HCS := Aside0.mk hCS
              have hCl : CS.length = a.length := by rw [← hCS]; simp [u8s]
              have HCl := Aside0.mk hCl
              have hC1 : ∀ v ∈ CS, v.oneCell' = true := by
                rw [← hCS]
                intro v hv
                obtain ⟨x, _, rfl⟩ := List.mem_map.mp hv
                rfl
              have HC1 := Aside0.mk hC1
              have hsrc : ∀ q v, CS[q]? = some v → wr.cell? ((⟨gv, 0, none⟩ : Addr).add q) = some v := by
                rw [← hCS]
                intro q v hq
                have hql : q < a.length := by
                  have := (List.getElem?_eq_some_iff.1 hq).1
                  simpa [u8s] using this
                have e : (⟨gv, 0, none⟩ : Addr).add q = ⟨gv, q, none⟩ := by
                  unfold Addr.add
                  split <;> simp_all
                rw [e, HB.out.cell (p := ⟨gv, q, none⟩) hgv, hcv q hql]
                rw [← hq]
                simp [u8s, List.getElem?_eq_getElem hql]
              have HSRC := Aside0.mk hsrc
              have hrow' := hrow.out
              have HROW := Aside0.mk hrow'
              clear hC hv hrt hCS hCl hC1 hsrc hrow hrow' HN
              have hjN : (j : Int) ≤ (N : Int) := by omega
              have hj0 : (0 : Int) ≤ (j : Int) := by omega
              by_cases hne : N = j
              · subst hne
                have HCS0 : a.length = 0 := by omega
                go_wp2
                go_region_law (refine step_copy_splice rfl (.tmp 105) (.tmp 111) 38 38 rfl 5 hu33 (by kernel_rfl) _ _ _ _ _ _ rfl rfl w.heap.size N (bufc N (repl a b (s.data.toList.take i))) 5 HROW.out CS (by first | (rw [HCl.out]; exact (Nat.min_eq_left (by omega)).symm) | (rw [HCl.out, HCS0]; simp)) (fun h0 => absurd h0 (by rw [HCl.out]; omega)) (by rw [HCl.out, bufc_length _ _ (by rw [HJ.out]; omega)]; omega) HC1.out w.heap.size w (by repeat (first | exact HB.out | apply below_drew1 | apply pw_below_drewN)) (Nat.le_refl _) ?_; intro w4 hg4 hb4; have HR4 := Aside0.mk hg4.out; have HB4 := Aside0.mk hb4; clear hg4 hb4)
                go_simp
                go_wp2
                go_roundg (gk - 1)
                case measure => omega
                case rel =>
                  refine ⟨i + 1, by omega, rfl, ?_, ⟨?_⟩, HB4⟩
                  · rw [HRT.out, List.length_append, HJ.out, HCl.out]
                    simp only [i64_w]
                    rw [show wrap64 ((N : Int) + (a.length : Int)) = ((N + a.length : Nat) : Int) by unfold wrap64; omega]
                  · rw [HRT.out, ← bufc_splice _ _ _ (by rw [HJ.out]; omega), HJ.out, HCS.out]
                    exact HR4.out
              · go_wp2
                go_region_law (refine step_copy_splice rfl (.tmp 105) (.tmp 111) 38 38 rfl 5 hu33 (by kernel_rfl) _ _ _ _ _ _ rfl rfl w.heap.size j (bufc N (repl a b (s.data.toList.take i))) 5 HROW.out CS (by first | (rw [HCl.out]; exact (Nat.min_eq_left (by omega)).symm) | (rw [HCl.out, HCS0]; simp)) (fun h0 => ⟨rfl, _, rfl, HSRC.out⟩) (by rw [HCl.out, bufc_length _ _ (by rw [HJ.out]; omega)]; omega) HC1.out w.heap.size w (by repeat (first | exact HB.out | apply below_drew1 | apply pw_below_drewN)) (Nat.le_refl _) ?_; intro w4 hg4 hb4; have HR4 := Aside0.mk hg4.out; have HB4 := Aside0.mk hb4; clear hg4 hb4)
                go_simp
                go_wp2
                go_roundg (gk - 1)
                case measure => omega
                case rel =>
                  refine ⟨i + 1, by omega, rfl, ?_, ⟨?_⟩, HB4⟩
                  · rw [HRT.out, List.length_append, HJ.out, HCl.out]
                    simp only [i64_w]
                    rw [show wrap64 ((j : Int) + (a.length : Int)) = ((j + a.length : Nat) : Int) by unfold wrap64; omega]
                  · rw [HRT.out, ← bufc_splice _ _ _ (by rw [HJ.out]; omega), HJ.out, HCS.out]
                    exact HR4.out
            by_cases c2 : C = 66
            · obtain ⟨v, hv, gv, cv, rfl, hgv, hcv⟩ := h.hB
              have hCn : (s[i].toNat : Nat) = 66 := by rw [hC, c2]; rfl
              rw [show rep1 a b C = b by rw [c2]; rfl] at hl4 hrt
              have hv' : wr.cell? ⟨g, 66, none⟩ = some (.slice (some ⟨gv, 0, none⟩) b.length cv) := (HB.out.cell (World.block_lt_of_cell? w _ hv)).trans hv
              have HRT := Aside0.mk hrt
              obtain ⟨CS, hCS⟩ : ∃ CS, u8s b = CS := ⟨_, rfl⟩
              have HCS := Aside0.mk hCS
              have hCl : CS.length = b.length := by rw [← hCS]; simp [u8s]
              have HCl := Aside0.mk hCl
              have hC1 : ∀ v ∈ CS, v.oneCell' = true := by
                rw [← hCS]
                intro v hv
                obtain ⟨x, _, rfl⟩ := List.mem_map.mp hv
                rfl
              have HC1 := Aside0.mk hC1
              have hsrc : ∀ q v, CS[q]? = some v → wr.cell? ((⟨gv, 0, none⟩ : Addr).add q) = some v := by
                rw [← hCS]
                intro q v hq
                have hql : q < b.length := by
                  have := (List.getElem?_eq_some_iff.1 hq).1
                  simpa [u8s] using this
                have e : (⟨gv, 0, none⟩ : Addr).add q = ⟨gv, q, none⟩ := by
                  unfold Addr.add
                  split <;> simp_all
                rw [e, HB.out.cell (p := ⟨gv, q, none⟩) hgv, hcv q hql]
                rw [← hq]
                simp [u8s, List.getElem?_eq_getElem hql]
              have HSRC := Aside0.mk hsrc
              have hrow' := hrow.out
              have HROW := Aside0.mk hrow'
              clear hC hv hrt hCS hCl hC1 hsrc hrow hrow' HN
              have hjN : (j : Int) ≤ (N : Int) := by omega
              have hj0 : (0 : Int) ≤ (j : Int) := by omega
              by_cases hne : N = j
              · subst hne
                have HCS0 : b.length = 0 := by omega
                go_wp2
                go_region_law (refine step_copy_splice rfl (.tmp 105) (.tmp 111) 38 38 rfl 5 hu33 (by kernel_rfl) _ _ _ _ _ _ rfl rfl w.heap.size N (bufc N (repl a b (s.data.toList.take i))) 5 HROW.out CS (by first | (rw [HCl.out]; exact (Nat.min_eq_left (by omega)).symm) | (rw [HCl.out, HCS0]; simp)) (fun h0 => absurd h0 (by rw [HCl.out]; omega)) (by rw [HCl.out, bufc_length _ _ (by rw [HJ.out]; omega)]; omega) HC1.out w.heap.size w (by repeat (first | exact HB.out | apply below_drew1 | apply pw_below_drewN)) (Nat.le_refl _) ?_; intro w4 hg4 hb4; have HR4 := Aside0.mk hg4.out; have HB4 := Aside0.mk hb4; clear hg4 hb4)
                go_simp
                go_wp2
                go_roundg (gk - 1)
                case measure => omega
                case rel =>
                  refine ⟨i + 1, by omega, rfl, ?_, ⟨?_⟩, HB4⟩
                  · rw [HRT.out, List.length_append, HJ.out, HCl.out]
                    simp only [i64_w]
                    rw [show wrap64 ((N : Int) + (b.length : Int)) = ((N + b.length : Nat) : Int) by unfold wrap64; omega]
                  · rw [HRT.out, ← bufc_splice _ _ _ (by rw [HJ.out]; omega), HJ.out, HCS.out]
                    exact HR4.out
              · go_wp2
                go_region_law (refine step_copy_splice rfl (.tmp 105) (.tmp 111) 38 38 rfl 5 hu33 (by kernel_rfl) _ _ _ _ _ _ rfl rfl w.heap.size j (bufc N (repl a b (s.data.toList.take i))) 5 HROW.out CS (by first | (rw [HCl.out]; exact (Nat.min_eq_left (by omega)).symm) | (rw [HCl.out, HCS0]; simp)) (fun h0 => ⟨rfl, _, rfl, HSRC.out⟩) (by rw [HCl.out, bufc_length _ _ (by rw [HJ.out]; omega)]; omega) HC1.out w.heap.size w (by repeat (first | exact HB.out | apply below_drew1 | apply pw_below_drewN)) (Nat.le_refl _) ?_; intro w4 hg4 hb4; have HR4 := Aside0.mk hg4.out; have HB4 := Aside0.mk hb4; clear hg4 hb4)
                go_simp
                go_wp2
                go_roundg (gk - 1)
                case measure => omega
                case rel =>
                  refine ⟨i + 1, by omega, rfl, ?_, ⟨?_⟩, HB4⟩
                  · rw [HRT.out, List.length_append, HJ.out, HCl.out]
                    simp only [i64_w]
                    rw [show wrap64 ((j : Int) + (b.length : Int)) = ((j + b.length : Nat) : Int) by unfold wrap64; omega]
                  · rw [HRT.out, ← bufc_splice _ _ _ (by rw [HJ.out]; omega), HJ.out, HCS.out]
                    exact HR4.out
            · have hv := h.hN C.toNat hcm (fun e => c1 (UInt8.toNat_inj.mp e)) (fun e => c2 (UInt8.toNat_inj.mp e))
              rw [show rep1 a b C = [C] by unfold rep1; rw [if_neg c1, if_neg c2]] at hl4 hrt
              rw [← hC] at hv hcm
              have hcI : (s[i].toNat : Int) < 256 := by omega
              have hv' : wr.cell? ⟨g, s[i].toNat, none⟩ = some (.slice none 0 0) := (HB.out.cell (World.block_lt_of_cell? w _ hv)).trans hv
              have HRT := Aside0.mk hrt
              have hrow' := hrow.out
              have hjl : j < (bufc N (repl a b (s.data.toList.take i))).length := by rw [bufc_length _ _ (by rw [HJ.out]; simp at hl4; omega)]; simp at hl4; omega
              have hbc : wr.cell? ⟨w.heap.size, j, none⟩ = some ((bufc N (repl a b (s.data.toList.take i)))[j]) := by
                simp [World.cell?, hrow', List.getElem?_eq_getElem hjl]
              have hbf : wr.frozen? ⟨w.heap.size, j, none⟩ = false := by simp [World.frozen?, hrow']
              generalize (bufc N (repl a b (s.data.toList.take i)))[j] = old at hbc
              have HROW := Aside0.mk hrow'
              have hjN : (j : Int) < (N : Int) := by simp at hl4; omega
              have hj0 : (0 : Int) ≤ (j : Int) := by omega
              have hl5 : j + 1 ≤ N := by simpa using hl4
              have HC := Aside0.mk hC
              have UP : Aside0 (wrap64 ((j : Int) + 1) = ((j + 1 : Nat) : Int)) := ⟨by unfold wrap64; omega⟩
              clear hC hv hrt hrow hrow' HN hl4
              go_wp2
              go_roundg (gk - 1)
              case measure => omega
              case rel =>
                refine ⟨i + 1, by omega, rfl, ?_, ⟨?_⟩, ⟨below_set HB.out (Nat.le_refl _)⟩⟩
                · rw [HRT.out, List.length_append, HJ.out]
                  first | rfl | exact congrArg _ UP.out | (simp only [i64_w]; exact congrArg _ UP.out)
                · rw [HRT.out, ← bufc_set _ _ _ (by rw [HJ.out]; omega), HJ.out, ← HC.out, set_heap HROW.out]
                  simp
          · have hi : i = s.size := by omega
            subst hi
            have htk : s.data.toList.take s.size = s.data.toList := List.take_of_length_le (by simp)
            have hrow' := hrow.out
            rw [htk] at hrow'
            have hcv := run_convert_bytes_back (P := Tryz.prog) wr 38 9 5 ⟨w.heap.size, 0, none⟩ N (repl a b s.data.toList) hu33 Tryz.underlying5 Tryz.underlying9 (fun q hq => by
              have e : (⟨w.heap.size, 0, none⟩ : Addr).add q = ⟨w.heap.size, q, none⟩ := by
                unfold Addr.add
                split <;> simp_all
              rw [e]
              have hb : (bufc N (repl a b s.data.toList))[q]? = some (.int .u8 ((repl a b s.data.toList)[q].toNat : Int)) := by
                unfold bufc u8s
                rw [List.getElem?_append_left (by simpa using hq), List.getElem?_map, List.getElem?_eq_getElem hq]
                rfl
              simp only [World.cell?, hrow']
              simpa using hb)
            rw [HN.out] at hcv
            have hlz : ¬ (s.size : Int) < (s.size : Int) := by omega
            clear hlN2 htk hrow' hrow
            go_wp2
            go_ret
            exact ⟨rfl, HB.out⟩
theorem eql_nil (t e : TypeId) (ht : Tryz.prog.underlying t = some (.slice e)) : ∀ (a : Option Addr) (l c : Nat) (w : World), (binOp .eql t (.slice a l c) (.slice none 0 0)).run Tryz.prog w = .ok (.bool a.isNone) w := fun a l c w => by
  simp only [binOp]
  simp [run_equal_slice_nil w t e a l c ht]
structure BRT (W : World) (g : Nat) (T : UInt8 → UInt8) : Prop where
  hT : ∀ c : UInt8, W.cell? ⟨g, c.toNat, none⟩ = some (.int .u8 ((T c).toNat : Int))
def BufAt (W : World) (G : Nat) (T : UInt8 → UInt8) (s : ByteArray) (i : Nat) : Prop := ∀ q (hq : q < s.size), W.cell? ⟨G, q, none⟩ = some (.int .u8 ((if q < i then T s[q] else s[q]).toNat : Int)) ∧ W.frozen? ⟨G, q, none⟩ = false
theorem BufAt.keep {W : World} {G : Nat} {T : UInt8 → UInt8} {s : ByteArray} {i : Nat} (h : BufAt W G T s i) (hi : i < s.size) (he : T s[i] = s[i]) : BufAt W G T s (i + 1) := fun q hq => by
  refine ⟨?_, (h q hq).2⟩
  rw [(h q hq).1]
  by_cases e : q = i
  · subst e
    rw [if_neg (by omega), if_pos (by omega), he]
  · by_cases e2 : q < i
    · rw [if_pos e2, if_pos (by omega)]
    · rw [if_neg e2, if_neg (by omega)]
theorem BufAt.turn {W : World} {G : Nat} {T : UInt8 → UInt8} {s : ByteArray} {i : Nat} (h : BufAt W G T s i) (hi : i < s.size) : BufAt (W.setCell ⟨G, i, none⟩ (.int .u8 ((T s[i]).toNat : Int))) G T s (i + 1) := fun q hq => by
  refine ⟨?_, by rw [World.frozen?_setCell]; exact (h q hq).2⟩
  by_cases e : q = i
  · subst e
    rw [World.cell?_setCell_same _ _ _ (h q hq).1, if_pos (by omega)]
  · rw [World.cell?_setCell_other _ ⟨G, i, none⟩ ⟨G, q, none⟩ _ (fun e2 => e (Addr.mk.inj e2).2.1.symm), (h q hq).1]
    by_cases e2 : q < i
    · rw [if_pos e2, if_pos (by omega)]
    · rw [if_neg e2, if_neg (by omega)]
theorem BufAt.new {w : World} {e : TypeId} {T : UInt8 → UInt8} {s : ByteArray} {i : Nat} (h : ∀ q (hq : q < s.size), q < i → T s[q] = s[q]) : BufAt (bytesWorld w e s) w.heap.size T s i := fun q hq => by
  refine ⟨?_, ?_⟩
  · rw [bytesWorld_cell w e s q hq]
    have e1 : s.data.toList.getD q 0 = s[q] := by
      rw [List.getD_eq_getElem?_getD, List.getElem?_eq_getElem (by simpa using hq)]
      rfl
    rw [e1]
    by_cases e2 : q < i
    · rw [if_pos e2, h q hq e2]
    · rw [if_neg e2]
  · have hl : s.size ≤ (bytesCells w e s).size := by simp [bytesCells]
    simp [World.frozen?, bytesWorld_at_new]
    omega
set_option maxHeartbeats 4000000 in
set_option maxRecDepth 100000 in
theorem br_replace (g : Nat) (T : UInt8 → UInt8) (s : ByteArray) (w : World) (h : BRT w g T) (hs : s.size < 16) :
    Calls Tryz.prog 211 #[.pointer (some ⟨g, 0, none⟩), .string s] w fun e w' => e = .returned (.string ⟨(s.data.toList.map T).toArray⟩) ∧ Below w.heap.size w w' := by
  have hu33 := Tryz.underlying38
  have hg0 := World.block_lt_of_cell? w _ (h.hT 0)
  have heql := eql_nil 38 5 hu33
  go_enter Tryz.func211, Tryz.ntmps211
  go_wp2
  go_loopg [5, 6] s.size (fun gf s5 s6 wx => ∃ i : Nat, i + gf = s.size ∧ s6 = .int .i64 (i : Int) ∧ ((s5 = .slice none 0 0 ∧ Aside0 (∀ q (hq : q < s.size), q < i → T s[q] = s[q])) ∨ ∃ G c, s5 = .slice (some ⟨G, 0, none⟩) s.size c ∧ w.heap.size ≤ G ∧ Aside0 (BufAt wx G T s i)) ∧ Aside0 (Below w.heap.size w wx))
  case atStart => exact ⟨0, by omega, rfl, .inl ⟨rfl, ⟨fun q _ h => by omega⟩⟩, ⟨Below.refl _ _⟩⟩
  case round =>
    obtain ⟨i, hgf, rfl, hbuf, HB⟩ := hrel
    by_cases hlt : i < s.size
    · have hlz : (i : Int) < (s.size : Int) := by omega
      have hcm : s[i].toNat < 256 := UInt8.toNat_lt _
      have hcI : (s[i].toNat : Int) < 256 := by omega
      have hTc : wr.cell? ⟨g, s[i].toNat, none⟩ = some (.int .u8 ((T s[i]).toNat : Int)) := (HB.out.cell hg0).trans (h.hT s[i])
      have UP : Aside0 (wrap64 ((i : Int) + 1) = ((i + 1 : Nat) : Int)) := ⟨by unfold wrap64; omega⟩
      by_cases c1 : T s[i] = s[i]
      · have d1 : (((T s[i]).toNat : Int) != (s[i].toNat : Int)) = false := by rw [c1]; simp
        have C1 := Aside0.mk c1
        obtain ⟨tn, htn⟩ : ∃ tn, (T s[i]).toNat = tn := ⟨_, rfl⟩
        rw [htn] at hTc d1
        clear c1 htn
        rcases hbuf with ⟨rfl, HN⟩ | ⟨G, c, rfl, hG, HA⟩
        · go_wp2
          go_roundg (gk - 1)
          case measure => omega
          case rel => exact ⟨i + 1, by omega, by first | rfl | exact congrArg _ UP.out, .inl ⟨rfl, ⟨fun q hq h => by
            by_cases e : q = i
            · subst e; exact C1.out
            · exact HN.out q hq (by omega)⟩⟩, HB⟩
        · go_wp2
          go_roundg (gk - 1)
          case measure => omega
          case rel => exact ⟨i + 1, by omega, by first | rfl | exact congrArg _ UP.out, .inr ⟨G, c, rfl, hG, ⟨HA.out.keep hlt C1.out⟩⟩, HB⟩
      · have d1 : (((T s[i]).toNat : Int) != (s[i].toNat : Int)) = true := by
          rw [bne_iff_ne]
          intro e
          exact c1 (UInt8.toNat_inj.mp (by omega))
        obtain ⟨tn, htn⟩ : ∃ tn, (T s[i]).toNat = tn := ⟨_, rfl⟩
        rw [htn] at hTc d1
        have HTN := Aside0.mk htn
        clear c1 htn
        have hi0 : (0 : Int) ≤ (i : Int) := by omega
        rcases hbuf with ⟨rfl, HN⟩ | ⟨G, c, rfl, hG, HA⟩
        · have hcv := Go.Lib.run_convert_string_bytes (P := Tryz.prog) wr 9 38 5 s Tryz.underlying9 hu33 Tryz.underlying5
          have hbw : Below w.heap.size w (bytesWorld wr 5 s) := HB.out.trans ((bytesWorld_below wr 5 s).mono HB.out.size)
          have HA := Aside0.mk (BufAt.new (w := wr) (e := 5) HN.out)
          generalize bytesWorld wr 5 s = W1 at *
          have hTc1 : W1.cell? ⟨g, s[i].toNat, none⟩ = some (.int .u8 (tn : Int)) := (hbw.cell hg0).trans ((HB.out.cell hg0).symm.trans hTc)
          have hb1 := (HA.out i hlt).1
          have hb2 := (HA.out i hlt).2
          have HBW := Aside0.mk hbw
          have hGs := HB.out.size
          generalize wr.heap.size = G at *
          generalize (Value.int .u8 ((if i < i then T s[i] else s[i]).toNat : Int)) = old at hb1
          clear hbw HB HN
          go_wp2
          go_roundg (gk - 1)
          case measure => omega
          case rel => exact ⟨i + 1, by omega, by first | rfl | exact congrArg _ UP.out, .inr ⟨G, _, rfl, hGs, ⟨by rw [← HTN.out]; exact HA.out.turn hlt⟩⟩, ⟨below_set HBW.out hGs⟩⟩
        · have hb1 := (HA.out i hlt).1
          have hb2 := (HA.out i hlt).2
          generalize (Value.int .u8 ((if i < i then T s[i] else s[i]).toNat : Int)) = old at hb1
          go_wp2
          go_roundg (gk - 1)
          case measure => omega
          case rel => exact ⟨i + 1, by omega, by first | rfl | exact congrArg _ UP.out, .inr ⟨G, c, rfl, hG, ⟨by rw [← HTN.out]; exact HA.out.turn hlt⟩⟩, ⟨below_set HB.out hG⟩⟩
    · have hi : i = s.size := by omega
      subst hi
      have hlz : ¬ (s.size : Int) < (s.size : Int) := by omega
      rcases hbuf with ⟨rfl, HN⟩ | ⟨G, c, rfl, hG, HA⟩
      · go_wp2
        go_ret
        refine ⟨?_, HB.out⟩
        have e : s.data.toList.map T = s.data.toList := by
          apply List.ext_getElem (by simp)
          intro q h1 h2
          rw [List.getElem_map]
          exact HN.out q (by simpa using h2) (by simpa using h2)
        rw [e]
        rfl
      · have hcv := run_convert_bytes_back (P := Tryz.prog) wr 38 9 5 ⟨G, 0, none⟩ c (s.data.toList.map T) hu33 Tryz.underlying5 Tryz.underlying9 (fun q hq => by
          have e : (⟨G, 0, none⟩ : Addr).add q = ⟨G, q, none⟩ := by
            unfold Addr.add
            split <;> simp_all
          have hq' : q < s.size := by simpa using hq
          rw [e, (HA.out q hq').1, if_pos hq', List.getElem_map]
          rfl)
        rw [List.length_map, Array.length_toList] at hcv
        have hcv' : (convert 38 9 (.slice (some ⟨G, 0, none⟩) s.size c)).run Tryz.prog wr = .ok (.string ⟨(s.data.toList.map T).toArray⟩) wr := hcv
        clear hcv
        go_wp2
        go_ret
        exact ⟨rfl, HB.out⟩
end Go.Proofs.YtndkkpjofddfjaaGreatDoorRepl
