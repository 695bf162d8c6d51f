-- Laid by wip/tools/xprint.py (a program of this session over the kit's print). Not trusted: Lean checks it.
import Derived.Test.YtoljagpjejpmpaaXAuto
import Derived.Test.YtoljagpjejpmpaaPFnFormulasx0
import Derived.Test.YtoljagpjejpmpaaPFnFormulasx3
import Derived.Test.YtoljagpjejpmpaaPFnFormulasx6
import Derived.Test.YtoljagpjejpmpaaPFnFormulasx7
import Derived.Test.YtoljagpjejpmpaaPFnFormulasx8
namespace Go.Proofs.Ytoljagpjejpmpaa.PFnFormulas
open Go.RowKit Go.Proofs.YtoljagpjejpmpaaW.PrintWords Go.Proofs.YtoljagpjejpmpaaW.PrintLast Go.Proofs.YtoljagpjejpmpaaW.PrintMore
open Go.Proofs.YtoljagpjejpmpaaW.PrintWords.Aside0 renaming mk → Qa
open Go.Proofs.YtoljagpjejpmpaaW.PrintWords renaming blk_cell → Qb, blk_frozen → Qc, pw_below_drewN → Qp, below_drew1 → Qu, below_size → Qv, below_step → Zc
open Go.World renaming block_lt_of_cell? → Qd
open Option renaming bind_eq_some_iff → Qi
open List renaming map_toArray → Qm, length_drop → Qn, length_take → Qo, map_cons → Qt, map_nil → Zb
open Go.RowKit renaming wrap64 → Qq
open Option.some renaming inj → Qs
open Bool renaming eq_iff_iff → Qx
open Go.Proofs.YtoljagpjejpmpaaW.PrintWords.LeO renaming bind → Zl, ite → Zu, refl → Xi
open Go.Proofs.Try renaming underlying32 → Zt, prog → Xh
open Go.Proofs.YtoljagpjejpmpaaW.PrintWords.Kd renaming C_below → Xo
open Go renaming World → Xs
attribute [local go_sem] max2_int min2_int max_two min_two max_three min_three max_four min_four
set_option linter.unusedVariables false
set_option linter.unusedSimpArgs false
theorem quietD {f : FuncId} {args : Array Value} {w : Xs} {n : Nat} {v : Value} (h : ∀ w, Calls Xh f args w fun e w' => e = .returned v ∧ Drawn0 w w') : Calls Xh f args (w.drewN n) fun e w'' => e = .returned v ∧ ∃ m, w'' = w.drewN m :=
 Calls.quiet_of ((h _).mono fun _ _ he => ⟨he.1, he.2.out⟩)
def impl_Formula_isWell.bad (g : S32 → Option Bool) : List S32 → Option Bool
 | [] => some false
 | x :: r => (g x).bind fun b => if b = true then impl_Formula_isWell.bad g r else some true
def impl_Formula_isWell.f : Nat → Int → Int → Int → Int → List (S32) → Int → Option Bool
 | 0, _, _, _, _, _, _ => none
 | k + 1, a0, a1, a2, a3, l4, v => if l4.length < 9223372036854775807 then (impl_ArityOf.f k a0).bind fun t => (if (l4.length : Int) = t then ((impl_usesK.f a0).bind fun t400 => ((impl_isField.f a1 t400 v).bind fun t401 => (if t401 = true then ((impl_usesU.f a0).bind fun t402 => ((impl_isField.f a2 t402 4).bind fun t403 => (if t403 = true then ((impl_usesV.f a0).bind fun t404 => ((impl_isField.f a3 t404 4).bind fun t405 => (if t405 = true then ((impl_Formula_isWell.bad (fun x => impl_Formula_isWell.f k x.f0 x.f1 x.f2 x.f3 x.f4 v) l4).bind fun t406 => some (!t406)) else some false))) else some false))) else some false))) else some false) else none
theorem impl_Formula_isWell.bad_mono {g g' : S32 → Option Bool} (h : ∀ x, LeO (g x) (g' x)) : ∀ l, LeO (impl_Formula_isWell.bad g l) (impl_Formula_isWell.bad g' l)
 | [] => Xi _
 | x :: r => Zl (h x) (fun _ => Zu (impl_Formula_isWell.bad_mono h r) (Xi _))
theorem impl_Formula_isWell.mono : ∀ a0 a1 a2 a3 a4 a5 k, LeO (impl_Formula_isWell.f k a0 a1 a2 a3 a4 a5) (impl_Formula_isWell.f (k + 1) a0 a1 a2 a3 a4 a5) := by
 intro a0 a1 a2 a3 a4 a5 k
 induction k generalizing a0 a1 a2 a3 a4 a5 with
 | zero => intro r h; simp [impl_Formula_isWell.f] at h
 | succ k ih =>
  rw [impl_Formula_isWell.f, impl_Formula_isWell.f]
  refine Zu (Zl (impl_ArityOf.mono _ _) (fun _ => Zu (Zl (Xi _) (fun _ => Zl (Xi _) (fun _ => Zu (Zl (Xi _) (fun _ => Zl (Xi _) (fun _ => Zu (Zl (Xi _) (fun _ => Zl (Xi _) (fun _ => Zu (Zl (impl_Formula_isWell.bad_mono (fun x => ih _ _ _ _ _ _) _) (fun _ => Xi _)) (Xi _)))) (Xi _)))) (Xi _)))) (Xi _))) (LeO.none _)
def WellC (g : S32 → Option Bool) (v : Int) : Prop := ∀ (x : S32) (A : Option Addr) (c : Nat) (w : Xs) (hr : Kd.C k32 w A x.f4.length x.f4) (hc : x.f4.length ≤ c) (r : Bool) (h : g x = some r),
 Calls Xh 73 #[.agg #[.int .i64 x.f0, .int .i64 x.f1, .int .i64 x.f2, .int .i64 x.f3, .slice A x.f4.length c], .int .i64 v] w fun e w' => e = .returned (.bool r) ∧ Below w.heap.size w w'
set_option maxHeartbeats 8000000 in
set_option maxRecDepth 100000 in
theorem well_closure {g : S32 → Option Bool} {v : Int} (ih : WellC g v) (x : S32) (A : Option Addr) (c gv : Nat) (w : Xs) (hr : Kd.C k32 w A x.f4.length x.f4) (hc : x.f4.length ≤ c) (hq : w.cell? ⟨gv, 0, none⟩ = some (.int .i64 v)) (r : Bool) (h : g x = some r) :
  Calls Xh 107 #[.agg #[.int .i64 x.f0, .int .i64 x.f1, .int .i64 x.f2, .int .i64 x.f3, .slice A x.f4.length c], .pointer (some ⟨gv, 0, none⟩)] w fun e w' => e = .returned (.bool (!r)) ∧ Below w.heap.size w w' := by
 have hu32 := Zt
 go_enter Try.func107, Try.ntmps107
 go_wp2_with (first
  | ((with_reducible refine gate_dst (N := 2) rfl ?_); refine box_event ?hg (N := 2) ?hd (cs := #[.int .i64 x.f0, .int .i64 x.f1, .int .i64 x.f2, .int .i64 x.f3, .slice A x.f4.length c]) (t := 32) ?hr ?_; (case hd => rfl); (case hg => rfl); (case hr => first | (go_simp; done) | (go_simp; rfl)); intro gb hgb W1 hbox hb1; have q0 : W1.cell? ⟨gb, 0, none⟩ = some (.int .i64 x.f0) := (Qb hbox 0).trans rfl; have q1 : W1.cell? ⟨gb, 1, none⟩ = some (.int .i64 x.f1) := (Qb hbox 1).trans rfl; have q2 : W1.cell? ⟨gb, 2, none⟩ = some (.int .i64 x.f2) := (Qb hbox 2).trans rfl; have q3 : W1.cell? ⟨gb, 3, none⟩ = some (.int .i64 x.f3) := (Qb hbox 3).trans rfl; have q4 : W1.cell? ⟨gb, 4, none⟩ = some (.slice A x.f4.length c) := (Qb hbox 4).trans rfl; have qv : W1.cell? ⟨gv, 0, none⟩ = some (.int .i64 v) := (hb1.cell (Qd w _ hq)).trans hq; have HR1 := Qa (Xo hr hb1); have HB1 := Qa hb1; clear hbox hb1 hgb)
  | (go_at_call 73; refine (ih x A c _ HR1.out hc r h).mono ?_; rintro e W2 ⟨rfl, hb2⟩; have HB2 := Qa (Zc HB1.out hb2); clear hb2))
 go_wp2
 go_ret
 exact ⟨rfl, HB2.out⟩
set_option maxHeartbeats 8000000 in
set_option maxRecDepth 100000 in
theorem well_index {g : S32 → Option Bool} {v : Int} (ih : WellC g v) (l : List S32) (A : Option Addr) (c gv : Nat) (w : Xs) (hr : Kd.C k32 w A l.length l) (hc : l.length ≤ c) (hq : w.cell? ⟨gv, 0, none⟩ = some (.int .i64 v)) (hl : l.length < 9223372036854775807) (t : Bool) (h : impl_Formula_isWell.bad g l = some t) :
  Calls Xh 125 #[.slice A l.length c, .func (.func 107) #[] #[.pointer (some ⟨gv, 0, none⟩)]] w fun e w' => ∃ i : Int, e = .returned (.int .i64 i) ∧ decide (0 ≤ i) = t ∧ Below w.heap.size w w' := by
 have hu32 := Zt
 have H := Qa h
 clear h
 go_enter Try.func125, Try.ntmps125
 go_wp2
 go_loopg [8] l.length (fun kq v8 w' => ∃ i : Nat, v8 = .int .i64 (i : Int) ∧ i ≤ l.length ∧ l.length - i ≤ kq ∧ Aside0 (impl_Formula_isWell.bad g (l.drop i) = some t) ∧ Aside0 (Below w.heap.size w w'))
 case atStart => exact ⟨0, rfl, by omega, by omega, ⟨by rw [List.drop_zero]; exact H.out⟩, ⟨Below.refl _ _⟩⟩
 case round =>
  clear H
  obtain ⟨i, rfl, hi, hgk, H, HB⟩ := hrel
  by_cases hlt' : i < l.length
  ·have hltz : (i : Int) < (l.length : Int) := by omega
   have h := H.out
   rw [List.drop_eq_getElem_cons hlt'] at h
   simp only [impl_Formula_isWell.bad] at h
   obtain ⟨b, hb_, h⟩ := Qi.mp h
   have H' := Qa h
   have HG := Qa hb_
   clear h hb_ H
   obtain ⟨ad, A', c', e_, hx0, hx1, hx2, hx3, hx4, hl_, hi_⟩ := at_T32 hr (i : Int) (by omega) hltz
   subst e_
   have erd : rd_T32 l (i : Int) = l[i] := by
    unfold rd_T32
    simp [List.getD, List.getElem?_eq_getElem hlt']
   rw [erd] at hx0 hx1 hx2 hx3 hx4 hl_ hi_
   rw [Int.toNat_natCast] at hx0 hx1 hx2 hx3 hx4
   replace hx0 := (HB.out.cell (Qd w _ hx0)).trans hx0
   replace hx1 := (HB.out.cell (Qd w _ hx1)).trans hx1
   replace hx2 := (HB.out.cell (Qd w _ hx2)).trans hx2
   replace hx3 := (HB.out.cell (Qd w _ hx3)).trans hx3
   replace hx4 := (HB.out.cell (Qd w _ hx4)).trans hx4
   have hqv : wr.cell? ⟨gv, 0, none⟩ = some (.int .i64 v) := (HB.out.cell (Qd w _ hq)).trans hq
   have HR1 := Qa (Xo hi_ HB.out)
   generalize l[i] = x at *
   have c0b : decide ((i : Int) < (l.length : Int)) = true := decide_eq_true hltz
   have p1 : (0 ≤ (i : Int)) = True := eq_true (by omega)
   have p2 : ((i : Int) < (l.length : Int)) = True := eq_true hltz
   have UP : Aside0 (Qq ((i : Int) + 1) = ((i + 1 : Nat) : Int)) := ⟨by unfold Qq; omega⟩
   cases b with
   | true =>
    have hgo := H'.out
    rw [if_pos rfl] at hgo
    have H2 := Qa hgo
    clear hgo H'
    go_wp2_with (first
     | (go_at_call 107; refine (well_closure ih x A' c' gv _ HR1.out hl_ hqv true HG.out).mono ?_; rintro e W2 ⟨rfl, hb2⟩; have HB2 := Qa (Zc HB.out hb2); clear HB hb2; have HB := HB2; clear HB2))
    go_roundg (l.length - (i + 1))
    case measure => omega
    case rel => exact ⟨i + 1, by first | exact congrArg _ UP.out | (simp only [i64_w]; exact congrArg _ UP.out) | (simp; done), by omega, by omega, H2, ⟨by repeat (first | exact HB.out | apply Qu | apply Qp)⟩⟩
   | false =>
    have hgo := H'.out
    rw [if_neg (by decide)] at hgo
    obtain rfl := Qs hgo
    go_wp2_with (first
     | (go_at_call 107; refine (well_closure ih x A' c' gv _ HR1.out hl_ hqv false HG.out).mono ?_; rintro e W2 ⟨rfl, hb2⟩; have HB2 := Qa (Zc HB.out hb2); clear HB hb2; have HB := HB2; clear HB2))
    go_wp2
    go_ret
    exact ⟨(i : Int), rfl, by simp, by repeat (first | exact HB.out | apply Qu | apply Qp)⟩
  ·have hltz : ¬ (i : Int) < (l.length : Int) := by omega
   have c0b : decide ((i : Int) < (l.length : Int)) = false := decide_eq_false hltz
   have h := H.out
   rw [List.drop_eq_nil_of_le (by omega)] at h
   obtain rfl := Qs h
   go_wp2
   go_ret
   exact ⟨-1, rfl, by decide, HB.out⟩
set_option maxHeartbeats 8000000 in
set_option maxRecDepth 100000 in
theorem well_contains {g : S32 → Option Bool} {v : Int} (ih : WellC g v) (l : List S32) (A : Option Addr) (c gv : Nat) (w : Xs) (hr : Kd.C k32 w A l.length l) (hc : l.length ≤ c) (hq : w.cell? ⟨gv, 0, none⟩ = some (.int .i64 v)) (hl : l.length < 9223372036854775807) (t : Bool) (h : impl_Formula_isWell.bad g l = some t) :
  Calls Xh 106 #[.slice A l.length c, .func (.func 107) #[] #[.pointer (some ⟨gv, 0, none⟩)]] w fun e w' => e = .returned (.bool t) ∧ Below w.heap.size w w' := by
 go_enter Try.func106, Try.ntmps106
 go_wp2_with (first
  | (go_at_call 125; refine (well_index ih l A c gv _ hr hc hq hl t h).mono ?_; rintro e W2 ⟨i, rfl, hit, hb2⟩))
 go_wp2
 go_ret
 exact ⟨by first | (rw [hit]) | (simp [hit]; done) | (simp [← hit]; done), hb2⟩
structure WSt (w : Xs) (gf gv : Nat) (cs : Array Value) (v : Int) (W : Xs) : Prop where
 bel : Below w.heap.size w W
 bf : W.heap[gf]? = some (.cells cs 32 (0, 0))
 bv : W.heap[gv]? = some (.cells #[.int .i64 v] 3 (0, 0))
theorem WSt.drewN {w W : Xs} {gf gv : Nat} {cs : Array Value} {v : Int} (h : WSt w gf gv cs v W) (n : Nat) : WSt w gf gv cs v (W.drewN n) := ⟨pw_below_drewN h.bel n, h.bf, h.bv⟩
set_option maxHeartbeats 8000000 in
set_option maxRecDepth 100000 in
theorem impl_Formula_isWell.calls (k : Nat) : ∀ (a0 : Int) (a1 : Int) (a2 : Int) (a3 : Int) (A4 : Option Addr) (c4 : Nat) (l4 : List (S32)) (v : Int) (r : Bool) (w : Xs) (hr : Kd.C k32 w A4 l4.length l4) (hc : l4.length ≤ c4) (h : impl_Formula_isWell.f k a0 a1 a2 a3 l4 v = some r),
  Calls Xh 73 #[.agg #[.int .i64 a0, .int .i64 a1, .int .i64 a2, .int .i64 a3, .slice A4 l4.length c4], .int .i64 v] w fun e w' => e = .returned (.bool r) ∧ Below w.heap.size w w' := by
 induction k with
 | zero => intro a0 a1 a2 a3 A4 c4 l4 v r w hr hc h; exact absurd h (by simp [impl_Formula_isWell.f])
 | succ k ih =>
 intro a0 a1 a2 a3 A4 c4 l4 v r w hr hc h
 have hW : WellC (fun x => impl_Formula_isWell.f k x.f0 x.f1 x.f2 x.f3 x.f4 v) v := fun x A c w hr hc r h => ih x.f0 x.f1 x.f2 x.f3 A c x.f4 v r w hr hc h
 clear ih
 simp only [impl_Formula_isWell.f] at h
 have hu32 := Zt
 split at h
 case isFalse => cases h
 case isTrue hl =>
 generalize hbad : impl_Formula_isWell.bad (fun x => impl_Formula_isWell.f k x.f0 x.f1 x.f2 x.f3 x.f4 v) l4 = bad at h
 have HBAD := Qa hbad
 have HR := Qa hr
 clear hbad hr
 obtain ⟨t, ht, h⟩ := Qi.mp h
 have HT := Qa ht
 have H := Qa h
 clear ht h
 go_enter Try.func73, Try.ntmps73
 go_upto_region 1 with (first
  | ((with_reducible refine gate_dst (N := 2) rfl ?_); refine box_event ?hg (N := 2) ?hd (cs := #[.int .i64 a0, .int .i64 a1, .int .i64 a2, .int .i64 a3, .slice A4 l4.length c4]) (t := 32) ?hr ?_; (case hd => rfl); (case hg => rfl); (case hr => first | (go_simp; done) | (go_simp; rfl)); intro gf hgf W1 hbox hb1; have BF := Qa hbox; have HB1 := Qa hb1; clear hbox hb1 hgf)
  | ((with_reducible refine gate_dst (N := 3) rfl ?_); refine box_event ?hg (N := 3) ?hd (cs := #[.int .i64 v]) (t := 3) ?hr ?_; (case hd => rfl); (case hg => rfl); (case hr => first | (go_simp; done) | (go_simp; rfl)); intro gv hgv W2 hbox hb2; have ST : Aside0 (WSt w gf gv #[.int .i64 a0, .int .i64 a1, .int .i64 a2, .int .i64 a3, .slice A4 l4.length c4] v W2) := ⟨⟨below_step HB1.out hb2, blk_below BF.out hb2, hbox⟩⟩; clear hbox hb2 hgv))
 (try simp only [Act.put, List.setIfInBounds_toArray, List.set_cons_zero, List.set_cons_succ])
 go_cut [39] (fun v39 wc => ∃ b : Bool, v39 = .bool b ∧ Aside0 ((if b = true then some false else bad.bind fun t406 => some (!t406)) = some r) ∧ Aside0 (WSt w gf gv #[.int .i64 a0, .int .i64 a1, .int .i64 a2, .int .i64 a3, .slice A4 l4.length c4] v wc))
 case first =>
  have h := H.out
  clear H
  have q0 : World.cell? _ ⟨gf, 0, none⟩ = some (.int .i64 a0) := (Qb ST.out.bf 0).trans rfl
  have q1 : World.cell? _ ⟨gf, 1, none⟩ = some (.int .i64 a1) := (Qb ST.out.bf 1).trans rfl
  have q2 : World.cell? _ ⟨gf, 2, none⟩ = some (.int .i64 a2) := (Qb ST.out.bf 2).trans rfl
  have q3 : World.cell? _ ⟨gf, 3, none⟩ = some (.int .i64 a3) := (Qb ST.out.bf 3).trans rfl
  have q4 : World.cell? _ ⟨gf, 4, none⟩ = some (.slice A4 l4.length c4) := (Qb ST.out.bf 4).trans rfl
  have qv : World.cell? _ ⟨gv, 0, none⟩ = some (.int .i64 v) := (Qb ST.out.bv 0).trans rfl
  by_cases c1 : (l4.length : Int) = t
  ·rw [if_pos c1] at h
   have d1 : ((l4.length : Int) != t) = false := bne_eq_false_iff_eq.mpr c1
   have d1' : ((l4.length : Int) == t) = true := beq_iff_eq.mpr c1
   clear c1
   obtain ⟨t400, H400, h⟩ := Qi.mp h
   obtain ⟨t401, H401, h⟩ := Qi.mp h
   replace H400 := Qa H400
   replace H401 := Qa H401
   cases t401 with
   | false =>
    rw [if_neg (by decide)] at h
    try go_wp2
    repeat (go_quiet (first | (go_at_call 40; (with_reducible exact quietD (fun w => impl_ArityOf.calls k a0 t w HT.out))) | (go_at_call 105; (with_reducible exact quietD (fun w => impl_usesK.calls a0 t400 w H400.out))) | (go_at_call 104; (with_reducible exact quietD (fun w => impl_isField.calls a1 t400 v false w H401.out)))); try go_wp2)
    go_meet
    case rel => exact ⟨true, rfl, ⟨by rw [if_pos rfl]; exact h⟩, ⟨by repeat (first | exact ST.out | refine WSt.drewN ?_ _)⟩⟩
   | true =>
    rw [if_pos rfl] at h
    obtain ⟨t402, H402, h⟩ := Qi.mp h
    obtain ⟨t403, H403, h⟩ := Qi.mp h
    replace H402 := Qa H402
    replace H403 := Qa H403
    cases t403 with
    | false =>
     rw [if_neg (by decide)] at h
     try go_wp2
     repeat (go_quiet (first | (go_at_call 40; (with_reducible exact quietD (fun w => impl_ArityOf.calls k a0 t w HT.out))) | (go_at_call 105; (with_reducible exact quietD (fun w => impl_usesK.calls a0 t400 w H400.out))) | (go_at_call 104; (with_reducible exact quietD (fun w => impl_isField.calls a1 t400 v true w H401.out))) | (go_at_call 63; (with_reducible exact quietD (fun w => impl_usesU.calls a0 t402 w H402.out))) | (go_at_call 104; (with_reducible exact quietD (fun w => impl_isField.calls a2 t402 4 false w H403.out)))); try go_wp2)
     go_meet
     case rel => exact ⟨true, rfl, ⟨by rw [if_pos rfl]; exact h⟩, ⟨by repeat (first | exact ST.out | refine WSt.drewN ?_ _)⟩⟩
    | true =>
     rw [if_pos rfl] at h
     obtain ⟨t404, H404, h⟩ := Qi.mp h
     obtain ⟨t405, H405, h⟩ := Qi.mp h
     replace H404 := Qa H404
     replace H405 := Qa H405
     cases t405 with
     | false =>
      rw [if_neg (by decide)] at h
      try go_wp2
      repeat (go_quiet (first | (go_at_call 40; (with_reducible exact quietD (fun w => impl_ArityOf.calls k a0 t w HT.out))) | (go_at_call 105; (with_reducible exact quietD (fun w => impl_usesK.calls a0 t400 w H400.out))) | (go_at_call 104; (with_reducible exact quietD (fun w => impl_isField.calls a1 t400 v true w H401.out))) | (go_at_call 63; (with_reducible exact quietD (fun w => impl_usesU.calls a0 t402 w H402.out))) | (go_at_call 104; (with_reducible exact quietD (fun w => impl_isField.calls a2 t402 4 true w H403.out))) | (go_at_call 64; (with_reducible exact quietD (fun w => impl_usesV.calls a0 t404 w H404.out))) | (go_at_call 104; (with_reducible exact quietD (fun w => impl_isField.calls a3 t404 4 false w H405.out)))); try go_wp2)
      go_meet
      case rel => exact ⟨true, rfl, ⟨by rw [if_pos rfl]; exact h⟩, ⟨by repeat (first | exact ST.out | refine WSt.drewN ?_ _)⟩⟩
     | true =>
      rw [if_pos rfl] at h
      try go_wp2
      repeat (go_quiet (first | (go_at_call 40; (with_reducible exact quietD (fun w => impl_ArityOf.calls k a0 t w HT.out))) | (go_at_call 105; (with_reducible exact quietD (fun w => impl_usesK.calls a0 t400 w H400.out))) | (go_at_call 104; (with_reducible exact quietD (fun w => impl_isField.calls a1 t400 v true w H401.out))) | (go_at_call 63; (with_reducible exact quietD (fun w => impl_usesU.calls a0 t402 w H402.out))) | (go_at_call 104; (with_reducible exact quietD (fun w => impl_isField.calls a2 t402 4 true w H403.out))) | (go_at_call 64; (with_reducible exact quietD (fun w => impl_usesV.calls a0 t404 w H404.out))) | (go_at_call 104; (with_reducible exact quietD (fun w => impl_isField.calls a3 t404 4 true w H405.out)))); try go_wp2)
      go_meet
      case rel => exact ⟨false, rfl, ⟨by rw [if_neg (by decide)]; exact h⟩, ⟨by repeat (first | exact ST.out | refine WSt.drewN ?_ _)⟩⟩
  ·rw [if_neg c1] at h
   have d1 : ((l4.length : Int) != t) = true := bne_iff_ne.mpr c1
   have d1' : ((l4.length : Int) == t) = false := beq_eq_false_iff_ne.mpr c1
   clear c1
   try go_wp2
   repeat (go_quiet (first | (go_at_call 40; (with_reducible exact quietD (fun w => impl_ArityOf.calls k a0 t w HT.out)))); try go_wp2)
   go_meet
   case rel => exact ⟨true, rfl, ⟨by rw [if_pos rfl]; exact h⟩, ⟨by repeat (first | exact ST.out | refine WSt.drewN ?_ _)⟩⟩
 case rest =>
  clear H ST
  obtain ⟨b, rfl, H, ST⟩ := hcut
  cases b with
  | true =>
   have h := H.out
   rw [if_pos rfl] at h
   obtain rfl := Qs h
   go_wp2
   go_ret
   exact ⟨rfl, ST.out.bel⟩
  | false =>
   have h := H.out
   rw [if_neg (by decide)] at h
   obtain ⟨t406, hb6, h⟩ := Qi.mp h
   obtain rfl := Qs h
   have HB6 := Qa (HBAD.out.trans hb6)
   clear h hb6 H HBAD
   have q4 : World.cell? _ ⟨gf, 4, none⟩ = some (.slice A4 l4.length c4) := (Qb ST.out.bf 4).trans rfl
   have qv : World.cell? _ ⟨gv, 0, none⟩ = some (.int .i64 v) := (Qb ST.out.bv 0).trans rfl
   have HR1 := Qa (Xo HR.out ST.out.bel)
   go_wp2_with (first
    | (go_at_call 106; refine (well_contains hW l4 A4 c4 gv _ HR1.out hc qv hl t406 HB6.out).mono ?_; rintro e W3 ⟨rfl, hb3⟩; have HB3 := Qa (Zc ST.out.bel hb3); clear hb3))
   go_wp2
   go_ret
   exact ⟨rfl, HB3.out⟩
def impl_IsFormula.f (k : Nat) (a0 : Int) (a1_0 : Int) (a1_1 : Int) (a1_2 : Int) (a1_3 : Int) (l1_4 : List (S32)) : Option (Bool) := (impl_SizeOf.f k a1_0 a1_1 a1_2 a1_3 l1_4).bind fun t398 => (if t398 ≤ 40 then ((impl_DepthOf.f k a1_0 a1_1 a1_2 a1_3 l1_4).bind fun t399 => (if t399 ≤ 12 then ((impl_Formula_isWell.f k a1_0 a1_1 a1_2 a1_3 l1_4 a0).bind fun t400 => (some t400)) else (some false))) else (some false))
theorem impl_IsFormula.mono : ∀ a0 a1 a2 a3 a4 a5 k, LeO (impl_IsFormula.f k a0 a1 a2 a3 a4 a5) (impl_IsFormula.f (k + 1) a0 a1 a2 a3 a4 a5) := by
 intro a0 a1 a2 a3 a4 a5 k
 unfold impl_IsFormula.f
 repeat' first
   | (with_reducible exact impl_DepthOf.mono _ _ _ _ _ _)
   | (with_reducible exact impl_Formula_isWell.mono _ _ _ _ _ _ _)
   | (with_reducible exact impl_SizeOf.mono _ _ _ _ _ _)
   | (with_reducible exact Xi _)
   | (with_reducible exact LeO.none _)
   | (with_reducible refine Zu ?_ ?_)
   | (with_reducible refine Zl ?_ (fun _ => ?_))
   | exact impl_DepthOf.mono _ _ _ _ _ _
   | exact impl_Formula_isWell.mono _ _ _ _ _ _ _
   | exact impl_SizeOf.mono _ _ _ _ _ _
   | exact LeO.none _
   | refine Zu ?_ ?_
   | refine Zl ?_ (fun _ => ?_)
set_option maxHeartbeats 8000000 in
set_option maxRecDepth 100000 in
theorem impl_IsFormula.calls (k : Nat) (a0 : Int) (a1_0 : Int) (a1_1 : Int) (a1_2 : Int) (a1_3 : Int) (A1_4 : Option Addr) (c1_4 : Nat) (l1_4 : List (S32)) (r : Bool) (w : Xs) (hr1_4 : Kd.C k32 w A1_4 l1_4.length l1_4) (hc1_4 : l1_4.length ≤ c1_4) (h : impl_IsFormula.f k a0 a1_0 a1_1 a1_2 a1_3 l1_4 = some r) :
  Calls Xh 36 #[.int .i64 a0, .agg #[.int .i64 a1_0, .int .i64 a1_1, .int .i64 a1_2, .int .i64 a1_3, .slice A1_4 l1_4.length c1_4]] w fun e w' => e = .returned (.bool r) ∧ Below w.heap.size w w' := by
 have hu32 := Zt
 have HR1_4 := Qa hr1_4
 have HC1_4 := Qa hc1_4
 clear hr1_4 hc1_4
 have HB := Qa (Below.refl w.heap.size w)
 have H : ((impl_SizeOf.f k a1_0 a1_1 a1_2 a1_3 l1_4).bind fun t398 => (if t398 ≤ 40 then ((impl_DepthOf.f k a1_0 a1_1 a1_2 a1_3 l1_4).bind fun t399 => (if t399 ≤ 12 then ((impl_Formula_isWell.f k a1_0 a1_1 a1_2 a1_3 l1_4 a0).bind fun t400 => (some t400)) else (some false))) else (some false))) = some r := h
 clear h
 replace H := Qi.mp H
 obtain ⟨t398, A30, H⟩ := H
 replace H : (if t398 ≤ 40 then ((impl_DepthOf.f k a1_0 a1_1 a1_2 a1_3 l1_4).bind fun t399 => (if t399 ≤ 12 then ((impl_Formula_isWell.f k a1_0 a1_1 a1_2 a1_3 l1_4 a0).bind fun t400 => (some t400)) else (some false))) else (some false)) = some r := H
 have A3 := Qa A30
 clear A30
 by_cases c4 : t398 ≤ 40
 ·rw [if_pos c4] at H
  have c4b0 : decide (t398 ≤ 40) = true := decide_eq_true c4
  clear c4
  replace H := Qi.mp H
  obtain ⟨t399, A50, H⟩ := H
  replace H : (if t399 ≤ 12 then ((impl_Formula_isWell.f k a1_0 a1_1 a1_2 a1_3 l1_4 a0).bind fun t400 => (some t400)) else (some false)) = some r := H
  have A5 := Qa A50
  clear A50
  by_cases c6 : t399 ≤ 12
  ·rw [if_pos c6] at H
   have c6b0 : decide (t399 ≤ 12) = true := decide_eq_true c6
   clear c6
   replace H := Qi.mp H
   obtain ⟨t400, A70, H⟩ := H
   replace H : (some t400) = some r := H
   have A7 := Qa A70
   clear A70
   obtain rfl := Qs H
   go_enter Try.func36, Try.ntmps36
   go_wp2_with (first | ((with_reducible refine gate_dst (N := 3) rfl ?_); refine box_event ?hg (N := 3) ?hd (cs := #[.int .i64 a1_0, .int .i64 a1_1, .int .i64 a1_2, .int .i64 a1_3, .slice A1_4 l1_4.length c1_4]) (t := 32) ?hr ?_; (case hd => rfl); (case hg => rfl); (case hr => first | (go_simp; done) | (go_simp; rfl)); intro gb397 hg w8 hbox hb; have BK397 := Qa (hbox); have GW397 := Qa ((by rw [hg]; exact (Qv (Bb0 HB.out)) : w.heap.size ≤ gb397)); have GE397 := Qa ((by rw [hg]; exact (Qv (Bb0 HB.out)) : w.heap.size ≤ gb397)); replace HB := Qa (Zc (Bb0 HB.out) hb); clear hb hbox hg; have q9_0 : w8.cell? ⟨gb397, 0, none⟩ = some (.int .i64 a1_0) := (Qb BK397.out 0).trans rfl; have q9_1 : w8.cell? ⟨gb397, 1, none⟩ = some (.int .i64 a1_1) := (Qb BK397.out 1).trans rfl; have q9_2 : w8.cell? ⟨gb397, 2, none⟩ = some (.int .i64 a1_2) := (Qb BK397.out 2).trans rfl; have q9_3 : w8.cell? ⟨gb397, 3, none⟩ = some (.int .i64 a1_3) := (Qb BK397.out 3).trans rfl; have q9_4 : w8.cell? ⟨gb397, 4, none⟩ = some (.slice A1_4 l1_4.length c1_4) := (Qb BK397.out 4).trans rfl; have u9_0 := Qc BK397.out 0; have u9_1 := Qc BK397.out 1; have u9_2 := Qc BK397.out 2; have u9_3 := Qc BK397.out 3; have u9_4 := Qc BK397.out 4) | ((with_reducible refine gate_callee (f := 31) rfl ?_); refine goesL_ (some 6) rfl rfl Try.func31 (by kernel_rfl) rfl #[.agg #[.int .i64 a1_0, .int .i64 a1_1, .int .i64 a1_2, .int .i64 a1_3, .slice A1_4 l1_4.length c1_4]] rfl (by (try simp only [Qm, Qt, Zb]); first | done | rfl | (simp only [Qn, Qo]; rfl)) ?_; (with_reducible refine (impl_SizeOf.calls k a1_0 a1_1 a1_2 a1_3 _ _ l1_4 t398 _ ?side1 ?side2 A3.out).mono ?_); (case side1 => repeat (first | exact (Xo HR1_4.out HB.out) | (with_reducible refine Kd.C_alloc ?_ _) | (with_reducible refine Kd.C_drewN ?_ _) | (with_reducible refine Kd.C_drew ?_))); (case side2 => exact HC1_4.out); rintro e w10 ⟨rfl, hb⟩; refine ⟨_, rfl, ?_⟩; replace BK397 := Qa (blk_below (g := gb397) (o := .cells #[.int .i64 a1_0, .int .i64 a1_1, .int .i64 a1_2, .int .i64 a1_3, .slice A1_4 l1_4.length c1_4] 32 (0, 0)) (Ba BK397.out) hb); replace HB := Qa (Zc (Bb1 HB.out GE397.out) hb); (try clear hb); (try clear hb2); (try clear hk); (try clear hi); have q11_0 : w10.cell? ⟨gb397, 0, none⟩ = some (.int .i64 a1_0) := (Qb BK397.out 0).trans rfl; have q11_1 : w10.cell? ⟨gb397, 1, none⟩ = some (.int .i64 a1_1) := (Qb BK397.out 1).trans rfl; have q11_2 : w10.cell? ⟨gb397, 2, none⟩ = some (.int .i64 a1_2) := (Qb BK397.out 2).trans rfl; have q11_3 : w10.cell? ⟨gb397, 3, none⟩ = some (.int .i64 a1_3) := (Qb BK397.out 3).trans rfl; have q11_4 : w10.cell? ⟨gb397, 4, none⟩ = some (.slice A1_4 l1_4.length c1_4) := (Qb BK397.out 4).trans rfl; have u11_0 := Qc BK397.out 0; have u11_1 := Qc BK397.out 1; have u11_2 := Qc BK397.out 2; have u11_3 := Qc BK397.out 3; have u11_4 := Qc BK397.out 4) | (go_at_call 32; (with_reducible refine (impl_DepthOf.calls k a1_0 a1_1 a1_2 a1_3 _ _ l1_4 t399 _ ?side1 ?side2 A5.out).mono ?_); (case side1 => repeat (first | exact (Xo HR1_4.out HB.out) | (with_reducible refine Kd.C_alloc ?_ _) | (with_reducible refine Kd.C_drewN ?_ _) | (with_reducible refine Kd.C_drew ?_))); (case side2 => exact HC1_4.out); rintro e w12 ⟨rfl, hb⟩; replace BK397 := Qa (blk_below (g := gb397) (o := .cells #[.int .i64 a1_0, .int .i64 a1_1, .int .i64 a1_2, .int .i64 a1_3, .slice A1_4 l1_4.length c1_4] 32 (0, 0)) (Ba BK397.out) hb); replace HB := Qa (Zc (Bb1 HB.out GE397.out) hb); (try clear hb); (try clear hb2); (try clear hk); (try clear hi); have q13_0 : w12.cell? ⟨gb397, 0, none⟩ = some (.int .i64 a1_0) := (Qb BK397.out 0).trans rfl; have q13_1 : w12.cell? ⟨gb397, 1, none⟩ = some (.int .i64 a1_1) := (Qb BK397.out 1).trans rfl; have q13_2 : w12.cell? ⟨gb397, 2, none⟩ = some (.int .i64 a1_2) := (Qb BK397.out 2).trans rfl; have q13_3 : w12.cell? ⟨gb397, 3, none⟩ = some (.int .i64 a1_3) := (Qb BK397.out 3).trans rfl; have q13_4 : w12.cell? ⟨gb397, 4, none⟩ = some (.slice A1_4 l1_4.length c1_4) := (Qb BK397.out 4).trans rfl; have u13_0 := Qc BK397.out 0; have u13_1 := Qc BK397.out 1; have u13_2 := Qc BK397.out 2; have u13_3 := Qc BK397.out 3; have u13_4 := Qc BK397.out 4) | (go_at_call 73; (with_reducible refine (impl_Formula_isWell.calls k a1_0 a1_1 a1_2 a1_3 _ _ l1_4 a0 t400 _ ?side1 ?side2 A7.out).mono ?_); (case side1 => repeat (first | exact (Xo HR1_4.out HB.out) | (with_reducible refine Kd.C_alloc ?_ _) | (with_reducible refine Kd.C_drewN ?_ _) | (with_reducible refine Kd.C_drew ?_))); (case side2 => exact HC1_4.out); rintro e w14 ⟨rfl, hb⟩; replace BK397 := Qa (blk_below (g := gb397) (o := .cells #[.int .i64 a1_0, .int .i64 a1_1, .int .i64 a1_2, .int .i64 a1_3, .slice A1_4 l1_4.length c1_4] 32 (0, 0)) (Ba BK397.out) hb); replace HB := Qa (Zc (Bb1 HB.out GE397.out) hb); (try clear hb); (try clear hb2); (try clear hk); (try clear hi)))
   go_ret
   exact ⟨by first | rfl | (simp [errW_none, errW_some] <;> rfl) | (simp [*, errW_none, errW_some] <;> rfl), by repeat (first | (with_reducible first | exact HB.out | apply below_alloc | apply Qp | apply Qu | refine below_set ?_ GE397.out) | exact HB.out)⟩
  ·rw [if_neg c6] at H
   have c6b0 : decide (t399 ≤ 12) = false := decide_eq_false c6
   clear c6
   obtain rfl := Qs H
   go_enter Try.func36, Try.ntmps36
   go_wp2_with (first | ((with_reducible refine gate_dst (N := 3) rfl ?_); refine box_event ?hg (N := 3) ?hd (cs := #[.int .i64 a1_0, .int .i64 a1_1, .int .i64 a1_2, .int .i64 a1_3, .slice A1_4 l1_4.length c1_4]) (t := 32) ?hr ?_; (case hd => rfl); (case hg => rfl); (case hr => first | (go_simp; done) | (go_simp; rfl)); intro gb397 hg w15 hbox hb; have BK397 := Qa (hbox); have GW397 := Qa ((by rw [hg]; exact (Qv (Bb0 HB.out)) : w.heap.size ≤ gb397)); have GE397 := Qa ((by rw [hg]; exact (Qv (Bb0 HB.out)) : w.heap.size ≤ gb397)); replace HB := Qa (Zc (Bb0 HB.out) hb); clear hb hbox hg; have q16_0 : w15.cell? ⟨gb397, 0, none⟩ = some (.int .i64 a1_0) := (Qb BK397.out 0).trans rfl; have q16_1 : w15.cell? ⟨gb397, 1, none⟩ = some (.int .i64 a1_1) := (Qb BK397.out 1).trans rfl; have q16_2 : w15.cell? ⟨gb397, 2, none⟩ = some (.int .i64 a1_2) := (Qb BK397.out 2).trans rfl; have q16_3 : w15.cell? ⟨gb397, 3, none⟩ = some (.int .i64 a1_3) := (Qb BK397.out 3).trans rfl; have q16_4 : w15.cell? ⟨gb397, 4, none⟩ = some (.slice A1_4 l1_4.length c1_4) := (Qb BK397.out 4).trans rfl; have u16_0 := Qc BK397.out 0; have u16_1 := Qc BK397.out 1; have u16_2 := Qc BK397.out 2; have u16_3 := Qc BK397.out 3; have u16_4 := Qc BK397.out 4) | ((with_reducible refine gate_callee (f := 31) rfl ?_); refine goesL_ (some 6) rfl rfl Try.func31 (by kernel_rfl) rfl #[.agg #[.int .i64 a1_0, .int .i64 a1_1, .int .i64 a1_2, .int .i64 a1_3, .slice A1_4 l1_4.length c1_4]] rfl (by (try simp only [Qm, Qt, Zb]); first | done | rfl | (simp only [Qn, Qo]; rfl)) ?_; (with_reducible refine (impl_SizeOf.calls k a1_0 a1_1 a1_2 a1_3 _ _ l1_4 t398 _ ?side1 ?side2 A3.out).mono ?_); (case side1 => repeat (first | exact (Xo HR1_4.out HB.out) | (with_reducible refine Kd.C_alloc ?_ _) | (with_reducible refine Kd.C_drewN ?_ _) | (with_reducible refine Kd.C_drew ?_))); (case side2 => exact HC1_4.out); rintro e w17 ⟨rfl, hb⟩; refine ⟨_, rfl, ?_⟩; replace BK397 := Qa (blk_below (g := gb397) (o := .cells #[.int .i64 a1_0, .int .i64 a1_1, .int .i64 a1_2, .int .i64 a1_3, .slice A1_4 l1_4.length c1_4] 32 (0, 0)) (Ba BK397.out) hb); replace HB := Qa (Zc (Bb1 HB.out GE397.out) hb); (try clear hb); (try clear hb2); (try clear hk); (try clear hi); have q18_0 : w17.cell? ⟨gb397, 0, none⟩ = some (.int .i64 a1_0) := (Qb BK397.out 0).trans rfl; have q18_1 : w17.cell? ⟨gb397, 1, none⟩ = some (.int .i64 a1_1) := (Qb BK397.out 1).trans rfl; have q18_2 : w17.cell? ⟨gb397, 2, none⟩ = some (.int .i64 a1_2) := (Qb BK397.out 2).trans rfl; have q18_3 : w17.cell? ⟨gb397, 3, none⟩ = some (.int .i64 a1_3) := (Qb BK397.out 3).trans rfl; have q18_4 : w17.cell? ⟨gb397, 4, none⟩ = some (.slice A1_4 l1_4.length c1_4) := (Qb BK397.out 4).trans rfl; have u18_0 := Qc BK397.out 0; have u18_1 := Qc BK397.out 1; have u18_2 := Qc BK397.out 2; have u18_3 := Qc BK397.out 3; have u18_4 := Qc BK397.out 4) | (go_at_call 32; (with_reducible refine (impl_DepthOf.calls k a1_0 a1_1 a1_2 a1_3 _ _ l1_4 t399 _ ?side1 ?side2 A5.out).mono ?_); (case side1 => repeat (first | exact (Xo HR1_4.out HB.out) | (with_reducible refine Kd.C_alloc ?_ _) | (with_reducible refine Kd.C_drewN ?_ _) | (with_reducible refine Kd.C_drew ?_))); (case side2 => exact HC1_4.out); rintro e w19 ⟨rfl, hb⟩; replace BK397 := Qa (blk_below (g := gb397) (o := .cells #[.int .i64 a1_0, .int .i64 a1_1, .int .i64 a1_2, .int .i64 a1_3, .slice A1_4 l1_4.length c1_4] 32 (0, 0)) (Ba BK397.out) hb); replace HB := Qa (Zc (Bb1 HB.out GE397.out) hb); (try clear hb); (try clear hb2); (try clear hk); (try clear hi)))
   go_ret
   exact ⟨by first | rfl | (simp [errW_none, errW_some] <;> rfl) | (simp [*, errW_none, errW_some] <;> rfl), by repeat (first | (with_reducible first | exact HB.out | apply below_alloc | apply Qp | apply Qu | refine below_set ?_ GE397.out) | exact HB.out)⟩
 ·rw [if_neg c4] at H
  have c4b0 : decide (t398 ≤ 40) = false := decide_eq_false c4
  clear c4
  obtain rfl := Qs H
  go_enter Try.func36, Try.ntmps36
  go_wp2_with (first | ((with_reducible refine gate_dst (N := 3) rfl ?_); refine box_event ?hg (N := 3) ?hd (cs := #[.int .i64 a1_0, .int .i64 a1_1, .int .i64 a1_2, .int .i64 a1_3, .slice A1_4 l1_4.length c1_4]) (t := 32) ?hr ?_; (case hd => rfl); (case hg => rfl); (case hr => first | (go_simp; done) | (go_simp; rfl)); intro gb397 hg w20 hbox hb; have BK397 := Qa (hbox); have GW397 := Qa ((by rw [hg]; exact (Qv (Bb0 HB.out)) : w.heap.size ≤ gb397)); have GE397 := Qa ((by rw [hg]; exact (Qv (Bb0 HB.out)) : w.heap.size ≤ gb397)); replace HB := Qa (Zc (Bb0 HB.out) hb); clear hb hbox hg; have q21_0 : w20.cell? ⟨gb397, 0, none⟩ = some (.int .i64 a1_0) := (Qb BK397.out 0).trans rfl; have q21_1 : w20.cell? ⟨gb397, 1, none⟩ = some (.int .i64 a1_1) := (Qb BK397.out 1).trans rfl; have q21_2 : w20.cell? ⟨gb397, 2, none⟩ = some (.int .i64 a1_2) := (Qb BK397.out 2).trans rfl; have q21_3 : w20.cell? ⟨gb397, 3, none⟩ = some (.int .i64 a1_3) := (Qb BK397.out 3).trans rfl; have q21_4 : w20.cell? ⟨gb397, 4, none⟩ = some (.slice A1_4 l1_4.length c1_4) := (Qb BK397.out 4).trans rfl; have u21_0 := Qc BK397.out 0; have u21_1 := Qc BK397.out 1; have u21_2 := Qc BK397.out 2; have u21_3 := Qc BK397.out 3; have u21_4 := Qc BK397.out 4) | ((with_reducible refine gate_callee (f := 31) rfl ?_); refine goesL_ (some 6) rfl rfl Try.func31 (by kernel_rfl) rfl #[.agg #[.int .i64 a1_0, .int .i64 a1_1, .int .i64 a1_2, .int .i64 a1_3, .slice A1_4 l1_4.length c1_4]] rfl (by (try simp only [Qm, Qt, Zb]); first | done | rfl | (simp only [Qn, Qo]; rfl)) ?_; (with_reducible refine (impl_SizeOf.calls k a1_0 a1_1 a1_2 a1_3 _ _ l1_4 t398 _ ?side1 ?side2 A3.out).mono ?_); (case side1 => repeat (first | exact (Xo HR1_4.out HB.out) | (with_reducible refine Kd.C_alloc ?_ _) | (with_reducible refine Kd.C_drewN ?_ _) | (with_reducible refine Kd.C_drew ?_))); (case side2 => exact HC1_4.out); rintro e w22 ⟨rfl, hb⟩; refine ⟨_, rfl, ?_⟩; replace BK397 := Qa (blk_below (g := gb397) (o := .cells #[.int .i64 a1_0, .int .i64 a1_1, .int .i64 a1_2, .int .i64 a1_3, .slice A1_4 l1_4.length c1_4] 32 (0, 0)) (Ba BK397.out) hb); replace HB := Qa (Zc (Bb1 HB.out GE397.out) hb); (try clear hb); (try clear hb2); (try clear hk); (try clear hi)))
  go_ret
  exact ⟨by first | rfl | (simp [errW_none, errW_some] <;> rfl) | (simp [*, errW_none, errW_some] <;> rfl), by repeat (first | (with_reducible first | exact HB.out | apply below_alloc | apply Qp | apply Qu | refine below_set ?_ GE397.out) | exact HB.out)⟩
mutual
def spec_l10Left.l0 : Nat → Int → Int → Int → Int → Int → Int → List (S32) → Option (Int)
 | 0, _, _, _, _, _, _, _ => none
 | k + 1, x1, x5, x402000, x402001, x402002, x402003, x402004 => if x5 < (x402004.length : Int) then (if x1 ≥ 0 then (if 0 ≤ x5 then ((spec_l10Left.f k ((rd_T32 x402004 x5).f0) ((rd_T32 x402004 x5).f1) ((rd_T32 x402004 x5).f2) ((rd_T32 x402004 x5).f3) ((rd_T32 x402004 x5).f4) x1).bind fun t403 => (spec_l10Left.l0 k t403 (Qq (x5 + 1)) x402000 x402001 x402002 x402003 x402004)) else (none)) else (some x1)) else (some x1)
def spec_l10Left.f : Nat → Int → Int → Int → Int → List (S32) → Int → Option (Int)
 | 0, _, _, _, _, _, _ => none
 | k + 1, a0_0, a0_1, a0_2, a0_3, l0_4, a1 => spec_l10Left.l0 k (Qq (a1 - 1)) 0 a0_0 a0_1 a0_2 a0_3 l0_4
end
theorem spec_l10Left.mono_l : ∀ k, (∀ y0 y1 y2 y3 y4 y5, LeO (spec_l10Left.f k y0 y1 y2 y3 y4 y5) (spec_l10Left.f (k + 1) y0 y1 y2 y3 y4 y5)) ∧ (∀ y0 y1 y2 y3 y4 y5 y6, LeO (spec_l10Left.l0 k y0 y1 y2 y3 y4 y5 y6) (spec_l10Left.l0 (k + 1) y0 y1 y2 y3 y4 y5 y6))
 | 0 => ⟨fun _ _ _ _ _ _ r h => by simp [spec_l10Left.f] at h, fun _ _ _ _ _ _ _ r h => by simp [spec_l10Left.l0] at h⟩
 | k + 1 => by
  obtain ⟨ih0, ih1⟩ := spec_l10Left.mono_l k
  refine ⟨?_, ?_⟩
  ·intro y0 y1 y2 y3 y4 y5
   unfold spec_l10Left.f
   repeat' first
   | (with_reducible exact ih0 _ _ _ _ _ _)
   | (with_reducible exact ih1 _ _ _ _ _ _ _)
   | (with_reducible exact Xi _)
   | (with_reducible exact LeO.none _)
   | (with_reducible refine Zu ?_ ?_)
   | (with_reducible refine Zl ?_ (fun _ => ?_))
   | exact ih0 _ _ _ _ _ _
   | exact ih1 _ _ _ _ _ _ _
   | exact LeO.none _
   | refine Zu ?_ ?_
   | refine Zl ?_ (fun _ => ?_)
  ·intro y0 y1 y2 y3 y4 y5 y6
   unfold spec_l10Left.l0
   repeat' first
   | (with_reducible exact ih0 _ _ _ _ _ _)
   | (with_reducible exact ih1 _ _ _ _ _ _ _)
   | (with_reducible exact Xi _)
   | (with_reducible exact LeO.none _)
   | (with_reducible refine Zu ?_ ?_)
   | (with_reducible refine Zl ?_ (fun _ => ?_))
   | exact ih0 _ _ _ _ _ _
   | exact ih1 _ _ _ _ _ _ _
   | exact LeO.none _
   | refine Zu ?_ ?_
   | refine Zl ?_ (fun _ => ?_)
theorem spec_l10Left.mono : ∀ a0 a1 a2 a3 a4 a5 k, LeO (spec_l10Left.f k a0 a1 a2 a3 a4 a5) (spec_l10Left.f (k + 1) a0 a1 a2 a3 a4 a5) := by
 intro a0 a1 a2 a3 a4 a5 k
 obtain ⟨ih0, ih1⟩ := spec_l10Left.mono_l k
 exact ih0 a0 a1 a2 a3 a4 a5
set_option maxHeartbeats 8000000 in
set_option maxRecDepth 100000 in
theorem spec_l10Left.calls (k : Nat) : ∀ (a0_0 : Int) (a0_1 : Int) (a0_2 : Int) (a0_3 : Int) (A0_4 : Option Addr) (c0_4 : Nat) (l0_4 : List (S32)) (a1 : Int) (r : Int) (w : Xs) (hr0_4 : Kd.C k32 w A0_4 l0_4.length l0_4) (hc0_4 : l0_4.length ≤ c0_4) (h : spec_l10Left.f k a0_0 a0_1 a0_2 a0_3 l0_4 a1 = some r),
  Calls Xh 74 #[.agg #[.int .i64 a0_0, .int .i64 a0_1, .int .i64 a0_2, .int .i64 a0_3, .slice A0_4 l0_4.length c0_4], .int .i64 a1] w fun e w' => e = .returned (.int .i64 r) ∧ Below w.heap.size w w' := by
 induction k using Nat.strongRecOn with
 | _ k ih =>
 intro a0_0 a0_1 a0_2 a0_3 A0_4 c0_4 l0_4 a1 r w hr0_4 hc0_4 h
 cases k with
 | zero => exact absurd h (by simp [spec_l10Left.f])
 | succ k =>
 simp only [spec_l10Left.f] at h
 have hu32 := Zt
 have HR0_4 := Qa hr0_4
 have HC0_4 := Qa hc0_4
 clear hr0_4 hc0_4
 have HB := Qa (Below.refl w.heap.size w)
 have H : (spec_l10Left.l0 k (Qq (a1 - 1)) 0 a0_0 a0_1 a0_2 a0_3 l0_4) = some r := h
 clear h
 have H' := Qa H
 clear H
 go_enter Try.func74, Try.ntmps74
 go_wp2_with (first | ((with_reducible refine gate_dst (N := 2) rfl ?_); refine box_event ?hg (N := 2) ?hd (cs := #[.int .i64 a0_0, .int .i64 a0_1, .int .i64 a0_2, .int .i64 a0_3, .slice A0_4 l0_4.length c0_4]) (t := 32) ?hr ?_; (case hd => rfl); (case hg => rfl); (case hr => first | (go_simp; done) | (go_simp; rfl)); intro gb401 hg w3 hbox hb; have BK401 := Qa (hbox); have GW401 := Qa ((by rw [hg]; exact (Qv (Bb0 HB.out)) : w.heap.size ≤ gb401)); have GE401 := Qa ((by rw [hg]; exact (Qv (Bb0 HB.out)) : w.heap.size ≤ gb401)); replace HB := Qa (Zc (Bb0 HB.out) hb); clear hb hbox hg))
 go_loopg [1, 5] k (fun kq v1 v5 w' => ∃ (x1_1 : Int) (x5_1 : Int), v1 = .int .i64 x1_1 ∧ v5 = .int .i64 x5_1 ∧ Aside0 (spec_l10Left.l0 kq x1_1 x5_1 a0_0 a0_1 a0_2 a0_3 l0_4 = some r) ∧ Aside0 (kq ≤ k) ∧ Aside0 (w'.heap[gb401]? = some (.cells #[.int .i64 a0_0, .int .i64 a0_1, .int .i64 a0_2, .int .i64 a0_3, (.slice A0_4 l0_4.length c0_4)] 32 (0, 0))) ∧ Aside0 (Below w.heap.size w w'))
 case atStart => exact ⟨(Qq (a1 - 1)), (0), (by first | rfl | (simp; done) | (simp [*]; done) | (simp; rw [Qx]; simp; done)), (by first | rfl | (simp; done) | (simp [*]; done) | (simp; rw [Qx]; simp; done)), H', ⟨Nat.le_refl _⟩, ⟨Ba BK401.out⟩, ⟨Bb1 HB.out GE401.out⟩⟩
 case round =>
  clear H'
  try clear p2
  obtain ⟨x1_1, x5_1, rfl, rfl, HA, HK1, BK401, HB⟩ := hrel
  cases gk with
  | zero => exact absurd HA.out (by simp [spec_l10Left.l0])
  | succ k1 =>
   have H := HA.out
   clear HA
   simp only [spec_l10Left.l0] at H
   by_cases c4 : x5_1 < (l0_4.length : Int)
   ·rw [if_pos c4] at H
    have c4b0 : decide (x5_1 < (l0_4.length : Int)) = true := decide_eq_true c4
    clear c4
    by_cases c5 : x1_1 ≥ 0
    ·rw [if_pos c5] at H
     have c5b0 : decide (0 ≤ x1_1) = true := decide_eq_true c5
     clear c5
     by_cases c6 : 0 ≤ x5_1
     ·rw [if_pos c6] at H
      have c6b0 : decide (0 ≤ x5_1) = true := decide_eq_true c6
      clear c6
      replace H := Qi.mp H
      obtain ⟨t403, A70, H⟩ := H
      replace H : (spec_l10Left.l0 k1 t403 (Qq (x5_1 + 1)) a0_0 a0_1 a0_2 a0_3 l0_4) = some r := H
      have A7 := Qa A70
      clear A70
      have H' := Qa H
      clear H
      have q8_0 : wr.cell? ⟨gb401, 0, none⟩ = some (.int .i64 a0_0) := (Qb BK401.out 0).trans rfl
      have q8_1 : wr.cell? ⟨gb401, 1, none⟩ = some (.int .i64 a0_1) := (Qb BK401.out 1).trans rfl
      have q8_2 : wr.cell? ⟨gb401, 2, none⟩ = some (.int .i64 a0_2) := (Qb BK401.out 2).trans rfl
      have q8_3 : wr.cell? ⟨gb401, 3, none⟩ = some (.int .i64 a0_3) := (Qb BK401.out 3).trans rfl
      have q8_4 : wr.cell? ⟨gb401, 4, none⟩ = some (.slice A0_4 l0_4.length c0_4) := (Qb BK401.out 4).trans rfl
      have u8_0 := Qc BK401.out 0
      have u8_1 := Qc BK401.out 1
      have u8_2 := Qc BK401.out 2
      have u8_3 := Qc BK401.out 3
      have u8_4 := Qc BK401.out 4
      have p402 : 0 ≤ (x5_1 : Int) := of_decide_eq_true (by first | (with_reducible assumption) | assumption)
      have q402 : x5_1 < (l0_4.length : Int) := of_decide_eq_true (by first | (with_reducible assumption) | assumption)
      obtain ⟨ad402, A402_4, c402_4, e402, hx402_0, hx402_1, hx402_2, hx402_3, hx402_4, hl402_4, hi402_4⟩ := at_T32 HR0_4.out x5_1 p402 q402
      cases e402
      replace hx402_0 := (HB.out.cell (Qd w _ hx402_0)).trans hx402_0
      replace hx402_1 := (HB.out.cell (Qd w _ hx402_1)).trans hx402_1
      replace hx402_2 := (HB.out.cell (Qd w _ hx402_2)).trans hx402_2
      replace hx402_3 := (HB.out.cell (Qd w _ hx402_3)).trans hx402_3
      replace hx402_4 := (HB.out.cell (Qd w _ hx402_4)).trans hx402_4
      have HR402_4 := Qa hi402_4
      have HC402_4 := Qa hl402_4
      clear hi402_4 hl402_4
      replace p402 := eq_true p402
      replace q402 := eq_true q402
      go_wp2_with (first | ((with_reducible refine gate_callee (f := 74) rfl ?_); refine goesL_ (some 25) rfl rfl Try.func74 (by kernel_rfl) rfl #[.agg #[.int .i64 ((rd_T32 l0_4 x5_1).f0), .int .i64 ((rd_T32 l0_4 x5_1).f1), .int .i64 ((rd_T32 l0_4 x5_1).f2), .int .i64 ((rd_T32 l0_4 x5_1).f3), .slice A402_4 ((rd_T32 l0_4 x5_1).f4).length c402_4], .int .i64 x1_1] rfl (by (try simp only [Qm, Qt, Zb]); first | done | rfl | (simp only [Qn, Qo]; rfl)) ?_; (with_reducible refine (ih k1 (by have := HK1.out; omega) ((rd_T32 l0_4 x5_1).f0) ((rd_T32 l0_4 x5_1).f1) ((rd_T32 l0_4 x5_1).f2) ((rd_T32 l0_4 x5_1).f3) _ _ ((rd_T32 l0_4 x5_1).f4) x1_1 t403 _ ?side1 ?side2 A7.out).mono ?_); (case side1 => repeat (first | exact (Xo HR402_4.out HB.out) | (with_reducible refine Kd.C_alloc ?_ _) | (with_reducible refine Kd.C_drewN ?_ _) | (with_reducible refine Kd.C_drew ?_))); (case side2 => exact HC402_4.out); rintro e w9 ⟨rfl, hb⟩; refine ⟨_, rfl, ?_⟩; replace BK401 := Qa (blk_below (g := gb401) (o := .cells #[.int .i64 a0_0, .int .i64 a0_1, .int .i64 a0_2, .int .i64 a0_3, .slice (some ad402) l0_4.length c0_4] 32 (0, 0)) (Ba BK401.out) hb); replace HB := Qa (Zc (Bb1 HB.out GE401.out) hb); (try clear hb); (try clear hb2); (try clear hk); (try clear hi)))
      go_roundg k1
      case measure => have := HK1.out; omega
      case rel => exact ⟨(t403), (Qq (x5_1 + 1)), (by first | rfl | (simp; done) | (simp [*]; done) | (simp; rw [Qx]; simp; done)), (by first | rfl | (simp; done) | (simp [*]; done) | (simp; rw [Qx]; simp; done)), H', ⟨by have := HK1.out; omega⟩, ⟨Ba BK401.out⟩, ⟨Bb1 HB.out GE401.out⟩⟩
     ·rw [if_neg c6] at H
      exact absurd H (by simp)
    ·rw [if_neg c5] at H
     have c5b0 : decide (0 ≤ x1_1) = false := decide_eq_false c5
     clear c5
     obtain rfl := Qs H
     have q10_0 : wr.cell? ⟨gb401, 0, none⟩ = some (.int .i64 a0_0) := (Qb BK401.out 0).trans rfl
     have q10_1 : wr.cell? ⟨gb401, 1, none⟩ = some (.int .i64 a0_1) := (Qb BK401.out 1).trans rfl
     have q10_2 : wr.cell? ⟨gb401, 2, none⟩ = some (.int .i64 a0_2) := (Qb BK401.out 2).trans rfl
     have q10_3 : wr.cell? ⟨gb401, 3, none⟩ = some (.int .i64 a0_3) := (Qb BK401.out 3).trans rfl
     have q10_4 : wr.cell? ⟨gb401, 4, none⟩ = some (.slice A0_4 l0_4.length c0_4) := (Qb BK401.out 4).trans rfl
     have u10_0 := Qc BK401.out 0
     have u10_1 := Qc BK401.out 1
     have u10_2 := Qc BK401.out 2
     have u10_3 := Qc BK401.out 3
     have u10_4 := Qc BK401.out 4
     go_wp2
     go_ret
     exact ⟨by first | rfl | (simp [errW_none, errW_some] <;> rfl) | (simp [*, errW_none, errW_some] <;> rfl), by repeat (first | (with_reducible first | exact HB.out | apply below_alloc | apply Qp | apply Qu | refine below_set ?_ GE401.out) | exact HB.out)⟩
   ·rw [if_neg c4] at H
    have c4b0 : decide (x5_1 < (l0_4.length : Int)) = false := decide_eq_false c4
    clear c4
    obtain rfl := Qs H
    have q11_0 : wr.cell? ⟨gb401, 0, none⟩ = some (.int .i64 a0_0) := (Qb BK401.out 0).trans rfl
    have q11_1 : wr.cell? ⟨gb401, 1, none⟩ = some (.int .i64 a0_1) := (Qb BK401.out 1).trans rfl
    have q11_2 : wr.cell? ⟨gb401, 2, none⟩ = some (.int .i64 a0_2) := (Qb BK401.out 2).trans rfl
    have q11_3 : wr.cell? ⟨gb401, 3, none⟩ = some (.int .i64 a0_3) := (Qb BK401.out 3).trans rfl
    have q11_4 : wr.cell? ⟨gb401, 4, none⟩ = some (.slice A0_4 l0_4.length c0_4) := (Qb BK401.out 4).trans rfl
    have u11_0 := Qc BK401.out 0
    have u11_1 := Qc BK401.out 1
    have u11_2 := Qc BK401.out 2
    have u11_3 := Qc BK401.out 3
    have u11_4 := Qc BK401.out 4
    go_wp2
    go_ret
    exact ⟨by first | rfl | (simp [errW_none, errW_some] <;> rfl) | (simp [*, errW_none, errW_some] <;> rfl), by repeat (first | (with_reducible first | exact HB.out | apply below_alloc | apply Qp | apply Qu | refine below_set ?_ GE401.out) | exact HB.out)⟩
def spec_l1Max.f (a0 : Int) (a1 : Int) : Option (Int) := if a0 > a1 then (some a0) else (some a1)
set_option maxHeartbeats 8000000 in
set_option maxRecDepth 100000 in
theorem spec_l1Max.calls (a0 : Int) (a1 : Int) (r : Int) (w : Xs) (h : spec_l1Max.f a0 a1 = some r) :
  Calls Xh 108 #[.int .i64 a0, .int .i64 a1] w fun e w' => e = .returned (.int .i64 r) ∧ Drawn0 w w' := by
 have H : (if a0 > a1 then (some a0) else (some a1)) = some r := h
 clear h
 by_cases c3 : a0 > a1
 ·rw [if_pos c3] at H
  have c3b0 : decide (a1 < a0) = true := decide_eq_true c3
  clear c3
  obtain rfl := Qs H
  go_enter Try.func108, Try.ntmps108
  go_wp2
  go_ret
  exact ⟨by first | rfl | (simp; done) | (simp [*]; done), by repeat (first | exact Drawn0.refl _ | apply Drawn0.step)⟩
 ·rw [if_neg c3] at H
  have c3b0 : decide (a1 < a0) = false := decide_eq_false c3
  clear c3
  obtain rfl := Qs H
  go_enter Try.func108, Try.ntmps108
  go_wp2
  go_ret
  exact ⟨by first | rfl | (simp; done) | (simp [*]; done), by repeat (first | exact Drawn0.refl _ | apply Drawn0.step)⟩
mutual
def spec_DepthOf.l0 : Nat → Int → Int → Int → Int → Int → Int → List (S32) → Option (Int)
 | 0, _, _, _, _, _, _, _ => none
 | k + 1, x3, x4, x405000, x405001, x405002, x405003, x405004 => if x4 < (x405004.length : Int) then (if 0 ≤ x4 then ((spec_DepthOf.f k ((rd_T32 x405004 x4).f0) ((rd_T32 x405004 x4).f1) ((rd_T32 x405004 x4).f2) ((rd_T32 x405004 x4).f3) ((rd_T32 x405004 x4).f4)).bind fun t406 => ((spec_l1Max.f x3 t406).bind fun t407 => (spec_DepthOf.l0 k t407 (Qq (x4 + 1)) x405000 x405001 x405002 x405003 x405004))) else (none)) else (some (Qq (x3 + 1)))
def spec_DepthOf.f : Nat → Int → Int → Int → Int → List (S32) → Option (Int)
 | 0, _, _, _, _, _ => none
 | k + 1, a0_0, a0_1, a0_2, a0_3, l0_4 => spec_DepthOf.l0 k 0 0 a0_0 a0_1 a0_2 a0_3 l0_4
end
theorem spec_DepthOf.mono_l : ∀ k, (∀ y0 y1 y2 y3 y4, LeO (spec_DepthOf.f k y0 y1 y2 y3 y4) (spec_DepthOf.f (k + 1) y0 y1 y2 y3 y4)) ∧ (∀ y0 y1 y2 y3 y4 y5 y6, LeO (spec_DepthOf.l0 k y0 y1 y2 y3 y4 y5 y6) (spec_DepthOf.l0 (k + 1) y0 y1 y2 y3 y4 y5 y6))
 | 0 => ⟨fun _ _ _ _ _ r h => by simp [spec_DepthOf.f] at h, fun _ _ _ _ _ _ _ r h => by simp [spec_DepthOf.l0] at h⟩
 | k + 1 => by
  obtain ⟨ih0, ih1⟩ := spec_DepthOf.mono_l k
  refine ⟨?_, ?_⟩
  ·intro y0 y1 y2 y3 y4
   unfold spec_DepthOf.f
   repeat' first
   | (with_reducible exact ih0 _ _ _ _ _)
   | (with_reducible exact ih1 _ _ _ _ _ _ _)
   | (with_reducible exact Xi _)
   | (with_reducible exact LeO.none _)
   | (with_reducible refine Zu ?_ ?_)
   | (with_reducible refine Zl ?_ (fun _ => ?_))
   | exact ih0 _ _ _ _ _
   | exact ih1 _ _ _ _ _ _ _
   | exact LeO.none _
   | refine Zu ?_ ?_
   | refine Zl ?_ (fun _ => ?_)
  ·intro y0 y1 y2 y3 y4 y5 y6
   unfold spec_DepthOf.l0
   repeat' first
   | (with_reducible exact ih0 _ _ _ _ _)
   | (with_reducible exact ih1 _ _ _ _ _ _ _)
   | (with_reducible exact Xi _)
   | (with_reducible exact LeO.none _)
   | (with_reducible refine Zu ?_ ?_)
   | (with_reducible refine Zl ?_ (fun _ => ?_))
   | exact ih0 _ _ _ _ _
   | exact ih1 _ _ _ _ _ _ _
   | exact LeO.none _
   | refine Zu ?_ ?_
   | refine Zl ?_ (fun _ => ?_)
theorem spec_DepthOf.mono : ∀ a0 a1 a2 a3 a4 k, LeO (spec_DepthOf.f k a0 a1 a2 a3 a4) (spec_DepthOf.f (k + 1) a0 a1 a2 a3 a4) := by
 intro a0 a1 a2 a3 a4 k
 obtain ⟨ih0, ih1⟩ := spec_DepthOf.mono_l k
 exact ih0 a0 a1 a2 a3 a4
set_option maxHeartbeats 8000000 in
set_option maxRecDepth 100000 in
theorem spec_DepthOf.calls (k : Nat) : ∀ (a0_0 : Int) (a0_1 : Int) (a0_2 : Int) (a0_3 : Int) (A0_4 : Option Addr) (c0_4 : Nat) (l0_4 : List (S32)) (r : Int) (w : Xs) (hr0_4 : Kd.C k32 w A0_4 l0_4.length l0_4) (hc0_4 : l0_4.length ≤ c0_4) (h : spec_DepthOf.f k a0_0 a0_1 a0_2 a0_3 l0_4 = some r),
  Calls Xh 75 #[.agg #[.int .i64 a0_0, .int .i64 a0_1, .int .i64 a0_2, .int .i64 a0_3, .slice A0_4 l0_4.length c0_4]] w fun e w' => e = .returned (.int .i64 r) ∧ Below w.heap.size w w' := by
 induction k using Nat.strongRecOn with
 | _ k ih =>
 intro a0_0 a0_1 a0_2 a0_3 A0_4 c0_4 l0_4 r w hr0_4 hc0_4 h
 cases k with
 | zero => exact absurd h (by simp [spec_DepthOf.f])
 | succ k =>
 simp only [spec_DepthOf.f] at h
 have hu32 := Zt
 have HR0_4 := Qa hr0_4
 have HC0_4 := Qa hc0_4
 clear hr0_4 hc0_4
 have HB := Qa (Below.refl w.heap.size w)
 have H : (spec_DepthOf.l0 k 0 0 a0_0 a0_1 a0_2 a0_3 l0_4) = some r := h
 clear h
 have H' := Qa H
 clear H
 go_enter Try.func75, Try.ntmps75
 go_wp2_with (first | ((with_reducible refine gate_dst (N := 1) rfl ?_); refine box_event ?hg (N := 1) ?hd (cs := #[.int .i64 a0_0, .int .i64 a0_1, .int .i64 a0_2, .int .i64 a0_3, .slice A0_4 l0_4.length c0_4]) (t := 32) ?hr ?_; (case hd => rfl); (case hg => rfl); (case hr => first | (go_simp; done) | (go_simp; rfl)); intro gb404 hg w2 hbox hb; have BK404 := Qa (hbox); have GW404 := Qa ((by rw [hg]; exact (Qv (Bb0 HB.out)) : w.heap.size ≤ gb404)); have GE404 := Qa ((by rw [hg]; exact (Qv (Bb0 HB.out)) : w.heap.size ≤ gb404)); replace HB := Qa (Zc (Bb0 HB.out) hb); clear hb hbox hg))
 go_loopg [3, 4] k (fun kq v3 v4 w' => ∃ (x3_1 : Int) (x4_1 : Int), v3 = .int .i64 x3_1 ∧ v4 = .int .i64 x4_1 ∧ Aside0 (spec_DepthOf.l0 kq x3_1 x4_1 a0_0 a0_1 a0_2 a0_3 l0_4 = some r) ∧ Aside0 (kq ≤ k) ∧ Aside0 (w'.heap[gb404]? = some (.cells #[.int .i64 a0_0, .int .i64 a0_1, .int .i64 a0_2, .int .i64 a0_3, (.slice A0_4 l0_4.length c0_4)] 32 (0, 0))) ∧ Aside0 (Below w.heap.size w w'))
 case atStart => exact ⟨(0), (0), (by first | rfl | (simp; done) | (simp [*]; done) | (simp; rw [Qx]; simp; done)), (by first | rfl | (simp; done) | (simp [*]; done) | (simp; rw [Qx]; simp; done)), H', ⟨Nat.le_refl _⟩, ⟨Ba BK404.out⟩, ⟨Bb1 HB.out GE404.out⟩⟩
 case round =>
  clear H'
  try clear p2
  obtain ⟨x3_1, x4_1, rfl, rfl, HA, HK1, BK404, HB⟩ := hrel
  cases gk with
  | zero => exact absurd HA.out (by simp [spec_DepthOf.l0])
  | succ k1 =>
   have H := HA.out
   clear HA
   simp only [spec_DepthOf.l0] at H
   by_cases c3 : x4_1 < (l0_4.length : Int)
   ·rw [if_pos c3] at H
    have c3b0 : decide (x4_1 < (l0_4.length : Int)) = true := decide_eq_true c3
    clear c3
    by_cases c4 : 0 ≤ x4_1
    ·rw [if_pos c4] at H
     have c4b0 : decide (0 ≤ x4_1) = true := decide_eq_true c4
     clear c4
     replace H := Qi.mp H
     obtain ⟨t406, A50, H⟩ := H
     replace H : ((spec_l1Max.f x3_1 t406).bind fun t407 => (spec_DepthOf.l0 k1 t407 (Qq (x4_1 + 1)) a0_0 a0_1 a0_2 a0_3 l0_4)) = some r := H
     have A5 := Qa A50
     clear A50
     replace H := Qi.mp H
     obtain ⟨t407, A60, H⟩ := H
     replace H : (spec_DepthOf.l0 k1 t407 (Qq (x4_1 + 1)) a0_0 a0_1 a0_2 a0_3 l0_4) = some r := H
     have A6 := Qa A60
     clear A60
     have H' := Qa H
     clear H
     have q7_0 : wr.cell? ⟨gb404, 0, none⟩ = some (.int .i64 a0_0) := (Qb BK404.out 0).trans rfl
     have q7_1 : wr.cell? ⟨gb404, 1, none⟩ = some (.int .i64 a0_1) := (Qb BK404.out 1).trans rfl
     have q7_2 : wr.cell? ⟨gb404, 2, none⟩ = some (.int .i64 a0_2) := (Qb BK404.out 2).trans rfl
     have q7_3 : wr.cell? ⟨gb404, 3, none⟩ = some (.int .i64 a0_3) := (Qb BK404.out 3).trans rfl
     have q7_4 : wr.cell? ⟨gb404, 4, none⟩ = some (.slice A0_4 l0_4.length c0_4) := (Qb BK404.out 4).trans rfl
     have u7_0 := Qc BK404.out 0
     have u7_1 := Qc BK404.out 1
     have u7_2 := Qc BK404.out 2
     have u7_3 := Qc BK404.out 3
     have u7_4 := Qc BK404.out 4
     have p405 : 0 ≤ (x4_1 : Int) := of_decide_eq_true (by first | (with_reducible assumption) | assumption)
     have q405 : x4_1 < (l0_4.length : Int) := of_decide_eq_true (by first | (with_reducible assumption) | assumption)
     obtain ⟨ad405, A405_4, c405_4, e405, hx405_0, hx405_1, hx405_2, hx405_3, hx405_4, hl405_4, hi405_4⟩ := at_T32 HR0_4.out x4_1 p405 q405
     cases e405
     replace hx405_0 := (HB.out.cell (Qd w _ hx405_0)).trans hx405_0
     replace hx405_1 := (HB.out.cell (Qd w _ hx405_1)).trans hx405_1
     replace hx405_2 := (HB.out.cell (Qd w _ hx405_2)).trans hx405_2
     replace hx405_3 := (HB.out.cell (Qd w _ hx405_3)).trans hx405_3
     replace hx405_4 := (HB.out.cell (Qd w _ hx405_4)).trans hx405_4
     have HR405_4 := Qa hi405_4
     have HC405_4 := Qa hl405_4
     clear hi405_4 hl405_4
     replace p405 := eq_true p405
     replace q405 := eq_true q405
     go_wp2_with (first | ((with_reducible refine gate_callee (f := 75) rfl ?_); refine goesL_ (some 18) rfl rfl Try.func75 (by kernel_rfl) rfl #[.agg #[.int .i64 ((rd_T32 l0_4 x4_1).f0), .int .i64 ((rd_T32 l0_4 x4_1).f1), .int .i64 ((rd_T32 l0_4 x4_1).f2), .int .i64 ((rd_T32 l0_4 x4_1).f3), .slice A405_4 ((rd_T32 l0_4 x4_1).f4).length c405_4]] rfl (by (try simp only [Qm, Qt, Zb]); first | done | rfl | (simp only [Qn, Qo]; rfl)) ?_; (with_reducible refine (ih k1 (by have := HK1.out; omega) ((rd_T32 l0_4 x4_1).f0) ((rd_T32 l0_4 x4_1).f1) ((rd_T32 l0_4 x4_1).f2) ((rd_T32 l0_4 x4_1).f3) _ _ ((rd_T32 l0_4 x4_1).f4) t406 _ ?side1 ?side2 A5.out).mono ?_); (case side1 => repeat (first | exact (Xo HR405_4.out HB.out) | (with_reducible refine Kd.C_alloc ?_ _) | (with_reducible refine Kd.C_drewN ?_ _) | (with_reducible refine Kd.C_drew ?_))); (case side2 => exact HC405_4.out); rintro e w8 ⟨rfl, hb⟩; refine ⟨_, rfl, ?_⟩; replace BK404 := Qa (blk_below (g := gb404) (o := .cells #[.int .i64 a0_0, .int .i64 a0_1, .int .i64 a0_2, .int .i64 a0_3, .slice (some ad405) l0_4.length c0_4] 32 (0, 0)) (Ba BK404.out) hb); replace HB := Qa (Zc (Bb1 HB.out GE404.out) hb); (try clear hb); (try clear hb2); (try clear hk); (try clear hi)) | ((with_reducible refine gate_callee (f := 108) rfl ?_); refine goesL_ (some 19) rfl rfl Try.func108 (by kernel_rfl) rfl #[.int .i64 x3_1, .int .i64 t406] rfl (by (try simp only [Qm, Qt, Zb]); first | done | rfl | (simp only [Qn, Qo]; rfl)) ?_; (with_reducible refine (spec_l1Max.calls x3_1 t406 t407 _ A6.out).mono ?_); rintro e w' ⟨rfl, ⟨nd, rfl⟩⟩; refine ⟨_, rfl, ?_⟩))
     go_roundg k1
     case measure => have := HK1.out; omega
     case rel => exact ⟨(t407), (Qq (x4_1 + 1)), (by first | rfl | (simp; done) | (simp [*]; done) | (simp; rw [Qx]; simp; done)), (by first | rfl | (simp; done) | (simp [*]; done) | (simp; rw [Qx]; simp; done)), H', ⟨by have := HK1.out; omega⟩, ⟨Ba BK404.out⟩, ⟨Bb1 HB.out GE404.out⟩⟩
    ·rw [if_neg c4] at H
     exact absurd H (by simp)
   ·rw [if_neg c3] at H
    have c3b0 : decide (x4_1 < (l0_4.length : Int)) = false := decide_eq_false c3
    clear c3
    obtain rfl := Qs H
    have q9_0 : wr.cell? ⟨gb404, 0, none⟩ = some (.int .i64 a0_0) := (Qb BK404.out 0).trans rfl
    have q9_1 : wr.cell? ⟨gb404, 1, none⟩ = some (.int .i64 a0_1) := (Qb BK404.out 1).trans rfl
    have q9_2 : wr.cell? ⟨gb404, 2, none⟩ = some (.int .i64 a0_2) := (Qb BK404.out 2).trans rfl
    have q9_3 : wr.cell? ⟨gb404, 3, none⟩ = some (.int .i64 a0_3) := (Qb BK404.out 3).trans rfl
    have q9_4 : wr.cell? ⟨gb404, 4, none⟩ = some (.slice A0_4 l0_4.length c0_4) := (Qb BK404.out 4).trans rfl
    have u9_0 := Qc BK404.out 0
    have u9_1 := Qc BK404.out 1
    have u9_2 := Qc BK404.out 2
    have u9_3 := Qc BK404.out 3
    have u9_4 := Qc BK404.out 4
    go_wp2
    go_ret
    exact ⟨by first | rfl | (simp [errW_none, errW_some] <;> rfl) | (simp [*, errW_none, errW_some] <;> rfl), by repeat (first | (with_reducible first | exact HB.out | apply below_alloc | apply Qp | apply Qu | refine below_set ?_ GE404.out) | exact HB.out)⟩
end Go.Proofs.Ytoljagpjejpmpaa.PFnFormulas
