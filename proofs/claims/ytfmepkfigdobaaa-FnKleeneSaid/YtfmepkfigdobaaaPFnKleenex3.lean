-- Laid by wip/tools/xprint.py (a program of this session over the kit's print). Not trusted: Lean checks it.
import Derived.Test.YtfmepkfigdobaaaPFnKleenex0
import Derived.Test.YtfmepkfigdobaaaPFnKleenex1
import Derived.Test.YtfmepkfigdobaaaPFnKleenex2
namespace Go.Proofs.Ytfmepkfigdobaaa.PFnKleene
open Go.RowKit Go.Proofs.YtfmepkfigdobaaaW.PrintWords Go.Proofs.YtfmepkfigdobaaaW.PrintLast Go.Proofs.YtfmepkfigdobaaaW.PrintMore
attribute [local go_sem] max2_int min2_int max_two min_two max_three min_three max_four min_four   -- for this text's walks alone
set_option linter.unusedVariables false
set_option linter.unusedSimpArgs false

/-! ### laws_FnKleene: function 4 -/
mutual
def laws_FnKleene.j0 : Nat → Int → Int → Int → Int → Bool → Option (Bool)
  | 0, _, _, _, _, _ => none
  | k + 1, x3, x4, x5, x6, x73 => if x73 = true then (some false) else ((impl_IsTruth.f x3).bind fun t185 => (if t185 = true then ((impl_IsTruth.f x4).bind fun t186 => (if t186 = true then ((impl_AndOf.f x3 x4).bind fun t187 => ((impl_NotOf.f t187).bind fun t188 => ((impl_NotOf.f x3).bind fun t189 => ((impl_NotOf.f x4).bind fun t190 => ((impl_OrOf.f t189 t190).bind fun t191 => (if t188 = t191 then ((impl_AndOf.f x3 x4).bind fun t192 => ((impl_AndOf.f x4 x3).bind fun t193 => (if t192 = t193 then ((impl_JoinOf.f x3 x4).bind fun t194 => ((impl_JoinOf.f x4 x3).bind fun t195 => (laws_FnKleene.j1 k x3 x4 x5 x6 (t194 != t195)))) else (laws_FnKleene.j1 k x3 x4 x5 x6 true)))) else (laws_FnKleene.j1 k x3 x4 x5 x6 true))))))) else ((impl_AndOf.f x3 x4).bind fun t196 => ((impl_AndOf.f x4 x3).bind fun t197 => (if t196 = t197 then ((impl_JoinOf.f x3 x4).bind fun t198 => ((impl_JoinOf.f x4 x3).bind fun t199 => (laws_FnKleene.j1 k x3 x4 x5 x6 (t198 != t199)))) else (laws_FnKleene.j1 k x3 x4 x5 x6 true)))))) else ((impl_AndOf.f x3 x4).bind fun t200 => ((impl_AndOf.f x4 x3).bind fun t201 => (if t200 = t201 then ((impl_JoinOf.f x3 x4).bind fun t202 => ((impl_JoinOf.f x4 x3).bind fun t203 => (laws_FnKleene.j1 k x3 x4 x5 x6 (t202 != t203)))) else (laws_FnKleene.j1 k x3 x4 x5 x6 true))))))
def laws_FnKleene.j1 : Nat → Int → Int → Int → Int → Bool → Option (Bool)
  | 0, _, _, _, _, _ => none
  | k + 1, x3, x4, x5, x6, x109 => if x109 = true then (some false) else ((impl_IsTruth.f x3).bind fun t204 => (if t204 = true then ((impl_IsWithin.f x5 x6).bind fun t205 => (laws_FnKleene.j2 k x3 x4 x5 x6 (!t205))) else (laws_FnKleene.j2 k x3 x4 x5 x6 true)))
def laws_FnKleene.j2 : Nat → Int → Int → Int → Int → Bool → Option (Bool)
  | 0, _, _, _, _, _ => none
  | k + 1, x3, x4, x5, x6, x118 => if x118 = true then (some true) else ((impl_AndOf.f x3 x5).bind fun t206 => ((impl_AndOf.f x3 x6).bind fun t207 => ((impl_IsWithin.f t206 t207).bind fun t208 => (if t208 = true then ((impl_OrOf.f x3 x5).bind fun t209 => ((impl_OrOf.f x3 x6).bind fun t210 => ((impl_IsWithin.f t209 t210).bind fun t211 => (if t211 = true then ((impl_NotOf.f x5).bind fun t212 => ((impl_NotOf.f x6).bind fun t213 => ((impl_IsWithin.f t212 t213).bind fun t214 => (if t214 = true then ((impl_IsTruth.f x4).bind fun t215 => (if t215 = true then ((impl_JoinOf.f x3 x4).bind fun t216 => ((impl_IsWithin.f x3 t216).bind fun t217 => (if t217 = true then ((impl_JoinOf.f x3 x4).bind fun t218 => ((impl_IsWithin.f x4 t218).bind fun t219 => (some t219))) else (some false)))) else (some true))) else (some false))))) else (some false))))) else (some false)))))
end
def laws_FnKleene.f (k : Nat) (l0 : List Int) : Option (Bool) := (laws_big.f l0).bind fun t166 => (if t166 = true then (some true) else ((spec_DrawAndOf.f k l0).bind fun bt167 => ((spec_DrawIsWithin.f k l0).bind fun bt169 => ((impl_AndOf.f bt167.1 bt167.2).bind fun t171 => ((spec_AndOf.f bt167.1 bt167.2).bind fun t172 => (if t171 = t172 then ((impl_OrOf.f bt167.1 bt167.2).bind fun t173 => ((spec_OrOf.f bt167.1 bt167.2).bind fun t174 => (if t173 = t174 then ((impl_NotOf.f bt167.1).bind fun t175 => ((spec_NotOf.f bt167.1).bind fun t176 => (if t175 = t176 then ((impl_JoinOf.f bt167.1 bt167.2).bind fun t177 => ((spec_JoinOf.f bt167.1 bt167.2).bind fun t178 => (if t177 = t178 then ((impl_IsWithin.f bt169.1 bt169.2).bind fun t179 => ((spec_IsWithin.f bt169.1 bt169.2).bind fun t180 => (if (t179 != t180) = true then (laws_FnKleene.j0 k bt167.1 bt167.2 bt169.1 bt169.2 true) else ((impl_TruthText.f bt167.1).bind fun t181 => ((spec_TruthText.f bt167.1).bind fun t182 => (if t181.toList = t182.toList then ((impl_IsTruth.f bt167.1).bind fun t183 => ((spec_IsTruth.f bt167.1).bind fun t184 => (laws_FnKleene.j0 k bt167.1 bt167.2 bt169.1 bt169.2 (t183 != t184)))) else (laws_FnKleene.j0 k bt167.1 bt167.2 bt169.1 bt169.2 true))))))) else (laws_FnKleene.j0 k bt167.1 bt167.2 bt169.1 bt169.2 true)))) else (laws_FnKleene.j0 k bt167.1 bt167.2 bt169.1 bt169.2 true)))) else (laws_FnKleene.j0 k bt167.1 bt167.2 bt169.1 bt169.2 true)))) else (laws_FnKleene.j0 k bt167.1 bt167.2 bt169.1 bt169.2 true)))))))
theorem laws_FnKleene.mono_l : ∀ k, (∀ y0 y1 y2 y3 y4, LeO (laws_FnKleene.j0 k y0 y1 y2 y3 y4) (laws_FnKleene.j0 (k + 1) y0 y1 y2 y3 y4)) ∧ (∀ y0 y1 y2 y3 y4, LeO (laws_FnKleene.j1 k y0 y1 y2 y3 y4) (laws_FnKleene.j1 (k + 1) y0 y1 y2 y3 y4)) ∧ (∀ y0 y1 y2 y3 y4, LeO (laws_FnKleene.j2 k y0 y1 y2 y3 y4) (laws_FnKleene.j2 (k + 1) y0 y1 y2 y3 y4))
  | 0 => ⟨fun _ _ _ _ _ r h => by simp [laws_FnKleene.j0] at h, fun _ _ _ _ _ r h => by simp [laws_FnKleene.j1] at h, fun _ _ _ _ _ r h => by simp [laws_FnKleene.j2] at h⟩
  | k + 1 => by
    obtain ⟨ih0, ih1, ih2⟩ := laws_FnKleene.mono_l k
    refine ⟨?_, ?_, ?_⟩
    · intro y0 y1 y2 y3 y4
      unfold laws_FnKleene.j0
      repeat' first
      | (with_reducible exact ih0 _ _ _ _ _)
      | (with_reducible exact ih1 _ _ _ _ _)
      | (with_reducible exact ih2 _ _ _ _ _)
      | (with_reducible exact spec_DrawAndOf.mono _ _)
      | (with_reducible exact spec_DrawIsWithin.mono _ _)
      | (with_reducible exact LeO.refl _)
      | (with_reducible exact LeO.none _)
      | (with_reducible refine LeO.ite ?_ ?_)
      | (with_reducible refine LeO.bind ?_ (fun _ => ?_))
      | exact ih0 _ _ _ _ _
      | exact ih1 _ _ _ _ _
      | exact ih2 _ _ _ _ _
      | exact spec_DrawAndOf.mono _ _
      | exact spec_DrawIsWithin.mono _ _
      | exact LeO.none _
      | refine LeO.ite ?_ ?_
      | refine LeO.bind ?_ (fun _ => ?_)
    · intro y0 y1 y2 y3 y4
      unfold laws_FnKleene.j1
      repeat' first
      | (with_reducible exact ih0 _ _ _ _ _)
      | (with_reducible exact ih1 _ _ _ _ _)
      | (with_reducible exact ih2 _ _ _ _ _)
      | (with_reducible exact spec_DrawAndOf.mono _ _)
      | (with_reducible exact spec_DrawIsWithin.mono _ _)
      | (with_reducible exact LeO.refl _)
      | (with_reducible exact LeO.none _)
      | (with_reducible refine LeO.ite ?_ ?_)
      | (with_reducible refine LeO.bind ?_ (fun _ => ?_))
      | exact ih0 _ _ _ _ _
      | exact ih1 _ _ _ _ _
      | exact ih2 _ _ _ _ _
      | exact spec_DrawAndOf.mono _ _
      | exact spec_DrawIsWithin.mono _ _
      | exact LeO.none _
      | refine LeO.ite ?_ ?_
      | refine LeO.bind ?_ (fun _ => ?_)
    · intro y0 y1 y2 y3 y4
      unfold laws_FnKleene.j2
      repeat' first
      | (with_reducible exact ih0 _ _ _ _ _)
      | (with_reducible exact ih1 _ _ _ _ _)
      | (with_reducible exact ih2 _ _ _ _ _)
      | (with_reducible exact spec_DrawAndOf.mono _ _)
      | (with_reducible exact spec_DrawIsWithin.mono _ _)
      | (with_reducible exact LeO.refl _)
      | (with_reducible exact LeO.none _)
      | (with_reducible refine LeO.ite ?_ ?_)
      | (with_reducible refine LeO.bind ?_ (fun _ => ?_))
      | exact ih0 _ _ _ _ _
      | exact ih1 _ _ _ _ _
      | exact ih2 _ _ _ _ _
      | exact spec_DrawAndOf.mono _ _
      | exact spec_DrawIsWithin.mono _ _
      | exact LeO.none _
      | refine LeO.ite ?_ ?_
      | refine LeO.bind ?_ (fun _ => ?_)
theorem laws_FnKleene.mono : ∀ a0 k, LeO (laws_FnKleene.f k a0) (laws_FnKleene.f (k + 1) a0) := by
  intro a0 k
  obtain ⟨ih0, ih1, ih2⟩ := laws_FnKleene.mono_l k
  unfold laws_FnKleene.f
  repeat' first
      | (with_reducible exact ih0 _ _ _ _ _)
      | (with_reducible exact ih1 _ _ _ _ _)
      | (with_reducible exact ih2 _ _ _ _ _)
      | (with_reducible exact spec_DrawAndOf.mono _ _)
      | (with_reducible exact spec_DrawIsWithin.mono _ _)
      | (with_reducible exact LeO.refl _)
      | (with_reducible exact LeO.none _)
      | (with_reducible refine LeO.ite ?_ ?_)
      | (with_reducible refine LeO.bind ?_ (fun _ => ?_))
      | exact ih0 _ _ _ _ _
      | exact ih1 _ _ _ _ _
      | exact ih2 _ _ _ _ _
      | exact spec_DrawAndOf.mono _ _
      | exact spec_DrawIsWithin.mono _ _
      | exact LeO.none _
      | refine LeO.ite ?_ ?_
      | refine LeO.bind ?_ (fun _ => ?_)
set_option maxHeartbeats 8000000 in
set_option maxRecDepth 100000 in
theorem laws_FnKleene.calls (k : Nat) (A0 : Option Addr) (c0 : Nat) (l0 : List Int) (r : Bool) (w : World) (hr0 : Kd.C (Kd.int .u8) w A0 l0.length l0) (hc0 : l0.length ≤ c0) (hrt : Aside0 (r = true)) (h : laws_FnKleene.f k l0 = some r) :
    Calls Try.prog 4 #[.slice A0 l0.length c0] w fun e w' => e = .returned (.bool r) ∧ Below w.heap.size w w' := by
  have HR0 := Aside0.mk hr0
  have HC0 := Aside0.mk hc0
  clear hr0 hc0
  have HB := Aside0.mk (Below.refl w.heap.size w)
  have H : ((laws_big.f l0).bind fun t166 => (if t166 = true then (some true) else ((spec_DrawAndOf.f k l0).bind fun bt167 => ((spec_DrawIsWithin.f k l0).bind fun bt169 => ((impl_AndOf.f bt167.1 bt167.2).bind fun t171 => ((spec_AndOf.f bt167.1 bt167.2).bind fun t172 => (if t171 = t172 then ((impl_OrOf.f bt167.1 bt167.2).bind fun t173 => ((spec_OrOf.f bt167.1 bt167.2).bind fun t174 => (if t173 = t174 then ((impl_NotOf.f bt167.1).bind fun t175 => ((spec_NotOf.f bt167.1).bind fun t176 => (if t175 = t176 then ((impl_JoinOf.f bt167.1 bt167.2).bind fun t177 => ((spec_JoinOf.f bt167.1 bt167.2).bind fun t178 => (if t177 = t178 then ((impl_IsWithin.f bt169.1 bt169.2).bind fun t179 => ((spec_IsWithin.f bt169.1 bt169.2).bind fun t180 => (if (t179 != t180) = true then (laws_FnKleene.j0 k bt167.1 bt167.2 bt169.1 bt169.2 true) else ((impl_TruthText.f bt167.1).bind fun t181 => ((spec_TruthText.f bt167.1).bind fun t182 => (if t181.toList = t182.toList then ((impl_IsTruth.f bt167.1).bind fun t183 => ((spec_IsTruth.f bt167.1).bind fun t184 => (laws_FnKleene.j0 k bt167.1 bt167.2 bt169.1 bt169.2 (t183 != t184)))) else (laws_FnKleene.j0 k bt167.1 bt167.2 bt169.1 bt169.2 true))))))) else (laws_FnKleene.j0 k bt167.1 bt167.2 bt169.1 bt169.2 true)))) else (laws_FnKleene.j0 k bt167.1 bt167.2 bt169.1 bt169.2 true)))) else (laws_FnKleene.j0 k bt167.1 bt167.2 bt169.1 bt169.2 true)))) else (laws_FnKleene.j0 k bt167.1 bt167.2 bt169.1 bt169.2 true)))))))) = some r := h
  clear h
  replace H := Option.bind_eq_some_iff.mp H
  obtain ⟨t166, A20, H⟩ := H
  replace H : (if t166 = true then (some true) else ((spec_DrawAndOf.f k l0).bind fun bt167 => ((spec_DrawIsWithin.f k l0).bind fun bt169 => ((impl_AndOf.f bt167.1 bt167.2).bind fun t171 => ((spec_AndOf.f bt167.1 bt167.2).bind fun t172 => (if t171 = t172 then ((impl_OrOf.f bt167.1 bt167.2).bind fun t173 => ((spec_OrOf.f bt167.1 bt167.2).bind fun t174 => (if t173 = t174 then ((impl_NotOf.f bt167.1).bind fun t175 => ((spec_NotOf.f bt167.1).bind fun t176 => (if t175 = t176 then ((impl_JoinOf.f bt167.1 bt167.2).bind fun t177 => ((spec_JoinOf.f bt167.1 bt167.2).bind fun t178 => (if t177 = t178 then ((impl_IsWithin.f bt169.1 bt169.2).bind fun t179 => ((spec_IsWithin.f bt169.1 bt169.2).bind fun t180 => (if (t179 != t180) = true then (laws_FnKleene.j0 k bt167.1 bt167.2 bt169.1 bt169.2 true) else ((impl_TruthText.f bt167.1).bind fun t181 => ((spec_TruthText.f bt167.1).bind fun t182 => (if t181.toList = t182.toList then ((impl_IsTruth.f bt167.1).bind fun t183 => ((spec_IsTruth.f bt167.1).bind fun t184 => (laws_FnKleene.j0 k bt167.1 bt167.2 bt169.1 bt169.2 (t183 != t184)))) else (laws_FnKleene.j0 k bt167.1 bt167.2 bt169.1 bt169.2 true))))))) else (laws_FnKleene.j0 k bt167.1 bt167.2 bt169.1 bt169.2 true)))) else (laws_FnKleene.j0 k bt167.1 bt167.2 bt169.1 bt169.2 true)))) else (laws_FnKleene.j0 k bt167.1 bt167.2 bt169.1 bt169.2 true)))) else (laws_FnKleene.j0 k bt167.1 bt167.2 bt169.1 bt169.2 true))))))) = some r := H
  have A2 := Aside0.mk A20
  clear A20
  by_cases c3 : t166 = true
  · subst c3
    have H1 : (some true) = some r := by rw [if_pos rfl] at H; exact H
    clear H
    have H := H1
    clear H1
    obtain rfl := Option.some.inj H
    go_enter Try.func4, Try.ntmps4
    go_wp2_with (first | ((with_reducible refine gate_callee (f := 23) rfl ?_); refine goesL_ (some 8) rfl rfl Try.func23 (by kernel_rfl) rfl #[.slice A0 l0.length c0] rfl (by (try simp only [List.map_toArray, List.map_cons, List.map_nil]); first | done | rfl | (simp only [List.length_drop, List.length_take]; rfl)) ?_; (with_reducible refine (laws_big.calls _ _ l0 true _ ?side1 ?side2 A2.out).mono ?_); (case side1 => repeat (first | exact HR0.out | (with_reducible refine Kd.C_alloc ?_ _) | (with_reducible refine Kd.C_drewN ?_ _) | (with_reducible refine Kd.C_drew ?_))); (case side2 => exact HC0.out); rintro e w' ⟨rfl, ⟨nd, rfl⟩⟩; refine ⟨_, rfl, ?_⟩))
    go_ret
    exact ⟨by first | rfl | (simp [errW_none, errW_some] <;> rfl) | (simp [*, errW_none, errW_some] <;> rfl), by repeat (first | (with_reducible first | exact HB.out | apply below_alloc | apply pw_below_drewN | apply below_drew1) | exact HB.out)⟩
  · replace c3 := Bool.eq_false_iff.mpr c3
    subst c3
    have H1 : ((spec_DrawAndOf.f k l0).bind fun bt167 => ((spec_DrawIsWithin.f k l0).bind fun bt169 => ((impl_AndOf.f bt167.1 bt167.2).bind fun t171 => ((spec_AndOf.f bt167.1 bt167.2).bind fun t172 => (if t171 = t172 then ((impl_OrOf.f bt167.1 bt167.2).bind fun t173 => ((spec_OrOf.f bt167.1 bt167.2).bind fun t174 => (if t173 = t174 then ((impl_NotOf.f bt167.1).bind fun t175 => ((spec_NotOf.f bt167.1).bind fun t176 => (if t175 = t176 then ((impl_JoinOf.f bt167.1 bt167.2).bind fun t177 => ((spec_JoinOf.f bt167.1 bt167.2).bind fun t178 => (if t177 = t178 then ((impl_IsWithin.f bt169.1 bt169.2).bind fun t179 => ((spec_IsWithin.f bt169.1 bt169.2).bind fun t180 => (if (t179 != t180) = true then (laws_FnKleene.j0 k bt167.1 bt167.2 bt169.1 bt169.2 true) else ((impl_TruthText.f bt167.1).bind fun t181 => ((spec_TruthText.f bt167.1).bind fun t182 => (if t181.toList = t182.toList then ((impl_IsTruth.f bt167.1).bind fun t183 => ((spec_IsTruth.f bt167.1).bind fun t184 => (laws_FnKleene.j0 k bt167.1 bt167.2 bt169.1 bt169.2 (t183 != t184)))) else (laws_FnKleene.j0 k bt167.1 bt167.2 bt169.1 bt169.2 true))))))) else (laws_FnKleene.j0 k bt167.1 bt167.2 bt169.1 bt169.2 true)))) else (laws_FnKleene.j0 k bt167.1 bt167.2 bt169.1 bt169.2 true)))) else (laws_FnKleene.j0 k bt167.1 bt167.2 bt169.1 bt169.2 true)))) else (laws_FnKleene.j0 k bt167.1 bt167.2 bt169.1 bt169.2 true)))))) = some r := by rw [if_neg (show ¬ (false = true) by decide)] at H; exact H
    clear H
    have H := H1
    clear H1
    replace H := Option.bind_eq_some_iff.mp H
    obtain ⟨⟨t167, t168⟩, A40, H⟩ := H
    replace H : ((spec_DrawIsWithin.f k l0).bind fun bt169 => ((impl_AndOf.f t167 t168).bind fun t171 => ((spec_AndOf.f t167 t168).bind fun t172 => (if t171 = t172 then ((impl_OrOf.f t167 t168).bind fun t173 => ((spec_OrOf.f t167 t168).bind fun t174 => (if t173 = t174 then ((impl_NotOf.f t167).bind fun t175 => ((spec_NotOf.f t167).bind fun t176 => (if t175 = t176 then ((impl_JoinOf.f t167 t168).bind fun t177 => ((spec_JoinOf.f t167 t168).bind fun t178 => (if t177 = t178 then ((impl_IsWithin.f bt169.1 bt169.2).bind fun t179 => ((spec_IsWithin.f bt169.1 bt169.2).bind fun t180 => (if (t179 != t180) = true then (laws_FnKleene.j0 k t167 t168 bt169.1 bt169.2 true) else ((impl_TruthText.f t167).bind fun t181 => ((spec_TruthText.f t167).bind fun t182 => (if t181.toList = t182.toList then ((impl_IsTruth.f t167).bind fun t183 => ((spec_IsTruth.f t167).bind fun t184 => (laws_FnKleene.j0 k t167 t168 bt169.1 bt169.2 (t183 != t184)))) else (laws_FnKleene.j0 k t167 t168 bt169.1 bt169.2 true))))))) else (laws_FnKleene.j0 k t167 t168 bt169.1 bt169.2 true)))) else (laws_FnKleene.j0 k t167 t168 bt169.1 bt169.2 true)))) else (laws_FnKleene.j0 k t167 t168 bt169.1 bt169.2 true)))) else (laws_FnKleene.j0 k t167 t168 bt169.1 bt169.2 true))))) = some r := H
    have A4 := Aside0.mk A40
    clear A40
    replace H := Option.bind_eq_some_iff.mp H
    obtain ⟨⟨t169, t170⟩, A50, H⟩ := H
    replace H : ((impl_AndOf.f t167 t168).bind fun t171 => ((spec_AndOf.f t167 t168).bind fun t172 => (if t171 = t172 then ((impl_OrOf.f t167 t168).bind fun t173 => ((spec_OrOf.f t167 t168).bind fun t174 => (if t173 = t174 then ((impl_NotOf.f t167).bind fun t175 => ((spec_NotOf.f t167).bind fun t176 => (if t175 = t176 then ((impl_JoinOf.f t167 t168).bind fun t177 => ((spec_JoinOf.f t167 t168).bind fun t178 => (if t177 = t178 then ((impl_IsWithin.f t169 t170).bind fun t179 => ((spec_IsWithin.f t169 t170).bind fun t180 => (if (t179 != t180) = true then (laws_FnKleene.j0 k t167 t168 t169 t170 true) else ((impl_TruthText.f t167).bind fun t181 => ((spec_TruthText.f t167).bind fun t182 => (if t181.toList = t182.toList then ((impl_IsTruth.f t167).bind fun t183 => ((spec_IsTruth.f t167).bind fun t184 => (laws_FnKleene.j0 k t167 t168 t169 t170 (t183 != t184)))) else (laws_FnKleene.j0 k t167 t168 t169 t170 true))))))) else (laws_FnKleene.j0 k t167 t168 t169 t170 true)))) else (laws_FnKleene.j0 k t167 t168 t169 t170 true)))) else (laws_FnKleene.j0 k t167 t168 t169 t170 true)))) else (laws_FnKleene.j0 k t167 t168 t169 t170 true)))) = some r := H
    have A5 := Aside0.mk A50
    clear A50
    have HC6 := Aside0.mk H
    clear H
    go_enter Try.func4, Try.ntmps4
    go_upto_region 5 with (first | ((with_reducible refine gate_callee (f := 23) rfl ?_); refine goesL_ (some 8) rfl rfl Try.func23 (by kernel_rfl) rfl #[.slice A0 l0.length c0] rfl (by (try simp only [List.map_toArray, List.map_cons, List.map_nil]); first | done | rfl | (simp only [List.length_drop, List.length_take]; rfl)) ?_; (with_reducible refine (laws_big.calls _ _ l0 false _ ?side1 ?side2 A2.out).mono ?_); (case side1 => repeat (first | exact HR0.out | (with_reducible refine Kd.C_alloc ?_ _) | (with_reducible refine Kd.C_drewN ?_ _) | (with_reducible refine Kd.C_drew ?_))); (case side2 => exact HC0.out); rintro e w' ⟨rfl, ⟨nd, rfl⟩⟩; refine ⟨_, rfl, ?_⟩) | ((with_reducible refine gate_callee (f := 24) rfl ?_); refine goesL_ (some 11) rfl rfl Try.func24 (by kernel_rfl) rfl #[.slice A0 l0.length c0] rfl (by (try simp only [List.map_toArray, List.map_cons, List.map_nil]); first | done | rfl | (simp only [List.length_drop, List.length_take]; rfl)) ?_; (with_reducible refine (spec_DrawAndOf.calls k _ _ l0 t167 t168 _ ?side1 ?side2 A4.out).mono ?_); (case side1 => repeat (first | exact HR0.out | (with_reducible refine Kd.C_alloc ?_ _) | (with_reducible refine Kd.C_drewN ?_ _) | (with_reducible refine Kd.C_drew ?_))); (case side2 => exact HC0.out); rintro e w7 ⟨rfl, hb⟩; refine ⟨_, rfl, ?_⟩; have n0_ := Aside0.mk (below_step (by repeat (first | (with_reducible first | exact HB.out | apply below_alloc | apply pw_below_drewN | apply below_drew1) | exact HB.out)) hb); clear HB; have HB := n0_; clear n0_; (try clear hb); (try clear hb2); (try clear hk); (try clear hi)) | ((with_reducible refine gate_callee (f := 25) rfl ?_); refine goesL_ (some 16) rfl rfl Try.func25 (by kernel_rfl) rfl #[.slice A0 l0.length c0] rfl (by (try simp only [List.map_toArray, List.map_cons, List.map_nil]); first | done | rfl | (simp only [List.length_drop, List.length_take]; rfl)) ?_; (with_reducible refine (spec_DrawIsWithin.calls k _ _ l0 t169 t170 _ ?side1 ?side2 A5.out).mono ?_); (case side1 => repeat (first | exact (Kd.C_below HR0.out HB.out) | (with_reducible refine Kd.C_alloc ?_ _) | (with_reducible refine Kd.C_drewN ?_ _) | (with_reducible refine Kd.C_drew ?_))); (case side2 => exact HC0.out); rintro e w8 ⟨rfl, hb⟩; refine ⟨_, rfl, ?_⟩; have n0_ := Aside0.mk (below_step (by repeat (first | (with_reducible first | exact HB.out | apply below_alloc | apply pw_below_drewN | apply below_drew1) | exact HB.out)) hb); clear HB; have HB := n0_; clear n0_; (try clear hb); (try clear hb2); (try clear hk); (try clear hi)))
    (try simp only [Act.put, List.setIfInBounds_toArray, List.set_cons_zero, List.set_cons_succ])
    go_cut [73] (fun v73 wc => ∃ (kq : Nat) (x73_5 : Bool), v73 = .bool x73_5 ∧ Aside0 (laws_FnKleene.j0 kq t167 t168 t169 t170 x73_5 = some r) ∧ Aside0 (kq ≤ k) ∧ Aside0 (Below w.heap.size w wc))
    case first =>
      have H := HC6.out
      clear HC6
      replace H := Option.bind_eq_some_iff.mp H
      obtain ⟨t171, A90, H⟩ := H
      replace H : ((spec_AndOf.f t167 t168).bind fun t172 => (if t171 = t172 then ((impl_OrOf.f t167 t168).bind fun t173 => ((spec_OrOf.f t167 t168).bind fun t174 => (if t173 = t174 then ((impl_NotOf.f t167).bind fun t175 => ((spec_NotOf.f t167).bind fun t176 => (if t175 = t176 then ((impl_JoinOf.f t167 t168).bind fun t177 => ((spec_JoinOf.f t167 t168).bind fun t178 => (if t177 = t178 then ((impl_IsWithin.f t169 t170).bind fun t179 => ((spec_IsWithin.f t169 t170).bind fun t180 => (if (t179 != t180) = true then (laws_FnKleene.j0 k t167 t168 t169 t170 true) else ((impl_TruthText.f t167).bind fun t181 => ((spec_TruthText.f t167).bind fun t182 => (if t181.toList = t182.toList then ((impl_IsTruth.f t167).bind fun t183 => ((spec_IsTruth.f t167).bind fun t184 => (laws_FnKleene.j0 k t167 t168 t169 t170 (t183 != t184)))) else (laws_FnKleene.j0 k t167 t168 t169 t170 true))))))) else (laws_FnKleene.j0 k t167 t168 t169 t170 true)))) else (laws_FnKleene.j0 k t167 t168 t169 t170 true)))) else (laws_FnKleene.j0 k t167 t168 t169 t170 true)))) else (laws_FnKleene.j0 k t167 t168 t169 t170 true))) = some r := H
      have A9 := Aside0.mk A90
      clear A90
      replace H := Option.bind_eq_some_iff.mp H
      obtain ⟨t172, A100, H⟩ := H
      replace H : (if t171 = t172 then ((impl_OrOf.f t167 t168).bind fun t173 => ((spec_OrOf.f t167 t168).bind fun t174 => (if t173 = t174 then ((impl_NotOf.f t167).bind fun t175 => ((spec_NotOf.f t167).bind fun t176 => (if t175 = t176 then ((impl_JoinOf.f t167 t168).bind fun t177 => ((spec_JoinOf.f t167 t168).bind fun t178 => (if t177 = t178 then ((impl_IsWithin.f t169 t170).bind fun t179 => ((spec_IsWithin.f t169 t170).bind fun t180 => (if (t179 != t180) = true then (laws_FnKleene.j0 k t167 t168 t169 t170 true) else ((impl_TruthText.f t167).bind fun t181 => ((spec_TruthText.f t167).bind fun t182 => (if t181.toList = t182.toList then ((impl_IsTruth.f t167).bind fun t183 => ((spec_IsTruth.f t167).bind fun t184 => (laws_FnKleene.j0 k t167 t168 t169 t170 (t183 != t184)))) else (laws_FnKleene.j0 k t167 t168 t169 t170 true))))))) else (laws_FnKleene.j0 k t167 t168 t169 t170 true)))) else (laws_FnKleene.j0 k t167 t168 t169 t170 true)))) else (laws_FnKleene.j0 k t167 t168 t169 t170 true)))) else (laws_FnKleene.j0 k t167 t168 t169 t170 true)) = some r := H
      have A10 := Aside0.mk A100
      clear A100
      by_cases c11 : t171 = t172
      · rw [if_pos c11] at H
        have c11b0 : (t171 == t172) = true := beq_iff_eq.mpr c11
        have c11b1 : (t171 != t172) = false := bne_eq_false_iff_eq.mpr c11
        clear c11
        (first | rw [c11b0] | (simp only [i64_w, i32_w]; rw [c11b0]) | skip)
        replace H := Option.bind_eq_some_iff.mp H
        obtain ⟨t173, A120, H⟩ := H
        replace H : ((spec_OrOf.f t167 t168).bind fun t174 => (if t173 = t174 then ((impl_NotOf.f t167).bind fun t175 => ((spec_NotOf.f t167).bind fun t176 => (if t175 = t176 then ((impl_JoinOf.f t167 t168).bind fun t177 => ((spec_JoinOf.f t167 t168).bind fun t178 => (if t177 = t178 then ((impl_IsWithin.f t169 t170).bind fun t179 => ((spec_IsWithin.f t169 t170).bind fun t180 => (if (t179 != t180) = true then (laws_FnKleene.j0 k t167 t168 t169 t170 true) else ((impl_TruthText.f t167).bind fun t181 => ((spec_TruthText.f t167).bind fun t182 => (if t181.toList = t182.toList then ((impl_IsTruth.f t167).bind fun t183 => ((spec_IsTruth.f t167).bind fun t184 => (laws_FnKleene.j0 k t167 t168 t169 t170 (t183 != t184)))) else (laws_FnKleene.j0 k t167 t168 t169 t170 true))))))) else (laws_FnKleene.j0 k t167 t168 t169 t170 true)))) else (laws_FnKleene.j0 k t167 t168 t169 t170 true)))) else (laws_FnKleene.j0 k t167 t168 t169 t170 true))) = some r := H
        have A12 := Aside0.mk A120
        clear A120
        replace H := Option.bind_eq_some_iff.mp H
        obtain ⟨t174, A130, H⟩ := H
        replace H : (if t173 = t174 then ((impl_NotOf.f t167).bind fun t175 => ((spec_NotOf.f t167).bind fun t176 => (if t175 = t176 then ((impl_JoinOf.f t167 t168).bind fun t177 => ((spec_JoinOf.f t167 t168).bind fun t178 => (if t177 = t178 then ((impl_IsWithin.f t169 t170).bind fun t179 => ((spec_IsWithin.f t169 t170).bind fun t180 => (if (t179 != t180) = true then (laws_FnKleene.j0 k t167 t168 t169 t170 true) else ((impl_TruthText.f t167).bind fun t181 => ((spec_TruthText.f t167).bind fun t182 => (if t181.toList = t182.toList then ((impl_IsTruth.f t167).bind fun t183 => ((spec_IsTruth.f t167).bind fun t184 => (laws_FnKleene.j0 k t167 t168 t169 t170 (t183 != t184)))) else (laws_FnKleene.j0 k t167 t168 t169 t170 true))))))) else (laws_FnKleene.j0 k t167 t168 t169 t170 true)))) else (laws_FnKleene.j0 k t167 t168 t169 t170 true)))) else (laws_FnKleene.j0 k t167 t168 t169 t170 true)) = some r := H
        have A13 := Aside0.mk A130
        clear A130
        by_cases c14 : t173 = t174
        · rw [if_pos c14] at H
          have c14b0 : (t173 == t174) = true := beq_iff_eq.mpr c14
          have c14b1 : (t173 != t174) = false := bne_eq_false_iff_eq.mpr c14
          clear c14
          replace H := Option.bind_eq_some_iff.mp H
          obtain ⟨t175, A150, H⟩ := H
          replace H : ((spec_NotOf.f t167).bind fun t176 => (if t175 = t176 then ((impl_JoinOf.f t167 t168).bind fun t177 => ((spec_JoinOf.f t167 t168).bind fun t178 => (if t177 = t178 then ((impl_IsWithin.f t169 t170).bind fun t179 => ((spec_IsWithin.f t169 t170).bind fun t180 => (if (t179 != t180) = true then (laws_FnKleene.j0 k t167 t168 t169 t170 true) else ((impl_TruthText.f t167).bind fun t181 => ((spec_TruthText.f t167).bind fun t182 => (if t181.toList = t182.toList then ((impl_IsTruth.f t167).bind fun t183 => ((spec_IsTruth.f t167).bind fun t184 => (laws_FnKleene.j0 k t167 t168 t169 t170 (t183 != t184)))) else (laws_FnKleene.j0 k t167 t168 t169 t170 true))))))) else (laws_FnKleene.j0 k t167 t168 t169 t170 true)))) else (laws_FnKleene.j0 k t167 t168 t169 t170 true))) = some r := H
          have A15 := Aside0.mk A150
          clear A150
          replace H := Option.bind_eq_some_iff.mp H
          obtain ⟨t176, A160, H⟩ := H
          replace H : (if t175 = t176 then ((impl_JoinOf.f t167 t168).bind fun t177 => ((spec_JoinOf.f t167 t168).bind fun t178 => (if t177 = t178 then ((impl_IsWithin.f t169 t170).bind fun t179 => ((spec_IsWithin.f t169 t170).bind fun t180 => (if (t179 != t180) = true then (laws_FnKleene.j0 k t167 t168 t169 t170 true) else ((impl_TruthText.f t167).bind fun t181 => ((spec_TruthText.f t167).bind fun t182 => (if t181.toList = t182.toList then ((impl_IsTruth.f t167).bind fun t183 => ((spec_IsTruth.f t167).bind fun t184 => (laws_FnKleene.j0 k t167 t168 t169 t170 (t183 != t184)))) else (laws_FnKleene.j0 k t167 t168 t169 t170 true))))))) else (laws_FnKleene.j0 k t167 t168 t169 t170 true)))) else (laws_FnKleene.j0 k t167 t168 t169 t170 true)) = some r := H
          have A16 := Aside0.mk A160
          clear A160
          by_cases c17 : t175 = t176
          · rw [if_pos c17] at H
            have c17b0 : (t175 == t176) = true := beq_iff_eq.mpr c17
            have c17b1 : (t175 != t176) = false := bne_eq_false_iff_eq.mpr c17
            clear c17
            replace H := Option.bind_eq_some_iff.mp H
            obtain ⟨t177, A180, H⟩ := H
            replace H : ((spec_JoinOf.f t167 t168).bind fun t178 => (if t177 = t178 then ((impl_IsWithin.f t169 t170).bind fun t179 => ((spec_IsWithin.f t169 t170).bind fun t180 => (if (t179 != t180) = true then (laws_FnKleene.j0 k t167 t168 t169 t170 true) else ((impl_TruthText.f t167).bind fun t181 => ((spec_TruthText.f t167).bind fun t182 => (if t181.toList = t182.toList then ((impl_IsTruth.f t167).bind fun t183 => ((spec_IsTruth.f t167).bind fun t184 => (laws_FnKleene.j0 k t167 t168 t169 t170 (t183 != t184)))) else (laws_FnKleene.j0 k t167 t168 t169 t170 true))))))) else (laws_FnKleene.j0 k t167 t168 t169 t170 true))) = some r := H
            have A18 := Aside0.mk A180
            clear A180
            replace H := Option.bind_eq_some_iff.mp H
            obtain ⟨t178, A190, H⟩ := H
            replace H : (if t177 = t178 then ((impl_IsWithin.f t169 t170).bind fun t179 => ((spec_IsWithin.f t169 t170).bind fun t180 => (if (t179 != t180) = true then (laws_FnKleene.j0 k t167 t168 t169 t170 true) else ((impl_TruthText.f t167).bind fun t181 => ((spec_TruthText.f t167).bind fun t182 => (if t181.toList = t182.toList then ((impl_IsTruth.f t167).bind fun t183 => ((spec_IsTruth.f t167).bind fun t184 => (laws_FnKleene.j0 k t167 t168 t169 t170 (t183 != t184)))) else (laws_FnKleene.j0 k t167 t168 t169 t170 true))))))) else (laws_FnKleene.j0 k t167 t168 t169 t170 true)) = some r := H
            have A19 := Aside0.mk A190
            clear A190
            by_cases c20 : t177 = t178
            · rw [if_pos c20] at H
              have c20b0 : (t177 == t178) = true := beq_iff_eq.mpr c20
              have c20b1 : (t177 != t178) = false := bne_eq_false_iff_eq.mpr c20
              clear c20
              replace H := Option.bind_eq_some_iff.mp H
              obtain ⟨t179, A210, H⟩ := H
              replace H : ((spec_IsWithin.f t169 t170).bind fun t180 => (if (t179 != t180) = true then (laws_FnKleene.j0 k t167 t168 t169 t170 true) else ((impl_TruthText.f t167).bind fun t181 => ((spec_TruthText.f t167).bind fun t182 => (if t181.toList = t182.toList then ((impl_IsTruth.f t167).bind fun t183 => ((spec_IsTruth.f t167).bind fun t184 => (laws_FnKleene.j0 k t167 t168 t169 t170 (t183 != t184)))) else (laws_FnKleene.j0 k t167 t168 t169 t170 true)))))) = some r := H
              have A21 := Aside0.mk A210
              clear A210
              replace H := Option.bind_eq_some_iff.mp H
              obtain ⟨t180, A220, H⟩ := H
              replace H : (if (t179 != t180) = true then (laws_FnKleene.j0 k t167 t168 t169 t170 true) else ((impl_TruthText.f t167).bind fun t181 => ((spec_TruthText.f t167).bind fun t182 => (if t181.toList = t182.toList then ((impl_IsTruth.f t167).bind fun t183 => ((spec_IsTruth.f t167).bind fun t184 => (laws_FnKleene.j0 k t167 t168 t169 t170 (t183 != t184)))) else (laws_FnKleene.j0 k t167 t168 t169 t170 true))))) = some r := H
              have A22 := Aside0.mk A220
              clear A220
              by_cases c23 : (t179 != t180) = true
              · rw [if_pos c23] at H
                have c23b0 : (t179 != t180) = true := c23
                (try (have c23b1 : decide (t179 = t180) = false := by simpa using c23))
                (try (have c23b2 : (t179 == t180) = false := by simpa using c23))
                (try (have c23b3 : ¬ (t179 = t180) := by simpa using c23))
                clear c23
                have H' := Aside0.mk H
                clear H
                go_wp2_with (first | ((with_reducible refine gate_callee (f := 26) rfl ?_); refine goesL_ (some 21) rfl rfl Try.func26 (by kernel_rfl) rfl #[.int .i64 t167, .int .i64 t168] rfl (by (try simp only [List.map_toArray, List.map_cons, List.map_nil]); first | done | rfl | (simp only [List.length_drop, List.length_take]; rfl)) ?_; (with_reducible refine (impl_AndOf.calls t167 t168 t171 _ A9.out).mono ?_); rintro e w24 ⟨rfl, hb⟩; refine ⟨_, rfl, ?_⟩; have n0_ := Aside0.mk (below_step (by repeat (first | (with_reducible first | exact HB.out | apply below_alloc | apply pw_below_drewN | apply below_drew1) | exact HB.out)) hb); clear HB; have HB := n0_; clear n0_; (try clear hb); (try clear hb2); (try clear hk); (try clear hi)) | ((with_reducible refine gate_callee (f := 27) rfl ?_); refine goesL_ (some 24) rfl rfl Try.func27 (by kernel_rfl) rfl #[.int .i64 t167, .int .i64 t168] rfl (by (try simp only [List.map_toArray, List.map_cons, List.map_nil]); first | done | rfl | (simp only [List.length_drop, List.length_take]; rfl)) ?_; (with_reducible refine (spec_AndOf.calls t167 t168 t172 _ A10.out).mono ?_); rintro e w' ⟨rfl, ⟨nd, rfl⟩⟩; refine ⟨_, rfl, ?_⟩) | (go_at_call 28; (with_reducible refine (impl_OrOf.calls t167 t168 t173 _ A12.out).mono ?_); rintro e w25 ⟨rfl, hb⟩; have n0_ := Aside0.mk (below_step (by repeat (first | (with_reducible first | exact HB.out | apply below_alloc | apply pw_below_drewN | apply below_drew1) | exact HB.out)) hb); clear HB; have HB := n0_; clear n0_; (try clear hb); (try clear hb2); (try clear hk); (try clear hi)) | (go_at_call 29; (with_reducible refine (spec_OrOf.calls t167 t168 t174 _ A13.out).mono ?_); rintro e w' ⟨rfl, ⟨nd, rfl⟩⟩) | (go_at_call 30; (with_reducible refine (impl_NotOf.calls t167 t175 _ A15.out).mono ?_); rintro e w' ⟨rfl, ⟨nd, rfl⟩⟩) | (go_at_call 31; (with_reducible refine (spec_NotOf.calls t167 t176 _ A16.out).mono ?_); rintro e w' ⟨rfl, ⟨nd, rfl⟩⟩) | (go_at_call 32; (with_reducible refine (impl_JoinOf.calls t167 t168 t177 _ A18.out).mono ?_); rintro e w' ⟨rfl, ⟨nd, rfl⟩⟩) | (go_at_call 33; (with_reducible refine (spec_JoinOf.calls t167 t168 t178 _ A19.out).mono ?_); rintro e w' ⟨rfl, ⟨nd, rfl⟩⟩) | (go_at_call 34; (with_reducible refine (impl_IsWithin.calls t169 t170 t179 _ A21.out).mono ?_); rintro e w' ⟨rfl, ⟨nd, rfl⟩⟩) | (go_at_call 35; (with_reducible refine (spec_IsWithin.calls t169 t170 t180 _ A22.out).mono ?_); rintro e w' ⟨rfl, ⟨nd, rfl⟩⟩))
                go_meet
                case rel => exact ⟨_, (true), (by first | rfl | (simp; done) | (simp [*]; done)), H', ⟨by first | omega | exact Nat.le_refl _⟩, ⟨by repeat (first | (with_reducible first | exact HB.out | apply below_alloc | apply pw_below_drewN | apply below_drew1) | exact HB.out)⟩⟩
              · rw [if_neg c23] at H
                have c23b0 : (t179 != t180) = false := by simpa using c23
                (try (have c23b1 : decide (t179 = t180) = true := by simpa using c23))
                (try (have c23b2 : (t179 == t180) = true := by simpa using c23))
                clear c23
                replace H := Option.bind_eq_some_iff.mp H
                obtain ⟨t181, A260, H⟩ := H
                replace H : ((spec_TruthText.f t167).bind fun t182 => (if t181.toList = t182.toList then ((impl_IsTruth.f t167).bind fun t183 => ((spec_IsTruth.f t167).bind fun t184 => (laws_FnKleene.j0 k t167 t168 t169 t170 (t183 != t184)))) else (laws_FnKleene.j0 k t167 t168 t169 t170 true))) = some r := H
                have A26 := Aside0.mk A260
                clear A260
                replace H := Option.bind_eq_some_iff.mp H
                obtain ⟨t182, A270, H⟩ := H
                replace H : (if t181.toList = t182.toList then ((impl_IsTruth.f t167).bind fun t183 => ((spec_IsTruth.f t167).bind fun t184 => (laws_FnKleene.j0 k t167 t168 t169 t170 (t183 != t184)))) else (laws_FnKleene.j0 k t167 t168 t169 t170 true)) = some r := H
                have A27 := Aside0.mk A270
                clear A270
                by_cases c28 : t181.toList = t182.toList
                · rw [if_pos c28] at H
                  have c28b0 : (t181.toList == t182.toList) = true := beq_iff_eq.mpr c28
                  have c28b1 : (t181.toList != t182.toList) = false := bne_eq_false_iff_eq.mpr c28
                  clear c28
                  replace H := Option.bind_eq_some_iff.mp H
                  obtain ⟨t183, A290, H⟩ := H
                  replace H : ((spec_IsTruth.f t167).bind fun t184 => (laws_FnKleene.j0 k t167 t168 t169 t170 (t183 != t184))) = some r := H
                  have A29 := Aside0.mk A290
                  clear A290
                  replace H := Option.bind_eq_some_iff.mp H
                  obtain ⟨t184, A300, H⟩ := H
                  replace H : (laws_FnKleene.j0 k t167 t168 t169 t170 (t183 != t184)) = some r := H
                  have A30 := Aside0.mk A300
                  clear A300
                  have H' := Aside0.mk H
                  clear H
                  go_wp2_with (first | ((with_reducible refine gate_callee (f := 26) rfl ?_); refine goesL_ (some 21) rfl rfl Try.func26 (by kernel_rfl) rfl #[.int .i64 t167, .int .i64 t168] rfl (by (try simp only [List.map_toArray, List.map_cons, List.map_nil]); first | done | rfl | (simp only [List.length_drop, List.length_take]; rfl)) ?_; (with_reducible refine (impl_AndOf.calls t167 t168 t171 _ A9.out).mono ?_); rintro e w31 ⟨rfl, hb⟩; refine ⟨_, rfl, ?_⟩; have n0_ := Aside0.mk (below_step (by repeat (first | (with_reducible first | exact HB.out | apply below_alloc | apply pw_below_drewN | apply below_drew1) | exact HB.out)) hb); clear HB; have HB := n0_; clear n0_; (try clear hb); (try clear hb2); (try clear hk); (try clear hi)) | ((with_reducible refine gate_callee (f := 27) rfl ?_); refine goesL_ (some 24) rfl rfl Try.func27 (by kernel_rfl) rfl #[.int .i64 t167, .int .i64 t168] rfl (by (try simp only [List.map_toArray, List.map_cons, List.map_nil]); first | done | rfl | (simp only [List.length_drop, List.length_take]; rfl)) ?_; (with_reducible refine (spec_AndOf.calls t167 t168 t172 _ A10.out).mono ?_); rintro e w' ⟨rfl, ⟨nd, rfl⟩⟩; refine ⟨_, rfl, ?_⟩) | (go_at_call 28; (with_reducible refine (impl_OrOf.calls t167 t168 t173 _ A12.out).mono ?_); rintro e w32 ⟨rfl, hb⟩; have n0_ := Aside0.mk (below_step (by repeat (first | (with_reducible first | exact HB.out | apply below_alloc | apply pw_below_drewN | apply below_drew1) | exact HB.out)) hb); clear HB; have HB := n0_; clear n0_; (try clear hb); (try clear hb2); (try clear hk); (try clear hi)) | (go_at_call 29; (with_reducible refine (spec_OrOf.calls t167 t168 t174 _ A13.out).mono ?_); rintro e w' ⟨rfl, ⟨nd, rfl⟩⟩) | (go_at_call 30; (with_reducible refine (impl_NotOf.calls t167 t175 _ A15.out).mono ?_); rintro e w' ⟨rfl, ⟨nd, rfl⟩⟩) | (go_at_call 31; (with_reducible refine (spec_NotOf.calls t167 t176 _ A16.out).mono ?_); rintro e w' ⟨rfl, ⟨nd, rfl⟩⟩) | (go_at_call 32; (with_reducible refine (impl_JoinOf.calls t167 t168 t177 _ A18.out).mono ?_); rintro e w' ⟨rfl, ⟨nd, rfl⟩⟩) | (go_at_call 33; (with_reducible refine (spec_JoinOf.calls t167 t168 t178 _ A19.out).mono ?_); rintro e w' ⟨rfl, ⟨nd, rfl⟩⟩) | (go_at_call 34; (with_reducible refine (impl_IsWithin.calls t169 t170 t179 _ A21.out).mono ?_); rintro e w' ⟨rfl, ⟨nd, rfl⟩⟩) | (go_at_call 35; (with_reducible refine (spec_IsWithin.calls t169 t170 t180 _ A22.out).mono ?_); rintro e w' ⟨rfl, ⟨nd, rfl⟩⟩) | (go_at_call 36; (with_reducible refine (impl_TruthText.calls t167 t181 _ A26.out).mono ?_); rintro e w' ⟨rfl, ⟨nd, rfl⟩⟩) | (go_at_call 37; (with_reducible refine (spec_TruthText.calls t167 t182 _ A27.out).mono ?_); rintro e w' ⟨rfl, ⟨nd, rfl⟩⟩) | (go_at_call 38; (with_reducible refine (impl_IsTruth.calls t167 t183 _ A29.out).mono ?_); rintro e w' ⟨rfl, ⟨nd, rfl⟩⟩) | (go_at_call 39; (with_reducible refine (spec_IsTruth.calls t167 t184 _ A30.out).mono ?_); rintro e w' ⟨rfl, ⟨nd, rfl⟩⟩))
                  go_meet
                  case rel => exact ⟨_, ((t183 != t184)), (by first | rfl | (simp; done) | (simp [*]; done)), H', ⟨by first | omega | exact Nat.le_refl _⟩, ⟨by repeat (first | (with_reducible first | exact HB.out | apply below_alloc | apply pw_below_drewN | apply below_drew1) | exact HB.out)⟩⟩
                · rw [if_neg c28] at H
                  have c28b0 : (t181.toList == t182.toList) = false := beq_eq_false_iff_ne.mpr c28
                  have c28b1 : (t181.toList != t182.toList) = true := bne_iff_ne.mpr c28
                  have H' := Aside0.mk H
                  clear H
                  go_wp2_with (first | ((with_reducible refine gate_callee (f := 26) rfl ?_); refine goesL_ (some 21) rfl rfl Try.func26 (by kernel_rfl) rfl #[.int .i64 t167, .int .i64 t168] rfl (by (try simp only [List.map_toArray, List.map_cons, List.map_nil]); first | done | rfl | (simp only [List.length_drop, List.length_take]; rfl)) ?_; (with_reducible refine (impl_AndOf.calls t167 t168 t171 _ A9.out).mono ?_); rintro e w33 ⟨rfl, hb⟩; refine ⟨_, rfl, ?_⟩; have n0_ := Aside0.mk (below_step (by repeat (first | (with_reducible first | exact HB.out | apply below_alloc | apply pw_below_drewN | apply below_drew1) | exact HB.out)) hb); clear HB; have HB := n0_; clear n0_; (try clear hb); (try clear hb2); (try clear hk); (try clear hi)) | ((with_reducible refine gate_callee (f := 27) rfl ?_); refine goesL_ (some 24) rfl rfl Try.func27 (by kernel_rfl) rfl #[.int .i64 t167, .int .i64 t168] rfl (by (try simp only [List.map_toArray, List.map_cons, List.map_nil]); first | done | rfl | (simp only [List.length_drop, List.length_take]; rfl)) ?_; (with_reducible refine (spec_AndOf.calls t167 t168 t172 _ A10.out).mono ?_); rintro e w' ⟨rfl, ⟨nd, rfl⟩⟩; refine ⟨_, rfl, ?_⟩) | (go_at_call 28; (with_reducible refine (impl_OrOf.calls t167 t168 t173 _ A12.out).mono ?_); rintro e w34 ⟨rfl, hb⟩; have n0_ := Aside0.mk (below_step (by repeat (first | (with_reducible first | exact HB.out | apply below_alloc | apply pw_below_drewN | apply below_drew1) | exact HB.out)) hb); clear HB; have HB := n0_; clear n0_; (try clear hb); (try clear hb2); (try clear hk); (try clear hi)) | (go_at_call 29; (with_reducible refine (spec_OrOf.calls t167 t168 t174 _ A13.out).mono ?_); rintro e w' ⟨rfl, ⟨nd, rfl⟩⟩) | (go_at_call 30; (with_reducible refine (impl_NotOf.calls t167 t175 _ A15.out).mono ?_); rintro e w' ⟨rfl, ⟨nd, rfl⟩⟩) | (go_at_call 31; (with_reducible refine (spec_NotOf.calls t167 t176 _ A16.out).mono ?_); rintro e w' ⟨rfl, ⟨nd, rfl⟩⟩) | (go_at_call 32; (with_reducible refine (impl_JoinOf.calls t167 t168 t177 _ A18.out).mono ?_); rintro e w' ⟨rfl, ⟨nd, rfl⟩⟩) | (go_at_call 33; (with_reducible refine (spec_JoinOf.calls t167 t168 t178 _ A19.out).mono ?_); rintro e w' ⟨rfl, ⟨nd, rfl⟩⟩) | (go_at_call 34; (with_reducible refine (impl_IsWithin.calls t169 t170 t179 _ A21.out).mono ?_); rintro e w' ⟨rfl, ⟨nd, rfl⟩⟩) | (go_at_call 35; (with_reducible refine (spec_IsWithin.calls t169 t170 t180 _ A22.out).mono ?_); rintro e w' ⟨rfl, ⟨nd, rfl⟩⟩) | (go_at_call 36; (with_reducible refine (impl_TruthText.calls t167 t181 _ A26.out).mono ?_); rintro e w' ⟨rfl, ⟨nd, rfl⟩⟩) | (go_at_call 37; (with_reducible refine (spec_TruthText.calls t167 t182 _ A27.out).mono ?_); rintro e w' ⟨rfl, ⟨nd, rfl⟩⟩))
                  go_meet
                  case rel => exact ⟨_, (true), (by first | rfl | (simp; done) | (simp [*]; done)), H', ⟨by first | omega | exact Nat.le_refl _⟩, ⟨by repeat (first | (with_reducible first | exact HB.out | apply below_alloc | apply pw_below_drewN | apply below_drew1) | exact HB.out)⟩⟩
            · rw [if_neg c20] at H
              have c20b0 : (t177 == t178) = false := beq_eq_false_iff_ne.mpr c20
              have c20b1 : (t177 != t178) = true := bne_iff_ne.mpr c20
              have H' := Aside0.mk H
              clear H
              go_wp2_with (first | ((with_reducible refine gate_callee (f := 26) rfl ?_); refine goesL_ (some 21) rfl rfl Try.func26 (by kernel_rfl) rfl #[.int .i64 t167, .int .i64 t168] rfl (by (try simp only [List.map_toArray, List.map_cons, List.map_nil]); first | done | rfl | (simp only [List.length_drop, List.length_take]; rfl)) ?_; (with_reducible refine (impl_AndOf.calls t167 t168 t171 _ A9.out).mono ?_); rintro e w35 ⟨rfl, hb⟩; refine ⟨_, rfl, ?_⟩; have n0_ := Aside0.mk (below_step (by repeat (first | (with_reducible first | exact HB.out | apply below_alloc | apply pw_below_drewN | apply below_drew1) | exact HB.out)) hb); clear HB; have HB := n0_; clear n0_; (try clear hb); (try clear hb2); (try clear hk); (try clear hi)) | ((with_reducible refine gate_callee (f := 27) rfl ?_); refine goesL_ (some 24) rfl rfl Try.func27 (by kernel_rfl) rfl #[.int .i64 t167, .int .i64 t168] rfl (by (try simp only [List.map_toArray, List.map_cons, List.map_nil]); first | done | rfl | (simp only [List.length_drop, List.length_take]; rfl)) ?_; (with_reducible refine (spec_AndOf.calls t167 t168 t172 _ A10.out).mono ?_); rintro e w' ⟨rfl, ⟨nd, rfl⟩⟩; refine ⟨_, rfl, ?_⟩) | (go_at_call 28; (with_reducible refine (impl_OrOf.calls t167 t168 t173 _ A12.out).mono ?_); rintro e w36 ⟨rfl, hb⟩; have n0_ := Aside0.mk (below_step (by repeat (first | (with_reducible first | exact HB.out | apply below_alloc | apply pw_below_drewN | apply below_drew1) | exact HB.out)) hb); clear HB; have HB := n0_; clear n0_; (try clear hb); (try clear hb2); (try clear hk); (try clear hi)) | (go_at_call 29; (with_reducible refine (spec_OrOf.calls t167 t168 t174 _ A13.out).mono ?_); rintro e w' ⟨rfl, ⟨nd, rfl⟩⟩) | (go_at_call 30; (with_reducible refine (impl_NotOf.calls t167 t175 _ A15.out).mono ?_); rintro e w' ⟨rfl, ⟨nd, rfl⟩⟩) | (go_at_call 31; (with_reducible refine (spec_NotOf.calls t167 t176 _ A16.out).mono ?_); rintro e w' ⟨rfl, ⟨nd, rfl⟩⟩) | (go_at_call 32; (with_reducible refine (impl_JoinOf.calls t167 t168 t177 _ A18.out).mono ?_); rintro e w' ⟨rfl, ⟨nd, rfl⟩⟩) | (go_at_call 33; (with_reducible refine (spec_JoinOf.calls t167 t168 t178 _ A19.out).mono ?_); rintro e w' ⟨rfl, ⟨nd, rfl⟩⟩))
              go_meet
              case rel => exact ⟨_, (true), (by first | rfl | (simp; done) | (simp [*]; done)), H', ⟨by first | omega | exact Nat.le_refl _⟩, ⟨by repeat (first | (with_reducible first | exact HB.out | apply below_alloc | apply pw_below_drewN | apply below_drew1) | exact HB.out)⟩⟩
          · rw [if_neg c17] at H
            have c17b0 : (t175 == t176) = false := beq_eq_false_iff_ne.mpr c17
            have c17b1 : (t175 != t176) = true := bne_iff_ne.mpr c17
            have H' := Aside0.mk H
            clear H
            go_wp2_with (first | ((with_reducible refine gate_callee (f := 26) rfl ?_); refine goesL_ (some 21) rfl rfl Try.func26 (by kernel_rfl) rfl #[.int .i64 t167, .int .i64 t168] rfl (by (try simp only [List.map_toArray, List.map_cons, List.map_nil]); first | done | rfl | (simp only [List.length_drop, List.length_take]; rfl)) ?_; (with_reducible refine (impl_AndOf.calls t167 t168 t171 _ A9.out).mono ?_); rintro e w37 ⟨rfl, hb⟩; refine ⟨_, rfl, ?_⟩; have n0_ := Aside0.mk (below_step (by repeat (first | (with_reducible first | exact HB.out | apply below_alloc | apply pw_below_drewN | apply below_drew1) | exact HB.out)) hb); clear HB; have HB := n0_; clear n0_; (try clear hb); (try clear hb2); (try clear hk); (try clear hi)) | ((with_reducible refine gate_callee (f := 27) rfl ?_); refine goesL_ (some 24) rfl rfl Try.func27 (by kernel_rfl) rfl #[.int .i64 t167, .int .i64 t168] rfl (by (try simp only [List.map_toArray, List.map_cons, List.map_nil]); first | done | rfl | (simp only [List.length_drop, List.length_take]; rfl)) ?_; (with_reducible refine (spec_AndOf.calls t167 t168 t172 _ A10.out).mono ?_); rintro e w' ⟨rfl, ⟨nd, rfl⟩⟩; refine ⟨_, rfl, ?_⟩) | (go_at_call 28; (with_reducible refine (impl_OrOf.calls t167 t168 t173 _ A12.out).mono ?_); rintro e w38 ⟨rfl, hb⟩; have n0_ := Aside0.mk (below_step (by repeat (first | (with_reducible first | exact HB.out | apply below_alloc | apply pw_below_drewN | apply below_drew1) | exact HB.out)) hb); clear HB; have HB := n0_; clear n0_; (try clear hb); (try clear hb2); (try clear hk); (try clear hi)) | (go_at_call 29; (with_reducible refine (spec_OrOf.calls t167 t168 t174 _ A13.out).mono ?_); rintro e w' ⟨rfl, ⟨nd, rfl⟩⟩) | (go_at_call 30; (with_reducible refine (impl_NotOf.calls t167 t175 _ A15.out).mono ?_); rintro e w' ⟨rfl, ⟨nd, rfl⟩⟩) | (go_at_call 31; (with_reducible refine (spec_NotOf.calls t167 t176 _ A16.out).mono ?_); rintro e w' ⟨rfl, ⟨nd, rfl⟩⟩))
            go_meet
            case rel => exact ⟨_, (true), (by first | rfl | (simp; done) | (simp [*]; done)), H', ⟨by first | omega | exact Nat.le_refl _⟩, ⟨by repeat (first | (with_reducible first | exact HB.out | apply below_alloc | apply pw_below_drewN | apply below_drew1) | exact HB.out)⟩⟩
        · rw [if_neg c14] at H
          have c14b0 : (t173 == t174) = false := beq_eq_false_iff_ne.mpr c14
          have c14b1 : (t173 != t174) = true := bne_iff_ne.mpr c14
          have H' := Aside0.mk H
          clear H
          go_wp2_with (first | ((with_reducible refine gate_callee (f := 26) rfl ?_); refine goesL_ (some 21) rfl rfl Try.func26 (by kernel_rfl) rfl #[.int .i64 t167, .int .i64 t168] rfl (by (try simp only [List.map_toArray, List.map_cons, List.map_nil]); first | done | rfl | (simp only [List.length_drop, List.length_take]; rfl)) ?_; (with_reducible refine (impl_AndOf.calls t167 t168 t171 _ A9.out).mono ?_); rintro e w39 ⟨rfl, hb⟩; refine ⟨_, rfl, ?_⟩; have n0_ := Aside0.mk (below_step (by repeat (first | (with_reducible first | exact HB.out | apply below_alloc | apply pw_below_drewN | apply below_drew1) | exact HB.out)) hb); clear HB; have HB := n0_; clear n0_; (try clear hb); (try clear hb2); (try clear hk); (try clear hi)) | ((with_reducible refine gate_callee (f := 27) rfl ?_); refine goesL_ (some 24) rfl rfl Try.func27 (by kernel_rfl) rfl #[.int .i64 t167, .int .i64 t168] rfl (by (try simp only [List.map_toArray, List.map_cons, List.map_nil]); first | done | rfl | (simp only [List.length_drop, List.length_take]; rfl)) ?_; (with_reducible refine (spec_AndOf.calls t167 t168 t172 _ A10.out).mono ?_); rintro e w' ⟨rfl, ⟨nd, rfl⟩⟩; refine ⟨_, rfl, ?_⟩) | (go_at_call 28; (with_reducible refine (impl_OrOf.calls t167 t168 t173 _ A12.out).mono ?_); rintro e w40 ⟨rfl, hb⟩; have n0_ := Aside0.mk (below_step (by repeat (first | (with_reducible first | exact HB.out | apply below_alloc | apply pw_below_drewN | apply below_drew1) | exact HB.out)) hb); clear HB; have HB := n0_; clear n0_; (try clear hb); (try clear hb2); (try clear hk); (try clear hi)) | (go_at_call 29; (with_reducible refine (spec_OrOf.calls t167 t168 t174 _ A13.out).mono ?_); rintro e w' ⟨rfl, ⟨nd, rfl⟩⟩))
          go_meet
          case rel => exact ⟨_, (true), (by first | rfl | (simp; done) | (simp [*]; done)), H', ⟨by first | omega | exact Nat.le_refl _⟩, ⟨by repeat (first | (with_reducible first | exact HB.out | apply below_alloc | apply pw_below_drewN | apply below_drew1) | exact HB.out)⟩⟩
      · rw [if_neg c11] at H
        have c11b0 : (t171 == t172) = false := beq_eq_false_iff_ne.mpr c11
        have c11b1 : (t171 != t172) = true := bne_iff_ne.mpr c11
        (first | rw [c11b0] | (simp only [i64_w, i32_w]; rw [c11b0]) | skip)
        have H' := Aside0.mk H
        clear H
        go_wp2_with (first | ((with_reducible refine gate_callee (f := 26) rfl ?_); refine goesL_ (some 21) rfl rfl Try.func26 (by kernel_rfl) rfl #[.int .i64 t167, .int .i64 t168] rfl (by (try simp only [List.map_toArray, List.map_cons, List.map_nil]); first | done | rfl | (simp only [List.length_drop, List.length_take]; rfl)) ?_; (with_reducible refine (impl_AndOf.calls t167 t168 t171 _ A9.out).mono ?_); rintro e w41 ⟨rfl, hb⟩; refine ⟨_, rfl, ?_⟩; have n0_ := Aside0.mk (below_step (by repeat (first | (with_reducible first | exact HB.out | apply below_alloc | apply pw_below_drewN | apply below_drew1) | exact HB.out)) hb); clear HB; have HB := n0_; clear n0_; (try clear hb); (try clear hb2); (try clear hk); (try clear hi)) | ((with_reducible refine gate_callee (f := 27) rfl ?_); refine goesL_ (some 24) rfl rfl Try.func27 (by kernel_rfl) rfl #[.int .i64 t167, .int .i64 t168] rfl (by (try simp only [List.map_toArray, List.map_cons, List.map_nil]); first | done | rfl | (simp only [List.length_drop, List.length_take]; rfl)) ?_; (with_reducible refine (spec_AndOf.calls t167 t168 t172 _ A10.out).mono ?_); rintro e w' ⟨rfl, ⟨nd, rfl⟩⟩; refine ⟨_, rfl, ?_⟩))
        go_meet
        case rel => exact ⟨_, (true), (by first | rfl | (simp; done) | (simp [*]; done)), H', ⟨by first | omega | exact Nat.le_refl _⟩, ⟨by repeat (first | (with_reducible first | exact HB.out | apply below_alloc | apply pw_below_drewN | apply below_drew1) | exact HB.out)⟩⟩
    case rest =>
      clear HC6
      try clear c1
      try clear c2
      try clear p2
      try clear c3
      try clear c4
      try clear c11
      try clear c11b0
      try clear c11b1
      try clear c14
      try clear c14b0
      try clear c14b1
      try clear c17
      try clear c17b0
      try clear c17b1
      try clear c20
      try clear c20b0
      try clear c20b1
      try clear c23
      try clear c23b0
      try clear c23b1
      try clear c23b2
      try clear c24
      try clear c25
      try clear c26
      try clear c27
      try clear c28
      try clear c28b0
      try clear c28b1
      obtain ⟨kq, x73_5, rfl, HA, HJ5, HB⟩ := hcut
      cases kq with
      | zero => exact absurd HA.out (by simp [laws_FnKleene.j0])
      | succ kj5 =>
        have H := HA.out
        clear HA
        simp only [laws_FnKleene.j0] at H
        by_cases c42 : x73_5 = true
        · subst c42
          have H1 : (some false) = some r := by rw [if_pos rfl] at H; exact H
          clear H
          have H := H1
          clear H1
          obtain rfl := Option.some.inj H
          exact absurd hrt.out (by decide)
        · replace c42 := Bool.eq_false_iff.mpr c42
          subst c42
          have H1 : ((impl_IsTruth.f t167).bind fun t185 => (if t185 = true then ((impl_IsTruth.f t168).bind fun t186 => (if t186 = true then ((impl_AndOf.f t167 t168).bind fun t187 => ((impl_NotOf.f t187).bind fun t188 => ((impl_NotOf.f t167).bind fun t189 => ((impl_NotOf.f t168).bind fun t190 => ((impl_OrOf.f t189 t190).bind fun t191 => (if t188 = t191 then ((impl_AndOf.f t167 t168).bind fun t192 => ((impl_AndOf.f t168 t167).bind fun t193 => (if t192 = t193 then ((impl_JoinOf.f t167 t168).bind fun t194 => ((impl_JoinOf.f t168 t167).bind fun t195 => (laws_FnKleene.j1 kj5 t167 t168 t169 t170 (t194 != t195)))) else (laws_FnKleene.j1 kj5 t167 t168 t169 t170 true)))) else (laws_FnKleene.j1 kj5 t167 t168 t169 t170 true))))))) else ((impl_AndOf.f t167 t168).bind fun t196 => ((impl_AndOf.f t168 t167).bind fun t197 => (if t196 = t197 then ((impl_JoinOf.f t167 t168).bind fun t198 => ((impl_JoinOf.f t168 t167).bind fun t199 => (laws_FnKleene.j1 kj5 t167 t168 t169 t170 (t198 != t199)))) else (laws_FnKleene.j1 kj5 t167 t168 t169 t170 true)))))) else ((impl_AndOf.f t167 t168).bind fun t200 => ((impl_AndOf.f t168 t167).bind fun t201 => (if t200 = t201 then ((impl_JoinOf.f t167 t168).bind fun t202 => ((impl_JoinOf.f t168 t167).bind fun t203 => (laws_FnKleene.j1 kj5 t167 t168 t169 t170 (t202 != t203)))) else (laws_FnKleene.j1 kj5 t167 t168 t169 t170 true)))))) = some r := by rw [if_neg (show ¬ (false = true) by decide)] at H; exact H
          clear H
          have H := H1
          clear H1
          have HC43 := Aside0.mk H
          clear H
          go_upto_region 7 with (fail)
          go_cut [109] (fun v109 wc => ∃ (kq : Nat) (x109_42 : Bool), v109 = .bool x109_42 ∧ Aside0 (laws_FnKleene.j1 kq t167 t168 t169 t170 x109_42 = some r) ∧ Aside0 (kq ≤ kj5) ∧ Aside0 (Below w.heap.size w wc))
          case first =>
            have H := HC43.out
            clear HC43
            replace H := Option.bind_eq_some_iff.mp H
            obtain ⟨t185, A440, H⟩ := H
            replace H : (if t185 = true then ((impl_IsTruth.f t168).bind fun t186 => (if t186 = true then ((impl_AndOf.f t167 t168).bind fun t187 => ((impl_NotOf.f t187).bind fun t188 => ((impl_NotOf.f t167).bind fun t189 => ((impl_NotOf.f t168).bind fun t190 => ((impl_OrOf.f t189 t190).bind fun t191 => (if t188 = t191 then ((impl_AndOf.f t167 t168).bind fun t192 => ((impl_AndOf.f t168 t167).bind fun t193 => (if t192 = t193 then ((impl_JoinOf.f t167 t168).bind fun t194 => ((impl_JoinOf.f t168 t167).bind fun t195 => (laws_FnKleene.j1 kj5 t167 t168 t169 t170 (t194 != t195)))) else (laws_FnKleene.j1 kj5 t167 t168 t169 t170 true)))) else (laws_FnKleene.j1 kj5 t167 t168 t169 t170 true))))))) else ((impl_AndOf.f t167 t168).bind fun t196 => ((impl_AndOf.f t168 t167).bind fun t197 => (if t196 = t197 then ((impl_JoinOf.f t167 t168).bind fun t198 => ((impl_JoinOf.f t168 t167).bind fun t199 => (laws_FnKleene.j1 kj5 t167 t168 t169 t170 (t198 != t199)))) else (laws_FnKleene.j1 kj5 t167 t168 t169 t170 true)))))) else ((impl_AndOf.f t167 t168).bind fun t200 => ((impl_AndOf.f t168 t167).bind fun t201 => (if t200 = t201 then ((impl_JoinOf.f t167 t168).bind fun t202 => ((impl_JoinOf.f t168 t167).bind fun t203 => (laws_FnKleene.j1 kj5 t167 t168 t169 t170 (t202 != t203)))) else (laws_FnKleene.j1 kj5 t167 t168 t169 t170 true))))) = some r := H
            have A44 := Aside0.mk A440
            clear A440
            by_cases c45 : t185 = true
            · subst c45
              have H1 : ((impl_IsTruth.f t168).bind fun t186 => (if t186 = true then ((impl_AndOf.f t167 t168).bind fun t187 => ((impl_NotOf.f t187).bind fun t188 => ((impl_NotOf.f t167).bind fun t189 => ((impl_NotOf.f t168).bind fun t190 => ((impl_OrOf.f t189 t190).bind fun t191 => (if t188 = t191 then ((impl_AndOf.f t167 t168).bind fun t192 => ((impl_AndOf.f t168 t167).bind fun t193 => (if t192 = t193 then ((impl_JoinOf.f t167 t168).bind fun t194 => ((impl_JoinOf.f t168 t167).bind fun t195 => (laws_FnKleene.j1 kj5 t167 t168 t169 t170 (t194 != t195)))) else (laws_FnKleene.j1 kj5 t167 t168 t169 t170 true)))) else (laws_FnKleene.j1 kj5 t167 t168 t169 t170 true))))))) else ((impl_AndOf.f t167 t168).bind fun t196 => ((impl_AndOf.f t168 t167).bind fun t197 => (if t196 = t197 then ((impl_JoinOf.f t167 t168).bind fun t198 => ((impl_JoinOf.f t168 t167).bind fun t199 => (laws_FnKleene.j1 kj5 t167 t168 t169 t170 (t198 != t199)))) else (laws_FnKleene.j1 kj5 t167 t168 t169 t170 true)))))) = some r := by rw [if_pos rfl] at H; exact H
              clear H
              have H := H1
              clear H1
              replace H := Option.bind_eq_some_iff.mp H
              obtain ⟨t186, A460, H⟩ := H
              replace H : (if t186 = true then ((impl_AndOf.f t167 t168).bind fun t187 => ((impl_NotOf.f t187).bind fun t188 => ((impl_NotOf.f t167).bind fun t189 => ((impl_NotOf.f t168).bind fun t190 => ((impl_OrOf.f t189 t190).bind fun t191 => (if t188 = t191 then ((impl_AndOf.f t167 t168).bind fun t192 => ((impl_AndOf.f t168 t167).bind fun t193 => (if t192 = t193 then ((impl_JoinOf.f t167 t168).bind fun t194 => ((impl_JoinOf.f t168 t167).bind fun t195 => (laws_FnKleene.j1 kj5 t167 t168 t169 t170 (t194 != t195)))) else (laws_FnKleene.j1 kj5 t167 t168 t169 t170 true)))) else (laws_FnKleene.j1 kj5 t167 t168 t169 t170 true))))))) else ((impl_AndOf.f t167 t168).bind fun t196 => ((impl_AndOf.f t168 t167).bind fun t197 => (if t196 = t197 then ((impl_JoinOf.f t167 t168).bind fun t198 => ((impl_JoinOf.f t168 t167).bind fun t199 => (laws_FnKleene.j1 kj5 t167 t168 t169 t170 (t198 != t199)))) else (laws_FnKleene.j1 kj5 t167 t168 t169 t170 true))))) = some r := H
              have A46 := Aside0.mk A460
              clear A460
              by_cases c47 : t186 = true
              · subst c47
                have H1 : ((impl_AndOf.f t167 t168).bind fun t187 => ((impl_NotOf.f t187).bind fun t188 => ((impl_NotOf.f t167).bind fun t189 => ((impl_NotOf.f t168).bind fun t190 => ((impl_OrOf.f t189 t190).bind fun t191 => (if t188 = t191 then ((impl_AndOf.f t167 t168).bind fun t192 => ((impl_AndOf.f t168 t167).bind fun t193 => (if t192 = t193 then ((impl_JoinOf.f t167 t168).bind fun t194 => ((impl_JoinOf.f t168 t167).bind fun t195 => (laws_FnKleene.j1 kj5 t167 t168 t169 t170 (t194 != t195)))) else (laws_FnKleene.j1 kj5 t167 t168 t169 t170 true)))) else (laws_FnKleene.j1 kj5 t167 t168 t169 t170 true))))))) = some r := by rw [if_pos rfl] at H; exact H
                clear H
                have H := H1
                clear H1
                replace H := Option.bind_eq_some_iff.mp H
                obtain ⟨t187, A480, H⟩ := H
                replace H : ((impl_NotOf.f t187).bind fun t188 => ((impl_NotOf.f t167).bind fun t189 => ((impl_NotOf.f t168).bind fun t190 => ((impl_OrOf.f t189 t190).bind fun t191 => (if t188 = t191 then ((impl_AndOf.f t167 t168).bind fun t192 => ((impl_AndOf.f t168 t167).bind fun t193 => (if t192 = t193 then ((impl_JoinOf.f t167 t168).bind fun t194 => ((impl_JoinOf.f t168 t167).bind fun t195 => (laws_FnKleene.j1 kj5 t167 t168 t169 t170 (t194 != t195)))) else (laws_FnKleene.j1 kj5 t167 t168 t169 t170 true)))) else (laws_FnKleene.j1 kj5 t167 t168 t169 t170 true)))))) = some r := H
                have A48 := Aside0.mk A480
                clear A480
                replace H := Option.bind_eq_some_iff.mp H
                obtain ⟨t188, A490, H⟩ := H
                replace H : ((impl_NotOf.f t167).bind fun t189 => ((impl_NotOf.f t168).bind fun t190 => ((impl_OrOf.f t189 t190).bind fun t191 => (if t188 = t191 then ((impl_AndOf.f t167 t168).bind fun t192 => ((impl_AndOf.f t168 t167).bind fun t193 => (if t192 = t193 then ((impl_JoinOf.f t167 t168).bind fun t194 => ((impl_JoinOf.f t168 t167).bind fun t195 => (laws_FnKleene.j1 kj5 t167 t168 t169 t170 (t194 != t195)))) else (laws_FnKleene.j1 kj5 t167 t168 t169 t170 true)))) else (laws_FnKleene.j1 kj5 t167 t168 t169 t170 true))))) = some r := H
                have A49 := Aside0.mk A490
                clear A490
                replace H := Option.bind_eq_some_iff.mp H
                obtain ⟨t189, A500, H⟩ := H
                replace H : ((impl_NotOf.f t168).bind fun t190 => ((impl_OrOf.f t189 t190).bind fun t191 => (if t188 = t191 then ((impl_AndOf.f t167 t168).bind fun t192 => ((impl_AndOf.f t168 t167).bind fun t193 => (if t192 = t193 then ((impl_JoinOf.f t167 t168).bind fun t194 => ((impl_JoinOf.f t168 t167).bind fun t195 => (laws_FnKleene.j1 kj5 t167 t168 t169 t170 (t194 != t195)))) else (laws_FnKleene.j1 kj5 t167 t168 t169 t170 true)))) else (laws_FnKleene.j1 kj5 t167 t168 t169 t170 true)))) = some r := H
                have A50 := Aside0.mk A500
                clear A500
                replace H := Option.bind_eq_some_iff.mp H
                obtain ⟨t190, A510, H⟩ := H
                replace H : ((impl_OrOf.f t189 t190).bind fun t191 => (if t188 = t191 then ((impl_AndOf.f t167 t168).bind fun t192 => ((impl_AndOf.f t168 t167).bind fun t193 => (if t192 = t193 then ((impl_JoinOf.f t167 t168).bind fun t194 => ((impl_JoinOf.f t168 t167).bind fun t195 => (laws_FnKleene.j1 kj5 t167 t168 t169 t170 (t194 != t195)))) else (laws_FnKleene.j1 kj5 t167 t168 t169 t170 true)))) else (laws_FnKleene.j1 kj5 t167 t168 t169 t170 true))) = some r := H
                have A51 := Aside0.mk A510
                clear A510
                replace H := Option.bind_eq_some_iff.mp H
                obtain ⟨t191, A520, H⟩ := H
                replace H : (if t188 = t191 then ((impl_AndOf.f t167 t168).bind fun t192 => ((impl_AndOf.f t168 t167).bind fun t193 => (if t192 = t193 then ((impl_JoinOf.f t167 t168).bind fun t194 => ((impl_JoinOf.f t168 t167).bind fun t195 => (laws_FnKleene.j1 kj5 t167 t168 t169 t170 (t194 != t195)))) else (laws_FnKleene.j1 kj5 t167 t168 t169 t170 true)))) else (laws_FnKleene.j1 kj5 t167 t168 t169 t170 true)) = some r := H
                have A52 := Aside0.mk A520
                clear A520
                by_cases c53 : t188 = t191
                · rw [if_pos c53] at H
                  have c53b0 : (t188 == t191) = true := beq_iff_eq.mpr c53
                  have c53b1 : (t188 != t191) = false := bne_eq_false_iff_eq.mpr c53
                  clear c53
                  (first | rw [c53b0] | (simp only [i64_w, i32_w]; rw [c53b0]) | skip)
                  replace H := Option.bind_eq_some_iff.mp H
                  obtain ⟨t192, A540, H⟩ := H
                  replace H : ((impl_AndOf.f t168 t167).bind fun t193 => (if t192 = t193 then ((impl_JoinOf.f t167 t168).bind fun t194 => ((impl_JoinOf.f t168 t167).bind fun t195 => (laws_FnKleene.j1 kj5 t167 t168 t169 t170 (t194 != t195)))) else (laws_FnKleene.j1 kj5 t167 t168 t169 t170 true))) = some r := H
                  have A54 := Aside0.mk A540
                  clear A540
                  have e_ := Option.some.inj (A48.out.symm.trans A54.out)
                  obtain rfl := e_
                  replace H := Option.bind_eq_some_iff.mp H
                  obtain ⟨t193, A550, H⟩ := H
                  replace H : (if t187 = t193 then ((impl_JoinOf.f t167 t168).bind fun t194 => ((impl_JoinOf.f t168 t167).bind fun t195 => (laws_FnKleene.j1 kj5 t167 t168 t169 t170 (t194 != t195)))) else (laws_FnKleene.j1 kj5 t167 t168 t169 t170 true)) = some r := H
                  have A55 := Aside0.mk A550
                  clear A550
                  by_cases c56 : t187 = t193
                  · rw [if_pos c56] at H
                    have c56b0 : (t187 == t193) = true := beq_iff_eq.mpr c56
                    have c56b1 : (t187 != t193) = false := bne_eq_false_iff_eq.mpr c56
                    clear c56
                    replace H := Option.bind_eq_some_iff.mp H
                    obtain ⟨t194, A570, H⟩ := H
                    replace H : ((impl_JoinOf.f t168 t167).bind fun t195 => (laws_FnKleene.j1 kj5 t167 t168 t169 t170 (t194 != t195))) = some r := H
                    have A57 := Aside0.mk A570
                    clear A570
                    replace H := Option.bind_eq_some_iff.mp H
                    obtain ⟨t195, A580, H⟩ := H
                    replace H : (laws_FnKleene.j1 kj5 t167 t168 t169 t170 (t194 != t195)) = some r := H
                    have A58 := Aside0.mk A580
                    clear A580
                    have H' := Aside0.mk H
                    clear H
                    go_wp2_with (first | ((with_reducible refine gate_callee (f := 38) rfl ?_); refine goesL_ (some 75) rfl rfl Try.func38 (by kernel_rfl) rfl #[.int .i64 t167] rfl (by (try simp only [List.map_toArray, List.map_cons, List.map_nil]); first | done | rfl | (simp only [List.length_drop, List.length_take]; rfl)) ?_; (with_reducible refine (impl_IsTruth.calls t167 true _ A44.out).mono ?_); rintro e w' ⟨rfl, ⟨nd, rfl⟩⟩; refine ⟨_, rfl, ?_⟩) | (go_at_call 38; (with_reducible refine (impl_IsTruth.calls t168 true _ A46.out).mono ?_); rintro e w' ⟨rfl, ⟨nd, rfl⟩⟩) | (go_at_call 26; (with_reducible refine (impl_AndOf.calls t167 t168 t187 _ A48.out).mono ?_); rintro e w59 ⟨rfl, hb⟩; have n0_ := Aside0.mk (below_step (by repeat (first | (with_reducible first | exact HB.out | apply below_alloc | apply pw_below_drewN | apply below_drew1) | exact HB.out)) hb); clear HB; have HB := n0_; clear n0_; (try clear hb); (try clear hb2); (try clear hk); (try clear hi)) | (go_at_call 30; (with_reducible refine (impl_NotOf.calls t187 t188 _ A49.out).mono ?_); rintro e w' ⟨rfl, ⟨nd, rfl⟩⟩) | (go_at_call 30; (with_reducible refine (impl_NotOf.calls t167 t189 _ A50.out).mono ?_); rintro e w' ⟨rfl, ⟨nd, rfl⟩⟩) | (go_at_call 30; (with_reducible refine (impl_NotOf.calls t168 t190 _ A51.out).mono ?_); rintro e w' ⟨rfl, ⟨nd, rfl⟩⟩) | (go_at_call 28; (with_reducible refine (impl_OrOf.calls t189 t190 t191 _ A52.out).mono ?_); rintro e w60 ⟨rfl, hb⟩; have n0_ := Aside0.mk (below_step (by repeat (first | (with_reducible first | exact HB.out | apply below_alloc | apply pw_below_drewN | apply below_drew1) | exact HB.out)) hb); clear HB; have HB := n0_; clear n0_; (try clear hb); (try clear hb2); (try clear hk); (try clear hi)) | (go_at_call 26; (with_reducible refine (impl_AndOf.calls t167 t168 t187 _ A54.out).mono ?_); rintro e w61 ⟨rfl, hb⟩; have n0_ := Aside0.mk (below_step (by repeat (first | (with_reducible first | exact HB.out | apply below_alloc | apply pw_below_drewN | apply below_drew1) | exact HB.out)) hb); clear HB; have HB := n0_; clear n0_; (try clear hb); (try clear hb2); (try clear hk); (try clear hi)) | (go_at_call 26; (with_reducible refine (impl_AndOf.calls t168 t167 t193 _ A55.out).mono ?_); rintro e w62 ⟨rfl, hb⟩; have n0_ := Aside0.mk (below_step (by repeat (first | (with_reducible first | exact HB.out | apply below_alloc | apply pw_below_drewN | apply below_drew1) | exact HB.out)) hb); clear HB; have HB := n0_; clear n0_; (try clear hb); (try clear hb2); (try clear hk); (try clear hi)) | (go_at_call 32; (with_reducible refine (impl_JoinOf.calls t167 t168 t194 _ A57.out).mono ?_); rintro e w' ⟨rfl, ⟨nd, rfl⟩⟩) | (go_at_call 32; (with_reducible refine (impl_JoinOf.calls t168 t167 t195 _ A58.out).mono ?_); rintro e w' ⟨rfl, ⟨nd, rfl⟩⟩))
                    go_meet
                    case rel => exact ⟨_, ((t194 != t195)), (by first | rfl | (simp; done) | (simp [*]; done)), H', ⟨by have := HJ5.out; first | omega | exact Nat.le_refl _⟩, ⟨by repeat (first | (with_reducible first | exact HB.out | apply below_alloc | apply pw_below_drewN | apply below_drew1) | exact HB.out)⟩⟩
                  · rw [if_neg c56] at H
                    have c56b0 : (t187 == t193) = false := beq_eq_false_iff_ne.mpr c56
                    have c56b1 : (t187 != t193) = true := bne_iff_ne.mpr c56
                    have H' := Aside0.mk H
                    clear H
                    go_wp2_with (first | ((with_reducible refine gate_callee (f := 38) rfl ?_); refine goesL_ (some 75) rfl rfl Try.func38 (by kernel_rfl) rfl #[.int .i64 t167] rfl (by (try simp only [List.map_toArray, List.map_cons, List.map_nil]); first | done | rfl | (simp only [List.length_drop, List.length_take]; rfl)) ?_; (with_reducible refine (impl_IsTruth.calls t167 true _ A44.out).mono ?_); rintro e w' ⟨rfl, ⟨nd, rfl⟩⟩; refine ⟨_, rfl, ?_⟩) | (go_at_call 38; (with_reducible refine (impl_IsTruth.calls t168 true _ A46.out).mono ?_); rintro e w' ⟨rfl, ⟨nd, rfl⟩⟩) | (go_at_call 26; (with_reducible refine (impl_AndOf.calls t167 t168 t187 _ A48.out).mono ?_); rintro e w63 ⟨rfl, hb⟩; have n0_ := Aside0.mk (below_step (by repeat (first | (with_reducible first | exact HB.out | apply below_alloc | apply pw_below_drewN | apply below_drew1) | exact HB.out)) hb); clear HB; have HB := n0_; clear n0_; (try clear hb); (try clear hb2); (try clear hk); (try clear hi)) | (go_at_call 30; (with_reducible refine (impl_NotOf.calls t187 t188 _ A49.out).mono ?_); rintro e w' ⟨rfl, ⟨nd, rfl⟩⟩) | (go_at_call 30; (with_reducible refine (impl_NotOf.calls t167 t189 _ A50.out).mono ?_); rintro e w' ⟨rfl, ⟨nd, rfl⟩⟩) | (go_at_call 30; (with_reducible refine (impl_NotOf.calls t168 t190 _ A51.out).mono ?_); rintro e w' ⟨rfl, ⟨nd, rfl⟩⟩) | (go_at_call 28; (with_reducible refine (impl_OrOf.calls t189 t190 t191 _ A52.out).mono ?_); rintro e w64 ⟨rfl, hb⟩; have n0_ := Aside0.mk (below_step (by repeat (first | (with_reducible first | exact HB.out | apply below_alloc | apply pw_below_drewN | apply below_drew1) | exact HB.out)) hb); clear HB; have HB := n0_; clear n0_; (try clear hb); (try clear hb2); (try clear hk); (try clear hi)) | (go_at_call 26; (with_reducible refine (impl_AndOf.calls t167 t168 t187 _ A54.out).mono ?_); rintro e w65 ⟨rfl, hb⟩; have n0_ := Aside0.mk (below_step (by repeat (first | (with_reducible first | exact HB.out | apply below_alloc | apply pw_below_drewN | apply below_drew1) | exact HB.out)) hb); clear HB; have HB := n0_; clear n0_; (try clear hb); (try clear hb2); (try clear hk); (try clear hi)) | (go_at_call 26; (with_reducible refine (impl_AndOf.calls t168 t167 t193 _ A55.out).mono ?_); rintro e w66 ⟨rfl, hb⟩; have n0_ := Aside0.mk (below_step (by repeat (first | (with_reducible first | exact HB.out | apply below_alloc | apply pw_below_drewN | apply below_drew1) | exact HB.out)) hb); clear HB; have HB := n0_; clear n0_; (try clear hb); (try clear hb2); (try clear hk); (try clear hi)))
                    go_meet
                    case rel => exact ⟨_, (true), (by first | rfl | (simp; done) | (simp [*]; done)), H', ⟨by have := HJ5.out; first | omega | exact Nat.le_refl _⟩, ⟨by repeat (first | (with_reducible first | exact HB.out | apply below_alloc | apply pw_below_drewN | apply below_drew1) | exact HB.out)⟩⟩
                · rw [if_neg c53] at H
                  have c53b0 : (t188 == t191) = false := beq_eq_false_iff_ne.mpr c53
                  have c53b1 : (t188 != t191) = true := bne_iff_ne.mpr c53
                  (first | rw [c53b0] | (simp only [i64_w, i32_w]; rw [c53b0]) | skip)
                  have H' := Aside0.mk H
                  clear H
                  go_wp2_with (first | ((with_reducible refine gate_callee (f := 38) rfl ?_); refine goesL_ (some 75) rfl rfl Try.func38 (by kernel_rfl) rfl #[.int .i64 t167] rfl (by (try simp only [List.map_toArray, List.map_cons, List.map_nil]); first | done | rfl | (simp only [List.length_drop, List.length_take]; rfl)) ?_; (with_reducible refine (impl_IsTruth.calls t167 true _ A44.out).mono ?_); rintro e w' ⟨rfl, ⟨nd, rfl⟩⟩; refine ⟨_, rfl, ?_⟩) | (go_at_call 38; (with_reducible refine (impl_IsTruth.calls t168 true _ A46.out).mono ?_); rintro e w' ⟨rfl, ⟨nd, rfl⟩⟩) | (go_at_call 26; (with_reducible refine (impl_AndOf.calls t167 t168 t187 _ A48.out).mono ?_); rintro e w67 ⟨rfl, hb⟩; have n0_ := Aside0.mk (below_step (by repeat (first | (with_reducible first | exact HB.out | apply below_alloc | apply pw_below_drewN | apply below_drew1) | exact HB.out)) hb); clear HB; have HB := n0_; clear n0_; (try clear hb); (try clear hb2); (try clear hk); (try clear hi)) | (go_at_call 30; (with_reducible refine (impl_NotOf.calls t187 t188 _ A49.out).mono ?_); rintro e w' ⟨rfl, ⟨nd, rfl⟩⟩) | (go_at_call 30; (with_reducible refine (impl_NotOf.calls t167 t189 _ A50.out).mono ?_); rintro e w' ⟨rfl, ⟨nd, rfl⟩⟩) | (go_at_call 30; (with_reducible refine (impl_NotOf.calls t168 t190 _ A51.out).mono ?_); rintro e w' ⟨rfl, ⟨nd, rfl⟩⟩) | (go_at_call 28; (with_reducible refine (impl_OrOf.calls t189 t190 t191 _ A52.out).mono ?_); rintro e w68 ⟨rfl, hb⟩; have n0_ := Aside0.mk (below_step (by repeat (first | (with_reducible first | exact HB.out | apply below_alloc | apply pw_below_drewN | apply below_drew1) | exact HB.out)) hb); clear HB; have HB := n0_; clear n0_; (try clear hb); (try clear hb2); (try clear hk); (try clear hi)))
                  go_meet
                  case rel => exact ⟨_, (true), (by first | rfl | (simp; done) | (simp [*]; done)), H', ⟨by have := HJ5.out; first | omega | exact Nat.le_refl _⟩, ⟨by repeat (first | (with_reducible first | exact HB.out | apply below_alloc | apply pw_below_drewN | apply below_drew1) | exact HB.out)⟩⟩
              · replace c47 := Bool.eq_false_iff.mpr c47
                subst c47
                have H1 : ((impl_AndOf.f t167 t168).bind fun t196 => ((impl_AndOf.f t168 t167).bind fun t197 => (if t196 = t197 then ((impl_JoinOf.f t167 t168).bind fun t198 => ((impl_JoinOf.f t168 t167).bind fun t199 => (laws_FnKleene.j1 kj5 t167 t168 t169 t170 (t198 != t199)))) else (laws_FnKleene.j1 kj5 t167 t168 t169 t170 true)))) = some r := by rw [if_neg (show ¬ (false = true) by decide)] at H; exact H
                clear H
                have H := H1
                clear H1
                replace H := Option.bind_eq_some_iff.mp H
                obtain ⟨t196, A690, H⟩ := H
                replace H : ((impl_AndOf.f t168 t167).bind fun t197 => (if t196 = t197 then ((impl_JoinOf.f t167 t168).bind fun t198 => ((impl_JoinOf.f t168 t167).bind fun t199 => (laws_FnKleene.j1 kj5 t167 t168 t169 t170 (t198 != t199)))) else (laws_FnKleene.j1 kj5 t167 t168 t169 t170 true))) = some r := H
                have A69 := Aside0.mk A690
                clear A690
                replace H := Option.bind_eq_some_iff.mp H
                obtain ⟨t197, A700, H⟩ := H
                replace H : (if t196 = t197 then ((impl_JoinOf.f t167 t168).bind fun t198 => ((impl_JoinOf.f t168 t167).bind fun t199 => (laws_FnKleene.j1 kj5 t167 t168 t169 t170 (t198 != t199)))) else (laws_FnKleene.j1 kj5 t167 t168 t169 t170 true)) = some r := H
                have A70 := Aside0.mk A700
                clear A700
                by_cases c71 : t196 = t197
                · rw [if_pos c71] at H
                  have c71b0 : (t196 == t197) = true := beq_iff_eq.mpr c71
                  have c71b1 : (t196 != t197) = false := bne_eq_false_iff_eq.mpr c71
                  clear c71
                  replace H := Option.bind_eq_some_iff.mp H
                  obtain ⟨t198, A720, H⟩ := H
                  replace H : ((impl_JoinOf.f t168 t167).bind fun t199 => (laws_FnKleene.j1 kj5 t167 t168 t169 t170 (t198 != t199))) = some r := H
                  have A72 := Aside0.mk A720
                  clear A720
                  replace H := Option.bind_eq_some_iff.mp H
                  obtain ⟨t199, A730, H⟩ := H
                  replace H : (laws_FnKleene.j1 kj5 t167 t168 t169 t170 (t198 != t199)) = some r := H
                  have A73 := Aside0.mk A730
                  clear A730
                  have H' := Aside0.mk H
                  clear H
                  go_wp2_with (first | ((with_reducible refine gate_callee (f := 38) rfl ?_); refine goesL_ (some 75) rfl rfl Try.func38 (by kernel_rfl) rfl #[.int .i64 t167] rfl (by (try simp only [List.map_toArray, List.map_cons, List.map_nil]); first | done | rfl | (simp only [List.length_drop, List.length_take]; rfl)) ?_; (with_reducible refine (impl_IsTruth.calls t167 true _ A44.out).mono ?_); rintro e w' ⟨rfl, ⟨nd, rfl⟩⟩; refine ⟨_, rfl, ?_⟩) | (go_at_call 38; (with_reducible refine (impl_IsTruth.calls t168 false _ A46.out).mono ?_); rintro e w' ⟨rfl, ⟨nd, rfl⟩⟩) | (go_at_call 26; (with_reducible refine (impl_AndOf.calls t167 t168 t196 _ A69.out).mono ?_); rintro e w74 ⟨rfl, hb⟩; have n0_ := Aside0.mk (below_step (by repeat (first | (with_reducible first | exact HB.out | apply below_alloc | apply pw_below_drewN | apply below_drew1) | exact HB.out)) hb); clear HB; have HB := n0_; clear n0_; (try clear hb); (try clear hb2); (try clear hk); (try clear hi)) | (go_at_call 26; (with_reducible refine (impl_AndOf.calls t168 t167 t197 _ A70.out).mono ?_); rintro e w75 ⟨rfl, hb⟩; have n0_ := Aside0.mk (below_step (by repeat (first | (with_reducible first | exact HB.out | apply below_alloc | apply pw_below_drewN | apply below_drew1) | exact HB.out)) hb); clear HB; have HB := n0_; clear n0_; (try clear hb); (try clear hb2); (try clear hk); (try clear hi)) | (go_at_call 32; (with_reducible refine (impl_JoinOf.calls t167 t168 t198 _ A72.out).mono ?_); rintro e w' ⟨rfl, ⟨nd, rfl⟩⟩) | (go_at_call 32; (with_reducible refine (impl_JoinOf.calls t168 t167 t199 _ A73.out).mono ?_); rintro e w' ⟨rfl, ⟨nd, rfl⟩⟩))
                  go_meet
                  case rel => exact ⟨_, ((t198 != t199)), (by first | rfl | (simp; done) | (simp [*]; done)), H', ⟨by have := HJ5.out; first | omega | exact Nat.le_refl _⟩, ⟨by repeat (first | (with_reducible first | exact HB.out | apply below_alloc | apply pw_below_drewN | apply below_drew1) | exact HB.out)⟩⟩
                · rw [if_neg c71] at H
                  have c71b0 : (t196 == t197) = false := beq_eq_false_iff_ne.mpr c71
                  have c71b1 : (t196 != t197) = true := bne_iff_ne.mpr c71
                  have H' := Aside0.mk H
                  clear H
                  go_wp2_with (first | ((with_reducible refine gate_callee (f := 38) rfl ?_); refine goesL_ (some 75) rfl rfl Try.func38 (by kernel_rfl) rfl #[.int .i64 t167] rfl (by (try simp only [List.map_toArray, List.map_cons, List.map_nil]); first | done | rfl | (simp only [List.length_drop, List.length_take]; rfl)) ?_; (with_reducible refine (impl_IsTruth.calls t167 true _ A44.out).mono ?_); rintro e w' ⟨rfl, ⟨nd, rfl⟩⟩; refine ⟨_, rfl, ?_⟩) | (go_at_call 38; (with_reducible refine (impl_IsTruth.calls t168 false _ A46.out).mono ?_); rintro e w' ⟨rfl, ⟨nd, rfl⟩⟩) | (go_at_call 26; (with_reducible refine (impl_AndOf.calls t167 t168 t196 _ A69.out).mono ?_); rintro e w76 ⟨rfl, hb⟩; have n0_ := Aside0.mk (below_step (by repeat (first | (with_reducible first | exact HB.out | apply below_alloc | apply pw_below_drewN | apply below_drew1) | exact HB.out)) hb); clear HB; have HB := n0_; clear n0_; (try clear hb); (try clear hb2); (try clear hk); (try clear hi)) | (go_at_call 26; (with_reducible refine (impl_AndOf.calls t168 t167 t197 _ A70.out).mono ?_); rintro e w77 ⟨rfl, hb⟩; have n0_ := Aside0.mk (below_step (by repeat (first | (with_reducible first | exact HB.out | apply below_alloc | apply pw_below_drewN | apply below_drew1) | exact HB.out)) hb); clear HB; have HB := n0_; clear n0_; (try clear hb); (try clear hb2); (try clear hk); (try clear hi)))
                  go_meet
                  case rel => exact ⟨_, (true), (by first | rfl | (simp; done) | (simp [*]; done)), H', ⟨by have := HJ5.out; first | omega | exact Nat.le_refl _⟩, ⟨by repeat (first | (with_reducible first | exact HB.out | apply below_alloc | apply pw_below_drewN | apply below_drew1) | exact HB.out)⟩⟩
            · replace c45 := Bool.eq_false_iff.mpr c45
              subst c45
              have H1 : ((impl_AndOf.f t167 t168).bind fun t200 => ((impl_AndOf.f t168 t167).bind fun t201 => (if t200 = t201 then ((impl_JoinOf.f t167 t168).bind fun t202 => ((impl_JoinOf.f t168 t167).bind fun t203 => (laws_FnKleene.j1 kj5 t167 t168 t169 t170 (t202 != t203)))) else (laws_FnKleene.j1 kj5 t167 t168 t169 t170 true)))) = some r := by rw [if_neg (show ¬ (false = true) by decide)] at H; exact H
              clear H
              have H := H1
              clear H1
              replace H := Option.bind_eq_some_iff.mp H
              obtain ⟨t200, A780, H⟩ := H
              replace H : ((impl_AndOf.f t168 t167).bind fun t201 => (if t200 = t201 then ((impl_JoinOf.f t167 t168).bind fun t202 => ((impl_JoinOf.f t168 t167).bind fun t203 => (laws_FnKleene.j1 kj5 t167 t168 t169 t170 (t202 != t203)))) else (laws_FnKleene.j1 kj5 t167 t168 t169 t170 true))) = some r := H
              have A78 := Aside0.mk A780
              clear A780
              replace H := Option.bind_eq_some_iff.mp H
              obtain ⟨t201, A790, H⟩ := H
              replace H : (if t200 = t201 then ((impl_JoinOf.f t167 t168).bind fun t202 => ((impl_JoinOf.f t168 t167).bind fun t203 => (laws_FnKleene.j1 kj5 t167 t168 t169 t170 (t202 != t203)))) else (laws_FnKleene.j1 kj5 t167 t168 t169 t170 true)) = some r := H
              have A79 := Aside0.mk A790
              clear A790
              by_cases c80 : t200 = t201
              · rw [if_pos c80] at H
                have c80b0 : (t200 == t201) = true := beq_iff_eq.mpr c80
                have c80b1 : (t200 != t201) = false := bne_eq_false_iff_eq.mpr c80
                clear c80
                replace H := Option.bind_eq_some_iff.mp H
                obtain ⟨t202, A810, H⟩ := H
                replace H : ((impl_JoinOf.f t168 t167).bind fun t203 => (laws_FnKleene.j1 kj5 t167 t168 t169 t170 (t202 != t203))) = some r := H
                have A81 := Aside0.mk A810
                clear A810
                replace H := Option.bind_eq_some_iff.mp H
                obtain ⟨t203, A820, H⟩ := H
                replace H : (laws_FnKleene.j1 kj5 t167 t168 t169 t170 (t202 != t203)) = some r := H
                have A82 := Aside0.mk A820
                clear A820
                have H' := Aside0.mk H
                clear H
                go_wp2_with (first | ((with_reducible refine gate_callee (f := 38) rfl ?_); refine goesL_ (some 75) rfl rfl Try.func38 (by kernel_rfl) rfl #[.int .i64 t167] rfl (by (try simp only [List.map_toArray, List.map_cons, List.map_nil]); first | done | rfl | (simp only [List.length_drop, List.length_take]; rfl)) ?_; (with_reducible refine (impl_IsTruth.calls t167 false _ A44.out).mono ?_); rintro e w' ⟨rfl, ⟨nd, rfl⟩⟩; refine ⟨_, rfl, ?_⟩) | (go_at_call 26; (with_reducible refine (impl_AndOf.calls t167 t168 t200 _ A78.out).mono ?_); rintro e w83 ⟨rfl, hb⟩; have n0_ := Aside0.mk (below_step (by repeat (first | (with_reducible first | exact HB.out | apply below_alloc | apply pw_below_drewN | apply below_drew1) | exact HB.out)) hb); clear HB; have HB := n0_; clear n0_; (try clear hb); (try clear hb2); (try clear hk); (try clear hi)) | (go_at_call 26; (with_reducible refine (impl_AndOf.calls t168 t167 t201 _ A79.out).mono ?_); rintro e w84 ⟨rfl, hb⟩; have n0_ := Aside0.mk (below_step (by repeat (first | (with_reducible first | exact HB.out | apply below_alloc | apply pw_below_drewN | apply below_drew1) | exact HB.out)) hb); clear HB; have HB := n0_; clear n0_; (try clear hb); (try clear hb2); (try clear hk); (try clear hi)) | (go_at_call 32; (with_reducible refine (impl_JoinOf.calls t167 t168 t202 _ A81.out).mono ?_); rintro e w' ⟨rfl, ⟨nd, rfl⟩⟩) | (go_at_call 32; (with_reducible refine (impl_JoinOf.calls t168 t167 t203 _ A82.out).mono ?_); rintro e w' ⟨rfl, ⟨nd, rfl⟩⟩))
                go_meet
                case rel => exact ⟨_, ((t202 != t203)), (by first | rfl | (simp; done) | (simp [*]; done)), H', ⟨by have := HJ5.out; first | omega | exact Nat.le_refl _⟩, ⟨by repeat (first | (with_reducible first | exact HB.out | apply below_alloc | apply pw_below_drewN | apply below_drew1) | exact HB.out)⟩⟩
              · rw [if_neg c80] at H
                have c80b0 : (t200 == t201) = false := beq_eq_false_iff_ne.mpr c80
                have c80b1 : (t200 != t201) = true := bne_iff_ne.mpr c80
                have H' := Aside0.mk H
                clear H
                go_wp2_with (first | ((with_reducible refine gate_callee (f := 38) rfl ?_); refine goesL_ (some 75) rfl rfl Try.func38 (by kernel_rfl) rfl #[.int .i64 t167] rfl (by (try simp only [List.map_toArray, List.map_cons, List.map_nil]); first | done | rfl | (simp only [List.length_drop, List.length_take]; rfl)) ?_; (with_reducible refine (impl_IsTruth.calls t167 false _ A44.out).mono ?_); rintro e w' ⟨rfl, ⟨nd, rfl⟩⟩; refine ⟨_, rfl, ?_⟩) | (go_at_call 26; (with_reducible refine (impl_AndOf.calls t167 t168 t200 _ A78.out).mono ?_); rintro e w85 ⟨rfl, hb⟩; have n0_ := Aside0.mk (below_step (by repeat (first | (with_reducible first | exact HB.out | apply below_alloc | apply pw_below_drewN | apply below_drew1) | exact HB.out)) hb); clear HB; have HB := n0_; clear n0_; (try clear hb); (try clear hb2); (try clear hk); (try clear hi)) | (go_at_call 26; (with_reducible refine (impl_AndOf.calls t168 t167 t201 _ A79.out).mono ?_); rintro e w86 ⟨rfl, hb⟩; have n0_ := Aside0.mk (below_step (by repeat (first | (with_reducible first | exact HB.out | apply below_alloc | apply pw_below_drewN | apply below_drew1) | exact HB.out)) hb); clear HB; have HB := n0_; clear n0_; (try clear hb); (try clear hb2); (try clear hk); (try clear hi)))
                go_meet
                case rel => exact ⟨_, (true), (by first | rfl | (simp; done) | (simp [*]; done)), H', ⟨by have := HJ5.out; first | omega | exact Nat.le_refl _⟩, ⟨by repeat (first | (with_reducible first | exact HB.out | apply below_alloc | apply pw_below_drewN | apply below_drew1) | exact HB.out)⟩⟩
          case rest =>
            clear HC43
            try clear c1
            try clear c2
            try clear p2
            try clear c3
            try clear c4
            try clear c5
            try clear c7
            try clear c8
            try clear c11
            try clear c11b0
            try clear c11b1
            try clear c14
            try clear c14b0
            try clear c14b1
            try clear c17
            try clear c17b0
            try clear c17b1
            try clear c20
            try clear c20b0
            try clear c20b1
            try clear c23
            try clear c23b0
            try clear c23b1
            try clear c23b2
            try clear c24
            try clear c25
            try clear c26
            try clear c27
            try clear c28
            try clear c28b0
            try clear c28b1
            try clear c38
            try clear c42
            try clear c45
            try clear c47
            try clear c53
            try clear c53b0
            try clear c53b1
            try clear c56
            try clear c56b0
            try clear c56b1
            try clear c71
            try clear c71b0
            try clear c71b1
            try clear c80
            try clear c80b0
            try clear c80b1
            try clear p2
            obtain ⟨kq, x109_42, rfl, HA, HJ42, HB⟩ := hcut
            cases kq with
            | zero => exact absurd HA.out (by simp [laws_FnKleene.j1])
            | succ kj42 =>
              have H := HA.out
              clear HA
              simp only [laws_FnKleene.j1] at H
              by_cases c87 : x109_42 = true
              · subst c87
                have H1 : (some false) = some r := by rw [if_pos rfl] at H; exact H
                clear H
                have H := H1
                clear H1
                obtain rfl := Option.some.inj H
                exact absurd hrt.out (by decide)
              · replace c87 := Bool.eq_false_iff.mpr c87
                subst c87
                have H1 : ((impl_IsTruth.f t167).bind fun t204 => (if t204 = true then ((impl_IsWithin.f t169 t170).bind fun t205 => (laws_FnKleene.j2 kj42 t167 t168 t169 t170 (!t205))) else (laws_FnKleene.j2 kj42 t167 t168 t169 t170 true))) = some r := by rw [if_neg (show ¬ (false = true) by decide)] at H; exact H
                clear H
                have H := H1
                clear H1
                have HC88 := Aside0.mk H
                clear H
                go_upto_region 9 with (fail)
                go_cut [118] (fun v118 wc => ∃ (kq : Nat) (x118_87 : Bool), v118 = .bool x118_87 ∧ Aside0 (laws_FnKleene.j2 kq t167 t168 t169 t170 x118_87 = some r) ∧ Aside0 (kq ≤ kj42) ∧ Aside0 (Below w.heap.size w wc))
                case first =>
                  have H := HC88.out
                  clear HC88
                  replace H := Option.bind_eq_some_iff.mp H
                  obtain ⟨t204, A890, H⟩ := H
                  replace H : (if t204 = true then ((impl_IsWithin.f t169 t170).bind fun t205 => (laws_FnKleene.j2 kj42 t167 t168 t169 t170 (!t205))) else (laws_FnKleene.j2 kj42 t167 t168 t169 t170 true)) = some r := H
                  have A89 := Aside0.mk A890
                  clear A890
                  by_cases c90 : t204 = true
                  · subst c90
                    have H1 : ((impl_IsWithin.f t169 t170).bind fun t205 => (laws_FnKleene.j2 kj42 t167 t168 t169 t170 (!t205))) = some r := by rw [if_pos rfl] at H; exact H
                    clear H
                    have H := H1
                    clear H1
                    replace H := Option.bind_eq_some_iff.mp H
                    obtain ⟨t205, A910, H⟩ := H
                    replace H : (laws_FnKleene.j2 kj42 t167 t168 t169 t170 (!t205)) = some r := H
                    have A91 := Aside0.mk A910
                    clear A910
                    have H' := Aside0.mk H
                    clear H
                    go_wp2_with (first | ((with_reducible refine gate_callee (f := 38) rfl ?_); refine goesL_ (some 111) rfl rfl Try.func38 (by kernel_rfl) rfl #[.int .i64 t167] rfl (by (try simp only [List.map_toArray, List.map_cons, List.map_nil]); first | done | rfl | (simp only [List.length_drop, List.length_take]; rfl)) ?_; (with_reducible refine (impl_IsTruth.calls t167 true _ A89.out).mono ?_); rintro e w' ⟨rfl, ⟨nd, rfl⟩⟩; refine ⟨_, rfl, ?_⟩) | (go_at_call 34; (with_reducible refine (impl_IsWithin.calls t169 t170 t205 _ A91.out).mono ?_); rintro e w' ⟨rfl, ⟨nd, rfl⟩⟩))
                    go_meet
                    case rel => exact ⟨_, (!t205), (by first | rfl | (simp; done) | (simp [*]; done)), H', ⟨by have := HJ5.out; have := HJ42.out; first | omega | exact Nat.le_refl _⟩, ⟨by repeat (first | (with_reducible first | exact HB.out | apply below_alloc | apply pw_below_drewN | apply below_drew1) | exact HB.out)⟩⟩
                  · replace c90 := Bool.eq_false_iff.mpr c90
                    subst c90
                    have H1 : (laws_FnKleene.j2 kj42 t167 t168 t169 t170 true) = some r := by rw [if_neg (show ¬ (false = true) by decide)] at H; exact H
                    clear H
                    have H := H1
                    clear H1
                    have H' := Aside0.mk H
                    clear H
                    go_wp2_with (first | ((with_reducible refine gate_callee (f := 38) rfl ?_); refine goesL_ (some 111) rfl rfl Try.func38 (by kernel_rfl) rfl #[.int .i64 t167] rfl (by (try simp only [List.map_toArray, List.map_cons, List.map_nil]); first | done | rfl | (simp only [List.length_drop, List.length_take]; rfl)) ?_; (with_reducible refine (impl_IsTruth.calls t167 false _ A89.out).mono ?_); rintro e w' ⟨rfl, ⟨nd, rfl⟩⟩; refine ⟨_, rfl, ?_⟩))
                    go_meet
                    case rel => exact ⟨_, (true), (by first | rfl | (simp; done) | (simp [*]; done)), H', ⟨by have := HJ5.out; have := HJ42.out; first | omega | exact Nat.le_refl _⟩, ⟨by repeat (first | (with_reducible first | exact HB.out | apply below_alloc | apply pw_below_drewN | apply below_drew1) | exact HB.out)⟩⟩
                case rest =>
                  clear HC88
                  try clear c1
                  try clear c2
                  try clear p2
                  try clear c3
                  try clear c4
                  try clear c5
                  try clear c7
                  try clear c8
                  try clear c9
                  try clear c11
                  try clear c11b0
                  try clear c11b1
                  try clear c14
                  try clear c14b0
                  try clear c14b1
                  try clear c17
                  try clear c17b0
                  try clear c17b1
                  try clear c20
                  try clear c20b0
                  try clear c20b1
                  try clear c23
                  try clear c23b0
                  try clear c23b1
                  try clear c23b2
                  try clear c24
                  try clear c25
                  try clear c26
                  try clear c27
                  try clear c28
                  try clear c28b0
                  try clear c28b1
                  try clear c38
                  try clear c42
                  try clear c45
                  try clear c47
                  try clear c53
                  try clear c53b0
                  try clear c53b1
                  try clear c56
                  try clear c56b0
                  try clear c56b1
                  try clear c71
                  try clear c71b0
                  try clear c71b1
                  try clear c80
                  try clear c80b0
                  try clear c80b1
                  try clear c87
                  try clear c90
                  try clear p2
                  obtain ⟨kq, x118_87, rfl, HA, HJ87, HB⟩ := hcut
                  cases kq with
                  | zero => exact absurd HA.out (by simp [laws_FnKleene.j2])
                  | succ kj87 =>
                    have H := HA.out
                    clear HA
                    simp only [laws_FnKleene.j2] at H
                    by_cases c92 : x118_87 = true
                    · subst c92
                      have H1 : (some true) = some r := by rw [if_pos rfl] at H; exact H
                      clear H
                      have H := H1
                      clear H1
                      obtain rfl := Option.some.inj H
                      go_wp2
                      go_ret
                      exact ⟨by first | rfl | (simp [errW_none, errW_some] <;> rfl) | (simp [*, errW_none, errW_some] <;> rfl), by repeat (first | (with_reducible first | exact HB.out | apply below_alloc | apply pw_below_drewN | apply below_drew1) | exact HB.out)⟩
                    · replace c92 := Bool.eq_false_iff.mpr c92
                      subst c92
                      have H1 : ((impl_AndOf.f t167 t169).bind fun t206 => ((impl_AndOf.f t167 t170).bind fun t207 => ((impl_IsWithin.f t206 t207).bind fun t208 => (if t208 = true then ((impl_OrOf.f t167 t169).bind fun t209 => ((impl_OrOf.f t167 t170).bind fun t210 => ((impl_IsWithin.f t209 t210).bind fun t211 => (if t211 = true then ((impl_NotOf.f t169).bind fun t212 => ((impl_NotOf.f t170).bind fun t213 => ((impl_IsWithin.f t212 t213).bind fun t214 => (if t214 = true then ((impl_IsTruth.f t168).bind fun t215 => (if t215 = true then ((impl_JoinOf.f t167 t168).bind fun t216 => ((impl_IsWithin.f t167 t216).bind fun t217 => (if t217 = true then ((impl_JoinOf.f t167 t168).bind fun t218 => ((impl_IsWithin.f t168 t218).bind fun t219 => (some t219))) else (some false)))) else (some true))) else (some false))))) else (some false))))) else (some false))))) = some r := by rw [if_neg (show ¬ (false = true) by decide)] at H; exact H
                      clear H
                      have H := H1
                      clear H1
                      replace H := Option.bind_eq_some_iff.mp H
                      obtain ⟨t206, A930, H⟩ := H
                      replace H : ((impl_AndOf.f t167 t170).bind fun t207 => ((impl_IsWithin.f t206 t207).bind fun t208 => (if t208 = true then ((impl_OrOf.f t167 t169).bind fun t209 => ((impl_OrOf.f t167 t170).bind fun t210 => ((impl_IsWithin.f t209 t210).bind fun t211 => (if t211 = true then ((impl_NotOf.f t169).bind fun t212 => ((impl_NotOf.f t170).bind fun t213 => ((impl_IsWithin.f t212 t213).bind fun t214 => (if t214 = true then ((impl_IsTruth.f t168).bind fun t215 => (if t215 = true then ((impl_JoinOf.f t167 t168).bind fun t216 => ((impl_IsWithin.f t167 t216).bind fun t217 => (if t217 = true then ((impl_JoinOf.f t167 t168).bind fun t218 => ((impl_IsWithin.f t168 t218).bind fun t219 => (some t219))) else (some false)))) else (some true))) else (some false))))) else (some false))))) else (some false)))) = some r := H
                      have A93 := Aside0.mk A930
                      clear A930
                      replace H := Option.bind_eq_some_iff.mp H
                      obtain ⟨t207, A940, H⟩ := H
                      replace H : ((impl_IsWithin.f t206 t207).bind fun t208 => (if t208 = true then ((impl_OrOf.f t167 t169).bind fun t209 => ((impl_OrOf.f t167 t170).bind fun t210 => ((impl_IsWithin.f t209 t210).bind fun t211 => (if t211 = true then ((impl_NotOf.f t169).bind fun t212 => ((impl_NotOf.f t170).bind fun t213 => ((impl_IsWithin.f t212 t213).bind fun t214 => (if t214 = true then ((impl_IsTruth.f t168).bind fun t215 => (if t215 = true then ((impl_JoinOf.f t167 t168).bind fun t216 => ((impl_IsWithin.f t167 t216).bind fun t217 => (if t217 = true then ((impl_JoinOf.f t167 t168).bind fun t218 => ((impl_IsWithin.f t168 t218).bind fun t219 => (some t219))) else (some false)))) else (some true))) else (some false))))) else (some false))))) else (some false))) = some r := H
                      have A94 := Aside0.mk A940
                      clear A940
                      replace H := Option.bind_eq_some_iff.mp H
                      obtain ⟨t208, A950, H⟩ := H
                      replace H : (if t208 = true then ((impl_OrOf.f t167 t169).bind fun t209 => ((impl_OrOf.f t167 t170).bind fun t210 => ((impl_IsWithin.f t209 t210).bind fun t211 => (if t211 = true then ((impl_NotOf.f t169).bind fun t212 => ((impl_NotOf.f t170).bind fun t213 => ((impl_IsWithin.f t212 t213).bind fun t214 => (if t214 = true then ((impl_IsTruth.f t168).bind fun t215 => (if t215 = true then ((impl_JoinOf.f t167 t168).bind fun t216 => ((impl_IsWithin.f t167 t216).bind fun t217 => (if t217 = true then ((impl_JoinOf.f t167 t168).bind fun t218 => ((impl_IsWithin.f t168 t218).bind fun t219 => (some t219))) else (some false)))) else (some true))) else (some false))))) else (some false))))) else (some false)) = some r := H
                      have A95 := Aside0.mk A950
                      clear A950
                      by_cases c96 : t208 = true
                      · subst c96
                        have H1 : ((impl_OrOf.f t167 t169).bind fun t209 => ((impl_OrOf.f t167 t170).bind fun t210 => ((impl_IsWithin.f t209 t210).bind fun t211 => (if t211 = true then ((impl_NotOf.f t169).bind fun t212 => ((impl_NotOf.f t170).bind fun t213 => ((impl_IsWithin.f t212 t213).bind fun t214 => (if t214 = true then ((impl_IsTruth.f t168).bind fun t215 => (if t215 = true then ((impl_JoinOf.f t167 t168).bind fun t216 => ((impl_IsWithin.f t167 t216).bind fun t217 => (if t217 = true then ((impl_JoinOf.f t167 t168).bind fun t218 => ((impl_IsWithin.f t168 t218).bind fun t219 => (some t219))) else (some false)))) else (some true))) else (some false))))) else (some false))))) = some r := by rw [if_pos rfl] at H; exact H
                        clear H
                        have H := H1
                        clear H1
                        replace H := Option.bind_eq_some_iff.mp H
                        obtain ⟨t209, A970, H⟩ := H
                        replace H : ((impl_OrOf.f t167 t170).bind fun t210 => ((impl_IsWithin.f t209 t210).bind fun t211 => (if t211 = true then ((impl_NotOf.f t169).bind fun t212 => ((impl_NotOf.f t170).bind fun t213 => ((impl_IsWithin.f t212 t213).bind fun t214 => (if t214 = true then ((impl_IsTruth.f t168).bind fun t215 => (if t215 = true then ((impl_JoinOf.f t167 t168).bind fun t216 => ((impl_IsWithin.f t167 t216).bind fun t217 => (if t217 = true then ((impl_JoinOf.f t167 t168).bind fun t218 => ((impl_IsWithin.f t168 t218).bind fun t219 => (some t219))) else (some false)))) else (some true))) else (some false))))) else (some false)))) = some r := H
                        have A97 := Aside0.mk A970
                        clear A970
                        replace H := Option.bind_eq_some_iff.mp H
                        obtain ⟨t210, A980, H⟩ := H
                        replace H : ((impl_IsWithin.f t209 t210).bind fun t211 => (if t211 = true then ((impl_NotOf.f t169).bind fun t212 => ((impl_NotOf.f t170).bind fun t213 => ((impl_IsWithin.f t212 t213).bind fun t214 => (if t214 = true then ((impl_IsTruth.f t168).bind fun t215 => (if t215 = true then ((impl_JoinOf.f t167 t168).bind fun t216 => ((impl_IsWithin.f t167 t216).bind fun t217 => (if t217 = true then ((impl_JoinOf.f t167 t168).bind fun t218 => ((impl_IsWithin.f t168 t218).bind fun t219 => (some t219))) else (some false)))) else (some true))) else (some false))))) else (some false))) = some r := H
                        have A98 := Aside0.mk A980
                        clear A980
                        replace H := Option.bind_eq_some_iff.mp H
                        obtain ⟨t211, A990, H⟩ := H
                        replace H : (if t211 = true then ((impl_NotOf.f t169).bind fun t212 => ((impl_NotOf.f t170).bind fun t213 => ((impl_IsWithin.f t212 t213).bind fun t214 => (if t214 = true then ((impl_IsTruth.f t168).bind fun t215 => (if t215 = true then ((impl_JoinOf.f t167 t168).bind fun t216 => ((impl_IsWithin.f t167 t216).bind fun t217 => (if t217 = true then ((impl_JoinOf.f t167 t168).bind fun t218 => ((impl_IsWithin.f t168 t218).bind fun t219 => (some t219))) else (some false)))) else (some true))) else (some false))))) else (some false)) = some r := H
                        have A99 := Aside0.mk A990
                        clear A990
                        by_cases c100 : t211 = true
                        · subst c100
                          have H1 : ((impl_NotOf.f t169).bind fun t212 => ((impl_NotOf.f t170).bind fun t213 => ((impl_IsWithin.f t212 t213).bind fun t214 => (if t214 = true then ((impl_IsTruth.f t168).bind fun t215 => (if t215 = true then ((impl_JoinOf.f t167 t168).bind fun t216 => ((impl_IsWithin.f t167 t216).bind fun t217 => (if t217 = true then ((impl_JoinOf.f t167 t168).bind fun t218 => ((impl_IsWithin.f t168 t218).bind fun t219 => (some t219))) else (some false)))) else (some true))) else (some false))))) = some r := by rw [if_pos rfl] at H; exact H
                          clear H
                          have H := H1
                          clear H1
                          replace H := Option.bind_eq_some_iff.mp H
                          obtain ⟨t212, A1010, H⟩ := H
                          replace H : ((impl_NotOf.f t170).bind fun t213 => ((impl_IsWithin.f t212 t213).bind fun t214 => (if t214 = true then ((impl_IsTruth.f t168).bind fun t215 => (if t215 = true then ((impl_JoinOf.f t167 t168).bind fun t216 => ((impl_IsWithin.f t167 t216).bind fun t217 => (if t217 = true then ((impl_JoinOf.f t167 t168).bind fun t218 => ((impl_IsWithin.f t168 t218).bind fun t219 => (some t219))) else (some false)))) else (some true))) else (some false)))) = some r := H
                          have A101 := Aside0.mk A1010
                          clear A1010
                          replace H := Option.bind_eq_some_iff.mp H
                          obtain ⟨t213, A1020, H⟩ := H
                          replace H : ((impl_IsWithin.f t212 t213).bind fun t214 => (if t214 = true then ((impl_IsTruth.f t168).bind fun t215 => (if t215 = true then ((impl_JoinOf.f t167 t168).bind fun t216 => ((impl_IsWithin.f t167 t216).bind fun t217 => (if t217 = true then ((impl_JoinOf.f t167 t168).bind fun t218 => ((impl_IsWithin.f t168 t218).bind fun t219 => (some t219))) else (some false)))) else (some true))) else (some false))) = some r := H
                          have A102 := Aside0.mk A1020
                          clear A1020
                          replace H := Option.bind_eq_some_iff.mp H
                          obtain ⟨t214, A1030, H⟩ := H
                          replace H : (if t214 = true then ((impl_IsTruth.f t168).bind fun t215 => (if t215 = true then ((impl_JoinOf.f t167 t168).bind fun t216 => ((impl_IsWithin.f t167 t216).bind fun t217 => (if t217 = true then ((impl_JoinOf.f t167 t168).bind fun t218 => ((impl_IsWithin.f t168 t218).bind fun t219 => (some t219))) else (some false)))) else (some true))) else (some false)) = some r := H
                          have A103 := Aside0.mk A1030
                          clear A1030
                          by_cases c104 : t214 = true
                          · subst c104
                            have H1 : ((impl_IsTruth.f t168).bind fun t215 => (if t215 = true then ((impl_JoinOf.f t167 t168).bind fun t216 => ((impl_IsWithin.f t167 t216).bind fun t217 => (if t217 = true then ((impl_JoinOf.f t167 t168).bind fun t218 => ((impl_IsWithin.f t168 t218).bind fun t219 => (some t219))) else (some false)))) else (some true))) = some r := by rw [if_pos rfl] at H; exact H
                            clear H
                            have H := H1
                            clear H1
                            replace H := Option.bind_eq_some_iff.mp H
                            obtain ⟨t215, A1050, H⟩ := H
                            replace H : (if t215 = true then ((impl_JoinOf.f t167 t168).bind fun t216 => ((impl_IsWithin.f t167 t216).bind fun t217 => (if t217 = true then ((impl_JoinOf.f t167 t168).bind fun t218 => ((impl_IsWithin.f t168 t218).bind fun t219 => (some t219))) else (some false)))) else (some true)) = some r := H
                            have A105 := Aside0.mk A1050
                            clear A1050
                            by_cases c106 : t215 = true
                            · subst c106
                              have H1 : ((impl_JoinOf.f t167 t168).bind fun t216 => ((impl_IsWithin.f t167 t216).bind fun t217 => (if t217 = true then ((impl_JoinOf.f t167 t168).bind fun t218 => ((impl_IsWithin.f t168 t218).bind fun t219 => (some t219))) else (some false)))) = some r := by rw [if_pos rfl] at H; exact H
                              clear H
                              have H := H1
                              clear H1
                              replace H := Option.bind_eq_some_iff.mp H
                              obtain ⟨t216, A1070, H⟩ := H
                              replace H : ((impl_IsWithin.f t167 t216).bind fun t217 => (if t217 = true then ((impl_JoinOf.f t167 t168).bind fun t218 => ((impl_IsWithin.f t168 t218).bind fun t219 => (some t219))) else (some false))) = some r := H
                              have A107 := Aside0.mk A1070
                              clear A1070
                              replace H := Option.bind_eq_some_iff.mp H
                              obtain ⟨t217, A1080, H⟩ := H
                              replace H : (if t217 = true then ((impl_JoinOf.f t167 t168).bind fun t218 => ((impl_IsWithin.f t168 t218).bind fun t219 => (some t219))) else (some false)) = some r := H
                              have A108 := Aside0.mk A1080
                              clear A1080
                              by_cases c109 : t217 = true
                              · subst c109
                                have H1 : ((impl_JoinOf.f t167 t168).bind fun t218 => ((impl_IsWithin.f t168 t218).bind fun t219 => (some t219))) = some r := by rw [if_pos rfl] at H; exact H
                                clear H
                                have H := H1
                                clear H1
                                replace H := Option.bind_eq_some_iff.mp H
                                obtain ⟨t218, A1100, H⟩ := H
                                replace H : ((impl_IsWithin.f t168 t218).bind fun t219 => (some t219)) = some r := H
                                have A110 := Aside0.mk A1100
                                clear A1100
                                have e_ := Option.some.inj (A107.out.symm.trans A110.out)
                                obtain rfl := e_
                                replace H := Option.bind_eq_some_iff.mp H
                                obtain ⟨t219, A1110, H⟩ := H
                                replace H : (some t219) = some r := H
                                have A111 := Aside0.mk A1110
                                clear A1110
                                obtain rfl := Option.some.inj H
                                go_wp2_with (first | ((with_reducible refine gate_callee (f := 26) rfl ?_); refine goesL_ (some 121) rfl rfl Try.func26 (by kernel_rfl) rfl #[.int .i64 t167, .int .i64 t169] rfl (by (try simp only [List.map_toArray, List.map_cons, List.map_nil]); first | done | rfl | (simp only [List.length_drop, List.length_take]; rfl)) ?_; (with_reducible refine (impl_AndOf.calls t167 t169 t206 _ A93.out).mono ?_); rintro e w112 ⟨rfl, hb⟩; refine ⟨_, rfl, ?_⟩; have n0_ := Aside0.mk (below_step (by repeat (first | (with_reducible first | exact HB.out | apply below_alloc | apply pw_below_drewN | apply below_drew1) | exact HB.out)) hb); clear HB; have HB := n0_; clear n0_; (try clear hb); (try clear hb2); (try clear hk); (try clear hi)) | ((with_reducible refine gate_callee (f := 26) rfl ?_); refine goesL_ (some 124) rfl rfl Try.func26 (by kernel_rfl) rfl #[.int .i64 t167, .int .i64 t170] rfl (by (try simp only [List.map_toArray, List.map_cons, List.map_nil]); first | done | rfl | (simp only [List.length_drop, List.length_take]; rfl)) ?_; (with_reducible refine (impl_AndOf.calls t167 t170 t207 _ A94.out).mono ?_); rintro e w113 ⟨rfl, hb⟩; refine ⟨_, rfl, ?_⟩; have n0_ := Aside0.mk (below_step (by repeat (first | (with_reducible first | exact HB.out | apply below_alloc | apply pw_below_drewN | apply below_drew1) | exact HB.out)) hb); clear HB; have HB := n0_; clear n0_; (try clear hb); (try clear hb2); (try clear hk); (try clear hi)) | ((with_reducible refine gate_callee (f := 34) rfl ?_); refine goesL_ (some 125) rfl rfl Try.func34 (by kernel_rfl) rfl #[.int .i64 t206, .int .i64 t207] rfl (by (try simp only [List.map_toArray, List.map_cons, List.map_nil]); first | done | rfl | (simp only [List.length_drop, List.length_take]; rfl)) ?_; (with_reducible refine (impl_IsWithin.calls t206 t207 true _ A95.out).mono ?_); rintro e w' ⟨rfl, ⟨nd, rfl⟩⟩; refine ⟨_, rfl, ?_⟩) | (go_at_call 28; (with_reducible refine (impl_OrOf.calls t167 t169 t209 _ A97.out).mono ?_); rintro e w114 ⟨rfl, hb⟩; have n0_ := Aside0.mk (below_step (by repeat (first | (with_reducible first | exact HB.out | apply below_alloc | apply pw_below_drewN | apply below_drew1) | exact HB.out)) hb); clear HB; have HB := n0_; clear n0_; (try clear hb); (try clear hb2); (try clear hk); (try clear hi)) | (go_at_call 28; (with_reducible refine (impl_OrOf.calls t167 t170 t210 _ A98.out).mono ?_); rintro e w115 ⟨rfl, hb⟩; have n0_ := Aside0.mk (below_step (by repeat (first | (with_reducible first | exact HB.out | apply below_alloc | apply pw_below_drewN | apply below_drew1) | exact HB.out)) hb); clear HB; have HB := n0_; clear n0_; (try clear hb); (try clear hb2); (try clear hk); (try clear hi)) | (go_at_call 34; (with_reducible refine (impl_IsWithin.calls t209 t210 true _ A99.out).mono ?_); rintro e w' ⟨rfl, ⟨nd, rfl⟩⟩) | (go_at_call 30; (with_reducible refine (impl_NotOf.calls t169 t212 _ A101.out).mono ?_); rintro e w' ⟨rfl, ⟨nd, rfl⟩⟩) | (go_at_call 30; (with_reducible refine (impl_NotOf.calls t170 t213 _ A102.out).mono ?_); rintro e w' ⟨rfl, ⟨nd, rfl⟩⟩) | (go_at_call 34; (with_reducible refine (impl_IsWithin.calls t212 t213 true _ A103.out).mono ?_); rintro e w' ⟨rfl, ⟨nd, rfl⟩⟩) | (go_at_call 38; (with_reducible refine (impl_IsTruth.calls t168 true _ A105.out).mono ?_); rintro e w' ⟨rfl, ⟨nd, rfl⟩⟩) | (go_at_call 32; (with_reducible refine (impl_JoinOf.calls t167 t168 t216 _ A107.out).mono ?_); rintro e w' ⟨rfl, ⟨nd, rfl⟩⟩) | (go_at_call 34; (with_reducible refine (impl_IsWithin.calls t167 t216 true _ A108.out).mono ?_); rintro e w' ⟨rfl, ⟨nd, rfl⟩⟩) | (go_at_call 32; (with_reducible refine (impl_JoinOf.calls t167 t168 t216 _ A110.out).mono ?_); rintro e w' ⟨rfl, ⟨nd, rfl⟩⟩) | (go_at_call 34; (with_reducible refine (impl_IsWithin.calls t168 t216 t219 _ A111.out).mono ?_); rintro e w' ⟨rfl, ⟨nd, rfl⟩⟩))
                                go_ret
                                exact ⟨by first | rfl | (simp [errW_none, errW_some] <;> rfl) | (simp [*, errW_none, errW_some] <;> rfl), by repeat (first | (with_reducible first | exact HB.out | apply below_alloc | apply pw_below_drewN | apply below_drew1) | exact HB.out)⟩
                              · replace c109 := Bool.eq_false_iff.mpr c109
                                subst c109
                                have H1 : (some false) = some r := by rw [if_neg (show ¬ (false = true) by decide)] at H; exact H
                                clear H
                                have H := H1
                                clear H1
                                obtain rfl := Option.some.inj H
                                exact absurd hrt.out (by decide)
                            · replace c106 := Bool.eq_false_iff.mpr c106
                              subst c106
                              have H1 : (some true) = some r := by rw [if_neg (show ¬ (false = true) by decide)] at H; exact H
                              clear H
                              have H := H1
                              clear H1
                              obtain rfl := Option.some.inj H
                              go_wp2_with (first | ((with_reducible refine gate_callee (f := 26) rfl ?_); refine goesL_ (some 121) rfl rfl Try.func26 (by kernel_rfl) rfl #[.int .i64 t167, .int .i64 t169] rfl (by (try simp only [List.map_toArray, List.map_cons, List.map_nil]); first | done | rfl | (simp only [List.length_drop, List.length_take]; rfl)) ?_; (with_reducible refine (impl_AndOf.calls t167 t169 t206 _ A93.out).mono ?_); rintro e w116 ⟨rfl, hb⟩; refine ⟨_, rfl, ?_⟩; have n0_ := Aside0.mk (below_step (by repeat (first | (with_reducible first | exact HB.out | apply below_alloc | apply pw_below_drewN | apply below_drew1) | exact HB.out)) hb); clear HB; have HB := n0_; clear n0_; (try clear hb); (try clear hb2); (try clear hk); (try clear hi)) | ((with_reducible refine gate_callee (f := 26) rfl ?_); refine goesL_ (some 124) rfl rfl Try.func26 (by kernel_rfl) rfl #[.int .i64 t167, .int .i64 t170] rfl (by (try simp only [List.map_toArray, List.map_cons, List.map_nil]); first | done | rfl | (simp only [List.length_drop, List.length_take]; rfl)) ?_; (with_reducible refine (impl_AndOf.calls t167 t170 t207 _ A94.out).mono ?_); rintro e w117 ⟨rfl, hb⟩; refine ⟨_, rfl, ?_⟩; have n0_ := Aside0.mk (below_step (by repeat (first | (with_reducible first | exact HB.out | apply below_alloc | apply pw_below_drewN | apply below_drew1) | exact HB.out)) hb); clear HB; have HB := n0_; clear n0_; (try clear hb); (try clear hb2); (try clear hk); (try clear hi)) | ((with_reducible refine gate_callee (f := 34) rfl ?_); refine goesL_ (some 125) rfl rfl Try.func34 (by kernel_rfl) rfl #[.int .i64 t206, .int .i64 t207] rfl (by (try simp only [List.map_toArray, List.map_cons, List.map_nil]); first | done | rfl | (simp only [List.length_drop, List.length_take]; rfl)) ?_; (with_reducible refine (impl_IsWithin.calls t206 t207 true _ A95.out).mono ?_); rintro e w' ⟨rfl, ⟨nd, rfl⟩⟩; refine ⟨_, rfl, ?_⟩) | (go_at_call 28; (with_reducible refine (impl_OrOf.calls t167 t169 t209 _ A97.out).mono ?_); rintro e w118 ⟨rfl, hb⟩; have n0_ := Aside0.mk (below_step (by repeat (first | (with_reducible first | exact HB.out | apply below_alloc | apply pw_below_drewN | apply below_drew1) | exact HB.out)) hb); clear HB; have HB := n0_; clear n0_; (try clear hb); (try clear hb2); (try clear hk); (try clear hi)) | (go_at_call 28; (with_reducible refine (impl_OrOf.calls t167 t170 t210 _ A98.out).mono ?_); rintro e w119 ⟨rfl, hb⟩; have n0_ := Aside0.mk (below_step (by repeat (first | (with_reducible first | exact HB.out | apply below_alloc | apply pw_below_drewN | apply below_drew1) | exact HB.out)) hb); clear HB; have HB := n0_; clear n0_; (try clear hb); (try clear hb2); (try clear hk); (try clear hi)) | (go_at_call 34; (with_reducible refine (impl_IsWithin.calls t209 t210 true _ A99.out).mono ?_); rintro e w' ⟨rfl, ⟨nd, rfl⟩⟩) | (go_at_call 30; (with_reducible refine (impl_NotOf.calls t169 t212 _ A101.out).mono ?_); rintro e w' ⟨rfl, ⟨nd, rfl⟩⟩) | (go_at_call 30; (with_reducible refine (impl_NotOf.calls t170 t213 _ A102.out).mono ?_); rintro e w' ⟨rfl, ⟨nd, rfl⟩⟩) | (go_at_call 34; (with_reducible refine (impl_IsWithin.calls t212 t213 true _ A103.out).mono ?_); rintro e w' ⟨rfl, ⟨nd, rfl⟩⟩) | (go_at_call 38; (with_reducible refine (impl_IsTruth.calls t168 false _ A105.out).mono ?_); rintro e w' ⟨rfl, ⟨nd, rfl⟩⟩))
                              go_ret
                              exact ⟨by first | rfl | (simp [errW_none, errW_some] <;> rfl) | (simp [*, errW_none, errW_some] <;> rfl), by repeat (first | (with_reducible first | exact HB.out | apply below_alloc | apply pw_below_drewN | apply below_drew1) | exact HB.out)⟩
                          · replace c104 := Bool.eq_false_iff.mpr c104
                            subst c104
                            have H1 : (some false) = some r := by rw [if_neg (show ¬ (false = true) by decide)] at H; exact H
                            clear H
                            have H := H1
                            clear H1
                            obtain rfl := Option.some.inj H
                            exact absurd hrt.out (by decide)
                        · replace c100 := Bool.eq_false_iff.mpr c100
                          subst c100
                          have H1 : (some false) = some r := by rw [if_neg (show ¬ (false = true) by decide)] at H; exact H
                          clear H
                          have H := H1
                          clear H1
                          obtain rfl := Option.some.inj H
                          exact absurd hrt.out (by decide)
                      · replace c96 := Bool.eq_false_iff.mpr c96
                        subst c96
                        have H1 : (some false) = some r := by rw [if_neg (show ¬ (false = true) by decide)] at H; exact H
                        clear H
                        have H := H1
                        clear H1
                        obtain rfl := Option.some.inj H
                        exact absurd hrt.out (by decide)

/-- THE ONE PURE STATEMENT of laws_FnKleene: yours. -/
def laws_FnKleene.Pure : Prop := ∀ (l0 : List Int), (l0.length ≤ maxLen ∧ ∀ x_ ∈ l0, (Lit.int .u8 x_).wf = true) → ∃ k, laws_FnKleene.f k l0 = some true

end Go.Proofs.Ytfmepkfigdobaaa.PFnKleene
