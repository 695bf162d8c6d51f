/-
  A row of whole numbers of the call's own, between two vocabularies: the print's (Kd.R) and the shelf's (Holds, putRow). No condition.
-/
import Derived.Test.YtoljagpjejpmpaaWWords
import Derived.Test.YtoljagpjejpmpaaWLast
import Derived.Test.YtoljagpjejpmpaaWMore
import Derived.Test.YtoljagpjejpmpaaWKept
import Derived.Test.YtoljagpjejpmpaaShelf
import Derived.Sort.OwnSortedInts
import Derived.Deep.RegionWith
namespace Go.Proofs.Ytoljagpjejpmpaa
open Go.RowKit Go.Sort Go.Lib Go.Proofs.YtoljagpjejpmpaaW.PrintWords Go.Proofs.YtoljagpjejpmpaaW.PrintLast
theorem irow_open {e base : Nat} {w : World} {ok : Nat → Prop} {v : Value} {l : List Int} (h : Kd.R (Kd.int .i64) e w base ok v l) :
    (v = .slice none 0 0 ∧ l = []) ∨ ∃ g cap cur, v = .slice (some ⟨g, 0, none⟩) l.length cap ∧ base ≤ g ∧ w.heap[g]? = some (.cells cur e (0, 0)) ∧ l.length ≤ cap ∧ cap ≤ maxLen ∧ cur.size = cap * 1 ∧ cur.toList.take l.length = l.map (Value.int .i64) ∧ ok g := by
  have ho := Kd.own_of_R (enc := Value.int .i64) (h1 := fun _ => rfl) h
  rcases ho.2 with ⟨h1, h2⟩ | ⟨g, cap, cur, rfl, a, b, c, d, e1, f⟩
  · exact .inl ⟨h1, List.eq_nil_of_length_eq_zero h2⟩
  · exact .inr ⟨g, cap, cur, rfl, a, b, c, d, e1, by rw [Nat.mul_one] at f; exact f, h.1 g rfl⟩
theorem irow_holds {e g : Nat} {w : World} {cur : Array Value} {l : List Int} (hb : w.heap[g]? = some (.cells cur e (0, 0))) (ht : cur.toList.take l.length = l.map (Value.int .i64)) : Holds (Value.int .i64) w g 0 l.toArray := holds_of_blockI hb ht
theorem irow_put {e base g cap n : Nat} {os : Array Obj} {w : World} {ok : Nat → Prop} {cur : Array Value} {ts r : List Int} (hbase : base ≤ g) (hb : w.heap[g]? = some (.cells cur e (0, 0))) (h1 : ts.length ≤ cap) (h2 : cap ≤ maxLen) (h3 : cur.size = cap * 1) (hok : ok g) (hr : r <+: ts) :
    Kd.R (Kd.int .i64) e (grow (putRow (Value.int .i64) (Sort.ahead w n) g 0 ts.toArray) os) base (fun k_ => ok k_ ∨ w.heap.size ≤ k_) (.slice (some ⟨g, 0, none⟩) r.length cap) r := by
  have hl := hr.length_le
  refine Kd.R_of_own (enc := Value.int .i64) (h1 := fun _ => rfl) ⟨by simp [encs], .inr ⟨g, cap, _, rfl, hbase, heap_sortedI _ hb, by omega, h2, by simp [putCells, h3], ?_⟩⟩ (fun k hk => ?_)
  · have := take_putCellsI cur ts (by omega)
    rw [Nat.mul_one, show r.length = min r.length ts.length by omega, ← List.take_take, this, ← List.map_take]
    unfold encs
    rw [List.prefix_iff_eq_take.mp hr]
    simp
  · simp only [Value.ownBlock, Option.some.injEq] at hk
    subst hk
    exact Or.inl hok
theorem irow_below {g n : Nat} {os : Array Obj} {w0 w : World} {d : Array Int} (hB : Below w0.heap.size w0 w) (hg : w0.heap.size ≤ g) : Below w0.heap.size w0 (grow (putRow (Value.int .i64) (Sort.ahead w n) g 0 d) os) :=
  hB.grown (grownBy_sortedI d) hB.size (fun k hk => by cases hk; exact hg)
theorem irow_kept {g n : Nat} {os : Array Obj} {w : World} {d : Array Int} {P : Nat → Prop} (hp : P g) : Kept w (grow (putRow (Value.int .i64) (Sort.ahead w n) g 0 d) os) P :=
  Kept.of_grown (grownBy_sortedI d) (Kept.refl w P) (fun k hk => by cases hk; exact Or.inl hp)
theorem compact_le (l : List Int) : (Go.Lib.compact l).length ≤ l.length := by
  unfold Go.Lib.compact Go.Lib.compactUpTo
  rw [List.length_map]
  exact Nat.le_trans (List.length_filter_le _ _) (by simp)
theorem grow_none (w : World) : grow w #[] = w := by simp [grow]
theorem irow_done {e g cap n : Nat} {os : Array Obj} {w0 w : World} {P : Nat → Prop} {cur : Array Value} {ts r : List Int} (hB : Below w0.heap.size w0 w) (hbase : w0.heap.size ≤ g) (hb : w.heap[g]? = some (.cells cur e (0, 0))) (h1 : ts.length ≤ cap) (h2 : cap ≤ maxLen) (h3 : cur.size = cap * 1) (hp : P g) (hr : r <+: ts) :
    Kd.R (Kd.int .i64) e (grow (putRow (Value.int .i64) (Sort.ahead w n) g 0 ts.toArray) os) w0.heap.size (fun k_ => P k_ ∨ w.heap.size ≤ k_) (.slice (some ⟨g, 0, none⟩) r.length cap) r ∧ Below w0.heap.size w0 (grow (putRow (Value.int .i64) (Sort.ahead w n) g 0 ts.toArray) os) ∧ Kept w (grow (putRow (Value.int .i64) (Sort.ahead w n) g 0 ts.toArray) os) P :=
  ⟨irow_put hbase hb h1 h2 h3 hp hr, irow_below hB hbase, irow_kept hp⟩
theorem irow_done' {e g cap n : Nat} {w0 w : World} {P : Nat → Prop} {cur : Array Value} {ts r : List Int} (hB : Below w0.heap.size w0 w) (hbase : w0.heap.size ≤ g) (hb : w.heap[g]? = some (.cells cur e (0, 0))) (h1 : ts.length ≤ cap) (h2 : cap ≤ maxLen) (h3 : cur.size = cap * 1) (hp : P g) (hr : r <+: ts) :
    Kd.R (Kd.int .i64) e (putRow (Value.int .i64) (Sort.ahead w n) g 0 ts.toArray) w0.heap.size (fun k_ => P k_ ∨ w.heap.size ≤ k_) (.slice (some ⟨g, 0, none⟩) r.length cap) r ∧ Below w0.heap.size w0 (putRow (Value.int .i64) (Sort.ahead w n) g 0 ts.toArray) ∧ Kept w (putRow (Value.int .i64) (Sort.ahead w n) g 0 ts.toArray) P := by
  have := irow_done (n := n) (os := #[]) hB hbase hb h1 h2 h3 hp hr
  rw [grow_none] at this
  exact this
end Go.Proofs.Ytoljagpjejpmpaa
