/- Making slices of one-cell elements; values of the call's own in a block: generic, no program in sight. -/
import Derived.Test.YtbkfcdheckkjaaaHeld
import Derived.Laws.OwnMore
set_option linter.all false
namespace Go.Proofs.Ytbkfcdheckkjaaa
open Go.RowKit

/-- 'make([]T, n)', elements of one cell -/
theorem make1_run {P : Program} {t e : TypeId} {z : Value} {bytes : Nat} (ht : SliceOf P t e z 1 bytes) (hz : z.cells = #[z]) (n : Nat) (hb : bytes * n ≤ 281474976710656) (h63 : n ≤ 9223372036854775807) (w : World) :
    (Instr.makeSlice t (.int .i64 (n : Int)) (.int .i64 (n : Int))).run P w = .ok (.slice (some ⟨w.heap.size, 0, none⟩) n n) (w.alloc (.cells (List.replicate n z).toArray e)) := by
  obtain ⟨i, hi, hz0, hsz, hby⟩ := ht.e
  subst hby
  have hb' : (i.bytes : Int) * (n : Int) ≤ 281474976710656 := by
    have h : ((i.bytes * n : Nat) : Int) ≤ 281474976710656 := by omega
    rwa [Int.natCast_mul] at h
  have hr := run_make (P := P) w t e i z ht.t hi hz0 .i64 .i64 n n (by omega) (Int.le_refl _) hb' (by omega)
  simp only [Int.toNat_natCast] at hr
  rw [hr, hsz, hz, Nat.mul_one]
  have := toList_madeCells_one z n
  rw [← this]
/-- values of the call's own in block g -/
structure Vals (w : World) (g : Nat) (n : Nat) (f : Nat → Value) : Prop where
  lt : g < w.heap.size
  c : ∀ j, j < n → w.cell? ⟨g, j, none⟩ = some (f j)
  f : ∀ j, j < n → w.frozen? ⟨g, j, none⟩ = false
theorem Vals.new (w : World) (cs : List Value) (e : TypeId) (n : Nat) (f : Nat → Value) (h : ∀ i, i < n → cs[i]? = some (f i)) : Vals (w.alloc (.cells cs.toArray e)) w.heap.size n f := by
  have hh : (w.alloc (.cells cs.toArray e)).heap[w.heap.size]? = some (.cells cs.toArray e) := by show (w.heap.push _)[w.heap.size]? = _; simp
  refine ⟨by simp, fun j hj => ?_, fun j hj => by simp only [World.frozen?, hh]; rfl⟩
  simp only [World.cell?, hh]
  simpa using h j hj
theorem Vals.since {w : World} {g n : Nat} {f : Nat → Value} (h : Vals w g n f) (y : Since w) : Vals y.w g n f :=
  ⟨Nat.lt_of_lt_of_le h.lt y.b.size, fun j hj => Since.cell (h.c j hj) h.lt y, fun j hj => Since.free (h.f j hj) h.lt y⟩
theorem Vals.to {w W : World} {g n : Nat} {f : Nat → Value} (h : Vals w g n f) (hW : ∃ z : Since w, W = z.w) : Vals W g n f := by
  obtain ⟨z, rfl⟩ := hW; exact h.since z
theorem Vals.set {w : World} {g n k : Nat} {f f' : Nat → Value} (h : Vals w g n f) (hk : k < n) (v : Value) (hv : f' k = v) (ho : ∀ j, j < n → j ≠ k → f' j = f j) : Vals (w.setCell ⟨g, k, none⟩ v) g n f' := by
  refine ⟨by simpa [World.setCell] using h.lt, fun j hj => ?_, fun j hj => ?_⟩
  · by_cases hjk : j = k
    · subst hjk
      rw [World.cell?_setCell_same _ _ _ (h.c j hj), hv]
    · show ((w.setCells g k [v]).cell? _) = _
      rw [World.cell?_setCells_out g [v] k w ⟨g, j, none⟩ (fun _ _ => by simp; omega), h.c j hj, ho j hj hjk]
  · rw [World.frozen?_setCell]; exact h.f j hj
theorem Vals.setOther {w : World} {g n : Nat} {f : Nat → Value} (h : Vals w g n f) (p : Addr) (hp : p.block ≠ g) (v : Value) : Vals (w.setCell p v) g n f := by
  have hh := Below.heap_setCell w p v g (fun e => hp e.symm)
  refine ⟨by simpa [World.setCell] using h.lt, fun j hj => ?_, fun j hj => by rw [World.frozen?_setCell]; exact h.f j hj⟩
  rw [World.cell?_of_block (w := w) (a := ⟨g, j, none⟩) hh]; exact h.c j hj
theorem Vals.keep {w w' : World} {g n : Nat} {f : Nat → Value} (h : Vals w g n f) (hs : w.heap.size ≤ w'.heap.size) (hb : w'.heap[g]? = w.heap[g]?) : Vals w' g n f :=
  ⟨Nat.lt_of_lt_of_le h.lt hs, fun j hj => by rw [World.cell?_of_block (w := w) (a := ⟨g, j, none⟩) hb]; exact h.c j hj, fun j hj => by rw [World.frozen?_of_block (w := w) (a := ⟨g, j, none⟩) hb]; exact h.f j hj⟩
theorem Vals.congr {w : World} {g n : Nat} {f f' : Nat → Value} (h : Vals w g n f) (he : ∀ j, j < n → f j = f' j) : Vals w g n f' :=
  ⟨h.lt, fun j hj => by rw [h.c j hj, he j hj], h.f⟩
theorem Vals.row {w : World} {g n : Nat} {f : Nat → Value} (h : Vals w g n f) : Row w (some ⟨g, 0, none⟩) n f :=
  fun i hi => ⟨g, 0, rfl, h.lt, by rw [Nat.zero_add]; exact h.c i hi⟩
/-- two slices that were made in one go -/
theorem two_new {w0 : World} (y : Since w0) (n : Nat) (z1 z2 : Value) (e1 e2 : TypeId) :
    ∃ q : Since w0, ((y.w.alloc (.cells (Array.replicate n z1) e1)).alloc (.cells (Array.replicate n z2) e2)).drew = q.w ∧ Vals q.w y.w.heap.size n (fun _ => z1) ∧ Vals q.w (y.w.heap.size + 1) n (fun _ => z2) ∧ w0.heap.size ≤ y.w.heap.size := by
  have hA := Vals.new y.w (List.replicate n z1) e1 n (fun _ => z1) (fun i hi => by simp [hi])
  rw [List.toArray_replicate] at hA
  have hB := Vals.new (y.w.alloc (.cells (Array.replicate n z1) e1)) (List.replicate n z2) e2 n (fun _ => z2) (fun i hi => by simp [hi])
  rw [List.toArray_replicate] at hB
  have h1 := hA.to (IsSince.alloc (IsSince.self _) (.cells (Array.replicate n z2) e2))
  have hs : (y.w.alloc (.cells (Array.replicate n z1) e1)).heap.size = y.w.heap.size + 1 := by simp
  rw [hs] at hB
  obtain ⟨q, hq⟩ := IsSince.drew' (IsSince.alloc (IsSince.alloc (IsSince.of y) (.cells (Array.replicate n z1) e1)) (.cells (Array.replicate n z2) e2))
  refine ⟨q, hq, ?_, ?_, y.b.size⟩
  · rw [← hq]; exact h1.to (IsSince.drew' (IsSince.self _))
  · rw [← hq]; exact hB.to (IsSince.drew' (IsSince.self _))
end Go.Proofs.Ytbkfcdheckkjaaa
