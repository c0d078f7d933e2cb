/- The walks of replicas, the references, sixth part: Since. -/
import Derived.Test.YtcpfogbjbinjcaaGsR5
set_option linter.all false
namespace Go.Proofs.Ytcpfogbjbinjcaa
open Go.RowKit Go.ChangeMaps

set_option maxRecDepth 100000 in
set_option maxHeartbeats 4000000 in
theorem rsince_calls (w : World) (x : Since w) (N : Int) (a : Option Addr) (l : List Ev) (cap : Nat) (sa : Option Addr) (seen : List Int) (sc : Nat) (hr : EvRow w a l) (hl : l.length ≤ 100000) (hd0 : ∀ e ∈ l, 0 ≤ e.d) (hs : IntRow w sa seen) (hsl : seen.length ≤ 100000) (n0 : Int) :
    Calls Try.prog 37 #[.int .i64 n0, .slice a l.length cap, .slice sa seen.length sc] x.w (EvsPost w (sinceL l seen)) := by
  have Hd0 := Lib.hid hd0
  clear hd0
  go_enter Try.func37, Try.ntmps37
  go_wp2_with fail
  go_loopw [7, 8] (fun v i wr => ∃ (k m : Nat) (y : Since w), k ≤ l.length ∧ i = .int .i64 k ∧ wr = y.w ∧ wr.ownsRow w.heap.size 33 9 v m (flat Ev.cs ((l.take k).filter (newB seen)))) (fun _ i _ => l.length - (intOf i).toNat)
  case atStart => exact ⟨0, 0, x, by omega, rfl, rfl, rfl, .inl ⟨rfl, rfl⟩⟩
  case round =>
    obtain ⟨k, m, y, hk, rfl, rfl, hown⟩ := hrel
    by_cases hlt : k < l.length
    · obtain ⟨e, he⟩ : ∃ e, l[k]? = some e := ⟨_, List.getElem?_eq_getElem hlt⟩
      obtain ⟨b1, off1, rfl, h1⟩ := Els.ev hr he
      have p0 := h1.c0
      have p1 := h1.c1
      have p2 := h1.c2
      have p3 := h1.c3
      have p4 := h1.c4
      have p5 := h1.c5
      have p6 := h1.c6
      have p7 := h1.c7
      have p8 := h1.c8
      have hk0 : (0 : Int) ≤ (k : Int) := by omega
      have hkl : (k : Int) < (l.length : Int) := by omega
      have hed := Hd0.out e (List.mem_of_getElem? he)
      have hmn : m ≤ 100000 := by
        have h1 := (own_els cs_len (by decide) hown).1
        have h2 := List.length_filter_le (newB seen) (l.take k)
        have h3 := List.length_take_le k l
        have h4 : (l.take k).length ≤ l.length := by rw [List.length_take]; omega
        omega
      have htk : l.take (k + 1) = l.take k ++ [e] := by rw [List.take_add_one, he]; rfl
      have hf0 : newB seen e = false → (l.take (k + 1)).filter (newB seen) = (l.take k).filter (newB seen) := fun h => by rw [htk, List.filter_append, List.filter_cons, h]; simp
      have hf1 : newB seen e = true → flat Ev.cs ((l.take (k + 1)).filter (newB seen)) = flat Ev.cs ((l.take k).filter (newB seen)) ++ e.cs := fun h => by rw [htk, List.filter_append, List.filter_cons, h, if_pos rfl, List.filter_nil, flat_append, flat_one]
      have Hf0 := Lib.hid hf0; have Hf1 := Lib.hid hf1; have Hown := Lib.hid hown
      have hcase : (e.d < (seen.length : Int) ∧ ∀ y : Since w, ∃ b2 off2, sa = some ⟨b2, off2, none⟩ ∧ y.w.cell? ⟨b2, off2 + e.d.toNat, none⟩ = some (.int .i64 (lastD seen e.d))) ∨ (¬ e.d < (seen.length : Int) ∧ lastD seen e.d = 0) := by
        by_cases hd : e.d < (seen.length : Int)
        · refine .inl ⟨hd, fun y => ?_⟩
          obtain ⟨b2, off2, rfl, _, _⟩ := hs e.d.toNat (by omega)
          exact ⟨b2, off2, rfl, by rw [lastD_in hed hd]; exact Since.at hs e.d.toNat (by omega) y⟩
        · exact .inr ⟨hd, lastD_out hd⟩
      have hnewB : newB seen e = decide (lastD seen e.d < e.q) := rfl
      have HnewB := Lib.hid hnewB
      have Hr := Lib.hid hr
      clear hnewB hf0 hf1 hown htk hr h1 he
      generalize lastD seen e.d = last at *
      rcases hcase with ⟨hd, hcs⟩ | ⟨hd, rfl⟩
      · obtain ⟨b2, off2, rfl, _⟩ := hcs (Since.self w)
        have hcs2 : ∀ y : Since w, y.w.cell? ⟨b2, off2 + e.d.toNat, none⟩ = some (.int .i64 last) := fun y => by
          obtain ⟨b3, off3, e, h⟩ := hcs y
          simp at e; obtain ⟨rfl, rfl⟩ := e; exact h
        clear hcs hs
        by_cases hnew : last < e.q
        · have hn1 := HnewB.out.trans (decide_eq_true hnew)
          have Hn1 := Lib.hid hn1; clear hn1
          go_wp2_with (at_builtin; (refine wpList_appendK (w0 := w) ?hw rfl _ _ 22 rfl w.heap.size (Nat.le_refl _) ?hb 33 (⟨0, 0, 0, 0, 0, 0, 0, 0, 0⟩ : Ev).ag 72 evs u7 m (flat Ev.cs ((l.take k).filter (newB seen))) rfl ?hown ⟨y.w.heap.size, 0, none⟩ 1 1 e.cs rfl rfl ?hc (cs_one e) ?h63 ?hbytes ?_; rotate_right 1; intro v2 q2 hown4 _ hg4))
          case hw => exact y.alloc _
          case hb => have := y.b.size; simp; omega
          case hown => exact own_to Hown.out (IsSince.alloc (IsSince.self _) _)
          case hc => first | exact cell_new_at y.w e.cs _ | exact fun _ _ h => h
          case h63 => unfold maxLen; omega
          case hbytes => omega
          rw [← Hf1.out Hn1.out] at hown4
          have Hown4 := Lib.hid hown4
          clear hown4 hg4
          go_wp2_with fail
          go_roundw
          case rel => exact ⟨k + 1, m + 1, q2, by omega, by go_num, rfl, Hown4.out⟩
          case measure => simp [intOf]; omega
        · have hn1 := HnewB.out.trans (decide_eq_false hnew)
          have Hn1 := Lib.hid hn1; clear hn1
          go_wp2_with fail
          go_roundw
          case rel => exact ⟨k + 1, m, y, by omega, by go_num, rfl, by rw [Hf0.out Hn1.out]; exact Hown.out⟩
          case measure => simp [intOf]; omega
      · clear hs
        by_cases hnew : (0 : Int) < e.q
        · have hn1 := HnewB.out.trans (decide_eq_true hnew)
          have Hn1 := Lib.hid hn1; clear hn1
          go_wp2_with (at_builtin; (refine wpList_appendK (w0 := w) ?hw rfl _ _ 22 rfl w.heap.size (Nat.le_refl _) ?hb 33 (⟨0, 0, 0, 0, 0, 0, 0, 0, 0⟩ : Ev).ag 72 evs u7 m (flat Ev.cs ((l.take k).filter (newB seen))) rfl ?hown ⟨y.w.heap.size, 0, none⟩ 1 1 e.cs rfl rfl ?hc (cs_one e) ?h63 ?hbytes ?_; rotate_right 1; intro v2 q2 hown4 _ hg4))
          case hw => exact y.alloc _
          case hb => have := y.b.size; simp; omega
          case hown => exact own_to Hown.out (IsSince.alloc (IsSince.self _) _)
          case hc => first | exact cell_new_at y.w e.cs _ | exact fun _ _ h => h
          case h63 => unfold maxLen; omega
          case hbytes => omega
          rw [← Hf1.out Hn1.out] at hown4
          have Hown4 := Lib.hid hown4
          clear hown4 hg4
          go_wp2_with fail
          go_roundw
          case rel => exact ⟨k + 1, m + 1, q2, by omega, by go_num, rfl, Hown4.out⟩
          case measure => simp [intOf]; omega
        · have hn1 := HnewB.out.trans (decide_eq_false hnew)
          have Hn1 := Lib.hid hn1; clear hn1
          go_wp2_with fail
          go_roundw
          case rel => exact ⟨k + 1, m, y, by omega, by go_num, rfl, by rw [Hf0.out Hn1.out]; exact Hown.out⟩
          case measure => simp [intOf]; omega
    · obtain rfl : k = l.length := by omega
      rw [List.take_length] at hown
      obtain ⟨_, a3, c3, rfl, hc3, he3, _, _⟩ := own_els cs_len (by decide) hown
      have hfl : ((l.filter (newB seen)).length) ≤ 100000 := by have := List.length_filter_le (newB seen) l; omega
      have hcall := Lib.hid (revents_calls y.w (Since.self y.w) a3 (l.filter (newB seen)) c3 he3 hfl)
      have hsin : sortE (l.filter (newB seen)) = sinceL l seen := rfl
      have Hsin := Lib.hid hsin
      clear hown he3 hc3 hr hs hsin
      go_wp2_with fail
      refine hcall.out.mono ?_
      rintro _ _ ⟨a4, c4, y4, rfl, rfl, hc4, hn4, he4⟩
      have He4 := Lib.hid he4
      have Hn4 := Lib.hid hn4
      clear he4 hn4
      obtain ⟨y5, e5⟩ := y.trans y4
      have E5 := Lib.hid e5
      clear e5
      go_wp2_with fail
      go_ret
      refine ⟨a4, c4, y5, ret_slice (by rw [← Hsin.out]), E5.out, by rw [← Hsin.out]; exact hc4, Hn4.out, ?_⟩
      rw [← Hsin.out, ← E5.out]; exact He4.out
end Go.Proofs.Ytcpfogbjbinjcaa
