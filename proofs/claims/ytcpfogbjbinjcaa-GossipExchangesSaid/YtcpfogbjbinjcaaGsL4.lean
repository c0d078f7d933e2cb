/- The laws of replicas, fourth part: filled, world, some, merged. -/
import Derived.Test.YtcpfogbjbinjcaaGsK3
set_option linter.all false
namespace Go.Proofs.Ytcpfogbjbinjcaa
open Go.RowKit Go.ChangeMaps

set_option maxRecDepth 100000 in
set_option maxHeartbeats 4000000 in
/-- replicas for different numbers of devices are not merged -/
theorem merge_ne (w : World) (x : Since w) (p bm p2 bm2 : Nat) (n n2 : Int) (l m : List Ev) (hR : RepAt w p bm n l) (hR2 : RepAt w p2 bm2 n2 m) (hn : n ≠ n2) :
    Calls Try.prog 28 #[.pointer (some ⟨p, 0, none⟩), .pointer (some ⟨p2, 0, none⟩)] x.w fun o w' => o = .returned (.int .i64 12) ∧ ∃ y' : Since w, w' = y'.w := by
  have hc0 : ∀ y : Since w, y.w.cell? ⟨p, 0, none⟩ = some (.int .i64 n) := fun y => (hR.since y).c0
  have hc2 : ∀ y : Since w, y.w.cell? ⟨p2, 0, none⟩ = some (.int .i64 n2) := fun y => (hR2.since y).c0
  have hne : (n != n2) = true := by simpa using hn
  clear hR hR2 hn
  go_enter Try.func28, Try.ntmps28
  go_wp2_with fail
  refine wp_region_since (by kernel_rfl) (by kernel_rfl) ?_
  repeat (go_big_quiet_step (fail))
  refine wpQuiet_nil ?_
  rintro _ ⟨y0, rfl⟩
  go_wp2_with fail
  go_ret
  exact ⟨rfl, _, rfl⟩
theorem addAll_old {N : Int} {W : List Ev} (hW : Inv N W) : ∀ (m l : List Ev), Sub W l → (∀ x ∈ m, x ∈ l) → addAll N l m = l
  | [], _, _, _ => rfl
  | e :: m, l, h, hm => by
    show addAll N (addL N l e) m = l
    rw [addL_same (sub_old hW h (hm e (by simp))).2]
    exact addAll_old hW m l h (fun x hx => hm x (by simp [hx]))
theorem sub_self {N : Int} {W : List Ev} (hW : Inv N W) : Sub W W := ⟨fun _ h => h, hW.nodup⟩
theorem merge_self {N : Int} {W : List Ev} (hW : Inv N W) : mergeE N W (sortE W) = 0 ∧ addAll N W (sortE W) = W :=
  ⟨(sub_all hW (sortE W) W (sub_self hW) (fun x hx => (sortE_mem W x).1 hx)).1, addAll_old hW (sortE W) W (sub_self hW) (fun x hx => (sortE_mem W x).1 hx)⟩

def FilledPost (w : World) (n : Int) (l : List Ev) (o : Ending) (w' : World) : Prop :=
  ∃ (p bm : Nat) (a : Option Addr) (cap : Nat) (y : Since w), o = .returned (.tuple #[.pointer (some ⟨p, 0, none⟩), .slice a (addAll n [] l).length cap]) ∧ w' = y.w ∧ w.heap.size ≤ bm ∧ RepAt y.w p bm n (addAll n [] l) ∧ EvRow y.w a (addAll n [] l) ∧ (addAll n [] l).length ≤ cap ∧ (a = none → cap = 0)
set_option maxRecDepth 100000 in
set_option maxHeartbeats 8000000 in
theorem filled_calls (w : World) (x : Since w) (N : Nat) (la : Option Addr) (l : List Ev) (lc : Nat) (hl : EvRow w la l) (hll : l.length ≤ 100000) (h1 : 1 ≤ (N : Int)) (h2 : (N : Int) ≤ 256) :
    Calls Try.prog 27 #[.int .i64 N, .slice la l.length lc] x.w (FilledPost w N l) := by
  have HL := Lib.hid hl
  clear hl
  go_enter Try.func27, Try.ntmps27
  go_wp2_with (go_at_call 13; refine (new_s w _ (N : Int) h1 h2).mono ?_; rintro _ _ ⟨p, bm, y0, rfl, rfl, hz, hb, hR⟩; have HR := Lib.hid hR; have Hb := Lib.hid (Nat.le_trans x.b.size hb); clear hR hb hz)
  go_loopw [8, 9] (fun m i wr => ∃ (k : Nat) (a : Option Addr) (cap : Nat) (y : Since w), k ≤ l.length ∧ i = .int .i64 k ∧ m = .slice a (addAll N [] (l.take k)).length cap ∧ wr = y.w ∧ RepAt y.w p bm N (addAll N [] (l.take k)) ∧ EvRow y.w a (addAll N [] (l.take k)) ∧ (addAll N [] (l.take k)).length ≤ cap ∧ (a = none → cap = 0)) (fun _ i _ => l.length - (intOf i).toNat)
  case atStart => exact ⟨0, none, 0, _, by omega, rfl, rfl, rfl, HR.out, els_nil _ _, Nat.le_refl _, fun _ => rfl⟩
  case round =>
    obtain ⟨k, a, cap, y, hk, rfl, rfl, rfl, hR, hrow, hcap, hnil⟩ := hrel
    have HI := Lib.hid (inv_addAll (N := N) (l.take k) [] (inv_nil N))
    have hI5 := HI.out.len
    replace HR := Lib.hid hR; have Hrow := Lib.hid hrow; have Hnil := Lib.hid hnil
    clear hR hrow hnil
    by_cases hlt : k < l.length
    · obtain ⟨e, he⟩ : ∃ e, l[k]? = some e := ⟨_, List.getElem?_eq_getElem hlt⟩
      obtain ⟨b1, off1, rfl, h1'⟩ := Els.ev HL.out he
      have p0 := h1'.c0
      have p1 := h1'.c1
      have p2 := h1'.c2
      have p3 := h1'.c3
      have p4 := h1'.c4
      have p5 := h1'.c5
      have p6 := h1'.c6
      have p7 := h1'.c7
      have p8 := h1'.c8
      have Hnext := Lib.hid (addAll_take (N := N) he)
      have hk0 : (0 : Int) ≤ (k : Int) := by omega
      have hkl : (k : Int) < (l.length : Int) := by omega
      clear h1' he
      generalize addAll N [] (l.take k) = Lk at *
      go_wp2_with (first
        | (go_at_call 15; refine (radd_s w _ N a Lk cap e Hrow.out hcap Hnil.out (by omega)).mono ?_; rintro _ _ ⟨a2, cap2, y1, rfl, rfl, hz, hc2, hn2, hrow⟩; replace HR := Lib.hid (HR.out.to hz); have Hrow2 := Lib.hid hrow; have Hnil2 := Lib.hid hn2; clear hz hrow hn2)
        | (go_at_call 16; refine (add_u w _ p bm N Lk e Hb.out HR.out).mono ?_; rintro _ _ ⟨rfl, y2, rfl, hR, hg⟩; replace Hrow := Lib.hid (Els.keepMap (fun x => by simp [Ev.cs]) Hrow.out HR.out.m hg); replace HR := Lib.hid hR; clear hR hg))
      go_roundw
      case rel => exact ⟨k + 1, _, _, _, by omega, by go_num, by rw [Hnext.out], rfl, by rw [Hnext.out]; exact HR.out, by rw [Hnext.out]; exact Hrow2.out, by rw [Hnext.out]; exact hc2, Hnil2.out⟩
      case measure => simp [intOf]; omega
    · obtain rfl : k = l.length := by omega
      go_wp2_with fail
      go_ret2
      rw [List.take_length] at HR Hrow hcap
      exact ⟨p, bm, a, cap, y, by rw [List.take_length]; rfl, rfl, Hb.out, HR.out, Hrow.out, hcap, Hnil.out⟩
theorem filled_no (w : World) (y : Since w) (n : Int) (la : Option Addr) (l : List Ev) (lc : Nat) (h : ¬ (1 ≤ n ∧ n ≤ 256)) :
    Calls Try.prog 27 #[.int .i64 n, .slice la l.length lc] y.w fun o w' => o = .returned (.tuple #[.pointer none, .slice none 0 0]) ∧ ∃ y' : Since w, w' = y'.w ∧ IsSince y.w y'.w := by
  have H := Lib.hid h
  clear h
  go_enter Try.func27, Try.ntmps27
  go_wp2_with (go_at_call 13; refine (new_no w _ n H.out).mono ?_; rintro _ _ ⟨rfl, y0, rfl, hz⟩)
  go_ret2
  exact ⟨rfl, y0, rfl, hz⟩

def WorldPost (w : World) (n : Int) (l : List Ev) (o : Ending) (w' : World) : Prop :=
  ∃ (a : Option Addr) (cap : Nat) (y : Since w), o = .returned (.slice a (addAll n [] l).length cap) ∧ w' = y.w ∧ EvRow y.w a (addAll n [] l) ∧ (addAll n [] l).length ≤ cap
set_option maxRecDepth 100000 in
set_option maxHeartbeats 8000000 in
theorem world_calls (w : World) (x : Since w) (N : Nat) (la : Option Addr) (l : List Ev) (lc : Nat) (hl : EvRow w la l) (hll : l.length ≤ 100000) :
    Calls Try.prog 18 #[.int .i64 N, .slice la l.length lc] x.w (WorldPost w N l) := by
  have HL := Lib.hid hl
  clear hl
  go_enter Try.func18, Try.ntmps18
  go_wp2_with fail
  go_loopw [5, 6] (fun m i wr => ∃ (k : Nat) (a : Option Addr) (cap : Nat) (y : Since w), k ≤ l.length ∧ i = .int .i64 k ∧ m = .slice a (addAll N [] (l.take k)).length cap ∧ wr = y.w ∧ EvRow y.w a (addAll N [] (l.take k)) ∧ (addAll N [] (l.take k)).length ≤ cap ∧ (a = none → cap = 0)) (fun _ i _ => l.length - (intOf i).toNat)
  case atStart => exact ⟨0, none, 0, _, by omega, rfl, rfl, rfl, els_nil _ _, Nat.le_refl _, fun _ => rfl⟩
  case round =>
    obtain ⟨k, a, cap, y, hk, rfl, rfl, rfl, hrow, hcap, hnil⟩ := hrel
    have HI := Lib.hid (inv_addAll (N := N) (l.take k) [] (inv_nil N))
    have hI5 := HI.out.len
    have Hrow := Lib.hid hrow; have Hnil := Lib.hid hnil
    clear hrow hnil
    by_cases hlt : k < l.length
    · obtain ⟨e, he⟩ : ∃ e, l[k]? = some e := ⟨_, List.getElem?_eq_getElem hlt⟩
      obtain ⟨b1, off1, rfl, h1'⟩ := Els.ev HL.out he
      have p0 := h1'.c0
      have p1 := h1'.c1
      have p2 := h1'.c2
      have p3 := h1'.c3
      have p4 := h1'.c4
      have p5 := h1'.c5
      have p6 := h1'.c6
      have p7 := h1'.c7
      have p8 := h1'.c8
      have Hnext := Lib.hid (addAll_take (N := N) he)
      have hk0 : (0 : Int) ≤ (k : Int) := by omega
      have hkl : (k : Int) < (l.length : Int) := by omega
      clear h1' he
      generalize addAll N [] (l.take k) = Lk at *
      go_wp2_with (go_at_call 15; refine (radd_s w _ N a Lk cap e Hrow.out hcap Hnil.out (by omega)).mono ?_; rintro _ _ ⟨a2, cap2, y1, rfl, rfl, hz, hc2, hn2, hrow⟩; have Hrow2 := Lib.hid hrow; have Hnil2 := Lib.hid hn2; clear hz hrow hn2)
      go_roundw
      case rel => exact ⟨k + 1, _, _, _, by omega, by go_num, by rw [Hnext.out], rfl, by rw [Hnext.out]; exact Hrow2.out, by rw [Hnext.out]; exact hc2, Hnil2.out⟩
      case measure => simp [intOf]; omega
    · obtain rfl : k = l.length := by omega
      go_wp2_with fail
      go_ret
      rw [List.take_length] at Hrow hcap
      exact ⟨a, cap, y, by rw [List.take_length]; rfl, rfl, Hrow.out, hcap⟩
end Go.Proofs.Ytcpfogbjbinjcaa
