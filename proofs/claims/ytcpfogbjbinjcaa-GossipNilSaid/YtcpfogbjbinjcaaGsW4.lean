/- The walks of replicas, fourth part: the order of events: what compares two of them lays blocks and draws, no more. -/
import Derived.Test.YtcpfogbjbinjcaaGsW1
import Derived.Deep.QuietTactic
import Derived.BigQuiet
import Derived.Shelf.SlSortCmp.NoneTotal
set_option linter.all false
namespace Go.Proofs.Ytcpfogbjbinjcaa
open Go.RowKit Go.ChangeMaps Go.Sort

/-- new blocks and draws, no more -/
def Gr (w w' : World) : Prop := ∃ (q : Nat) (os : Array Obj), w' = grow (w.drewN q) os
theorem Gr.refl (w : World) : Gr w w := ⟨0, #[], by simp [grow, World.drewN]⟩
theorem Gr.trans {a b c : World} (h : Gr a b) (k : Gr b c) : Gr a c := by
  obtain ⟨q, os, rfl⟩ := h
  obtain ⟨q', os', rfl⟩ := k
  exact ⟨q + q', os ++ os', by simp [grow, World.drewN, Nat.add_assoc, Array.append_assoc]⟩
theorem Gr.alloc (w : World) (o : Obj) : Gr w (w.alloc o) := ⟨0, #[o], by rw [alloc_eq_grow]; rfl⟩
theorem Gr.drewN (w : World) (q : Nat) : Gr w (w.drewN q) := ⟨q, #[], by rw [grow_empty]⟩
theorem Gr.since {w w' : World} (h : Gr w w') : ∃ y : Since w, w' = y.w := by
  obtain ⟨q, os, rfl⟩ := h
  exact ⟨⟨grow (w.drewN q) os, ⟨rfl, rfl, rfl, by simp [grow, World.drewN], fun b hb => by simp [grow, World.drewN, Array.getElem?_append, hb]⟩⟩, rfl⟩

structure GrW (w0 : World) where
  w : World
  g : Gr w0 w
instance (w0 : World) : Nonempty (GrW w0) := ⟨⟨w0, Gr.refl _⟩⟩
theorem wp_region_gr {P : Program} {id : Nat} {Q : Exit → Act → World → Prop} {a : Act} {w0 : World} {x : GrW w0} {l : List Oper} (hm : P.follows .mixedOrders = true) (hB : Region.lexB .any l.toArray = true)
    (h : wpQuiet P l.toArray (fun w' => ∃ y : GrW w0, w' = y.w) (fun a' => ∀ w', (∃ y : GrW w0, w' = y.w) → Q .normal a' w') l a) : (Code.region id l.toArray true).wp P Q a x.w :=
  wp_region_quiet (C := fun w' => ∃ y : GrW w0, w' = y.w) hm hB ⟨⟨_, x.g.trans (Gr.drewN x.w 1)⟩, rfl⟩ (by simpa using h)
theorem GrW.refl (w0 : World) : ∃ y : GrW w0, w0 = y.w := ⟨⟨w0, Gr.refl _⟩, rfl⟩
theorem GrW.step {w0 : World} (x : GrW w0) {w : World} (h : Gr x.w w) : ∃ y : GrW w0, w = y.w := ⟨⟨w, x.g.trans h⟩, rfl⟩
theorem GrW.cell {w0 : World} {a : Addr} {v : Value} (h : w0.cell? a = some v) (y : GrW w0) : y.w.cell? a = some v := by
  obtain ⟨z, e⟩ := y.g.since
  rw [e]
  have hb := World.block_lt_of_cell? w0 _ h
  rw [z.b.cell (p := a) hb]; exact h
/-- a number before another one -/
def ccmp (x y : Int) : Int := if x < y then -1 else if y < x then 1 else 0
theorem nan_calls (x : Int) (w : World) : Calls Try.prog 64 #[.int .i64 x] w fun e w' => e = .returned (.bool false) ∧ w = w' := by
  have h : (x != x) = false := by simp
  go_enter Try.func64, Try.ntmps64
  go_wp2_with fail
  go_ret
  exact ⟨rfl, rfl⟩
theorem ccmp_calls (x y : Int) (w : World) : Calls Try.prog 62 #[.int .i64 x, .int .i64 y] w fun e w' => e = .returned (.int .i64 (ccmp x y)) ∧ w = w' := by
  rcases (by omega : x < y ∨ (¬ x < y ∧ y < x) ∨ (¬ x < y ∧ ¬ y < x)) with h | ⟨h, h'⟩ | ⟨h, h'⟩
  · have hc := Lib.hid (show ccmp x y = -1 from by unfold ccmp; rw [if_pos h])
    go_enter Try.func62, Try.ntmps62
    go_wp2_with (go_at_call 64; refine (nan_calls _ _).mono ?_; rintro _ _ ⟨rfl, rfl⟩)
    go_ret
    exact ⟨ret_int hc.out.symm, rfl⟩
  · have hc := Lib.hid (show ccmp x y = 1 from by unfold ccmp; rw [if_neg h, if_pos h'])
    have h2 : y ≤ x := by omega
    go_enter Try.func62, Try.ntmps62
    go_wp2_with (go_at_call 64; refine (nan_calls _ _).mono ?_; rintro _ _ ⟨rfl, rfl⟩)
    go_ret
    exact ⟨ret_int hc.out.symm, rfl⟩
  · have hc := Lib.hid (show ccmp x y = 0 from by unfold ccmp; rw [if_neg h, if_neg h'])
    have h2 : y ≤ x := by omega
    have h3 : x ≤ y := by omega
    go_enter Try.func62, Try.ntmps62
    go_wp2_with (go_at_call 64; refine (nan_calls _ _).mono ?_; rintro _ _ ⟨rfl, rfl⟩)
    go_ret
    exact ⟨ret_int hc.out.symm, rfl⟩

/-- an event before another one -/
def ecmp (x y : Ev) : Int := if less x y then -1 else if less y x then 1 else 0
theorem lexB_at : ∀ (x y : List Int) (k : Nat), k < x.length → k < y.length → (∀ j, j < k → at0 x j = at0 y j) → at0 x k < at0 y k → lexB x y = true
  | [], _, _, h, _, _, _ => by simp at h
  | _ :: _, [], _, _, h, _, _ => by simp at h
  | x :: xs, y :: ys, 0, _, _, _, h => by
    have h' : x < y := h
    unfold lexB; rw [if_neg (by omega)]; simpa using h'
  | x :: xs, y :: ys, k + 1, h1, h2, hp, h => by
    have h0 : x = y := hp 0 (by omega)
    unfold lexB; rw [if_pos h0]
    exact lexB_at xs ys k (by simpa using h1) (by simpa using h2) (fun j hj => hp (j + 1) (by omega)) h
theorem ecmp_at {x y : Ev} {k : Nat} (hk : k < 9) (hp : ∀ j, j < k → at0 x.ks j = at0 y.ks j) (hne : at0 x.ks k ≠ at0 y.ks k) : ccmp (at0 x.ks k) (at0 y.ks k) = ecmp x y := by
  unfold ccmp ecmp
  by_cases h : at0 x.ks k < at0 y.ks k
  · have : less x y = true := lexB_at _ _ k (by rw [Ev.ks_len]; exact hk) (by rw [Ev.ks_len]; exact hk) hp h
    rw [if_pos h, this, if_pos rfl]
  · have h2 : at0 y.ks k < at0 x.ks k := by omega
    have h3 : less y x = true := lexB_at _ _ k (by rw [Ev.ks_len]; exact hk) (by rw [Ev.ks_len]; exact hk) (fun j hj => (hp j hj).symm) h2
    rw [if_neg h, if_pos h2, less_asymm h3, if_neg (by simp), h3, if_pos rfl]
theorem ks_ext {x y : Ev} (hp : ∀ j, j < 9 → at0 x.ks j = at0 y.ks j) : x = y := by
  apply Ev.ks_inj
  apply List.ext_getElem (by rw [Ev.ks_len, Ev.ks_len])
  intro i h1 h2
  have := hp i (by rw [Ev.ks_len] at h1; exact h1)
  unfold at0 at this
  simpa [List.getD_eq_getElem?_getD, h1, h2] using this
theorem ecmp_same (x : Ev) : ecmp x x = 0 := by unfold ecmp; simp [less_irrefl]
theorem ccmp_ne {x y : Int} (h : x ≠ y) : (ccmp x y != 0) = true := by
  unfold ccmp
  by_cases h1 : x < y
  · simp [h1]
  · have h2 : y < x := by omega
    rw [if_neg h1, if_pos h2]; rfl
theorem ccmp_eq {x y : Int} (h : x = y) : (ccmp x y != 0) = false := by subst h; unfold ccmp; simp

set_option maxHeartbeats 2000000 in
theorem ecmp_calls (x y : Ev) (w : World) : Calls Try.prog 56 #[x.ag, y.ag] w fun e w' => e = .returned (.int .i64 (ecmp x y)) ∧ Gr w w' := by
  unfold Ev.ag
  go_enter Try.func56, Try.ntmps56
  go_upto_region 3 with fail
  have hA : ∀ (k : Nat), k < 9 → (World.alloc (World.alloc (World.alloc (World.alloc w (.cells #[.int .i64 x.d, .int .i64 x.q, .int .i64 x.a, .int .i64 x.t, .int .i64 x.k, .int .i64 x.b, .int .i64 x.p, .int .i64 x.r, .int .i64 x.i] 33)) (.cells #[.int .i64 y.d, .int .i64 y.q, .int .i64 y.a, .int .i64 y.t, .int .i64 y.k, .int .i64 y.b, .int .i64 y.p, .int .i64 y.r, .int .i64 y.i] 33)) (.cells #[.int .i64 x.a, .int .i64 x.d, .int .i64 x.q, .int .i64 x.t, .int .i64 x.k, .int .i64 x.b, .int .i64 x.p, .int .i64 x.r, .int .i64 x.i] 103)) (.cells #[.int .i64 y.a, .int .i64 y.d, .int .i64 y.q, .int .i64 y.t, .int .i64 y.k, .int .i64 y.b, .int .i64 y.p, .int .i64 y.r, .int .i64 y.i] 103)).cell? ⟨w.heap.size + 1 + 1, k, none⟩ = some (.int .i64 (at0 x.ks k)) := fun k hk => by
    have hk9 : k = 0 ∨ k = 1 ∨ k = 2 ∨ k = 3 ∨ k = 4 ∨ k = 5 ∨ k = 6 ∨ k = 7 ∨ k = 8 := by omega
    rcases hk9 with rfl | rfl | rfl | rfl | rfl | rfl | rfl | rfl | rfl <;> (simp [go_sem]; rfl)
  have hB : ∀ (k : Nat), k < 9 → (World.alloc (World.alloc (World.alloc (World.alloc w (.cells #[.int .i64 x.d, .int .i64 x.q, .int .i64 x.a, .int .i64 x.t, .int .i64 x.k, .int .i64 x.b, .int .i64 x.p, .int .i64 x.r, .int .i64 x.i] 33)) (.cells #[.int .i64 y.d, .int .i64 y.q, .int .i64 y.a, .int .i64 y.t, .int .i64 y.k, .int .i64 y.b, .int .i64 y.p, .int .i64 y.r, .int .i64 y.i] 33)) (.cells #[.int .i64 x.a, .int .i64 x.d, .int .i64 x.q, .int .i64 x.t, .int .i64 x.k, .int .i64 x.b, .int .i64 x.p, .int .i64 x.r, .int .i64 x.i] 103)) (.cells #[.int .i64 y.a, .int .i64 y.d, .int .i64 y.q, .int .i64 y.t, .int .i64 y.k, .int .i64 y.b, .int .i64 y.p, .int .i64 y.r, .int .i64 y.i] 103)).cell? ⟨w.heap.size + 1 + 1 + 1, k, none⟩ = some (.int .i64 (at0 y.ks k)) := fun k hk => by
    have hk9 : k = 0 ∨ k = 1 ∨ k = 2 ∨ k = 3 ∨ k = 4 ∨ k = 5 ∨ k = 6 ∨ k = 7 ∨ k = 8 := by omega
    rcases hk9 with rfl | rfl | rfl | rfl | rfl | rfl | rfl | rfl | rfl <;> (simp [go_sem]; rfl)
  have hG : Gr w (World.alloc (World.alloc (World.alloc (World.alloc w (.cells #[.int .i64 x.d, .int .i64 x.q, .int .i64 x.a, .int .i64 x.t, .int .i64 x.k, .int .i64 x.b, .int .i64 x.p, .int .i64 x.r, .int .i64 x.i] 33)) (.cells #[.int .i64 y.d, .int .i64 y.q, .int .i64 y.a, .int .i64 y.t, .int .i64 y.k, .int .i64 y.b, .int .i64 y.p, .int .i64 y.r, .int .i64 y.i] 33)) (.cells #[.int .i64 x.a, .int .i64 x.d, .int .i64 x.q, .int .i64 x.t, .int .i64 x.k, .int .i64 x.b, .int .i64 x.p, .int .i64 x.r, .int .i64 x.i] 103)) (.cells #[.int .i64 y.a, .int .i64 y.d, .int .i64 y.q, .int .i64 y.t, .int .i64 y.k, .int .i64 y.b, .int .i64 y.p, .int .i64 y.r, .int .i64 y.i] 103)) := (((Gr.alloc _ _).trans (Gr.alloc _ _)).trans (Gr.alloc _ _)).trans (Gr.alloc _ _)
  generalize World.alloc (World.alloc (World.alloc (World.alloc w (.cells #[.int .i64 x.d, .int .i64 x.q, .int .i64 x.a, .int .i64 x.t, .int .i64 x.k, .int .i64 x.b, .int .i64 x.p, .int .i64 x.r, .int .i64 x.i] 33)) (.cells #[.int .i64 y.d, .int .i64 y.q, .int .i64 y.a, .int .i64 y.t, .int .i64 y.k, .int .i64 y.b, .int .i64 y.p, .int .i64 y.r, .int .i64 y.i] 33)) (.cells #[.int .i64 x.a, .int .i64 x.d, .int .i64 x.q, .int .i64 x.t, .int .i64 x.k, .int .i64 x.b, .int .i64 x.p, .int .i64 x.r, .int .i64 x.i] 103)) (.cells #[.int .i64 y.a, .int .i64 y.d, .int .i64 y.q, .int .i64 y.t, .int .i64 y.k, .int .i64 y.b, .int .i64 y.p, .int .i64 y.r, .int .i64 y.i] 103) = W1 at *
  generalize w.heap.size + 1 + 1 + 1 = gy at *
  generalize w.heap.size + 1 + 1 = gx at *
  go_wp2_with fail
  have HG := Lib.hid hG
  clear hG
  go_loopw [47] (fun i wr => ∃ (k : Nat) (y' : GrW W1), k ≤ 9 ∧ i = .int .i64 k ∧ wr = y'.w ∧ ∀ j, j < k → at0 x.ks j = at0 y.ks j) (fun i _ => 9 - (intOf i).toNat)
  case atStart => exact ⟨0, ⟨W1, Gr.refl _⟩, by omega, rfl, rfl, fun j hj => by omega⟩
  case round =>
    obtain ⟨k, z, hk, rfl, rfl, hp⟩ := hrel
    have Hp := Lib.hid hp
    clear hp
    by_cases hlt : k < 9
    · have ca : ∀ z : GrW W1, z.w.cell? ⟨gx, k, none⟩ = some (.int .i64 (at0 x.ks k)) := GrW.cell (hA k hlt)
      have cb : ∀ z : GrW W1, z.w.cell? ⟨gy, k, none⟩ = some (.int .i64 (at0 y.ks k)) := GrW.cell (hB k hlt)
      have hk0 : (0 : Int) ≤ (k : Int) := by omega
      have hk9 : (k : Int) < 9 := by omega
      by_cases hne : at0 x.ks k = at0 y.ks k
      · have hc := ccmp_eq hne
        have hp2 : ∀ j, j < k + 1 → at0 x.ks j = at0 y.ks j := fun j hj => by
          by_cases hjk : j < k
          · exact Hp.out j hjk
          · obtain rfl : j = k := by omega
            exact hne
        have Hp2 := Lib.hid hp2
        clear hp2 hA hB hne
        generalize at0 x.ks k = u at *
        generalize at0 y.ks k = v at *
        go_wp2_with fail
        refine wp_region_gr (by kernel_rfl) (by kernel_rfl) ?_
        repeat (go_big_quiet_step ((go_at_call 62; exact (ccmp_calls _ _ _).mono fun _ _ h => ⟨h.1, _, h.2.symm⟩)))
        refine wpQuiet_nil ?_
        rintro _ ⟨z2, rfl⟩
        go_wp2_with fail
        go_roundw
        case rel => exact ⟨k + 1, z2, by omega, by go_num, rfl, Hp2.out⟩
        case measure => simp [intOf]; omega
      · have hc := ccmp_ne hne
        have hres := Lib.hid (ecmp_at hlt Hp.out hne)
        clear hA hB hne
        generalize at0 x.ks k = u at *
        generalize at0 y.ks k = v at *
        go_wp2_with fail
        refine wp_region_gr (by kernel_rfl) (by kernel_rfl) ?_
        repeat (go_big_quiet_step ((go_at_call 62; exact (ccmp_calls _ _ _).mono fun _ _ h => ⟨h.1, _, h.2.symm⟩)))
        refine wpQuiet_nil ?_
        rintro _ ⟨z2, rfl⟩
        go_wp2_with fail
        go_ret
        exact ⟨ret_int hres.out, HG.out.trans z2.g⟩
    · obtain rfl : k = 9 := by omega
      have hxy := ks_ext Hp.out
      have hres := Lib.hid (show ecmp x y = 0 from by rw [hxy]; exact ecmp_same y)
      clear hxy hA hB
      go_wp2_with fail
      go_ret
      exact ⟨ret_int hres.out.symm, HG.out.trans z.g⟩
end Go.Proofs.Ytcpfogbjbinjcaa
