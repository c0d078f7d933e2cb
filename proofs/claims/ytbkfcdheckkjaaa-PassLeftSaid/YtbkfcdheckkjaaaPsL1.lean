/- The laws of passes, first part: the chapter's passes and rides. -/
import Derived.Test.YtbkfcdheckkjaaaPsR6
set_option linter.all false
namespace Go.Proofs.Ytbkfcdheckkjaaa
open Go.RowKit

theorem els_new {α : Type} {enc : α → List Value} {k : Nat} (hk : ∀ x, (enc x).length = k) (w : World) (l : List α) (T : TypeId) : Els enc k (w.alloc (.cells (flat enc l).toArray T)) (some ⟨w.heap.size, 0, none⟩) l := by
  intro i x hx
  refine ⟨w.heap.size, 0, rfl, by simp, fun j v hv => ?_⟩
  have := cell_new_at w (flat enc l) T (i * k + j) v (flat_at hk l i x j v hx hv)
  rw [Addr.add_lit] at this
  rw [show 0 + i * k + j = 0 + (i * k + j) by omega]
  exact this
def passesL : List Pass := [⟨5, 1, 0, 3, 1, 0⟩, ⟨3, 1, 1, 10, 2, 0⟩]
theorem passes_fl : (flat Pass.cs passesL).toArray = #[.int .i64 5, .int .i64 1, .int .i64 0, .int .i64 3, .int .i64 1, .int .i64 0, .int .i64 3, .int .i64 1, .int .i64 1, .int .i64 10, .int .i64 2, .int .i64 0] := rfl
def PassRes (w : World) (o : Ending) (w' : World) : Prop := ∃ (a : Option Addr) (c : Nat) (y : Since w), o = .returned (.slice a 2 c) ∧ w' = y.w ∧ PassRow y.w a passesL
theorem passes_calls (w : World) (x : Since w) : Calls Try.prog 22 #[] x.w (PassRes w) := by
  have hE := Lib.hid (els_new Pass.len x.w passesL 49)
  rw [passes_fl] at hE
  go_enter Try.func22, Try.ntmps22
  go_wp2_with fail
  go_ret
  obtain ⟨y, hy⟩ := x.alloc (.cells #[.int .i64 5, .int .i64 1, .int .i64 0, .int .i64 3, .int .i64 1, .int .i64 0, .int .i64 3, .int .i64 1, .int .i64 1, .int .i64 10, .int .i64 2, .int .i64 0] 49)
  exact ⟨_, 2, y, rfl, hy, hy ▸ hE.out⟩
/-- a ride without the places of its lists -/
def Ride.bare (r : Ride) : Ride := { r with la := none, lc := 0, pa := none, pc := 0 }
def rideX (i : Nat) : Ride := ⟨i + 1, 1, 90000 + i, 90000 + i, 90100, 90100, false, none, [⟨0, 90000 + i, 90000 + i, 90100, 90100⟩], 0, none, [], 0, 0, 0, 2, 0⟩
def ridesL : List Ride := [rideX 0, rideX 1, rideX 2, rideX 3]
def zeroRide : Value := .agg #[.int .i64 0, .int .i64 0, .int .i64 0, .int .i64 0, .int .i64 0, .int .i64 0, .bool false, .slice none 0 0, .slice none 0 0, .int .i64 0, .int .i64 0, .int .i64 0, .int .i64 0]
theorem sRide : SliceOf Try.prog 27 44 zeroRide 13 136 := SliceOf.mk' Try.underlying27 (by kernel_rfl) rfl (by decide)
theorem sPass : SliceOf Try.prog 22 49 (.agg #[.int .i64 0, .int .i64 0, .int .i64 0, .int .i64 0, .int .i64 0, .int .i64 0]) 6 48 := SliceOf.mk' Try.underlying22 (by kernel_rfl) rfl (by decide)
theorem ride_one (r : Ride) : ∀ u ∈ r.cs, u.oneCell' = true := by
  intro u hu
  simp [Ride.cs] at hu
  rcases hu with h | h | h | h | h | h | h | h | h | h | h | h | h <;> subst h <;> rfl
theorem pass_one (r : Pass) : ∀ u ∈ r.cs, u.oneCell' = true := by
  intro u hu
  simp [Pass.cs] at hu
  rcases hu with h | h | h | h | h | h <;> subst h <;> rfl
def RideRes (w : World) (L : List Ride) (o : Ending) (w' : World) : Prop := ∃ (a : Option Addr) (c : Nat) (R : List Ride) (y : Since w), o = .returned (.slice a R.length c) ∧ w' = y.w ∧ RideRow y.w a R ∧ R.map Ride.bare = L ∧ R.length ≤ c
/-- the legs of a ride lie alone in a block -/
structure LegAt (w : World) (r : Ride) (T : TypeId) : Prop where
  l : ∃ g, r.la = some ⟨g, 0, none⟩ ∧ w.heap[g]? = some (.cells (flat Leg.cs r.legs).toArray T)
  p : r.pauses = []
  n : r.legs.length ≤ 9223372036854775807
theorem LegAt.at {w : World} {r : Ride} {T : TypeId} (h : LegAt w r T) : r.At w := by
  obtain ⟨g, hg, hh⟩ := h.l
  refine ⟨fun i x hx => ⟨g, 0, hg, (Array.getElem?_eq_some_iff.1 hh).1, fun j v hv => ?_⟩, by rw [h.p]; exact els_nil _ _, h.n, by rw [h.p]; simp⟩
  have := flat_at Leg.len r.legs i x j v hx hv
  simp only [World.cell?, hh, Nat.zero_add]
  simpa using this
theorem LegAt.keep {w w' : World} {r : Ride} {T e : TypeId} {base n : Nat} {v : Value} {xs : List Value} (h : LegAt w r T) (hg : w.grownBy w' v.ownBlock) (hown : w.ownsRow base e 13 v n xs) (hne : e ≠ T) : LegAt w' r T := by
  obtain ⟨g, h1, hh⟩ := h.l
  refine ⟨⟨g, h1, ?_⟩, h.p, h.n⟩
  rw [hg.block g (Array.getElem?_eq_some_iff.1 hh).1 ?_]; exact hh
  obtain ⟨_, ⟨rfl, _⟩ | ⟨g', cap, cur, rfl, _, hh', _⟩⟩ := hown
  · simp [Value.ownBlock]
  · intro he
    have he' : g = g' := by simpa [Value.ownBlock] using he
    subst he'
    rw [hh] at hh'
    simp only [Option.some.injEq, Obj.cells.injEq] at hh'
    exact hne hh'.2.1.symm
theorem LegAt.to {w W : World} {r : Ride} {T : TypeId} (h : LegAt w r T) (hW : ∃ z : Since w, W = z.w) : LegAt W r T := by
  obtain ⟨z, rfl⟩ := hW
  obtain ⟨g, h1, hh⟩ := h.l
  exact ⟨⟨g, h1, Since.heap hh z⟩, h.p, h.n⟩
def rideXa (k g : Nat) : Ride := ⟨k + 1, 1, 90000 + k, 90000 + k, 90100, 90100, false, some ⟨g, 0, none⟩, [⟨0, 90000 + k, 90000 + k, 90100, 90100⟩], 1, none, [], 0, 0, 0, 2, 0⟩
theorem ridesL_take (k : Nat) (h : k < 4) : ridesL.take (k + 1) = ridesL.take k ++ [rideX k] := by
  match k, h with
  | 0, _ => rfl
  | 1, _ => rfl
  | 2, _ => rfl
  | 3, _ => rfl
set_option maxRecDepth 100000 in
set_option maxHeartbeats 8000000 in
theorem rides_calls (w : World) (x : Since w) : Calls Try.prog 23 #[] x.w (RideRes w ridesL) := by
  go_enter Try.func23, Try.ntmps23
  go_wp2_with fail
  go_loopw [1, 2] (fun v i wr => ∃ (k : Nat) (R : List Ride) (y : Since w), k ≤ 4 ∧ i = .int .i64 k ∧ wr = y.w ∧ y.w.ownsRow w.heap.size 44 13 v k (flat Ride.cs R) ∧ R.map Ride.bare = ridesL.take k ∧ ∀ r ∈ R, LegAt y.w r 69) (fun _ i _ => 4 - (intOf i).toNat)
  case atStart => exact ⟨0, [], x, by omega, rfl, rfl, ⟨rfl, .inl ⟨rfl, rfl⟩⟩, rfl, fun r hr => by cases hr⟩
  case round =>
    obtain ⟨k, R, y, hk, rfl, rfl, hown, hR, hat⟩ := hrel
    have Hown := Lib.hid hown; have HR := Lib.hid hR; have Hat := Lib.hid hat
    clear hown hR hat
    by_cases hlt : k < 4
    · have hk0 : (0 : Int) ≤ (k : Int) := by omega
      have hkl : (k : Int) < 4 := by omega
      go_upto_region 6 with fail
      have hs0_0 : ((y.w.alloc (.cells #[.int .i64 (90000 + (k : Int)), .int .i64 (90000 + (k : Int))] 40)).alloc (.cells #[.int .i64 90100, .int .i64 90100] 40)).cell? ⟨y.w.heap.size, 0, none⟩ = some (.int .i64 (90000 + (k : Int))) := by simp [go_sem]
      have hs0_1 : ((y.w.alloc (.cells #[.int .i64 (90000 + (k : Int)), .int .i64 (90000 + (k : Int))] 40)).alloc (.cells #[.int .i64 90100, .int .i64 90100] 40)).cell? ⟨y.w.heap.size, 1, none⟩ = some (.int .i64 (90000 + (k : Int))) := by simp [go_sem]
      have hs1_0 : ((y.w.alloc (.cells #[.int .i64 (90000 + (k : Int)), .int .i64 (90000 + (k : Int))] 40)).alloc (.cells #[.int .i64 90100, .int .i64 90100] 40)).cell? ⟨y.w.heap.size + 1, 0, none⟩ = some (.int .i64 90100) := by simp [go_sem]
      have hs1_1 : ((y.w.alloc (.cells #[.int .i64 (90000 + (k : Int)), .int .i64 (90000 + (k : Int))] 40)).alloc (.cells #[.int .i64 90100, .int .i64 90100] 40)).cell? ⟨y.w.heap.size + 1, 1, none⟩ = some (.int .i64 90100) := by simp [go_sem]
      have hs0_f : ∀ o, ((y.w.alloc (.cells #[.int .i64 (90000 + (k : Int)), .int .i64 (90000 + (k : Int))] 40)).alloc (.cells #[.int .i64 90100, .int .i64 90100] 40)).frozen? ⟨y.w.heap.size, o, none⟩ = false := fun o => by simp [go_sem]
      have hs1_f : ∀ o, ((y.w.alloc (.cells #[.int .i64 (90000 + (k : Int)), .int .i64 (90000 + (k : Int))] 40)).alloc (.cells #[.int .i64 90100, .int .i64 90100] 40)).frozen? ⟨y.w.heap.size + 1, o, none⟩ = false := fun o => by simp [go_sem]
      have hlt0 : y.w.heap.size + 1 < ((y.w.alloc (.cells #[.int .i64 (90000 + (k : Int)), .int .i64 (90000 + (k : Int))] 40)).alloc (.cells #[.int .i64 90100, .int .i64 90100] 40)).heap.size := by simp
      have hst0 : ∃ zz : Since y.w, ((y.w.alloc (.cells #[.int .i64 (90000 + (k : Int)), .int .i64 (90000 + (k : Int))] 40)).alloc (.cells #[.int .i64 90100, .int .i64 90100] 40)) = zz.w := IsSince.alloc (IsSince.alloc (IsSince.self _) _) _
      have hsz0 := y.b.size
      obtain ⟨y2, e2⟩ := IsSince.alloc (IsSince.alloc (IsSince.of y) (.cells #[.int .i64 (90000 + (k : Int)), .int .i64 (90000 + (k : Int))] 40)) (.cells #[.int .i64 90100, .int .i64 90100] 40)
      rw [e2] at hs0_0 hs0_1 hs1_0 hs1_1 hs0_f hs1_f hlt0 hst0 ⊢
      (replace Hown := Lib.hid (own_to Hown.out hst0); replace Hat := Lib.hid (fun r hr => (Hat.out r hr).to hst0))
      clear e2 hst0
      generalize y.w.heap.size = gs at *
      have Hhs0_0 : ∀ q : Since y2.w, q.w.cell? ⟨gs, 0, none⟩ = some (.int .i64 (90000 + (k : Int))) := fun q => Since.cell hs0_0 (by omega) q
      have Hhs0_1 : ∀ q : Since y2.w, q.w.cell? ⟨gs, 1, none⟩ = some (.int .i64 (90000 + (k : Int))) := fun q => Since.cell hs0_1 (by omega) q
      have Hhs1_0 : ∀ q : Since y2.w, q.w.cell? ⟨gs + 1, 0, none⟩ = some (.int .i64 90100) := fun q => Since.cell hs1_0 (by omega) q
      have Hhs1_1 : ∀ q : Since y2.w, q.w.cell? ⟨gs + 1, 1, none⟩ = some (.int .i64 90100) := fun q => Since.cell hs1_1 (by omega) q
      have Hhs0_f : ∀ (q : Since y2.w) (o : Nat), q.w.frozen? ⟨gs, o, none⟩ = false := fun q o => Since.free (hs0_f o) (by omega) q
      have Hhs1_f : ∀ (q : Since y2.w) (o : Nat), q.w.frozen? ⟨gs + 1, o, none⟩ = false := fun q o => Since.free (hs1_f o) (by omega) q
      have Hhsg := Lib.hid (And.intro hsz0 hlt0)
      clear hlt0 hsz0
      have hst1 : IsSince y2.w ((y2.w.alloc (.cells #[.int .i64 0, .int .i64 (90000 + (k : Int)), .int .i64 (90000 + (k : Int)), .int .i64 90100, .int .i64 90100] 69))) := IsSince.alloc (IsSince.self _) _
      have Hst1 := Lib.hid hst1
      clear hst1
      go_wp2_with (at_builtin; (refine wpList_appendK (w0 := w) ?hw rfl _ _ 27 rfl w.heap.size (Nat.le_refl _) ?hb 44 zeroRide 136 sRide u1 k (flat Ride.cs R) rfl ?hown ⟨y2.w.heap.size + 1, 0, none⟩ 1 1 (rideXa k y2.w.heap.size).cs rfl rfl ?hc (ride_one _) ?h63 ?hbytes ?_; rotate_right 1; intro v2 q2 hown4 _ hg4))
      case hw => exact IsSince.alloc (IsSince.alloc (IsSince.of y2) _) _
      case hb => have := y2.b.size; simp; omega
      case hown => exact own_to Hown.out (IsSince.alloc (IsSince.alloc (IsSince.self _) _) _)
      case hc =>
        intro j v hv
        have := cell_new_at (y2.w.alloc (.cells #[.int .i64 0, .int .i64 (90000 + (k : Int)), .int .i64 (90000 + (k : Int)), .int .i64 90100, .int .i64 90100] 69)) (rideXa k y2.w.heap.size).cs 44 j v hv
        rw [show (y2.w.alloc (.cells #[.int .i64 0, .int .i64 (90000 + (k : Int)), .int .i64 (90000 + (k : Int)), .int .i64 90100, .int .i64 90100] 69)).heap.size = y2.w.heap.size + 1 by simp] at this
        exact this
      case h63 => unfold maxLen; omega
      case hbytes => omega
      have hown5 : q2.w.ownsRow w.heap.size 44 13 v2 (k + 1) (flat Ride.cs (R ++ [rideXa k y2.w.heap.size])) := by rw [flat_append, flat_one]; exact hown4
      have hbl : ((y2.w.alloc (.cells #[.int .i64 0, .int .i64 (90000 + (k : Int)), .int .i64 (90000 + (k : Int)), .int .i64 90100, .int .i64 90100] 69)).alloc (.cells (rideXa k y2.w.heap.size).cs.toArray 44)).heap[y2.w.heap.size]? = some (.cells #[.int .i64 0, .int .i64 (90000 + (k : Int)), .int .i64 (90000 + (k : Int)), .int .i64 90100, .int .i64 90100] 69) := by
        show ((y2.w.heap.push _).push _)[y2.w.heap.size]? = _
        rw [Array.getElem?_push, if_neg (by simp), Array.getElem?_push, if_pos rfl]
      have Hnew := Lib.hid (LegAt.keep (r := rideXa k y2.w.heap.size) (T := 69) ⟨⟨_, rfl, hbl⟩, rfl, show (1 : Nat) ≤ _ by decide⟩ hg4 (own_to Hown.out (IsSince.alloc (IsSince.alloc (IsSince.self _) _) _)) (by decide))
      have Hold := Lib.hid (fun r hr => LegAt.keep ((Hat.out r hr).to (IsSince.alloc (IsSince.alloc (IsSince.self _) _) _)) hg4 (own_to Hown.out (IsSince.alloc (IsSince.alloc (IsSince.self _) _) _)) (by decide))
      have Hown5 := Lib.hid hown5
      clear hown4 hg4 hown5 hbl
      go_wp2_with fail
      go_roundw
      case rel => exact ⟨k + 1, R ++ [rideXa k y2.w.heap.size], q2, by omega, by go_num, rfl, Hown5.out, by rw [List.map_append, HR.out, ridesL_take k hlt]; rfl, fun r hr => by
        rcases List.mem_append.1 hr with h | h
        · exact Hold.out r h
        · simp at h; subst h; exact Hnew.out⟩
      case measure => simp [intOf] <;> omega
    · obtain rfl : k = 4 := by omega
      obtain ⟨hlen, a3, c3, rfl, hc3, he3, _, _⟩ := own_els Ride.len (by decide) Hown.out
      have H3 := Lib.hid (And.intro hc3 he3)
      have Hl := Lib.hid hlen
      clear hc3 he3 hlen
      go_wp2_with fail
      go_ret
      exact ⟨a3, c3, R, y, rfl, rfl, ⟨H3.out.2, fun r hr => (Hat.out r hr).at⟩, HR.out, H3.out.1⟩
end Go.Proofs.Ytbkfcdheckkjaaa
