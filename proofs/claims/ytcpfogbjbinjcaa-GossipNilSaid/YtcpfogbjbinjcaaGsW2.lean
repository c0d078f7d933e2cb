/- The walks of replicas, second part: fits. -/
import Derived.Test.YtcpfogbjbinjcaaGsW1
import Derived.Test.YtcpfogbjbinjcaaMapW
import Derived.Test.YtcpfogbjbinjcaaHeld
set_option linter.all false
namespace Go.Proofs.Ytcpfogbjbinjcaa
open Go.RowKit Go.ChangeMaps

theorem fits_no {l : List Ev} {i : Nat} {x e : Ev} (hi : l[i]? = some x) (h : late x e = true) : fitsB l e = false := by
  cases hf : fitsB l e
  · rfl
  · have := (fitsB_iff l e).1 hf x (List.mem_of_getElem? hi)
    rw [h] at this; cases this
theorem fits_yes {l : List Ev} {e : Ev} {seen : Array Nat} (h : ∀ i, i < l.length → i ∈ seen) (hs : ∀ i ∈ seen, ∀ x, l[i]? = some x → late x e = false) : fitsB l e = true := by
  rw [fitsB_iff]
  intro x hx
  obtain ⟨i, hi⟩ := List.mem_iff_getElem?.1 hx
  exact hs i (h i (List.getElem?_eq_some_iff.1 hi).1) x hi

set_option maxHeartbeats 2000000 in
theorem fits_calls (w : World) (x : Since w) (p bm : Nat) (n : Int) (l : List Ev) (e : Ev) (hR : RepAt w p bm n l) :
    Calls Try.prog 33 #[.pointer (some ⟨p, 0, none⟩), e.ag] x.w fun o w' => o = .returned (.bool (fitsB l e)) ∧ ∃ y : Since w, w' = y.w := by
  have hev : e.ag = .agg #[.int .i64 e.d, .int .i64 e.q, .int .i64 e.a, .int .i64 e.t, .int .i64 e.k, .int .i64 e.b, .int .i64 e.p, .int .i64 e.r, .int .i64 e.i] := rfl
  rw [hev]
  go_enter Try.func33, Try.ntmps33
  go_upto_region 1 with fail
  have hb0_0 : ∀ y : Since (x.w.alloc (.cells #[.int .i64 e.d, .int .i64 e.q, .int .i64 e.a, .int .i64 e.t, .int .i64 e.k, .int .i64 e.b, .int .i64 e.p, .int .i64 e.r, .int .i64 e.i] 33)), y.w.cell? ⟨x.w.heap.size, 0, none⟩ = some (.int .i64 e.d) := fun y => Since.cell (by simp [go_sem]) (by first | (simp; done) | (simp; omega)) y
  have hb0_1 : ∀ y : Since (x.w.alloc (.cells #[.int .i64 e.d, .int .i64 e.q, .int .i64 e.a, .int .i64 e.t, .int .i64 e.k, .int .i64 e.b, .int .i64 e.p, .int .i64 e.r, .int .i64 e.i] 33)), y.w.cell? ⟨x.w.heap.size, 1, none⟩ = some (.int .i64 e.q) := fun y => Since.cell (by simp [go_sem]) (by first | (simp; done) | (simp; omega)) y
  have hb0_2 : ∀ y : Since (x.w.alloc (.cells #[.int .i64 e.d, .int .i64 e.q, .int .i64 e.a, .int .i64 e.t, .int .i64 e.k, .int .i64 e.b, .int .i64 e.p, .int .i64 e.r, .int .i64 e.i] 33)), y.w.cell? ⟨x.w.heap.size, 2, none⟩ = some (.int .i64 e.a) := fun y => Since.cell (by simp [go_sem]) (by first | (simp; done) | (simp; omega)) y
  have hb0_3 : ∀ y : Since (x.w.alloc (.cells #[.int .i64 e.d, .int .i64 e.q, .int .i64 e.a, .int .i64 e.t, .int .i64 e.k, .int .i64 e.b, .int .i64 e.p, .int .i64 e.r, .int .i64 e.i] 33)), y.w.cell? ⟨x.w.heap.size, 3, none⟩ = some (.int .i64 e.t) := fun y => Since.cell (by simp [go_sem]) (by first | (simp; done) | (simp; omega)) y
  have hb0_4 : ∀ y : Since (x.w.alloc (.cells #[.int .i64 e.d, .int .i64 e.q, .int .i64 e.a, .int .i64 e.t, .int .i64 e.k, .int .i64 e.b, .int .i64 e.p, .int .i64 e.r, .int .i64 e.i] 33)), y.w.cell? ⟨x.w.heap.size, 4, none⟩ = some (.int .i64 e.k) := fun y => Since.cell (by simp [go_sem]) (by first | (simp; done) | (simp; omega)) y
  have hb0_5 : ∀ y : Since (x.w.alloc (.cells #[.int .i64 e.d, .int .i64 e.q, .int .i64 e.a, .int .i64 e.t, .int .i64 e.k, .int .i64 e.b, .int .i64 e.p, .int .i64 e.r, .int .i64 e.i] 33)), y.w.cell? ⟨x.w.heap.size, 5, none⟩ = some (.int .i64 e.b) := fun y => Since.cell (by simp [go_sem]) (by first | (simp; done) | (simp; omega)) y
  have hb0_6 : ∀ y : Since (x.w.alloc (.cells #[.int .i64 e.d, .int .i64 e.q, .int .i64 e.a, .int .i64 e.t, .int .i64 e.k, .int .i64 e.b, .int .i64 e.p, .int .i64 e.r, .int .i64 e.i] 33)), y.w.cell? ⟨x.w.heap.size, 6, none⟩ = some (.int .i64 e.p) := fun y => Since.cell (by simp [go_sem]) (by first | (simp; done) | (simp; omega)) y
  have hb0_7 : ∀ y : Since (x.w.alloc (.cells #[.int .i64 e.d, .int .i64 e.q, .int .i64 e.a, .int .i64 e.t, .int .i64 e.k, .int .i64 e.b, .int .i64 e.p, .int .i64 e.r, .int .i64 e.i] 33)), y.w.cell? ⟨x.w.heap.size, 7, none⟩ = some (.int .i64 e.r) := fun y => Since.cell (by simp [go_sem]) (by first | (simp; done) | (simp; omega)) y
  have hb0_8 : ∀ y : Since (x.w.alloc (.cells #[.int .i64 e.d, .int .i64 e.q, .int .i64 e.a, .int .i64 e.t, .int .i64 e.k, .int .i64 e.b, .int .i64 e.p, .int .i64 e.r, .int .i64 e.i] 33)), y.w.cell? ⟨x.w.heap.size, 8, none⟩ = some (.int .i64 e.i) := fun y => Since.cell (by simp [go_sem]) (by first | (simp; done) | (simp; omega)) y
  have hf0 : ∀ (y : Since (x.w.alloc (.cells #[.int .i64 e.d, .int .i64 e.q, .int .i64 e.a, .int .i64 e.t, .int .i64 e.k, .int .i64 e.b, .int .i64 e.p, .int .i64 e.r, .int .i64 e.i] 33))) (o : Nat), y.w.frozen? ⟨x.w.heap.size, o, none⟩ = false := fun y o => Since.free (by simp [go_sem]) (by first | (simp; done) | (simp; omega)) y
  have hWup : ∃ z : Since w, (x.w.alloc (.cells #[.int .i64 e.d, .int .i64 e.q, .int .i64 e.a, .int .i64 e.t, .int .i64 e.k, .int .i64 e.b, .int .i64 e.p, .int .i64 e.r, .int .i64 e.i] 33)) = z.w := x.alloc _
  obtain ⟨y0, hy0⟩ := Since.refl (x.w.alloc (.cells #[.int .i64 e.d, .int .i64 e.q, .int .i64 e.a, .int .i64 e.t, .int .i64 e.k, .int .i64 e.b, .int .i64 e.p, .int .i64 e.r, .int .i64 e.i] 33))
  have Hbx := Lib.hid (And.intro x.b.size (show x.w.heap.size + 1 = (x.w.alloc (.cells #[.int .i64 e.d, .int .i64 e.q, .int .i64 e.a, .int .i64 e.t, .int .i64 e.k, .int .i64 e.b, .int .i64 e.p, .int .i64 e.r, .int .i64 e.i] 33)).heap.size from by simp))
  generalize hW : (x.w.alloc (.cells #[.int .i64 e.d, .int .i64 e.q, .int .i64 e.a, .int .i64 e.t, .int .i64 e.k, .int .i64 e.b, .int .i64 e.p, .int .i64 e.r, .int .i64 e.i] 33)) = W at *
  clear hW
  generalize x.w.heap.size = bx at *
  have Hup := Lib.hid (Since.up hWup)
  rw [hy0]
  clear hy0
  replace hR := hR.to hWup
  clear hWup
  have hc1 : ∀ y : Since W, y.w.cell? ⟨p, 1, none⟩ = some (.map (some bm)) := fun y => (hR.since y).c1
  have hml : (l.map evP).length = l.length := by simp
  have Hml := Lib.hid hml; clear hml
  go_wp2_with (at_range; refine wpList_rangeM (w0 := W) ⟨_, rfl⟩ rfl _ _ rfl Try.underlying67 rfl (hR.since _).m ?_; intro q r hm hit hr0 hrs hgr)
  have hM := hR.m
  clear hm hrs hgr
  go_frame
  go_loopw [6] (fun _ wr => ∃ (seen : Array Nat) (y : Since W), wr = y.w ∧ IterAt wr bm r (l.map evP).length seen ∧ SeenOk (l.map evP).length seen ∧ ∀ i ∈ seen, ∀ x, l[i]? = some x → late x e = false) (fun _ wr => iterN wr r)
  case atStart => exact ⟨#[], q, rfl, hit, seenOk_nil _, fun i hi => by simp at hi⟩
  case round =>
    clear hit
    obtain ⟨seen, y, rfl, hit, hso, hall⟩ := hrel
    have Hall := Lib.hid hall; clear hall
    have Hit := Lib.hid hit
    have Hso := Lib.hid hso
    go_wp2_with (at_next; refine wpList_nextM (w0 := W) ⟨_, rfl⟩ rfl _ rfl hr0 rfl (hM.since _) hit hso ?_ ?_)
    · intro hdone
      have hres := Lib.hid (fits_yes hdone Hall.out)
      clear hdone
      go_wp2_with fail
      go_ret
      exact ⟨ret_bool hres.out.symm, Hup.out _⟩
    · intro i a b v q x hi hev hn hm hit2 hso2 hgr hen
      simp only [evP, Prod.mk.injEq] at hev
      obtain ⟨⟨rfl, rfl⟩, rfl⟩ := hev
      simp only [ekey, Ev.ag] at hen ⊢
      clear hm hgr
      have Hit2 := Lib.hid hit2
      have Hso2 := Lib.hid hso2
      clear hit2 hso2
      have Hi := Lib.hid hi
      clear hi
      go_upto_region 4 with fail
      have hx0 : (q.w.alloc (.cells #[.int .i64 x.d, .int .i64 x.q, .int .i64 x.a, .int .i64 x.t, .int .i64 x.k, .int .i64 x.b, .int .i64 x.p, .int .i64 x.r, .int .i64 x.i] 33)).cell? ⟨q.w.heap.size, 0, none⟩ = some (.int .i64 x.d) := by simp [go_sem]
      have hx1 : (q.w.alloc (.cells #[.int .i64 x.d, .int .i64 x.q, .int .i64 x.a, .int .i64 x.t, .int .i64 x.k, .int .i64 x.b, .int .i64 x.p, .int .i64 x.r, .int .i64 x.i] 33)).cell? ⟨q.w.heap.size, 1, none⟩ = some (.int .i64 x.q) := by simp [go_sem]
      have hx2 : (q.w.alloc (.cells #[.int .i64 x.d, .int .i64 x.q, .int .i64 x.a, .int .i64 x.t, .int .i64 x.k, .int .i64 x.b, .int .i64 x.p, .int .i64 x.r, .int .i64 x.i] 33)).cell? ⟨q.w.heap.size, 2, none⟩ = some (.int .i64 x.a) := by simp [go_sem]
      have hx3 : (q.w.alloc (.cells #[.int .i64 x.d, .int .i64 x.q, .int .i64 x.a, .int .i64 x.t, .int .i64 x.k, .int .i64 x.b, .int .i64 x.p, .int .i64 x.r, .int .i64 x.i] 33)).cell? ⟨q.w.heap.size, 3, none⟩ = some (.int .i64 x.t) := by simp [go_sem]
      have hx4 : (q.w.alloc (.cells #[.int .i64 x.d, .int .i64 x.q, .int .i64 x.a, .int .i64 x.t, .int .i64 x.k, .int .i64 x.b, .int .i64 x.p, .int .i64 x.r, .int .i64 x.i] 33)).cell? ⟨q.w.heap.size, 4, none⟩ = some (.int .i64 x.k) := by simp [go_sem]
      have hx5 : (q.w.alloc (.cells #[.int .i64 x.d, .int .i64 x.q, .int .i64 x.a, .int .i64 x.t, .int .i64 x.k, .int .i64 x.b, .int .i64 x.p, .int .i64 x.r, .int .i64 x.i] 33)).cell? ⟨q.w.heap.size, 5, none⟩ = some (.int .i64 x.b) := by simp [go_sem]
      have hx6 : (q.w.alloc (.cells #[.int .i64 x.d, .int .i64 x.q, .int .i64 x.a, .int .i64 x.t, .int .i64 x.k, .int .i64 x.b, .int .i64 x.p, .int .i64 x.r, .int .i64 x.i] 33)).cell? ⟨q.w.heap.size, 6, none⟩ = some (.int .i64 x.p) := by simp [go_sem]
      have hx7 : (q.w.alloc (.cells #[.int .i64 x.d, .int .i64 x.q, .int .i64 x.a, .int .i64 x.t, .int .i64 x.k, .int .i64 x.b, .int .i64 x.p, .int .i64 x.r, .int .i64 x.i] 33)).cell? ⟨q.w.heap.size, 7, none⟩ = some (.int .i64 x.r) := by simp [go_sem]
      have hx8 : (q.w.alloc (.cells #[.int .i64 x.d, .int .i64 x.q, .int .i64 x.a, .int .i64 x.t, .int .i64 x.k, .int .i64 x.b, .int .i64 x.p, .int .i64 x.r, .int .i64 x.i] 33)).cell? ⟨q.w.heap.size, 8, none⟩ = some (.int .i64 x.i) := by simp [go_sem]
      have hxf : ∀ o, (q.w.alloc (.cells #[.int .i64 x.d, .int .i64 x.q, .int .i64 x.a, .int .i64 x.t, .int .i64 x.k, .int .i64 x.b, .int .i64 x.p, .int .i64 x.r, .int .i64 x.i] 33)).frozen? ⟨q.w.heap.size, o, none⟩ = false := fun o => by simp [go_sem]
      have hlt0 : q.w.heap.size < (q.w.alloc (.cells #[.int .i64 x.d, .int .i64 x.q, .int .i64 x.a, .int .i64 x.t, .int .i64 x.k, .int .i64 x.b, .int .i64 x.p, .int .i64 x.r, .int .i64 x.i] 33)).heap.size := by simp
      have hst0 : ∃ zz : Since q.w, (q.w.alloc (.cells #[.int .i64 x.d, .int .i64 x.q, .int .i64 x.a, .int .i64 x.t, .int .i64 x.k, .int .i64 x.b, .int .i64 x.p, .int .i64 x.r, .int .i64 x.i] 33)) = zz.w := IsSince.alloc (IsSince.self _) _
      have hsz0 := q.b.size
      obtain ⟨y2, e2⟩ := IsSince.alloc (IsSince.of q) (.cells #[.int .i64 x.d, .int .i64 x.q, .int .i64 x.a, .int .i64 x.t, .int .i64 x.k, .int .i64 x.b, .int .i64 x.p, .int .i64 x.r, .int .i64 x.i] 33)
      rw [e2] at hx0 hx1 hx2 hx3 hx4 hx5 hx6 hx7 hx8 hxf hlt0 hst0 ⊢
      have hit3 := Lib.hid ((Hit2.out).to hst0)
      clear e2 hst0
      generalize q.w.heap.size = g at *
      have Hhx0 : ∀ q : Since y2.w, q.w.cell? ⟨g, 0, none⟩ = some (.int .i64 x.d) := fun q => Since.cell hx0 (by omega) q
      have Hhx1 : ∀ q : Since y2.w, q.w.cell? ⟨g, 1, none⟩ = some (.int .i64 x.q) := fun q => Since.cell hx1 (by omega) q
      have Hhx2 : ∀ q : Since y2.w, q.w.cell? ⟨g, 2, none⟩ = some (.int .i64 x.a) := fun q => Since.cell hx2 (by omega) q
      have Hhx3 : ∀ q : Since y2.w, q.w.cell? ⟨g, 3, none⟩ = some (.int .i64 x.t) := fun q => Since.cell hx3 (by omega) q
      have Hhx4 : ∀ q : Since y2.w, q.w.cell? ⟨g, 4, none⟩ = some (.int .i64 x.k) := fun q => Since.cell hx4 (by omega) q
      have Hhx5 : ∀ q : Since y2.w, q.w.cell? ⟨g, 5, none⟩ = some (.int .i64 x.b) := fun q => Since.cell hx5 (by omega) q
      have Hhx6 : ∀ q : Since y2.w, q.w.cell? ⟨g, 6, none⟩ = some (.int .i64 x.p) := fun q => Since.cell hx6 (by omega) q
      have Hhx7 : ∀ q : Since y2.w, q.w.cell? ⟨g, 7, none⟩ = some (.int .i64 x.r) := fun q => Since.cell hx7 (by omega) q
      have Hhx8 : ∀ q : Since y2.w, q.w.cell? ⟨g, 8, none⟩ = some (.int .i64 x.i) := fun q => Since.cell hx8 (by omega) q
      have Hhxf : ∀ (q : Since y2.w) (o : Nat), q.w.frozen? ⟨g, o, none⟩ = false := fun q o => Since.free (hxf o) (by omega) q
      have Hhxg := Lib.hid (And.intro hsz0 hlt0)
      clear hlt0 hsz0
      go_wp2_with fail
      all_goals first
        | (refine ⟨⟨seen.push i, y2, rfl, by rw [Hml.out]; exact hit3.out, by rw [Hml.out]; exact Hso2.out, fun j hj z hz => ?_⟩, iterN_lt Hit.out (by rw [Hml.out]; exact hit3.out) (by rw [Hml.out]; exact Hso2.out)⟩
           rcases Array.mem_push.1 hj with hj | rfl
           · exact Hall.out j hj z hz
           · have hzx := Hi.out.symm.trans hz
             cases hzx
             rw [late_false]; exact ⟨fun h1 h2 => by omega, fun h1 h2 => by omega⟩)
        | (go_ret
           exact ⟨ret_bool (fits_no Hi.out ((late_iff x e).2 ⟨by omega, by omega⟩)).symm, by obtain ⟨u, hu⟩ := Hup.out y2; exact ⟨u, hu⟩⟩)
end Go.Proofs.Ytcpfogbjbinjcaa
