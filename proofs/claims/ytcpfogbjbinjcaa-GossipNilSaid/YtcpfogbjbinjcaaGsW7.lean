/- The walks of replicas, seventh part: Since, Events. -/
import Derived.Test.YtcpfogbjbinjcaaGsW6
import Derived.Test.YtcpfogbjbinjcaaGsW2
import Derived.Test.YtcpfogbjbinjcaaHeld
set_option linter.all false
namespace Go.Proofs.Ytcpfogbjbinjcaa
open Go.RowKit Go.ChangeMaps Go.Sort

theorem evs : SliceOf Try.prog 22 33 (⟨0, 0, 0, 0, 0, 0, 0, 0, 0⟩ : Ev).ag 9 72 := SliceOf.mk' (by kernel_rfl) (by kernel_rfl) rfl (by decide)
/-- a new list of events in memory -/
def NewEvs (w0 : World) (l : List Ev) (o : Ending) (w' : World) : Prop :=
  ∃ (a : Option Addr) (cap : Nat) (y : Since w0), o = .returned (.slice a l.length cap) ∧ w' = y.w ∧ l.length ≤ cap ∧ EvRow y.w a l ∧ (∀ b, a = some b → w0.heap.size ≤ b.block) ∧ (∀ b off, a = some ⟨b, off, none⟩ → ∀ j, j < l.length * 9 → y.w.frozen? ⟨b, off + j, none⟩ = false)
theorem ret_slice {a : Option Addr} {n m c : Nat} (h : n = m) : Ending.returned (.slice a n c) = .returned (.slice a m c) := by rw [h]
theorem lastD_in {seen : List Int} {d : Int} (h0 : 0 ≤ d) (h : d < (seen.length : Int)) : lastD seen d = at0 seen d.toNat := by unfold lastD; rw [if_pos h]
theorem lastD_out {seen : List Int} {d : Int} (h : ¬ d < (seen.length : Int)) : lastD seen d = 0 := by unfold lastD; rw [if_neg h]

set_option maxRecDepth 100000 in
set_option maxHeartbeats 4000000 in
theorem since_calls (w : World) (x : Since w) (p bm : Nat) (n : Int) (l : List Ev) (sa : Option Addr) (seen : List Int) (sc : Nat) (hR : RepAt w p bm n l) (hI : Inv n l) (hs : IntRow w sa seen) (hsl : seen.length ≤ 9223372036854775807) :
    Calls Try.prog 32 #[.pointer (some ⟨p, 0, none⟩), .slice sa seen.length sc] x.w (NewEvs w (sinceL l seen)) := by
  have hc1 : ∀ y : Since w, y.w.cell? ⟨p, 1, none⟩ = some (.map (some bm)) := fun y => (hR.since y).c1
  have HI := Lib.hid hI
  have hlen := hI.len
  clear hI
  go_enter Try.func32, Try.ntmps32
  go_wp2_with (at_range; refine wpList_rangeM (w0 := w) ⟨_, rfl⟩ rfl _ _ rfl Try.underlying67 rfl (hR.since _).m ?_; intro q r hm hit hr0 hrs hgr)
  have hM := hR.m
  clear hm hrs hgr
  go_frame
  go_loopw [5] (fun v wr => ∃ (sn : Array Nat) (y : Since w), wr = y.w ∧ IterAt wr bm r (l.map evP).length sn ∧ SeenOk (l.map evP).length sn ∧ ∃ m : Nat, wr.ownsRow w.heap.size 33 9 v m (flat Ev.cs ((colS l sn).filter (newB seen)))) (fun _ wr => iterN wr r)
  case atStart => exact ⟨#[], q, rfl, hit, seenOk_nil _, 0, rfl, .inl ⟨rfl, rfl⟩⟩
  case round =>
    clear hit
    obtain ⟨sn, y, rfl, hit, hso, m, hown⟩ := hrel
    have Hown := Lib.hid hown; clear hown
    have Hit := Lib.hid hit
    have Hso := Lib.hid hso
    go_wp2_with (at_next; refine wpList_nextM (w0 := w) ⟨_, rfl⟩ rfl _ rfl hr0 rfl (hM.since _) hit hso ?_ ?_)
    · intro hdone
      have hperm := Lib.hid (colS_perm (by have := Hso.out; rwa [List.length_map] at this) hdone)
      clear hdone hs
      have hfl : ((colS l sn).filter (newB seen)).length ≤ 512 := by
        have h2 := List.length_filter_le (newB seen) (colS l sn)
        have h3 := colS_len l sn
        have h4 := Hso.out.size
        rw [List.length_map] at h4
        omega
      have hsc := sort_calls y.w w.heap.size u5 m ((colS l sn).filter (newB seen)) Hown.out (by omega)
      have hob := Lib.hid (own_block Hown.out)
      have hsort : sortE ((colS l sn).filter (newB seen)) = sinceL l seen := sortE_congr (hperm.out.filter _)
      have hll : ((colS l sn).filter (newB seen)).length = (sinceL l seen).length := by rw [← hsort, sortE_length]
      have Hsort := Lib.hid hsort
      have Hll := Lib.hid hll
      have Hsc := Lib.hid hsc
      clear hsc hsort hll hit hso
      generalize (colS l sn).filter (newB seen) = fl at *
      go_wp2_with fail
      refine Hsc.out.mono ?_
      rintro _ w2 ⟨rfl, hg, a, cap, rfl, hcap, hels, hbase, hfz⟩
      obtain ⟨z, rfl⟩ := y.grown hg hob.out
      have Hels := Lib.hid hels; have Hfz := Lib.hid hfz; have Hbase := Lib.hid hbase
      clear hels hfz hbase hg
      go_wp2_with fail
      go_ret
      exact ⟨a, cap, z, ret_slice Hll.out, rfl, by rw [← Hll.out]; exact hcap, by rw [← Hsort.out]; exact Hels.out, Hbase.out, by rw [← Hll.out]; exact Hfz.out⟩
    · intro i a b vv q x hi hev hn hm hit2 hso2 hgr hen
      simp only [evP, Prod.mk.injEq] at hev
      obtain ⟨⟨rfl, rfl⟩, rfl⟩ := hev
      simp only [ekey, Ev.ag] at hen ⊢
      have hown2 := Lib.hid (own_keep Hown.out hgr (fun b hb e => own_ne Hown.out hit (by simp) b hb (by simpa using e)))
      clear hm hgr
      have Hit2 := Lib.hid hit2
      have Hso2 := Lib.hid hso2
      clear hit2 hso2
      have Hi := Lib.hid hi
      clear hi
      go_upto_region 7 with fail
      have hx0_0 : ((q.w.alloc (.cells #[.int .i64 x.d, .int .i64 x.q] 71)).alloc (.cells #[.int .i64 x.d, .int .i64 x.q, .int .i64 x.a, .int .i64 x.t, .int .i64 x.k, .int .i64 x.b, .int .i64 x.p, .int .i64 x.r, .int .i64 x.i] 33)).cell? ⟨q.w.heap.size, 0, none⟩ = some (.int .i64 x.d) := by simp [go_sem]
      have hx0_1 : ((q.w.alloc (.cells #[.int .i64 x.d, .int .i64 x.q] 71)).alloc (.cells #[.int .i64 x.d, .int .i64 x.q, .int .i64 x.a, .int .i64 x.t, .int .i64 x.k, .int .i64 x.b, .int .i64 x.p, .int .i64 x.r, .int .i64 x.i] 33)).cell? ⟨q.w.heap.size, 1, none⟩ = some (.int .i64 x.q) := by simp [go_sem]
      have hx1_0 : ((q.w.alloc (.cells #[.int .i64 x.d, .int .i64 x.q] 71)).alloc (.cells #[.int .i64 x.d, .int .i64 x.q, .int .i64 x.a, .int .i64 x.t, .int .i64 x.k, .int .i64 x.b, .int .i64 x.p, .int .i64 x.r, .int .i64 x.i] 33)).cell? ⟨q.w.heap.size + 1, 0, none⟩ = some (.int .i64 x.d) := by simp [go_sem]
      have hx1_1 : ((q.w.alloc (.cells #[.int .i64 x.d, .int .i64 x.q] 71)).alloc (.cells #[.int .i64 x.d, .int .i64 x.q, .int .i64 x.a, .int .i64 x.t, .int .i64 x.k, .int .i64 x.b, .int .i64 x.p, .int .i64 x.r, .int .i64 x.i] 33)).cell? ⟨q.w.heap.size + 1, 1, none⟩ = some (.int .i64 x.q) := by simp [go_sem]
      have hx1_2 : ((q.w.alloc (.cells #[.int .i64 x.d, .int .i64 x.q] 71)).alloc (.cells #[.int .i64 x.d, .int .i64 x.q, .int .i64 x.a, .int .i64 x.t, .int .i64 x.k, .int .i64 x.b, .int .i64 x.p, .int .i64 x.r, .int .i64 x.i] 33)).cell? ⟨q.w.heap.size + 1, 2, none⟩ = some (.int .i64 x.a) := by simp [go_sem]
      have hx1_3 : ((q.w.alloc (.cells #[.int .i64 x.d, .int .i64 x.q] 71)).alloc (.cells #[.int .i64 x.d, .int .i64 x.q, .int .i64 x.a, .int .i64 x.t, .int .i64 x.k, .int .i64 x.b, .int .i64 x.p, .int .i64 x.r, .int .i64 x.i] 33)).cell? ⟨q.w.heap.size + 1, 3, none⟩ = some (.int .i64 x.t) := by simp [go_sem]
      have hx1_4 : ((q.w.alloc (.cells #[.int .i64 x.d, .int .i64 x.q] 71)).alloc (.cells #[.int .i64 x.d, .int .i64 x.q, .int .i64 x.a, .int .i64 x.t, .int .i64 x.k, .int .i64 x.b, .int .i64 x.p, .int .i64 x.r, .int .i64 x.i] 33)).cell? ⟨q.w.heap.size + 1, 4, none⟩ = some (.int .i64 x.k) := by simp [go_sem]
      have hx1_5 : ((q.w.alloc (.cells #[.int .i64 x.d, .int .i64 x.q] 71)).alloc (.cells #[.int .i64 x.d, .int .i64 x.q, .int .i64 x.a, .int .i64 x.t, .int .i64 x.k, .int .i64 x.b, .int .i64 x.p, .int .i64 x.r, .int .i64 x.i] 33)).cell? ⟨q.w.heap.size + 1, 5, none⟩ = some (.int .i64 x.b) := by simp [go_sem]
      have hx1_6 : ((q.w.alloc (.cells #[.int .i64 x.d, .int .i64 x.q] 71)).alloc (.cells #[.int .i64 x.d, .int .i64 x.q, .int .i64 x.a, .int .i64 x.t, .int .i64 x.k, .int .i64 x.b, .int .i64 x.p, .int .i64 x.r, .int .i64 x.i] 33)).cell? ⟨q.w.heap.size + 1, 6, none⟩ = some (.int .i64 x.p) := by simp [go_sem]
      have hx1_7 : ((q.w.alloc (.cells #[.int .i64 x.d, .int .i64 x.q] 71)).alloc (.cells #[.int .i64 x.d, .int .i64 x.q, .int .i64 x.a, .int .i64 x.t, .int .i64 x.k, .int .i64 x.b, .int .i64 x.p, .int .i64 x.r, .int .i64 x.i] 33)).cell? ⟨q.w.heap.size + 1, 7, none⟩ = some (.int .i64 x.r) := by simp [go_sem]
      have hx1_8 : ((q.w.alloc (.cells #[.int .i64 x.d, .int .i64 x.q] 71)).alloc (.cells #[.int .i64 x.d, .int .i64 x.q, .int .i64 x.a, .int .i64 x.t, .int .i64 x.k, .int .i64 x.b, .int .i64 x.p, .int .i64 x.r, .int .i64 x.i] 33)).cell? ⟨q.w.heap.size + 1, 8, none⟩ = some (.int .i64 x.i) := by simp [go_sem]
      have hx0_f : ∀ o, ((q.w.alloc (.cells #[.int .i64 x.d, .int .i64 x.q] 71)).alloc (.cells #[.int .i64 x.d, .int .i64 x.q, .int .i64 x.a, .int .i64 x.t, .int .i64 x.k, .int .i64 x.b, .int .i64 x.p, .int .i64 x.r, .int .i64 x.i] 33)).frozen? ⟨q.w.heap.size, o, none⟩ = false := fun o => by simp [go_sem]
      have hx1_f : ∀ o, ((q.w.alloc (.cells #[.int .i64 x.d, .int .i64 x.q] 71)).alloc (.cells #[.int .i64 x.d, .int .i64 x.q, .int .i64 x.a, .int .i64 x.t, .int .i64 x.k, .int .i64 x.b, .int .i64 x.p, .int .i64 x.r, .int .i64 x.i] 33)).frozen? ⟨q.w.heap.size + 1, o, none⟩ = false := fun o => by simp [go_sem]
      have hlt0 : q.w.heap.size + 1 < ((q.w.alloc (.cells #[.int .i64 x.d, .int .i64 x.q] 71)).alloc (.cells #[.int .i64 x.d, .int .i64 x.q, .int .i64 x.a, .int .i64 x.t, .int .i64 x.k, .int .i64 x.b, .int .i64 x.p, .int .i64 x.r, .int .i64 x.i] 33)).heap.size := by simp
      have hst0 : ∃ zz : Since q.w, ((q.w.alloc (.cells #[.int .i64 x.d, .int .i64 x.q] 71)).alloc (.cells #[.int .i64 x.d, .int .i64 x.q, .int .i64 x.a, .int .i64 x.t, .int .i64 x.k, .int .i64 x.b, .int .i64 x.p, .int .i64 x.r, .int .i64 x.i] 33)) = zz.w := IsSince.alloc (IsSince.alloc (IsSince.self _) _) _
      have hsz0 := q.b.size
      obtain ⟨y2, e2⟩ := IsSince.alloc (IsSince.alloc (IsSince.of q) (.cells #[.int .i64 x.d, .int .i64 x.q] 71)) (.cells #[.int .i64 x.d, .int .i64 x.q, .int .i64 x.a, .int .i64 x.t, .int .i64 x.k, .int .i64 x.b, .int .i64 x.p, .int .i64 x.r, .int .i64 x.i] 33)
      rw [e2] at hx0_0 hx0_1 hx1_0 hx1_1 hx1_2 hx1_3 hx1_4 hx1_5 hx1_6 hx1_7 hx1_8 hx0_f hx1_f hlt0 hst0 ⊢
      (have hown3 := Lib.hid (own_to hown2.out hst0)); (have hit3 := Lib.hid (Hit2.out.to hst0))
      clear e2 hst0
      generalize q.w.heap.size = g at *
      have Hhx0_0 : ∀ q : Since y2.w, q.w.cell? ⟨g, 0, none⟩ = some (.int .i64 x.d) := fun q => Since.cell hx0_0 (by omega) q
      have Hhx0_1 : ∀ q : Since y2.w, q.w.cell? ⟨g, 1, none⟩ = some (.int .i64 x.q) := fun q => Since.cell hx0_1 (by omega) q
      have Hhx1_0 : ∀ q : Since y2.w, q.w.cell? ⟨g + 1, 0, none⟩ = some (.int .i64 x.d) := fun q => Since.cell hx1_0 (by omega) q
      have Hhx1_1 : ∀ q : Since y2.w, q.w.cell? ⟨g + 1, 1, none⟩ = some (.int .i64 x.q) := fun q => Since.cell hx1_1 (by omega) q
      have Hhx1_2 : ∀ q : Since y2.w, q.w.cell? ⟨g + 1, 2, none⟩ = some (.int .i64 x.a) := fun q => Since.cell hx1_2 (by omega) q
      have Hhx1_3 : ∀ q : Since y2.w, q.w.cell? ⟨g + 1, 3, none⟩ = some (.int .i64 x.t) := fun q => Since.cell hx1_3 (by omega) q
      have Hhx1_4 : ∀ q : Since y2.w, q.w.cell? ⟨g + 1, 4, none⟩ = some (.int .i64 x.k) := fun q => Since.cell hx1_4 (by omega) q
      have Hhx1_5 : ∀ q : Since y2.w, q.w.cell? ⟨g + 1, 5, none⟩ = some (.int .i64 x.b) := fun q => Since.cell hx1_5 (by omega) q
      have Hhx1_6 : ∀ q : Since y2.w, q.w.cell? ⟨g + 1, 6, none⟩ = some (.int .i64 x.p) := fun q => Since.cell hx1_6 (by omega) q
      have Hhx1_7 : ∀ q : Since y2.w, q.w.cell? ⟨g + 1, 7, none⟩ = some (.int .i64 x.r) := fun q => Since.cell hx1_7 (by omega) q
      have Hhx1_8 : ∀ q : Since y2.w, q.w.cell? ⟨g + 1, 8, none⟩ = some (.int .i64 x.i) := fun q => Since.cell hx1_8 (by omega) q
      have Hhx0_f : ∀ (q : Since y2.w) (o : Nat), q.w.frozen? ⟨g, o, none⟩ = false := fun q o => Since.free (hx0_f o) (by omega) q
      have Hhx1_f : ∀ (q : Since y2.w) (o : Nat), q.w.frozen? ⟨g + 1, o, none⟩ = false := fun q o => Since.free (hx1_f o) (by omega) q
      have Hhxg := Lib.hid (And.intro hsz0 hlt0)
      clear hlt0 hsz0
      have hxr := HI.out.rng x (List.mem_of_getElem? Hi.out)
      have hcol := Lib.hid (colS_push (seen := sn) Hi.out)
      have hcl : m ≤ 512 := by
        have h1 := (own_els cs_len (by decide) Hown.out).1
        have h2 := List.length_filter_le (newB seen) (colS l sn)
        have h3 := colS_len l sn
        have h4 := Hso.out.size
        rw [List.length_map] at h4
        omega
      have hmes : iterN y2.w r < iterN y.w r := iterN_lt Hit.out (by rw [List.length_map]; exact hit3.out) (by rw [List.length_map]; exact Hso2.out)
      have Hmes := Lib.hid hmes; clear hmes
      have hz : (x.d : Int) = ((x.d.toNat : Nat) : Int) := by omega
      have hcase : (x.d < (seen.length : Int) ∧ ∀ y : Since w, ∃ b2 off2, sa = some ⟨b2, off2, none⟩ ∧ y.w.cell? ⟨b2, off2 + x.d.toNat, none⟩ = some (.int .i64 (lastD seen x.d))) ∨ (¬ x.d < (seen.length : Int) ∧ lastD seen x.d = 0) := by
        by_cases hd : x.d < (seen.length : Int)
        · refine .inl ⟨hd, fun y => ?_⟩
          obtain ⟨b2, off2, rfl, _, _⟩ := hs x.d.toNat (by omega)
          exact ⟨b2, off2, rfl, by rw [lastD_in hxr.1 hd]; exact Since.at hs x.d.toNat (by omega) y⟩
        · exact .inr ⟨hd, lastD_out hd⟩
      have hnewB : newB seen x = decide (lastD seen x.d < x.q) := rfl
      have h0 := hxr.1
      generalize lastD seen x.d = last at *
      have HnewB := Lib.hid hnewB
      clear hnewB hz
      have hfin0 : ¬ last < x.q → ∃ (sn' : Array Nat) (y' : Since w), y2.w = y'.w ∧ IterAt y2.w bm r (l.map evP).length sn' ∧ SeenOk (l.map evP).length sn' ∧ ∃ m : Nat, y2.w.ownsRow w.heap.size 33 9 u5 m (flat Ev.cs ((colS l sn').filter (newB seen))) := fun hlt =>
        ⟨sn.push i, y2, rfl, by rw [List.length_map]; exact hit3.out, by rw [List.length_map]; exact Hso2.out, m, by
          rw [hcol.out, List.filter_append, List.filter_cons, HnewB.out, decide_eq_false hlt]
          simpa using hown3.out⟩
      have hfin1 : last < x.q → ∀ (v2 : Value) (q2 : Since w), q2.w.ownsRow w.heap.size 33 9 v2 (m + 1) (flat Ev.cs ((colS l sn).filter (newB seen)) ++ x.cs) → IterAt q2.w bm r l.length (sn.push i) → (∃ (sn' : Array Nat) (y' : Since w), q2.w = y'.w ∧ IterAt q2.w bm r (l.map evP).length sn' ∧ SeenOk (l.map evP).length sn' ∧ ∃ m : Nat, q2.w.ownsRow w.heap.size 33 9 v2 m (flat Ev.cs ((colS l sn').filter (newB seen)))) ∧ iterN q2.w r < iterN y.w r := fun hlt v2 q2 h1 h2 =>
        ⟨⟨sn.push i, q2, rfl, by rw [List.length_map]; exact h2, by rw [List.length_map]; exact Hso2.out, m + 1, by
          rw [hcol.out, List.filter_append, List.filter_cons, HnewB.out, decide_eq_true hlt, if_pos rfl, List.filter_nil, flat_append, flat_one]
          exact h1⟩, iterN_lt Hit.out (by rw [List.length_map]; exact h2) (by rw [List.length_map]; exact Hso2.out)⟩
      have Hfin0 := Lib.hid hfin0
      have Hfin1 := Lib.hid hfin1
      clear hfin0 hfin1 hxr
      rcases hcase with ⟨hd, hcs⟩ | ⟨hd, rfl⟩
      · obtain ⟨b2, off2, rfl, _⟩ := hcs (Since.self w)
        have hcs2 : ∀ y : Since w, y.w.cell? ⟨b2, off2 + x.d.toNat, none⟩ = some (.int .i64 last) := fun y => by
          obtain ⟨b3, off3, e, h⟩ := hcs y
          simp at e; obtain ⟨rfl, rfl⟩ := e; exact h
        clear hcs hs
        by_cases hlt : last < x.q
        · go_wp2_with (at_builtin; (refine wpList_appendK (w0 := w) ?hw rfl _ _ 22 rfl w.heap.size (Nat.le_refl _) ?hb 33 (⟨0, 0, 0, 0, 0, 0, 0, 0, 0⟩ : Ev).ag 72 evs u5 m (flat Ev.cs ((colS l sn).filter (newB seen))) rfl ?hown ⟨y2.w.heap.size, 0, none⟩ 1 1 x.cs rfl rfl ?hc (cs_one x) ?h63 ?hbytes ?_; rotate_right 1; intro v2 q2 hown4 _ hg4))
          case hw => exact y2.alloc _
          case hb => have := y2.b.size; simp; omega
          case hown => exact own_to hown3.out (IsSince.alloc (IsSince.self _) _)
          case hc => exact fun _ _ h => h
          case h63 => unfold maxLen; omega
          case hbytes => omega
          have hit4 := Lib.hid (IterAt.keep (IterAt.to hit3.out (IsSince.alloc (IsSince.self _) _)) hg4 (fun e => own_ne hown3.out hit3.out (by simp) _ e.symm rfl))
          have Hown4 := Lib.hid hown4
          clear hown4 hg4
          go_wp2_with fail
          exact Hfin1.out hlt _ _ Hown4.out hit4.out
        · go_wp2_with fail
          exact ⟨Hfin0.out hlt, Hmes.out⟩
      · by_cases hlt : (0 : Int) < x.q
        · go_wp2_with (at_builtin; (refine wpList_appendK (w0 := w) ?hw rfl _ _ 22 rfl w.heap.size (Nat.le_refl _) ?hb 33 (⟨0, 0, 0, 0, 0, 0, 0, 0, 0⟩ : Ev).ag 72 evs u5 m (flat Ev.cs ((colS l sn).filter (newB seen))) rfl ?hown ⟨y2.w.heap.size, 0, none⟩ 1 1 x.cs rfl rfl ?hc (cs_one x) ?h63 ?hbytes ?_; rotate_right 1; intro v2 q2 hown4 _ hg4))
          case hw => exact y2.alloc _
          case hb => have := y2.b.size; simp; omega
          case hown => exact own_to hown3.out (IsSince.alloc (IsSince.self _) _)
          case hc => exact fun _ _ h => h
          case h63 => unfold maxLen; omega
          case hbytes => omega
          have hit4 := Lib.hid (IterAt.keep (IterAt.to hit3.out (IsSince.alloc (IsSince.self _) _)) hg4 (fun e => own_ne hown3.out hit3.out (by simp) _ e.symm rfl))
          have Hown4 := Lib.hid hown4
          clear hown4 hg4
          go_wp2_with fail
          exact Hfin1.out hlt _ _ Hown4.out hit4.out
        · go_wp2_with fail
          exact ⟨Hfin0.out hlt, Hmes.out⟩
theorem events_calls (w : World) (x : Since w) (p bm : Nat) (n : Int) (l : List Ev) (hR : RepAt w p bm n l) (hI : Inv n l) :
    Calls Try.prog 19 #[.pointer (some ⟨p, 0, none⟩)] x.w (NewEvs w (sortE l)) := by
  have hc := since_calls w x p bm n l none [] 0 hR hI (fun i hi => by simp at hi) (by simp)
  rw [since_nil hI] at hc
  have Hc := Lib.hid hc
  clear hc hR hI
  go_enter Try.func19, Try.ntmps19
  go_wp2_with fail
  refine Hc.out.mono ?_
  rintro _ w2 ⟨a, cap, z, rfl, rfl, hcap, hels, hbase, hfz⟩
  have Hels := Lib.hid hels; have Hfz := Lib.hid hfz; have Hbase := Lib.hid hbase
  clear hels hfz hbase
  go_wp2_with fail
  go_ret
  exact ⟨a, cap, z, rfl, rfl, hcap, Hels.out, Hbase.out, Hfz.out⟩
end Go.Proofs.Ytcpfogbjbinjcaa
