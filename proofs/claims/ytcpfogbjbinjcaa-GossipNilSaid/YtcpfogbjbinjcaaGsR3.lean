/- The walks of replicas, the references, third part: Less, find, Seen. -/
import Derived.Test.YtcpfogbjbinjcaaGsR1
import Derived.Test.YtcpfogbjbinjcaaGsW8
import Derived.Test.YtcpfogbjbinjcaaGsW4
set_option linter.all false
namespace Go.Proofs.Ytcpfogbjbinjcaa
open Go.RowKit Go.ChangeMaps

theorem gr_to {w : World} (x : Since w) {w1 : World} (h : Gr x.w w1) : ∃ y : Since w, w1 = y.w := by
  obtain ⟨z, rfl⟩ := h.since
  exact x.trans z
theorem less_at {x y : Ev} {k : Nat} (hk : k < 9) (hp : ∀ j, j < k → at0 x.ks j = at0 y.ks j) (hne : at0 x.ks k ≠ at0 y.ks k) : decide (at0 x.ks k < at0 y.ks k) = less x y := by
  have e := ecmp_at hk hp hne
  unfold ccmp ecmp at e
  by_cases h : at0 x.ks k < at0 y.ks k
  · rw [if_pos h] at e
    cases hl : less x y with
    | true => simpa using h
    | false => rw [hl] at e; simp at e; split at e <;> omega
  · have h2 : at0 y.ks k < at0 x.ks k := by omega
    rw [if_neg h, if_pos h2] at e
    cases hl : less x y with
    | true => rw [hl] at e; simp at e
    | false => simpa using h
set_option maxHeartbeats 4000000 in
theorem rless_calls (w : World) (x : Since w) (u v : Ev) :
    Calls Try.prog 20 #[u.ag, v.ag] x.w fun o w' => o = .returned (.bool (less u v)) ∧ ∃ y : Since w, w' = y.w := by
  unfold Ev.ag
  go_enter Try.func20, Try.ntmps20
  go_upto_region 3 with fail
  have hA : ∀ (k : Nat), k < 9 → (World.alloc (World.alloc (World.alloc (World.alloc x.w (.cells #[.int .i64 u.d, .int .i64 u.q, .int .i64 u.a, .int .i64 u.t, .int .i64 u.k, .int .i64 u.b, .int .i64 u.p, .int .i64 u.r, .int .i64 u.i] 33)) (.cells #[.int .i64 v.d, .int .i64 v.q, .int .i64 v.a, .int .i64 v.t, .int .i64 v.k, .int .i64 v.b, .int .i64 v.p, .int .i64 v.r, .int .i64 v.i] 33)) (.cells #[.int .i64 u.a, .int .i64 u.d, .int .i64 u.q, .int .i64 u.t, .int .i64 u.k, .int .i64 u.b, .int .i64 u.p, .int .i64 u.r, .int .i64 u.i] 3)) (.cells #[.int .i64 v.a, .int .i64 v.d, .int .i64 v.q, .int .i64 v.t, .int .i64 v.k, .int .i64 v.b, .int .i64 v.p, .int .i64 v.r, .int .i64 v.i] 3)).cell? ⟨x.w.heap.size + 1 + 1, k, none⟩ = some (.int .i64 (at0 u.ks k)) := fun k hk => by
    have hk9 : k = 0 ∨ k = 1 ∨ k = 2 ∨ k = 3 ∨ k = 4 ∨ k = 5 ∨ k = 6 ∨ k = 7 ∨ k = 8 := by omega
    rcases hk9 with rfl | rfl | rfl | rfl | rfl | rfl | rfl | rfl | rfl <;> (simp [go_sem]; rfl)
  have hB : ∀ (k : Nat), k < 9 → (World.alloc (World.alloc (World.alloc (World.alloc x.w (.cells #[.int .i64 u.d, .int .i64 u.q, .int .i64 u.a, .int .i64 u.t, .int .i64 u.k, .int .i64 u.b, .int .i64 u.p, .int .i64 u.r, .int .i64 u.i] 33)) (.cells #[.int .i64 v.d, .int .i64 v.q, .int .i64 v.a, .int .i64 v.t, .int .i64 v.k, .int .i64 v.b, .int .i64 v.p, .int .i64 v.r, .int .i64 v.i] 33)) (.cells #[.int .i64 u.a, .int .i64 u.d, .int .i64 u.q, .int .i64 u.t, .int .i64 u.k, .int .i64 u.b, .int .i64 u.p, .int .i64 u.r, .int .i64 u.i] 3)) (.cells #[.int .i64 v.a, .int .i64 v.d, .int .i64 v.q, .int .i64 v.t, .int .i64 v.k, .int .i64 v.b, .int .i64 v.p, .int .i64 v.r, .int .i64 v.i] 3)).cell? ⟨x.w.heap.size + 1 + 1 + 1, k, none⟩ = some (.int .i64 (at0 v.ks k)) := fun k hk => by
    have hk9 : k = 0 ∨ k = 1 ∨ k = 2 ∨ k = 3 ∨ k = 4 ∨ k = 5 ∨ k = 6 ∨ k = 7 ∨ k = 8 := by omega
    rcases hk9 with rfl | rfl | rfl | rfl | rfl | rfl | rfl | rfl | rfl <;> (simp [go_sem]; rfl)
  have hG : Gr x.w (World.alloc (World.alloc (World.alloc (World.alloc x.w (.cells #[.int .i64 u.d, .int .i64 u.q, .int .i64 u.a, .int .i64 u.t, .int .i64 u.k, .int .i64 u.b, .int .i64 u.p, .int .i64 u.r, .int .i64 u.i] 33)) (.cells #[.int .i64 v.d, .int .i64 v.q, .int .i64 v.a, .int .i64 v.t, .int .i64 v.k, .int .i64 v.b, .int .i64 v.p, .int .i64 v.r, .int .i64 v.i] 33)) (.cells #[.int .i64 u.a, .int .i64 u.d, .int .i64 u.q, .int .i64 u.t, .int .i64 u.k, .int .i64 u.b, .int .i64 u.p, .int .i64 u.r, .int .i64 u.i] 3)) (.cells #[.int .i64 v.a, .int .i64 v.d, .int .i64 v.q, .int .i64 v.t, .int .i64 v.k, .int .i64 v.b, .int .i64 v.p, .int .i64 v.r, .int .i64 v.i] 3)) := (((Gr.alloc _ _).trans (Gr.alloc _ _)).trans (Gr.alloc _ _)).trans (Gr.alloc _ _)
  generalize World.alloc (World.alloc (World.alloc (World.alloc x.w (.cells #[.int .i64 u.d, .int .i64 u.q, .int .i64 u.a, .int .i64 u.t, .int .i64 u.k, .int .i64 u.b, .int .i64 u.p, .int .i64 u.r, .int .i64 u.i] 33)) (.cells #[.int .i64 v.d, .int .i64 v.q, .int .i64 v.a, .int .i64 v.t, .int .i64 v.k, .int .i64 v.b, .int .i64 v.p, .int .i64 v.r, .int .i64 v.i] 33)) (.cells #[.int .i64 u.a, .int .i64 u.d, .int .i64 u.q, .int .i64 u.t, .int .i64 u.k, .int .i64 u.b, .int .i64 u.p, .int .i64 u.r, .int .i64 u.i] 3)) (.cells #[.int .i64 v.a, .int .i64 v.d, .int .i64 v.q, .int .i64 v.t, .int .i64 v.k, .int .i64 v.b, .int .i64 v.p, .int .i64 v.r, .int .i64 v.i] 3) = W1 at *
  generalize x.w.heap.size + 1 + 1 + 1 = gy at *
  generalize x.w.heap.size + 1 + 1 = gx at *
  go_wp2_with fail
  have HG := Lib.hid hG
  clear hG
  go_loopw [7] (fun i wr => ∃ (k : Nat) (y' : GrW W1), k ≤ 9 ∧ i = .int .i64 k ∧ wr = y'.w ∧ ∀ j, j < k → at0 u.ks j = at0 v.ks j) (fun i _ => 9 - (intOf i).toNat)
  case atStart => exact ⟨0, ⟨W1, Gr.refl _⟩, by omega, rfl, rfl, fun j hj => by omega⟩
  case round =>
    obtain ⟨k, z, hk, rfl, rfl, hp⟩ := hrel
    have Hp := Lib.hid hp
    clear hp
    by_cases hlt : k < 9
    · have ca : ∀ z : GrW W1, z.w.cell? ⟨gx, k, none⟩ = some (.int .i64 (at0 u.ks k)) := GrW.cell (hA k hlt)
      have cb : ∀ z : GrW W1, z.w.cell? ⟨gy, k, none⟩ = some (.int .i64 (at0 v.ks k)) := GrW.cell (hB k hlt)
      have hk0 : (0 : Int) ≤ (k : Int) := by omega
      have hk9 : (k : Int) < 9 := by omega
      by_cases hne : at0 u.ks k = at0 v.ks k
      · have hc : (at0 u.ks k != at0 v.ks k) = false := by simpa using hne
        have hp2 : ∀ j, j < k + 1 → at0 u.ks j = at0 v.ks j := fun j hj => by
          by_cases hjk : j < k
          · exact Hp.out j hjk
          · obtain rfl : j = k := by omega
            exact hne
        have Hp2 := Lib.hid hp2
        clear hp2 hA hB hne
        generalize at0 u.ks k = c1 at *
        generalize at0 v.ks k = c2 at *
        go_wp2_with fail
        refine wp_region_gr (by kernel_rfl) (by kernel_rfl) ?_
        repeat (go_big_quiet_step (fail))
        refine wpQuiet_nil ?_
        rintro _ ⟨z2, rfl⟩
        go_wp2_with fail
        go_roundw
        case rel => exact ⟨k + 1, z2, by omega, by go_num, rfl, Hp2.out⟩
        case measure => simp [intOf]; omega
      · have hc : (at0 u.ks k != at0 v.ks k) = true := by simpa using hne
        have hres := Lib.hid (less_at hlt Hp.out hne)
        clear hA hB hne
        generalize at0 u.ks k = c1 at *
        generalize at0 v.ks k = c2 at *
        go_wp2_with fail
        refine wp_region_gr (by kernel_rfl) (by kernel_rfl) ?_
        repeat (go_big_quiet_step (fail))
        refine wpQuiet_nil ?_
        rintro _ ⟨z2, rfl⟩
        go_wp2_with fail
        refine wp_region_gr (by kernel_rfl) (by kernel_rfl) ?_
        repeat (go_big_quiet_step (fail))
        refine wpQuiet_nil ?_
        rintro _ ⟨z3, rfl⟩
        go_wp2_with fail
        go_ret
        exact ⟨ret_bool hres.out, gr_to x (HG.out.trans z3.g)⟩
    · obtain rfl : k = 9 := by omega
      have hxy := ks_ext Hp.out
      have hres := Lib.hid (show less u v = false from by rw [hxy]; exact less_irrefl v)
      clear hxy hA hB
      go_wp2_with fail
      go_ret
      exact ⟨ret_bool hres.out.symm, gr_to x (HG.out.trans z.g)⟩

/-- the place of an event, -1 where there is none -/
def findI (l : List Ev) (d s : Int) : Int := match l.findIdx? (fun x => decide (x.d = d) && decide (x.q = s)) with | some i => i | none => -1
theorem findI_at {l : List Ev} {d s : Int} {u : Ev} {k : Nat} (hu : l[k]? = some u) (hp : ∀ j, j < k → ∀ y, l[j]? = some y → (decide (y.d = d) && decide (y.q = s)) = false) (h : (decide (u.d = d) && decide (u.q = s)) = true) : findI l d s = k := by
  have : l.findIdx? (fun x => decide (x.d = d) && decide (x.q = s)) = some k := by
    rw [List.findIdx?_eq_some_iff_getElem]
    obtain ⟨hk, e⟩ := List.getElem?_eq_some_iff.1 hu
    refine ⟨hk, by rw [e]; exact h, fun j hj => ?_⟩
    have := hp j hj _ (List.getElem?_eq_getElem (by omega))
    simpa using this
  unfold findI; rw [this]
theorem findI_no {l : List Ev} {d s : Int} (hp : ∀ j, j < l.length → ∀ y, l[j]? = some y → (decide (y.d = d) && decide (y.q = s)) = false) : findI l d s = -1 := by
  have : l.findIdx? (fun x => decide (x.d = d) && decide (x.q = s)) = none := by
    rw [List.findIdx?_eq_none_iff]
    intro x hx
    obtain ⟨j, hj⟩ := List.mem_iff_getElem?.1 hx
    exact hp j (List.getElem?_eq_some_iff.1 hj).1 x hj
  unfold findI; rw [this]
theorem findI_has (l : List Ev) (d s : Int) : decide (0 ≤ findI l d s) = hasB l d s := by
  unfold findI hasB
  cases h : l.findIdx? (fun x => decide (x.d = d) && decide (x.q = s)) with
  | none =>
    rw [List.findIdx?_eq_none_iff] at h
    have : l.any (fun x => decide (x.d = d) && decide (x.q = s)) = false := by
      rw [List.any_eq_false]; intro x hx; rw [h x hx]; simp
    rw [this]; rfl
  | some i =>
    rw [List.findIdx?_eq_some_iff_getElem] at h
    obtain ⟨hi, h1, _⟩ := h
    have : l.any (fun x => decide (x.d = d) && decide (x.q = s)) = true := by
      rw [List.any_eq_true]; exact ⟨_, List.getElem_mem hi, h1⟩
    rw [this]; simp
set_option maxHeartbeats 2000000 in
theorem find_calls (w : World) (x : Since w) (a : Option Addr) (l : List Ev) (cap : Nat) (d s : Int) (hr : EvRow w a l) (hl : l.length ≤ 9223372036854775807) :
    Calls Try.prog 41 #[.slice a l.length cap, .int .i64 d, .int .i64 s] x.w fun o w' => o = .returned (.int .i64 (findI l d s)) ∧ ∃ y : Since w, w' = y.w := by
  go_enter Try.func41, Try.ntmps41
  go_wp2_with fail
  go_loopw [7] (fun i wr => ∃ k : Nat, k ≤ l.length ∧ i = .int .i64 k ∧ (∀ j, j < k → ∀ y, l[j]? = some y → (decide (y.d = d) && decide (y.q = s)) = false) ∧ ∃ y : Since w, wr = y.w) (fun i _ => l.length - (intOf i).toNat)
  case atStart => exact ⟨0, by omega, rfl, fun j hj => by omega, _, rfl⟩
  case round =>
    obtain ⟨k, hk, rfl, hok, y, rfl⟩ := hrel
    have Hok := Lib.hid hok; clear hok
    by_cases hlt : k < l.length
    · obtain ⟨u, hu⟩ : ∃ u, l[k]? = some u := ⟨_, List.getElem?_eq_getElem hlt⟩
      obtain ⟨b1, off1, rfl, h1⟩ := Els.ev hr hu
      have p0 := h1.c0
      have p1 := h1.c1
      have p2 := h1.c2
      have p3 := h1.c3
      have p4 := h1.c4
      have p5 := h1.c5
      have p6 := h1.c6
      have p7 := h1.c7
      have p8 := h1.c8
      have hk0 : (0 : Int) ≤ (k : Int) := by omega
      have hkl : (k : Int) < (l.length : Int) := by omega
      have Hu := Lib.hid hu
      clear hr h1 hu
      have hcs : ((u.d == d) = false ∧ (decide (u.d = d) && decide (u.q = s)) = false) ∨ ((u.d == d) = true ∧ (u.q == s) = false ∧ (decide (u.d = d) && decide (u.q = s)) = false) ∨ ((u.d == d) = true ∧ (u.q == s) = true ∧ (decide (u.d = d) && decide (u.q = s)) = true) := by
        by_cases h1 : u.d = d
        · by_cases h2 : u.q = s
          · exact .inr (.inr ⟨by simpa using h1, by simpa using h2, by simp [h1, h2]⟩)
          · exact .inr (.inl ⟨by simpa using h1, by simpa using h2, by simp [h1, h2]⟩)
        · exact .inl ⟨by simpa using h1, by simp [h1]⟩
      rcases hcs with ⟨t1, hp⟩ | ⟨t1, t2, hp⟩ | ⟨t1, t2, hp⟩
      · have hok2 : ∀ j, j < k + 1 → ∀ y, l[j]? = some y → (decide (y.d = d) && decide (y.q = s)) = false := fun j hj z hz => by
          by_cases hjk : j < k
          · exact Hok.out j hjk z hz
          · obtain rfl : j = k := by omega
            rw [Hu.out] at hz; cases hz; exact hp
        have Hok2 := Lib.hid hok2
        clear hok2 hp
        go_wp2_with fail
        go_roundw
        case rel => exact ⟨k + 1, by omega, by go_num, Hok2.out, _, rfl⟩
        case measure => simp [intOf]; omega
      · have hok2 : ∀ j, j < k + 1 → ∀ y, l[j]? = some y → (decide (y.d = d) && decide (y.q = s)) = false := fun j hj z hz => by
          by_cases hjk : j < k
          · exact Hok.out j hjk z hz
          · obtain rfl : j = k := by omega
            rw [Hu.out] at hz; cases hz; exact hp
        have Hok2 := Lib.hid hok2
        clear hok2 hp
        go_wp2_with fail
        go_roundw
        case rel => exact ⟨k + 1, by omega, by go_num, Hok2.out, _, rfl⟩
        case measure => simp [intOf]; omega
      · have hres := Lib.hid (findI_at Hu.out Hok.out hp)
        clear hp
        go_wp2_with fail
        go_ret
        exact ⟨ret_int hres.out.symm, _, rfl⟩
    · obtain rfl : k = l.length := by omega
      have hres := Lib.hid (findI_no Hok.out)
      clear hr
      go_wp2_with fail
      go_ret
      exact ⟨ret_int hres.out.symm, _, rfl⟩
end Go.Proofs.Ytcpfogbjbinjcaa
