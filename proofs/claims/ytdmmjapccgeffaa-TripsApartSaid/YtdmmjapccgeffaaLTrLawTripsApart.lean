/- The law TripsApart, walked. -/
import Derived.Test.YtdmmjapccgeffaaTrMh
import Derived.IntWalk
set_option linter.all false
namespace Go.Proofs.Ytdmmjapccgeffaa
open Go.RowKit

set_option maxRecDepth 100000 in
set_option maxHeartbeats 16000000 in
theorem tripsApart_calls (w : World) (x : Since w) (s t u : Tab) (as_ : Option Addr) (cs_ : Nat) (at_ : Option Addr) (ct_ : Nat) (au_ : Option Addr) (cu_ : Nat) (h1 : IntRow w as_ s.l) (h2 : IntRow w at_ t.l) (h3 : IntRow w au_ u.l)  (l1 : s.l.length ≤ 9223372036854775807) (l2 : t.l.length ≤ 9223372036854775807) (l3 : u.l.length ≤ 9223372036854775807) :
    Calls Try.prog 6 #[.agg #[.int .i64 s.r, .int .i64 s.c, .slice as_ s.l.length cs_], .agg #[.int .i64 t.r, .int .i64 t.c, .slice at_ t.l.length ct_], .agg #[.int .i64 u.r, .int .i64 u.c, .slice au_ u.l.length cu_]] x.w (Yes w) := by
  have H1 := Lib.hid h1
  have H2 := Lib.hid h2
  have H3 := Lib.hid h3
  clear h1 h2 h3
  go_enter Try.func6, Try.ntmps6
  go_upto_region 1 with fail
  have hb0_0 : ∀ y : Since (((x.w.alloc (.cells #[.int .i64 s.r, .int .i64 s.c, .slice as_ s.l.length cs_] 39)).alloc (.cells #[.int .i64 t.r, .int .i64 t.c, .slice at_ t.l.length ct_] 39)).alloc (.cells #[.int .i64 u.r, .int .i64 u.c, .slice au_ u.l.length cu_] 39)), y.w.cell? ⟨x.w.heap.size, 0, none⟩ = some (.int .i64 s.r) := fun y => Since.cell (by simp [go_sem]) (by first | (simp; done) | (simp; omega)) y
  have hb0_1 : ∀ y : Since (((x.w.alloc (.cells #[.int .i64 s.r, .int .i64 s.c, .slice as_ s.l.length cs_] 39)).alloc (.cells #[.int .i64 t.r, .int .i64 t.c, .slice at_ t.l.length ct_] 39)).alloc (.cells #[.int .i64 u.r, .int .i64 u.c, .slice au_ u.l.length cu_] 39)), y.w.cell? ⟨x.w.heap.size, 1, none⟩ = some (.int .i64 s.c) := fun y => Since.cell (by simp [go_sem]) (by first | (simp; done) | (simp; omega)) y
  have hb0_2 : ∀ y : Since (((x.w.alloc (.cells #[.int .i64 s.r, .int .i64 s.c, .slice as_ s.l.length cs_] 39)).alloc (.cells #[.int .i64 t.r, .int .i64 t.c, .slice at_ t.l.length ct_] 39)).alloc (.cells #[.int .i64 u.r, .int .i64 u.c, .slice au_ u.l.length cu_] 39)), y.w.cell? ⟨x.w.heap.size, 2, none⟩ = some (.slice as_ s.l.length cs_) := fun y => Since.cell (by simp [go_sem]) (by first | (simp; done) | (simp; omega)) y
  have hf0 : ∀ (y : Since (((x.w.alloc (.cells #[.int .i64 s.r, .int .i64 s.c, .slice as_ s.l.length cs_] 39)).alloc (.cells #[.int .i64 t.r, .int .i64 t.c, .slice at_ t.l.length ct_] 39)).alloc (.cells #[.int .i64 u.r, .int .i64 u.c, .slice au_ u.l.length cu_] 39))) (o : Nat), y.w.frozen? ⟨x.w.heap.size, o, none⟩ = false := fun y o => Since.free (by simp [go_sem]) (by first | (simp; done) | (simp; omega)) y
  have hb1_0 : ∀ y : Since (((x.w.alloc (.cells #[.int .i64 s.r, .int .i64 s.c, .slice as_ s.l.length cs_] 39)).alloc (.cells #[.int .i64 t.r, .int .i64 t.c, .slice at_ t.l.length ct_] 39)).alloc (.cells #[.int .i64 u.r, .int .i64 u.c, .slice au_ u.l.length cu_] 39)), y.w.cell? ⟨x.w.heap.size + 1, 0, none⟩ = some (.int .i64 t.r) := fun y => Since.cell (by simp [go_sem]) (by first | (simp; done) | (simp; omega)) y
  have hb1_1 : ∀ y : Since (((x.w.alloc (.cells #[.int .i64 s.r, .int .i64 s.c, .slice as_ s.l.length cs_] 39)).alloc (.cells #[.int .i64 t.r, .int .i64 t.c, .slice at_ t.l.length ct_] 39)).alloc (.cells #[.int .i64 u.r, .int .i64 u.c, .slice au_ u.l.length cu_] 39)), y.w.cell? ⟨x.w.heap.size + 1, 1, none⟩ = some (.int .i64 t.c) := fun y => Since.cell (by simp [go_sem]) (by first | (simp; done) | (simp; omega)) y
  have hb1_2 : ∀ y : Since (((x.w.alloc (.cells #[.int .i64 s.r, .int .i64 s.c, .slice as_ s.l.length cs_] 39)).alloc (.cells #[.int .i64 t.r, .int .i64 t.c, .slice at_ t.l.length ct_] 39)).alloc (.cells #[.int .i64 u.r, .int .i64 u.c, .slice au_ u.l.length cu_] 39)), y.w.cell? ⟨x.w.heap.size + 1, 2, none⟩ = some (.slice at_ t.l.length ct_) := fun y => Since.cell (by simp [go_sem]) (by first | (simp; done) | (simp; omega)) y
  have hf1 : ∀ (y : Since (((x.w.alloc (.cells #[.int .i64 s.r, .int .i64 s.c, .slice as_ s.l.length cs_] 39)).alloc (.cells #[.int .i64 t.r, .int .i64 t.c, .slice at_ t.l.length ct_] 39)).alloc (.cells #[.int .i64 u.r, .int .i64 u.c, .slice au_ u.l.length cu_] 39))) (o : Nat), y.w.frozen? ⟨x.w.heap.size + 1, o, none⟩ = false := fun y o => Since.free (by simp [go_sem]) (by first | (simp; done) | (simp; omega)) y
  have hb2_0 : ∀ y : Since (((x.w.alloc (.cells #[.int .i64 s.r, .int .i64 s.c, .slice as_ s.l.length cs_] 39)).alloc (.cells #[.int .i64 t.r, .int .i64 t.c, .slice at_ t.l.length ct_] 39)).alloc (.cells #[.int .i64 u.r, .int .i64 u.c, .slice au_ u.l.length cu_] 39)), y.w.cell? ⟨x.w.heap.size + 2, 0, none⟩ = some (.int .i64 u.r) := fun y => Since.cell (by simp [go_sem]) (by first | (simp; done) | (simp; omega)) y
  have hb2_1 : ∀ y : Since (((x.w.alloc (.cells #[.int .i64 s.r, .int .i64 s.c, .slice as_ s.l.length cs_] 39)).alloc (.cells #[.int .i64 t.r, .int .i64 t.c, .slice at_ t.l.length ct_] 39)).alloc (.cells #[.int .i64 u.r, .int .i64 u.c, .slice au_ u.l.length cu_] 39)), y.w.cell? ⟨x.w.heap.size + 2, 1, none⟩ = some (.int .i64 u.c) := fun y => Since.cell (by simp [go_sem]) (by first | (simp; done) | (simp; omega)) y
  have hb2_2 : ∀ y : Since (((x.w.alloc (.cells #[.int .i64 s.r, .int .i64 s.c, .slice as_ s.l.length cs_] 39)).alloc (.cells #[.int .i64 t.r, .int .i64 t.c, .slice at_ t.l.length ct_] 39)).alloc (.cells #[.int .i64 u.r, .int .i64 u.c, .slice au_ u.l.length cu_] 39)), y.w.cell? ⟨x.w.heap.size + 2, 2, none⟩ = some (.slice au_ u.l.length cu_) := fun y => Since.cell (by simp [go_sem]) (by first | (simp; done) | (simp; omega)) y
  have hf2 : ∀ (y : Since (((x.w.alloc (.cells #[.int .i64 s.r, .int .i64 s.c, .slice as_ s.l.length cs_] 39)).alloc (.cells #[.int .i64 t.r, .int .i64 t.c, .slice at_ t.l.length ct_] 39)).alloc (.cells #[.int .i64 u.r, .int .i64 u.c, .slice au_ u.l.length cu_] 39))) (o : Nat), y.w.frozen? ⟨x.w.heap.size + 2, o, none⟩ = false := fun y o => Since.free (by simp [go_sem]) (by first | (simp; done) | (simp; omega)) y
  have hWup : ∃ z : Since w, (((x.w.alloc (.cells #[.int .i64 s.r, .int .i64 s.c, .slice as_ s.l.length cs_] 39)).alloc (.cells #[.int .i64 t.r, .int .i64 t.c, .slice at_ t.l.length ct_] 39)).alloc (.cells #[.int .i64 u.r, .int .i64 u.c, .slice au_ u.l.length cu_] 39)) = z.w := Since.allocs x [.cells #[.int .i64 s.r, .int .i64 s.c, .slice as_ s.l.length cs_] 39, .cells #[.int .i64 t.r, .int .i64 t.c, .slice at_ t.l.length ct_] 39, .cells #[.int .i64 u.r, .int .i64 u.c, .slice au_ u.l.length cu_] 39]
  obtain ⟨y0, hy0⟩ := Since.refl (((x.w.alloc (.cells #[.int .i64 s.r, .int .i64 s.c, .slice as_ s.l.length cs_] 39)).alloc (.cells #[.int .i64 t.r, .int .i64 t.c, .slice at_ t.l.length ct_] 39)).alloc (.cells #[.int .i64 u.r, .int .i64 u.c, .slice au_ u.l.length cu_] 39))
  have Hbx := Lib.hid (And.intro x.b.size (show x.w.heap.size + 3 = (((x.w.alloc (.cells #[.int .i64 s.r, .int .i64 s.c, .slice as_ s.l.length cs_] 39)).alloc (.cells #[.int .i64 t.r, .int .i64 t.c, .slice at_ t.l.length ct_] 39)).alloc (.cells #[.int .i64 u.r, .int .i64 u.c, .slice au_ u.l.length cu_] 39)).heap.size from by simp))
  generalize hW : (((x.w.alloc (.cells #[.int .i64 s.r, .int .i64 s.c, .slice as_ s.l.length cs_] 39)).alloc (.cells #[.int .i64 t.r, .int .i64 t.c, .slice at_ t.l.length ct_] 39)).alloc (.cells #[.int .i64 u.r, .int .i64 u.c, .slice au_ u.l.length cu_] 39)) = W at *
  clear hW
  generalize x.w.heap.size = bx at *
  have Hup := Lib.hid (Since.up hWup)
  rw [hy0]
  clear hy0
  replace H1 := Lib.hid (H1.out.to hWup)
  replace H2 := Lib.hid (H2.out.to hWup)
  replace H3 := Lib.hid (H3.out.to hWup)
  clear hWup hf0 hf1 hf2 Hbx
  rcases (by omega : 100 < (s.l.length : Int) ∨ (¬ 100 < (s.l.length : Int) ∧ 100 < (t.l.length : Int)) ∨ (¬ 100 < (s.l.length : Int) ∧ ¬ 100 < (t.l.length : Int) ∧ 100 < (u.l.length : Int)) ∨ (¬ 100 < (s.l.length : Int) ∧ ¬ 100 < (t.l.length : Int) ∧ ¬ 100 < (u.l.length : Int))) with g1 | ⟨g1, g2⟩ | ⟨g1, g2, g3⟩ | ⟨g1, g2, g3⟩
  case inr.inr.inr =>
    have C1 := Lib.hid (fun y : Since W => apart_calls W y s t as_ cs_ at_ ct_ H1.out H2.out l1 l2)
    have C2 := Lib.hid (fun y : Since W => rapart_calls W y s t as_ cs_ at_ ct_ H1.out H2.out l1 l2)
    have C3 := Lib.hid (fun y : Since W => apart_calls W y s u as_ cs_ au_ cu_ H1.out H3.out l1 l3)
    have C4 := Lib.hid (fun y : Since W => apart_calls W y t u at_ ct_ au_ cu_ H2.out H3.out l2 l3)
    have C5 := Lib.hid (fun y : Since W => apart_calls W y t s at_ ct_ as_ cs_ H2.out H1.out l2 l1)
    have C6 := Lib.hid (fun y : Since W => tcheck_calls W y s as_ cs_ H1.out l1)
    have C7 := Lib.hid (fun y : Since W => rtcheck_calls W y s as_ cs_ H1.out l1)
    have C8 := Lib.hid (fun y : Since W => rtsame_calls W y s t as_ cs_ at_ ct_ H1.out H2.out l1 l2)
    have Hbk := Lib.hid (fun h : apE s t = 0 => apart_back h)
    have Htr := Lib.hid (fun (h1 : apE s t = 0) (h2 : apE s u = 0) (h3 : apE t u = 0) => apart_tri h1 h2 h3)
    have r1 := apV_range s t
    have r2 := apV_range s u
    have r3 := apV_range t u
    generalize apV s t = X at *
    generalize apE s t = E at *
    generalize apV s u = Z at *
    generalize apE s u = G at *
    generalize apV t u = V at *
    generalize apE t u = H at *
    generalize apV t s = K at *
    generalize apE t s = I at *
    generalize chkE s = Q at *
    generalize sameT s t = S at *
    have z1 : (X != X) = false := by simp
    have z2 : (E != E) = false := by simp
    have z3 : (Q != Q) = false := by simp
    have wx : IntKind.i64.wrap (X + V) = X + V := IntWalk.i64_in _ (by omega)
    obtain ⟨p1, p2⟩ := r1
    obtain ⟨p3, p4⟩ := r2
    obtain ⟨p5, p6⟩ := r3
    go_upto_region 4 with (go_at_call 22; ((with_reducible refine (C1.out _).mono ?_); rintro _ _ ⟨rfl, y1, rfl⟩))
    go_upto_region 5 with (go_at_call 23; ((with_reducible refine (C2.out _).mono ?_); rintro _ _ ⟨rfl, y2, rfl⟩))
    refine wp_region_since (by kernel_rfl) (by kernel_rfl) ?_
    repeat (go_big_quiet_step ((first | (go_at_call 24; exact C6.out _) | (go_at_call 25; exact C7.out _))))
    refine wpQuiet_nil ?_
    rintro _ ⟨y3, rfl⟩
    clear C1 C2 C6 C7
    go_upto_region 8 with (go_at_call 22; ((with_reducible refine (C3.out _).mono ?_); rintro _ _ ⟨rfl, y4, rfl⟩))
    go_upto_region 9 with (go_at_call 22; ((with_reducible refine (C4.out _).mono ?_); rintro _ _ ⟨rfl, y5, rfl⟩))
    clear C3 C4
    by_cases e0 : E = 0
    case neg =>
      have e1 : (E == 0) = false := by simpa using e0
      have e2 : (E != 0) = true := by simpa using e0
      clear e0 Hbk Htr
      go_upto_region 12 with (go_at_call 22; ((with_reducible refine (C5.out _).mono ?_); rintro _ _ ⟨rfl, y6, rfl⟩))
      go_wp2_with (go_at_call 12; ((with_reducible refine (awake_calls W y6).mono ?_); rintro _ _ ⟨rfl, yz, rfl⟩))
      go_ret
      exact ⟨rfl, Hup.out yz⟩
    case pos =>
      obtain ⟨hI, hK, hS⟩ := Hbk.out e0
      have HSx := Lib.hid (show (X == 0) = S by rw [Bool.eq_iff_iff]; simpa using hS)
      have HTri := Lib.hid (fun (h2 : G = 0) (h3 : H = 0) => show ¬ X + V < Z from by have := Htr.out e0 h2 h3; omega)
      subst hI
      subst hK
      subst e0
      clear Hbk Htr hS
      have gx : ∀ b : Bool, (b == b) = true := fun b => by simp
      by_cases G0 : G = 0
      case neg =>
        have G1 : (G == 0) = false := by simpa using G0
        clear G0 HTri
        go_upto_region 12 with (go_at_call 22; ((with_reducible refine (C5.out _).mono ?_); rintro _ _ ⟨rfl, y6, rfl⟩))
        have hsx := HSx.out
        go_wp2_with (first | (go_at_call 21; ((with_reducible refine (C8.out _).mono ?_); rintro _ _ ⟨rfl, y7, rfl⟩)) | (go_at_call 12; ((with_reducible refine (awake_calls W y7).mono ?_); rintro _ _ ⟨rfl, yz, rfl⟩)))
        go_ret
        exact ⟨rfl, Hup.out yz⟩
      case pos =>
        subst G0
        by_cases H0 : H = 0
        case neg =>
          have H1' : (H == 0) = false := by simpa using H0
          clear H0 HTri
          go_upto_region 12 with (go_at_call 22; ((with_reducible refine (C5.out _).mono ?_); rintro _ _ ⟨rfl, y6, rfl⟩))
          have hsx := HSx.out
          go_wp2_with (first | (go_at_call 21; ((with_reducible refine (C8.out _).mono ?_); rintro _ _ ⟨rfl, y7, rfl⟩)) | (go_at_call 12; ((with_reducible refine (awake_calls W y7).mono ?_); rintro _ _ ⟨rfl, yz, rfl⟩)))
          go_ret
          exact ⟨rfl, Hup.out yz⟩
        case pos =>
          subst H0
          have htri := HTri.out rfl rfl
          go_upto_region 12 with (go_at_call 22; ((with_reducible refine (C5.out _).mono ?_); rintro _ _ ⟨rfl, y6, rfl⟩))
          have hsx := HSx.out
          go_wp2_with (first | (go_at_call 21; ((with_reducible refine (C8.out _).mono ?_); rintro _ _ ⟨rfl, y7, rfl⟩)) | (go_at_call 12; ((with_reducible refine (awake_calls W y7).mono ?_); rintro _ _ ⟨rfl, yz, rfl⟩)))
          go_ret
          exact ⟨rfl, Hup.out yz⟩
  all_goals
    go_wp2_with (go_at_call 12; ((with_reducible refine (awake_calls W y0).mono ?_); rintro _ _ ⟨rfl, yz, rfl⟩))
    go_ret
    exact ⟨rfl, Hup.out yz⟩
end Go.Proofs.Ytdmmjapccgeffaa
