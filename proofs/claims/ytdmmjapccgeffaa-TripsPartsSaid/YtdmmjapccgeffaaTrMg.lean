/- Trips between zones, the reference: Each, Counted. -/
import Derived.Test.YtdmmjapccgeffaaTrMf
import Derived.IntWalk
set_option linter.all false
namespace Go.Proofs.Ytdmmjapccgeffaa
open Go.RowKit Go.ChangeMaps

/-- these rides and an error -/
def REach (w : World) (L : List Ride) (e : Int) (o : Ending) (w' : World) : Prop :=
  ∃ (a : Option Addr) (c : Nat) (y : Since w), o = .returned (.tuple #[.slice a L.length c, .int .i64 e]) ∧ w' = y.w ∧ RideRow y.w a L ∧ L.length ≤ c
set_option maxRecDepth 100000 in
set_option maxHeartbeats 16000000 in
theorem reach_calls (w : World) (x : Since w) (a : Option Addr) (R : List Ride) (c : Nat) (each : Int) (h : RideRow w a R) (hl : R.length ≤ 9223372036854775807) :
    Calls Try.prog 14 #[.slice a R.length c, .int .i64 each] x.w (REach w (eachV R each) (eachE R each)) := by
  have HR := Lib.hid h
  have Hck := Lib.hid (fun y : Since w => rrides_calls w y a R c h hl)
  clear h
  have Hz := Lib.hid (fun (y : Since w) (e : Int) (he : eachE R each = e) (hn : e ≠ 0) => show REach w (eachV R each) (eachE R each) (.returned (.tuple #[.slice none 0 0, .int .i64 e])) y.w from by
    subst he
    have : eachV R each = [] := if_neg hn
    rw [this]
    exact ⟨none, 0, y, rfl, rfl, ⟨els_nil _ _, fun r hr => by cases hr⟩, Nat.le_refl _⟩)
  have HP := Lib.hid (fun (he : eachE R each = 0) (a' : Option Addr) (c' n : Nat) (y : Since w) (hn : (eachL R each).length = n) (h1 : RideRow y.w a' (eachL R each)) (h2 : n ≤ c') => show REach w (eachV R each) (eachE R each) (.returned (.tuple #[.slice a' n c', .int .i64 0])) y.w from by
    subst hn
    have : eachV R each = eachL R each := if_pos he
    rw [this, he]
    exact ⟨a', c', y, rfl, rfl, h1, h2⟩)
  generalize REach w (eachV R each) (eachE R each) = PO at *
  by_cases hr : each < 0 ∨ 256 < each
  · have HB := Lib.hid (Hz.out x 1 (if_pos hr) (by decide))
    rcases (by omega : each < 0 ∨ (¬ each < 0 ∧ 256 < each)) with h | ⟨h, h2⟩
    all_goals
      clear hr Hz HP Hck
      go_enter Try.func14, Try.ntmps14
      go_wp2_with fail
      exact HB.out
  · obtain ⟨r1, r2⟩ : ¬ each < 0 ∧ ¬ 256 < each := by omega
    have hE : eachE R each = ridesE R := if_neg hr
    by_cases he : ridesE R = 0
    case neg =>
      have hne : (ridesE R != 0) = true := by simpa using he
      have HB := Lib.hid (fun y => Hz.out y (ridesE R) hE he)
      clear hE he hr Hz HP
      generalize ridesE R = E at *
      go_enter Try.func14, Try.ntmps14
      go_wp2_with (go_at_call 34; ((with_reducible refine (Hck.out _).mono ?_); rintro _ _ ⟨rfl, y1, rfl⟩))
      exact HB.out y1
    case pos =>
      obtain ⟨hr256, _, _⟩ := ridesE_zero he
      have hs0 := rides_s0 he
      have Hs0 := Lib.hid hs0
      have Hy := Lib.hid (HP.out (hE.trans he))
      rw [he] at Hck
      have Hah := Lib.hid (fun (y : Since w) (e : Ride) (hm : e ∈ R) => show Calls Try.prog 35 #[.slice a R.length c, .agg #[.int .i64 e.id, .int .i64 e.rd, .int .i64 e.s0, .int .i64 e.s1, .int .i64 e.e0, .int .i64 e.e1, .bool e.op, .slice e.la e.legs.length e.lc, .slice e.pa e.pauses.length e.pc, .int .i64 e.fw, .int .i64 e.fp, .int .i64 e.wh, .int .i64 e.pl]] y.w (OneI y.w (ahd R e)) from ahead_calls y.w (Since.self y.w) a R c e (HR.out.since y) hr256 hs0 (hs0 e hm))
      clear hE he hr Hz HP hs0
      go_enter Try.func14, Try.ntmps14
      go_wp2_with fail
      refine (Hck.out _).mono ?_
      rintro _ _ ⟨rfl, y1, rfl⟩
      clear Hck
      go_wp2_with fail
      go_loopw [7, 8] (fun v i wr => ∃ (k m : Nat) (y : Since w), k ≤ R.length ∧ i = .int .i64 (k : Int) ∧ wr = y.w ∧ y.w.ownsRow w.heap.size 52 13 v m (flat Ride.cs ((R.take k).filter (ctd R each))) ∧ m ≤ k) (fun _ i _ => R.length - (intOf i).toNat)
      case atStart => exact ⟨0, 0, y1, by omega, rfl, rfl, by rw [List.take_zero]; exact ⟨rfl, .inl ⟨rfl, rfl⟩⟩, by omega⟩
      case round =>
        obtain ⟨k, m, y, hk, rfl, rfl, hown, hmk⟩ := hrel
        have Hown := Lib.hid hown
        clear hown
        by_cases hlt : k < R.length
        · have hk0 : (0 : Int) ≤ (k : Int) := by omega
          have hkl : (k : Int) < (R.length : Int) := by omega
          obtain ⟨e, he⟩ : ∃ e, R[k]? = some e := ⟨_, List.getElem?_eq_getElem (by omega)⟩
          have Htk := Lib.hid (pick_take R (ctd R each) k e he)
          have hah := Hah.out y e (List.mem_of_getElem? he)
          obtain ⟨b1, off1, rfl, h1'⟩ := Els.ride HR.out.c he
          have ra0 := h1'.c0
          have ra1 := h1'.c1
          have ra2 := h1'.c2
          have ra3 := h1'.c3
          have ra4 := h1'.c4
          have ra5 := h1'.c5
          have ra6 := h1'.c6
          have ra7 := h1'.c7
          have ra8 := h1'.c8
          have ra9 := h1'.c9
          have ra10 := h1'.c10
          have ra11 := h1'.c11
          have ra12 := h1'.c12
          have Hct := Lib.hid (show ctd R each e = (!e.op && decide ((ahd R e : Int) < each)) from rfl)
          have Hsk := Lib.hid (fun (h : ctd R each e = false) (y6 : Since w) (hW : ∃ z : Since y.w, y6.w = z.w) => show y6.w.ownsRow w.heap.size 52 13 u7 m (flat Ride.cs ((R.take (k + 1)).filter (ctd R each))) by
            rw [Htk.out, h]; simp; exact own_to Hown.out hW)
          have Hf := Lib.hid (fun (h : ctd R each e = true) => show flat Ride.cs ((R.take (k + 1)).filter (ctd R each)) = flat Ride.cs ((R.take k).filter (ctd R each)) ++ e.cs by
            rw [Htk.out, h, flat_append, if_pos rfl, flat_one])
          clear h1' he Htk
          cases hop : e.op
          case true =>
            rw [hop] at ra6
            have Hs2 := Lib.hid (Hsk.out (by rw [Hct.out, hop]; rfl) y ⟨Since.self _, rfl⟩)
            clear Hsk Hf hah hop Hct
            go_wp2_with fail
            go_roundw
            case rel => exact ⟨k + 1, m, y, by omega, by go_num, rfl, Hs2.out, by omega⟩
            case measure => simp [intOf] <;> omega
          case false =>
            have Hcs := Lib.hid (show ({ e with op := false } : Ride).cs = e.cs by unfold Ride.cs; rw [hop])
            rw [hop] at ra6 hah Hct
            have Hah2 := Lib.hid hah
            generalize (ahd R e : Int) = n at *
            by_cases hn : n < each
            · have Hf2 := Lib.hid (Hf.out (by rw [Hct.out]; simp; exact hn))
              clear Hsk Hf hah Hct hop
              go_wp2_with fail
              refine Hah2.out.mono ?_
              rintro _ _ ⟨rfl, z6, rfl⟩
              have hown6 := own_to Hown.out ⟨z6, rfl⟩
              obtain ⟨y6, h6⟩ := y.trans z6
              rw [h6] at hown6 ⊢
              replace Hown := Lib.hid hown6
              clear hown6 h6
              go_wp2_with (at_builtin; (refine wpList_appendK (w0 := w) ?hw rfl _ _ 22 rfl w.heap.size (Nat.le_refl _) ?hb 52 zeroRide 136 sRide u7 m (flat Ride.cs ((R.take k).filter (ctd R each))) rfl ?hown ⟨y6.w.heap.size, 0, none⟩ 1 1 { e with op := false }.cs rfl rfl ?hc (ride_one _) ?h63 ?hbytes ?_; rotate_right 1; intro v2 q2 hown4 _ hg4))
              case hw => exact IsSince.alloc (IsSince.of y6) _
              case hb => have := y6.b.size; simp; omega
              case hown => exact own_to Hown.out (IsSince.alloc (IsSince.self _) _)
              case hc => exact cell_new_at y6.w { e with op := false }.cs _
              case h63 => unfold maxLen; omega
              case hbytes => omega
              have Hown4 := Lib.hid (show q2.w.ownsRow w.heap.size 52 13 v2 (m + 1) (flat Ride.cs ((R.take (k + 1)).filter (ctd R each))) by rw [Hf2.out, ← Hcs.out]; exact hown4)
              clear hown4 hg4
              go_wp2_with fail
              go_roundw
              case rel => exact ⟨k + 1, m + 1, q2, by omega, by go_num, rfl, Hown4.out, by omega⟩
              case measure => simp [intOf] <;> omega
            · have Hs2 := Lib.hid (Hsk.out (by rw [Hct.out]; simp; omega))
              clear Hsk Hf hah Hct hop
              go_wp2_with fail
              refine Hah2.out.mono ?_
              rintro _ _ ⟨rfl, z6, rfl⟩
              obtain ⟨y6, h6⟩ := y.trans z6
              have Hs3 := Lib.hid (Hs2.out y6 ⟨z6, h6.symm⟩)
              rw [h6]
              clear Hs2 h6
              go_wp2_with fail
              go_roundw
              case rel => exact ⟨k + 1, m, y6, by omega, by go_num, rfl, Hs3.out, by omega⟩
              case measure => simp [intOf] <;> omega
        · obtain rfl : k = R.length := by omega
          obtain ⟨hlen, a3, c3, rfl, hc3, he3, _, _⟩ := own_els Ride.len (by decide) Hown.out
          rw [List.take_length] at he3
          have H3 := Lib.hid (Hy.out a3 c3 ((R.take R.length).filter (ctd R each)).length y (by unfold eachL; rw [List.take_length]) ⟨he3, fun r hr => (HR.out.r r ((List.mem_filter.1 hr).1)).since y⟩ hc3)
          clear hc3 he3 hlen
          go_wp2_with fail
          exact H3.out
theorem eachV_len {R : List Ride} {each : Int} : (eachV R each).length ≤ 256 := by
  unfold eachV
  by_cases he : eachE R each = 0
  · rw [if_pos he]
    have := (ridesE_zero (eachE_zero he).2.2).1
    exact Nat.le_trans (List.length_filter_le _ _) this
  · rw [if_neg he]; simp
set_option maxRecDepth 100000 in
set_option maxHeartbeats 16000000 in
theorem rcounted_calls (w : World) (x : Since w) (a : Option Addr) (R : List Ride) (c : Nat) (f t each : Int) (h : RideRow w a R) (hl : R.length ≤ 9223372036854775807) :
    Calls Try.prog 38 #[.slice a R.length c, .agg #[.int .i64 f, .int .i64 t], .int .i64 each] x.w (REach w ((eachV R each).filter (inT f t)) (eachE R each)) := by
  have HR := Lib.hid h
  clear h
  have HP := Lib.hid (fun (a' : Option Addr) (c' n : Nat) (y : Since w) (hn : ((eachV R each).filter (inT f t)).length = n) (h1 : RideRow y.w a' ((eachV R each).filter (inT f t))) (h2 : n ≤ c') => show REach w ((eachV R each).filter (inT f t)) (eachE R each) (.returned (.tuple #[.slice a' n c', .int .i64 (eachE R each)])) y.w from by
    subst hn
    exact ⟨a', c', y, rfl, rfl, h1, h2⟩)
  generalize REach w ((eachV R each).filter (inT f t)) (eachE R each) = PO at *
  go_enter Try.func38, Try.ntmps38
  go_upto_region 1 with fail
  have hb0_0 : ∀ y : Since (x.w.alloc (.cells #[.int .i64 f, .int .i64 t] 34)), y.w.cell? ⟨x.w.heap.size, 0, none⟩ = some (.int .i64 f) := fun y => Since.cell (by simp [go_sem]) (by first | (simp; done) | (simp; omega)) y
  have hb0_1 : ∀ y : Since (x.w.alloc (.cells #[.int .i64 f, .int .i64 t] 34)), y.w.cell? ⟨x.w.heap.size, 1, none⟩ = some (.int .i64 t) := fun y => Since.cell (by simp [go_sem]) (by first | (simp; done) | (simp; omega)) y
  have hf0 : ∀ (y : Since (x.w.alloc (.cells #[.int .i64 f, .int .i64 t] 34))) (o : Nat), y.w.frozen? ⟨x.w.heap.size, o, none⟩ = false := fun y o => Since.free (by simp [go_sem]) (by first | (simp; done) | (simp; omega)) y
  have hWup : ∃ z : Since w, (x.w.alloc (.cells #[.int .i64 f, .int .i64 t] 34)) = z.w := x.alloc _
  obtain ⟨y0, hy0⟩ := Since.refl (x.w.alloc (.cells #[.int .i64 f, .int .i64 t] 34))
  have Hbx := Lib.hid (And.intro x.b.size (show x.w.heap.size + 1 = (x.w.alloc (.cells #[.int .i64 f, .int .i64 t] 34)).heap.size from by simp))
  generalize hW : (x.w.alloc (.cells #[.int .i64 f, .int .i64 t] 34)) = W at *
  clear hW
  generalize x.w.heap.size = bx at *
  have Hup := Lib.hid (Since.up hWup)
  rw [hy0]
  clear hy0
  replace HR := Lib.hid (HR.out.to hWup)
  clear hWup hf0
  have Hea := Lib.hid (fun y : Since W => reach_calls W y a R c each HR.out hl)
  have hlen := eachV_len (R := R) (each := each)
  generalize eachV R each = L at *
  generalize eachE R each = E at *
  go_wp2_with fail
  refine (Hea.out _).mono ?_
  rintro _ _ ⟨a1, c1, y1, rfl, rfl, hL, hc1⟩
  have HL := Lib.hid hL
  have HU := Lib.hid (fun q : Since y1.w => y1.trans q)
  have kb0 : ∀ q : Since y1.w, q.w.cell? ⟨bx, 0, none⟩ = some (.int .i64 f) := fun q => by obtain ⟨z, hz⟩ := HU.out q; rw [hz]; exact hb0_0 z
  have kb1 : ∀ q : Since y1.w, q.w.cell? ⟨bx, 1, none⟩ = some (.int .i64 t) := fun q => by obtain ⟨z, hz⟩ := HU.out q; rw [hz]; exact hb0_1 z
  clear hL Hea hb0_0 hb0_1
  go_wp2_with fail
  go_loopw [10, 11] (fun v i wr => ∃ (k m : Nat) (y : Since y1.w), k ≤ L.length ∧ i = .int .i64 (k : Int) ∧ wr = y.w ∧ y.w.ownsRow y1.w.heap.size 52 13 v m (flat Ride.cs ((L.take k).filter (inT f t))) ∧ m ≤ k) (fun _ i _ => L.length - (intOf i).toNat)
  case atStart => exact ⟨0, 0, Since.self _, by omega, rfl, rfl, by rw [List.take_zero]; exact ⟨rfl, .inl ⟨rfl, rfl⟩⟩, by omega⟩
  case round =>
    obtain ⟨k, m, y, hk, rfl, rfl, hown, hmk⟩ := hrel
    have Hown := Lib.hid hown
    clear hown
    by_cases hlt : k < L.length
    · have hk0 : (0 : Int) ≤ (k : Int) := by omega
      have hkl : (k : Int) < (L.length : Int) := by omega
      obtain ⟨e, he⟩ : ∃ e, L[k]? = some e := ⟨_, List.getElem?_eq_getElem (by omega)⟩
      have Htk := Lib.hid (pick_take L (inT f t) k e he)
      obtain ⟨b1, off1, rfl, h1'⟩ := Els.ride HL.out.c he
      have ra0 := h1'.c0
      have ra1 := h1'.c1
      have ra2 := h1'.c2
      have ra3 := h1'.c3
      have ra4 := h1'.c4
      have ra5 := h1'.c5
      have ra6 := h1'.c6
      have ra7 := h1'.c7
      have ra8 := h1'.c8
      have ra9 := h1'.c9
      have ra10 := h1'.c10
      have ra11 := h1'.c11
      have ra12 := h1'.c12
      have Hno := Lib.hid (fun (h : inT f t e = false) => show y.w.ownsRow y1.w.heap.size 52 13 u10 m (flat Ride.cs ((L.take (k + 1)).filter (inT f t))) by
        rw [Htk.out, h]; simpa using Hown.out)
      have Hye := Lib.hid (fun (h : inT f t e = true) => show flat Ride.cs ((L.take (k + 1)).filter (inT f t)) = flat Ride.cs ((L.take k).filter (inT f t)) ++ e.cs by
        rw [Htk.out, h, flat_append, if_pos rfl, flat_one])
      clear h1' he Htk
      have hI : inT f t e = (decide (f ≤ e.s0) && decide (e.s0 < t) && (decide (e.wh = 1) || decide (e.wh = 2))) := rfl
      have hc : (¬ f ≤ e.s0) ∨ (f ≤ e.s0 ∧ ¬ e.s0 < t) ∨ (f ≤ e.s0 ∧ e.s0 < t ∧ (e.wh == 1) = false ∧ (e.wh == 2) = false) ∨ (f ≤ e.s0 ∧ e.s0 < t ∧ (e.wh == 1) = true) ∨ (f ≤ e.s0 ∧ e.s0 < t ∧ (e.wh == 1) = false ∧ (e.wh == 2) = true) := by
        by_cases h1 : f ≤ e.s0
        · by_cases h2 : e.s0 < t
          · cases h3 : (e.wh == 1)
            · cases h4 : (e.wh == 2)
              · exact Or.inr (Or.inr (Or.inl ⟨h1, h2, rfl, rfl⟩))
              · exact Or.inr (Or.inr (Or.inr (Or.inr ⟨h1, h2, rfl, rfl⟩)))
            · exact Or.inr (Or.inr (Or.inr (Or.inl ⟨h1, h2, rfl⟩)))
          · exact Or.inr (Or.inl ⟨h1, h2⟩)
        · exact Or.inl h1
      have HI := Lib.hid hI
      clear hI
      rcases hc with h1 | ⟨h1, h2⟩ | ⟨h1, h2, h3, h4⟩ | ⟨h1, h2, h3⟩ | ⟨h1, h2, h3, h4⟩
      · have Hs2 := Lib.hid (Hno.out (by rw [HI.out, decide_eq_false h1]; rfl))
        clear Hno Hye
        go_wp2_with fail
        go_roundw
        case rel => exact ⟨k + 1, m, y, by omega, by go_num, rfl, Hs2.out, by omega⟩
        case measure => simp [intOf] <;> omega
      · have Hs2 := Lib.hid (Hno.out (by rw [HI.out, decide_eq_false h2]; simp))
        clear Hno Hye
        go_wp2_with fail
        go_roundw
        case rel => exact ⟨k + 1, m, y, by omega, by go_num, rfl, Hs2.out, by omega⟩
        case measure => simp [intOf] <;> omega
      · have Hs2 := Lib.hid (Hno.out (by rw [HI.out]; simp at h3 h4; simp [h3, h4]))
        clear Hno Hye
        go_wp2_with fail
        go_roundw
        case rel => exact ⟨k + 1, m, y, by omega, by go_num, rfl, Hs2.out, by omega⟩
        case measure => simp [intOf] <;> omega
      all_goals
        have hor : e.wh = 1 ∨ e.wh = 2 := by
          simp at h3
          first
            | exact Or.inl h3
            | (simp at h4; exact Or.inr h4)
        have Hf2 := Lib.hid (Hye.out (by rw [HI.out, decide_eq_true h1, decide_eq_true h2]; simpa using hor))
        clear hor
        clear Hno Hye
        go_wp2_with (at_builtin; (refine wpList_appendK (w0 := y1.w) ?hw rfl _ _ 22 rfl y1.w.heap.size (Nat.le_refl _) ?hb 52 zeroRide 136 sRide u10 m (flat Ride.cs ((L.take k).filter (inT f t))) rfl ?hown ⟨y.w.heap.size, 0, none⟩ 1 1 e.cs rfl rfl ?hc (ride_one _) ?h63 ?hbytes ?_; rotate_right 1; intro v2 q2 hown4 _ hg4))
        case hw => exact IsSince.alloc (IsSince.of y) _
        case hb => have := y.b.size; simp; omega
        case hown => exact own_to Hown.out (IsSince.alloc (IsSince.self _) _)
        case hc => exact cell_new_at y.w e.cs _
        case h63 => unfold maxLen; omega
        case hbytes => omega
        have Hown4 := Lib.hid (show q2.w.ownsRow y1.w.heap.size 52 13 v2 (m + 1) (flat Ride.cs ((L.take (k + 1)).filter (inT f t))) by rw [Hf2.out]; exact hown4)
        clear hown4 hg4
        go_wp2_with fail
        go_roundw
        case rel => exact ⟨k + 1, m + 1, q2, by omega, by go_num, rfl, Hown4.out, by omega⟩
        case measure => simp [intOf] <;> omega
    · obtain rfl : k = L.length := by omega
      obtain ⟨hlen2, a3, c3, rfl, hc3, he3, _, _⟩ := own_els Ride.len (by decide) Hown.out
      rw [List.take_length] at he3
      obtain ⟨z, hz⟩ := HU.out y
      have hz2 := hz
      obtain ⟨z9, hz9⟩ := Hup.out z
      have H3 := Lib.hid (HP.out a3 c3 ((L.take L.length).filter (inT f t)).length z9 (by rw [List.take_length]) (by rw [← hz9, ← hz]; exact ⟨he3, fun r hr => (HL.out.r r ((List.mem_filter.1 hr).1)).since y⟩) hc3)
      have Hz := Lib.hid (hz.trans hz9)
      clear hc3 he3 hlen2 hz hz2 hz9
      go_wp2_with fail
      rw [Hz.out]
      exact H3.out
end Go.Proofs.Ytdmmjapccgeffaa
/- Trips between zones, the program: Table. -/
namespace Go.Proofs.Ytdmmjapccgeffaa
open Go.RowKit Go.ChangeMaps

/-- a table of the call's own and an error -/
def TabRes (w : World) (T : Tab) (e : Int) (o : Ending) (w' : World) : Prop :=
  ∃ (a : Option Addr) (c : Nat) (y : Since w), o = .returned (.tuple #[.agg #[.int .i64 T.r, .int .i64 T.c, .slice a T.l.length c], .int .i64 e]) ∧ w' = y.w ∧ IntRow y.w a T.l ∧ T.l.length ≤ c ∧ (∀ b, a = some b → w.heap.size ≤ b.block)
theorem row_nil' (w : World) : IntRow w none [] := fun i hi => by simp at hi
/-- what the rounds keep -/
structure TbAt (w : World) (g gc gt n N : Nat) (size : Int) (b : Nat → Bool) (f : Nat → Int) : Prop where
  bl : Bls w g n b
  cl : Nums w gc N f
  bx : BoxIs w gt [.int .i64 size, .int .i64 size, .slice (some ⟨gc, 0, none⟩) N N]
theorem TbAt.to {w W : World} {g gc gt n N : Nat} {size : Int} {b : Nat → Bool} {f : Nat → Int} (h : TbAt w g gc gt n N size b f) (hW : ∃ z : Since w, W = z.w) : TbAt W g gc gt n N size b f := ⟨h.bl.to hW, h.cl.to hW, h.bx.to hW⟩
theorem BoxIs.setNe {w : World} {g : Nat} {vs : List Value} (h : BoxIs w g vs) (p : Addr) (u : Value) (hne : g ≠ p.block) : BoxIs (w.setCell p u) g vs := by
  refine ⟨by simpa [World.setCell] using h.lt, fun j v hv => ?_, fun o => by rw [World.frozen?_setCell]; exact h.f o⟩
  rw [World.cell?_of_block (w := w) (a := ⟨g, j, none⟩) (Below.heap_setCell w p u g hne)]
  exact h.c j v hv
theorem Bls.setNe {w : World} {g n : Nat} {f : Nat → Bool} (h : Bls w g n f) (p : Addr) (u : Value) (hne : p.block ≠ g) : Bls (w.setCell p u) g n f := h.setOther p hne u
theorem sm_f {b : Bool} (h : false = !b) : b = true := by
  cases b
  · cases h
  · rfl
theorem sm_t {b : Bool} (h : true = !b) : ¬ b = true := by
  cases b
  · simp
  · cases h
theorem nums_row {w : World} {g N : Nat} {f : Nat → Int} (h : Nums w g N f) (m : Nat) (hm : m = N) : IntRow w (some ⟨g, 0, none⟩) ((List.range m).map f) := by
  subst hm
  intro i hi
  have hi' : i < m := by simpa using hi
  refine ⟨g, 0, rfl, h.lt, ?_⟩
  rw [Nat.zero_add, h.c i hi']
  simp [at0, List.getD_eq_getElem?_getD, hi']
theorem cP_no {R : List Ride} {each f t : Int} {e : Ride} (h : cP R each f t e = false) : ctd R each e = false ∨ (ctd R each e = true ∧ e.s0 < f) ∨ (ctd R each e = true ∧ ¬ e.s0 < f ∧ t ≤ e.s0) ∨ (ctd R each e = true ∧ ¬ e.s0 < f ∧ ¬ t ≤ e.s0 ∧ (e.wh != 1) = true ∧ (e.wh != 2) = true) := by
  unfold cP inT at h
  cases hc : ctd R each e
  · exact Or.inl rfl
  · rw [hc] at h
    simp at h
    by_cases h1 : e.s0 < f
    · exact Or.inr (Or.inl ⟨rfl, h1⟩)
    · by_cases h2 : t ≤ e.s0
      · exact Or.inr (Or.inr (Or.inl ⟨rfl, h1, h2⟩))
      · have := h (by omega) (by omega)
        exact Or.inr (Or.inr (Or.inr ⟨rfl, h1, h2, by simpa using this.1, by simpa using this.2⟩))
theorem cP_yes {R : List Ride} {each f t : Int} {e : Ride} (h : cP R each f t e = true) : ctd R each e = true ∧ ¬ e.s0 < f ∧ ¬ t ≤ e.s0 ∧ (e.wh = 1 ∨ (¬ e.wh = 1 ∧ e.wh = 2)) := by
  unfold cP inT at h
  simp at h
  obtain ⟨h1, ⟨h2, h3⟩, h4⟩ := h
  exact ⟨h1, by omega, by omega, by omega⟩
set_option maxRecDepth 100000 in
set_option maxHeartbeats 16000000 in
theorem table_calls (w : World) (x : Since w) (az : Option Addr) (zs : List Int) (cz : Nat) (size : Int) (a : Option Addr) (R : List Ride) (c : Nat) (f t each : Int) (hz : IntRow w az zs) (hzl : zs.length ≤ 9223372036854775807) (h : RideRow w a R) (hl : R.length ≤ 9223372036854775807) (hI : ∀ r ∈ R, r.fp ≤ 9223372036854775807 ∧ r.pl ≤ 9223372036854775807) :
    Calls Try.prog 28 #[.slice az zs.length cz, .int .i64 size, .slice a R.length c, .agg #[.int .i64 f, .int .i64 t], .int .i64 each] x.w (TabRes w (tabV zs size R f t each) (tabE zs size R f t each)) := by
  have HZ := Lib.hid hz
  have HR := Lib.hid h
  have HI := Lib.hid hI
  have Hno := Lib.hid (fun (e : Int) (he : tabE zs size R f t each = e) (hne : e ≠ 0) (y : Since w) => show TabRes w (tabV zs size R f t each) (tabE zs size R f t each) (.returned (.tuple #[.agg #[.int .i64 0, .int .i64 0, .slice none 0 0], .int .i64 e])) y.w from by
    subst he
    have : tabV zs size R f t each = tab0 := if_neg hne
    rw [this]
    exact ⟨none, 0, y, rfl, rfl, row_nil' _, Nat.le_refl _, fun b hb => by cases hb⟩)
  have Hyes := Lib.hid (fun (he : tabE zs size R f t each = 0) (l : List Int) (hl : l = cells zs size (cntL R each f t)) (a' : Option Addr) (n c' : Nat) (hn : l.length = n) (y : Since w) (hr : IntRow y.w a' l) (hc : n ≤ c') (ha : ∀ b, a' = some b → w.heap.size ≤ b.block) => show TabRes w (tabV zs size R f t each) (tabE zs size R f t each) (.returned (.tuple #[.agg #[.int .i64 size, .int .i64 size, .slice a' n c'], .int .i64 0])) y.w from by
    have : tabV zs size R f t each = ⟨size, size, cells zs size (cntL R each f t)⟩ := if_pos he
    rw [this, he]
    subst hl
    subst hn
    exact ⟨a', c', y, rfl, rfl, hr, hc, ha⟩)
  generalize TabRes w (tabV zs size R f t each) (tabE zs size R f t each) = PO at *
  clear hz h hI
  by_cases hv : size < 1 ∨ 8 < size ∨ f < 0 ∨ t < f ∨ 4294944000 < t
  case pos =>
    have HB := Lib.hid (Hno.out 1 (if_pos hv) (by decide))
    rcases (by omega : size < 1 ∨ (¬ size < 1 ∧ 8 < size) ∨ (¬ size < 1 ∧ ¬ 8 < size ∧ f < 0) ∨ (¬ size < 1 ∧ ¬ 8 < size ∧ ¬ f < 0 ∧ t < f) ∨ (¬ size < 1 ∧ ¬ 8 < size ∧ ¬ f < 0 ∧ ¬ t < f ∧ 4294944000 < t)) with h1 | ⟨h1, h2⟩ | ⟨h1, h2, h3⟩ | ⟨h1, h2, h3, h4⟩ | ⟨h1, h2, h3, h4, h5⟩
    all_goals
      clear hv Hno Hyes
      go_enter Try.func28, Try.ntmps28
      go_upto_region 1 with fail
      have hb0_0 : ∀ y : Since ((x.w.alloc (.cells #[.int .i64 f, .int .i64 t] 34)).alloc (.cells #[.int .i64 0, .int .i64 0, .slice none 0 0] 39)), y.w.cell? ⟨x.w.heap.size, 0, none⟩ = some (.int .i64 f) := fun y => Since.cell (by simp [go_sem]) (by first | (simp; done) | (simp; omega)) y
      have hb0_1 : ∀ y : Since ((x.w.alloc (.cells #[.int .i64 f, .int .i64 t] 34)).alloc (.cells #[.int .i64 0, .int .i64 0, .slice none 0 0] 39)), y.w.cell? ⟨x.w.heap.size, 1, none⟩ = some (.int .i64 t) := fun y => Since.cell (by simp [go_sem]) (by first | (simp; done) | (simp; omega)) y
      have hf0 : ∀ (y : Since ((x.w.alloc (.cells #[.int .i64 f, .int .i64 t] 34)).alloc (.cells #[.int .i64 0, .int .i64 0, .slice none 0 0] 39))) (o : Nat), y.w.frozen? ⟨x.w.heap.size, o, none⟩ = false := fun y o => Since.free (by simp [go_sem]) (by first | (simp; done) | (simp; omega)) y
      have hb1_0 : ∀ y : Since ((x.w.alloc (.cells #[.int .i64 f, .int .i64 t] 34)).alloc (.cells #[.int .i64 0, .int .i64 0, .slice none 0 0] 39)), y.w.cell? ⟨x.w.heap.size + 1, 0, none⟩ = some (.int .i64 0) := fun y => Since.cell (by simp [go_sem]) (by first | (simp; done) | (simp; omega)) y
      have hb1_1 : ∀ y : Since ((x.w.alloc (.cells #[.int .i64 f, .int .i64 t] 34)).alloc (.cells #[.int .i64 0, .int .i64 0, .slice none 0 0] 39)), y.w.cell? ⟨x.w.heap.size + 1, 1, none⟩ = some (.int .i64 0) := fun y => Since.cell (by simp [go_sem]) (by first | (simp; done) | (simp; omega)) y
      have hb1_2 : ∀ y : Since ((x.w.alloc (.cells #[.int .i64 f, .int .i64 t] 34)).alloc (.cells #[.int .i64 0, .int .i64 0, .slice none 0 0] 39)), y.w.cell? ⟨x.w.heap.size + 1, 2, none⟩ = some (.slice none 0 0) := fun y => Since.cell (by simp [go_sem]) (by first | (simp; done) | (simp; omega)) y
      have hf1 : ∀ (y : Since ((x.w.alloc (.cells #[.int .i64 f, .int .i64 t] 34)).alloc (.cells #[.int .i64 0, .int .i64 0, .slice none 0 0] 39))) (o : Nat), y.w.frozen? ⟨x.w.heap.size + 1, o, none⟩ = false := fun y o => Since.free (by simp [go_sem]) (by first | (simp; done) | (simp; omega)) y
      have hWup : ∃ z : Since w, ((x.w.alloc (.cells #[.int .i64 f, .int .i64 t] 34)).alloc (.cells #[.int .i64 0, .int .i64 0, .slice none 0 0] 39)) = z.w := Since.allocs x [.cells #[.int .i64 f, .int .i64 t] 34, .cells #[.int .i64 0, .int .i64 0, .slice none 0 0] 39]
      obtain ⟨y0, hy0⟩ := Since.refl ((x.w.alloc (.cells #[.int .i64 f, .int .i64 t] 34)).alloc (.cells #[.int .i64 0, .int .i64 0, .slice none 0 0] 39))
      have Hbx := Lib.hid (And.intro x.b.size (show x.w.heap.size + 2 = ((x.w.alloc (.cells #[.int .i64 f, .int .i64 t] 34)).alloc (.cells #[.int .i64 0, .int .i64 0, .slice none 0 0] 39)).heap.size from by simp))
      generalize hW : ((x.w.alloc (.cells #[.int .i64 f, .int .i64 t] 34)).alloc (.cells #[.int .i64 0, .int .i64 0, .slice none 0 0] 39)) = W at *
      clear hW
      generalize x.w.heap.size = bx at *
      have Hup := Lib.hid (Since.up hWup)
      rw [hy0]
      clear hy0
      clear hWup
      go_wp2_with fail
      have hsm : ∀ j, j < 3 → (y0.w.cell? ⟨bx + 1, j, none⟩).isSome = true := fun j hj => by
        match j, hj with
        | 0, _ => rw [hb1_0 y0]; rfl
        | 1, _ => rw [hb1_1 y0]; rfl
        | 2, _ => rw [hb1_2 y0]; rfl
      obtain ⟨z, hz, hc⟩ := set_many y0 (g := bx + 1) [.int .i64 0, .int .i64 0, .slice none 0 0] hsm (Hup.out y0) (by have := Hbx.out; omega)
      simp only [World.setCells, Nat.reduceAdd] at hz
      rw [hz]
      have hc0 := hc 0 _ rfl
      have hc1 := hc 1 _ rfl
      have hc2 := hc 2 _ rfl
      exact bodyPost_ret (v := .tuple #[.agg #[.int .i64 0, .int .i64 0, .slice none 0 0], .int .i64 1]) (by simp [results, Try.results28, go_sem, hc0, hc1, hc2]) rfl (HB.out z)
  case neg =>
  obtain ⟨v1, v2, v3, v4, v5⟩ : ¬ size < 1 ∧ ¬ 8 < size ∧ ¬ f < 0 ∧ ¬ t < f ∧ ¬ 4294944000 < t := ⟨by omega, by omega, by omega, by omega, by omega⟩
  go_enter Try.func28, Try.ntmps28
  go_upto_region 1 with fail
  have hb0_0 : ∀ y : Since ((x.w.alloc (.cells #[.int .i64 f, .int .i64 t] 34)).alloc (.cells #[.int .i64 0, .int .i64 0, .slice none 0 0] 39)), y.w.cell? ⟨x.w.heap.size, 0, none⟩ = some (.int .i64 f) := fun y => Since.cell (by simp [go_sem]) (by first | (simp; done) | (simp; omega)) y
  have hb0_1 : ∀ y : Since ((x.w.alloc (.cells #[.int .i64 f, .int .i64 t] 34)).alloc (.cells #[.int .i64 0, .int .i64 0, .slice none 0 0] 39)), y.w.cell? ⟨x.w.heap.size, 1, none⟩ = some (.int .i64 t) := fun y => Since.cell (by simp [go_sem]) (by first | (simp; done) | (simp; omega)) y
  have hf0 : ∀ (y : Since ((x.w.alloc (.cells #[.int .i64 f, .int .i64 t] 34)).alloc (.cells #[.int .i64 0, .int .i64 0, .slice none 0 0] 39))) (o : Nat), y.w.frozen? ⟨x.w.heap.size, o, none⟩ = false := fun y o => Since.free (by simp [go_sem]) (by first | (simp; done) | (simp; omega)) y
  have hb1_0 : ∀ y : Since ((x.w.alloc (.cells #[.int .i64 f, .int .i64 t] 34)).alloc (.cells #[.int .i64 0, .int .i64 0, .slice none 0 0] 39)), y.w.cell? ⟨x.w.heap.size + 1, 0, none⟩ = some (.int .i64 0) := fun y => Since.cell (by simp [go_sem]) (by first | (simp; done) | (simp; omega)) y
  have hb1_1 : ∀ y : Since ((x.w.alloc (.cells #[.int .i64 f, .int .i64 t] 34)).alloc (.cells #[.int .i64 0, .int .i64 0, .slice none 0 0] 39)), y.w.cell? ⟨x.w.heap.size + 1, 1, none⟩ = some (.int .i64 0) := fun y => Since.cell (by simp [go_sem]) (by first | (simp; done) | (simp; omega)) y
  have hb1_2 : ∀ y : Since ((x.w.alloc (.cells #[.int .i64 f, .int .i64 t] 34)).alloc (.cells #[.int .i64 0, .int .i64 0, .slice none 0 0] 39)), y.w.cell? ⟨x.w.heap.size + 1, 2, none⟩ = some (.slice none 0 0) := fun y => Since.cell (by simp [go_sem]) (by first | (simp; done) | (simp; omega)) y
  have hf1 : ∀ (y : Since ((x.w.alloc (.cells #[.int .i64 f, .int .i64 t] 34)).alloc (.cells #[.int .i64 0, .int .i64 0, .slice none 0 0] 39))) (o : Nat), y.w.frozen? ⟨x.w.heap.size + 1, o, none⟩ = false := fun y o => Since.free (by simp [go_sem]) (by first | (simp; done) | (simp; omega)) y
  have hWup : ∃ z : Since w, ((x.w.alloc (.cells #[.int .i64 f, .int .i64 t] 34)).alloc (.cells #[.int .i64 0, .int .i64 0, .slice none 0 0] 39)) = z.w := Since.allocs x [.cells #[.int .i64 f, .int .i64 t] 34, .cells #[.int .i64 0, .int .i64 0, .slice none 0 0] 39]
  obtain ⟨y0, hy0⟩ := Since.refl ((x.w.alloc (.cells #[.int .i64 f, .int .i64 t] 34)).alloc (.cells #[.int .i64 0, .int .i64 0, .slice none 0 0] 39))
  have Hbx := Lib.hid (And.intro x.b.size (show x.w.heap.size + 2 = ((x.w.alloc (.cells #[.int .i64 f, .int .i64 t] 34)).alloc (.cells #[.int .i64 0, .int .i64 0, .slice none 0 0] 39)).heap.size from by simp))
  generalize hW : ((x.w.alloc (.cells #[.int .i64 f, .int .i64 t] 34)).alloc (.cells #[.int .i64 0, .int .i64 0, .slice none 0 0] 39)) = W at *
  clear hW
  generalize x.w.heap.size = bx at *
  have Hup := Lib.hid (Since.up hWup)
  rw [hy0]
  clear hy0
  replace HZ := Lib.hid (HZ.out.to hWup)
  replace HR := Lib.hid (HR.out.to hWup)
  clear hWup
  have Hck := Lib.hid (fun y : Since W => checked_calls W y a R c each HR.out hl)
  by_cases he : eachE R each = 0
  case neg =>
    have hne : (eachE R each != 0) = true := by simpa using he
    have HB := Lib.hid (Hno.out (eachE R each) (by unfold tabE; rw [if_neg hv, if_pos he]) he)
    clear he hv Hno Hyes
    generalize eachE R each = E at *
    go_wp2_with (go_at_call 30; ((with_reducible refine (Hck.out _).mono ?_); rintro _ _ ⟨rfl, y1, rfl⟩))
    have hsm : ∀ j, j < 3 → (y1.w.cell? ⟨bx + 1, j, none⟩).isSome = true := fun j hj => by
      match j, hj with
      | 0, _ => rw [hb1_0 y1]; rfl
      | 1, _ => rw [hb1_1 y1]; rfl
      | 2, _ => rw [hb1_2 y1]; rfl
    obtain ⟨z, hz, hc⟩ := set_many y1 (g := bx + 1) [.int .i64 0, .int .i64 0, .slice none 0 0] hsm (Hup.out y1) (by have := Hbx.out; omega)
    simp only [World.setCells, Nat.reduceAdd] at hz
    rw [hz]
    have hc0 := hc 0 _ rfl
    have hc1 := hc 1 _ rfl
    have hc2 := hc 2 _ rfl
    exact bodyPost_ret (v := .tuple #[.agg #[.int .i64 0, .int .i64 0, .slice none 0 0], .int .i64 E]) (by simp [results, Try.results28, go_sem, hc0, hc1, hc2]) rfl (HB.out z)
  case pos =>
  obtain ⟨e0, e1, hrz⟩ := eachE_zero he
  obtain ⟨hr256, hid, hre⟩ := ridesE_zero hrz
  have Hct := Lib.hid (fun y : Since W => show Calls Try.prog 31 #[.slice a R.length c, .int .i64 each] y.w (CtPost y.w R each) from counted_calls y.w (Since.self y.w) a R c each (HR.out.since y) hr256 e0 e1 hid (rides_s0 hrz))
  have Hs0 := Lib.hid (rides_s0 hrz)
  have HE := Lib.hid (show tabE zs size R f t each = if endsE zs (cntL R each f t) ≠ 0 then endsE zs (cntL R each f t) else if (cntL R each f t).any (bigR zs size) = true then 7 else 0 by unfold tabE; rw [if_neg hv, if_neg (by rw [he]; simp)])
  rw [he] at Hck
  clear he hrz hid hre hv
  obtain ⟨N, hN⟩ : ∃ N : Nat, size * size = (N : Int) := ⟨(size * size).toNat, by have := tab_mul (a := size) (b := size) (by omega); omega⟩
  have HN := Lib.hid hN
  have hNb : 1 ≤ size * size ∧ size * size ≤ 64 := tab_mul (by omega)
  obtain ⟨n1, n2⟩ := hNb
  have hN64 : N ≤ 64 := by omega
  clear hN
  go_wp2_with fail
  refine (Hck.out _).mono ?_
  rintro _ _ ⟨rfl, y1, rfl⟩
  obtain ⟨i0, hi0, hz0, hsz0, hby0⟩ := info_parts (P := Try.prog) (e := 3) (z := .int .i64 0) (size := 1) (bytes := 8) (by kernel_rfl)
  go_wp2_with (at_make; refine wpList_make_full _ rfl _ _ 29 rfl W.heap.size 3 i0 (.int .i64 0) 1 Try.underlying29 hi0 hz0 hsz0 .i64 .i64 (size * size) (size * size) N rfl rfl HN.out HN.out (by rw [hby0]; omega) (by unfold maxLen; omega) y1.b.size ?_; intro w1 hown hg1; refine Hid.out ?_)
  have hrow := own_nums hown (fun j hj => by simp [madeCells, List.getD_eq_getElem?_getD, hj]; show (#[Value.int .i64 0] : Array Value)[j % 1]! = _; rw [Nat.mod_one]; rfl)
  obtain ⟨y2, hy2⟩ := y1.grown hg1 (fun k hk => by cases hk)
  have Hgc := Lib.hid y1.b.size
  subst hy2
  clear hown hg1 hi0 hz0 hsz0 hby0
  generalize y1.w.heap.size = gc at *
  have Hrow := Lib.hid hrow
  clear hrow Hck
  refine Lib.hid ?_
  go_upto_region 8 with fail
  have hx0 : (y2.w.alloc (.cells #[.int .i64 size, .int .i64 size, .slice (some ⟨gc, 0, none⟩) N N] 39)).cell? ⟨y2.w.heap.size, 0, none⟩ = some (.int .i64 size) := by simp [go_sem]
  have hx1 : (y2.w.alloc (.cells #[.int .i64 size, .int .i64 size, .slice (some ⟨gc, 0, none⟩) N N] 39)).cell? ⟨y2.w.heap.size, 1, none⟩ = some (.int .i64 size) := by simp [go_sem]
  have hx2 : (y2.w.alloc (.cells #[.int .i64 size, .int .i64 size, .slice (some ⟨gc, 0, none⟩) N N] 39)).cell? ⟨y2.w.heap.size, 2, none⟩ = some (.slice (some ⟨gc, 0, none⟩) N N) := by simp [go_sem]
  have hxf : ∀ o, (y2.w.alloc (.cells #[.int .i64 size, .int .i64 size, .slice (some ⟨gc, 0, none⟩) N N] 39)).frozen? ⟨y2.w.heap.size, o, none⟩ = false := fun o => by simp [go_sem]
  have hlt0 : y2.w.heap.size < (y2.w.alloc (.cells #[.int .i64 size, .int .i64 size, .slice (some ⟨gc, 0, none⟩) N N] 39)).heap.size := by simp
  have hst0 : ∃ zz : Since y2.w, (y2.w.alloc (.cells #[.int .i64 size, .int .i64 size, .slice (some ⟨gc, 0, none⟩) N N] 39)) = zz.w := IsSince.alloc (IsSince.self _) _
  have hsz0 := y2.b.size
  obtain ⟨y3, e2⟩ := IsSince.alloc (IsSince.of y2) (.cells #[.int .i64 size, .int .i64 size, .slice (some ⟨gc, 0, none⟩) N N] 39)
  rw [e2] at hx0 hx1 hx2 hxf hlt0 hst0 ⊢
  (have hlt3 := Hrow.out.lt; replace Hrow := Lib.hid (Hrow.out.to hst0); have hbx := BoxIs.new y2.w [.int .i64 size, .int .i64 size, .slice (some ⟨gc, 0, none⟩) N N] 39; rw [e2] at hbx)
  clear e2 hst0
  generalize y2.w.heap.size = gt at *
  have Hhx0 : ∀ q : Since y3.w, q.w.cell? ⟨gt, 0, none⟩ = some (.int .i64 size) := fun q => Since.cell hx0 (by omega) q
  have Hhx1 : ∀ q : Since y3.w, q.w.cell? ⟨gt, 1, none⟩ = some (.int .i64 size) := fun q => Since.cell hx1 (by omega) q
  have Hhx2 : ∀ q : Since y3.w, q.w.cell? ⟨gt, 2, none⟩ = some (.slice (some ⟨gc, 0, none⟩) N N) := fun q => Since.cell hx2 (by omega) q
  have Hhxf : ∀ (q : Since y3.w) (o : Nat), q.w.frozen? ⟨gt, o, none⟩ = false := fun q o => Since.free (hxf o) (by omega) q
  have Hhxg := Lib.hid (And.intro hsz0 hlt0)
  clear hlt0 hsz0
  have Hbt := Lib.hid hbx
  have Hlt3 := Lib.hid hlt3
  clear hbx hlt3 hx0 hx1 hx2 hxf Hhx0 Hhx1 Hhx2 Hhxf
  go_wp2_with fail
  refine (Hct.out y3).mono ?_
  rintro _ _ ⟨g, z4, rfl, rfl, hg, hbl⟩
  obtain ⟨y4, h4⟩ := y3.trans z4
  have hT0 : TbAt z4.w g gc gt R.length N size (fun i => ctd R each (rAt R i)) (fun i => celN zs size ((R.take 0).filter (cP R each f t)) i) := ⟨hbl, (Nums.congr (Hrow.out.since z4) (fun j hj => by simp [celN])), Hbt.out.to ⟨z4, rfl⟩⟩
  have Hgn := Lib.hid (show gc ≠ g ∧ gt ≠ g by have h1 := Hrow.out.lt; have h2 := Hbt.out.lt; exact ⟨by omega, by omega⟩)
  rw [h4] at hT0 ⊢
  have HT := Lib.hid hT0
  clear hT0 h4 hbl hg Hct Hrow Hbt
  go_wp2_with fail
  go_loopw [14, 63] (fun sv i wr => ∃ (k : Nat) (y : Since W) (sm : Bool), k ≤ R.length ∧ sv = .bool sm ∧ sm = (!(((R.take k).filter (cP R each f t)).any (bigR zs size))) ∧ i = .int .i64 (k : Int) ∧ wr = y.w ∧ TbAt y.w g gc gt R.length N size (fun i => ctd R each (rAt R i)) (fun i => celN zs size ((R.take k).filter (cP R each f t)) i) ∧ (∀ r ∈ (R.take k).filter (cP R each f t), endE zs r = 0)) (fun _ i _ => R.length - (intOf i).toNat)
  case atStart => exact ⟨0, y4, true, by omega, rfl, rfl, rfl, rfl, HT.out, fun r hr => by simp at hr⟩
  case round =>
    clear HT
    obtain ⟨k, y, sm, hk, rfl, hsm, rfl, rfl, hT, h0⟩ := hrel
    have HT := Lib.hid hT; have H0 := Lib.hid h0; have Hsm := Lib.hid hsm
    clear hT h0 hsm
    by_cases hlt : k < R.length
    · obtain ⟨e, he⟩ : ∃ e, R[k]? = some e := ⟨_, List.getElem?_eq_getElem hlt⟩
      have hk0 : (0 : Int) ≤ (k : Int) := by omega
      have hkl : (k : Int) < (R.length : Int) := by omega
      have hbc := HT.out.bl.c k hlt
      rw [rAt_eq he] at hbc
      have hbf := HT.out.bl.f k hlt
      have Hpk := Lib.hid (pick_take R (cP R each f t) k e he)
      have Hea := Lib.hid (show endE zs e ≠ 0 → cP R each f t e = true → endsE zs (cntL R each f t) = endE zs e from fun hn hp => by rw [cntL_eq]; exact endsE_at he hp hn H0.out)
      obtain ⟨hI1, hI2⟩ := HI.out e (List.mem_of_getElem? he)
      obtain ⟨b1, off1, rfl, h1'⟩ := Els.ride HR.out.c he
      have ra0 := h1'.c0
      have ra1 := h1'.c1
      have ra2 := h1'.c2
      have ra3 := h1'.c3
      have ra4 := h1'.c4
      have ra5 := h1'.c5
      have ra6 := h1'.c6
      have ra7 := h1'.c7
      have ra8 := h1'.c8
      have ra9 := h1'.c9
      have ra10 := h1'.c10
      have ra11 := h1'.c11
      have ra12 := h1'.c12
      clear h1' he
      go_upto_region 12 with fail
      have hx0 : (y.w.alloc (.cells #[.int .i64 e.id, .int .i64 e.rd, .int .i64 e.s0, .int .i64 e.s1, .int .i64 e.e0, .int .i64 e.e1, .bool e.op, .slice e.la e.legs.length e.lc, .slice e.pa e.pauses.length e.pc, .int .i64 e.fw, .int .i64 e.fp, .int .i64 e.wh, .int .i64 e.pl] 52)).cell? ⟨y.w.heap.size, 0, none⟩ = some (.int .i64 e.id) := by simp [go_sem]
      have hx1 : (y.w.alloc (.cells #[.int .i64 e.id, .int .i64 e.rd, .int .i64 e.s0, .int .i64 e.s1, .int .i64 e.e0, .int .i64 e.e1, .bool e.op, .slice e.la e.legs.length e.lc, .slice e.pa e.pauses.length e.pc, .int .i64 e.fw, .int .i64 e.fp, .int .i64 e.wh, .int .i64 e.pl] 52)).cell? ⟨y.w.heap.size, 1, none⟩ = some (.int .i64 e.rd) := by simp [go_sem]
      have hx2 : (y.w.alloc (.cells #[.int .i64 e.id, .int .i64 e.rd, .int .i64 e.s0, .int .i64 e.s1, .int .i64 e.e0, .int .i64 e.e1, .bool e.op, .slice e.la e.legs.length e.lc, .slice e.pa e.pauses.length e.pc, .int .i64 e.fw, .int .i64 e.fp, .int .i64 e.wh, .int .i64 e.pl] 52)).cell? ⟨y.w.heap.size, 2, none⟩ = some (.int .i64 e.s0) := by simp [go_sem]
      have hx3 : (y.w.alloc (.cells #[.int .i64 e.id, .int .i64 e.rd, .int .i64 e.s0, .int .i64 e.s1, .int .i64 e.e0, .int .i64 e.e1, .bool e.op, .slice e.la e.legs.length e.lc, .slice e.pa e.pauses.length e.pc, .int .i64 e.fw, .int .i64 e.fp, .int .i64 e.wh, .int .i64 e.pl] 52)).cell? ⟨y.w.heap.size, 3, none⟩ = some (.int .i64 e.s1) := by simp [go_sem]
      have hx4 : (y.w.alloc (.cells #[.int .i64 e.id, .int .i64 e.rd, .int .i64 e.s0, .int .i64 e.s1, .int .i64 e.e0, .int .i64 e.e1, .bool e.op, .slice e.la e.legs.length e.lc, .slice e.pa e.pauses.length e.pc, .int .i64 e.fw, .int .i64 e.fp, .int .i64 e.wh, .int .i64 e.pl] 52)).cell? ⟨y.w.heap.size, 4, none⟩ = some (.int .i64 e.e0) := by simp [go_sem]
      have hx5 : (y.w.alloc (.cells #[.int .i64 e.id, .int .i64 e.rd, .int .i64 e.s0, .int .i64 e.s1, .int .i64 e.e0, .int .i64 e.e1, .bool e.op, .slice e.la e.legs.length e.lc, .slice e.pa e.pauses.length e.pc, .int .i64 e.fw, .int .i64 e.fp, .int .i64 e.wh, .int .i64 e.pl] 52)).cell? ⟨y.w.heap.size, 5, none⟩ = some (.int .i64 e.e1) := by simp [go_sem]
      have hx6 : (y.w.alloc (.cells #[.int .i64 e.id, .int .i64 e.rd, .int .i64 e.s0, .int .i64 e.s1, .int .i64 e.e0, .int .i64 e.e1, .bool e.op, .slice e.la e.legs.length e.lc, .slice e.pa e.pauses.length e.pc, .int .i64 e.fw, .int .i64 e.fp, .int .i64 e.wh, .int .i64 e.pl] 52)).cell? ⟨y.w.heap.size, 6, none⟩ = some (.bool e.op) := by simp [go_sem]
      have hx7 : (y.w.alloc (.cells #[.int .i64 e.id, .int .i64 e.rd, .int .i64 e.s0, .int .i64 e.s1, .int .i64 e.e0, .int .i64 e.e1, .bool e.op, .slice e.la e.legs.length e.lc, .slice e.pa e.pauses.length e.pc, .int .i64 e.fw, .int .i64 e.fp, .int .i64 e.wh, .int .i64 e.pl] 52)).cell? ⟨y.w.heap.size, 7, none⟩ = some (.slice e.la e.legs.length e.lc) := by simp [go_sem]
      have hx8 : (y.w.alloc (.cells #[.int .i64 e.id, .int .i64 e.rd, .int .i64 e.s0, .int .i64 e.s1, .int .i64 e.e0, .int .i64 e.e1, .bool e.op, .slice e.la e.legs.length e.lc, .slice e.pa e.pauses.length e.pc, .int .i64 e.fw, .int .i64 e.fp, .int .i64 e.wh, .int .i64 e.pl] 52)).cell? ⟨y.w.heap.size, 8, none⟩ = some (.slice e.pa e.pauses.length e.pc) := by simp [go_sem]
      have hx9 : (y.w.alloc (.cells #[.int .i64 e.id, .int .i64 e.rd, .int .i64 e.s0, .int .i64 e.s1, .int .i64 e.e0, .int .i64 e.e1, .bool e.op, .slice e.la e.legs.length e.lc, .slice e.pa e.pauses.length e.pc, .int .i64 e.fw, .int .i64 e.fp, .int .i64 e.wh, .int .i64 e.pl] 52)).cell? ⟨y.w.heap.size, 9, none⟩ = some (.int .i64 e.fw) := by simp [go_sem]
      have hx10 : (y.w.alloc (.cells #[.int .i64 e.id, .int .i64 e.rd, .int .i64 e.s0, .int .i64 e.s1, .int .i64 e.e0, .int .i64 e.e1, .bool e.op, .slice e.la e.legs.length e.lc, .slice e.pa e.pauses.length e.pc, .int .i64 e.fw, .int .i64 e.fp, .int .i64 e.wh, .int .i64 e.pl] 52)).cell? ⟨y.w.heap.size, 10, none⟩ = some (.int .i64 e.fp) := by simp [go_sem]
      have hx11 : (y.w.alloc (.cells #[.int .i64 e.id, .int .i64 e.rd, .int .i64 e.s0, .int .i64 e.s1, .int .i64 e.e0, .int .i64 e.e1, .bool e.op, .slice e.la e.legs.length e.lc, .slice e.pa e.pauses.length e.pc, .int .i64 e.fw, .int .i64 e.fp, .int .i64 e.wh, .int .i64 e.pl] 52)).cell? ⟨y.w.heap.size, 11, none⟩ = some (.int .i64 e.wh) := by simp [go_sem]
      have hx12 : (y.w.alloc (.cells #[.int .i64 e.id, .int .i64 e.rd, .int .i64 e.s0, .int .i64 e.s1, .int .i64 e.e0, .int .i64 e.e1, .bool e.op, .slice e.la e.legs.length e.lc, .slice e.pa e.pauses.length e.pc, .int .i64 e.fw, .int .i64 e.fp, .int .i64 e.wh, .int .i64 e.pl] 52)).cell? ⟨y.w.heap.size, 12, none⟩ = some (.int .i64 e.pl) := by simp [go_sem]
      have hxf : ∀ o, (y.w.alloc (.cells #[.int .i64 e.id, .int .i64 e.rd, .int .i64 e.s0, .int .i64 e.s1, .int .i64 e.e0, .int .i64 e.e1, .bool e.op, .slice e.la e.legs.length e.lc, .slice e.pa e.pauses.length e.pc, .int .i64 e.fw, .int .i64 e.fp, .int .i64 e.wh, .int .i64 e.pl] 52)).frozen? ⟨y.w.heap.size, o, none⟩ = false := fun o => by simp [go_sem]
      have hlt0 : y.w.heap.size < (y.w.alloc (.cells #[.int .i64 e.id, .int .i64 e.rd, .int .i64 e.s0, .int .i64 e.s1, .int .i64 e.e0, .int .i64 e.e1, .bool e.op, .slice e.la e.legs.length e.lc, .slice e.pa e.pauses.length e.pc, .int .i64 e.fw, .int .i64 e.fp, .int .i64 e.wh, .int .i64 e.pl] 52)).heap.size := by simp
      have hst0 : ∃ zz : Since y.w, (y.w.alloc (.cells #[.int .i64 e.id, .int .i64 e.rd, .int .i64 e.s0, .int .i64 e.s1, .int .i64 e.e0, .int .i64 e.e1, .bool e.op, .slice e.la e.legs.length e.lc, .slice e.pa e.pauses.length e.pc, .int .i64 e.fw, .int .i64 e.fp, .int .i64 e.wh, .int .i64 e.pl] 52)) = zz.w := IsSince.alloc (IsSince.self _) _
      have hsz0 := y.b.size
      obtain ⟨y5, e2⟩ := IsSince.alloc (IsSince.of y) (.cells #[.int .i64 e.id, .int .i64 e.rd, .int .i64 e.s0, .int .i64 e.s1, .int .i64 e.e0, .int .i64 e.e1, .bool e.op, .slice e.la e.legs.length e.lc, .slice e.pa e.pauses.length e.pc, .int .i64 e.fw, .int .i64 e.fp, .int .i64 e.wh, .int .i64 e.pl] 52)
      rw [e2] at hx0 hx1 hx2 hx3 hx4 hx5 hx6 hx7 hx8 hx9 hx10 hx11 hx12 hxf hlt0 hst0 ⊢
      (replace HT := Lib.hid (HT.out.to hst0))
      clear e2 hst0
      generalize y.w.heap.size = gr at *
      have Hhx0 : ∀ q : Since y5.w, q.w.cell? ⟨gr, 0, none⟩ = some (.int .i64 e.id) := fun q => Since.cell hx0 (by omega) q
      have Hhx1 : ∀ q : Since y5.w, q.w.cell? ⟨gr, 1, none⟩ = some (.int .i64 e.rd) := fun q => Since.cell hx1 (by omega) q
      have Hhx2 : ∀ q : Since y5.w, q.w.cell? ⟨gr, 2, none⟩ = some (.int .i64 e.s0) := fun q => Since.cell hx2 (by omega) q
      have Hhx3 : ∀ q : Since y5.w, q.w.cell? ⟨gr, 3, none⟩ = some (.int .i64 e.s1) := fun q => Since.cell hx3 (by omega) q
      have Hhx4 : ∀ q : Since y5.w, q.w.cell? ⟨gr, 4, none⟩ = some (.int .i64 e.e0) := fun q => Since.cell hx4 (by omega) q
      have Hhx5 : ∀ q : Since y5.w, q.w.cell? ⟨gr, 5, none⟩ = some (.int .i64 e.e1) := fun q => Since.cell hx5 (by omega) q
      have Hhx6 : ∀ q : Since y5.w, q.w.cell? ⟨gr, 6, none⟩ = some (.bool e.op) := fun q => Since.cell hx6 (by omega) q
      have Hhx7 : ∀ q : Since y5.w, q.w.cell? ⟨gr, 7, none⟩ = some (.slice e.la e.legs.length e.lc) := fun q => Since.cell hx7 (by omega) q
      have Hhx8 : ∀ q : Since y5.w, q.w.cell? ⟨gr, 8, none⟩ = some (.slice e.pa e.pauses.length e.pc) := fun q => Since.cell hx8 (by omega) q
      have Hhx9 : ∀ q : Since y5.w, q.w.cell? ⟨gr, 9, none⟩ = some (.int .i64 e.fw) := fun q => Since.cell hx9 (by omega) q
      have Hhx10 : ∀ q : Since y5.w, q.w.cell? ⟨gr, 10, none⟩ = some (.int .i64 e.fp) := fun q => Since.cell hx10 (by omega) q
      have Hhx11 : ∀ q : Since y5.w, q.w.cell? ⟨gr, 11, none⟩ = some (.int .i64 e.wh) := fun q => Since.cell hx11 (by omega) q
      have Hhx12 : ∀ q : Since y5.w, q.w.cell? ⟨gr, 12, none⟩ = some (.int .i64 e.pl) := fun q => Since.cell hx12 (by omega) q
      have Hhxf : ∀ (q : Since y5.w) (o : Nat), q.w.frozen? ⟨gr, o, none⟩ = false := fun q o => Since.free (hxf o) (by omega) q
      have Hhxg := Lib.hid (And.intro hsz0 hlt0)
      clear hlt0 hsz0
      clear hbc hbf Hhx0 Hhx1 Hhx2 Hhx3 Hhx4 Hhx5 Hhx6 Hhx7 Hhx8 Hhx9 Hhx10 Hhx11 Hhx12 Hhxf ra0 ra1 ra2 ra3 ra4 ra5 ra6 ra7 ra8 ra9 ra10 ra11 ra12
      by_cases hp : cP R each f t e = true
      case neg =>
        have hpf : cP R each f t e = false := by simpa using hp
        have Hsk := Lib.hid (show (R.take (k + 1)).filter (cP R each f t) = (R.take k).filter (cP R each f t) by rw [Hpk.out, hpf]; simp)
        have hno := cP_no hpf
        clear hp hpf Hpk Hea
        generalize ctd R each e = ct at *
        rcases hno with rfl | ⟨rfl, c2⟩ | ⟨rfl, c2, c3⟩ | ⟨rfl, c2, c3, c4, c5⟩
        all_goals
          go_wp2_with fail
          go_roundw
          case rel => refine ⟨k + 1, y5, sm, by omega, rfl, ?_, by go_num, rfl, ?_, ?_⟩ <;> rw [Hsk.out] <;> first | exact Hsm.out | exact HT.out | exact H0.out
          case measure => simp [intOf] <;> omega
      case pos =>
        obtain ⟨hct, c2, c3, c4⟩ := cP_yes hp
        rw [hct]
        have Hea2 := Lib.hid (fun hn => Hea.out hn hp)
        have Hpk2 := Lib.hid (show (R.take (k + 1)).filter (cP R each f t) = (R.take k).filter (cP R each f t) ++ [e] by rw [Hpk.out, hp]; simp)
        clear hct Hea Hpk hp
        have Hen := Lib.hid (show Calls Try.prog 39 #[.slice az zs.length cz, .int .i64 size, .agg #[.int .i64 e.id, .int .i64 e.rd, .int .i64 e.s0, .int .i64 e.s1, .int .i64 e.e0, .int .i64 e.e1, .bool e.op, .slice e.la e.legs.length e.lc, .slice e.pa e.pauses.length e.pc, .int .i64 e.fw, .int .i64 e.fp, .int .i64 e.wh, .int .i64 e.pl]] y5.w (EndRes zs e y5.w) from ends_calls y5.w (Since.self y5.w) az zs cz size e (Since.row HZ.out y5) hzl hI1 hI2)
        have hLl : ((R.take k).filter (cP R each f t)).length ≤ 256 := by
          have h1 := List.length_filter_le (cP R each f t) (R.take k)
          rw [List.length_take] at h1
          omega
        generalize (R.take k).filter (cP R each f t) = L at *
        rcases c4 with c4 | ⟨c4, c5⟩
        all_goals
          first
            | rw [c4] at Hen
            | rw [c5] at Hen
          go_wp2_with fail
          refine (Hen.out).mono ?_
          rintro _ _ ⟨rfl, z6, rfl⟩
          have hT6 := HT.out.to ⟨z6, rfl⟩
          obtain ⟨y6, h6⟩ := y5.trans z6
          rw [h6] at hT6 ⊢
          have HT6 := Lib.hid hT6
          clear hT6 h6 HT Hen hx0 hx1 hx2 hx3 hx4 hx5 hx6 hx7 hx8 hx9 hx10 hx11 hx12 hxf c2 c3 c4
          by_cases hne : endE zs e = 0
          case neg =>
            have HB := Lib.hid (Hno.out (endE zs e) (HE.out.trans (by rw [Hea2.out hne, if_pos hne])) hne)
            have hne2 : (endE zs e != 0) = true := by simpa using hne
            clear hne HE Hea2 Hyes Hno
            generalize endE zs e = E at *
            generalize endA zs e = A at *
            generalize endB zs e = B at *
            go_wp2_with fail
            have hsm : ∀ j, j < 3 → (y6.w.cell? ⟨bx + 1, j, none⟩).isSome = true := fun j hj => by
              match j, hj with
              | 0, _ => rw [hb1_0 y6]; rfl
              | 1, _ => rw [hb1_1 y6]; rfl
              | 2, _ => rw [hb1_2 y6]; rfl
            obtain ⟨z, hz, hc⟩ := set_many y6 (g := bx + 1) [.int .i64 0, .int .i64 0, .slice none 0 0] hsm (Hup.out y6) (by have := Hbx.out; omega)
            simp only [World.setCells, Nat.reduceAdd] at hz
            rw [hz]
            have hc0 := hc 0 _ rfl
            have hc1 := hc 1 _ rfl
            have hc2 := hc 2 _ rfl
            exact bodyPost_ret (v := .tuple #[.agg #[.int .i64 0, .int .i64 0, .slice none 0 0], .int .i64 E]) (by simp [results, Try.results28, go_sem, hc0, hc1, hc2]) rfl (HB.out z)
          case pos =>
            obtain ⟨eA, eB, ⟨a1, a2⟩, b1', b2'⟩ := ends_zero hne
            have Hall := Lib.hid (show ∀ r ∈ L ++ [e], endE zs r = 0 from fun r hr => by
              rcases List.mem_append.1 hr with h | h
              · exact H0.out r h
              · rw [List.mem_singleton.1 h]; exact hne)
            have Hbg := Lib.hid (show bigR zs size e = (decide (size ≤ fromZ zs e) || decide (size ≤ toZ zs e)) from rfl)
            have Hcl := Lib.hid (show celR zs size e = fromZ zs e * size + toZ zs e from rfl)
            rw [hne, eA, eB]
            clear hne eA eB
            generalize fromZ zs e = A at *
            generalize toZ zs e = B at *
            by_cases hbig : size ≤ A ∨ size ≤ B
            · have Hb1 := Lib.hid (show bigR zs size e = true by rw [Hbg.out]; simpa using hbig)
              have HT7 := Lib.hid (show TbAt y6.w g gc gt R.length N size (fun i => ctd R each (rAt R i)) (fun i => celN zs size (L ++ [e]) i) from ⟨HT6.out.bl, HT6.out.cl.congr (fun j _ => by rw [celN_snoc, Hb1.out]; simp), HT6.out.bx⟩)
              rcases (by omega : size ≤ A ∨ (¬ size ≤ A ∧ size ≤ B)) with c6 | ⟨c6, c7⟩
              all_goals
                clear hbig
                go_wp2_with fail
                go_roundw
                case rel => refine ⟨k + 1, y6, false, by omega, rfl, ?_, by go_num, rfl, ?_, ?_⟩ <;> rw [Hpk2.out] <;> first | exact HT7.out | exact Hall.out | (rw [List.any_append]; simp [Hb1.out])
                case measure => simp [intOf] <;> omega
            · obtain ⟨c6, c7⟩ : ¬ size ≤ A ∧ ¬ size ≤ B := by omega
              have Hb1 := Lib.hid (show bigR zs size e = false by rw [Hbg.out]; simp; omega)
              obtain ⟨i1, i2, i3, i4⟩ := tab_idx a1 (by omega : A < size) b1' (by omega : B < size) (by omega)
              obtain ⟨m, hm⟩ : ∃ m : Nat, A * size + B = (m : Int) := ⟨(A * size + B).toNat, by omega⟩
              have hmN : m < N := by have := HN.out; omega
              obtain ⟨n3, n4⟩ := celN_range zs size L m
              have q0 := HT6.out.cl.c m hmN
              have q1 := HT6.out.cl.f m hmN
              have q2 := HT6.out.bx.c 2 _ rfl
              obtain ⟨y7, h7⟩ := y6.set ⟨gc, m, none⟩ Hgc.out (.int .i64 (celN zs size L m + 1))
              have Hset := Lib.hid (show TbAt (y6.w.setCell ⟨gc, m, none⟩ (.int .i64 (celN zs size L m + 1))) g gc gt R.length N size (fun i => ctd R each (rAt R i)) (fun i => celN zs size (L ++ [e]) i) from ⟨HT6.out.bl.setNe _ _ Hgn.out.1, HT6.out.cl.set hmN _ (by rw [celN_snoc, Hb1.out, Hcl.out, hm]; simp) (fun j _ hj => by rw [celN_snoc, Hcl.out, hm, if_neg (fun h => by simp at h; exact hj (by have := h.2; omega))]; simp), HT6.out.bx.setNe _ _ (show gt ≠ gc by have := Hlt3.out; omega)⟩)
              have H7 := Lib.hid h7
              clear h7 hbig Hbg Hcl
              go_wp2_with fail
              go_roundw
              case rel => refine ⟨k + 1, y7, sm, by omega, rfl, ?_, by go_num, H7.out, ?_, ?_⟩ <;> rw [Hpk2.out] <;> first | exact H7.out ▸ Hset.out | exact Hall.out | (rw [List.any_append]; simp [Hb1.out]; exact Hsm.out)
              case measure => simp [intOf] <;> omega
    · obtain rfl : k = R.length := by omega
      have hE2 := Lib.hid (HE.out.trans (if_neg (by rw [cntL_eq, endsE_no (by have := H0.out; rwa [List.take_of_length_le (Nat.le_refl _)] at this)]; simp)))
      have Hsm2 := Lib.hid (show sm = (!((cntL R each f t).any (bigR zs size))) by rw [cntL_eq]; have := Hsm.out; rwa [List.take_of_length_le (Nat.le_refl _)] at this)
      cases sm
      case false =>
        have HB := Lib.hid (Hno.out 7 (hE2.out.trans (if_pos (sm_f Hsm2.out))) (by decide))
        clear HE hE2 Hsm Hsm2 H0 HT
        go_wp2_with fail
        have hsm : ∀ j, j < 3 → (y.w.cell? ⟨bx + 1, j, none⟩).isSome = true := fun j hj => by
          match j, hj with
          | 0, _ => rw [hb1_0 y]; rfl
          | 1, _ => rw [hb1_1 y]; rfl
          | 2, _ => rw [hb1_2 y]; rfl
        obtain ⟨z, hz, hc⟩ := set_many y (g := bx + 1) [.int .i64 0, .int .i64 0, .slice none 0 0] hsm (Hup.out y) (by have := Hbx.out; omega)
        simp only [World.setCells, Nat.reduceAdd] at hz
        rw [hz]
        have hc0 := hc 0 _ rfl
        have hc1 := hc 1 _ rfl
        have hc2 := hc 2 _ rfl
        exact bodyPost_ret (v := .tuple #[.agg #[.int .i64 0, .int .i64 0, .slice none 0 0], .int .i64 7]) (by simp [results, Try.results28, go_sem, hc0, hc1, hc2]) rfl (HB.out z)
      case true =>
        have hE3 : tabE zs size R f t each = 0 := hE2.out.trans (if_neg (sm_t Hsm2.out))
        have hlt2 : bx + 1 ≠ gc := by
          have h1 := Hbx.out
          have h2 := Hgc.out
          omega
        have hN9 := ((HT.out.cl.setOther ⟨bx + 1, 0, none⟩ hlt2 (.int .i64 size)).setOther ⟨bx + 1, 1, none⟩ hlt2 (.int .i64 size)).setOther ⟨bx + 1, 2, none⟩ hlt2 (.slice (some ⟨gc, 0, none⟩) N N)
        rw [List.take_of_length_le (Nat.le_refl _), ← cntL_eq] at hN9
        have HB := Lib.hid (fun z hz => Hyes.out hE3 (cells zs size (cntL R each f t)) rfl (some ⟨gc, 0, none⟩) N N (by unfold cells; rw [List.length_map, List.length_range]; have := HN.out; omega) z hz (Nat.le_refl _) (fun b hb => by cases hb; have h1 := Hbx.out; have h2 := Hgc.out; show w.heap.size ≤ gc; omega))
        have HN9 := Lib.hid (fun W' (hW : _ = W') => (show Nums W' gc N (celN zs size (cntL R each f t)) from hW ▸ hN9))
        clear hN9 hlt2
        have q0 := HT.out.bx.c 0 _ rfl
        have q1 := HT.out.bx.c 1 _ rfl
        have q2 := HT.out.bx.c 2 _ rfl
        clear HE hE2 hE3 Hsm Hsm2 H0
        go_wp2_with fail
        have hsm : ∀ j, j < 3 → (y.w.cell? ⟨bx + 1, j, none⟩).isSome = true := fun j hj => by
          match j, hj with
          | 0, _ => rw [hb1_0 y]; rfl
          | 1, _ => rw [hb1_1 y]; rfl
          | 2, _ => rw [hb1_2 y]; rfl
        obtain ⟨z, hz, hc⟩ := set_many y (g := bx + 1) [.int .i64 size, .int .i64 size, .slice (some ⟨gc, 0, none⟩) N N] hsm (Hup.out y) (by have := Hbx.out; omega)
        simp only [World.setCells, Nat.reduceAdd] at hz
        rw [hz]
        have hc0 := hc 0 _ rfl
        have hc1 := hc 1 _ rfl
        have hc2 := hc 2 _ rfl
        exact bodyPost_ret (v := .tuple #[.agg #[.int .i64 size, .int .i64 size, .slice (some ⟨gc, 0, none⟩) N N], .int .i64 0]) (by simp [results, Try.results28, go_sem, hc0, hc1, hc2]) rfl (HB.out z (nums_row (HN9.out _ hz) _ (by have := HN.out; omega)))
end Go.Proofs.Ytdmmjapccgeffaa
/- Trips between zones, the reference: Table. -/
namespace Go.Proofs.Ytdmmjapccgeffaa
open Go.RowKit Go.ChangeMaps

theorem endsE_at' {zs : List Int} {L : List Ride} {k : Nat} {e : Ride} (h : L[k]? = some e) (he : endE zs e ≠ 0) (hn : ∀ r ∈ L.take k, endE zs r = 0) : endsE zs L = endE zs e := by
  have := endsE_at (p := fun _ => true) h rfl he (by rw [List.filter_eq_self.2 (fun _ _ => rfl)]; exact hn)
  rwa [List.filter_eq_self.2 (fun _ _ => rfl)] at this
/-- what the rounds keep -/
structure CbAt (w : World) (gc gt N : Nat) (size : Int) (f : Nat → Int) : Prop where
  cl : Nums w gc N f
  bx : BoxIs w gt [.int .i64 size, .int .i64 size, .slice (some ⟨gc, 0, none⟩) N N]
theorem CbAt.to {w W : World} {gc gt N : Nat} {size : Int} {f : Nat → Int} (h : CbAt w gc gt N size f) (hW : ∃ z : Since w, W = z.w) : CbAt W gc gt N size f := ⟨h.cl.to hW, h.bx.to hW⟩
set_option maxRecDepth 100000 in
set_option maxHeartbeats 16000000 in
theorem rtable_calls (w : World) (x : Since w) (az : Option Addr) (zs : List Int) (cz : Nat) (size : Int) (a : Option Addr) (R : List Ride) (c : Nat) (f t each : Int) (hz : IntRow w az zs) (hzl : zs.length ≤ 9223372036854775807) (h : RideRow w a R) (hl : R.length ≤ 9223372036854775807) (hI : ∀ r ∈ R, r.fp ≤ 9223372036854775807 ∧ r.pl ≤ 9223372036854775807) :
    Calls Try.prog 20 #[.slice az zs.length cz, .int .i64 size, .slice a R.length c, .agg #[.int .i64 f, .int .i64 t], .int .i64 each] x.w (TabRes w (tabV zs size R f t each) (tabE zs size R f t each)) := by
  have HZ := Lib.hid hz
  have HR := Lib.hid h
  have HI := Lib.hid hI
  have Hno := Lib.hid (fun (e : Int) (he : tabE zs size R f t each = e) (hne : e ≠ 0) (y : Since w) => show TabRes w (tabV zs size R f t each) (tabE zs size R f t each) (.returned (.tuple #[.agg #[.int .i64 0, .int .i64 0, .slice none 0 0], .int .i64 e])) y.w from by
    subst he
    have : tabV zs size R f t each = tab0 := if_neg hne
    rw [this]
    exact ⟨none, 0, y, rfl, rfl, row_nil' _, Nat.le_refl _, fun b hb => by cases hb⟩)
  have Hyes := Lib.hid (fun (he : tabE zs size R f t each = 0) (l : List Int) (hl : l = cells zs size (cntL R each f t)) (a' : Option Addr) (n c' : Nat) (hn : l.length = n) (y : Since w) (hr : IntRow y.w a' l) (hc : n ≤ c') (ha : ∀ b, a' = some b → w.heap.size ≤ b.block) => show TabRes w (tabV zs size R f t each) (tabE zs size R f t each) (.returned (.tuple #[.agg #[.int .i64 size, .int .i64 size, .slice a' n c'], .int .i64 0])) y.w from by
    have : tabV zs size R f t each = ⟨size, size, cells zs size (cntL R each f t)⟩ := if_pos he
    rw [this, he]
    subst hl
    subst hn
    exact ⟨a', c', y, rfl, rfl, hr, hc, ha⟩)
  generalize TabRes w (tabV zs size R f t each) (tabE zs size R f t each) = PO at *
  clear hz h hI
  by_cases hv : size < 1 ∨ 8 < size ∨ f < 0 ∨ t < f ∨ 4294944000 < t
  case pos =>
    have HB := Lib.hid (Hno.out 1 (if_pos hv) (by decide))
    rcases (by omega : size < 1 ∨ (¬ size < 1 ∧ 8 < size) ∨ (¬ size < 1 ∧ ¬ 8 < size ∧ f < 0) ∨ (¬ size < 1 ∧ ¬ 8 < size ∧ ¬ f < 0 ∧ t < f) ∨ (¬ size < 1 ∧ ¬ 8 < size ∧ ¬ f < 0 ∧ ¬ t < f ∧ 4294944000 < t)) with h1 | ⟨h1, h2⟩ | ⟨h1, h2, h3⟩ | ⟨h1, h2, h3, h4⟩ | ⟨h1, h2, h3, h4, h5⟩
    all_goals
      clear hv Hno Hyes
      go_enter Try.func20, Try.ntmps20
      go_upto_region 1 with fail
      have hb0_0 : ∀ y : Since ((x.w.alloc (.cells #[.int .i64 f, .int .i64 t] 34)).alloc (.cells #[.int .i64 0, .int .i64 0, .slice none 0 0] 39)), y.w.cell? ⟨x.w.heap.size, 0, none⟩ = some (.int .i64 f) := fun y => Since.cell (by simp [go_sem]) (by first | (simp; done) | (simp; omega)) y
      have hb0_1 : ∀ y : Since ((x.w.alloc (.cells #[.int .i64 f, .int .i64 t] 34)).alloc (.cells #[.int .i64 0, .int .i64 0, .slice none 0 0] 39)), y.w.cell? ⟨x.w.heap.size, 1, none⟩ = some (.int .i64 t) := fun y => Since.cell (by simp [go_sem]) (by first | (simp; done) | (simp; omega)) y
      have hf0 : ∀ (y : Since ((x.w.alloc (.cells #[.int .i64 f, .int .i64 t] 34)).alloc (.cells #[.int .i64 0, .int .i64 0, .slice none 0 0] 39))) (o : Nat), y.w.frozen? ⟨x.w.heap.size, o, none⟩ = false := fun y o => Since.free (by simp [go_sem]) (by first | (simp; done) | (simp; omega)) y
      have hb1_0 : ∀ y : Since ((x.w.alloc (.cells #[.int .i64 f, .int .i64 t] 34)).alloc (.cells #[.int .i64 0, .int .i64 0, .slice none 0 0] 39)), y.w.cell? ⟨x.w.heap.size + 1, 0, none⟩ = some (.int .i64 0) := fun y => Since.cell (by simp [go_sem]) (by first | (simp; done) | (simp; omega)) y
      have hb1_1 : ∀ y : Since ((x.w.alloc (.cells #[.int .i64 f, .int .i64 t] 34)).alloc (.cells #[.int .i64 0, .int .i64 0, .slice none 0 0] 39)), y.w.cell? ⟨x.w.heap.size + 1, 1, none⟩ = some (.int .i64 0) := fun y => Since.cell (by simp [go_sem]) (by first | (simp; done) | (simp; omega)) y
      have hb1_2 : ∀ y : Since ((x.w.alloc (.cells #[.int .i64 f, .int .i64 t] 34)).alloc (.cells #[.int .i64 0, .int .i64 0, .slice none 0 0] 39)), y.w.cell? ⟨x.w.heap.size + 1, 2, none⟩ = some (.slice none 0 0) := fun y => Since.cell (by simp [go_sem]) (by first | (simp; done) | (simp; omega)) y
      have hf1 : ∀ (y : Since ((x.w.alloc (.cells #[.int .i64 f, .int .i64 t] 34)).alloc (.cells #[.int .i64 0, .int .i64 0, .slice none 0 0] 39))) (o : Nat), y.w.frozen? ⟨x.w.heap.size + 1, o, none⟩ = false := fun y o => Since.free (by simp [go_sem]) (by first | (simp; done) | (simp; omega)) y
      have hWup : ∃ z : Since w, ((x.w.alloc (.cells #[.int .i64 f, .int .i64 t] 34)).alloc (.cells #[.int .i64 0, .int .i64 0, .slice none 0 0] 39)) = z.w := Since.allocs x [.cells #[.int .i64 f, .int .i64 t] 34, .cells #[.int .i64 0, .int .i64 0, .slice none 0 0] 39]
      obtain ⟨y0, hy0⟩ := Since.refl ((x.w.alloc (.cells #[.int .i64 f, .int .i64 t] 34)).alloc (.cells #[.int .i64 0, .int .i64 0, .slice none 0 0] 39))
      have Hbx := Lib.hid (And.intro x.b.size (show x.w.heap.size + 2 = ((x.w.alloc (.cells #[.int .i64 f, .int .i64 t] 34)).alloc (.cells #[.int .i64 0, .int .i64 0, .slice none 0 0] 39)).heap.size from by simp))
      generalize hW : ((x.w.alloc (.cells #[.int .i64 f, .int .i64 t] 34)).alloc (.cells #[.int .i64 0, .int .i64 0, .slice none 0 0] 39)) = W at *
      clear hW
      generalize x.w.heap.size = bx at *
      have Hup := Lib.hid (Since.up hWup)
      rw [hy0]
      clear hy0
      clear hWup
      go_wp2_with fail
      have hsm : ∀ j, j < 3 → (y0.w.cell? ⟨bx + 1, j, none⟩).isSome = true := fun j hj => by
        match j, hj with
        | 0, _ => rw [hb1_0 y0]; rfl
        | 1, _ => rw [hb1_1 y0]; rfl
        | 2, _ => rw [hb1_2 y0]; rfl
      obtain ⟨z, hz, hc⟩ := set_many y0 (g := bx + 1) [.int .i64 0, .int .i64 0, .slice none 0 0] hsm (Hup.out y0) (by have := Hbx.out; omega)
      simp only [World.setCells, Nat.reduceAdd] at hz
      rw [hz]
      have hc0 := hc 0 _ rfl
      have hc1 := hc 1 _ rfl
      have hc2 := hc 2 _ rfl
      exact bodyPost_ret (v := .tuple #[.agg #[.int .i64 0, .int .i64 0, .slice none 0 0], .int .i64 1]) (by simp [results, Try.results20, go_sem, hc0, hc1, hc2]) rfl (HB.out z)
  case neg =>
  obtain ⟨v1, v2, v3, v4, v5⟩ : ¬ size < 1 ∧ ¬ 8 < size ∧ ¬ f < 0 ∧ ¬ t < f ∧ ¬ 4294944000 < t := ⟨by omega, by omega, by omega, by omega, by omega⟩
  go_enter Try.func20, Try.ntmps20
  go_upto_region 1 with fail
  have hb0_0 : ∀ y : Since ((x.w.alloc (.cells #[.int .i64 f, .int .i64 t] 34)).alloc (.cells #[.int .i64 0, .int .i64 0, .slice none 0 0] 39)), y.w.cell? ⟨x.w.heap.size, 0, none⟩ = some (.int .i64 f) := fun y => Since.cell (by simp [go_sem]) (by first | (simp; done) | (simp; omega)) y
  have hb0_1 : ∀ y : Since ((x.w.alloc (.cells #[.int .i64 f, .int .i64 t] 34)).alloc (.cells #[.int .i64 0, .int .i64 0, .slice none 0 0] 39)), y.w.cell? ⟨x.w.heap.size, 1, none⟩ = some (.int .i64 t) := fun y => Since.cell (by simp [go_sem]) (by first | (simp; done) | (simp; omega)) y
  have hf0 : ∀ (y : Since ((x.w.alloc (.cells #[.int .i64 f, .int .i64 t] 34)).alloc (.cells #[.int .i64 0, .int .i64 0, .slice none 0 0] 39))) (o : Nat), y.w.frozen? ⟨x.w.heap.size, o, none⟩ = false := fun y o => Since.free (by simp [go_sem]) (by first | (simp; done) | (simp; omega)) y
  have hb1_0 : ∀ y : Since ((x.w.alloc (.cells #[.int .i64 f, .int .i64 t] 34)).alloc (.cells #[.int .i64 0, .int .i64 0, .slice none 0 0] 39)), y.w.cell? ⟨x.w.heap.size + 1, 0, none⟩ = some (.int .i64 0) := fun y => Since.cell (by simp [go_sem]) (by first | (simp; done) | (simp; omega)) y
  have hb1_1 : ∀ y : Since ((x.w.alloc (.cells #[.int .i64 f, .int .i64 t] 34)).alloc (.cells #[.int .i64 0, .int .i64 0, .slice none 0 0] 39)), y.w.cell? ⟨x.w.heap.size + 1, 1, none⟩ = some (.int .i64 0) := fun y => Since.cell (by simp [go_sem]) (by first | (simp; done) | (simp; omega)) y
  have hb1_2 : ∀ y : Since ((x.w.alloc (.cells #[.int .i64 f, .int .i64 t] 34)).alloc (.cells #[.int .i64 0, .int .i64 0, .slice none 0 0] 39)), y.w.cell? ⟨x.w.heap.size + 1, 2, none⟩ = some (.slice none 0 0) := fun y => Since.cell (by simp [go_sem]) (by first | (simp; done) | (simp; omega)) y
  have hf1 : ∀ (y : Since ((x.w.alloc (.cells #[.int .i64 f, .int .i64 t] 34)).alloc (.cells #[.int .i64 0, .int .i64 0, .slice none 0 0] 39))) (o : Nat), y.w.frozen? ⟨x.w.heap.size + 1, o, none⟩ = false := fun y o => Since.free (by simp [go_sem]) (by first | (simp; done) | (simp; omega)) y
  have hWup : ∃ z : Since w, ((x.w.alloc (.cells #[.int .i64 f, .int .i64 t] 34)).alloc (.cells #[.int .i64 0, .int .i64 0, .slice none 0 0] 39)) = z.w := Since.allocs x [.cells #[.int .i64 f, .int .i64 t] 34, .cells #[.int .i64 0, .int .i64 0, .slice none 0 0] 39]
  obtain ⟨y0, hy0⟩ := Since.refl ((x.w.alloc (.cells #[.int .i64 f, .int .i64 t] 34)).alloc (.cells #[.int .i64 0, .int .i64 0, .slice none 0 0] 39))
  have Hbx := Lib.hid (And.intro x.b.size (show x.w.heap.size + 2 = ((x.w.alloc (.cells #[.int .i64 f, .int .i64 t] 34)).alloc (.cells #[.int .i64 0, .int .i64 0, .slice none 0 0] 39)).heap.size from by simp))
  generalize hW : ((x.w.alloc (.cells #[.int .i64 f, .int .i64 t] 34)).alloc (.cells #[.int .i64 0, .int .i64 0, .slice none 0 0] 39)) = W at *
  clear hW
  generalize x.w.heap.size = bx at *
  have Hup := Lib.hid (Since.up hWup)
  rw [hy0]
  clear hy0
  replace HZ := Lib.hid (HZ.out.to hWup)
  replace HR := Lib.hid (HR.out.to hWup)
  clear hWup
  have Hck := Lib.hid (fun y : Since W => rcounted_calls W y a R c f t each HR.out hl)
  by_cases he : eachE R each = 0
  case neg =>
    have hne : (eachE R each != 0) = true := by simpa using he
    have HB := Lib.hid (Hno.out (eachE R each) (by unfold tabE; rw [if_neg hv, if_pos he]) he)
    clear he hv Hno Hyes
    generalize eachE R each = E at *
    generalize (eachV R each).filter (inT f t) = L at *
    go_wp2_with fail
    refine (Hck.out _).mono ?_
    rintro _ _ ⟨a1, c1, y1, rfl, rfl, _, _⟩
    go_wp2_with fail
    have hsm : ∀ j, j < 3 → (y1.w.cell? ⟨bx + 1, j, none⟩).isSome = true := fun j hj => by
      match j, hj with
      | 0, _ => rw [hb1_0 y1]; rfl
      | 1, _ => rw [hb1_1 y1]; rfl
      | 2, _ => rw [hb1_2 y1]; rfl
    obtain ⟨z, hz, hc⟩ := set_many y1 (g := bx + 1) [.int .i64 0, .int .i64 0, .slice none 0 0] hsm (Hup.out y1) (by have := Hbx.out; omega)
    simp only [World.setCells, Nat.reduceAdd] at hz
    rw [hz]
    have hc0 := hc 0 _ rfl
    have hc1 := hc 1 _ rfl
    have hc2 := hc 2 _ rfl
    exact bodyPost_ret (v := .tuple #[.agg #[.int .i64 0, .int .i64 0, .slice none 0 0], .int .i64 E]) (by simp [results, Try.results20, go_sem, hc0, hc1, hc2]) rfl (HB.out z)
  case pos =>
  obtain ⟨e0, e1, hrz⟩ := eachE_zero he
  obtain ⟨hr256, _, _⟩ := ridesE_zero hrz
  have HE := Lib.hid (show tabE zs size R f t each = if endsE zs (cntL R each f t) ≠ 0 then endsE zs (cntL R each f t) else if (cntL R each f t).any (bigR zs size) = true then 7 else 0 by unfold tabE; rw [if_neg hv, if_neg (by rw [he]; simp)])
  have hLe : (eachV R each).filter (inT f t) = cntL R each f t := by unfold eachV cntL; rw [if_pos he]
  rw [he, hLe] at Hck
  have HIL := Lib.hid (show ∀ r ∈ cntL R each f t, r.fp ≤ 9223372036854775807 ∧ r.pl ≤ 9223372036854775807 from fun r hr => HI.out r (by rw [cntL_eq] at hr; exact (List.mem_filter.1 hr).1))
  have hL256 : (cntL R each f t).length ≤ 256 := by rw [cntL_eq]; exact Nat.le_trans (List.length_filter_le _ _) hr256
  clear he hrz hv hLe e0 e1 hr256 HI
  generalize cntL R each f t = L at *
  obtain ⟨N, hN⟩ : ∃ N : Nat, size * size = (N : Int) := ⟨(size * size).toNat, by have := tab_mul (a := size) (b := size) (by omega); omega⟩
  have HN := Lib.hid hN
  have hNb : 1 ≤ size * size ∧ size * size ≤ 64 := tab_mul (by omega)
  obtain ⟨n1, n2⟩ := hNb
  have hN64 : N ≤ 64 := by omega
  clear hN
  go_wp2_with fail
  refine (Hck.out _).mono ?_
  rintro _ _ ⟨a1, c1, y1, rfl, rfl, hLr, hc1⟩
  have HL := Lib.hid hLr
  have HU := Lib.hid (fun q : Since y1.w => y1.trans q)
  have HZ1 := Lib.hid (Since.row HZ.out y1)
  have Hb1 := Lib.hid (show bx + 1 < y1.w.heap.size by have h1 := Hbx.out; have h2 := y1.b.size; omega)
  clear hLr Hck
  obtain ⟨i0, hi0, hz0, hsz0, hby0⟩ := info_parts (P := Try.prog) (e := 3) (z := .int .i64 0) (size := 1) (bytes := 8) (by kernel_rfl)
  go_wp2_with (at_make; refine wpList_make_full _ rfl _ _ 29 rfl y1.w.heap.size 3 i0 (.int .i64 0) 1 Try.underlying29 hi0 hz0 hsz0 .i64 .i64 (size * size) (size * size) N rfl rfl HN.out HN.out (by rw [hby0]; omega) (by unfold maxLen; omega) (Nat.le_refl _) ?_; intro w1 hown hg1; refine Hid.out ?_)
  have hrow := own_nums hown (fun j hj => by simp [madeCells, List.getD_eq_getElem?_getD, hj]; show (#[Value.int .i64 0] : Array Value)[j % 1]! = _; rw [Nat.mod_one]; rfl)
  obtain ⟨y2, hy2⟩ := (Since.self y1.w).grown hg1 (fun k hk => by cases hk)
  subst hy2
  clear hown hg1 hi0 hz0 hsz0 hby0
  generalize hgc : y1.w.heap.size = gc at *
  have Hgc := Lib.hid (show y1.w.heap.size ≤ gc from Nat.le_of_eq hgc)
  have Hrow := Lib.hid hrow
  clear hrow hgc
  refine Lib.hid ?_
  go_upto_region 8 with fail
  have hx0 : (y2.w.alloc (.cells #[.int .i64 size, .int .i64 size, .slice (some ⟨gc, 0, none⟩) N N] 39)).cell? ⟨y2.w.heap.size, 0, none⟩ = some (.int .i64 size) := by simp [go_sem]
  have hx1 : (y2.w.alloc (.cells #[.int .i64 size, .int .i64 size, .slice (some ⟨gc, 0, none⟩) N N] 39)).cell? ⟨y2.w.heap.size, 1, none⟩ = some (.int .i64 size) := by simp [go_sem]
  have hx2 : (y2.w.alloc (.cells #[.int .i64 size, .int .i64 size, .slice (some ⟨gc, 0, none⟩) N N] 39)).cell? ⟨y2.w.heap.size, 2, none⟩ = some (.slice (some ⟨gc, 0, none⟩) N N) := by simp [go_sem]
  have hxf : ∀ o, (y2.w.alloc (.cells #[.int .i64 size, .int .i64 size, .slice (some ⟨gc, 0, none⟩) N N] 39)).frozen? ⟨y2.w.heap.size, o, none⟩ = false := fun o => by simp [go_sem]
  have hlt0 : y2.w.heap.size < (y2.w.alloc (.cells #[.int .i64 size, .int .i64 size, .slice (some ⟨gc, 0, none⟩) N N] 39)).heap.size := by simp
  have hst0 : ∃ zz : Since y2.w, (y2.w.alloc (.cells #[.int .i64 size, .int .i64 size, .slice (some ⟨gc, 0, none⟩) N N] 39)) = zz.w := IsSince.alloc (IsSince.self _) _
  have hsz0 := y2.b.size
  obtain ⟨y3, e2⟩ := IsSince.alloc (IsSince.of y2) (.cells #[.int .i64 size, .int .i64 size, .slice (some ⟨gc, 0, none⟩) N N] 39)
  rw [e2] at hx0 hx1 hx2 hxf hlt0 hst0 ⊢
  (have hlt3 := Hrow.out.lt; replace Hrow := Lib.hid (Hrow.out.to hst0); have hbx := BoxIs.new y2.w [.int .i64 size, .int .i64 size, .slice (some ⟨gc, 0, none⟩) N N] 39; rw [e2] at hbx)
  clear e2 hst0
  generalize y2.w.heap.size = gt at *
  have Hhx0 : ∀ q : Since y3.w, q.w.cell? ⟨gt, 0, none⟩ = some (.int .i64 size) := fun q => Since.cell hx0 (by omega) q
  have Hhx1 : ∀ q : Since y3.w, q.w.cell? ⟨gt, 1, none⟩ = some (.int .i64 size) := fun q => Since.cell hx1 (by omega) q
  have Hhx2 : ∀ q : Since y3.w, q.w.cell? ⟨gt, 2, none⟩ = some (.slice (some ⟨gc, 0, none⟩) N N) := fun q => Since.cell hx2 (by omega) q
  have Hhxf : ∀ (q : Since y3.w) (o : Nat), q.w.frozen? ⟨gt, o, none⟩ = false := fun q o => Since.free (hxf o) (by omega) q
  have Hhxg := Lib.hid (And.intro hsz0 hlt0)
  clear hlt0 hsz0
  have HT := Lib.hid (show CbAt y3.w gc gt N size (fun i => celN zs size (L.take 0) i) from ⟨Hrow.out.congr (fun j _ => by simp [celN]), hbx⟩)
  have Hgn := Lib.hid (show gt ≠ gc by omega)
  clear hbx hlt3 hx0 hx1 hx2 hxf Hhx0 Hhx1 Hhx2 Hhxf Hrow
  go_wp2_with fail
  go_loopw [15, 16] (fun nv i wr => ∃ (k : Nat) (y : Since y1.w) (sm : Bool), k ≤ L.length ∧ nv = .bool sm ∧ sm = (L.take k).any (bigR zs size) ∧ i = .int .i64 (k : Int) ∧ wr = y.w ∧ CbAt y.w gc gt N size (fun i => celN zs size (L.take k) i) ∧ (∀ r ∈ L.take k, endE zs r = 0)) (fun _ i _ => L.length - (intOf i).toNat)
  case atStart => exact ⟨0, y3, false, by omega, rfl, rfl, rfl, rfl, HT.out, fun r hr => by simp at hr⟩
  case round =>
    clear HT
    obtain ⟨k, y, sm, hk, rfl, hsm, rfl, rfl, hT, h0⟩ := hrel
    have HT := Lib.hid hT; have H0 := Lib.hid h0; have Hsm := Lib.hid hsm
    clear hT h0 hsm
    by_cases hlt : k < L.length
    · obtain ⟨e, he⟩ : ∃ e, L[k]? = some e := ⟨_, List.getElem?_eq_getElem hlt⟩
      have hk0 : (0 : Int) ≤ (k : Int) := by omega
      have hkl : (k : Int) < (L.length : Int) := by omega
      have Htk := Lib.hid (show L.take (k + 1) = L.take k ++ [e] by rw [List.take_add_one, he]; rfl)
      have Hea := Lib.hid (show endE zs e ≠ 0 → endsE zs L = endE zs e from fun hn => endsE_at' he hn H0.out)
      obtain ⟨hI1, hI2⟩ := HIL.out e (List.mem_of_getElem? he)
      obtain ⟨b1, off1, rfl, h1'⟩ := Els.ride (HL.out.since y).c he
      have ra0 := h1'.c0
      have ra1 := h1'.c1
      have ra2 := h1'.c2
      have ra3 := h1'.c3
      have ra4 := h1'.c4
      have ra5 := h1'.c5
      have ra6 := h1'.c6
      have ra7 := h1'.c7
      have ra8 := h1'.c8
      have ra9 := h1'.c9
      have ra10 := h1'.c10
      have ra11 := h1'.c11
      have ra12 := h1'.c12
      clear h1' he ra0 ra1 ra2 ra3 ra4 ra5 ra6 ra7 ra8
      have Z1 := Lib.hid (fun q : Since y.w => show Calls Try.prog 17 #[.slice az zs.length cz, .int .i64 e.fw, .int .i64 e.fp] q.w (fun o w' => o = .returned (.tuple #[.int .i64 (zoneV zs e.fw e.fp), .int .i64 (zoneE zs e.fw e.fp)]) ∧ ∃ z : Since y.w, w' = z.w) from (rzone_calls q.w az zs cz e.fw e.fp (by obtain ⟨u, hu⟩ := y.trans q; rw [hu]; exact Since.row HZ1.out u) hzl hI1).mono (by rintro _ _ ⟨rfl, rfl⟩; exact ⟨rfl, q, rfl⟩))
      have Z2 := Lib.hid (fun q : Since y.w => show Calls Try.prog 17 #[.slice az zs.length cz, .int .i64 e.wh, .int .i64 e.pl] q.w (fun o w' => o = .returned (.tuple #[.int .i64 (zoneV zs e.wh e.pl), .int .i64 (zoneE zs e.wh e.pl)]) ∧ ∃ z : Since y.w, w' = z.w) from (rzone_calls q.w az zs cz e.wh e.pl (by obtain ⟨u, hu⟩ := y.trans q; rw [hu]; exact Since.row HZ1.out u) hzl hI2).mono (by rintro _ _ ⟨rfl, rfl⟩; exact ⟨rfl, q, rfl⟩))
      have hLl : (L.take k).length ≤ 256 := by rw [List.length_take]; omega
      obtain ⟨q, hq0⟩ := Since.refl y.w
      rw [hq0]
      clear hq0
      by_cases hz1 : zoneE zs e.fw e.fp = 0
      case neg =>
        have hE1 : endE zs e = zoneE zs e.fw e.fp := if_pos hz1
        have HB := Lib.hid (Hno.out (zoneE zs e.fw e.fp) (HE.out.trans (by rw [Hea.out (by rw [hE1]; exact hz1), hE1, if_pos hz1])) hz1)
        have hne : (zoneE zs e.fw e.fp != 0) = true := by simpa using hz1
        clear hz1 hE1 HE Hea Hyes Hno Z2
        generalize zoneE zs e.fw e.fp = E at *
        generalize zoneV zs e.fw e.fp = A at *
        go_wp2_with fail
        refine wp_region_since (by kernel_rfl) (by kernel_rfl) ?_
        repeat (go_big_quiet_step ((go_at_call 17; exact Z1.out _)))
        refine wpQuiet_nil ?_
        rintro _ ⟨z, rfl⟩
        obtain ⟨Y1, hY1⟩ := y.trans z
        obtain ⟨Y, hY⟩ := HU.out Y1
        rw [hY1, hY]
        go_wp2_with fail
        have hsm : ∀ j, j < 3 → (Y.w.cell? ⟨bx + 1, j, none⟩).isSome = true := fun j hj => by
          match j, hj with
          | 0, _ => rw [hb1_0 Y]; rfl
          | 1, _ => rw [hb1_1 Y]; rfl
          | 2, _ => rw [hb1_2 Y]; rfl
        obtain ⟨z, hz, hc⟩ := set_many Y (g := bx + 1) [.int .i64 0, .int .i64 0, .slice none 0 0] hsm (Hup.out Y) (by have := Hbx.out; omega)
        simp only [World.setCells, Nat.reduceAdd] at hz
        rw [hz]
        have hc0 := hc 0 _ rfl
        have hc1 := hc 1 _ rfl
        have hc2 := hc 2 _ rfl
        exact bodyPost_ret (v := .tuple #[.agg #[.int .i64 0, .int .i64 0, .slice none 0 0], .int .i64 E]) (by simp [results, Try.results20, go_sem, hc0, hc1, hc2]) rfl (HB.out z)
      case pos =>
        have hE1 : endE zs e = zoneE zs e.wh e.pl := if_neg (by simpa using hz1)
        by_cases hz2 : zoneE zs e.wh e.pl = 0
        case neg =>
          have HB := Lib.hid (Hno.out (zoneE zs e.wh e.pl) (HE.out.trans (by rw [Hea.out (by rw [hE1]; exact hz2), hE1, if_pos hz2])) hz2)
          have hne : (zoneE zs e.wh e.pl != 0) = true := by simpa using hz2
          rw [hz1] at Z1
          clear hz1 hz2 hE1 HE Hea Hyes Hno
          generalize zoneE zs e.wh e.pl = E at *
          generalize zoneV zs e.wh e.pl = B at *
          generalize zoneV zs e.fw e.fp = A at *
          go_wp2_with fail
          refine wp_region_since (by kernel_rfl) (by kernel_rfl) ?_
          repeat (go_big_quiet_step ((go_at_call 17; exact Z1.out _)))
          refine wpQuiet_nil ?_
          rintro _ ⟨z, rfl⟩
          go_wp2_with fail
          refine wp_region_since (by kernel_rfl) (by kernel_rfl) ?_
          repeat (go_big_quiet_step ((go_at_call 17; exact Z2.out _)))
          refine wpQuiet_nil ?_
          rintro _ ⟨z2, rfl⟩
          obtain ⟨Y1, hY1⟩ := y.trans z2
          obtain ⟨Y, hY⟩ := HU.out Y1
          rw [hY1, hY]
          go_wp2_with fail
          have hsm : ∀ j, j < 3 → (Y.w.cell? ⟨bx + 1, j, none⟩).isSome = true := fun j hj => by
            match j, hj with
            | 0, _ => rw [hb1_0 Y]; rfl
            | 1, _ => rw [hb1_1 Y]; rfl
            | 2, _ => rw [hb1_2 Y]; rfl
          obtain ⟨z, hz, hc⟩ := set_many Y (g := bx + 1) [.int .i64 0, .int .i64 0, .slice none 0 0] hsm (Hup.out Y) (by have := Hbx.out; omega)
          simp only [World.setCells, Nat.reduceAdd] at hz
          rw [hz]
          have hc0 := hc 0 _ rfl
          have hc1 := hc 1 _ rfl
          have hc2 := hc 2 _ rfl
          exact bodyPost_ret (v := .tuple #[.agg #[.int .i64 0, .int .i64 0, .slice none 0 0], .int .i64 E]) (by simp [results, Try.results20, go_sem, hc0, hc1, hc2]) rfl (HB.out z)
        case pos =>
          have hE0 : endE zs e = 0 := hE1.trans hz2
          obtain ⟨a1', a2⟩ := zone_range hz1
          obtain ⟨b1', b2'⟩ := zone_range hz2
          have Hall := Lib.hid (show ∀ r ∈ L.take (k + 1), endE zs r = 0 from fun r hr => by
            rw [Htk.out] at hr
            rcases List.mem_append.1 hr with h | h
            · exact H0.out r h
            · rw [List.mem_singleton.1 h]; exact hE0)
          have Hbg := Lib.hid (show bigR zs size e = (decide (size ≤ zoneV zs e.fw e.fp) || decide (size ≤ zoneV zs e.wh e.pl)) from rfl)
          have Hcl := Lib.hid (show celR zs size e = zoneV zs e.fw e.fp * size + zoneV zs e.wh e.pl from rfl)
          rw [hz1] at Z1
          rw [hz2] at Z2
          clear hE1 hz1 hz2 hE0 Hea
          generalize zoneV zs e.fw e.fp = A at *
          generalize zoneV zs e.wh e.pl = B at *
          go_wp2_with fail
          refine wp_region_since (by kernel_rfl) (by kernel_rfl) ?_
          repeat (go_big_quiet_step ((go_at_call 17; exact Z1.out _)))
          refine wpQuiet_nil ?_
          rintro _ ⟨z, rfl⟩
          go_wp2_with fail
          refine wp_region_since (by kernel_rfl) (by kernel_rfl) ?_
          repeat (go_big_quiet_step ((go_at_call 17; exact Z2.out _)))
          refine wpQuiet_nil ?_
          rintro _ ⟨z2, rfl⟩
          clear Z1 Z2 ra9 ra10 ra11 ra12
          have hT6 := HT.out.to ⟨z2, rfl⟩
          obtain ⟨y6, h6⟩ := y.trans z2
          rw [h6] at hT6 ⊢
          have HT6 := Lib.hid hT6
          clear hT6 h6 HT
          by_cases hbig : size ≤ A ∨ size ≤ B
          · have Hb1 := Lib.hid (show bigR zs size e = true by rw [Hbg.out]; simpa using hbig)
            have HT7 := Lib.hid (show CbAt y6.w gc gt N size (fun i => celN zs size (L.take k ++ [e]) i) from ⟨HT6.out.cl.congr (fun j _ => by rw [celN_snoc, Hb1.out]; simp), HT6.out.bx⟩)
            rcases (by omega : size ≤ A ∨ (¬ size ≤ A ∧ size ≤ B)) with c6 | ⟨c6, c7⟩
            all_goals
              clear hbig
              go_wp2_with fail
              go_roundw
              case rel => exact ⟨k + 1, y6, true, by omega, rfl, by rw [Htk.out, List.any_append]; simp [Hb1.out], by go_num, rfl, by rw [Htk.out]; exact HT7.out, Hall.out⟩
              case measure => simp [intOf] <;> omega
          · obtain ⟨c6, c7⟩ : ¬ size ≤ A ∧ ¬ size ≤ B := by omega
            have Hb1 := Lib.hid (show bigR zs size e = false by rw [Hbg.out]; simp; omega)
            obtain ⟨i1, i2, i3, i4⟩ := tab_idx a1' (by omega : A < size) b1' (by omega : B < size) (by omega)
            obtain ⟨m, hm⟩ : ∃ m : Nat, A * size + B = (m : Int) := ⟨(A * size + B).toNat, by omega⟩
            have hmN : m < N := by have := HN.out; omega
            have Hlk := Lib.hid (show (L.take k ++ [e]) = L.take (k + 1) from Htk.out.symm)
            have Hsm3 := Lib.hid (show sm = (L.take (k + 1)).any (bigR zs size) by rw [Htk.out, List.any_append, ← Hsm.out]; simp [Hb1.out])
            obtain ⟨n3, n4⟩ := celN_range zs size (L.take k) m
            have q0 := HT6.out.cl.c m hmN
            have q1 := HT6.out.cl.f m hmN
            have q2 := HT6.out.bx.c 2 _ rfl
            obtain ⟨y7, h7⟩ := y6.set ⟨gc, m, none⟩ Hgc.out (.int .i64 (celN zs size (L.take k) m + 1))
            have Hset := Lib.hid (show CbAt (y6.w.setCell ⟨gc, m, none⟩ (.int .i64 (celN zs size (L.take k) m + 1))) gc gt N size (fun i => celN zs size (L.take (k + 1)) i) by
              rw [Htk.out]
              exact ⟨HT6.out.cl.set hmN _ (by rw [celN_snoc, Hb1.out, Hcl.out, hm]; simp) (fun j _ hj => by rw [celN_snoc, Hcl.out, hm, if_neg (fun h => by simp at h; exact hj (by have := h.2; omega))]; simp), HT6.out.bx.setNe _ _ Hgn.out⟩)
            have H7 := Lib.hid h7
            clear h7 hbig Hbg Hcl
            generalize celN zs size (L.take k) m = C at *
            have n5 : C ≤ 256 := by omega
            clear n4 hLl
            go_wp2_with fail
            go_roundw
            case rel => exact ⟨k + 1, y7, sm, by omega, rfl, Hsm3.out, by go_num, H7.out, H7.out ▸ Hset.out, Hall.out⟩
            case measure => simp [intOf] <;> omega
    · obtain rfl : k = L.length := by omega
      have hE2 := Lib.hid (HE.out.trans (if_neg (by rw [endsE_no (by have := H0.out; rwa [List.take_length] at this)]; simp)))
      have Hsm2 := Lib.hid (show sm = L.any (bigR zs size) by have := Hsm.out; rwa [List.take_length] at this)
      cases sm
      case true =>
        have HB := Lib.hid (Hno.out 7 (hE2.out.trans (if_pos Hsm2.out.symm)) (by decide))
        clear HE hE2 Hsm Hsm2 H0 HT
        obtain ⟨Y, hY⟩ := HU.out y
        rw [hY]
        go_wp2_with fail
        have hsm : ∀ j, j < 3 → (Y.w.cell? ⟨bx + 1, j, none⟩).isSome = true := fun j hj => by
          match j, hj with
          | 0, _ => rw [hb1_0 Y]; rfl
          | 1, _ => rw [hb1_1 Y]; rfl
          | 2, _ => rw [hb1_2 Y]; rfl
        obtain ⟨z, hz, hc⟩ := set_many Y (g := bx + 1) [.int .i64 0, .int .i64 0, .slice none 0 0] hsm (Hup.out Y) (by have := Hbx.out; omega)
        simp only [World.setCells, Nat.reduceAdd] at hz
        rw [hz]
        have hc0 := hc 0 _ rfl
        have hc1 := hc 1 _ rfl
        have hc2 := hc 2 _ rfl
        exact bodyPost_ret (v := .tuple #[.agg #[.int .i64 0, .int .i64 0, .slice none 0 0], .int .i64 7]) (by simp [results, Try.results20, go_sem, hc0, hc1, hc2]) rfl (HB.out z)
      case false =>
        have hE3 : tabE zs size R f t each = 0 := hE2.out.trans (if_neg (by rw [← Hsm2.out]; simp))
        have hlt2 : bx + 1 ≠ gc := by
          have h1 := Hb1.out
          omega
        have hN9 := ((HT.out.cl.setOther ⟨bx + 1, 0, none⟩ hlt2 (.int .i64 size)).setOther ⟨bx + 1, 1, none⟩ hlt2 (.int .i64 size)).setOther ⟨bx + 1, 2, none⟩ hlt2 (.slice (some ⟨gc, 0, none⟩) N N)
        rw [List.take_length] at hN9
        have HB := Lib.hid (fun z hz => Hyes.out hE3 (cells zs size L) rfl (some ⟨gc, 0, none⟩) N N (by unfold cells; rw [List.length_map, List.length_range]; have := HN.out; omega) z hz (Nat.le_refl _) (fun b hb => by cases hb; have h1 := Hbx.out; have h2 := Hgc.out; have h3 := y1.b.size; show w.heap.size ≤ gc; omega))
        have q0 := HT.out.bx.c 0 _ rfl
        have q1 := HT.out.bx.c 1 _ rfl
        have q2 := HT.out.bx.c 2 _ rfl
        obtain ⟨Y, hY⟩ := HU.out y
        have HN9 := Lib.hid (fun W' (hW : _ = W') => (show Nums W' gc N (celN zs size L) from hW ▸ hN9))
        clear HE hE2 hE3 Hsm Hsm2 H0 hN9 hlt2
        rw [hY] at HN9 q0 q1 q2 ⊢
        clear hY
        go_wp2_with fail
        have hsm : ∀ j, j < 3 → (Y.w.cell? ⟨bx + 1, j, none⟩).isSome = true := fun j hj => by
          match j, hj with
          | 0, _ => rw [hb1_0 Y]; rfl
          | 1, _ => rw [hb1_1 Y]; rfl
          | 2, _ => rw [hb1_2 Y]; rfl
        obtain ⟨z, hz, hc⟩ := set_many Y (g := bx + 1) [.int .i64 size, .int .i64 size, .slice (some ⟨gc, 0, none⟩) N N] hsm (Hup.out Y) (by have := Hbx.out; omega)
        simp only [World.setCells, Nat.reduceAdd] at hz
        rw [hz]
        have hc0 := hc 0 _ rfl
        have hc1 := hc 1 _ rfl
        have hc2 := hc 2 _ rfl
        exact bodyPost_ret (v := .tuple #[.agg #[.int .i64 size, .int .i64 size, .slice (some ⟨gc, 0, none⟩) N N], .int .i64 0]) (by simp [results, Try.results20, go_sem, hc0, hc1, hc2]) rfl (HB.out z (nums_row (HN9.out _ hz) _ (by have := HN.out; omega)))
end Go.Proofs.Ytdmmjapccgeffaa
/- The laws of trips: zones, three. -/
namespace Go.Proofs.Ytdmmjapccgeffaa
open Go.RowKit Go.ChangeMaps

def RideRes (w : World) (L : List Ride) (o : Ending) (w' : World) : Prop := ∃ (a : Option Addr) (c : Nat) (R : List Ride) (y : Since w), o = .returned (.slice a R.length c) ∧ w' = y.w ∧ RideRow y.w a R ∧ R.map Ride.bare = L ∧ R.length ≤ c
/-- the legs of a ride lie alone in a block -/
structure LegAt (w : World) (r : Ride) (T : TypeId) : Prop where
  l : ∃ g, r.la = some ⟨g, 0, none⟩ ∧ w.heap[g]? = some (.cells (flat Leg.cs r.legs).toArray T)
  p : r.pauses = []
  n : r.legs.length ≤ 9223372036854775807
theorem LegAt.at {w : World} {r : Ride} {T : TypeId} (h : LegAt w r T) : r.At w := by
  obtain ⟨g, hg, hh⟩ := h.l
  refine ⟨fun i x hx => ⟨g, 0, hg, (Array.getElem?_eq_some_iff.1 hh).1, fun j v hv => ?_⟩, by rw [h.p]; exact els_nil _ _, h.n, by rw [h.p]; simp⟩
  have := flat_at Leg.len r.legs i x j v hx hv
  simp only [World.cell?, hh, Nat.zero_add]
  simpa using this
theorem LegAt.keep {w w' : World} {r : Ride} {T e : TypeId} {base n : Nat} {v : Value} {xs : List Value} (h : LegAt w r T) (hg : w.grownBy w' v.ownBlock) (hown : w.ownsRow base e 13 v n xs) (hne : e ≠ T) : LegAt w' r T := by
  obtain ⟨g, h1, hh⟩ := h.l
  refine ⟨⟨g, h1, ?_⟩, h.p, h.n⟩
  rw [hg.block g (Array.getElem?_eq_some_iff.1 hh).1 ?_]; exact hh
  obtain ⟨_, ⟨rfl, _⟩ | ⟨g', cap, cur, rfl, _, hh', _⟩⟩ := hown
  · simp [Value.ownBlock]
  · intro he
    have he' : g = g' := by simpa [Value.ownBlock] using he
    subst he'
    rw [hh] at hh'
    simp only [Option.some.injEq, Obj.cells.injEq] at hh'
    exact hne hh'.2.1.symm
theorem LegAt.to {w W : World} {r : Ride} {T : TypeId} (h : LegAt w r T) (hW : ∃ z : Since w, W = z.w) : LegAt W r T := by
  obtain ⟨z, rfl⟩ := hW
  obtain ⟨g, h1, hh⟩ := h.l
  exact ⟨⟨g, h1, Since.heap hh z⟩, h.p, h.n⟩
def rideT (k : Nat) : Ride := ⟨(k : Int) + 1, 0, 10 * ((k : Int) + 1), 10 * ((k : Int) + 1), 90, 90, false, none, [⟨0, 10 * ((k : Int) + 1), 10 * ((k : Int) + 1), 90, 90⟩], 0, none, [], 0, 1, 3, 2, 5⟩
def threeL : List Ride := [rideT 0, rideT 1, rideT 2]
def rideTa (_ : Nat) (n : Int) (g : Nat) : Ride := ⟨n, 0, 10 * n, 10 * n, 90, 90, false, some ⟨g, 0, none⟩, [⟨0, 10 * n, 10 * n, 90, 90⟩], 1, none, [], 0, 1, 3, 2, 5⟩
theorem threeL_take (k : Nat) (h : k < 3) : threeL.take (k + 1) = threeL.take k ++ [rideT k] := by
  match k, h with
  | 0, _ => rfl
  | 1, _ => rfl
  | 2, _ => rfl
set_option maxRecDepth 100000 in
set_option maxHeartbeats 8000000 in
theorem three_calls (w : World) (x : Since w) : Calls Try.prog 29 #[] x.w (RideRes w threeL) := by
  go_enter Try.func29, Try.ntmps29
  go_wp2_with fail
  go_loopw [1, 2] (fun v i wr => ∃ (k : Nat) (R : List Ride) (y : Since w), k ≤ 3 ∧ i = .int .i64 ((k : Int) + 1) ∧ wr = y.w ∧ y.w.ownsRow w.heap.size 52 13 v k (flat Ride.cs R) ∧ R.map Ride.bare = threeL.take k ∧ ∀ r ∈ R, LegAt y.w r 63) (fun _ i _ => 5 - (intOf i).toNat)
  case atStart => exact ⟨0, [], x, by omega, rfl, rfl, ⟨rfl, .inl ⟨rfl, rfl⟩⟩, rfl, fun r hr => by cases hr⟩
  case round =>
    obtain ⟨k, R, y, hk, rfl, rfl, hown, hR, hat⟩ := hrel
    have Hown := Lib.hid hown; have HR := Lib.hid hR; have Hat := Lib.hid hat
    clear hown hR hat
    by_cases hlt : k < 3
    · have hk0 : (0 : Int) ≤ (k : Int) := by omega
      have hkl : (k : Int) + 1 ≤ 3 := by omega
      obtain ⟨n, hn⟩ : ∃ n : Int, n = (k : Int) + 1 := ⟨_, rfl⟩
      rw [← hn] at hkl ⊢
      have Hn := Lib.hid hn
      have hn1 : 1 ≤ n := by omega
      clear hn
      go_upto_region 6 with fail
      have hs0_0 : ((y.w.alloc (.cells #[.int .i64 (10 * n), .int .i64 (10 * n)] 48)).alloc (.cells #[.int .i64 90, .int .i64 90] 48)).cell? ⟨y.w.heap.size, 0, none⟩ = some (.int .i64 (10 * n)) := by simp [go_sem]
      have hs0_1 : ((y.w.alloc (.cells #[.int .i64 (10 * n), .int .i64 (10 * n)] 48)).alloc (.cells #[.int .i64 90, .int .i64 90] 48)).cell? ⟨y.w.heap.size, 1, none⟩ = some (.int .i64 (10 * n)) := by simp [go_sem]
      have hs1_0 : ((y.w.alloc (.cells #[.int .i64 (10 * n), .int .i64 (10 * n)] 48)).alloc (.cells #[.int .i64 90, .int .i64 90] 48)).cell? ⟨y.w.heap.size + 1, 0, none⟩ = some (.int .i64 90) := by simp [go_sem]
      have hs1_1 : ((y.w.alloc (.cells #[.int .i64 (10 * n), .int .i64 (10 * n)] 48)).alloc (.cells #[.int .i64 90, .int .i64 90] 48)).cell? ⟨y.w.heap.size + 1, 1, none⟩ = some (.int .i64 90) := by simp [go_sem]
      have hs0_f : ∀ o, ((y.w.alloc (.cells #[.int .i64 (10 * n), .int .i64 (10 * n)] 48)).alloc (.cells #[.int .i64 90, .int .i64 90] 48)).frozen? ⟨y.w.heap.size, o, none⟩ = false := fun o => by simp [go_sem]
      have hs1_f : ∀ o, ((y.w.alloc (.cells #[.int .i64 (10 * n), .int .i64 (10 * n)] 48)).alloc (.cells #[.int .i64 90, .int .i64 90] 48)).frozen? ⟨y.w.heap.size + 1, o, none⟩ = false := fun o => by simp [go_sem]
      have hlt0 : y.w.heap.size + 1 < ((y.w.alloc (.cells #[.int .i64 (10 * n), .int .i64 (10 * n)] 48)).alloc (.cells #[.int .i64 90, .int .i64 90] 48)).heap.size := by simp
      have hst0 : ∃ zz : Since y.w, ((y.w.alloc (.cells #[.int .i64 (10 * n), .int .i64 (10 * n)] 48)).alloc (.cells #[.int .i64 90, .int .i64 90] 48)) = zz.w := IsSince.alloc (IsSince.alloc (IsSince.self _) _) _
      have hsz0 := y.b.size
      obtain ⟨y2, e2⟩ := IsSince.alloc (IsSince.alloc (IsSince.of y) (.cells #[.int .i64 (10 * n), .int .i64 (10 * n)] 48)) (.cells #[.int .i64 90, .int .i64 90] 48)
      rw [e2] at hs0_0 hs0_1 hs1_0 hs1_1 hs0_f hs1_f hlt0 hst0 ⊢
      (replace Hown := Lib.hid (own_to Hown.out hst0); replace Hat := Lib.hid (fun r hr => (Hat.out r hr).to hst0))
      clear e2 hst0
      generalize y.w.heap.size = gs at *
      have Hhs0_0 : ∀ q : Since y2.w, q.w.cell? ⟨gs, 0, none⟩ = some (.int .i64 (10 * n)) := fun q => Since.cell hs0_0 (by omega) q
      have Hhs0_1 : ∀ q : Since y2.w, q.w.cell? ⟨gs, 1, none⟩ = some (.int .i64 (10 * n)) := fun q => Since.cell hs0_1 (by omega) q
      have Hhs1_0 : ∀ q : Since y2.w, q.w.cell? ⟨gs + 1, 0, none⟩ = some (.int .i64 90) := fun q => Since.cell hs1_0 (by omega) q
      have Hhs1_1 : ∀ q : Since y2.w, q.w.cell? ⟨gs + 1, 1, none⟩ = some (.int .i64 90) := fun q => Since.cell hs1_1 (by omega) q
      have Hhs0_f : ∀ (q : Since y2.w) (o : Nat), q.w.frozen? ⟨gs, o, none⟩ = false := fun q o => Since.free (hs0_f o) (by omega) q
      have Hhs1_f : ∀ (q : Since y2.w) (o : Nat), q.w.frozen? ⟨gs + 1, o, none⟩ = false := fun q o => Since.free (hs1_f o) (by omega) q
      have Hhsg := Lib.hid (And.intro hsz0 hlt0)
      clear hlt0 hsz0
      have hst1 : IsSince y2.w ((y2.w.alloc (.cells #[.int .i64 0, .int .i64 (10 * n), .int .i64 (10 * n), .int .i64 90, .int .i64 90] 63))) := IsSince.alloc (IsSince.self _) _
      have Hst1 := Lib.hid hst1
      clear hst1
      go_wp2_with (at_builtin; (refine wpList_appendK (w0 := w) ?hw rfl _ _ 22 rfl w.heap.size (Nat.le_refl _) ?hb 52 zeroRide 136 sRide u1 k (flat Ride.cs R) rfl ?hown ⟨y2.w.heap.size + 1, 0, none⟩ 1 1 (rideTa k n y2.w.heap.size).cs rfl rfl ?hc (ride_one _) ?h63 ?hbytes ?_; rotate_right 1; intro v2 q2 hown4 _ hg4))
      case hw => exact IsSince.alloc (IsSince.alloc (IsSince.of y2) _) _
      case hb => have := y2.b.size; simp; omega
      case hown => exact own_to Hown.out (IsSince.alloc (IsSince.alloc (IsSince.self _) _) _)
      case hc =>
        intro j v hv
        have := cell_new_at (y2.w.alloc (.cells #[.int .i64 0, .int .i64 (10 * n), .int .i64 (10 * n), .int .i64 90, .int .i64 90] 63)) (rideTa k n y2.w.heap.size).cs 52 j v hv
        rw [show (y2.w.alloc (.cells #[.int .i64 0, .int .i64 (10 * n), .int .i64 (10 * n), .int .i64 90, .int .i64 90] 63)).heap.size = y2.w.heap.size + 1 by simp] at this
        exact this
      case h63 => unfold maxLen; omega
      case hbytes => omega
      have hown5 : q2.w.ownsRow w.heap.size 52 13 v2 (k + 1) (flat Ride.cs (R ++ [rideTa k n y2.w.heap.size])) := by rw [flat_append, flat_one]; exact hown4
      have hbl : ((y2.w.alloc (.cells #[.int .i64 0, .int .i64 (10 * n), .int .i64 (10 * n), .int .i64 90, .int .i64 90] 63)).alloc (.cells (rideTa k n y2.w.heap.size).cs.toArray 52)).heap[y2.w.heap.size]? = some (.cells #[.int .i64 0, .int .i64 (10 * n), .int .i64 (10 * n), .int .i64 90, .int .i64 90] 63) := by
        show ((y2.w.heap.push _).push _)[y2.w.heap.size]? = _
        rw [Array.getElem?_push, if_neg (by simp), Array.getElem?_push, if_pos rfl]
      have Hnew := Lib.hid (LegAt.keep (r := rideTa k n y2.w.heap.size) (T := 63) ⟨⟨_, rfl, hbl⟩, rfl, show (1 : Nat) ≤ _ by decide⟩ hg4 (own_to Hown.out (IsSince.alloc (IsSince.alloc (IsSince.self _) _) _)) (by decide))
      have Hold := Lib.hid (fun r hr => LegAt.keep ((Hat.out r hr).to (IsSince.alloc (IsSince.alloc (IsSince.self _) _) _)) hg4 (own_to Hown.out (IsSince.alloc (IsSince.alloc (IsSince.self _) _) _)) (by decide))
      have Hown5 := Lib.hid hown5
      clear hown4 hg4 hown5 hbl
      go_wp2_with fail
      go_roundw
      case rel => exact ⟨k + 1, R ++ [rideTa k n y2.w.heap.size], q2, by omega, by have := Hn.out; go_num, rfl, Hown5.out, by rw [List.map_append, HR.out, threeL_take k hlt, Hn.out]; rfl, fun r hr => by
        rcases List.mem_append.1 hr with h | h
        · exact Hold.out r h
        · simp at h; subst h; exact Hnew.out⟩
      case measure => have := Hn.out; simp [intOf] <;> omega
    · obtain rfl : k = 3 := by omega
      obtain ⟨hlen, a3, c3, rfl, hc3, he3, _, _⟩ := own_els Ride.len (by decide) Hown.out
      have H3 := Lib.hid (And.intro hc3 he3)
      have Hl := Lib.hid hlen
      clear hc3 he3 hlen
      go_wp2_with fail
      go_ret
      exact ⟨a3, c3, R, y, rfl, rfl, ⟨H3.out.2, fun r hr => (Hat.out r hr).at⟩, HR.out, H3.out.1⟩
def zonesL : List Int := List.replicate 64 0 ++ [1, 2, 1]
def IntsRes (w : World) (l : List Int) (o : Ending) (w' : World) : Prop := ∃ (a : Option Addr) (c : Nat) (y : Since w), o = .returned (.slice a l.length c) ∧ w' = y.w ∧ IntRow y.w a l ∧ l.length ≤ c
theorem sIntT : SliceOf Try.prog 29 3 (.int .i64 0) 1 8 := SliceOf.mk' Try.underlying29 (by kernel_rfl) rfl (by decide)
set_option maxRecDepth 100000 in
set_option maxHeartbeats 4000000 in
theorem zones_calls (w : World) (x : Since w) : Calls Try.prog 27 #[] x.w (IntsRes w zonesL) := by
  obtain ⟨i0, hi0, hz0, hsz0, hby0⟩ := info_parts (P := Try.prog) (e := 3) (z := .int .i64 0) (size := 1) (bytes := 8) (by kernel_rfl)
  go_enter Try.func27, Try.ntmps27
  go_wp2_with (at_make; refine wpList_make_full _ rfl _ _ 29 rfl w.heap.size 3 i0 (.int .i64 0) 1 Try.underlying29 hi0 hz0 hsz0 .i64 .i64 64 64 64 rfl rfl rfl rfl (by rw [hby0]; omega) (by unfold maxLen; omega) x.b.size ?_; intro w1 hown hg1; refine Hid.out ?_)
  obtain ⟨y2, hy2⟩ := x.grown hg1 (fun k hk => by cases hk)
  subst hy2
  clear hg1 hi0 hz0 hsz0 hby0
  have Hown := Lib.hid hown
  clear hown
  generalize x.w.heap.size = gc at *
  refine Lib.hid ?_
  have hxs : (madeCells (Value.int IntKind.i64 0).cells (64 * 1)).toList = (List.replicate 64 (0 : Int)).map (Value.int .i64) := by kernel_rfl
  rw [hxs] at Hown
  clear hxs
  go_wp2_with (at_builtin; (refine wpList_appendK (k := 1) (w0 := w) ?hw rfl _ _ 29 rfl w.heap.size (Nat.le_refl _) ?hb 3 (.int .i64 0) 8 sIntT (.slice (some ⟨gc, 0, none⟩) 64 64) 64 ((List.replicate 64 (0 : Int)).map (Value.int .i64)) rfl ?hown ⟨y2.w.heap.size, 0, none⟩ 3 3 [.int .i64 1, .int .i64 2, .int .i64 1] rfl rfl ?hc ?h1 ?h63 ?hbytes ?_; rotate_right 1; intro v2 q2 hown4 _ hg4))
  case hw => exact IsSince.alloc (IsSince.of y2) _
  case hb => have := y2.b.size; simp; omega
  case hown => exact own_to Hown.out (IsSince.alloc (IsSince.self _) _)
  case hc => exact cell_new_at y2.w [.int .i64 1, .int .i64 2, .int .i64 1] _
  case h1 => intro u hu; simp at hu; rcases hu with h | h | h <;> subst h <;> rfl
  case h63 => unfold maxLen; omega
  case hbytes => omega
  have hz : q2.w.ownsRow w.heap.size 3 1 v2 67 (zonesL.map (Value.int .i64)) := by
    have hq : zonesL.map (Value.int .i64) = (List.replicate 64 (0 : Int)).map (Value.int .i64) ++ [.int .i64 1, .int .i64 2, .int .i64 1] := by unfold zonesL; rw [List.map_append]; rfl
    rw [hq]; exact hown4
  obtain ⟨a3, c3, rfl, hc3, hrow, -⟩ := own_row hz
  have H3 := Lib.hid (And.intro (ints_row (l := zonesL) (by unfold zonesL; simp) hrow) hc3)
  clear hown4 hg4 hz hrow hc3 Hown
  go_wp2_with fail
  go_ret
  exact ⟨a3, c3, q2, rfl, rfl, H3.out.1, by unfold zonesL; simpa using H3.out.2⟩
end Go.Proofs.Ytdmmjapccgeffaa
/- Trips between zones: what is counted depends on the bare rides alone; the values of the chapter's examples: plain mathematics. -/
namespace Go.Proofs.Ytdmmjapccgeffaa
open Go.RowKit

theorem bare_e (r : Ride) : rideE r.bare = rideE r := rfl
theorem firstErr_bare (R : List Ride) : firstErr (R.map Ride.bare) = firstErr R := by
  unfold firstErr
  induction R with
  | nil => rfl
  | cons r R ih =>
    simp only [List.map_cons, List.find?_cons, bare_e]
    cases rideE r != 0
    · exact ih
    · rfl
theorem ridesE_bare (R : List Ride) : ridesE (R.map Ride.bare) = ridesE R := by
  unfold ridesE
  rw [firstErr_bare, List.length_map, List.map_map]; rfl
theorem bare_id (r : Ride) : r.bare.id = r.id := rfl
theorem bf_bare (r s : Ride) : bf r.bare s.bare = bf r s := rfl
theorem filter_bare (R : List Ride) (p q : Ride → Bool) (h : ∀ r, p r.bare = q r) : (R.map Ride.bare).filter p = (R.filter q).map Ride.bare := by
  rw [List.filter_map]
  congr 1
  exact List.filter_congr fun r _ => h r
theorem ahd_bare (R : List Ride) (x : Ride) : ahd (R.map Ride.bare) x.bare = ahd R x := by
  unfold ahd
  rw [filter_bare R _ (fun r => ofK (key x) r && bf r x) (fun r => rfl), List.length_map]
theorem ctd_bare (R : List Ride) (each : Int) (x : Ride) : ctd (R.map Ride.bare) each x.bare = ctd R each x := by
  unfold ctd
  rw [ahd_bare]; rfl
theorem eachL_bare (R : List Ride) (each : Int) : eachL (R.map Ride.bare) each = (eachL R each).map Ride.bare := filter_bare R _ _ (ctd_bare R each)
theorem eachE_bare (R : List Ride) (each : Int) : eachE (R.map Ride.bare) each = eachE R each := by
  unfold eachE
  rw [ridesE_bare]
theorem cntL_bare (R : List Ride) (each f t : Int) : cntL (R.map Ride.bare) each f t = (cntL R each f t).map Ride.bare := by
  unfold cntL
  rw [eachL_bare]
  exact filter_bare _ _ _ fun r => rfl
theorem endsE_bare (zs : List Int) (L : List Ride) : endsE zs (L.map Ride.bare) = endsE zs L := by
  unfold endsE
  rw [List.find?_map]
  have : ((fun r => endE zs r != 0) ∘ Ride.bare) = fun r => endE zs r != 0 := rfl
  rw [this]
  cases L.find? (fun r => endE zs r != 0) <;> rfl
theorem celN_bare (zs : List Int) (size : Int) (L : List Ride) (i : Nat) : celN zs size (L.map Ride.bare) i = celN zs size L i := by
  unfold celN
  rw [filter_bare L _ (fun r => !bigR zs size r && decide (celR zs size r = (i : Int))) (fun r => rfl), List.length_map]
theorem any_bare (zs : List Int) (size : Int) (L : List Ride) : (L.map Ride.bare).any (bigR zs size) = L.any (bigR zs size) := by
  rw [List.any_map]; rfl
theorem tabE_bare (zs : List Int) (size : Int) (R : List Ride) (f t each : Int) : tabE zs size (R.map Ride.bare) f t each = tabE zs size R f t each := by
  unfold tabE
  rw [eachE_bare, cntL_bare, endsE_bare, any_bare]
theorem tabV_bare (zs : List Int) (size : Int) (R : List Ride) (f t each : Int) : tabV zs size (R.map Ride.bare) f t each = tabV zs size R f t each := by
  unfold tabV
  rw [tabE_bare, cntL_bare]
  have : cells zs size ((cntL R each f t).map Ride.bare) = cells zs size (cntL R each f t) := by
    unfold cells
    exact List.map_congr_left fun i _ => celN_bare zs size _ i
  rw [this]
theorem ex_zone : zoneE zonesL 1 40 = 0 ∧ zoneV zonesL 1 40 = 2 ∧ zoneE zonesL 1 96 = 7 ∧ zoneE zonesL 0 0 = 14 := by decide
theorem ex_three : eachE threeL 2 = 0 ∧ eachL threeL 2 = [rideT 0, rideT 1] := ⟨by kernel_rfl, by kernel_rfl⟩
def tabA : Tab := ⟨3, 3, [0, 0, 0, 2, 0, 0, 0, 0, 0]⟩
def tabB : Tab := ⟨3, 3, [0, 0, 0, 1, 0, 0, 0, 0, 0]⟩
theorem ex_tabA : tabE zonesL 3 threeL 0 4294944000 2 = 0 ∧ tabV zonesL 3 threeL 0 4294944000 2 = tabA := ⟨by kernel_rfl, by kernel_rfl⟩
theorem ex_tabB : tabE zonesL 3 threeL 20 31 2 = 0 ∧ tabV zonesL 3 threeL 20 31 2 = tabB := ⟨by kernel_rfl, by kernel_rfl⟩
theorem ex_apart : apE tabA tabB = 0 ∧ apV tabA tabB = 1 ∧ chkE tabA = 0 ∧ chkE tab0 = 1 := by decide
end Go.Proofs.Ytdmmjapccgeffaa
/- The laws of trips: contracts over a world that may be older, for the law's helpers. -/
namespace Go.Proofs.Ytdmmjapccgeffaa
open Go.RowKit

theorem zones_s (w : World) (y : Since w) : Calls Try.prog 27 #[] y.w fun o w' => ∃ (a : Option Addr) (c : Nat) (y' : Since w), o = .returned (.slice a zonesL.length c) ∧ w' = y'.w ∧ (∃ z : Since y.w, y'.w = z.w) ∧ IntRow y'.w a zonesL := by
  refine (zones_calls y.w (Since.self y.w)).mono ?_
  rintro _ w' ⟨a, c, z, rfl, rfl, h, _⟩
  obtain ⟨y', e⟩ := y.trans z
  exact ⟨a, c, y', rfl, e, ⟨z, e.symm⟩, e ▸ h⟩
theorem three_s (w : World) (y : Since w) : Calls Try.prog 29 #[] y.w fun o w' => ∃ (a : Option Addr) (c : Nat) (R : List Ride) (y' : Since w), o = .returned (.slice a R.length c) ∧ w' = y'.w ∧ (∃ z : Since y.w, y'.w = z.w) ∧ RideRow y'.w a R ∧ R.map Ride.bare = threeL := by
  refine (three_calls y.w (Since.self y.w)).mono ?_
  rintro _ w' ⟨a, c, R, z, rfl, rfl, h, hR, _⟩
  obtain ⟨y', e⟩ := y.trans z
  exact ⟨a, c, R, y', rfl, e, ⟨z, e.symm⟩, e ▸ h, hR⟩
theorem threeL_mem {R : List Ride} (hR : R.map Ride.bare = threeL) : R.length = 3 ∧ ∀ r ∈ R, (r.fp ≤ 9223372036854775807 ∧ r.pl ≤ 9223372036854775807) ∧ r.legs.length ≤ 100000 ∧ r.pauses.length ≤ 100000 := by
  refine ⟨by have := congrArg List.length hR; rwa [List.length_map] at this, fun r hr => ?_⟩
  have h : r.bare ∈ threeL := by rw [← hR]; exact List.mem_map_of_mem hr
  have e1 : r.bare.fp = r.fp := rfl
  have e2 : r.bare.pl = r.pl := rfl
  have e3 : r.bare.legs = r.legs := rfl
  have e4 : r.bare.pauses = r.pauses := rfl
  rw [← e1, ← e2, ← e3, ← e4]
  simp only [threeL, List.mem_cons, List.not_mem_nil, or_false] at h
  rcases h with h | h | h <;> rw [h] <;> exact ⟨⟨by simp [rideT], by simp [rideT]⟩, by simp [rideT], by simp [rideT]⟩
theorem zone_s (w : World) (y : Since w) (a : Option Addr) (c : Nat) (wh pl v e : Int) (h : IntRow y.w a zonesL) (hp : pl ≤ 9223372036854775807) (hv : zoneV zonesL wh pl = v) (he : zoneE zonesL wh pl = e) :
    Calls Try.prog 16 #[.slice a zonesL.length c, .int .i64 wh, .int .i64 pl] y.w fun o w' => o = .returned (.tuple #[.int .i64 v, .int .i64 e]) ∧ w' = y.w := by
  refine (zone_calls y.w a zonesL c wh pl h (by unfold zonesL; simp) hp).mono ?_
  rintro _ _ ⟨rfl, rfl⟩
  exact ⟨by rw [hv, he], rfl⟩
theorem table_s (w : World) (y : Since w) (az : Option Addr) (cz : Nat) (a : Option Addr) (R : List Ride) (c : Nat) (f t : Int) (T : Tab) (n : Nat) (hz : IntRow y.w az zonesL) (h : RideRow y.w a R) (hR : R.map Ride.bare = threeL) (he : tabE zonesL 3 threeL f t 2 = 0) (hv : tabV zonesL 3 threeL f t 2 = T) (hn : T.l.length = n) :
    Calls Try.prog 28 #[.slice az zonesL.length cz, .int .i64 3, .slice a R.length c, .agg #[.int .i64 f, .int .i64 t], .int .i64 2] y.w fun o w' => ∃ (a' : Option Addr) (c' : Nat) (y' : Since w), o = .returned (.tuple #[.agg #[.int .i64 T.r, .int .i64 T.c, .slice a' n c'], .int .i64 0]) ∧ w' = y'.w ∧ (∃ z : Since y.w, y'.w = z.w) ∧ IntRow y'.w a' T.l := by
  obtain ⟨hl, hm⟩ := threeL_mem hR
  refine (table_calls y.w (Since.self y.w) az zonesL cz 3 a R c f t 2 hz (by unfold zonesL; simp) h (by omega) fun r hr => (hm r hr).1).mono ?_
  rw [← tabE_bare, ← tabV_bare, hR, he, hv]
  rintro _ w' ⟨a', c', z, rfl, rfl, h, _⟩
  obtain ⟨y', e⟩ := y.trans z
  subst hn
  exact ⟨a', c', y', rfl, e, ⟨z, e.symm⟩, e ▸ h⟩
theorem ex_each {R : List Ride} (hR : R.map Ride.bare = threeL) : eachE R 2 = 0 ∧ (eachV R 2).map Ride.bare = [rideT 0, rideT 1] := by
  have h0 : eachE R 2 = 0 := by rw [← eachE_bare, hR]; exact ex_three.1
  refine ⟨h0, ?_⟩
  unfold eachV
  rw [if_pos h0, ← eachL_bare, hR]
  exact ex_three.2
theorem each_s (w : World) (y : Since w) (a : Option Addr) (R : List Ride) (c : Nat) (h : RideRow y.w a R) (hR : R.map Ride.bare = threeL) :
    Calls Try.prog 13 #[.slice a R.length c, .int .i64 2] y.w fun o w' => ∃ (a' : Option Addr) (c' : Nat) (L : List Ride) (y' : Since w), o = .returned (.tuple #[.slice a' 2 c', .int .i64 0]) ∧ w' = y'.w ∧ (∃ z : Since y.w, y'.w = z.w) ∧ RideRow y'.w a' L ∧ L.map Ride.bare = [rideT 0, rideT 1] := by
  obtain ⟨hl, hm⟩ := threeL_mem hR
  refine (each_calls y.w (Since.self y.w) a R c 2 h (by omega) fun r hr => (hm r hr).2).mono ?_
  rintro _ w' ⟨a', c', L, z, rfl, rfl, h, _, hL⟩
  obtain ⟨y', e⟩ := y.trans z
  rw [(ex_each hR).2] at hL
  have hn : L.length = 2 := by have := congrArg List.length hL; rwa [List.length_map] at this
  exact ⟨a', c', L, y', by rw [hn, (ex_each hR).1], e, ⟨z, e.symm⟩, e ▸ h, hL⟩
theorem apart_s (w : World) (y : Since w) (a1 : Option Addr) (c1 : Nat) (a2 : Option Addr) (c2 : Nat) (h1 : IntRow y.w a1 tabA.l) (h2 : IntRow y.w a2 tabB.l) :
    Calls Try.prog 22 #[.agg #[.int .i64 3, .int .i64 3, .slice a1 9 c1], .agg #[.int .i64 3, .int .i64 3, .slice a2 9 c2]] y.w fun o w' => o = .returned (.tuple #[.int .i64 1, .int .i64 0]) ∧ ∃ y' : Since w, w' = y'.w ∧ ∃ z : Since y.w, y'.w = z.w := by
  refine (apart_calls y.w (Since.self y.w) tabA tabB a1 c1 a2 c2 h1 h2 (by decide) (by decide)).mono ?_
  rintro _ w' ⟨rfl, z, rfl⟩
  obtain ⟨y', e⟩ := y.trans z
  exact ⟨by rw [ex_apart.1, ex_apart.2.1], y', e, z, e.symm⟩
theorem tcheck_s (w : World) (y : Since w) (t : Tab) (a : Option Addr) (n c : Nat) (e : Int) (hn : t.l.length = n) (h : IntRow y.w a t.l) (hl : n ≤ 64) (he : chkE t = e) :
    Calls Try.prog 24 #[.agg #[.int .i64 t.r, .int .i64 t.c, .slice a n c]] y.w fun o w' => o = .returned (.int .i64 e) ∧ ∃ y' : Since w, w' = y'.w := by
  subst hn
  refine (tcheck_calls y.w (Since.self y.w) t a c h (by omega)).mono ?_
  rintro _ w' ⟨rfl, z, rfl⟩
  obtain ⟨y', e'⟩ := y.trans z
  exact ⟨by rw [he], y', e'⟩
end Go.Proofs.Ytdmmjapccgeffaa
/- The laws of trips: the chapter's examples, walked. -/
namespace Go.Proofs.Ytdmmjapccgeffaa
open Go.RowKit

set_option maxRecDepth 100000 in
set_option maxHeartbeats 8000000 in
theorem awake_calls (w : World) (x : Since w) : Calls Try.prog 12 #[] x.w fun o w' => o = .returned (.bool true) ∧ ∃ y : Since w, w' = y.w := by
  go_enter Try.func12, Try.ntmps12
  go_wp2_with fail
  refine (zones_s w x).mono ?_
  rintro _ _ ⟨a1, c1, y1, rfl, rfl, -, h1⟩
  go_wp2_with fail
  refine (zone_s w y1 a1 c1 1 40 2 0 h1 (by decide) ex_zone.2.1 ex_zone.1).mono ?_
  rintro _ _ ⟨rfl, rfl⟩
  clear h1
  go_wp2_with fail
  refine (zones_s w y1).mono ?_
  rintro _ _ ⟨a2, c2, y2, rfl, rfl, -, h2⟩
  go_wp2_with fail
  refine (zone_s w y2 a2 c2 1 96 0 7 h2 (by decide) (by decide) ex_zone.2.2.1).mono ?_
  rintro _ _ ⟨rfl, rfl⟩
  clear h2
  go_wp2_with fail
  refine (zones_s w y2).mono ?_
  rintro _ _ ⟨a3, c3, y3, rfl, rfl, -, h3⟩
  go_wp2_with fail
  refine (zone_s w y3 a3 c3 3 0 0 14 h3 (by decide) (by decide) (by decide)).mono ?_
  rintro _ _ ⟨rfl, rfl⟩
  clear h3
  go_wp2_with fail
  refine (zones_s w y3).mono ?_
  rintro _ _ ⟨a4, c4, y4, rfl, rfl, -, h4⟩
  go_wp2_with fail
  refine (three_s w y4).mono ?_
  rintro _ _ ⟨b5, d5, R5, y5, rfl, rfl, hz5, h5, hR5⟩
  replace h4 := h4.to hz5
  have H4 := Lib.hid h4
  have H5 := Lib.hid h5
  have HR5 := Lib.hid hR5
  clear h4 h5 hR5 hz5
  go_wp2_with fail
  refine (table_s w y5 a4 c4 b5 R5 d5 0 4294944000 tabA 9 H4.out H5.out HR5.out ex_tabA.1 ex_tabA.2 rfl).mono ?_
  rintro _ _ ⟨a6, c6, y6, rfl, rfl, -, h6⟩
  have H6 := Lib.hid h6
  clear h6 H4 H5 HR5
  go_upto_region 5 with fail
  have hx0 : (y6.w.alloc (.cells #[.int .i64 tabA.r, .int .i64 tabA.c, .slice a6 9 c6] 39)).cell? ⟨y6.w.heap.size, 0, none⟩ = some (.int .i64 tabA.r) := by simp [go_sem]
  have hx1 : (y6.w.alloc (.cells #[.int .i64 tabA.r, .int .i64 tabA.c, .slice a6 9 c6] 39)).cell? ⟨y6.w.heap.size, 1, none⟩ = some (.int .i64 tabA.c) := by simp [go_sem]
  have hx2 : (y6.w.alloc (.cells #[.int .i64 tabA.r, .int .i64 tabA.c, .slice a6 9 c6] 39)).cell? ⟨y6.w.heap.size, 2, none⟩ = some (.slice a6 9 c6) := by simp [go_sem]
  have hxf : ∀ o, (y6.w.alloc (.cells #[.int .i64 tabA.r, .int .i64 tabA.c, .slice a6 9 c6] 39)).frozen? ⟨y6.w.heap.size, o, none⟩ = false := fun o => by simp [go_sem]
  have hlt0 : y6.w.heap.size < (y6.w.alloc (.cells #[.int .i64 tabA.r, .int .i64 tabA.c, .slice a6 9 c6] 39)).heap.size := by simp
  have hst0 : ∃ zz : Since y6.w, (y6.w.alloc (.cells #[.int .i64 tabA.r, .int .i64 tabA.c, .slice a6 9 c6] 39)) = zz.w := IsSince.alloc (IsSince.self _) _
  have hsz0 := y6.b.size
  obtain ⟨y7, e2⟩ := IsSince.alloc (IsSince.of y6) (.cells #[.int .i64 tabA.r, .int .i64 tabA.c, .slice a6 9 c6] 39)
  rw [e2] at hx0 hx1 hx2 hxf hlt0 hst0 ⊢
  (replace H6 := Lib.hid (H6.out.to hst0); have hbx := BoxIs.new y6.w [.int .i64 tabA.r, .int .i64 tabA.c, .slice a6 9 c6] 39; rw [e2] at hbx)
  clear e2 hst0
  generalize y6.w.heap.size = gt at *
  have Hhx0 : ∀ q : Since y7.w, q.w.cell? ⟨gt, 0, none⟩ = some (.int .i64 tabA.r) := fun q => Since.cell hx0 (by omega) q
  have Hhx1 : ∀ q : Since y7.w, q.w.cell? ⟨gt, 1, none⟩ = some (.int .i64 tabA.c) := fun q => Since.cell hx1 (by omega) q
  have Hhx2 : ∀ q : Since y7.w, q.w.cell? ⟨gt, 2, none⟩ = some (.slice a6 9 c6) := fun q => Since.cell hx2 (by omega) q
  have Hhxf : ∀ (q : Since y7.w) (o : Nat), q.w.frozen? ⟨gt, o, none⟩ = false := fun q o => Since.free (hxf o) (by omega) q
  have Hhxg := Lib.hid (And.intro hsz0 hlt0)
  clear hlt0 hsz0
  have HA := Lib.hid hbx
  clear hbx hx0 hx1 hx2 hxf Hhx0 Hhx1 Hhx2 Hhxf
  go_wp2_with fail
  refine (zones_s w y7).mono ?_
  rintro _ _ ⟨a8, c8, y8, rfl, rfl, hz8, h8⟩
  go_wp2_with fail
  refine (three_s w y8).mono ?_
  rintro _ _ ⟨b9, d9, R9, y9, rfl, rfl, hz9, h9, hR9⟩
  have H9 := Lib.hid h9
  have H8 := Lib.hid (h8.to hz9)
  have HR9 := Lib.hid hR9
  clear h9 hR9 h8
  go_wp2_with fail
  refine (table_s w y9 a8 c8 b9 R9 d9 20 31 tabB 9 H8.out H9.out HR9.out ex_tabB.1 ex_tabB.2 rfl).mono ?_
  rintro _ _ ⟨a10, c10, y10, rfl, rfl, hz10, h10⟩
  have H10 := Lib.hid h10
  replace H6 := Lib.hid (((H6.out.to hz8).to hz9).to hz10)
  replace HA := Lib.hid (((HA.out.to hz8).to hz9).to hz10)
  clear h10 H8 H9 HR9
  go_upto_region 6 with fail
  have hx0 : (y10.w.alloc (.cells #[.int .i64 tabB.r, .int .i64 tabB.c, .slice a10 9 c10] 39)).cell? ⟨y10.w.heap.size, 0, none⟩ = some (.int .i64 tabB.r) := by simp [go_sem]
  have hx1 : (y10.w.alloc (.cells #[.int .i64 tabB.r, .int .i64 tabB.c, .slice a10 9 c10] 39)).cell? ⟨y10.w.heap.size, 1, none⟩ = some (.int .i64 tabB.c) := by simp [go_sem]
  have hx2 : (y10.w.alloc (.cells #[.int .i64 tabB.r, .int .i64 tabB.c, .slice a10 9 c10] 39)).cell? ⟨y10.w.heap.size, 2, none⟩ = some (.slice a10 9 c10) := by simp [go_sem]
  have hxf : ∀ o, (y10.w.alloc (.cells #[.int .i64 tabB.r, .int .i64 tabB.c, .slice a10 9 c10] 39)).frozen? ⟨y10.w.heap.size, o, none⟩ = false := fun o => by simp [go_sem]
  have hlt0 : y10.w.heap.size < (y10.w.alloc (.cells #[.int .i64 tabB.r, .int .i64 tabB.c, .slice a10 9 c10] 39)).heap.size := by simp
  have hst0 : ∃ zz : Since y10.w, (y10.w.alloc (.cells #[.int .i64 tabB.r, .int .i64 tabB.c, .slice a10 9 c10] 39)) = zz.w := IsSince.alloc (IsSince.self _) _
  have hsz0 := y10.b.size
  obtain ⟨y11, e2⟩ := IsSince.alloc (IsSince.of y10) (.cells #[.int .i64 tabB.r, .int .i64 tabB.c, .slice a10 9 c10] 39)
  rw [e2] at hx0 hx1 hx2 hxf hlt0 hst0 ⊢
  (replace H6 := Lib.hid (H6.out.to hst0); replace HA := Lib.hid (HA.out.to hst0); replace H10 := Lib.hid (H10.out.to hst0); have hbx := BoxIs.new y10.w [.int .i64 tabB.r, .int .i64 tabB.c, .slice a10 9 c10] 39; rw [e2] at hbx)
  clear e2 hst0
  generalize y10.w.heap.size = gu at *
  have Hhx0 : ∀ q : Since y11.w, q.w.cell? ⟨gu, 0, none⟩ = some (.int .i64 tabB.r) := fun q => Since.cell hx0 (by omega) q
  have Hhx1 : ∀ q : Since y11.w, q.w.cell? ⟨gu, 1, none⟩ = some (.int .i64 tabB.c) := fun q => Since.cell hx1 (by omega) q
  have Hhx2 : ∀ q : Since y11.w, q.w.cell? ⟨gu, 2, none⟩ = some (.slice a10 9 c10) := fun q => Since.cell hx2 (by omega) q
  have Hhxf : ∀ (q : Since y11.w) (o : Nat), q.w.frozen? ⟨gu, o, none⟩ = false := fun q o => Since.free (hxf o) (by omega) q
  have Hhxg := Lib.hid (And.intro hsz0 hlt0)
  clear hlt0 hsz0
  have HB := Lib.hid hbx
  clear hbx hx0 hx1 hx2 hxf Hhx0 Hhx1 Hhx2 Hhxf
  go_wp2_with fail
  refine (three_s w y11).mono ?_
  rintro _ _ ⟨b12, d12, R12, y12, rfl, rfl, hz12, h12, hR12⟩
  go_wp2_with fail
  refine (each_s w y12 b12 R12 d12 h12 hR12).mono ?_
  rintro _ _ ⟨a13, c13, L, y13, rfl, rfl, hz13, h13, hL⟩
  replace H6 := Lib.hid ((H6.out.to hz12).to hz13)
  replace H10 := Lib.hid ((H10.out.to hz12).to hz13)
  replace HA := Lib.hid ((HA.out.to hz12).to hz13)
  replace HB := Lib.hid ((HB.out.to hz12).to hz13)
  have HL := Lib.hid (And.intro h13 hL)
  clear h12 hR12 h13 hL hz12 hz13
  have q0 := HA.out.c 0 _ rfl
  have q1 := HA.out.c 1 _ rfl
  have q2 := HA.out.c 2 _ rfl
  have r0 := HB.out.c 0 _ rfl
  have r1 := HB.out.c 1 _ rfl
  have r2 := HB.out.c 2 _ rfl
  go_wp2_with fail
  refine (apart_s w y13 a6 c6 a10 c10 H6.out H10.out).mono ?_
  rintro _ _ ⟨rfl, y14, rfl, hz14⟩
  replace H6 := Lib.hid (H6.out.to hz14)
  replace HL := Lib.hid (And.intro (HL.out.1.to hz14) HL.out.2)
  replace H10 := Lib.hid (H10.out.to hz14)
  replace HA := Lib.hid (HA.out.to hz14)
  replace HB := Lib.hid (HB.out.to hz14)
  clear q0 q1 q2 r0 r1 r2
  have q0 := HA.out.c 0 _ rfl
  have q1 := HA.out.c 1 _ rfl
  have q2 := HA.out.c 2 _ rfl
  have r2 := HB.out.c 2 _ rfl
  go_upto_region 10 with fail
  have hLl : L.length = 2 := by have := congrArg List.length HL.out.2; rwa [List.length_map] at this
  obtain ⟨v, hv⟩ : ∃ v, L[1]? = some v := ⟨_, List.getElem?_eq_getElem (by omega)⟩
  have hvid : v.id = 2 := by
    have h := congrArg (fun l : List Ride => l[1]?) HL.out.2
    simp only [List.getElem?_map, hv] at h
    have h2 : v.bare = rideT 1 := by simpa using h
    have h3 : v.bare.id = v.id := rfl
    rw [← h3, h2]; rfl
  obtain ⟨b6, o6, rfl, hb6, hc6⟩ := H6.out 3 (by decide)
  change y14.w.cell? ⟨b6, o6 + 3, none⟩ = some (.int .i64 2) at hc6
  obtain ⟨b10, o10, rfl, hb10, hc10⟩ := H10.out 3 (by decide)
  change y14.w.cell? ⟨b10, o10 + 3, none⟩ = some (.int .i64 1) at hc10
  obtain ⟨b13, o13, rfl, hr⟩ := Els.ride HL.out.1.c hv
  have ra0 := hr.c0
  have ra1 := hr.c1
  have ra2 := hr.c2
  have ra3 := hr.c3
  have ra4 := hr.c4
  have ra5 := hr.c5
  have ra6 := hr.c6
  have ra7 := hr.c7
  have ra8 := hr.c8
  have ra9 := hr.c9
  have ra10 := hr.c10
  have ra11 := hr.c11
  have ra12 := hr.c12
  have hk : y14.w.cell? ⟨b13, o13 + 1 * 13, none⟩ = some (.int .i64 v.id) := ra0 (Since.self _)
  rw [hvid, Nat.one_mul] at hk
  clear hr ra0 ra1 ra2 ra3 ra4 ra5 ra6 ra7 ra8 ra9 ra10 ra11 ra12 hvid hv hLl hb6 hb10
  go_wp2_with fail
  refine (tcheck_s w y14 tabA (some ⟨b6, o6, none⟩) 9 c6 0 rfl H6.out (by decide) ex_apart.2.2.1).mono ?_
  rintro _ _ ⟨rfl, y15, rfl⟩
  go_wp2_with fail
  refine (tcheck_s w y15 tab0 none 0 0 1 rfl (row_nil' _) (by decide) ex_apart.2.2.2).mono ?_
  rintro _ _ ⟨rfl, y16, rfl⟩
  go_wp2_with fail
  go_ret
  exact ⟨rfl, y16, rfl⟩
end Go.Proofs.Ytdmmjapccgeffaa
/- The laws of trips: TripsZones, walked. -/
namespace Go.Proofs.Ytdmmjapccgeffaa
open Go.RowKit

set_option maxRecDepth 100000 in
set_option maxHeartbeats 8000000 in
theorem tripsZones_calls (w : World) (x : Since w) (a : Option Addr) (zs : List Int) (c : Nat) (wh pl : Int) (h : IntRow w a zs) (hl : zs.length ≤ 9223372036854775807) (hp : pl ≤ 9223372036854775807) :
    Calls Try.prog 4 #[.slice a zs.length c, .int .i64 wh, .int .i64 pl] x.w fun o w' => o = .returned (.bool true) ∧ ∃ y : Since w, w' = y.w := by
  have H := Lib.hid h
  clear h
  have Ha := Lib.hid (fun y : Since w => awake_calls w y)
  by_cases hb : 200 < zs.length
  · go_enter Try.func4, Try.ntmps4
    go_wp2_with fail
    refine (Ha.out _).mono ?_
    rintro _ _ ⟨rfl, y1, rfl⟩
    go_wp2_with fail
    go_ret
    exact ⟨rfl, y1, rfl⟩
  · have Z1 := Lib.hid (zone_calls x.w a zs c wh pl (Since.row H.out x) hl hp)
    have Z2 := Lib.hid (rzone_calls x.w a zs c wh pl (Since.row H.out x) hl hp)
    go_enter Try.func4, Try.ntmps4
    go_wp2_with fail
    refine Z1.out.mono ?_
    rintro _ _ ⟨rfl, rfl⟩
    go_wp2_with fail
    refine Z2.out.mono ?_
    rintro _ _ ⟨rfl, rfl⟩
    go_wp2_with fail
    refine (Ha.out _).mono ?_
    rintro _ _ ⟨rfl, y1, rfl⟩
    go_wp2_with fail
    go_ret
    exact ⟨rfl, y1, rfl⟩
end Go.Proofs.Ytdmmjapccgeffaa
