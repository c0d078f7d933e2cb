/- Trips between zones, the reference: Each, Counted. -/
import Derived.Test.YtdkcclngionihaaDoorRlMh
import Derived.IntWalk
import Derived.Test.YtdkcclngionihaaDoorRows
set_option linter.all false
namespace Go.Proofs.YtdkcclngionihaaDoor
open Go.RowKit Go.ChangeMaps

/-- these rides and an error -/
def REach (w : World) (L : List Ride) (e : Int) (o : Ending) (w' : World) : Prop :=
  ∃ (a : Option Addr) (c : Nat) (y : Since w), o = .returned (.tuple #[.slice a L.length c, .int .i64 e]) ∧ w' = y.w ∧ RideRow y.w a L ∧ L.length ≤ c
set_option maxRecDepth 100000 in
set_option maxHeartbeats 16000000 in
theorem reach_calls (w : World) (x : Since w) (a : Option Addr) (R : List Ride) (c : Nat) (each : Int) (h : RideRow w a R) (hl : R.length ≤ 9223372036854775807) :
    Calls Tryd.prog 78 #[.slice a R.length c, .int .i64 each] x.w (REach w (eachV R each) (eachE R each)) := by
  have HR := Lib.hid h
  have Hck := Lib.hid (fun y : Since w => rrides_calls w y a R c h hl)
  clear h
  have Hz := Lib.hid (fun (y : Since w) (e : Int) (he : eachE R each = e) (hn : e ≠ 0) => show REach w (eachV R each) (eachE R each) (.returned (.tuple #[.slice none 0 0, .int .i64 e])) y.w from by
    subst he
    have : eachV R each = [] := if_neg hn
    rw [this]
    exact ⟨none, 0, y, rfl, rfl, ⟨els_nil _ _, fun r hr => by cases hr⟩, Nat.le_refl _⟩)
  have HP := Lib.hid (fun (he : eachE R each = 0) (a' : Option Addr) (c' n : Nat) (y : Since w) (hn : (eachL R each).length = n) (h1 : RideRow y.w a' (eachL R each)) (h2 : n ≤ c') => show REach w (eachV R each) (eachE R each) (.returned (.tuple #[.slice a' n c', .int .i64 0])) y.w from by
    subst hn
    have : eachV R each = eachL R each := if_pos he
    rw [this, he]
    exact ⟨a', c', y, rfl, rfl, h1, h2⟩)
  generalize REach w (eachV R each) (eachE R each) = PO at *
  by_cases hr : each < 0 ∨ 256 < each
  · have HB := Lib.hid (Hz.out x 1 (if_pos hr) (by decide))
    rcases (by omega : each < 0 ∨ (¬ each < 0 ∧ 256 < each)) with h | ⟨h, h2⟩
    all_goals
      clear hr Hz HP Hck
      go_enter Tryd.func78, Tryd.ntmps78
      go_wp2_with fail
      exact HB.out
  · obtain ⟨r1, r2⟩ : ¬ each < 0 ∧ ¬ 256 < each := by omega
    have hE : eachE R each = ridesE R := if_neg hr
    by_cases he : ridesE R = 0
    case neg =>
      have hne : (ridesE R != 0) = true := by simpa using he
      have HB := Lib.hid (fun y => Hz.out y (ridesE R) hE he)
      clear hE he hr Hz HP
      generalize ridesE R = E at *
      go_enter Tryd.func78, Tryd.ntmps78
      go_wp2_with (go_at_call 92; ((with_reducible refine (Hck.out _).mono ?_); rintro _ _ ⟨rfl, y1, rfl⟩))
      exact HB.out y1
    case pos =>
      obtain ⟨hr256, _, _⟩ := ridesE_zero he
      have hs0 := rides_s0 he
      have Hs0 := Lib.hid hs0
      have Hy := Lib.hid (HP.out (hE.trans he))
      rw [he] at Hck
      have Hah := Lib.hid (fun (y : Since w) (e : Ride) (hm : e ∈ R) => show Calls Tryd.prog 93 #[.slice a R.length c, .agg #[.int .i64 e.id, .int .i64 e.rd, .int .i64 e.s0, .int .i64 e.s1, .int .i64 e.e0, .int .i64 e.e1, .bool e.op, .slice e.la e.legs.length e.lc, .slice e.pa e.pauses.length e.pc, .int .i64 e.fw, .int .i64 e.fp, .int .i64 e.wh, .int .i64 e.pl]] y.w (OneI y.w (ahd R e)) from ahead_calls y.w (Since.self y.w) a R c e (HR.out.since y) hr256 hs0 (hs0 e hm))
      clear hE he hr Hz HP hs0
      go_enter Tryd.func78, Tryd.ntmps78
      go_wp2_with fail
      refine (Hck.out _).mono ?_
      rintro _ _ ⟨rfl, y1, rfl⟩
      clear Hck
      go_wp2_with fail
      go_loopw [7, 8] (fun v i wr => ∃ (k m : Nat) (y : Since w), k ≤ R.length ∧ i = .int .i64 (k : Int) ∧ wr = y.w ∧ y.w.ownsRow w.heap.size 73 13 v m (flat Ride.cs ((R.take k).filter (ctd R each))) ∧ m ≤ k) (fun _ i _ => R.length - (intOf i).toNat)
      case atStart => exact ⟨0, 0, y1, by omega, rfl, rfl, by rw [List.take_zero]; exact ⟨rfl, .inl ⟨rfl, rfl⟩⟩, by omega⟩
      case round =>
        obtain ⟨k, m, y, hk, rfl, rfl, hown, hmk⟩ := hrel
        have Hown := Lib.hid hown
        clear hown
        by_cases hlt : k < R.length
        · have hk0 : (0 : Int) ≤ (k : Int) := by omega
          have hkl : (k : Int) < (R.length : Int) := by omega
          obtain ⟨e, he⟩ : ∃ e, R[k]? = some e := ⟨_, List.getElem?_eq_getElem (by omega)⟩
          have Htk := Lib.hid (pick_take R (ctd R each) k e he)
          have hah := Hah.out y e (List.mem_of_getElem? he)
          obtain ⟨b1, off1, rfl, h1'⟩ := Els.ride HR.out.c he
          have ra0 := h1'.c0
          have ra1 := h1'.c1
          have ra2 := h1'.c2
          have ra3 := h1'.c3
          have ra4 := h1'.c4
          have ra5 := h1'.c5
          have ra6 := h1'.c6
          have ra7 := h1'.c7
          have ra8 := h1'.c8
          have ra9 := h1'.c9
          have ra10 := h1'.c10
          have ra11 := h1'.c11
          have ra12 := h1'.c12
          have Hct := Lib.hid (show ctd R each e = (!e.op && decide ((ahd R e : Int) < each)) from rfl)
          have Hsk := Lib.hid (fun (h : ctd R each e = false) (y6 : Since w) (hW : ∃ z : Since y.w, y6.w = z.w) => show y6.w.ownsRow w.heap.size 73 13 u7 m (flat Ride.cs ((R.take (k + 1)).filter (ctd R each))) by
            rw [Htk.out, h]; simp; exact own_to Hown.out hW)
          have Hf := Lib.hid (fun (h : ctd R each e = true) => show flat Ride.cs ((R.take (k + 1)).filter (ctd R each)) = flat Ride.cs ((R.take k).filter (ctd R each)) ++ e.cs by
            rw [Htk.out, h, flat_append, if_pos rfl, flat_one])
          clear h1' he Htk
          cases hop : e.op
          case true =>
            rw [hop] at ra6
            have Hs2 := Lib.hid (Hsk.out (by rw [Hct.out, hop]; rfl) y ⟨Since.self _, rfl⟩)
            clear Hsk Hf hah hop Hct
            go_wp2_with fail
            go_roundw
            case rel => exact ⟨k + 1, m, y, by omega, by go_num, rfl, Hs2.out, by omega⟩
            case measure => simp [intOf] <;> omega
          case false =>
            have Hcs := Lib.hid (show ({ e with op := false } : Ride).cs = e.cs by unfold Ride.cs; rw [hop])
            rw [hop] at ra6 hah Hct
            have Hah2 := Lib.hid hah
            generalize (ahd R e : Int) = n at *
            by_cases hn : n < each
            · have Hf2 := Lib.hid (Hf.out (by rw [Hct.out]; simp; exact hn))
              clear Hsk Hf hah Hct hop
              go_wp2_with fail
              refine Hah2.out.mono ?_
              rintro _ _ ⟨rfl, z6, rfl⟩
              have hown6 := own_to Hown.out ⟨z6, rfl⟩
              obtain ⟨y6, h6⟩ := y.trans z6
              rw [h6] at hown6 ⊢
              replace Hown := Lib.hid hown6
              clear hown6 h6
              go_wp2_with (at_builtin; (refine wpList_appendK (w0 := w) ?hw rfl _ _ 23 rfl w.heap.size (Nat.le_refl _) ?hb 73 zeroRide 136 sRide u7 m (flat Ride.cs ((R.take k).filter (ctd R each))) rfl ?hown ⟨y6.w.heap.size, 0, none⟩ 1 1 { e with op := false }.cs rfl rfl ?hc (ride_one _) ?h63 ?hbytes ?_; rotate_right 1; intro v2 q2 hown4 _ hg4))
              case hw => exact IsSince.alloc (IsSince.of y6) _
              case hb => have := y6.b.size; simp; omega
              case hown => exact own_to Hown.out (IsSince.alloc (IsSince.self _) _)
              case hc => exact cell_new_at y6.w { e with op := false }.cs _
              case h63 => unfold maxLen; omega
              case hbytes => omega
              have Hown4 := Lib.hid (show q2.w.ownsRow w.heap.size 73 13 v2 (m + 1) (flat Ride.cs ((R.take (k + 1)).filter (ctd R each))) by rw [Hf2.out, ← Hcs.out]; exact hown4)
              clear hown4 hg4
              go_wp2_with fail
              go_roundw
              case rel => exact ⟨k + 1, m + 1, q2, by omega, by go_num, rfl, Hown4.out, by omega⟩
              case measure => simp [intOf] <;> omega
            · have Hs2 := Lib.hid (Hsk.out (by rw [Hct.out]; simp; omega))
              clear Hsk Hf hah Hct hop
              go_wp2_with fail
              refine Hah2.out.mono ?_
              rintro _ _ ⟨rfl, z6, rfl⟩
              obtain ⟨y6, h6⟩ := y.trans z6
              have Hs3 := Lib.hid (Hs2.out y6 ⟨z6, h6.symm⟩)
              rw [h6]
              clear Hs2 h6
              go_wp2_with fail
              go_roundw
              case rel => exact ⟨k + 1, m, y6, by omega, by go_num, rfl, Hs3.out, by omega⟩
              case measure => simp [intOf] <;> omega
        · obtain rfl : k = R.length := by omega
          obtain ⟨hlen, a3, c3, rfl, hc3, he3, _, _⟩ := own_els Ride.len (by decide) Hown.out
          rw [List.take_length] at he3
          have H3 := Lib.hid (Hy.out a3 c3 ((R.take R.length).filter (ctd R each)).length y (by unfold eachL; rw [List.take_length]) ⟨he3, fun r hr => (HR.out.r r ((List.mem_filter.1 hr).1)).since y⟩ hc3)
          clear hc3 he3 hlen
          go_wp2_with fail
          exact H3.out
theorem eachV_len {R : List Ride} {each : Int} : (eachV R each).length ≤ 256 := by
  unfold eachV
  by_cases he : eachE R each = 0
  · rw [if_pos he]
    have := (ridesE_zero (eachE_zero he).2.2).1
    exact Nat.le_trans (List.length_filter_le _ _) this
  · rw [if_neg he]; simp
set_option maxRecDepth 100000 in
set_option maxHeartbeats 16000000 in
theorem rcounted_calls (w : World) (x : Since w) (a : Option Addr) (R : List Ride) (c : Nat) (f t each : Int) (h : RideRow w a R) (hl : R.length ≤ 9223372036854775807) :
    Calls Tryd.prog 54 #[.slice a R.length c, .agg #[.int .i64 f, .int .i64 t], .int .i64 each] x.w (REach w ((eachV R each).filter (inT f t)) (eachE R each)) := by
  have HR := Lib.hid h
  clear h
  have HP := Lib.hid (fun (a' : Option Addr) (c' n : Nat) (y : Since w) (hn : ((eachV R each).filter (inT f t)).length = n) (h1 : RideRow y.w a' ((eachV R each).filter (inT f t))) (h2 : n ≤ c') => show REach w ((eachV R each).filter (inT f t)) (eachE R each) (.returned (.tuple #[.slice a' n c', .int .i64 (eachE R each)])) y.w from by
    subst hn
    exact ⟨a', c', y, rfl, rfl, h1, h2⟩)
  generalize REach w ((eachV R each).filter (inT f t)) (eachE R each) = PO at *
  go_enter Tryd.func54, Tryd.ntmps54
  go_upto_region 1 with fail
  have hb0_0 : ∀ y : Since (x.w.alloc (.cells #[.int .i64 f, .int .i64 t] 25)), y.w.cell? ⟨x.w.heap.size, 0, none⟩ = some (.int .i64 f) := fun y => Since.cell (by simp [go_sem]) (by first | (simp; done) | (simp; omega)) y
  have hb0_1 : ∀ y : Since (x.w.alloc (.cells #[.int .i64 f, .int .i64 t] 25)), y.w.cell? ⟨x.w.heap.size, 1, none⟩ = some (.int .i64 t) := fun y => Since.cell (by simp [go_sem]) (by first | (simp; done) | (simp; omega)) y
  have hf0 : ∀ (y : Since (x.w.alloc (.cells #[.int .i64 f, .int .i64 t] 25))) (o : Nat), y.w.frozen? ⟨x.w.heap.size, o, none⟩ = false := fun y o => Since.free (by simp [go_sem]) (by first | (simp; done) | (simp; omega)) y
  have hWup : ∃ z : Since w, (x.w.alloc (.cells #[.int .i64 f, .int .i64 t] 25)) = z.w := x.alloc _
  obtain ⟨y0, hy0⟩ := Since.refl (x.w.alloc (.cells #[.int .i64 f, .int .i64 t] 25))
  have Hbx := Lib.hid (And.intro x.b.size (show x.w.heap.size + 1 = (x.w.alloc (.cells #[.int .i64 f, .int .i64 t] 25)).heap.size from by simp))
  generalize hW : (x.w.alloc (.cells #[.int .i64 f, .int .i64 t] 25)) = W at *
  clear hW
  generalize x.w.heap.size = bx at *
  have Hup := Lib.hid (Since.up hWup)
  rw [hy0]
  clear hy0
  replace HR := Lib.hid (HR.out.to hWup)
  clear hWup hf0
  have Hea := Lib.hid (fun y : Since W => reach_calls W y a R c each HR.out hl)
  have hlen := eachV_len (R := R) (each := each)
  generalize eachV R each = L at *
  generalize eachE R each = E at *
  go_wp2_with fail
  refine (Hea.out _).mono ?_
  rintro _ _ ⟨a1, c1, y1, rfl, rfl, hL, hc1⟩
  have HL := Lib.hid hL
  have HU := Lib.hid (fun q : Since y1.w => y1.trans q)
  have kb0 : ∀ q : Since y1.w, q.w.cell? ⟨bx, 0, none⟩ = some (.int .i64 f) := fun q => by obtain ⟨z, hz⟩ := HU.out q; rw [hz]; exact hb0_0 z
  have kb1 : ∀ q : Since y1.w, q.w.cell? ⟨bx, 1, none⟩ = some (.int .i64 t) := fun q => by obtain ⟨z, hz⟩ := HU.out q; rw [hz]; exact hb0_1 z
  clear hL Hea hb0_0 hb0_1
  go_wp2_with fail
  go_loopw [10, 11] (fun v i wr => ∃ (k m : Nat) (y : Since y1.w), k ≤ L.length ∧ i = .int .i64 (k : Int) ∧ wr = y.w ∧ y.w.ownsRow y1.w.heap.size 73 13 v m (flat Ride.cs ((L.take k).filter (inT f t))) ∧ m ≤ k) (fun _ i _ => L.length - (intOf i).toNat)
  case atStart => exact ⟨0, 0, Since.self _, by omega, rfl, rfl, by rw [List.take_zero]; exact ⟨rfl, .inl ⟨rfl, rfl⟩⟩, by omega⟩
  case round =>
    obtain ⟨k, m, y, hk, rfl, rfl, hown, hmk⟩ := hrel
    have Hown := Lib.hid hown
    clear hown
    by_cases hlt : k < L.length
    · have hk0 : (0 : Int) ≤ (k : Int) := by omega
      have hkl : (k : Int) < (L.length : Int) := by omega
      obtain ⟨e, he⟩ : ∃ e, L[k]? = some e := ⟨_, List.getElem?_eq_getElem (by omega)⟩
      have Htk := Lib.hid (pick_take L (inT f t) k e he)
      obtain ⟨b1, off1, rfl, h1'⟩ := Els.ride HL.out.c he
      have ra0 := h1'.c0
      have ra1 := h1'.c1
      have ra2 := h1'.c2
      have ra3 := h1'.c3
      have ra4 := h1'.c4
      have ra5 := h1'.c5
      have ra6 := h1'.c6
      have ra7 := h1'.c7
      have ra8 := h1'.c8
      have ra9 := h1'.c9
      have ra10 := h1'.c10
      have ra11 := h1'.c11
      have ra12 := h1'.c12
      have Hno := Lib.hid (fun (h : inT f t e = false) => show y.w.ownsRow y1.w.heap.size 73 13 u10 m (flat Ride.cs ((L.take (k + 1)).filter (inT f t))) by
        rw [Htk.out, h]; simpa using Hown.out)
      have Hye := Lib.hid (fun (h : inT f t e = true) => show flat Ride.cs ((L.take (k + 1)).filter (inT f t)) = flat Ride.cs ((L.take k).filter (inT f t)) ++ e.cs by
        rw [Htk.out, h, flat_append, if_pos rfl, flat_one])
      clear h1' he Htk
      have hI : inT f t e = (decide (f ≤ e.s0) && decide (e.s0 < t) && (decide (e.wh = 1) || decide (e.wh = 2))) := rfl
      have hc : (¬ f ≤ e.s0) ∨ (f ≤ e.s0 ∧ ¬ e.s0 < t) ∨ (f ≤ e.s0 ∧ e.s0 < t ∧ (e.wh == 1) = false ∧ (e.wh == 2) = false) ∨ (f ≤ e.s0 ∧ e.s0 < t ∧ (e.wh == 1) = true) ∨ (f ≤ e.s0 ∧ e.s0 < t ∧ (e.wh == 1) = false ∧ (e.wh == 2) = true) := by
        by_cases h1 : f ≤ e.s0
        · by_cases h2 : e.s0 < t
          · cases h3 : (e.wh == 1)
            · cases h4 : (e.wh == 2)
              · exact Or.inr (Or.inr (Or.inl ⟨h1, h2, rfl, rfl⟩))
              · exact Or.inr (Or.inr (Or.inr (Or.inr ⟨h1, h2, rfl, rfl⟩)))
            · exact Or.inr (Or.inr (Or.inr (Or.inl ⟨h1, h2, rfl⟩)))
          · exact Or.inr (Or.inl ⟨h1, h2⟩)
        · exact Or.inl h1
      have HI := Lib.hid hI
      clear hI
      rcases hc with h1 | ⟨h1, h2⟩ | ⟨h1, h2, h3, h4⟩ | ⟨h1, h2, h3⟩ | ⟨h1, h2, h3, h4⟩
      · have Hs2 := Lib.hid (Hno.out (by rw [HI.out, decide_eq_false h1]; rfl))
        clear Hno Hye
        go_wp2_with fail
        go_roundw
        case rel => exact ⟨k + 1, m, y, by omega, by go_num, rfl, Hs2.out, by omega⟩
        case measure => simp [intOf] <;> omega
      · have Hs2 := Lib.hid (Hno.out (by rw [HI.out, decide_eq_false h2]; simp))
        clear Hno Hye
        go_wp2_with fail
        go_roundw
        case rel => exact ⟨k + 1, m, y, by omega, by go_num, rfl, Hs2.out, by omega⟩
        case measure => simp [intOf] <;> omega
      · have Hs2 := Lib.hid (Hno.out (by rw [HI.out]; simp at h3 h4; simp [h3, h4]))
        clear Hno Hye
        go_wp2_with fail
        go_roundw
        case rel => exact ⟨k + 1, m, y, by omega, by go_num, rfl, Hs2.out, by omega⟩
        case measure => simp [intOf] <;> omega
      all_goals
        have hor : e.wh = 1 ∨ e.wh = 2 := by
          simp at h3
          first
            | exact Or.inl h3
            | (simp at h4; exact Or.inr h4)
        have Hf2 := Lib.hid (Hye.out (by rw [HI.out, decide_eq_true h1, decide_eq_true h2]; simpa using hor))
        clear hor
        clear Hno Hye
        go_wp2_with (at_builtin; (refine wpList_appendK (w0 := y1.w) ?hw rfl _ _ 23 rfl y1.w.heap.size (Nat.le_refl _) ?hb 73 zeroRide 136 sRide u10 m (flat Ride.cs ((L.take k).filter (inT f t))) rfl ?hown ⟨y.w.heap.size, 0, none⟩ 1 1 e.cs rfl rfl ?hc (ride_one _) ?h63 ?hbytes ?_; rotate_right 1; intro v2 q2 hown4 _ hg4))
        case hw => exact IsSince.alloc (IsSince.of y) _
        case hb => have := y.b.size; simp; omega
        case hown => exact own_to Hown.out (IsSince.alloc (IsSince.self _) _)
        case hc => exact cell_new_at y.w e.cs _
        case h63 => unfold maxLen; omega
        case hbytes => omega
        have Hown4 := Lib.hid (show q2.w.ownsRow y1.w.heap.size 73 13 v2 (m + 1) (flat Ride.cs ((L.take (k + 1)).filter (inT f t))) by rw [Hf2.out]; exact hown4)
        clear hown4 hg4
        go_wp2_with fail
        go_roundw
        case rel => exact ⟨k + 1, m + 1, q2, by omega, by go_num, rfl, Hown4.out, by omega⟩
        case measure => simp [intOf] <;> omega
    · obtain rfl : k = L.length := by omega
      obtain ⟨hlen2, a3, c3, rfl, hc3, he3, _, _⟩ := own_els Ride.len (by decide) Hown.out
      rw [List.take_length] at he3
      obtain ⟨z, hz⟩ := HU.out y
      have hz2 := hz
      obtain ⟨z9, hz9⟩ := Hup.out z
      have H3 := Lib.hid (HP.out a3 c3 ((L.take L.length).filter (inT f t)).length z9 (by rw [List.take_length]) (by rw [← hz9, ← hz]; exact ⟨he3, fun r hr => (HL.out.r r ((List.mem_filter.1 hr).1)).since y⟩) hc3)
      have Hz := Lib.hid (hz.trans hz9)
      clear hc3 he3 hlen2 hz hz2 hz9
      go_wp2_with fail
      rw [Hz.out]
      exact H3.out
end Go.Proofs.YtdkcclngionihaaDoor
/- Trips between zones, the program: Table. -/
namespace Go.Proofs.YtdkcclngionihaaDoor
open Go.RowKit Go.ChangeMaps

/-- a table of the call's own and an error -/
def TabRes (w : World) (T : Tab) (e : Int) (o : Ending) (w' : World) : Prop :=
  ∃ (a : Option Addr) (c : Nat) (y : Since w), o = .returned (.tuple #[.agg #[.int .i64 T.r, .int .i64 T.c, .slice a T.l.length c], .int .i64 e]) ∧ w' = y.w ∧ IntRow y.w a T.l ∧ T.l.length ≤ c ∧ (∀ b, a = some b → w.heap.size ≤ b.block) ∧ (∀ b, a = some b → ∃ g, b = ⟨g, 0, none⟩ ∧ Nums y.w g T.l.length (at0 T.l))
theorem row_nil' (w : World) : IntRow w none [] := fun i hi => by simp at hi
/-- what the rounds keep -/
structure TbAt (w : World) (g gc gt n N : Nat) (size : Int) (b : Nat → Bool) (f : Nat → Int) : Prop where
  bl : Bls w g n b
  cl : Nums w gc N f
  bx : BoxIs w gt [.int .i64 size, .int .i64 size, .slice (some ⟨gc, 0, none⟩) N N]
theorem TbAt.to {w W : World} {g gc gt n N : Nat} {size : Int} {b : Nat → Bool} {f : Nat → Int} (h : TbAt w g gc gt n N size b f) (hW : ∃ z : Since w, W = z.w) : TbAt W g gc gt n N size b f := ⟨h.bl.to hW, h.cl.to hW, h.bx.to hW⟩
theorem BoxIs.setNe {w : World} {g : Nat} {vs : List Value} (h : BoxIs w g vs) (p : Addr) (u : Value) (hne : g ≠ p.block) : BoxIs (w.setCell p u) g vs := by
  refine ⟨by simpa [World.setCell] using h.lt, fun j v hv => ?_, fun o => by rw [World.frozen?_setCell]; exact h.f o⟩
  rw [World.cell?_of_block (w := w) (a := ⟨g, j, none⟩) (Below.heap_setCell w p u g hne)]
  exact h.c j v hv
theorem Bls.setNe {w : World} {g n : Nat} {f : Nat → Bool} (h : Bls w g n f) (p : Addr) (u : Value) (hne : p.block ≠ g) : Bls (w.setCell p u) g n f := h.setOther p hne u
theorem sm_f {b : Bool} (h : false = !b) : b = true := by
  cases b
  · cases h
  · rfl
theorem sm_t {b : Bool} (h : true = !b) : ¬ b = true := by
  cases b
  · simp
  · cases h
theorem nums_vals {w : World} {g N : Nat} {f : Nat → Int} (h : Nums w g N f) (m : Nat) (hm : m = N) : Nums w g ((List.range m).map f).length (at0 ((List.range m).map f)) := by
  subst hm
  rw [List.length_map, List.length_range]
  refine h.congr fun j hj => ?_
  simp [at0, List.getD_eq_getElem?_getD, hj]
theorem nums_row {w : World} {g N : Nat} {f : Nat → Int} (h : Nums w g N f) (m : Nat) (hm : m = N) : IntRow w (some ⟨g, 0, none⟩) ((List.range m).map f) := by
  subst hm
  intro i hi
  have hi' : i < m := by simpa using hi
  refine ⟨g, 0, rfl, h.lt, ?_⟩
  rw [Nat.zero_add, h.c i hi']
  simp [at0, List.getD_eq_getElem?_getD, hi']
theorem cP_no {R : List Ride} {each f t : Int} {e : Ride} (h : cP R each f t e = false) : ctd R each e = false ∨ (ctd R each e = true ∧ e.s0 < f) ∨ (ctd R each e = true ∧ ¬ e.s0 < f ∧ t ≤ e.s0) ∨ (ctd R each e = true ∧ ¬ e.s0 < f ∧ ¬ t ≤ e.s0 ∧ (e.wh != 1) = true ∧ (e.wh != 2) = true) := by
  unfold cP inT at h
  cases hc : ctd R each e
  · exact Or.inl rfl
  · rw [hc] at h
    simp at h
    by_cases h1 : e.s0 < f
    · exact Or.inr (Or.inl ⟨rfl, h1⟩)
    · by_cases h2 : t ≤ e.s0
      · exact Or.inr (Or.inr (Or.inl ⟨rfl, h1, h2⟩))
      · have := h (by omega) (by omega)
        exact Or.inr (Or.inr (Or.inr ⟨rfl, h1, h2, by simpa using this.1, by simpa using this.2⟩))
theorem cP_yes {R : List Ride} {each f t : Int} {e : Ride} (h : cP R each f t e = true) : ctd R each e = true ∧ ¬ e.s0 < f ∧ ¬ t ≤ e.s0 ∧ (e.wh = 1 ∨ (¬ e.wh = 1 ∧ e.wh = 2)) := by
  unfold cP inT at h
  simp at h
  obtain ⟨h1, ⟨h2, h3⟩, h4⟩ := h
  exact ⟨h1, by omega, by omega, by omega⟩
set_option maxRecDepth 100000 in
set_option maxHeartbeats 16000000 in
theorem table_calls (w : World) (x : Since w) (az : Option Addr) (zs : List Int) (cz : Nat) (size : Int) (a : Option Addr) (R : List Ride) (c : Nat) (f t each : Int) (hz : IntRow w az zs) (hzl : zs.length ≤ 9223372036854775807) (h : RideRow w a R) (hl : R.length ≤ 9223372036854775807) (hI : ∀ r ∈ R, r.fp ≤ 9223372036854775807 ∧ r.pl ≤ 9223372036854775807) :
    Calls Tryd.prog 21 #[.slice az zs.length cz, .int .i64 size, .slice a R.length c, .agg #[.int .i64 f, .int .i64 t], .int .i64 each] x.w (TabRes w (tabV zs size R f t each) (tabE zs size R f t each)) := by
  have HZ := Lib.hid hz
  have HR := Lib.hid h
  have HI := Lib.hid hI
  have Hno := Lib.hid (fun (e : Int) (he : tabE zs size R f t each = e) (hne : e ≠ 0) (y : Since w) => show TabRes w (tabV zs size R f t each) (tabE zs size R f t each) (.returned (.tuple #[.agg #[.int .i64 0, .int .i64 0, .slice none 0 0], .int .i64 e])) y.w from by
    subst he
    have : tabV zs size R f t each = tab0 := if_neg hne
    rw [this]
    exact ⟨none, 0, y, rfl, rfl, row_nil' _, Nat.le_refl _, fun b hb => (by cases hb), fun b hb => by cases hb⟩)
  have Hyes := Lib.hid (fun (he : tabE zs size R f t each = 0) (l : List Int) (hl : l = cells zs size (cntL R each f t)) (a' : Option Addr) (n c' : Nat) (hn : l.length = n) (y : Since w) (hv : ∀ b, a' = some b → ∃ g, b = ⟨g, 0, none⟩ ∧ Nums y.w g l.length (at0 l)) (hr : IntRow y.w a' l) (hc : n ≤ c') (ha : ∀ b, a' = some b → w.heap.size ≤ b.block) => show TabRes w (tabV zs size R f t each) (tabE zs size R f t each) (.returned (.tuple #[.agg #[.int .i64 size, .int .i64 size, .slice a' n c'], .int .i64 0])) y.w from by
    have : tabV zs size R f t each = ⟨size, size, cells zs size (cntL R each f t)⟩ := if_pos he
    rw [this, he]
    subst hl
    subst hn
    exact ⟨a', c', y, rfl, rfl, hr, hc, ha, hv⟩)
  generalize TabRes w (tabV zs size R f t each) (tabE zs size R f t each) = PO at *
  clear hz h hI
  by_cases hv : size < 1 ∨ 8 < size ∨ f < 0 ∨ t < f ∨ 4294944000 < t
  case pos =>
    have HB := Lib.hid (Hno.out 1 (if_pos hv) (by decide))
    rcases (by omega : size < 1 ∨ (¬ size < 1 ∧ 8 < size) ∨ (¬ size < 1 ∧ ¬ 8 < size ∧ f < 0) ∨ (¬ size < 1 ∧ ¬ 8 < size ∧ ¬ f < 0 ∧ t < f) ∨ (¬ size < 1 ∧ ¬ 8 < size ∧ ¬ f < 0 ∧ ¬ t < f ∧ 4294944000 < t)) with h1 | ⟨h1, h2⟩ | ⟨h1, h2, h3⟩ | ⟨h1, h2, h3, h4⟩ | ⟨h1, h2, h3, h4, h5⟩
    all_goals
      clear hv Hno Hyes
      go_enter Tryd.func21, Tryd.ntmps21
      go_upto_region 1 with fail
      have hb0_0 : ∀ y : Since ((x.w.alloc (.cells #[.int .i64 f, .int .i64 t] 25)).alloc (.cells #[.int .i64 0, .int .i64 0, .slice none 0 0] 31)), y.w.cell? ⟨x.w.heap.size, 0, none⟩ = some (.int .i64 f) := fun y => Since.cell (by simp [go_sem]) (by first | (simp; done) | (simp; omega)) y
      have hb0_1 : ∀ y : Since ((x.w.alloc (.cells #[.int .i64 f, .int .i64 t] 25)).alloc (.cells #[.int .i64 0, .int .i64 0, .slice none 0 0] 31)), y.w.cell? ⟨x.w.heap.size, 1, none⟩ = some (.int .i64 t) := fun y => Since.cell (by simp [go_sem]) (by first | (simp; done) | (simp; omega)) y
      have hf0 : ∀ (y : Since ((x.w.alloc (.cells #[.int .i64 f, .int .i64 t] 25)).alloc (.cells #[.int .i64 0, .int .i64 0, .slice none 0 0] 31))) (o : Nat), y.w.frozen? ⟨x.w.heap.size, o, none⟩ = false := fun y o => Since.free (by simp [go_sem]) (by first | (simp; done) | (simp; omega)) y
      have hb1_0 : ∀ y : Since ((x.w.alloc (.cells #[.int .i64 f, .int .i64 t] 25)).alloc (.cells #[.int .i64 0, .int .i64 0, .slice none 0 0] 31)), y.w.cell? ⟨x.w.heap.size + 1, 0, none⟩ = some (.int .i64 0) := fun y => Since.cell (by simp [go_sem]) (by first | (simp; done) | (simp; omega)) y
      have hb1_1 : ∀ y : Since ((x.w.alloc (.cells #[.int .i64 f, .int .i64 t] 25)).alloc (.cells #[.int .i64 0, .int .i64 0, .slice none 0 0] 31)), y.w.cell? ⟨x.w.heap.size + 1, 1, none⟩ = some (.int .i64 0) := fun y => Since.cell (by simp [go_sem]) (by first | (simp; done) | (simp; omega)) y
      have hb1_2 : ∀ y : Since ((x.w.alloc (.cells #[.int .i64 f, .int .i64 t] 25)).alloc (.cells #[.int .i64 0, .int .i64 0, .slice none 0 0] 31)), y.w.cell? ⟨x.w.heap.size + 1, 2, none⟩ = some (.slice none 0 0) := fun y => Since.cell (by simp [go_sem]) (by first | (simp; done) | (simp; omega)) y
      have hf1 : ∀ (y : Since ((x.w.alloc (.cells #[.int .i64 f, .int .i64 t] 25)).alloc (.cells #[.int .i64 0, .int .i64 0, .slice none 0 0] 31))) (o : Nat), y.w.frozen? ⟨x.w.heap.size + 1, o, none⟩ = false := fun y o => Since.free (by simp [go_sem]) (by first | (simp; done) | (simp; omega)) y
      have hWup : ∃ z : Since w, ((x.w.alloc (.cells #[.int .i64 f, .int .i64 t] 25)).alloc (.cells #[.int .i64 0, .int .i64 0, .slice none 0 0] 31)) = z.w := Since.allocs x [.cells #[.int .i64 f, .int .i64 t] 25, .cells #[.int .i64 0, .int .i64 0, .slice none 0 0] 31]
      obtain ⟨y0, hy0⟩ := Since.refl ((x.w.alloc (.cells #[.int .i64 f, .int .i64 t] 25)).alloc (.cells #[.int .i64 0, .int .i64 0, .slice none 0 0] 31))
      have Hbx := Lib.hid (And.intro x.b.size (show x.w.heap.size + 2 = ((x.w.alloc (.cells #[.int .i64 f, .int .i64 t] 25)).alloc (.cells #[.int .i64 0, .int .i64 0, .slice none 0 0] 31)).heap.size from by simp))
      generalize hW : ((x.w.alloc (.cells #[.int .i64 f, .int .i64 t] 25)).alloc (.cells #[.int .i64 0, .int .i64 0, .slice none 0 0] 31)) = W at *
      clear hW
      generalize x.w.heap.size = bx at *
      have Hup := Lib.hid (Since.up hWup)
      rw [hy0]
      clear hy0
      clear hWup
      go_wp2_with fail
      have hsm : ∀ j, j < 3 → (y0.w.cell? ⟨bx + 1, j, none⟩).isSome = true := fun j hj => by
        match j, hj with
        | 0, _ => rw [hb1_0 y0]; rfl
        | 1, _ => rw [hb1_1 y0]; rfl
        | 2, _ => rw [hb1_2 y0]; rfl
      obtain ⟨z, hz, hc⟩ := set_many y0 (g := bx + 1) [.int .i64 0, .int .i64 0, .slice none 0 0] hsm (Hup.out y0) (by have := Hbx.out; omega)
      simp only [World.setCells, Nat.reduceAdd] at hz
      rw [hz]
      have hc0 := hc 0 _ rfl
      have hc1 := hc 1 _ rfl
      have hc2 := hc 2 _ rfl
      exact bodyPost_ret (v := .tuple #[.agg #[.int .i64 0, .int .i64 0, .slice none 0 0], .int .i64 1]) (by simp [results, Tryd.results21, go_sem, hc0, hc1, hc2]) rfl (HB.out z)
  case neg =>
  obtain ⟨v1, v2, v3, v4, v5⟩ : ¬ size < 1 ∧ ¬ 8 < size ∧ ¬ f < 0 ∧ ¬ t < f ∧ ¬ 4294944000 < t := ⟨by omega, by omega, by omega, by omega, by omega⟩
  go_enter Tryd.func21, Tryd.ntmps21
  go_upto_region 1 with fail
  have hb0_0 : ∀ y : Since ((x.w.alloc (.cells #[.int .i64 f, .int .i64 t] 25)).alloc (.cells #[.int .i64 0, .int .i64 0, .slice none 0 0] 31)), y.w.cell? ⟨x.w.heap.size, 0, none⟩ = some (.int .i64 f) := fun y => Since.cell (by simp [go_sem]) (by first | (simp; done) | (simp; omega)) y
  have hb0_1 : ∀ y : Since ((x.w.alloc (.cells #[.int .i64 f, .int .i64 t] 25)).alloc (.cells #[.int .i64 0, .int .i64 0, .slice none 0 0] 31)), y.w.cell? ⟨x.w.heap.size, 1, none⟩ = some (.int .i64 t) := fun y => Since.cell (by simp [go_sem]) (by first | (simp; done) | (simp; omega)) y
  have hf0 : ∀ (y : Since ((x.w.alloc (.cells #[.int .i64 f, .int .i64 t] 25)).alloc (.cells #[.int .i64 0, .int .i64 0, .slice none 0 0] 31))) (o : Nat), y.w.frozen? ⟨x.w.heap.size, o, none⟩ = false := fun y o => Since.free (by simp [go_sem]) (by first | (simp; done) | (simp; omega)) y
  have hb1_0 : ∀ y : Since ((x.w.alloc (.cells #[.int .i64 f, .int .i64 t] 25)).alloc (.cells #[.int .i64 0, .int .i64 0, .slice none 0 0] 31)), y.w.cell? ⟨x.w.heap.size + 1, 0, none⟩ = some (.int .i64 0) := fun y => Since.cell (by simp [go_sem]) (by first | (simp; done) | (simp; omega)) y
  have hb1_1 : ∀ y : Since ((x.w.alloc (.cells #[.int .i64 f, .int .i64 t] 25)).alloc (.cells #[.int .i64 0, .int .i64 0, .slice none 0 0] 31)), y.w.cell? ⟨x.w.heap.size + 1, 1, none⟩ = some (.int .i64 0) := fun y => Since.cell (by simp [go_sem]) (by first | (simp; done) | (simp; omega)) y
  have hb1_2 : ∀ y : Since ((x.w.alloc (.cells #[.int .i64 f, .int .i64 t] 25)).alloc (.cells #[.int .i64 0, .int .i64 0, .slice none 0 0] 31)), y.w.cell? ⟨x.w.heap.size + 1, 2, none⟩ = some (.slice none 0 0) := fun y => Since.cell (by simp [go_sem]) (by first | (simp; done) | (simp; omega)) y
  have hf1 : ∀ (y : Since ((x.w.alloc (.cells #[.int .i64 f, .int .i64 t] 25)).alloc (.cells #[.int .i64 0, .int .i64 0, .slice none 0 0] 31))) (o : Nat), y.w.frozen? ⟨x.w.heap.size + 1, o, none⟩ = false := fun y o => Since.free (by simp [go_sem]) (by first | (simp; done) | (simp; omega)) y
  have hWup : ∃ z : Since w, ((x.w.alloc (.cells #[.int .i64 f, .int .i64 t] 25)).alloc (.cells #[.int .i64 0, .int .i64 0, .slice none 0 0] 31)) = z.w := Since.allocs x [.cells #[.int .i64 f, .int .i64 t] 25, .cells #[.int .i64 0, .int .i64 0, .slice none 0 0] 31]
  obtain ⟨y0, hy0⟩ := Since.refl ((x.w.alloc (.cells #[.int .i64 f, .int .i64 t] 25)).alloc (.cells #[.int .i64 0, .int .i64 0, .slice none 0 0] 31))
  have Hbx := Lib.hid (And.intro x.b.size (show x.w.heap.size + 2 = ((x.w.alloc (.cells #[.int .i64 f, .int .i64 t] 25)).alloc (.cells #[.int .i64 0, .int .i64 0, .slice none 0 0] 31)).heap.size from by simp))
  generalize hW : ((x.w.alloc (.cells #[.int .i64 f, .int .i64 t] 25)).alloc (.cells #[.int .i64 0, .int .i64 0, .slice none 0 0] 31)) = W at *
  clear hW
  generalize x.w.heap.size = bx at *
  have Hup := Lib.hid (Since.up hWup)
  rw [hy0]
  clear hy0
  replace HZ := Lib.hid (HZ.out.to hWup)
  replace HR := Lib.hid (HR.out.to hWup)
  clear hWup
  have Hck := Lib.hid (fun y : Since W => checked_calls W y a R c each HR.out hl)
  by_cases he : eachE R each = 0
  case neg =>
    have hne : (eachE R each != 0) = true := by simpa using he
    have HB := Lib.hid (Hno.out (eachE R each) (by unfold tabE; rw [if_neg hv, if_pos he]) he)
    clear he hv Hno Hyes
    generalize eachE R each = E at *
    go_wp2_with (go_at_call 43; ((with_reducible refine (Hck.out _).mono ?_); rintro _ _ ⟨rfl, y1, rfl⟩))
    have hsm : ∀ j, j < 3 → (y1.w.cell? ⟨bx + 1, j, none⟩).isSome = true := fun j hj => by
      match j, hj with
      | 0, _ => rw [hb1_0 y1]; rfl
      | 1, _ => rw [hb1_1 y1]; rfl
      | 2, _ => rw [hb1_2 y1]; rfl
    obtain ⟨z, hz, hc⟩ := set_many y1 (g := bx + 1) [.int .i64 0, .int .i64 0, .slice none 0 0] hsm (Hup.out y1) (by have := Hbx.out; omega)
    simp only [World.setCells, Nat.reduceAdd] at hz
    rw [hz]
    have hc0 := hc 0 _ rfl
    have hc1 := hc 1 _ rfl
    have hc2 := hc 2 _ rfl
    exact bodyPost_ret (v := .tuple #[.agg #[.int .i64 0, .int .i64 0, .slice none 0 0], .int .i64 E]) (by simp [results, Tryd.results21, go_sem, hc0, hc1, hc2]) rfl (HB.out z)
  case pos =>
  obtain ⟨e0, e1, hrz⟩ := eachE_zero he
  obtain ⟨hr256, hid, hre⟩ := ridesE_zero hrz
  have Hct := Lib.hid (fun y : Since W => show Calls Tryd.prog 44 #[.slice a R.length c, .int .i64 each] y.w (CtPost y.w R each) from counted_calls y.w (Since.self y.w) a R c each (HR.out.since y) hr256 e0 e1 hid (rides_s0 hrz))
  have Hs0 := Lib.hid (rides_s0 hrz)
  have HE := Lib.hid (show tabE zs size R f t each = if endsE zs (cntL R each f t) ≠ 0 then endsE zs (cntL R each f t) else if (cntL R each f t).any (bigR zs size) = true then 7 else 0 by unfold tabE; rw [if_neg hv, if_neg (by rw [he]; simp)])
  rw [he] at Hck
  clear he hrz hid hre hv
  obtain ⟨N, hN⟩ : ∃ N : Nat, size * size = (N : Int) := ⟨(size * size).toNat, by have := tab_mul (a := size) (b := size) (by omega); omega⟩
  have HN := Lib.hid hN
  have hNb : 1 ≤ size * size ∧ size * size ≤ 64 := tab_mul (by omega)
  obtain ⟨n1, n2⟩ := hNb
  have hN64 : N ≤ 64 := by omega
  clear hN
  go_wp2_with fail
  refine (Hck.out _).mono ?_
  rintro _ _ ⟨rfl, y1, rfl⟩
  obtain ⟨i0, hi0, hz0, hsz0, hby0⟩ := info_parts (P := Tryd.prog) (e := 3) (z := .int .i64 0) (size := 1) (bytes := 8) (by kernel_rfl)
  go_wp2_with (at_make; refine wpList_make_full _ rfl _ _ 22 rfl W.heap.size 3 i0 (.int .i64 0) 1 Tryd.underlying22 hi0 hz0 hsz0 .i64 .i64 (size * size) (size * size) N rfl rfl HN.out HN.out (by rw [hby0]; omega) (by unfold maxLen; omega) y1.b.size ?_; intro w1 hown hg1; refine Hid.out ?_)
  have hrow := own_nums hown (fun j hj => by simp [madeCells, List.getD_eq_getElem?_getD, hj]; show (#[Value.int .i64 0] : Array Value)[j % 1]! = _; rw [Nat.mod_one]; rfl)
  obtain ⟨y2, hy2⟩ := y1.grown hg1 (fun k hk => by cases hk)
  have Hgc := Lib.hid y1.b.size
  subst hy2
  clear hown hg1 hi0 hz0 hsz0 hby0
  generalize y1.w.heap.size = gc at *
  have Hrow := Lib.hid hrow
  clear hrow Hck
  refine Lib.hid ?_
  go_upto_region 8 with fail
  have hx0 : (y2.w.alloc (.cells #[.int .i64 size, .int .i64 size, .slice (some ⟨gc, 0, none⟩) N N] 31)).cell? ⟨y2.w.heap.size, 0, none⟩ = some (.int .i64 size) := by simp [go_sem]
  have hx1 : (y2.w.alloc (.cells #[.int .i64 size, .int .i64 size, .slice (some ⟨gc, 0, none⟩) N N] 31)).cell? ⟨y2.w.heap.size, 1, none⟩ = some (.int .i64 size) := by simp [go_sem]
  have hx2 : (y2.w.alloc (.cells #[.int .i64 size, .int .i64 size, .slice (some ⟨gc, 0, none⟩) N N] 31)).cell? ⟨y2.w.heap.size, 2, none⟩ = some (.slice (some ⟨gc, 0, none⟩) N N) := by simp [go_sem]
  have hxf : ∀ o, (y2.w.alloc (.cells #[.int .i64 size, .int .i64 size, .slice (some ⟨gc, 0, none⟩) N N] 31)).frozen? ⟨y2.w.heap.size, o, none⟩ = false := fun o => by simp [go_sem]
  have hlt0 : y2.w.heap.size < (y2.w.alloc (.cells #[.int .i64 size, .int .i64 size, .slice (some ⟨gc, 0, none⟩) N N] 31)).heap.size := by simp
  have hst0 : ∃ zz : Since y2.w, (y2.w.alloc (.cells #[.int .i64 size, .int .i64 size, .slice (some ⟨gc, 0, none⟩) N N] 31)) = zz.w := IsSince.alloc (IsSince.self _) _
  have hsz0 := y2.b.size
  obtain ⟨y3, e2⟩ := IsSince.alloc (IsSince.of y2) (.cells #[.int .i64 size, .int .i64 size, .slice (some ⟨gc, 0, none⟩) N N] 31)
  rw [e2] at hx0 hx1 hx2 hxf hlt0 hst0 ⊢
  (have hlt3 := Hrow.out.lt; replace Hrow := Lib.hid (Hrow.out.to hst0); have hbx := BoxIs.new y2.w [.int .i64 size, .int .i64 size, .slice (some ⟨gc, 0, none⟩) N N] 31; rw [e2] at hbx)
  clear e2 hst0
  generalize y2.w.heap.size = gt at *
  have Hhx0 : ∀ q : Since y3.w, q.w.cell? ⟨gt, 0, none⟩ = some (.int .i64 size) := fun q => Since.cell hx0 (by omega) q
  have Hhx1 : ∀ q : Since y3.w, q.w.cell? ⟨gt, 1, none⟩ = some (.int .i64 size) := fun q => Since.cell hx1 (by omega) q
  have Hhx2 : ∀ q : Since y3.w, q.w.cell? ⟨gt, 2, none⟩ = some (.slice (some ⟨gc, 0, none⟩) N N) := fun q => Since.cell hx2 (by omega) q
  have Hhxf : ∀ (q : Since y3.w) (o : Nat), q.w.frozen? ⟨gt, o, none⟩ = false := fun q o => Since.free (hxf o) (by omega) q
  have Hhxg := Lib.hid (And.intro hsz0 hlt0)
  clear hlt0 hsz0
  have Hbt := Lib.hid hbx
  have Hlt3 := Lib.hid hlt3
  clear hbx hlt3 hx0 hx1 hx2 hxf Hhx0 Hhx1 Hhx2 Hhxf
  go_wp2_with fail
  refine (Hct.out y3).mono ?_
  rintro _ _ ⟨g, z4, rfl, rfl, hg, hbl⟩
  obtain ⟨y4, h4⟩ := y3.trans z4
  have hT0 : TbAt z4.w g gc gt R.length N size (fun i => ctd R each (rAt R i)) (fun i => celN zs size ((R.take 0).filter (cP R each f t)) i) := ⟨hbl, (Nums.congr (Hrow.out.since z4) (fun j hj => by simp [celN])), Hbt.out.to ⟨z4, rfl⟩⟩
  have Hgn := Lib.hid (show gc ≠ g ∧ gt ≠ g by have h1 := Hrow.out.lt; have h2 := Hbt.out.lt; exact ⟨by omega, by omega⟩)
  rw [h4] at hT0 ⊢
  have HT := Lib.hid hT0
  clear hT0 h4 hbl hg Hct Hrow Hbt
  go_wp2_with fail
  go_loopw [14, 63] (fun sv i wr => ∃ (k : Nat) (y : Since W) (sm : Bool), k ≤ R.length ∧ sv = .bool sm ∧ sm = (!(((R.take k).filter (cP R each f t)).any (bigR zs size))) ∧ i = .int .i64 (k : Int) ∧ wr = y.w ∧ TbAt y.w g gc gt R.length N size (fun i => ctd R each (rAt R i)) (fun i => celN zs size ((R.take k).filter (cP R each f t)) i) ∧ (∀ r ∈ (R.take k).filter (cP R each f t), endE zs r = 0)) (fun _ i _ => R.length - (intOf i).toNat)
  case atStart => exact ⟨0, y4, true, by omega, rfl, rfl, rfl, rfl, HT.out, fun r hr => by simp at hr⟩
  case round =>
    clear HT
    obtain ⟨k, y, sm, hk, rfl, hsm, rfl, rfl, hT, h0⟩ := hrel
    have HT := Lib.hid hT; have H0 := Lib.hid h0; have Hsm := Lib.hid hsm
    clear hT h0 hsm
    by_cases hlt : k < R.length
    · obtain ⟨e, he⟩ : ∃ e, R[k]? = some e := ⟨_, List.getElem?_eq_getElem hlt⟩
      have hk0 : (0 : Int) ≤ (k : Int) := by omega
      have hkl : (k : Int) < (R.length : Int) := by omega
      have hbc := HT.out.bl.c k hlt
      rw [rAt_eq he] at hbc
      have hbf := HT.out.bl.f k hlt
      have Hpk := Lib.hid (pick_take R (cP R each f t) k e he)
      have Hea := Lib.hid (show endE zs e ≠ 0 → cP R each f t e = true → endsE zs (cntL R each f t) = endE zs e from fun hn hp => by rw [cntL_eq]; exact endsE_at he hp hn H0.out)
      obtain ⟨hI1, hI2⟩ := HI.out e (List.mem_of_getElem? he)
      obtain ⟨b1, off1, rfl, h1'⟩ := Els.ride HR.out.c he
      have ra0 := h1'.c0
      have ra1 := h1'.c1
      have ra2 := h1'.c2
      have ra3 := h1'.c3
      have ra4 := h1'.c4
      have ra5 := h1'.c5
      have ra6 := h1'.c6
      have ra7 := h1'.c7
      have ra8 := h1'.c8
      have ra9 := h1'.c9
      have ra10 := h1'.c10
      have ra11 := h1'.c11
      have ra12 := h1'.c12
      clear h1' he
      go_upto_region 12 with fail
      have hx0 : (y.w.alloc (.cells #[.int .i64 e.id, .int .i64 e.rd, .int .i64 e.s0, .int .i64 e.s1, .int .i64 e.e0, .int .i64 e.e1, .bool e.op, .slice e.la e.legs.length e.lc, .slice e.pa e.pauses.length e.pc, .int .i64 e.fw, .int .i64 e.fp, .int .i64 e.wh, .int .i64 e.pl] 73)).cell? ⟨y.w.heap.size, 0, none⟩ = some (.int .i64 e.id) := by simp [go_sem]
      have hx1 : (y.w.alloc (.cells #[.int .i64 e.id, .int .i64 e.rd, .int .i64 e.s0, .int .i64 e.s1, .int .i64 e.e0, .int .i64 e.e1, .bool e.op, .slice e.la e.legs.length e.lc, .slice e.pa e.pauses.length e.pc, .int .i64 e.fw, .int .i64 e.fp, .int .i64 e.wh, .int .i64 e.pl] 73)).cell? ⟨y.w.heap.size, 1, none⟩ = some (.int .i64 e.rd) := by simp [go_sem]
      have hx2 : (y.w.alloc (.cells #[.int .i64 e.id, .int .i64 e.rd, .int .i64 e.s0, .int .i64 e.s1, .int .i64 e.e0, .int .i64 e.e1, .bool e.op, .slice e.la e.legs.length e.lc, .slice e.pa e.pauses.length e.pc, .int .i64 e.fw, .int .i64 e.fp, .int .i64 e.wh, .int .i64 e.pl] 73)).cell? ⟨y.w.heap.size, 2, none⟩ = some (.int .i64 e.s0) := by simp [go_sem]
      have hx3 : (y.w.alloc (.cells #[.int .i64 e.id, .int .i64 e.rd, .int .i64 e.s0, .int .i64 e.s1, .int .i64 e.e0, .int .i64 e.e1, .bool e.op, .slice e.la e.legs.length e.lc, .slice e.pa e.pauses.length e.pc, .int .i64 e.fw, .int .i64 e.fp, .int .i64 e.wh, .int .i64 e.pl] 73)).cell? ⟨y.w.heap.size, 3, none⟩ = some (.int .i64 e.s1) := by simp [go_sem]
      have hx4 : (y.w.alloc (.cells #[.int .i64 e.id, .int .i64 e.rd, .int .i64 e.s0, .int .i64 e.s1, .int .i64 e.e0, .int .i64 e.e1, .bool e.op, .slice e.la e.legs.length e.lc, .slice e.pa e.pauses.length e.pc, .int .i64 e.fw, .int .i64 e.fp, .int .i64 e.wh, .int .i64 e.pl] 73)).cell? ⟨y.w.heap.size, 4, none⟩ = some (.int .i64 e.e0) := by simp [go_sem]
      have hx5 : (y.w.alloc (.cells #[.int .i64 e.id, .int .i64 e.rd, .int .i64 e.s0, .int .i64 e.s1, .int .i64 e.e0, .int .i64 e.e1, .bool e.op, .slice e.la e.legs.length e.lc, .slice e.pa e.pauses.length e.pc, .int .i64 e.fw, .int .i64 e.fp, .int .i64 e.wh, .int .i64 e.pl] 73)).cell? ⟨y.w.heap.size, 5, none⟩ = some (.int .i64 e.e1) := by simp [go_sem]
      have hx6 : (y.w.alloc (.cells #[.int .i64 e.id, .int .i64 e.rd, .int .i64 e.s0, .int .i64 e.s1, .int .i64 e.e0, .int .i64 e.e1, .bool e.op, .slice e.la e.legs.length e.lc, .slice e.pa e.pauses.length e.pc, .int .i64 e.fw, .int .i64 e.fp, .int .i64 e.wh, .int .i64 e.pl] 73)).cell? ⟨y.w.heap.size, 6, none⟩ = some (.bool e.op) := by simp [go_sem]
      have hx7 : (y.w.alloc (.cells #[.int .i64 e.id, .int .i64 e.rd, .int .i64 e.s0, .int .i64 e.s1, .int .i64 e.e0, .int .i64 e.e1, .bool e.op, .slice e.la e.legs.length e.lc, .slice e.pa e.pauses.length e.pc, .int .i64 e.fw, .int .i64 e.fp, .int .i64 e.wh, .int .i64 e.pl] 73)).cell? ⟨y.w.heap.size, 7, none⟩ = some (.slice e.la e.legs.length e.lc) := by simp [go_sem]
      have hx8 : (y.w.alloc (.cells #[.int .i64 e.id, .int .i64 e.rd, .int .i64 e.s0, .int .i64 e.s1, .int .i64 e.e0, .int .i64 e.e1, .bool e.op, .slice e.la e.legs.length e.lc, .slice e.pa e.pauses.length e.pc, .int .i64 e.fw, .int .i64 e.fp, .int .i64 e.wh, .int .i64 e.pl] 73)).cell? ⟨y.w.heap.size, 8, none⟩ = some (.slice e.pa e.pauses.length e.pc) := by simp [go_sem]
      have hx9 : (y.w.alloc (.cells #[.int .i64 e.id, .int .i64 e.rd, .int .i64 e.s0, .int .i64 e.s1, .int .i64 e.e0, .int .i64 e.e1, .bool e.op, .slice e.la e.legs.length e.lc, .slice e.pa e.pauses.length e.pc, .int .i64 e.fw, .int .i64 e.fp, .int .i64 e.wh, .int .i64 e.pl] 73)).cell? ⟨y.w.heap.size, 9, none⟩ = some (.int .i64 e.fw) := by simp [go_sem]
      have hx10 : (y.w.alloc (.cells #[.int .i64 e.id, .int .i64 e.rd, .int .i64 e.s0, .int .i64 e.s1, .int .i64 e.e0, .int .i64 e.e1, .bool e.op, .slice e.la e.legs.length e.lc, .slice e.pa e.pauses.length e.pc, .int .i64 e.fw, .int .i64 e.fp, .int .i64 e.wh, .int .i64 e.pl] 73)).cell? ⟨y.w.heap.size, 10, none⟩ = some (.int .i64 e.fp) := by simp [go_sem]
      have hx11 : (y.w.alloc (.cells #[.int .i64 e.id, .int .i64 e.rd, .int .i64 e.s0, .int .i64 e.s1, .int .i64 e.e0, .int .i64 e.e1, .bool e.op, .slice e.la e.legs.length e.lc, .slice e.pa e.pauses.length e.pc, .int .i64 e.fw, .int .i64 e.fp, .int .i64 e.wh, .int .i64 e.pl] 73)).cell? ⟨y.w.heap.size, 11, none⟩ = some (.int .i64 e.wh) := by simp [go_sem]
      have hx12 : (y.w.alloc (.cells #[.int .i64 e.id, .int .i64 e.rd, .int .i64 e.s0, .int .i64 e.s1, .int .i64 e.e0, .int .i64 e.e1, .bool e.op, .slice e.la e.legs.length e.lc, .slice e.pa e.pauses.length e.pc, .int .i64 e.fw, .int .i64 e.fp, .int .i64 e.wh, .int .i64 e.pl] 73)).cell? ⟨y.w.heap.size, 12, none⟩ = some (.int .i64 e.pl) := by simp [go_sem]
      have hxf : ∀ o, (y.w.alloc (.cells #[.int .i64 e.id, .int .i64 e.rd, .int .i64 e.s0, .int .i64 e.s1, .int .i64 e.e0, .int .i64 e.e1, .bool e.op, .slice e.la e.legs.length e.lc, .slice e.pa e.pauses.length e.pc, .int .i64 e.fw, .int .i64 e.fp, .int .i64 e.wh, .int .i64 e.pl] 73)).frozen? ⟨y.w.heap.size, o, none⟩ = false := fun o => by simp [go_sem]
      have hlt0 : y.w.heap.size < (y.w.alloc (.cells #[.int .i64 e.id, .int .i64 e.rd, .int .i64 e.s0, .int .i64 e.s1, .int .i64 e.e0, .int .i64 e.e1, .bool e.op, .slice e.la e.legs.length e.lc, .slice e.pa e.pauses.length e.pc, .int .i64 e.fw, .int .i64 e.fp, .int .i64 e.wh, .int .i64 e.pl] 73)).heap.size := by simp
      have hst0 : ∃ zz : Since y.w, (y.w.alloc (.cells #[.int .i64 e.id, .int .i64 e.rd, .int .i64 e.s0, .int .i64 e.s1, .int .i64 e.e0, .int .i64 e.e1, .bool e.op, .slice e.la e.legs.length e.lc, .slice e.pa e.pauses.length e.pc, .int .i64 e.fw, .int .i64 e.fp, .int .i64 e.wh, .int .i64 e.pl] 73)) = zz.w := IsSince.alloc (IsSince.self _) _
      have hsz0 := y.b.size
      obtain ⟨y5, e2⟩ := IsSince.alloc (IsSince.of y) (.cells #[.int .i64 e.id, .int .i64 e.rd, .int .i64 e.s0, .int .i64 e.s1, .int .i64 e.e0, .int .i64 e.e1, .bool e.op, .slice e.la e.legs.length e.lc, .slice e.pa e.pauses.length e.pc, .int .i64 e.fw, .int .i64 e.fp, .int .i64 e.wh, .int .i64 e.pl] 73)
      rw [e2] at hx0 hx1 hx2 hx3 hx4 hx5 hx6 hx7 hx8 hx9 hx10 hx11 hx12 hxf hlt0 hst0 ⊢
      (replace HT := Lib.hid (HT.out.to hst0))
      clear e2 hst0
      generalize y.w.heap.size = gr at *
      have Hhx0 : ∀ q : Since y5.w, q.w.cell? ⟨gr, 0, none⟩ = some (.int .i64 e.id) := fun q => Since.cell hx0 (by omega) q
      have Hhx1 : ∀ q : Since y5.w, q.w.cell? ⟨gr, 1, none⟩ = some (.int .i64 e.rd) := fun q => Since.cell hx1 (by omega) q
      have Hhx2 : ∀ q : Since y5.w, q.w.cell? ⟨gr, 2, none⟩ = some (.int .i64 e.s0) := fun q => Since.cell hx2 (by omega) q
      have Hhx3 : ∀ q : Since y5.w, q.w.cell? ⟨gr, 3, none⟩ = some (.int .i64 e.s1) := fun q => Since.cell hx3 (by omega) q
      have Hhx4 : ∀ q : Since y5.w, q.w.cell? ⟨gr, 4, none⟩ = some (.int .i64 e.e0) := fun q => Since.cell hx4 (by omega) q
      have Hhx5 : ∀ q : Since y5.w, q.w.cell? ⟨gr, 5, none⟩ = some (.int .i64 e.e1) := fun q => Since.cell hx5 (by omega) q
      have Hhx6 : ∀ q : Since y5.w, q.w.cell? ⟨gr, 6, none⟩ = some (.bool e.op) := fun q => Since.cell hx6 (by omega) q
      have Hhx7 : ∀ q : Since y5.w, q.w.cell? ⟨gr, 7, none⟩ = some (.slice e.la e.legs.length e.lc) := fun q => Since.cell hx7 (by omega) q
      have Hhx8 : ∀ q : Since y5.w, q.w.cell? ⟨gr, 8, none⟩ = some (.slice e.pa e.pauses.length e.pc) := fun q => Since.cell hx8 (by omega) q
      have Hhx9 : ∀ q : Since y5.w, q.w.cell? ⟨gr, 9, none⟩ = some (.int .i64 e.fw) := fun q => Since.cell hx9 (by omega) q
      have Hhx10 : ∀ q : Since y5.w, q.w.cell? ⟨gr, 10, none⟩ = some (.int .i64 e.fp) := fun q => Since.cell hx10 (by omega) q
      have Hhx11 : ∀ q : Since y5.w, q.w.cell? ⟨gr, 11, none⟩ = some (.int .i64 e.wh) := fun q => Since.cell hx11 (by omega) q
      have Hhx12 : ∀ q : Since y5.w, q.w.cell? ⟨gr, 12, none⟩ = some (.int .i64 e.pl) := fun q => Since.cell hx12 (by omega) q
      have Hhxf : ∀ (q : Since y5.w) (o : Nat), q.w.frozen? ⟨gr, o, none⟩ = false := fun q o => Since.free (hxf o) (by omega) q
      have Hhxg := Lib.hid (And.intro hsz0 hlt0)
      clear hlt0 hsz0
      clear hbc hbf Hhx0 Hhx1 Hhx2 Hhx3 Hhx4 Hhx5 Hhx6 Hhx7 Hhx8 Hhx9 Hhx10 Hhx11 Hhx12 Hhxf ra0 ra1 ra2 ra3 ra4 ra5 ra6 ra7 ra8 ra9 ra10 ra11 ra12
      by_cases hp : cP R each f t e = true
      case neg =>
        have hpf : cP R each f t e = false := by simpa using hp
        have Hsk := Lib.hid (show (R.take (k + 1)).filter (cP R each f t) = (R.take k).filter (cP R each f t) by rw [Hpk.out, hpf]; simp)
        have hno := cP_no hpf
        clear hp hpf Hpk Hea
        generalize ctd R each e = ct at *
        rcases hno with rfl | ⟨rfl, c2⟩ | ⟨rfl, c2, c3⟩ | ⟨rfl, c2, c3, c4, c5⟩
        all_goals
          go_wp2_with fail
          go_roundw
          case rel => refine ⟨k + 1, y5, sm, by omega, rfl, ?_, by go_num, rfl, ?_, ?_⟩ <;> rw [Hsk.out] <;> first | exact Hsm.out | exact HT.out | exact H0.out
          case measure => simp [intOf] <;> omega
      case pos =>
        obtain ⟨hct, c2, c3, c4⟩ := cP_yes hp
        rw [hct]
        have Hea2 := Lib.hid (fun hn => Hea.out hn hp)
        have Hpk2 := Lib.hid (show (R.take (k + 1)).filter (cP R each f t) = (R.take k).filter (cP R each f t) ++ [e] by rw [Hpk.out, hp]; simp)
        clear hct Hea Hpk hp
        have Hen := Lib.hid (show Calls Tryd.prog 45 #[.slice az zs.length cz, .int .i64 size, .agg #[.int .i64 e.id, .int .i64 e.rd, .int .i64 e.s0, .int .i64 e.s1, .int .i64 e.e0, .int .i64 e.e1, .bool e.op, .slice e.la e.legs.length e.lc, .slice e.pa e.pauses.length e.pc, .int .i64 e.fw, .int .i64 e.fp, .int .i64 e.wh, .int .i64 e.pl]] y5.w (EndRes zs e y5.w) from ends_calls y5.w (Since.self y5.w) az zs cz size e (Since.row HZ.out y5) hzl hI1 hI2)
        have hLl : ((R.take k).filter (cP R each f t)).length ≤ 256 := by
          have h1 := List.length_filter_le (cP R each f t) (R.take k)
          rw [List.length_take] at h1
          omega
        generalize (R.take k).filter (cP R each f t) = L at *
        rcases c4 with c4 | ⟨c4, c5⟩
        all_goals
          first
            | rw [c4] at Hen
            | rw [c5] at Hen
          go_wp2_with fail
          refine (Hen.out).mono ?_
          rintro _ _ ⟨rfl, z6, rfl⟩
          have hT6 := HT.out.to ⟨z6, rfl⟩
          obtain ⟨y6, h6⟩ := y5.trans z6
          rw [h6] at hT6 ⊢
          have HT6 := Lib.hid hT6
          clear hT6 h6 HT Hen hx0 hx1 hx2 hx3 hx4 hx5 hx6 hx7 hx8 hx9 hx10 hx11 hx12 hxf c2 c3 c4
          by_cases hne : endE zs e = 0
          case neg =>
            have HB := Lib.hid (Hno.out (endE zs e) (HE.out.trans (by rw [Hea2.out hne, if_pos hne])) hne)
            have hne2 : (endE zs e != 0) = true := by simpa using hne
            clear hne HE Hea2 Hyes Hno
            generalize endE zs e = E at *
            generalize endA zs e = A at *
            generalize endB zs e = B at *
            go_wp2_with fail
            have hsm : ∀ j, j < 3 → (y6.w.cell? ⟨bx + 1, j, none⟩).isSome = true := fun j hj => by
              match j, hj with
              | 0, _ => rw [hb1_0 y6]; rfl
              | 1, _ => rw [hb1_1 y6]; rfl
              | 2, _ => rw [hb1_2 y6]; rfl
            obtain ⟨z, hz, hc⟩ := set_many y6 (g := bx + 1) [.int .i64 0, .int .i64 0, .slice none 0 0] hsm (Hup.out y6) (by have := Hbx.out; omega)
            simp only [World.setCells, Nat.reduceAdd] at hz
            rw [hz]
            have hc0 := hc 0 _ rfl
            have hc1 := hc 1 _ rfl
            have hc2 := hc 2 _ rfl
            exact bodyPost_ret (v := .tuple #[.agg #[.int .i64 0, .int .i64 0, .slice none 0 0], .int .i64 E]) (by simp [results, Tryd.results21, go_sem, hc0, hc1, hc2]) rfl (HB.out z)
          case pos =>
            obtain ⟨eA, eB, ⟨a1, a2⟩, b1', b2'⟩ := ends_zero hne
            have Hall := Lib.hid (show ∀ r ∈ L ++ [e], endE zs r = 0 from fun r hr => by
              rcases List.mem_append.1 hr with h | h
              · exact H0.out r h
              · rw [List.mem_singleton.1 h]; exact hne)
            have Hbg := Lib.hid (show bigR zs size e = (decide (size ≤ fromZ zs e) || decide (size ≤ toZ zs e)) from rfl)
            have Hcl := Lib.hid (show celR zs size e = fromZ zs e * size + toZ zs e from rfl)
            rw [hne, eA, eB]
            clear hne eA eB
            generalize fromZ zs e = A at *
            generalize toZ zs e = B at *
            by_cases hbig : size ≤ A ∨ size ≤ B
            · have Hb1 := Lib.hid (show bigR zs size e = true by rw [Hbg.out]; simpa using hbig)
              have HT7 := Lib.hid (show TbAt y6.w g gc gt R.length N size (fun i => ctd R each (rAt R i)) (fun i => celN zs size (L ++ [e]) i) from ⟨HT6.out.bl, HT6.out.cl.congr (fun j _ => by rw [celN_snoc, Hb1.out]; simp), HT6.out.bx⟩)
              rcases (by omega : size ≤ A ∨ (¬ size ≤ A ∧ size ≤ B)) with c6 | ⟨c6, c7⟩
              all_goals
                clear hbig
                go_wp2_with fail
                go_roundw
                case rel => refine ⟨k + 1, y6, false, by omega, rfl, ?_, by go_num, rfl, ?_, ?_⟩ <;> rw [Hpk2.out] <;> first | exact HT7.out | exact Hall.out | (rw [List.any_append]; simp [Hb1.out])
                case measure => simp [intOf] <;> omega
            · obtain ⟨c6, c7⟩ : ¬ size ≤ A ∧ ¬ size ≤ B := by omega
              have Hb1 := Lib.hid (show bigR zs size e = false by rw [Hbg.out]; simp; omega)
              obtain ⟨i1, i2, i3, i4⟩ := tab_idx a1 (by omega : A < size) b1' (by omega : B < size) (by omega)
              obtain ⟨m, hm⟩ : ∃ m : Nat, A * size + B = (m : Int) := ⟨(A * size + B).toNat, by omega⟩
              have hmN : m < N := by have := HN.out; omega
              obtain ⟨n3, n4⟩ := celN_range zs size L m
              have q0 := HT6.out.cl.c m hmN
              have q1 := HT6.out.cl.f m hmN
              have q2 := HT6.out.bx.c 2 _ rfl
              obtain ⟨y7, h7⟩ := y6.set ⟨gc, m, none⟩ Hgc.out (.int .i64 (celN zs size L m + 1))
              have Hset := Lib.hid (show TbAt (y6.w.setCell ⟨gc, m, none⟩ (.int .i64 (celN zs size L m + 1))) g gc gt R.length N size (fun i => ctd R each (rAt R i)) (fun i => celN zs size (L ++ [e]) i) from ⟨HT6.out.bl.setNe _ _ Hgn.out.1, HT6.out.cl.set hmN _ (by rw [celN_snoc, Hb1.out, Hcl.out, hm]; simp) (fun j _ hj => by rw [celN_snoc, Hcl.out, hm, if_neg (fun h => by simp at h; exact hj (by have := h.2; omega))]; simp), HT6.out.bx.setNe _ _ (show gt ≠ gc by have := Hlt3.out; omega)⟩)
              have H7 := Lib.hid h7
              clear h7 hbig Hbg Hcl
              go_wp2_with fail
              go_roundw
              case rel => refine ⟨k + 1, y7, sm, by omega, rfl, ?_, by go_num, H7.out, ?_, ?_⟩ <;> rw [Hpk2.out] <;> first | exact H7.out ▸ Hset.out | exact Hall.out | (rw [List.any_append]; simp [Hb1.out]; exact Hsm.out)
              case measure => simp [intOf] <;> omega
    · obtain rfl : k = R.length := by omega
      have hE2 := Lib.hid (HE.out.trans (if_neg (by rw [cntL_eq, endsE_no (by have := H0.out; rwa [List.take_of_length_le (Nat.le_refl _)] at this)]; simp)))
      have Hsm2 := Lib.hid (show sm = (!((cntL R each f t).any (bigR zs size))) by rw [cntL_eq]; have := Hsm.out; rwa [List.take_of_length_le (Nat.le_refl _)] at this)
      cases sm
      case false =>
        have HB := Lib.hid (Hno.out 7 (hE2.out.trans (if_pos (sm_f Hsm2.out))) (by decide))
        clear HE hE2 Hsm Hsm2 H0 HT
        go_wp2_with fail
        have hsm : ∀ j, j < 3 → (y.w.cell? ⟨bx + 1, j, none⟩).isSome = true := fun j hj => by
          match j, hj with
          | 0, _ => rw [hb1_0 y]; rfl
          | 1, _ => rw [hb1_1 y]; rfl
          | 2, _ => rw [hb1_2 y]; rfl
        obtain ⟨z, hz, hc⟩ := set_many y (g := bx + 1) [.int .i64 0, .int .i64 0, .slice none 0 0] hsm (Hup.out y) (by have := Hbx.out; omega)
        simp only [World.setCells, Nat.reduceAdd] at hz
        rw [hz]
        have hc0 := hc 0 _ rfl
        have hc1 := hc 1 _ rfl
        have hc2 := hc 2 _ rfl
        exact bodyPost_ret (v := .tuple #[.agg #[.int .i64 0, .int .i64 0, .slice none 0 0], .int .i64 7]) (by simp [results, Tryd.results21, go_sem, hc0, hc1, hc2]) rfl (HB.out z)
      case true =>
        have hE3 : tabE zs size R f t each = 0 := hE2.out.trans (if_neg (sm_t Hsm2.out))
        have hlt2 : bx + 1 ≠ gc := by
          have h1 := Hbx.out
          have h2 := Hgc.out
          omega
        have hN9 := ((HT.out.cl.setOther ⟨bx + 1, 0, none⟩ hlt2 (.int .i64 size)).setOther ⟨bx + 1, 1, none⟩ hlt2 (.int .i64 size)).setOther ⟨bx + 1, 2, none⟩ hlt2 (.slice (some ⟨gc, 0, none⟩) N N)
        rw [List.take_of_length_le (Nat.le_refl _), ← cntL_eq] at hN9
        have HB := Lib.hid (fun z hv hz => Hyes.out hE3 (cells zs size (cntL R each f t)) rfl (some ⟨gc, 0, none⟩) N N (by unfold cells; rw [List.length_map, List.length_range]; have := HN.out; omega) z hv hz (Nat.le_refl _) (fun b hb => by cases hb; have h1 := Hbx.out; have h2 := Hgc.out; show w.heap.size ≤ gc; omega))
        have HN9 := Lib.hid (fun W' (hW : _ = W') => (show Nums W' gc N (celN zs size (cntL R each f t)) from hW ▸ hN9))
        clear hN9 hlt2
        have q0 := HT.out.bx.c 0 _ rfl
        have q1 := HT.out.bx.c 1 _ rfl
        have q2 := HT.out.bx.c 2 _ rfl
        clear HE hE2 hE3 Hsm Hsm2 H0
        go_wp2_with fail
        have hsm : ∀ j, j < 3 → (y.w.cell? ⟨bx + 1, j, none⟩).isSome = true := fun j hj => by
          match j, hj with
          | 0, _ => rw [hb1_0 y]; rfl
          | 1, _ => rw [hb1_1 y]; rfl
          | 2, _ => rw [hb1_2 y]; rfl
        obtain ⟨z, hz, hc⟩ := set_many y (g := bx + 1) [.int .i64 size, .int .i64 size, .slice (some ⟨gc, 0, none⟩) N N] hsm (Hup.out y) (by have := Hbx.out; omega)
        simp only [World.setCells, Nat.reduceAdd] at hz
        rw [hz]
        have hc0 := hc 0 _ rfl
        have hc1 := hc 1 _ rfl
        have hc2 := hc 2 _ rfl
        exact bodyPost_ret (v := .tuple #[.agg #[.int .i64 size, .int .i64 size, .slice (some ⟨gc, 0, none⟩) N N], .int .i64 0]) (by simp [results, Tryd.results21, go_sem, hc0, hc1, hc2]) rfl (HB.out z (fun b hb => by cases hb; exact ⟨gc, rfl, nums_vals (HN9.out _ hz) _ (by have := HN.out; omega)⟩) (nums_row (HN9.out _ hz) _ (by have := HN.out; omega)))
end Go.Proofs.YtdkcclngionihaaDoor
/- Trips between zones, the reference: Table. -/
namespace Go.Proofs.YtdkcclngionihaaDoor
open Go.RowKit Go.ChangeMaps

theorem endsE_at' {zs : List Int} {L : List Ride} {k : Nat} {e : Ride} (h : L[k]? = some e) (he : endE zs e ≠ 0) (hn : ∀ r ∈ L.take k, endE zs r = 0) : endsE zs L = endE zs e := by
  have := endsE_at (p := fun _ => true) h rfl he (by rw [List.filter_eq_self.2 (fun _ _ => rfl)]; exact hn)
  rwa [List.filter_eq_self.2 (fun _ _ => rfl)] at this
/-- what the rounds keep -/
structure CbAt (w : World) (gc gt N : Nat) (size : Int) (f : Nat → Int) : Prop where
  cl : Nums w gc N f
  bx : BoxIs w gt [.int .i64 size, .int .i64 size, .slice (some ⟨gc, 0, none⟩) N N]
theorem CbAt.to {w W : World} {gc gt N : Nat} {size : Int} {f : Nat → Int} (h : CbAt w gc gt N size f) (hW : ∃ z : Since w, W = z.w) : CbAt W gc gt N size f := ⟨h.cl.to hW, h.bx.to hW⟩
set_option maxRecDepth 100000 in
set_option maxHeartbeats 16000000 in
theorem rtable_calls (w : World) (x : Since w) (az : Option Addr) (zs : List Int) (cz : Nat) (size : Int) (a : Option Addr) (R : List Ride) (c : Nat) (f t each : Int) (hz : IntRow w az zs) (hzl : zs.length ≤ 9223372036854775807) (h : RideRow w a R) (hl : R.length ≤ 9223372036854775807) (hI : ∀ r ∈ R, r.fp ≤ 9223372036854775807 ∧ r.pl ≤ 9223372036854775807) :
    Calls Tryd.prog 33 #[.slice az zs.length cz, .int .i64 size, .slice a R.length c, .agg #[.int .i64 f, .int .i64 t], .int .i64 each] x.w (TabRes w (tabV zs size R f t each) (tabE zs size R f t each)) := by
  have HZ := Lib.hid hz
  have HR := Lib.hid h
  have HI := Lib.hid hI
  have Hno := Lib.hid (fun (e : Int) (he : tabE zs size R f t each = e) (hne : e ≠ 0) (y : Since w) => show TabRes w (tabV zs size R f t each) (tabE zs size R f t each) (.returned (.tuple #[.agg #[.int .i64 0, .int .i64 0, .slice none 0 0], .int .i64 e])) y.w from by
    subst he
    have : tabV zs size R f t each = tab0 := if_neg hne
    rw [this]
    exact ⟨none, 0, y, rfl, rfl, row_nil' _, Nat.le_refl _, fun b hb => (by cases hb), fun b hb => by cases hb⟩)
  have Hyes := Lib.hid (fun (he : tabE zs size R f t each = 0) (l : List Int) (hl : l = cells zs size (cntL R each f t)) (a' : Option Addr) (n c' : Nat) (hn : l.length = n) (y : Since w) (hv : ∀ b, a' = some b → ∃ g, b = ⟨g, 0, none⟩ ∧ Nums y.w g l.length (at0 l)) (hr : IntRow y.w a' l) (hc : n ≤ c') (ha : ∀ b, a' = some b → w.heap.size ≤ b.block) => show TabRes w (tabV zs size R f t each) (tabE zs size R f t each) (.returned (.tuple #[.agg #[.int .i64 size, .int .i64 size, .slice a' n c'], .int .i64 0])) y.w from by
    have : tabV zs size R f t each = ⟨size, size, cells zs size (cntL R each f t)⟩ := if_pos he
    rw [this, he]
    subst hl
    subst hn
    exact ⟨a', c', y, rfl, rfl, hr, hc, ha, hv⟩)
  generalize TabRes w (tabV zs size R f t each) (tabE zs size R f t each) = PO at *
  clear hz h hI
  by_cases hv : size < 1 ∨ 8 < size ∨ f < 0 ∨ t < f ∨ 4294944000 < t
  case pos =>
    have HB := Lib.hid (Hno.out 1 (if_pos hv) (by decide))
    rcases (by omega : size < 1 ∨ (¬ size < 1 ∧ 8 < size) ∨ (¬ size < 1 ∧ ¬ 8 < size ∧ f < 0) ∨ (¬ size < 1 ∧ ¬ 8 < size ∧ ¬ f < 0 ∧ t < f) ∨ (¬ size < 1 ∧ ¬ 8 < size ∧ ¬ f < 0 ∧ ¬ t < f ∧ 4294944000 < t)) with h1 | ⟨h1, h2⟩ | ⟨h1, h2, h3⟩ | ⟨h1, h2, h3, h4⟩ | ⟨h1, h2, h3, h4, h5⟩
    all_goals
      clear hv Hno Hyes
      go_enter Tryd.func33, Tryd.ntmps33
      go_upto_region 1 with fail
      have hb0_0 : ∀ y : Since ((x.w.alloc (.cells #[.int .i64 f, .int .i64 t] 25)).alloc (.cells #[.int .i64 0, .int .i64 0, .slice none 0 0] 31)), y.w.cell? ⟨x.w.heap.size, 0, none⟩ = some (.int .i64 f) := fun y => Since.cell (by simp [go_sem]) (by first | (simp; done) | (simp; omega)) y
      have hb0_1 : ∀ y : Since ((x.w.alloc (.cells #[.int .i64 f, .int .i64 t] 25)).alloc (.cells #[.int .i64 0, .int .i64 0, .slice none 0 0] 31)), y.w.cell? ⟨x.w.heap.size, 1, none⟩ = some (.int .i64 t) := fun y => Since.cell (by simp [go_sem]) (by first | (simp; done) | (simp; omega)) y
      have hf0 : ∀ (y : Since ((x.w.alloc (.cells #[.int .i64 f, .int .i64 t] 25)).alloc (.cells #[.int .i64 0, .int .i64 0, .slice none 0 0] 31))) (o : Nat), y.w.frozen? ⟨x.w.heap.size, o, none⟩ = false := fun y o => Since.free (by simp [go_sem]) (by first | (simp; done) | (simp; omega)) y
      have hb1_0 : ∀ y : Since ((x.w.alloc (.cells #[.int .i64 f, .int .i64 t] 25)).alloc (.cells #[.int .i64 0, .int .i64 0, .slice none 0 0] 31)), y.w.cell? ⟨x.w.heap.size + 1, 0, none⟩ = some (.int .i64 0) := fun y => Since.cell (by simp [go_sem]) (by first | (simp; done) | (simp; omega)) y
      have hb1_1 : ∀ y : Since ((x.w.alloc (.cells #[.int .i64 f, .int .i64 t] 25)).alloc (.cells #[.int .i64 0, .int .i64 0, .slice none 0 0] 31)), y.w.cell? ⟨x.w.heap.size + 1, 1, none⟩ = some (.int .i64 0) := fun y => Since.cell (by simp [go_sem]) (by first | (simp; done) | (simp; omega)) y
      have hb1_2 : ∀ y : Since ((x.w.alloc (.cells #[.int .i64 f, .int .i64 t] 25)).alloc (.cells #[.int .i64 0, .int .i64 0, .slice none 0 0] 31)), y.w.cell? ⟨x.w.heap.size + 1, 2, none⟩ = some (.slice none 0 0) := fun y => Since.cell (by simp [go_sem]) (by first | (simp; done) | (simp; omega)) y
      have hf1 : ∀ (y : Since ((x.w.alloc (.cells #[.int .i64 f, .int .i64 t] 25)).alloc (.cells #[.int .i64 0, .int .i64 0, .slice none 0 0] 31))) (o : Nat), y.w.frozen? ⟨x.w.heap.size + 1, o, none⟩ = false := fun y o => Since.free (by simp [go_sem]) (by first | (simp; done) | (simp; omega)) y
      have hWup : ∃ z : Since w, ((x.w.alloc (.cells #[.int .i64 f, .int .i64 t] 25)).alloc (.cells #[.int .i64 0, .int .i64 0, .slice none 0 0] 31)) = z.w := Since.allocs x [.cells #[.int .i64 f, .int .i64 t] 25, .cells #[.int .i64 0, .int .i64 0, .slice none 0 0] 31]
      obtain ⟨y0, hy0⟩ := Since.refl ((x.w.alloc (.cells #[.int .i64 f, .int .i64 t] 25)).alloc (.cells #[.int .i64 0, .int .i64 0, .slice none 0 0] 31))
      have Hbx := Lib.hid (And.intro x.b.size (show x.w.heap.size + 2 = ((x.w.alloc (.cells #[.int .i64 f, .int .i64 t] 25)).alloc (.cells #[.int .i64 0, .int .i64 0, .slice none 0 0] 31)).heap.size from by simp))
      generalize hW : ((x.w.alloc (.cells #[.int .i64 f, .int .i64 t] 25)).alloc (.cells #[.int .i64 0, .int .i64 0, .slice none 0 0] 31)) = W at *
      clear hW
      generalize x.w.heap.size = bx at *
      have Hup := Lib.hid (Since.up hWup)
      rw [hy0]
      clear hy0
      clear hWup
      go_wp2_with fail
      have hsm : ∀ j, j < 3 → (y0.w.cell? ⟨bx + 1, j, none⟩).isSome = true := fun j hj => by
        match j, hj with
        | 0, _ => rw [hb1_0 y0]; rfl
        | 1, _ => rw [hb1_1 y0]; rfl
        | 2, _ => rw [hb1_2 y0]; rfl
      obtain ⟨z, hz, hc⟩ := set_many y0 (g := bx + 1) [.int .i64 0, .int .i64 0, .slice none 0 0] hsm (Hup.out y0) (by have := Hbx.out; omega)
      simp only [World.setCells, Nat.reduceAdd] at hz
      rw [hz]
      have hc0 := hc 0 _ rfl
      have hc1 := hc 1 _ rfl
      have hc2 := hc 2 _ rfl
      exact bodyPost_ret (v := .tuple #[.agg #[.int .i64 0, .int .i64 0, .slice none 0 0], .int .i64 1]) (by simp [results, Tryd.results33, go_sem, hc0, hc1, hc2]) rfl (HB.out z)
  case neg =>
  obtain ⟨v1, v2, v3, v4, v5⟩ : ¬ size < 1 ∧ ¬ 8 < size ∧ ¬ f < 0 ∧ ¬ t < f ∧ ¬ 4294944000 < t := ⟨by omega, by omega, by omega, by omega, by omega⟩
  go_enter Tryd.func33, Tryd.ntmps33
  go_upto_region 1 with fail
  have hb0_0 : ∀ y : Since ((x.w.alloc (.cells #[.int .i64 f, .int .i64 t] 25)).alloc (.cells #[.int .i64 0, .int .i64 0, .slice none 0 0] 31)), y.w.cell? ⟨x.w.heap.size, 0, none⟩ = some (.int .i64 f) := fun y => Since.cell (by simp [go_sem]) (by first | (simp; done) | (simp; omega)) y
  have hb0_1 : ∀ y : Since ((x.w.alloc (.cells #[.int .i64 f, .int .i64 t] 25)).alloc (.cells #[.int .i64 0, .int .i64 0, .slice none 0 0] 31)), y.w.cell? ⟨x.w.heap.size, 1, none⟩ = some (.int .i64 t) := fun y => Since.cell (by simp [go_sem]) (by first | (simp; done) | (simp; omega)) y
  have hf0 : ∀ (y : Since ((x.w.alloc (.cells #[.int .i64 f, .int .i64 t] 25)).alloc (.cells #[.int .i64 0, .int .i64 0, .slice none 0 0] 31))) (o : Nat), y.w.frozen? ⟨x.w.heap.size, o, none⟩ = false := fun y o => Since.free (by simp [go_sem]) (by first | (simp; done) | (simp; omega)) y
  have hb1_0 : ∀ y : Since ((x.w.alloc (.cells #[.int .i64 f, .int .i64 t] 25)).alloc (.cells #[.int .i64 0, .int .i64 0, .slice none 0 0] 31)), y.w.cell? ⟨x.w.heap.size + 1, 0, none⟩ = some (.int .i64 0) := fun y => Since.cell (by simp [go_sem]) (by first | (simp; done) | (simp; omega)) y
  have hb1_1 : ∀ y : Since ((x.w.alloc (.cells #[.int .i64 f, .int .i64 t] 25)).alloc (.cells #[.int .i64 0, .int .i64 0, .slice none 0 0] 31)), y.w.cell? ⟨x.w.heap.size + 1, 1, none⟩ = some (.int .i64 0) := fun y => Since.cell (by simp [go_sem]) (by first | (simp; done) | (simp; omega)) y
  have hb1_2 : ∀ y : Since ((x.w.alloc (.cells #[.int .i64 f, .int .i64 t] 25)).alloc (.cells #[.int .i64 0, .int .i64 0, .slice none 0 0] 31)), y.w.cell? ⟨x.w.heap.size + 1, 2, none⟩ = some (.slice none 0 0) := fun y => Since.cell (by simp [go_sem]) (by first | (simp; done) | (simp; omega)) y
  have hf1 : ∀ (y : Since ((x.w.alloc (.cells #[.int .i64 f, .int .i64 t] 25)).alloc (.cells #[.int .i64 0, .int .i64 0, .slice none 0 0] 31))) (o : Nat), y.w.frozen? ⟨x.w.heap.size + 1, o, none⟩ = false := fun y o => Since.free (by simp [go_sem]) (by first | (simp; done) | (simp; omega)) y
  have hWup : ∃ z : Since w, ((x.w.alloc (.cells #[.int .i64 f, .int .i64 t] 25)).alloc (.cells #[.int .i64 0, .int .i64 0, .slice none 0 0] 31)) = z.w := Since.allocs x [.cells #[.int .i64 f, .int .i64 t] 25, .cells #[.int .i64 0, .int .i64 0, .slice none 0 0] 31]
  obtain ⟨y0, hy0⟩ := Since.refl ((x.w.alloc (.cells #[.int .i64 f, .int .i64 t] 25)).alloc (.cells #[.int .i64 0, .int .i64 0, .slice none 0 0] 31))
  have Hbx := Lib.hid (And.intro x.b.size (show x.w.heap.size + 2 = ((x.w.alloc (.cells #[.int .i64 f, .int .i64 t] 25)).alloc (.cells #[.int .i64 0, .int .i64 0, .slice none 0 0] 31)).heap.size from by simp))
  generalize hW : ((x.w.alloc (.cells #[.int .i64 f, .int .i64 t] 25)).alloc (.cells #[.int .i64 0, .int .i64 0, .slice none 0 0] 31)) = W at *
  clear hW
  generalize x.w.heap.size = bx at *
  have Hup := Lib.hid (Since.up hWup)
  rw [hy0]
  clear hy0
  replace HZ := Lib.hid (HZ.out.to hWup)
  replace HR := Lib.hid (HR.out.to hWup)
  clear hWup
  have Hck := Lib.hid (fun y : Since W => rcounted_calls W y a R c f t each HR.out hl)
  by_cases he : eachE R each = 0
  case neg =>
    have hne : (eachE R each != 0) = true := by simpa using he
    have HB := Lib.hid (Hno.out (eachE R each) (by unfold tabE; rw [if_neg hv, if_pos he]) he)
    clear he hv Hno Hyes
    generalize eachE R each = E at *
    generalize (eachV R each).filter (inT f t) = L at *
    go_wp2_with fail
    refine (Hck.out _).mono ?_
    rintro _ _ ⟨a1, c1, y1, rfl, rfl, _, _⟩
    go_wp2_with fail
    have hsm : ∀ j, j < 3 → (y1.w.cell? ⟨bx + 1, j, none⟩).isSome = true := fun j hj => by
      match j, hj with
      | 0, _ => rw [hb1_0 y1]; rfl
      | 1, _ => rw [hb1_1 y1]; rfl
      | 2, _ => rw [hb1_2 y1]; rfl
    obtain ⟨z, hz, hc⟩ := set_many y1 (g := bx + 1) [.int .i64 0, .int .i64 0, .slice none 0 0] hsm (Hup.out y1) (by have := Hbx.out; omega)
    simp only [World.setCells, Nat.reduceAdd] at hz
    rw [hz]
    have hc0 := hc 0 _ rfl
    have hc1 := hc 1 _ rfl
    have hc2 := hc 2 _ rfl
    exact bodyPost_ret (v := .tuple #[.agg #[.int .i64 0, .int .i64 0, .slice none 0 0], .int .i64 E]) (by simp [results, Tryd.results33, go_sem, hc0, hc1, hc2]) rfl (HB.out z)
  case pos =>
  obtain ⟨e0, e1, hrz⟩ := eachE_zero he
  obtain ⟨hr256, _, _⟩ := ridesE_zero hrz
  have HE := Lib.hid (show tabE zs size R f t each = if endsE zs (cntL R each f t) ≠ 0 then endsE zs (cntL R each f t) else if (cntL R each f t).any (bigR zs size) = true then 7 else 0 by unfold tabE; rw [if_neg hv, if_neg (by rw [he]; simp)])
  have hLe : (eachV R each).filter (inT f t) = cntL R each f t := by unfold eachV cntL; rw [if_pos he]
  rw [he, hLe] at Hck
  have HIL := Lib.hid (show ∀ r ∈ cntL R each f t, r.fp ≤ 9223372036854775807 ∧ r.pl ≤ 9223372036854775807 from fun r hr => HI.out r (by rw [cntL_eq] at hr; exact (List.mem_filter.1 hr).1))
  have hL256 : (cntL R each f t).length ≤ 256 := by rw [cntL_eq]; exact Nat.le_trans (List.length_filter_le _ _) hr256
  clear he hrz hv hLe e0 e1 hr256 HI
  generalize cntL R each f t = L at *
  obtain ⟨N, hN⟩ : ∃ N : Nat, size * size = (N : Int) := ⟨(size * size).toNat, by have := tab_mul (a := size) (b := size) (by omega); omega⟩
  have HN := Lib.hid hN
  have hNb : 1 ≤ size * size ∧ size * size ≤ 64 := tab_mul (by omega)
  obtain ⟨n1, n2⟩ := hNb
  have hN64 : N ≤ 64 := by omega
  clear hN
  go_wp2_with fail
  refine (Hck.out _).mono ?_
  rintro _ _ ⟨a1, c1, y1, rfl, rfl, hLr, hc1⟩
  have HL := Lib.hid hLr
  have HU := Lib.hid (fun q : Since y1.w => y1.trans q)
  have HZ1 := Lib.hid (Since.row HZ.out y1)
  have Hb1 := Lib.hid (show bx + 1 < y1.w.heap.size by have h1 := Hbx.out; have h2 := y1.b.size; omega)
  clear hLr Hck
  obtain ⟨i0, hi0, hz0, hsz0, hby0⟩ := info_parts (P := Tryd.prog) (e := 3) (z := .int .i64 0) (size := 1) (bytes := 8) (by kernel_rfl)
  go_wp2_with (at_make; refine wpList_make_full _ rfl _ _ 22 rfl y1.w.heap.size 3 i0 (.int .i64 0) 1 Tryd.underlying22 hi0 hz0 hsz0 .i64 .i64 (size * size) (size * size) N rfl rfl HN.out HN.out (by rw [hby0]; omega) (by unfold maxLen; omega) (Nat.le_refl _) ?_; intro w1 hown hg1; refine Hid.out ?_)
  have hrow := own_nums hown (fun j hj => by simp [madeCells, List.getD_eq_getElem?_getD, hj]; show (#[Value.int .i64 0] : Array Value)[j % 1]! = _; rw [Nat.mod_one]; rfl)
  obtain ⟨y2, hy2⟩ := (Since.self y1.w).grown hg1 (fun k hk => by cases hk)
  subst hy2
  clear hown hg1 hi0 hz0 hsz0 hby0
  generalize hgc : y1.w.heap.size = gc at *
  have Hgc := Lib.hid (show y1.w.heap.size ≤ gc from Nat.le_of_eq hgc)
  have Hrow := Lib.hid hrow
  clear hrow hgc
  refine Lib.hid ?_
  go_upto_region 8 with fail
  have hx0 : (y2.w.alloc (.cells #[.int .i64 size, .int .i64 size, .slice (some ⟨gc, 0, none⟩) N N] 31)).cell? ⟨y2.w.heap.size, 0, none⟩ = some (.int .i64 size) := by simp [go_sem]
  have hx1 : (y2.w.alloc (.cells #[.int .i64 size, .int .i64 size, .slice (some ⟨gc, 0, none⟩) N N] 31)).cell? ⟨y2.w.heap.size, 1, none⟩ = some (.int .i64 size) := by simp [go_sem]
  have hx2 : (y2.w.alloc (.cells #[.int .i64 size, .int .i64 size, .slice (some ⟨gc, 0, none⟩) N N] 31)).cell? ⟨y2.w.heap.size, 2, none⟩ = some (.slice (some ⟨gc, 0, none⟩) N N) := by simp [go_sem]
  have hxf : ∀ o, (y2.w.alloc (.cells #[.int .i64 size, .int .i64 size, .slice (some ⟨gc, 0, none⟩) N N] 31)).frozen? ⟨y2.w.heap.size, o, none⟩ = false := fun o => by simp [go_sem]
  have hlt0 : y2.w.heap.size < (y2.w.alloc (.cells #[.int .i64 size, .int .i64 size, .slice (some ⟨gc, 0, none⟩) N N] 31)).heap.size := by simp
  have hst0 : ∃ zz : Since y2.w, (y2.w.alloc (.cells #[.int .i64 size, .int .i64 size, .slice (some ⟨gc, 0, none⟩) N N] 31)) = zz.w := IsSince.alloc (IsSince.self _) _
  have hsz0 := y2.b.size
  obtain ⟨y3, e2⟩ := IsSince.alloc (IsSince.of y2) (.cells #[.int .i64 size, .int .i64 size, .slice (some ⟨gc, 0, none⟩) N N] 31)
  rw [e2] at hx0 hx1 hx2 hxf hlt0 hst0 ⊢
  (have hlt3 := Hrow.out.lt; replace Hrow := Lib.hid (Hrow.out.to hst0); have hbx := BoxIs.new y2.w [.int .i64 size, .int .i64 size, .slice (some ⟨gc, 0, none⟩) N N] 31; rw [e2] at hbx)
  clear e2 hst0
  generalize y2.w.heap.size = gt at *
  have Hhx0 : ∀ q : Since y3.w, q.w.cell? ⟨gt, 0, none⟩ = some (.int .i64 size) := fun q => Since.cell hx0 (by omega) q
  have Hhx1 : ∀ q : Since y3.w, q.w.cell? ⟨gt, 1, none⟩ = some (.int .i64 size) := fun q => Since.cell hx1 (by omega) q
  have Hhx2 : ∀ q : Since y3.w, q.w.cell? ⟨gt, 2, none⟩ = some (.slice (some ⟨gc, 0, none⟩) N N) := fun q => Since.cell hx2 (by omega) q
  have Hhxf : ∀ (q : Since y3.w) (o : Nat), q.w.frozen? ⟨gt, o, none⟩ = false := fun q o => Since.free (hxf o) (by omega) q
  have Hhxg := Lib.hid (And.intro hsz0 hlt0)
  clear hlt0 hsz0
  have HT := Lib.hid (show CbAt y3.w gc gt N size (fun i => celN zs size (L.take 0) i) from ⟨Hrow.out.congr (fun j _ => by simp [celN]), hbx⟩)
  have Hgn := Lib.hid (show gt ≠ gc by omega)
  clear hbx hlt3 hx0 hx1 hx2 hxf Hhx0 Hhx1 Hhx2 Hhxf Hrow
  go_wp2_with fail
  go_loopw [15, 16] (fun nv i wr => ∃ (k : Nat) (y : Since y1.w) (sm : Bool), k ≤ L.length ∧ nv = .bool sm ∧ sm = (L.take k).any (bigR zs size) ∧ i = .int .i64 (k : Int) ∧ wr = y.w ∧ CbAt y.w gc gt N size (fun i => celN zs size (L.take k) i) ∧ (∀ r ∈ L.take k, endE zs r = 0)) (fun _ i _ => L.length - (intOf i).toNat)
  case atStart => exact ⟨0, y3, false, by omega, rfl, rfl, rfl, rfl, HT.out, fun r hr => by simp at hr⟩
  case round =>
    clear HT
    obtain ⟨k, y, sm, hk, rfl, hsm, rfl, rfl, hT, h0⟩ := hrel
    have HT := Lib.hid hT; have H0 := Lib.hid h0; have Hsm := Lib.hid hsm
    clear hT h0 hsm
    by_cases hlt : k < L.length
    · obtain ⟨e, he⟩ : ∃ e, L[k]? = some e := ⟨_, List.getElem?_eq_getElem hlt⟩
      have hk0 : (0 : Int) ≤ (k : Int) := by omega
      have hkl : (k : Int) < (L.length : Int) := by omega
      have Htk := Lib.hid (show L.take (k + 1) = L.take k ++ [e] by rw [List.take_add_one, he]; rfl)
      have Hea := Lib.hid (show endE zs e ≠ 0 → endsE zs L = endE zs e from fun hn => endsE_at' he hn H0.out)
      obtain ⟨hI1, hI2⟩ := HIL.out e (List.mem_of_getElem? he)
      obtain ⟨b1, off1, rfl, h1'⟩ := Els.ride (HL.out.since y).c he
      have ra0 := h1'.c0
      have ra1 := h1'.c1
      have ra2 := h1'.c2
      have ra3 := h1'.c3
      have ra4 := h1'.c4
      have ra5 := h1'.c5
      have ra6 := h1'.c6
      have ra7 := h1'.c7
      have ra8 := h1'.c8
      have ra9 := h1'.c9
      have ra10 := h1'.c10
      have ra11 := h1'.c11
      have ra12 := h1'.c12
      clear h1' he ra0 ra1 ra2 ra3 ra4 ra5 ra6 ra7 ra8
      have Z1 := Lib.hid (fun q : Since y.w => show Calls Tryd.prog 55 #[.slice az zs.length cz, .int .i64 e.fw, .int .i64 e.fp] q.w (fun o w' => o = .returned (.tuple #[.int .i64 (zoneV zs e.fw e.fp), .int .i64 (zoneE zs e.fw e.fp)]) ∧ ∃ z : Since y.w, w' = z.w) from (rzone_calls q.w az zs cz e.fw e.fp (by obtain ⟨u, hu⟩ := y.trans q; rw [hu]; exact Since.row HZ1.out u) hzl hI1).mono (by rintro _ _ ⟨rfl, rfl⟩; exact ⟨rfl, q, rfl⟩))
      have Z2 := Lib.hid (fun q : Since y.w => show Calls Tryd.prog 55 #[.slice az zs.length cz, .int .i64 e.wh, .int .i64 e.pl] q.w (fun o w' => o = .returned (.tuple #[.int .i64 (zoneV zs e.wh e.pl), .int .i64 (zoneE zs e.wh e.pl)]) ∧ ∃ z : Since y.w, w' = z.w) from (rzone_calls q.w az zs cz e.wh e.pl (by obtain ⟨u, hu⟩ := y.trans q; rw [hu]; exact Since.row HZ1.out u) hzl hI2).mono (by rintro _ _ ⟨rfl, rfl⟩; exact ⟨rfl, q, rfl⟩))
      have hLl : (L.take k).length ≤ 256 := by rw [List.length_take]; omega
      obtain ⟨q, hq0⟩ := Since.refl y.w
      rw [hq0]
      clear hq0
      by_cases hz1 : zoneE zs e.fw e.fp = 0
      case neg =>
        have hE1 : endE zs e = zoneE zs e.fw e.fp := if_pos hz1
        have HB := Lib.hid (Hno.out (zoneE zs e.fw e.fp) (HE.out.trans (by rw [Hea.out (by rw [hE1]; exact hz1), hE1, if_pos hz1])) hz1)
        have hne : (zoneE zs e.fw e.fp != 0) = true := by simpa using hz1
        clear hz1 hE1 HE Hea Hyes Hno Z2
        generalize zoneE zs e.fw e.fp = E at *
        generalize zoneV zs e.fw e.fp = A at *
        go_wp2_with fail
        refine wp_region_since (by kernel_rfl) (by kernel_rfl) ?_
        repeat (go_big_quiet_step ((go_at_call 55; exact Z1.out _)))
        refine wpQuiet_nil ?_
        rintro _ ⟨z, rfl⟩
        obtain ⟨Y1, hY1⟩ := y.trans z
        obtain ⟨Y, hY⟩ := HU.out Y1
        rw [hY1, hY]
        go_wp2_with fail
        have hsm : ∀ j, j < 3 → (Y.w.cell? ⟨bx + 1, j, none⟩).isSome = true := fun j hj => by
          match j, hj with
          | 0, _ => rw [hb1_0 Y]; rfl
          | 1, _ => rw [hb1_1 Y]; rfl
          | 2, _ => rw [hb1_2 Y]; rfl
        obtain ⟨z, hz, hc⟩ := set_many Y (g := bx + 1) [.int .i64 0, .int .i64 0, .slice none 0 0] hsm (Hup.out Y) (by have := Hbx.out; omega)
        simp only [World.setCells, Nat.reduceAdd] at hz
        rw [hz]
        have hc0 := hc 0 _ rfl
        have hc1 := hc 1 _ rfl
        have hc2 := hc 2 _ rfl
        exact bodyPost_ret (v := .tuple #[.agg #[.int .i64 0, .int .i64 0, .slice none 0 0], .int .i64 E]) (by simp [results, Tryd.results33, go_sem, hc0, hc1, hc2]) rfl (HB.out z)
      case pos =>
        have hE1 : endE zs e = zoneE zs e.wh e.pl := if_neg (by simpa using hz1)
        by_cases hz2 : zoneE zs e.wh e.pl = 0
        case neg =>
          have HB := Lib.hid (Hno.out (zoneE zs e.wh e.pl) (HE.out.trans (by rw [Hea.out (by rw [hE1]; exact hz2), hE1, if_pos hz2])) hz2)
          have hne : (zoneE zs e.wh e.pl != 0) = true := by simpa using hz2
          rw [hz1] at Z1
          clear hz1 hz2 hE1 HE Hea Hyes Hno
          generalize zoneE zs e.wh e.pl = E at *
          generalize zoneV zs e.wh e.pl = B at *
          generalize zoneV zs e.fw e.fp = A at *
          go_wp2_with fail
          refine wp_region_since (by kernel_rfl) (by kernel_rfl) ?_
          repeat (go_big_quiet_step ((go_at_call 55; exact Z1.out _)))
          refine wpQuiet_nil ?_
          rintro _ ⟨z, rfl⟩
          go_wp2_with fail
          refine wp_region_since (by kernel_rfl) (by kernel_rfl) ?_
          repeat (go_big_quiet_step ((go_at_call 55; exact Z2.out _)))
          refine wpQuiet_nil ?_
          rintro _ ⟨z2, rfl⟩
          obtain ⟨Y1, hY1⟩ := y.trans z2
          obtain ⟨Y, hY⟩ := HU.out Y1
          rw [hY1, hY]
          go_wp2_with fail
          have hsm : ∀ j, j < 3 → (Y.w.cell? ⟨bx + 1, j, none⟩).isSome = true := fun j hj => by
            match j, hj with
            | 0, _ => rw [hb1_0 Y]; rfl
            | 1, _ => rw [hb1_1 Y]; rfl
            | 2, _ => rw [hb1_2 Y]; rfl
          obtain ⟨z, hz, hc⟩ := set_many Y (g := bx + 1) [.int .i64 0, .int .i64 0, .slice none 0 0] hsm (Hup.out Y) (by have := Hbx.out; omega)
          simp only [World.setCells, Nat.reduceAdd] at hz
          rw [hz]
          have hc0 := hc 0 _ rfl
          have hc1 := hc 1 _ rfl
          have hc2 := hc 2 _ rfl
          exact bodyPost_ret (v := .tuple #[.agg #[.int .i64 0, .int .i64 0, .slice none 0 0], .int .i64 E]) (by simp [results, Tryd.results33, go_sem, hc0, hc1, hc2]) rfl (HB.out z)
        case pos =>
          have hE0 : endE zs e = 0 := hE1.trans hz2
          obtain ⟨a1', a2⟩ := zone_range hz1
          obtain ⟨b1', b2'⟩ := zone_range hz2
          have Hall := Lib.hid (show ∀ r ∈ L.take (k + 1), endE zs r = 0 from fun r hr => by
            rw [Htk.out] at hr
            rcases List.mem_append.1 hr with h | h
            · exact H0.out r h
            · rw [List.mem_singleton.1 h]; exact hE0)
          have Hbg := Lib.hid (show bigR zs size e = (decide (size ≤ zoneV zs e.fw e.fp) || decide (size ≤ zoneV zs e.wh e.pl)) from rfl)
          have Hcl := Lib.hid (show celR zs size e = zoneV zs e.fw e.fp * size + zoneV zs e.wh e.pl from rfl)
          rw [hz1] at Z1
          rw [hz2] at Z2
          clear hE1 hz1 hz2 hE0 Hea
          generalize zoneV zs e.fw e.fp = A at *
          generalize zoneV zs e.wh e.pl = B at *
          go_wp2_with fail
          refine wp_region_since (by kernel_rfl) (by kernel_rfl) ?_
          repeat (go_big_quiet_step ((go_at_call 55; exact Z1.out _)))
          refine wpQuiet_nil ?_
          rintro _ ⟨z, rfl⟩
          go_wp2_with fail
          refine wp_region_since (by kernel_rfl) (by kernel_rfl) ?_
          repeat (go_big_quiet_step ((go_at_call 55; exact Z2.out _)))
          refine wpQuiet_nil ?_
          rintro _ ⟨z2, rfl⟩
          clear Z1 Z2 ra9 ra10 ra11 ra12
          have hT6 := HT.out.to ⟨z2, rfl⟩
          obtain ⟨y6, h6⟩ := y.trans z2
          rw [h6] at hT6 ⊢
          have HT6 := Lib.hid hT6
          clear hT6 h6 HT
          by_cases hbig : size ≤ A ∨ size ≤ B
          · have Hb1 := Lib.hid (show bigR zs size e = true by rw [Hbg.out]; simpa using hbig)
            have HT7 := Lib.hid (show CbAt y6.w gc gt N size (fun i => celN zs size (L.take k ++ [e]) i) from ⟨HT6.out.cl.congr (fun j _ => by rw [celN_snoc, Hb1.out]; simp), HT6.out.bx⟩)
            rcases (by omega : size ≤ A ∨ (¬ size ≤ A ∧ size ≤ B)) with c6 | ⟨c6, c7⟩
            all_goals
              clear hbig
              go_wp2_with fail
              go_roundw
              case rel => exact ⟨k + 1, y6, true, by omega, rfl, by rw [Htk.out, List.any_append]; simp [Hb1.out], by go_num, rfl, by rw [Htk.out]; exact HT7.out, Hall.out⟩
              case measure => simp [intOf] <;> omega
          · obtain ⟨c6, c7⟩ : ¬ size ≤ A ∧ ¬ size ≤ B := by omega
            have Hb1 := Lib.hid (show bigR zs size e = false by rw [Hbg.out]; simp; omega)
            obtain ⟨i1, i2, i3, i4⟩ := tab_idx a1' (by omega : A < size) b1' (by omega : B < size) (by omega)
            obtain ⟨m, hm⟩ : ∃ m : Nat, A * size + B = (m : Int) := ⟨(A * size + B).toNat, by omega⟩
            have hmN : m < N := by have := HN.out; omega
            have Hlk := Lib.hid (show (L.take k ++ [e]) = L.take (k + 1) from Htk.out.symm)
            have Hsm3 := Lib.hid (show sm = (L.take (k + 1)).any (bigR zs size) by rw [Htk.out, List.any_append, ← Hsm.out]; simp [Hb1.out])
            obtain ⟨n3, n4⟩ := celN_range zs size (L.take k) m
            have q0 := HT6.out.cl.c m hmN
            have q1 := HT6.out.cl.f m hmN
            have q2 := HT6.out.bx.c 2 _ rfl
            obtain ⟨y7, h7⟩ := y6.set ⟨gc, m, none⟩ Hgc.out (.int .i64 (celN zs size (L.take k) m + 1))
            have Hset := Lib.hid (show CbAt (y6.w.setCell ⟨gc, m, none⟩ (.int .i64 (celN zs size (L.take k) m + 1))) gc gt N size (fun i => celN zs size (L.take (k + 1)) i) by
              rw [Htk.out]
              exact ⟨HT6.out.cl.set hmN _ (by rw [celN_snoc, Hb1.out, Hcl.out, hm]; simp) (fun j _ hj => by rw [celN_snoc, Hcl.out, hm, if_neg (fun h => by simp at h; exact hj (by have := h.2; omega))]; simp), HT6.out.bx.setNe _ _ Hgn.out⟩)
            have H7 := Lib.hid h7
            clear h7 hbig Hbg Hcl
            generalize celN zs size (L.take k) m = C at *
            have n5 : C ≤ 256 := by omega
            clear n4 hLl
            go_wp2_with fail
            go_roundw
            case rel => exact ⟨k + 1, y7, sm, by omega, rfl, Hsm3.out, by go_num, H7.out, H7.out ▸ Hset.out, Hall.out⟩
            case measure => simp [intOf] <;> omega
    · obtain rfl : k = L.length := by omega
      have hE2 := Lib.hid (HE.out.trans (if_neg (by rw [endsE_no (by have := H0.out; rwa [List.take_length] at this)]; simp)))
      have Hsm2 := Lib.hid (show sm = L.any (bigR zs size) by have := Hsm.out; rwa [List.take_length] at this)
      cases sm
      case true =>
        have HB := Lib.hid (Hno.out 7 (hE2.out.trans (if_pos Hsm2.out.symm)) (by decide))
        clear HE hE2 Hsm Hsm2 H0 HT
        obtain ⟨Y, hY⟩ := HU.out y
        rw [hY]
        go_wp2_with fail
        have hsm : ∀ j, j < 3 → (Y.w.cell? ⟨bx + 1, j, none⟩).isSome = true := fun j hj => by
          match j, hj with
          | 0, _ => rw [hb1_0 Y]; rfl
          | 1, _ => rw [hb1_1 Y]; rfl
          | 2, _ => rw [hb1_2 Y]; rfl
        obtain ⟨z, hz, hc⟩ := set_many Y (g := bx + 1) [.int .i64 0, .int .i64 0, .slice none 0 0] hsm (Hup.out Y) (by have := Hbx.out; omega)
        simp only [World.setCells, Nat.reduceAdd] at hz
        rw [hz]
        have hc0 := hc 0 _ rfl
        have hc1 := hc 1 _ rfl
        have hc2 := hc 2 _ rfl
        exact bodyPost_ret (v := .tuple #[.agg #[.int .i64 0, .int .i64 0, .slice none 0 0], .int .i64 7]) (by simp [results, Tryd.results33, go_sem, hc0, hc1, hc2]) rfl (HB.out z)
      case false =>
        have hE3 : tabE zs size R f t each = 0 := hE2.out.trans (if_neg (by rw [← Hsm2.out]; simp))
        have hlt2 : bx + 1 ≠ gc := by
          have h1 := Hb1.out
          omega
        have hN9 := ((HT.out.cl.setOther ⟨bx + 1, 0, none⟩ hlt2 (.int .i64 size)).setOther ⟨bx + 1, 1, none⟩ hlt2 (.int .i64 size)).setOther ⟨bx + 1, 2, none⟩ hlt2 (.slice (some ⟨gc, 0, none⟩) N N)
        rw [List.take_length] at hN9
        have HB := Lib.hid (fun z hv hz => Hyes.out hE3 (cells zs size L) rfl (some ⟨gc, 0, none⟩) N N (by unfold cells; rw [List.length_map, List.length_range]; have := HN.out; omega) z hv hz (Nat.le_refl _) (fun b hb => by cases hb; have h1 := Hbx.out; have h2 := Hgc.out; have h3 := y1.b.size; show w.heap.size ≤ gc; omega))
        have q0 := HT.out.bx.c 0 _ rfl
        have q1 := HT.out.bx.c 1 _ rfl
        have q2 := HT.out.bx.c 2 _ rfl
        obtain ⟨Y, hY⟩ := HU.out y
        have HN9 := Lib.hid (fun W' (hW : _ = W') => (show Nums W' gc N (celN zs size L) from hW ▸ hN9))
        clear HE hE2 hE3 Hsm Hsm2 H0 hN9 hlt2
        rw [hY] at HN9 q0 q1 q2 ⊢
        clear hY
        go_wp2_with fail
        have hsm : ∀ j, j < 3 → (Y.w.cell? ⟨bx + 1, j, none⟩).isSome = true := fun j hj => by
          match j, hj with
          | 0, _ => rw [hb1_0 Y]; rfl
          | 1, _ => rw [hb1_1 Y]; rfl
          | 2, _ => rw [hb1_2 Y]; rfl
        obtain ⟨z, hz, hc⟩ := set_many Y (g := bx + 1) [.int .i64 size, .int .i64 size, .slice (some ⟨gc, 0, none⟩) N N] hsm (Hup.out Y) (by have := Hbx.out; omega)
        simp only [World.setCells, Nat.reduceAdd] at hz
        rw [hz]
        have hc0 := hc 0 _ rfl
        have hc1 := hc 1 _ rfl
        have hc2 := hc 2 _ rfl
        exact bodyPost_ret (v := .tuple #[.agg #[.int .i64 size, .int .i64 size, .slice (some ⟨gc, 0, none⟩) N N], .int .i64 0]) (by simp [results, Tryd.results33, go_sem, hc0, hc1, hc2]) rfl (HB.out z (fun b hb => by cases hb; exact ⟨gc, rfl, nums_vals (HN9.out _ hz) _ (by have := HN.out; omega)⟩) (nums_row (HN9.out _ hz) _ (by have := HN.out; omega)))
end Go.Proofs.YtdkcclngionihaaDoor
/- The frame of the laws of releases: the table of signs; opening releases, tables, ratios. -/
namespace Go.Proofs.YtdkcclngionihaaDoor
open Go.ChangeShapes Go.WideShapes Go.ChangeAt Go.RowKit

def laidL : List (String × DataW Unit) := Rows.releaseChancesRow.laid
def signsName : String := ((laidL.map Prod.fst).head?).getD default
theorem gSigns : Tryd.prog.globalNamed signsName = some 0 := by kernel_rfl
theorem tSigns : (Tryd.prog.globals[0]?).map (·.type) = some 109 := by kernel_rfl
theorem cInts : Tryd.prog.cellsOf 22 = 1 := by kernel_rfl
theorem cArr : Tryd.prog.cellsOf 109 = 2 := by kernel_rfl
theorem cWin : Tryd.prog.cellsOf 25 = 2 := by kernel_rfl
set_option maxRecDepth 20000 in
theorem door_met (os : Os) (args : Array Value) : laidMetH Tryd.prog laidL ((World.doorLaid Tryd.prog 400 os).forCall (fun _ _ => 0) ⟨#[], args, []⟩).memory :=
  laidMetH_of_parts3 (fuel := 8) (laidMet_of_run' 8 (by kernel_rfl) (by kernel_rfl)) (by kernel_rfl) (by kernel_rfl)

set_option maxRecDepth 20000 in
theorem signs_of_laid {W : World} (h : laidMetH Tryd.prog laidL W) : Signs W := by
  rw [MakeChecks.laidMetH_plain _ _ _ (by kernel_rfl)] at h
  obtain ⟨ps, ⟨g0, t0, cs0, f0, p0, q0, hg0, ht0, hv0, hd0, _⟩, _⟩ := h
  obtain rfl := Option.some.inj (gSigns.symm.trans hg0)
  obtain rfl := Option.some.inj (tSigns.symm.trans ht0)
  obtain ⟨xs, m1, rfl, hx1, hlen, hn3, hel⟩ := DataW.trod_array Tryd.underlying109 hd0
  have h0 := hel 0 (by decide)
  have h1 := hel 1 (by decide)
  rw [cInt] at h0 h1
  rw [cArr] at hlen
  obtain ⟨l⟩ := cs0
  match l, hlen, xs, hn3, hx1, h0, h1, hv0 with
  | [c0, c1], _, [x0, x1], _, hx1, h0, h1, hv0 =>
    simp only [List.map_cons, List.map_nil, List.cons.injEq, Prod.mk.injEq, Rows.laid_bikeshare_noise_signs, DataW.agg.injEq] at hx1
    obtain ⟨k0, e0, d0, _⟩ := DataW.trod_int Tryd.underlying3 (show DataW.trod _ Tryd.prog W 0 _ _ m1 3 _ = some x0 from h0)
    obtain ⟨k1, e1, d1, _⟩ := DataW.trod_int Tryd.underlying3 (show DataW.trod _ Tryd.prog W 0 _ _ m1 3 _ = some x1 from h1)
    rw [d0, d1] at hx1
    have hk0 : k0 = -1 := by simpa using hx1.1.1.symm
    have hk1 : k1 = 1 := by simpa using hx1.1.2.1.symm
    have hc0 : c0 = .int .i64 (-1) := by rw [← hk0]; simpa using e0
    have hc1 : c1 = .int .i64 1 := by rw [← hk1]; simpa using e1
    have c0' : W.cell? ⟨0, 0, none⟩ = some (.int .i64 (-1)) := by
      rw [World.var?_cell hg0 hv0 0, hc0]; rfl
    have c1' : W.cell? ⟨0, 1, none⟩ = some (.int .i64 1) := by
      rw [World.var?_cell hg0 hv0 1, hc1]; rfl
    exact ⟨World.block_lt_of_cell? W _ c0', c0', c1'⟩

noncomputable def winF : Array Field := Tryd.prog.fieldsOf 25
theorem uWin : Tryd.prog.underlying 25 = some (.struct winF) := by kernel_rfl
theorem winL : (winF.toList.map fun f => (f.offset, f.type)) = [(0, 3), (1, 3)] := by kernel_rfl
section
variable {H : Type} {enc : TypeId × Value → H} {w : World} {base fuel : Nat} {spare : Nat → Bool} {held : Bool} {cs : List Value} {y : DataW H × List MemPlace}
set_option maxRecDepth 20000 in
theorem win1 {c d : Value} (h : DataW.trod enc Tryd.prog w base spare held fuel 25 [c, d] = some y) : ∃ m n : Int, c = .int .i64 m ∧ d = .int .i64 n ∧ I64 m ∧ I64 n := by
  obtain ⟨_, hf⟩ := trod_fields uWin winL h
  obtain ⟨_, _, h0⟩ := hf 0 _ rfl
  obtain ⟨_, _, h1⟩ := hf 1 _ rfl
  simp only [cInt] at h0 h1
  obtain ⟨m, rfl, hm⟩ := int1 h0
  obtain ⟨n, rfl, hn⟩ := int1 h1
  exact ⟨m, n, rfl, rfl, hm, hn⟩
end
section
variable {H : Type} {enc : TypeId × Value → H} {w : World} {b0 : Nat} {r : Reach} {held : Bool} {v : Value} {d : DataW H} {p : List MemPlace}
end
end Go.Proofs.YtdkcclngionihaaDoor
/- The frame of the laws of releases: opening questions, noise that is asked for. -/
namespace Go.Proofs.YtdkcclngionihaaDoor
open Go.ChangeShapes Go.WideShapes Go.ChangeAt Go.RowKit

theorem cRides : Tryd.prog.cellsOf 23 = 1 := by kernel_rfl
theorem cAsk : Tryd.prog.cellsOf 27 = 6 := by kernel_rfl
noncomputable def askF : Array Field := Tryd.prog.fieldsOf 27
theorem uAsk : Tryd.prog.underlying 27 = some (.struct askF) := by kernel_rfl
theorem askL : (askF.toList.map fun f => (f.offset, f.type)) = [(0, 22), (1, 3), (2, 23), (3, 25), (5, 3)] := by kernel_rfl
section
variable {H : Type} {enc : TypeId × Value → H} {w : World} {base fuel : Nat} {spare : Nat → Bool} {held : Bool} {cs : List Value} {y : DataW H × List MemPlace}
set_option maxRecDepth 20000 in
theorem ask1 (h : DataW.trod enc Tryd.prog w base spare held fuel 27 cs = some y) : ∃ q : Cas, cs = [.slice q.az q.zs.length q.cz, .int .i64 q.n, .slice q.a q.R.length q.c, .int .i64 q.f, .int .i64 q.t, .int .i64 q.e] ∧ q.At w ∧ ∀ r ∈ q.R, -9223372036854775808 ≤ r.s0 ∧ r.s0 ≤ 9223372036854775807 := by
  obtain ⟨hl, hf⟩ := trod_fields uAsk askL h
  rw [cAsk] at hl
  match cs, hl with
  | [c0, c1, c2, c3, c4, c5], _ =>
    obtain ⟨_, _, h0⟩ := hf 0 _ rfl
    obtain ⟨_, _, h1⟩ := hf 1 _ rfl
    obtain ⟨_, _, h2⟩ := hf 2 _ rfl
    obtain ⟨_, _, h3⟩ := hf 3 _ rfl
    obtain ⟨_, _, h4⟩ := hf 4 _ rfl
    simp only [cInt, cInts, cRides, cWin] at h0 h1 h2 h3 h4
    obtain ⟨az, zs, cz, rfl, k1, k2, k3, k4⟩ := open_row Tryd.underlying22 Tryd.underlying3 cInt h0
    obtain ⟨n, rfl, i1⟩ := int1 h1
    obtain ⟨a, R, c, hs, m1, m2, m3, m4, m5⟩ := open_sliceG (encA := Ride.cs) (Q := RideIn w) Tryd.underlying23 cRide (by decide) Ride.len (fun _ _ _ h => ride1 h) h2
    subst hs
    obtain ⟨f, t, rfl, rfl, i3, i4⟩ := win1 h3
    obtain ⟨e, rfl, i2⟩ := int1 h4
    exact ⟨⟨az, zs, cz, n, e, a, R, c, f, t⟩, rfl, ⟨k3, ⟨m4, fun x hx => (m5 x hx).1⟩, Nat.le_trans k1 k2, Nat.le_trans m1 m2, fun r hr => by
      obtain ⟨_, ⟨_, _, _, _, _, _, _, i7, _, i9, _⟩, _⟩ := m5 r hr
      exact ⟨i7.2, i9.2⟩⟩, fun r hr => by
      obtain ⟨_, ⟨_, _, i5, _⟩, _⟩ := m5 r hr
      exact i5⟩
end
section
variable {H : Type} {enc : TypeId × Value → H} {w : World} {b0 : Nat} {r : Reach} {held : Bool} {v : Value} {d : DataW H} {p : List MemPlace}
set_option maxRecDepth 20000 in
theorem open_ask (hv : Value.okWide Tryd.prog w r b0 27 v) (h : DataW.Trod enc Tryd.prog w 0 (fun _ => true) held 27 v d p) :
    ∃ q : Cas, v = .agg #[.slice q.az q.zs.length q.cz, .int .i64 q.n, .slice q.a q.R.length q.c, .int .i64 q.f, .int .i64 q.t, .int .i64 q.e] ∧ q.At w ∧ ∀ r ∈ q.R, -9223372036854775808 ≤ r.s0 ∧ r.s0 ≤ 9223372036854775807 := by
  obtain ⟨cs, rfl, hsz⟩ := okWide_struct uAsk hv
  obtain ⟨l⟩ := cs
  obtain ⟨fuel, hf⟩ := h
  obtain ⟨q, hq, hi⟩ := ask1 (show DataW.trod enc Tryd.prog w 0 (fun _ => true) held fuel 27 l = some (d, p) from hf)
  subst hq
  exact ⟨q, rfl, hi⟩
end
end Go.Proofs.YtdkcclngionihaaDoor
/- The laws of releases: few questions, rides without those of a rider on a day. -/
namespace Go.Proofs.YtdkcclngionihaaDoor
open Go.RowKit

def fewR (r : Ride) : Bool := decide (r.legs.length ≤ 10) && decide (r.pauses.length ≤ 10)
def fewQ (q : Cas) : Bool := decide (q.R.length ≤ 30 ∧ q.zs.length ≤ 100 ∧ q.n ≤ 4) && q.R.all fewR
theorem allR_no {l : List Ride} {k : Nat} {e : Ride} (he : l[k]? = some e) (h : fewR e = false) : l.all fewR = false := by
  rw [List.all_eq_false]
  exact ⟨e, List.mem_of_getElem? he, by rw [h]; simp⟩
theorem allR_yes {l : List Ride} (h : ∀ j, j < l.length → ∀ e, l[j]? = some e → fewR e = true) : l.all fewR = true := by
  rw [List.all_eq_true]
  intro e he
  obtain ⟨j, hj⟩ := List.mem_iff_getElem?.1 he
  exact h j (List.getElem?_eq_some_iff.1 hj).1 e hj
set_option maxRecDepth 100000 in
set_option maxHeartbeats 4000000 in
theorem few56_calls (w : World) (x : Since w) (q : Cas) (h : q.At w) :
    Calls Tryd.prog 10 #[.agg #[.slice q.az q.zs.length q.cz, .int .i64 q.n, .slice q.a q.R.length q.c, .int .i64 q.f, .int .i64 q.t, .int .i64 q.e]] x.w fun o w' => o = .returned (.bool (fewQ q)) ∧ ∃ y : Since w, w' = y.w := by
  have HR := Lib.hid h.r
  have hrl := h.rl
  have hzl := h.zl
  have HF := Lib.hid (show fewQ q = (decide (q.R.length ≤ 30 ∧ q.zs.length ≤ 100 ∧ q.n ≤ 4) && q.R.all fewR) from rfl)
  obtain ⟨az, zs, cz, n, e, a, R, c, f, t⟩ := q
  dsimp only at hrl hzl HR HF ⊢
  generalize fewQ ⟨az, zs, cz, n, e, a, R, c, f, t⟩ = FQ at *
  clear h
  go_enter Tryd.func10, Tryd.ntmps10
  go_upto_region 1 with fail
  have hb0_0 : ∀ y : Since (x.w.alloc (.cells #[.slice az zs.length cz, .int .i64 n, .slice a R.length c, .int .i64 f, .int .i64 t, .int .i64 e] 27)), y.w.cell? ⟨x.w.heap.size, 0, none⟩ = some (.slice az zs.length cz) := fun y => Since.cell (by simp [go_sem]) (by first | (simp; done) | (simp; omega)) y
  have hb0_1 : ∀ y : Since (x.w.alloc (.cells #[.slice az zs.length cz, .int .i64 n, .slice a R.length c, .int .i64 f, .int .i64 t, .int .i64 e] 27)), y.w.cell? ⟨x.w.heap.size, 1, none⟩ = some (.int .i64 n) := fun y => Since.cell (by simp [go_sem]) (by first | (simp; done) | (simp; omega)) y
  have hb0_2 : ∀ y : Since (x.w.alloc (.cells #[.slice az zs.length cz, .int .i64 n, .slice a R.length c, .int .i64 f, .int .i64 t, .int .i64 e] 27)), y.w.cell? ⟨x.w.heap.size, 2, none⟩ = some (.slice a R.length c) := fun y => Since.cell (by simp [go_sem]) (by first | (simp; done) | (simp; omega)) y
  have hb0_3 : ∀ y : Since (x.w.alloc (.cells #[.slice az zs.length cz, .int .i64 n, .slice a R.length c, .int .i64 f, .int .i64 t, .int .i64 e] 27)), y.w.cell? ⟨x.w.heap.size, 3, none⟩ = some (.int .i64 f) := fun y => Since.cell (by simp [go_sem]) (by first | (simp; done) | (simp; omega)) y
  have hb0_4 : ∀ y : Since (x.w.alloc (.cells #[.slice az zs.length cz, .int .i64 n, .slice a R.length c, .int .i64 f, .int .i64 t, .int .i64 e] 27)), y.w.cell? ⟨x.w.heap.size, 4, none⟩ = some (.int .i64 t) := fun y => Since.cell (by simp [go_sem]) (by first | (simp; done) | (simp; omega)) y
  have hb0_5 : ∀ y : Since (x.w.alloc (.cells #[.slice az zs.length cz, .int .i64 n, .slice a R.length c, .int .i64 f, .int .i64 t, .int .i64 e] 27)), y.w.cell? ⟨x.w.heap.size, 5, none⟩ = some (.int .i64 e) := fun y => Since.cell (by simp [go_sem]) (by first | (simp; done) | (simp; omega)) y
  have hf0 : ∀ (y : Since (x.w.alloc (.cells #[.slice az zs.length cz, .int .i64 n, .slice a R.length c, .int .i64 f, .int .i64 t, .int .i64 e] 27))) (o : Nat), y.w.frozen? ⟨x.w.heap.size, o, none⟩ = false := fun y o => Since.free (by simp [go_sem]) (by first | (simp; done) | (simp; omega)) y
  have hWup : ∃ z : Since w, (x.w.alloc (.cells #[.slice az zs.length cz, .int .i64 n, .slice a R.length c, .int .i64 f, .int .i64 t, .int .i64 e] 27)) = z.w := x.alloc _
  obtain ⟨y0, hy0⟩ := Since.refl (x.w.alloc (.cells #[.slice az zs.length cz, .int .i64 n, .slice a R.length c, .int .i64 f, .int .i64 t, .int .i64 e] 27))
  have Hbx := Lib.hid (And.intro x.b.size (show x.w.heap.size + 1 = (x.w.alloc (.cells #[.slice az zs.length cz, .int .i64 n, .slice a R.length c, .int .i64 f, .int .i64 t, .int .i64 e] 27)).heap.size from by simp))
  generalize hW : (x.w.alloc (.cells #[.slice az zs.length cz, .int .i64 n, .slice a R.length c, .int .i64 f, .int .i64 t, .int .i64 e] 27)) = W at *
  clear hW
  generalize x.w.heap.size = bx at *
  have Hup := Lib.hid (Since.up hWup)
  rw [hy0]
  clear hy0
  replace HR := Lib.hid (HR.out.to hWup)
  clear hWup hf0
  by_cases hok : R.length ≤ 30 ∧ zs.length ≤ 100 ∧ n ≤ 4
  · have HF2 := Lib.hid (show FQ = R.all fewR by rw [HF.out, decide_eq_true hok, Bool.true_and])
    obtain ⟨g1, g2, g3⟩ := hok
    clear HF
    go_upto_region 4 with fail
    go_loopw [3] (fun i wr => ∃ (k : Nat) (y : Since W), k ≤ R.length ∧ i = .int .i64 k ∧ wr = y.w ∧ ∀ j, j < k → ∀ e : Ride, R[j]? = some e → fewR e = true) (fun i _ => R.length - (intOf i).toNat)
    case atStart => exact ⟨0, y0, by omega, rfl, rfl, fun j hj => by omega⟩
    case round =>
      obtain ⟨k, y, hk, rfl, rfl, hok⟩ := hrel
      have Hok := Lib.hid hok; clear hok
      by_cases hlt : k < R.length
      · obtain ⟨e2, he⟩ : ∃ e, R[k]? = some e := ⟨_, List.getElem?_eq_getElem hlt⟩
        obtain ⟨b1, off1, rfl, h1'⟩ := Els.ride HR.out.c he
        have hlm := (HR.out.r e2 (List.mem_of_getElem? he)).lm
        have hpm := (HR.out.r e2 (List.mem_of_getElem? he)).pm
        have pa7 := h1'.c7
        have pa8 := h1'.c8
        have hk0 : (0 : Int) ≤ (k : Int) := by omega
        have hkl : (k : Int) < (R.length : Int) := by omega
        have He := Lib.hid he
        clear h1' he
        rcases (by omega : 10 < e2.legs.length ∨ (e2.legs.length ≤ 10 ∧ 10 < e2.pauses.length) ∨ (e2.legs.length ≤ 10 ∧ e2.pauses.length ≤ 10)) with h1 | ⟨h1, h2⟩ | ⟨h1, h2⟩
        case inr.inr =>
          have Hv := Lib.hid (fun j (hj : j < k + 1) (e3 : Ride) (h3 : R[j]? = some e3) => show fewR e3 = true from by
            by_cases e4 : j = k
            · subst e4
              rw [He.out] at h3
              cases h3
              unfold fewR; simp [h1, h2]
            · exact Hok.out j (by omega) e3 h3)
          go_wp2_with fail
          go_roundw
          case rel => exact ⟨k + 1, y, by omega, by go_num, rfl, Hv.out⟩
          case measure => simp [intOf] <;> omega
        all_goals
          have Hr := Lib.hid (show FQ = false by rw [HF2.out]; exact allR_no He.out (by unfold fewR; first | (rw [decide_eq_false (show ¬ e2.legs.length ≤ 10 by omega)]; rfl) | (rw [decide_eq_false (show ¬ e2.pauses.length ≤ 10 by omega), Bool.and_false])))
          go_wp2_with fail
          go_ret
          exact ⟨ret_bool Hr.out.symm, Hup.out y⟩
      · obtain rfl : k = R.length := by omega
        have Hr := Lib.hid (show FQ = true by rw [HF2.out]; exact allR_yes Hok.out)
        go_wp2_with fail
        go_ret
        exact ⟨ret_bool Hr.out.symm, Hup.out y⟩
  · have Hr := Lib.hid (show FQ = false by rw [HF.out, decide_eq_false hok]; rfl)
    have hx : 30 < R.length ∨ (R.length ≤ 30 ∧ 100 < zs.length) ∨ (R.length ≤ 30 ∧ zs.length ≤ 100 ∧ 4 < n) := by omega
    clear hok HF
    rcases hx with h1 | ⟨h1, h2⟩ | ⟨h1, h2, h3⟩
    all_goals
      go_wp2_with fail
      go_ret
      exact ⟨ret_bool Hr.out.symm, Hup.out y0⟩
end Go.Proofs.YtdkcclngionihaaDoor
