/- Texts of moments, fourth part: Parse by the program. -/
import Derived.Test.YtnkmngkinjjbfaaDoorClT3
import Derived.Test.YtnkmngkinjjbfaaDoorClPar
set_option linter.all false
namespace Go.Proofs.YtnkmngkinjjbfaaDoor
open Go.RowKit

theorem atoi_ok (w : World) (x : Since w) (s : ByteArray) (hs : s.size ≤ 1000) (v : Int) (h : Lib.atoiAll s.data.toList = .ok v) :
    Calls Tryd.prog 43 #[.string s] x.w fun o w' => o = .returned (.tuple #[.int .i64 v, .nilIface]) ∧ ∃ y : Since w, w' = y.w := by
  refine (Any.strconv_Atoi_ok Tryd.laysAtoi s (by omega) v h x.w).mono ?_
  rintro o w' ⟨ho, hw⟩
  refine ⟨ho, ?_⟩
  rcases hw with rfl | ⟨t, rfl⟩
  · exact ⟨x, rfl⟩
  · exact x.step (Lib.bytesWorld_below _ _ _)
theorem atoi_or (l : List UInt8) : (∃ v, Lib.atoiAll l = .ok v) ∨ (∀ v, Lib.atoiAll l ≠ .ok v) := by
  by_cases h : ∃ v, Lib.atoiAll l = .ok v
  · exact Or.inl h
  · exact Or.inr fun v hv => h ⟨v, hv⟩
def AtoiBad (w : World) (o : Ending) (w' : World) : Prop := ∃ (n : Int) (T : TypeId) (g : Nat) (y : Since w), o = .returned (.tuple #[.int .i64 n, .iface T (.pointer (some ⟨g, 0, none⟩))]) ∧ w' = y.w
theorem atoi_bad (w : World) (x : Since w) (hT : Tabs w) (s : ByteArray) (hs : s.size ≤ 1000) (h : ∀ v, Lib.atoiAll s.data.toList ≠ .ok v) :
    Calls Tryd.prog 43 #[.string s] x.w (AtoiBad w) := by
  obtain ⟨t1, p1, h1⟩ := (hT.to x).es
  obtain ⟨t2, p2, h2⟩ := (hT.to x).er
  cases hc : Lib.atoiAll s.data.toList
  · exact (h _ hc).elim
  · refine (Any.strconv_Atoi_syntax_var Tryd.laysAtoi s (by omega) hc t1 p1 x.w h1).mono ?_
    rintro o w' ⟨N, ho, _, _, hb⟩
    obtain ⟨y, rfl⟩ := x.step hb
    exact ⟨_, _, N, y, ho, rfl⟩
  · refine (Any.strconv_Atoi_range_var Tryd.laysAtoi s (by omega) hc t2 p2 x.w h2).mono ?_
    rintro o w' ⟨N, ho, _, _, hb⟩
    obtain ⟨y, rfl⟩ := x.step hb
    exact ⟨_, _, N, y, ho, rfl⟩
theorem toL (S : ByteArray) : S.toList = S.data.toList := by
  obtain ⟨⟨l⟩⟩ := S; simp
def ParRes (w : World) (l : List UInt8) (o : Ending) (w' : World) : Prop := ∃ (n e : Int) (y : Since w), o = .returned (.tuple #[.int .i64 n, .int .i64 e]) ∧ w' = y.w ∧ ParOk l n e
theorem parRes {w : World} {l : List UInt8} (n e : Int) (y : Since w) (h : ParOk l n e) : ParRes w l (.returned (.tuple #[.int .i64 n, .int .i64 e])) y.w := ⟨n, e, y, rfl, rfl, h⟩
set_option maxRecDepth 100000 in
set_option maxHeartbeats 8000000 in
theorem parse_calls (w : World) (x : Since w) (hT : Tabs w) (s : ByteArray) (hs : s.size ≤ 100) :
    Calls Tryd.prog 14 #[.string s] x.w (ParRes w s.data.toList) := by
  have HT := Lib.hid hT
  have Hno := Lib.hid (fun (h : ∀ n : Nat, n ≤ 4294943999 → textN n ≠ s.data.toList) (y : Since w) => parRes 0 3 y (parOk_no h))
  have Hyes := Lib.hid (fun (n : Nat) (h : n ≤ 4294943999) (hl : textN n = s.data.toList) (t : Int) (ht : t = n) (y : Since w) => show ParRes w s.data.toList (.returned (.tuple #[.int .i64 t, .int .i64 0])) y.w by subst ht; rw [← hl]; exact parRes n 0 y (parOk_yes h))
  have Hlen := Lib.hid (show s.data.toList.length = s.size by simp)
  clear hT
  by_cases h9 : s.size < 10
  · have Hn := Lib.hid (Hno.out (short_text (by rw [Hlen.out]; exact h9)))
    have h2 : (s.size : Int) - 9 < 1 := by omega
    generalize ParRes w s.data.toList = PO at *
    clear Hno Hyes
    go_enter Tryd.func14, Tryd.ntmps14
    go_wp2_with fail
    exact Hn.out x
  · obtain ⟨m, hm⟩ : ∃ m : Nat, s.size = m + 9 := ⟨s.size - 9, by omega⟩
    have Hm := Lib.hid hm
    have HP := Lib.hid (parts_of s m hm (by omega))
    have hm0 : (0 : Int) ≤ (m : Int) := by omega
    have hm9 : (m : Int) ≤ (s.size : Int) := by omega
    have hmm : (m : Int) ≤ (m : Int) + 9 := by omega
    have w1 : IntKind.i64.wrap ((m : Int) + 1) = (m : Int) + 1 := IntWalk.i64_in _ (by omega)
    have w3 : IntKind.i64.wrap ((m : Int) + 3) = (m : Int) + 3 := IntWalk.i64_in _ (by omega)
    have w4 : IntKind.i64.wrap ((m : Int) + 4) = (m : Int) + 4 := IntWalk.i64_in _ (by omega)
    have w6 : IntKind.i64.wrap ((m : Int) + 6) = (m : Int) + 6 := IntWalk.i64_in _ (by omega)
    have w7 : IntKind.i64.wrap ((m : Int) + 7) = (m : Int) + 7 := IntWalk.i64_in _ (by omega)
    have t1 : ((m : Int) + 1).toNat = m + 1 := by omega
    have t3 : ((m : Int) + 3).toNat = m + 3 := by omega
    have t4 : ((m : Int) + 4).toNat = m + 4 := by omega
    have t6 : ((m : Int) + 6).toNat = m + 6 := by omega
    have t7 : ((m : Int) + 7).toNat = m + 7 := by omega
    have p1 : (0 : Int) ≤ (m : Int) + 1 := by omega
    have p3 : (0 : Int) ≤ (m : Int) + 3 := by omega
    have p4 : (0 : Int) ≤ (m : Int) + 4 := by omega
    have p6 : (0 : Int) ≤ (m : Int) + 6 := by omega
    have p7 : (0 : Int) ≤ (m : Int) + 7 := by omega
    have z0 : (s.extract 0 m).size ≤ 1000 := by rw [ByteArray.size_extract]; omega
    have z1 : (s.extract (m + 1) (m + 3)).size ≤ 1000 := by rw [ByteArray.size_extract]; omega
    have z2 : (s.extract (m + 4) (m + 6)).size ≤ 1000 := by rw [ByteArray.size_extract]; omega
    have z3 : (s.extract (m + 7) (m + 9)).size ≤ 1000 := by rw [ByteArray.size_extract]; omega
    have Hz := Lib.hid (And.intro (And.intro z0 z1) (And.intro z2 z3))
    clear z0 z1 z2 z3
    generalize ParRes w s.data.toList = PO at *
    go_enter Tryd.func14, Tryd.ntmps14
    go_wp2_with fail
    go_region_held3 (fun w' => True) (trivial) (fail)
    clear w1 w3 w4 w6 w7 p1 p3 p4 p6 p7 hm t1 t3 t4 t6 t7
    generalize s.extract 0 m = A at *
    generalize s.extract (m + 1) (m + 3) = B at *
    generalize s.extract (m + 4) (m + 6) = C at *
    generalize s.extract (m + 7) (m + 9) = D at *
    have hx0 : ((x.w.alloc (.cells #[.string A, .string B, .string C, .string D] 9)).drew).cell? ⟨x.w.heap.size, 0, none⟩ = some (.string A) := by simp [go_sem]
    have hx1 : ((x.w.alloc (.cells #[.string A, .string B, .string C, .string D] 9)).drew).cell? ⟨x.w.heap.size, 1, none⟩ = some (.string B) := by simp [go_sem]
    have hx2 : ((x.w.alloc (.cells #[.string A, .string B, .string C, .string D] 9)).drew).cell? ⟨x.w.heap.size, 2, none⟩ = some (.string C) := by simp [go_sem]
    have hx3 : ((x.w.alloc (.cells #[.string A, .string B, .string C, .string D] 9)).drew).cell? ⟨x.w.heap.size, 3, none⟩ = some (.string D) := by simp [go_sem]
    have hxf : ∀ o, ((x.w.alloc (.cells #[.string A, .string B, .string C, .string D] 9)).drew).frozen? ⟨x.w.heap.size, o, none⟩ = false := fun o => by simp [go_sem]
    have hlt0 : x.w.heap.size < ((x.w.alloc (.cells #[.string A, .string B, .string C, .string D] 9)).drew).heap.size := by simp
    have hst0 : ∃ zz : Since x.w, ((x.w.alloc (.cells #[.string A, .string B, .string C, .string D] 9)).drew) = zz.w := IsSince.drew' (IsSince.alloc (IsSince.self _) _)
    have hsz0 := x.b.size
    obtain ⟨y1, e2⟩ := IsSince.drew' (IsSince.alloc (IsSince.of x) (.cells #[.string A, .string B, .string C, .string D] 9))
    rw [e2] at hx0 hx1 hx2 hx3 hxf hlt0 hst0 ⊢
    skip
    clear e2 hst0
    generalize x.w.heap.size = g at *
    have Hhx0 : ∀ q : Since y1.w, q.w.cell? ⟨g, 0, none⟩ = some (.string A) := fun q => Since.cell hx0 (by omega) q
    have Hhx1 : ∀ q : Since y1.w, q.w.cell? ⟨g, 1, none⟩ = some (.string B) := fun q => Since.cell hx1 (by omega) q
    have Hhx2 : ∀ q : Since y1.w, q.w.cell? ⟨g, 2, none⟩ = some (.string C) := fun q => Since.cell hx2 (by omega) q
    have Hhx3 : ∀ q : Since y1.w, q.w.cell? ⟨g, 3, none⟩ = some (.string D) := fun q => Since.cell hx3 (by omega) q
    have Hhxf : ∀ (q : Since y1.w) (o : Nat), q.w.frozen? ⟨g, o, none⟩ = false := fun q o => Since.free (hxf o) (by omega) q
    have Hhxg := Lib.hid (And.intro hsz0 hlt0)
    clear hlt0 hsz0
    clear hx0 hx1 hx2 hx3 hxf Hhxf
    go_wp2_with fail
    have HT1 := Lib.hid (HT.out.to y1)
    have HU := Lib.hid (fun q : Since y1.w => y1.trans q)
    go_loopw [38, 5] (fun sk st wr => ∃ (k t : Int) (y : Since y1.w), sk = .int .i64 k ∧ st = .int .i64 t ∧ wr = y.w ∧ PInv A.data.toList B.data.toList C.data.toList D.data.toList k t) (fun sk _ _ => 4 - (intOf sk).toNat)
    case atStart => exact ⟨0, 0, Since.self _, rfl, rfl, rfl, .p0⟩
    case round =>
      obtain ⟨k, t, y, rfl, rfl, rfl, hinv⟩ := hrel
      have hr := pinv_range hinv
      cases hinv with
      | p0 =>
        clear hr
        rcases atoi_or A.data.toList with ⟨v, hv⟩ | hv
        · rcases (by omega : v < 0 ∨ 49709 < v ∨ (0 ≤ v ∧ v ≤ 49709)) with hr | hr | ⟨hr, hr'⟩
          · have HB := Lib.hid (Hno.out (bad_a HP.out (rok_out hv (Or.inl hr))))
            have Hc := Lib.hid (atoi_ok y1.w y A Hz.out.1.1 v hv)
            clear hv
            go_wp2_with (go_at_call 43; ((with_reducible refine Hc.out.mono ?_); rintro _ _ ⟨rfl, y2, rfl⟩))
            obtain ⟨z, hz⟩ := HU.out y2
            rw [hz]
            exact HB.out z
          · have HB := Lib.hid (Hno.out (bad_a HP.out (rok_out hv (Or.inr hr))))
            have Hc := Lib.hid (atoi_ok y1.w y A Hz.out.1.1 v hv)
            have hr0 : ¬ v < 0 := by omega
            clear hv
            go_wp2_with (go_at_call 43; ((with_reducible refine Hc.out.mono ?_); rintro _ _ ⟨rfl, y2, rfl⟩))
            obtain ⟨z, hz⟩ := HU.out y2
            rw [hz]
            exact HB.out z
          · have Hv := Lib.hid (show ROk A.data.toList v from ⟨hv, hr, hr'⟩)
            have Hc := Lib.hid (atoi_ok y1.w y A Hz.out.1.1 v hv)
            clear hv
            go_wp2_with (go_at_call 43; ((with_reducible refine Hc.out.mono ?_); rintro _ _ ⟨rfl, y2, rfl⟩))
            go_roundw
            case rel => exact ⟨1, _, y2, rfl, rfl, rfl, .p1 v Hv.out⟩
            case measure => simp [intOf] <;> omega
        · have HB := Lib.hid (Hno.out (bad_a HP.out (rok_no hv)))
          have Hc := Lib.hid (atoi_bad y1.w y HT1.out A Hz.out.1.1 hv)
          clear hv
          go_wp2_with (go_at_call 43; ((with_reducible refine Hc.out.mono ?_); rintro _ _ ⟨n9, T9, g9, y2, rfl, rfl⟩))
          obtain ⟨z, hz⟩ := HU.out y2
          rw [hz]
          exact HB.out z
      | p1 v0 h0 =>
        have H0 := Lib.hid h0
        have hv0 := h0.2
        obtain ⟨b0, c0⟩ := hv0
        clear h0
        clear hr
        rcases atoi_or B.data.toList with ⟨v, hv⟩ | hv
        · rcases (by omega : v < 0 ∨ 49709 < v ∨ (0 ≤ v ∧ v ≤ 49709)) with hr | hr | ⟨hr, hr'⟩
          · have HB := Lib.hid (Hno.out (bad_b HP.out (rok_out hv (Or.inl hr))))
            have Hc := Lib.hid (atoi_ok y1.w y B Hz.out.1.2 v hv)
            clear hv
            go_wp2_with (go_at_call 43; ((with_reducible refine Hc.out.mono ?_); rintro _ _ ⟨rfl, y2, rfl⟩))
            obtain ⟨z, hz⟩ := HU.out y2
            rw [hz]
            exact HB.out z
          · have HB := Lib.hid (Hno.out (bad_b HP.out (rok_out hv (Or.inr hr))))
            have Hc := Lib.hid (atoi_ok y1.w y B Hz.out.1.2 v hv)
            have hr0 : ¬ v < 0 := by omega
            clear hv
            go_wp2_with (go_at_call 43; ((with_reducible refine Hc.out.mono ?_); rintro _ _ ⟨rfl, y2, rfl⟩))
            obtain ⟨z, hz⟩ := HU.out y2
            rw [hz]
            exact HB.out z
          · have Hv := Lib.hid (show ROk B.data.toList v from ⟨hv, hr, hr'⟩)
            have Hc := Lib.hid (atoi_ok y1.w y B Hz.out.1.2 v hv)
            clear hv
            go_wp2_with (go_at_call 43; ((with_reducible refine Hc.out.mono ?_); rintro _ _ ⟨rfl, y2, rfl⟩))
            go_roundw
            case rel => exact ⟨2, _, y2, rfl, rfl, rfl, .p2 v0 v H0.out Hv.out⟩
            case measure => simp [intOf] <;> omega
        · have HB := Lib.hid (Hno.out (bad_b HP.out (rok_no hv)))
          have Hc := Lib.hid (atoi_bad y1.w y HT1.out B Hz.out.1.2 hv)
          clear hv
          go_wp2_with (go_at_call 43; ((with_reducible refine Hc.out.mono ?_); rintro _ _ ⟨n9, T9, g9, y2, rfl, rfl⟩))
          obtain ⟨z, hz⟩ := HU.out y2
          rw [hz]
          exact HB.out z
      | p2 v0 v1 h0 h1 =>
        have H0 := Lib.hid h0
        have hv0 := h0.2
        obtain ⟨b0, c0⟩ := hv0
        clear h0
        have H1 := Lib.hid h1
        have hv1 := h1.2
        obtain ⟨b1, c1⟩ := hv1
        clear h1
        clear hr
        rcases atoi_or C.data.toList with ⟨v, hv⟩ | hv
        · rcases (by omega : v < 0 ∨ 49709 < v ∨ (0 ≤ v ∧ v ≤ 49709)) with hr | hr | ⟨hr, hr'⟩
          · have HB := Lib.hid (Hno.out (bad_c HP.out (rok_out hv (Or.inl hr))))
            have Hc := Lib.hid (atoi_ok y1.w y C Hz.out.2.1 v hv)
            clear hv
            go_wp2_with (go_at_call 43; ((with_reducible refine Hc.out.mono ?_); rintro _ _ ⟨rfl, y2, rfl⟩))
            obtain ⟨z, hz⟩ := HU.out y2
            rw [hz]
            exact HB.out z
          · have HB := Lib.hid (Hno.out (bad_c HP.out (rok_out hv (Or.inr hr))))
            have Hc := Lib.hid (atoi_ok y1.w y C Hz.out.2.1 v hv)
            have hr0 : ¬ v < 0 := by omega
            clear hv
            go_wp2_with (go_at_call 43; ((with_reducible refine Hc.out.mono ?_); rintro _ _ ⟨rfl, y2, rfl⟩))
            obtain ⟨z, hz⟩ := HU.out y2
            rw [hz]
            exact HB.out z
          · have Hv := Lib.hid (show ROk C.data.toList v from ⟨hv, hr, hr'⟩)
            have Hc := Lib.hid (atoi_ok y1.w y C Hz.out.2.1 v hv)
            clear hv
            go_wp2_with (go_at_call 43; ((with_reducible refine Hc.out.mono ?_); rintro _ _ ⟨rfl, y2, rfl⟩))
            go_roundw
            case rel => exact ⟨3, _, y2, rfl, rfl, rfl, .p3 v0 v1 v H0.out H1.out Hv.out⟩
            case measure => simp [intOf] <;> omega
        · have HB := Lib.hid (Hno.out (bad_c HP.out (rok_no hv)))
          have Hc := Lib.hid (atoi_bad y1.w y HT1.out C Hz.out.2.1 hv)
          clear hv
          go_wp2_with (go_at_call 43; ((with_reducible refine Hc.out.mono ?_); rintro _ _ ⟨n9, T9, g9, y2, rfl, rfl⟩))
          obtain ⟨z, hz⟩ := HU.out y2
          rw [hz]
          exact HB.out z
      | p3 v0 v1 v2 h0 h1 h2 =>
        have H0 := Lib.hid h0
        have hv0 := h0.2
        obtain ⟨b0, c0⟩ := hv0
        clear h0
        have H1 := Lib.hid h1
        have hv1 := h1.2
        obtain ⟨b1, c1⟩ := hv1
        clear h1
        have H2 := Lib.hid h2
        have hv2 := h2.2
        obtain ⟨b2, c2⟩ := hv2
        clear h2
        clear hr
        rcases atoi_or D.data.toList with ⟨v, hv⟩ | hv
        · rcases (by omega : v < 0 ∨ 49709 < v ∨ (0 ≤ v ∧ v ≤ 49709)) with hr | hr | ⟨hr, hr'⟩
          · have HB := Lib.hid (Hno.out (bad_d HP.out (rok_out hv (Or.inl hr))))
            have Hc := Lib.hid (atoi_ok y1.w y D Hz.out.2.2 v hv)
            clear hv
            go_wp2_with (go_at_call 43; ((with_reducible refine Hc.out.mono ?_); rintro _ _ ⟨rfl, y2, rfl⟩))
            obtain ⟨z, hz⟩ := HU.out y2
            rw [hz]
            exact HB.out z
          · have HB := Lib.hid (Hno.out (bad_d HP.out (rok_out hv (Or.inr hr))))
            have Hc := Lib.hid (atoi_ok y1.w y D Hz.out.2.2 v hv)
            have hr0 : ¬ v < 0 := by omega
            clear hv
            go_wp2_with (go_at_call 43; ((with_reducible refine Hc.out.mono ?_); rintro _ _ ⟨rfl, y2, rfl⟩))
            obtain ⟨z, hz⟩ := HU.out y2
            rw [hz]
            exact HB.out z
          · have Hv := Lib.hid (show ROk D.data.toList v from ⟨hv, hr, hr'⟩)
            have Hc := Lib.hid (atoi_ok y1.w y D Hz.out.2.2 v hv)
            clear hv
            go_wp2_with (go_at_call 43; ((with_reducible refine Hc.out.mono ?_); rintro _ _ ⟨rfl, y2, rfl⟩))
            go_roundw
            case rel => exact ⟨4, _, y2, rfl, rfl, rfl, .p4 v0 v1 v2 v H0.out H1.out H2.out Hv.out⟩
            case measure => simp [intOf] <;> omega
        · have HB := Lib.hid (Hno.out (bad_d HP.out (rok_no hv)))
          have Hc := Lib.hid (atoi_bad y1.w y HT1.out D Hz.out.2.2 hv)
          clear hv
          go_wp2_with (go_at_call 43; ((with_reducible refine Hc.out.mono ?_); rintro _ _ ⟨n9, T9, g9, y2, rfl, rfl⟩))
          obtain ⟨z, hz⟩ := HU.out y2
          rw [hz]
          exact HB.out z
      | p4 v0 v1 v2 v3 h0 h1 h2 h3 =>
        have HI := Lib.hid (PInv.p4 v0 v1 v2 v3 h0 h1 h2 h3)
        clear h0 h1 h2 h3
        generalize v0 * 86400 + v1 * 3600 + v2 * 60 + v3 = T at *
        have Hs := Lib.hid (fun (n : Nat) (hn : n ≤ 4294943999) (hl : textN n = s.data.toList) => sum_text HP.out HI.out hn hl)
        by_cases hr2 : T ≤ 4294943999
        · have He : momE T = 0 := if_pos ⟨hr.1, hr2⟩
          have Htx := Lib.hid (text_calls y1.w y HT1.out T)
          unfold TextRes at Htx
          rw [He] at Htx
          clear He
          go_wp2_with (go_at_call 12; ((with_reducible refine Htx.out.mono ?_); rintro _ _ ⟨S, y2, rfl, rfl, hS⟩; have HS := Lib.hid hS; clear hS))
          · rename_i hne
            obtain ⟨z, hz⟩ := HU.out y2
            rw [hz]
            refine Hno.out (fun n hn hl => ?_) z
            have hT := Hs.out n hn hl
            have h2 := HS.out
            rw [hT, textL_yes hn, hl] at h2
            have h3 : S = s := by cases S; cases s; simp at h2; simp [h2]
            rw [h3] at hne
            simp at hne
          · rename_i heq
            obtain ⟨z, hz⟩ := HU.out y2
            rw [hz]
            have h3 : S.data.toList = s.data.toList := by rw [← toL, ← toL]; simpa using heq
            refine Hyes.out T.toNat (by omega) ?_ T (by omega) z
            rw [← h3, HS.out]
            unfold textL
            rw [if_pos ⟨hr.1, hr2⟩]
        · have He : momE T = 1 := if_neg (by omega)
          have HB := Lib.hid (Hno.out (fun n hn hl => by have := Hs.out n hn hl; omega))
          have Htx := Lib.hid (text_calls y1.w y HT1.out T)
          unfold TextRes at Htx
          rw [He] at Htx
          clear He
          go_wp2_with (go_at_call 12; ((with_reducible refine Htx.out.mono ?_); rintro _ _ ⟨S, y2, rfl, rfl, hS⟩; clear hS))
          obtain ⟨z, hz⟩ := HU.out y2
          rw [hz]
          exact HB.out z
end Go.Proofs.YtnkmngkinjjbfaaDoor
