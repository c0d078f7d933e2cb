/- The laws of windows, second part: the chapter's examples, walked. -/
import Derived.Test.YtnkmngkinjjbfaaDoorClL1
set_option linter.all false
namespace Go.Proofs.YtnkmngkinjjbfaaDoor
open Go.RowKit

theorem exU : IsSet [⟨1, 4⟩, ⟨5, 9⟩] (hasW [⟨5, 9⟩, ⟨1, 3⟩, ⟨3, 4⟩]) := by
  refine ⟨⟨fun x hx => ?_, by simp⟩, fun t => ?_⟩
  · simp at hx; rcases hx with rfl | rfl <;> decide
  · rw [hasW_cons, hasW_one, hasW_cons, hasW_cons, hasW_one, Bool.eq_iff_iff]
    simp only [Bool.or_eq_true, inW_iff]
    omega
theorem exM : IsSet [⟨0, 3⟩, ⟨5, 10⟩] (fun t => hasW [⟨0, 10⟩] t && !hasW [⟨3, 5⟩] t) := by
  refine ⟨⟨fun x hx => ?_, by simp⟩, fun t => ?_⟩
  · simp at hx; rcases hx with rfl | rfl <;> decide
  · show hasW [⟨0, 3⟩, ⟨5, 10⟩] t = (hasW [⟨0, 10⟩] t && !hasW [⟨3, 5⟩] t)
    rw [hasW_cons, hasW_one, hasW_one, hasW_one, Bool.eq_iff_iff]
    simp only [Bool.or_eq_true, Bool.and_eq_true, Bool.not_eq_true', ← Bool.not_eq_true, inW_iff]
    omega
theorem exL : IsSet [⟨0, 6⟩] (hasW [⟨0, 4⟩, ⟨2, 6⟩]) := by
  refine ⟨⟨fun x hx => ?_, by simp⟩, fun t => ?_⟩
  · simp at hx; subst hx; decide
  · rw [hasW_one, hasW_cons, hasW_one, Bool.eq_iff_iff]
    simp only [Bool.or_eq_true, inW_iff]
    omega
/-- a list of windows of the call's own and an error, known -/
def GotS (W w : World) (l : List Win) (n : Nat) (e : Int) (o : Ending) (w' : World) : Prop :=
  ∃ (a : Option Addr) (cap : Nat) (z : Since W), o = .returned (.tuple #[.slice a n cap, .int .i64 e]) ∧ w' = z.w ∧ (∃ v : Since w, z.w = v.w) ∧ WinRow z.w a l ∧ n ≤ cap
theorem gotS {W w : World} {Q : List Win → Prop} {l : List Win} {n : Nat} {e : Int} (hl : ∀ u, Q u → u = l) (hn : l.length = n) {o : Ending} {w' : World} (k : SetS W w Q e o w') : GotS W w l n e o w' := by
  obtain ⟨a, cap, u, z, h1, h2, h3, h4, h5, h6⟩ := k
  obtain rfl := hl u h6
  subst hn
  exact ⟨a, cap, z, h1, h2, h3, h4, h5⟩
theorem exUnion {W : World} (w' : World) (hw : IsSince W w') (pa : Option Addr) (ca : Nat) (h : WinRow w' pa [⟨5, 9⟩, ⟨1, 3⟩, ⟨3, 4⟩]) : Calls Tryd.prog 25 #[.slice pa 3 ca] w' (GotS W w' [⟨1, 4⟩, ⟨5, 9⟩] 2 0) :=
  (union_c w' hw pa _ 3 ca rfl h (by decide)).mono fun _ _ k => gotS (fun u (hu : UnOk _ u) => (hu.ok rfl).unique exU) rfl k
theorem exMinus {W : World} (w' : World) (hw : IsSince W w') (pa : Option Addr) (ca : Nat) (pb : Option Addr) (cb : Nat) (h : WinRow w' pa [⟨0, 10⟩]) (hb : WinRow w' pb [⟨3, 5⟩]) : Calls Tryd.prog 29 #[.slice pa 1 ca, .slice pb 1 cb] w' (GotS W w' [⟨0, 3⟩, ⟨5, 10⟩] 2 0) :=
  (minus_c w' hw pa _ 1 ca pb _ 1 cb rfl rfl h hb (by decide) (by decide)).mono fun _ _ k => gotS (fun u (hu : MinOk _ _ u) => (hu.ok rfl).unique exM) rfl k
theorem exLength {W : World} (w' : World) (hw : IsSince W w') (pa : Option Addr) (ca : Nat) (h : WinRow w' pa [⟨0, 4⟩, ⟨2, 6⟩]) : Calls Tryd.prog 31 #[.slice pa 2 ca] w' (Ends W w' (fun o => o = .returned (.tuple #[.int .i64 6, .int .i64 0]))) := by
  refine (length_c w' hw pa _ 2 ca rfl h (by decide)).mono ?_
  rintro _ _ ⟨u, z, rfl, rfl, hv, hu⟩
  obtain rfl := (hu.ok rfl).unique exL
  exact ⟨rfl, z, rfl, hv⟩
theorem exText : textL 1065900 = [49, 50, 32, 48, 56, 58, 48, 53, 58, 48, 48] := by
  have h := textL_yes (n := 1065900) (by decide)
  rw [show ((1065900 : Nat) : Int) = 1065900 from rfl] at h
  rw [h]
  unfold textN
  rw [show 1065900 / 86400 = 12 by decide, Lib.decDigits_two (by decide) (by decide)]
  decide
theorem exTextC (w : World) (x : Since w) (hT : Tabs w) : Calls Tryd.prog 12 #[.int .i64 1065900] x.w fun o w' => o = .returned (.tuple #[.string ⟨#[49, 50, 32, 48, 56, 58, 48, 53, 58, 48, 48]⟩, .int .i64 0]) ∧ ∃ y : Since w, w' = y.w := by
  refine (text_calls w x hT 1065900).mono ?_
  rintro _ _ ⟨S, y, rfl, rfl, hS⟩
  rw [exText] at hS
  have : S = ⟨#[49, 50, 32, 48, 56, 58, 48, 53, 58, 48, 48]⟩ := bytes_eq hS
  subst this
  exact ⟨by rw [show momE 1065900 = 0 from rfl], y, rfl⟩
theorem exNo : ∀ n : Nat, n ≤ 4294943999 → textN n ≠ [49, 50, 32, 56, 58, 48, 53, 58, 48, 48] := by
  have p : Parts [49, 50, 32, 56, 58, 48, 53, 58, 48, 48] [49] [32, 56] [48, 53] [48, 48] := ⟨by decide, rfl, rfl, rfl, rfl⟩
  refine bad_b p (rok_no fun v hv => ?_)
  have ht : (match Lib.atoiAll [32, 56] with | .ok _ => true | _ => false) = false := by decide
  rw [hv] at ht
  cases ht
theorem exParseC (w : World) (x : Since w) (hT : Tabs w) : Calls Tryd.prog 14 #[.string ⟨#[49, 50, 32, 56, 58, 48, 53, 58, 48, 48]⟩] x.w fun o w' => o = .returned (.tuple #[.int .i64 0, .int .i64 3]) ∧ ∃ y : Since w, w' = y.w := by
  refine (parse_calls w x hT ⟨#[49, 50, 32, 56, 58, 48, 53, 58, 48, 48]⟩ (by decide)).mono ?_
  rintro _ _ ⟨n, e, y, rfl, rfl, hp⟩
  obtain ⟨rfl, rfl⟩ := hp.no exNo
  exact ⟨rfl, y, rfl⟩
set_option maxRecDepth 100000 in
set_option maxHeartbeats 8000000 in
theorem awake_calls (w : World) (x : Since w) (hT : Tabs w) : Calls Tryd.prog 11 #[] x.w fun o w' => o = .returned (.bool true) ∧ ∃ y : Since w, w' = y.w := by
  have HT := Lib.hid hT
  have HW := Lib.hid (fun (y : Since w) (a b : Int) => win_calls w y a b)
  have Hs1 := Lib.hid (fun w' => show Calls Tryd.prog 18 #[.int .i64 700000] w' fun o w'' => o = .returned (.tuple #[.int .i64 26, .int .i64 0]) ∧ w' = w'' from slot_calls 700000 w')
  have Hs2 := Lib.hid (fun w' => show Calls Tryd.prog 18 #[.int .i64 4294943999] w' fun o w'' => o = .returned (.tuple #[.int .i64 71, .int .i64 0]) ∧ w' = w'' from slot_calls 4294943999 w')
  clear hT
  go_enter Tryd.func11, Tryd.ntmps11
  go_upto_region 3 with (go_at_call 18; (first | ((with_reducible refine (Hs1.out _).mono ?_); rintro _ _ ⟨rfl, rfl⟩) | ((with_reducible refine (Hs2.out _).mono ?_); rintro _ _ ⟨rfl, rfl⟩)))
  clear Hs1 Hs2
  go_wp2_with fail
  refine (HW.out x _ _).mono ?_
  rintro _ _ ⟨rfl, y1, rfl⟩
  go_wp2_with fail
  refine (HW.out y1 _ _).mono ?_
  rintro _ _ ⟨rfl, y2, rfl⟩
  go_wp2_with fail
  refine (HW.out y2 _ _).mono ?_
  rintro _ _ ⟨rfl, y3, rfl⟩
  go_wp2_with fail
  refine (exUnion (W := w) _ (IsSince.alloc (IsSince.of y3) _) (some ⟨y3.w.heap.size, 0, none⟩) 3 (els_mk Win.len y3.w [⟨5, 9⟩, ⟨1, 3⟩, ⟨3, 4⟩] 30)).mono ?_
  rintro _ _ ⟨au, cu, y4, rfl, rfl, _, hu, _⟩
  have HU := Lib.hid hu
  clear hu
  go_wp2_with fail
  refine (win_c (W := w) _ (IsSince.of y4) 0 10).mono ?_
  rintro _ _ ⟨rfl, y5, rfl, hz⟩
  replace HU := Lib.hid (HU.out.to hz)
  go_wp2_with fail
  refine (win_c (W := w) _ (IsSince.alloc (IsSince.of y5) _) 3 5).mono ?_
  rintro _ _ ⟨rfl, y6, rfl, hz⟩
  replace HU := Lib.hid ((HU.out.to (IsSince.alloc (IsSince.self _) _)).to hz)
  have HA := Lib.hid ((els_mk Win.len y5.w [⟨0, 10⟩] 30).to hz)
  clear hz
  go_wp2_with fail
  refine (exMinus (W := w) _ (IsSince.alloc (IsSince.of y6) _) (some ⟨y5.w.heap.size, 0, none⟩) 1 (some ⟨y6.w.heap.size, 0, none⟩) 1 (HA.out.to (IsSince.alloc (IsSince.self _) _)) (els_mk Win.len y6.w [⟨3, 5⟩] 30)).mono ?_
  rintro _ _ ⟨am, cm, y7, rfl, rfl, hz, hm, _⟩
  replace HU := Lib.hid ((HU.out.to (IsSince.alloc (IsSince.self _) _)).to hz)
  have HM := Lib.hid hm
  clear hm hz HA
  go_wp2_with fail
  refine (win_c (W := w) _ (IsSince.of y7) 0 4).mono ?_
  rintro _ _ ⟨rfl, y8, rfl, hz⟩
  replace HU := Lib.hid (HU.out.to hz)
  replace HM := Lib.hid (HM.out.to hz)
  clear hz
  go_wp2_with fail
  refine (win_c (W := w) _ (IsSince.of y8) 2 6).mono ?_
  rintro _ _ ⟨rfl, y9, rfl, hz⟩
  replace HU := Lib.hid (HU.out.to hz)
  replace HM := Lib.hid (HM.out.to hz)
  clear hz
  go_wp2_with fail
  refine (exLength (W := w) _ (IsSince.alloc (IsSince.of y9) _) (some ⟨y9.w.heap.size, 0, none⟩) 2 (els_mk Win.len y9.w [⟨0, 4⟩, ⟨2, 6⟩] 30)).mono ?_
  rintro _ _ ⟨rfl, y10, rfl, hz⟩
  replace HU := Lib.hid ((HU.out.to (IsSince.alloc (IsSince.self _) _)).to hz)
  replace HM := Lib.hid ((HM.out.to (IsSince.alloc (IsSince.self _) _)).to hz)
  clear hz
  go_wp2_with fail
  refine (later (W := w) (IsSince.of y10) (fun x => exTextC y10.w x (HT.out.to y10))).mono ?_
  rintro _ _ ⟨rfl, y11, rfl, hz⟩
  replace HU := Lib.hid (HU.out.to hz)
  replace HM := Lib.hid (HM.out.to hz)
  clear hz
  go_wp2_with fail
  refine (later (W := w) (IsSince.of y11) (fun x => exParseC y11.w x (HT.out.to y11))).mono ?_
  rintro _ _ ⟨rfl, y12, rfl, hz⟩
  replace HU := Lib.hid (HU.out.to hz)
  replace HM := Lib.hid (HM.out.to hz)
  clear hz
  go_wp2_with fail
  refine (win_c (W := w) _ (IsSince.of y12) 1 4).mono ?_
  rintro _ _ ⟨rfl, y13, rfl, hz⟩
  replace HU := Lib.hid (HU.out.to hz)
  replace HM := Lib.hid (HM.out.to hz)
  clear hz
  go_wp2_with fail
  refine (win_c (W := w) _ (IsSince.of y13) 5 9).mono ?_
  rintro _ _ ⟨rfl, y14, rfl, hz⟩
  replace HU := Lib.hid (HU.out.to hz)
  replace HM := Lib.hid (HM.out.to hz)
  clear hz
  go_wp2_with fail
  refine (same_c (W := w) _ (IsSince.alloc (IsSince.of y14) _) au [⟨1, 4⟩, ⟨5, 9⟩] 2 cu (some ⟨y14.w.heap.size, 0, none⟩) [⟨1, 4⟩, ⟨5, 9⟩] 2 2 rfl rfl (HU.out.to (IsSince.alloc (IsSince.self _) _)) (els_mk Win.len y14.w [⟨1, 4⟩, ⟨5, 9⟩] 30) (by decide) (by decide) true (by decide)).mono ?_
  rintro _ _ ⟨rfl, y15, rfl, hz⟩
  replace HU := Lib.hid ((HU.out.to (IsSince.alloc (IsSince.self _) _)).to hz)
  replace HM := Lib.hid ((HM.out.to (IsSince.alloc (IsSince.self _) _)).to hz)
  clear hz
  go_wp2_with fail
  refine (win_c (W := w) _ (IsSince.of y15) 0 3).mono ?_
  rintro _ _ ⟨rfl, y16, rfl, hz⟩
  replace HU := Lib.hid (HU.out.to hz)
  replace HM := Lib.hid (HM.out.to hz)
  clear hz
  go_wp2_with fail
  refine (win_c (W := w) _ (IsSince.of y16) 5 10).mono ?_
  rintro _ _ ⟨rfl, y17, rfl, hz⟩
  replace HU := Lib.hid (HU.out.to hz)
  replace HM := Lib.hid (HM.out.to hz)
  clear hz
  go_wp2_with fail
  refine (same_c (W := w) _ (IsSince.alloc (IsSince.of y17) _) am [⟨0, 3⟩, ⟨5, 10⟩] 2 cm (some ⟨y17.w.heap.size, 0, none⟩) [⟨0, 3⟩, ⟨5, 10⟩] 2 2 rfl rfl (HM.out.to (IsSince.alloc (IsSince.self _) _)) (els_mk Win.len y17.w [⟨0, 3⟩, ⟨5, 10⟩] 30) (by decide) (by decide) true (by decide)).mono ?_
  rintro _ _ ⟨rfl, y18, rfl, hz⟩
  replace HU := Lib.hid ((HU.out.to (IsSince.alloc (IsSince.self _) _)).to hz)
  replace HM := Lib.hid ((HM.out.to (IsSince.alloc (IsSince.self _) _)).to hz)
  clear hz
  go_wp2_with fail
  go_ret
  exact ⟨rfl, _, rfl⟩
end Go.Proofs.YtnkmngkinjjbfaaDoor
