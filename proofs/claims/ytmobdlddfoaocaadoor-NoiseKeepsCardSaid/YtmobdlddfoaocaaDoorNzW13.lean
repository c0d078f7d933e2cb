/- The walks of noise, thirteenth part: the reference's Add. -/
import Derived.Test.YtmobdlddfoaocaaDoorNzW12
namespace Go.Proofs.YtmobdlddfoaocaaDoor
open Go.RowKit

theorem bE_four {ws : List Int} {n : Int} (h0 : 1 ≤ n) (h1 : n ≤ 1125899906842624) (h : ¬ bE ws n = 0) : bE ws n = 4 := by
  unfold bE at h ⊢
  rw [if_pos ⟨h0, h1⟩] at h ⊢
  split
  · rename_i h2; rw [if_pos h2] at h; exact (h rfl).elim
  · rfl

set_option maxHeartbeats 2000000 in
theorem radd_calls (w : World) (x : Since w) (a b c : Option Addr) (l xs ws : List Int) (ca cb cc : Nat) (hcc : ws.length ≤ cc) (hl : l.length ≤ 9223372036854775807) (hx : xs.length ≤ 9223372036854775807) (hwl : ws.length ≤ 9223372036854775807)
    (hr : IntRow w a l) (hrx : IntRow w b xs) (hrw : Row w c ws.length fun i => .int .u64 (at0 ws i)) (hw : ∀ i, 0 ≤ at0 ws i ∧ at0 ws i < 18446744073709551616) :
    Calls Tryd.prog 28 #[.agg #[.slice a l.length ca], .slice b xs.length cb, .slice c ws.length cc] x.w (Added w l xs ws) := by
  by_cases hg : Good l
  · have hg0 : check l = 0 := check_good hg
    have hgt := totalF_good hg
    have HG := Lib.hid hg
    have htb := total_bd hg
    clear hg
    by_cases h512 : 512 < xs.length
    · have hres := Lib.hid (addE_full HG.out h512 ws)
      go_enter Tryd.func28, Tryd.ntmps28
      go_upto_region 1 with fail
      have hb0_0 : ∀ y : Since (x.w.alloc (.cells #[.slice a l.length ca] 24)), y.w.cell? ⟨x.w.heap.size, 0, none⟩ = some (.slice a l.length ca) := fun y => Since.cell (by simp [go_sem]) (by first | (simp; done) | (simp; omega)) y
      have hf0 : ∀ (y : Since (x.w.alloc (.cells #[.slice a l.length ca] 24))) (o : Nat), y.w.frozen? ⟨x.w.heap.size, o, none⟩ = false := fun y o => Since.free (by simp [go_sem]) (by first | (simp; done) | (simp; omega)) y
      have hWup : ∃ z : Since w, (x.w.alloc (.cells #[.slice a l.length ca] 24)) = z.w := x.alloc _
      obtain ⟨y0, hy0⟩ := Since.refl (x.w.alloc (.cells #[.slice a l.length ca] 24))
      have Hbx := Lib.hid (And.intro x.b.size (show x.w.heap.size + 1 = (x.w.alloc (.cells #[.slice a l.length ca] 24)).heap.size from by simp))
      generalize hW : (x.w.alloc (.cells #[.slice a l.length ca] 24)) = W at *
      clear hW
      generalize x.w.heap.size = bx at *
      have Hup := Lib.hid (Since.up hWup)
      rw [hy0]
      clear hy0
      replace hr := hr.to hWup
      clear hWup
      go_wp2_with fail
      refine (rtotal_calls W _ a l ca hl hr).mono ?_
      rintro _ _ ⟨rfl, y, rfl⟩
      go_wp2_with fail
      go_ret3
      exact Added.fail hres.out (by omega) (Hup.out _)
    · go_enter Tryd.func28, Tryd.ntmps28
      go_upto_region 1 with fail
      have hb0_0 : ∀ y : Since (x.w.alloc (.cells #[.slice a l.length ca] 24)), y.w.cell? ⟨x.w.heap.size, 0, none⟩ = some (.slice a l.length ca) := fun y => Since.cell (by simp [go_sem]) (by first | (simp; done) | (simp; omega)) y
      have hf0 : ∀ (y : Since (x.w.alloc (.cells #[.slice a l.length ca] 24))) (o : Nat), y.w.frozen? ⟨x.w.heap.size, o, none⟩ = false := fun y o => Since.free (by simp [go_sem]) (by first | (simp; done) | (simp; omega)) y
      have hWup : ∃ z : Since w, (x.w.alloc (.cells #[.slice a l.length ca] 24)) = z.w := x.alloc _
      obtain ⟨y0, hy0⟩ := Since.refl (x.w.alloc (.cells #[.slice a l.length ca] 24))
      have Hbx := Lib.hid (And.intro x.b.size (show x.w.heap.size + 1 = (x.w.alloc (.cells #[.slice a l.length ca] 24)).heap.size from by simp))
      generalize hW : (x.w.alloc (.cells #[.slice a l.length ca] 24)) = W at *
      clear hW
      generalize x.w.heap.size = bx at *
      have Hup := Lib.hid (Since.up hWup)
      rw [hy0]
      clear hy0
      replace hr := hr.to hWup
      replace hrx := hrx.to hWup
      replace hrw := hrw.to hWup
      clear hWup
      go_wp2_with fail
      refine (rtotal_calls W _ a l ca hl hr).mono ?_
      rintro _ _ ⟨rfl, y, rfl⟩
      go_wp2_with fail
      go_loop [11] (fun i => ∃ k : Nat, k ≤ xs.length ∧ i = .int .i64 k ∧ ∀ j, j < k → -1000000 ≤ at0 xs j ∧ at0 xs j ≤ 1000000) (fun i => xs.length - (intOf i).toNat)
      case atStart => exact ⟨0, by omega, rfl, fun j hj => by omega⟩
      case round =>
        obtain ⟨k, hk, rfl, hok⟩ := hrel
        have Hok := Lib.hid hok; clear hok
        by_cases hlt : k < xs.length
        · obtain ⟨b, off, rfl, _, _⟩ := hrx k hlt
          have hcell : ∀ y : Since W, y.w.cell? ⟨b, off + k, none⟩ = some (.int .i64 (at0 xs k)) := Since.at hrx k hlt
          clear hr hrx hrw hw
          go_wp2_with fail
          all_goals first
            | (go_round
               case rel => exact ⟨k + 1, by omega, by go_num, fun j hj => by
                 by_cases hjk : j < k
                 · exact Hok.out j hjk
                 · obtain rfl : j = k := by omega
                   exact ⟨by omega, by omega⟩⟩
               case measure => simp [intOf]; omega)
            | (go_ret3
               exact Added.fail (addE_range HG.out h512 (fun h => by have := h k hlt; omega) ws) (by omega) (Hup.out _))
        · obtain rfl : k = xs.length := by omega
          have HR := Lib.hid (show InR xs from Hok.out)
          clear Hok
          go_wp2_with fail
          go_loopw [12, 13, 14] (fun v u i wr => ∃ k : Nat, k ≤ xs.length ∧ i = .int .i64 k ∧ u = .int .i64 (us (total l) ws k) ∧ (∀ j, j < k → okw (total l) ws j) ∧ ∃ y : Since W, wr = y.w ∧ y.w.ownsRow W.heap.size 3 1 v k ((outL l xs ws k).map (.int .i64))) (fun _ _ i _ => xs.length - (intOf i).toNat)
          case atStart => exact ⟨0, by omega, rfl, rfl, fun j hj => by omega, _, rfl, by simp [outL], .inl ⟨rfl, rfl⟩⟩
          case round =>
            obtain ⟨k, hk, rfl, rfl, hok, q, rfl, hown⟩ := hrel
            have hul := us_le hok
            have Hok := Lib.hid hok; clear hok
            by_cases hlt : k < xs.length
            · replace hb0_0 : ∀ (y : Since q.w), y.w.cell? ⟨bx, 0, none⟩ = some (.slice a l.length ca) := fun y => by obtain ⟨z, e⟩ := q.trans y; rw [e]; exact hb0_0 z
              replace hf0 : ∀ (y : Since q.w) (o : Nat), y.w.frozen? ⟨bx, o, none⟩ = false := fun y o => by obtain ⟨z, e⟩ := q.trans y; rw [e]; exact hf0 z o
              replace hr := hr.to ⟨q, rfl⟩
              replace hrx := hrx.to ⟨q, rfl⟩
              replace hrw := hrw.to ⟨q, rfl⟩
              obtain ⟨a0, cap0, rfl, hcap, _, _⟩ := own_row hown
              have Hown := Lib.hid hown; clear hown
              obtain ⟨b1, off1, rfl, _, _⟩ := hrx k hlt
              have hcell : ∀ y : Since q.w, y.w.cell? ⟨b1, off1 + k, none⟩ = some (.int .i64 (at0 xs k)) := Since.at hrx k hlt
              have hxk := HR.out k hlt
              have hcut := cell_drop hrw (us (total l) ws k) cc hcc
              have hdl : ws.length - us (total l) ws k = (ws.drop (us (total l) ws k)).length := (List.length_drop).symm
              have Hdl := Lib.hid hdl; clear hdl
              have hwd : ∀ i, 0 ≤ at0 (ws.drop (us (total l) ws k)) i ∧ at0 (ws.drop (us (total l) ws k)) i < 18446744073709551616 := fun i => by rw [at0_drop]; exact hw _
              have Hsucc := Lib.hid (show us (total l) ws (k + 1) = us (total l) ws k + (bI (ws.drop (us (total l) ws k)) (total l) + 1) from rfl)
              have Hout := Lib.hid (show outv l xs ws k = at0 xs k + atV l (bV (ws.drop (us (total l) ws k)) (total l)) from rfl)
              have hus : (us (total l) ws k : Int) ≤ 9223372036854775807 := by omega
              by_cases hE : bE (ws.drop (us (total l) ws k)) (total l) = 0
              · have hI := (bE_zero hE).2.2
                have hU := bU_eq hE
                have hV := bV_bd hwd hE
                have hat := at_in HG.out hV.1 hV.2
                have hvb := (atV_at HG.out hV.1 hV.2).bd
                have Hokk := Lib.hid (next_all Hok.out (show okw (total l) ws k from hE))
                have hIl : us (total l) ws k + bI (ws.drop (us (total l) ws k)) (total l) + 1 ≤ ws.length := by rw [List.length_drop] at hI; omega
                have HU := Lib.hid hU; have HE := Lib.hid hE; have HAT := Lib.hid hat
                clear hU hE hat hI
                go_wp2_with fail
                rw [Hdl.out]
                refine (rbelow_calls q.w (Since.self q.w) _ _ _ _ (by have := Hdl.out; omega) hcut hwd).mono ?_
                rintro _ _ ⟨rfl, q2, rfl⟩
                rw [HE.out, HU.out]
                clear hcut HE HU Hdl
                generalize bV (ws.drop (us (total l) ws k)) (total l) = V at *
                generalize bI (ws.drop (us (total l) ws k)) (total l) = I at *
                go_wp2_with fail
                refine (rat_calls q.w _ a l ca V hl hr).mono ?_
                rintro _ _ ⟨rfl, q3, rfl⟩
                rw [HAT.out.1, HAT.out.2]
                clear HAT
                generalize atV l V = A at *
                have hsum : IntKind.i64.wrap (at0 xs k + A) = at0 xs k + A := IntWalk.i64_in _ (by omega)
                clear hr hrx hrw hw hwd
                go_wp2_with (at_builtin; refine wpList_append1 (w0 := W) ?hw rfl _ _ 22 rfl W.heap.size (Nat.le_refl _) ?hb 3 (.int .i64 0) 8 ints (.slice a0 k cap0) k ((outL l xs ws k).map (.int .i64)) rfl ?hown (.int .i64 (at0 xs k + A)) rfl ⟨q3.w.heap.size, 0, none⟩ 1 rfl ?hc ?h63 ?hbytes ?_; rotate_right 1; intro v2 q4 hown2 _)
                case hw => obtain ⟨z, e⟩ := q.trans q3; rw [e]; exact z.alloc _
                case hb => have := q.b.size; have := q3.b.size; simp; omega
                case hown => exact own_since (own_since Hown.out q3.b) (below_new _ _)
                case hc => simp [go_sem]
                case h63 => unfold maxLen; omega
                case hbytes => omega
                have Hown2 := Lib.hid hown2; clear hown2
                go_roundw
                case rel => exact ⟨k + 1, by omega, by go_num, by rw [Hsucc.out]; go_num, Hokk.out, q4, rfl, by rw [outL_succ, List.map_append, Hout.out]; exact Hown2.out⟩
                case measure => simp [intOf]; omega
              · have hE' : (bE (ws.drop (us (total l) ws k)) (total l) != 0) = true := by simpa using hE
                have hres := Lib.hid (addE_short HG.out h512 HR.out hlt hE)
                have HE4 := Lib.hid (bE_four (by omega) (by omega) hE)
                clear hE
                go_wp2_with fail
                rw [Hdl.out]
                refine (rbelow_calls q.w (Since.self q.w) _ _ _ _ (by have := Hdl.out; omega) hcut hwd).mono ?_
                rintro _ _ ⟨rfl, q2, rfl⟩
                generalize bV (ws.drop (us (total l) ws k)) (total l) = V at *
                generalize bU (ws.drop (us (total l) ws k)) (total l) = U at *
                generalize bE (ws.drop (us (total l) ws k)) (total l) = E at *
                go_wp2_with fail
                go_ret3
                exact Added.fail (by rw [HE4.out]; exact hres.out) (by rw [HE4.out]; decide) (by obtain ⟨z, e⟩ := q.trans q2; rw [e]; exact Hup.out z)
            · obtain rfl : k = xs.length := by omega
              have hres := Lib.hid (addE_ok HG.out h512 HR.out Hok.out)
              have Hown := Lib.hid hown; clear hown
              clear hr hrx hrw hw
              go_wp2_with fail
              go_ret3
              exact Added.done hres.out Hown.out (Hup.out q)
  · have hg0 : check l = 32 := check_bad hg
    have hgt := totalF_bad hg
    have hres := Lib.hid (addE_bad hg xs ws)
    go_enter Tryd.func28, Tryd.ntmps28
    go_upto_region 1 with fail
    have hb0_0 : ∀ y : Since (x.w.alloc (.cells #[.slice a l.length ca] 24)), y.w.cell? ⟨x.w.heap.size, 0, none⟩ = some (.slice a l.length ca) := fun y => Since.cell (by simp [go_sem]) (by first | (simp; done) | (simp; omega)) y
    have hf0 : ∀ (y : Since (x.w.alloc (.cells #[.slice a l.length ca] 24))) (o : Nat), y.w.frozen? ⟨x.w.heap.size, o, none⟩ = false := fun y o => Since.free (by simp [go_sem]) (by first | (simp; done) | (simp; omega)) y
    have hWup : ∃ z : Since w, (x.w.alloc (.cells #[.slice a l.length ca] 24)) = z.w := x.alloc _
    obtain ⟨y0, hy0⟩ := Since.refl (x.w.alloc (.cells #[.slice a l.length ca] 24))
    have Hbx := Lib.hid (And.intro x.b.size (show x.w.heap.size + 1 = (x.w.alloc (.cells #[.slice a l.length ca] 24)).heap.size from by simp))
    generalize hW : (x.w.alloc (.cells #[.slice a l.length ca] 24)) = W at *
    clear hW
    generalize x.w.heap.size = bx at *
    have Hup := Lib.hid (Since.up hWup)
    rw [hy0]
    clear hy0
    replace hr := hr.to hWup
    clear hWup
    go_wp2_with fail
    refine (rtotal_calls W _ a l ca hl hr).mono ?_
    rintro _ _ ⟨rfl, y, rfl⟩
    go_wp2_with fail
    go_ret3
    exact Added.fail hres.out (by omega) (Hup.out _)
end Go.Proofs.YtmobdlddfoaocaaDoor
