/- What Decode of handles computes (walk). Conditions: bounds of machine numbers. -/
import Derived.Test.YtchldgedpncggaaHandleRefEnc
namespace Go.Proofs.Ytchldgedpncggaa
set_option linter.unusedVariables false
set_option linter.unusedSimpArgs false
open Go.RowKit Pl
attribute [local go_sem] ba_toList

theorem decode_short (l : List UInt8) (w : World) (h : l.length ≠ 24) : Calls Try.prog 12 #[sv l] w fun e w' => e = .returned (.tuple #[hv 0 0 0, .int .i64 4]) ∧ Below w.heap.size w w' := by
  have h1 : ((l.length : Int) != 24) = true := by simp; omega
  go_enter Try.func12, Try.ntmps12
  go_wp2_with fail
  go_returns
  exact ⟨rfl, by go_grown⟩

/-- What holds at the head of each round of Decode's loop. -/
def DecRel (B : Nat) (l : List UInt8) (w0 : World) (k : Nat) (wr : World) : Prop :=
  Below B w0 wr ∧ wr.heap.size = B + 1 ∧ ∀ j, j < 4 → wr.cell? ⟨B, j, none⟩ = some (.int .i64 (chunk l k j : Int)) ∧ wr.frozen? ⟨B, j, none⟩ = false

theorem DecRel.step {B : Nat} {l : List UInt8} {w0 wr : World} {k : Nat} (h : DecRel B l w0 k wr) (hk : k < l.length) (h16 : k < 16) :
    DecRel B l w0 (k + 1) (wr.setCell ⟨B, k / 4, none⟩ (.int .i64 (bits BinOp.or IntKind.i64 ((chunk l k (k / 4) : Int) * 256) (wrap64 ((l[k]).toNat : Int))))).drew := by
  obtain ⟨h1, h2, h3⟩ := h
  have hx := chunk_lt l k
  refine ⟨(h1.setCell (Nat.le_refl _) _).drew, by simpa [World.setCell] using h2, fun j hj => ⟨?_, ?_⟩⟩
  · rw [World.cell?_drew, chunk_step l k j hk]
    by_cases hjk : j = k / 4
    · subst hjk
      rw [if_pos rfl, World.cell?_setCell_same _ _ _ (h3 _ hj).1, i64_or_byte _ _ (by omega) (l[k]).toNat_lt]
    · rw [if_neg hjk, World.cell?_setCell_other _ _ _ _ (fun e => hjk (by have := congrArg Addr.off e; exact this.symm))]
      exact (h3 j hj).1
  · have := (h3 j hj).2
    simpa using this

set_option maxHeartbeats 1600000 in
theorem decode_long (l : List UInt8) (w : World) (h : l.length = 24) : Calls Try.prog 12 #[sv l] w fun e w' => e = .returned (.tuple #[hv (decA l 4) (decA l 8) (decA l 12), .int .i64 (decE l)]) ∧ Below w.heap.size w w' := by
  have h1 : ((l.length : Int) != 24) = false := by simp; omega
  have H := Lib.hid h
  clear h
  obtain ⟨w0, hw0⟩ : ∃ w0 : World, w0 = w.alloc (.cells #[.int .i64 0, .int .i64 0, .int .i64 0] 23) := ⟨_, rfl⟩
  have HW0 := Lib.hid hw0
  clear hw0
  go_enter Try.func12, Try.ntmps12
  go_wp2_with fail
  go_loopw [13] (fun i wr => ∃ k : Nat, k ≤ 16 ∧ i = .int .i64 k ∧ DecRel (w.heap.size + 1) l w0 k wr) (fun i _ => 16 - (intOf i).toNat)
  case atStart =>
    refine ⟨0, Nat.zero_le _, rfl, ?_⟩
    rw [← HW0.out]
    have hB : w0.heap.size = w.heap.size + 1 := by rw [HW0.out]; simp
    rw [← hB]
    refine ⟨(Below.refl _ _).alloc (Nat.le_refl _) _, by simp, fun j hj => ?_⟩
    rw [chunk_zero]
    obtain rfl | rfl | rfl | rfl : j = 0 ∨ j = 1 ∨ j = 2 ∨ j = 3 := by omega
    all_goals exact ⟨by simp, by simp⟩
  case round =>
    obtain ⟨k, hk, rfl, hd⟩ := hrel
    by_cases hlt : k < 16
    · have hlen : k < l.length := by rw [H.out]; omega
      have HS := Lib.hid (hd.step hlen hlt)
      obtain ⟨hc, hf⟩ := hd.2.2 (k / 4) (by omega)
      have hx := chunk_lt l k
      clear hd
      generalize chunk l k (k / 4) = X at hc hx HS
      go_wp2_with fail
      go_region
      all_goals
        go_wp2_with fail
        go_roundw
        case rel => exact ⟨k + 1, by omega, by go_num, HS.out⟩
        case measure => simp [intOf]; omega
    · obtain rfl : k = 16 := by omega
      have hc0 := (hd.2.2 1 (by omega)).1
      have hc1 := (hd.2.2 2 (by omega)).1
      have hc2 := (hd.2.2 3 (by omega)).1
      rw [chunk_all _ _ (by omega)] at hc0 hc1 hc2
      have hb := hd.1
      have hsz : wr.heap.size = w.heap.size + 1 + 1 := hd.2.1
      have hbox : ∀ j, j < 3 → wr.cell? ⟨w.heap.size, j, none⟩ = some (.int .i64 0) ∧ wr.frozen? ⟨w.heap.size, j, none⟩ = false := by
        intro j hj
        rw [hb.cell (p := ⟨w.heap.size, j, none⟩) (by simp), hb.frozen (p := ⟨w.heap.size, j, none⟩) (by simp), HW0.out]
        obtain rfl | rfl | rfl : j = 0 ∨ j = 1 ∨ j = 2 := by omega
        all_goals exact ⟨by simp, by simp⟩
      obtain ⟨hb0, hf0⟩ := hbox 0 (by omega)
      obtain ⟨hb1, hf1⟩ := hbox 1 (by omega)
      obtain ⟨hb2, hf2⟩ := hbox 2 (by omega)
      have hbel : Below w.heap.size w wr := Below.trans (by rw [HW0.out]; go_grown) (hb.mono (by omega))
      have HSZ := Lib.hid hsz
      have p4 : part4 l 4 = unbe 0 ((l.drop 4).take 4) := rfl
      have p8 : part4 l 8 = unbe 0 ((l.drop 8).take 4) := rfl
      have p12 : part4 l 12 = unbe 0 ((l.drop 12).take 4) := rfl
      rw [show 4 * 1 = 4 from rfl, ← p4] at hc0
      rw [show 4 * 2 = 8 from rfl, ← p8] at hc1
      rw [show 4 * 3 = 12 from rfl, ← p12] at hc2
      clear hd hbox p4 p8 p12 hsz hb
      have hdec : decOk l = (mayH (part4 l 4) (part4 l 8) (part4 l 12) && (hBytes (part4 l 4) (part4 l 8) (part4 l 12) == l)) := by unfold decOk; rw [H.out]; simp
      have HD := Lib.hid hdec
      clear hdec
      have fin : ∀ ok : Bool, decOk l = ok → (decA l 4 = if ok then (part4 l 4 : Int) else 0) ∧ (decA l 8 = if ok then (part4 l 8 : Int) else 0) ∧ (decA l 12 = if ok then (part4 l 12 : Int) else 0) ∧ decE l = if ok then 0 else 4 := by
        intro ok h; unfold decA decE; rw [h]; exact ⟨rfl, rfl, rfl, rfl⟩
      have FIN := Lib.hid fin
      clear fin
      generalize part4 l 4 = x4 at hc0 HD FIN
      generalize part4 l 8 = x8 at hc1 HD FIN
      generalize part4 l 12 = x12 at hc2 HD FIN
      have hlw : w.heap.size < wr.heap.size := by have := HSZ.out; omega
      obtain ⟨o, ho⟩ : ∃ o : Obj, o = .cells #[.int .i64 (x4 : Int), .int .i64 (x8 : Int), .int .i64 (x12 : Int)] 23 := ⟨_, rfl⟩
      have keep : ∀ w2 : World, Below (wr.alloc o).heap.size (wr.alloc o) w2 → ((∀ j, j < 3 → w2.cell? ⟨w.heap.size, j, none⟩ = some (.int .i64 0) ∧ w2.frozen? ⟨w.heap.size, j, none⟩ = false) ∧
          (∀ j, j < 3 → w2.cell? ⟨wr.heap.size, j, none⟩ = some (.int .i64 ([(x4 : Int), x8, x12].getD j 0))) ∧ w.heap.size < w2.heap.size ∧ Below w.heap.size w w2) := by
        intro w2 h2
        have hs2 : wr.heap.size + 1 ≤ w2.heap.size := by have := h2.size; simpa using this
        refine ⟨fun j hj => ?_, fun j hj => ?_, by omega, hbel.trans (((Below.refl _ _).alloc (by omega) o).trans (h2.mono (by simp; omega)))⟩
        · have e1 := h2.cell (p := ⟨w.heap.size, j, none⟩) (by simp; omega)
          have e2 := h2.frozen (p := ⟨w.heap.size, j, none⟩) (by simp; omega)
          rw [e1, e2, World.cell?_of_block (w := wr) (w' := wr.alloc o) (Below.heap_alloc _ _ _ hlw), World.frozen?_of_block (w := wr) (w' := wr.alloc o) (Below.heap_alloc _ _ _ hlw)]
          obtain rfl | rfl | rfl : j = 0 ∨ j = 1 ∨ j = 2 := by omega
          · exact ⟨hb0, hf0⟩
          · exact ⟨hb1, hf1⟩
          · exact ⟨hb2, hf2⟩
        · rw [h2.cell (p := ⟨wr.heap.size, j, none⟩) (by simp), ho]
          obtain rfl | rfl | rfl : j = 0 ∨ j = 1 ∨ j = 2 := by omega
          all_goals simp
      have KEEP := Lib.hid keep
      clear keep
      cases hm : mayH (x4 : Int) (x8 : Int) (x12 : Int)
      · have hk : decOk l = false := by rw [HD.out, hm]; rfl
        have HM := Lib.hid hm
        have HK := Lib.hid hk
        have HO := Lib.hid ho
        clear hm hk ho
        go_wp2_with fail
        refine (encode_no _ _ _ _ HM.out).mono ?_; rintro e w2 ⟨rfl, hw2⟩
        obtain ⟨k1, k2, k3, k4⟩ := KEEP.out w2 (by rw [HO.out]; exact hw2)
        obtain ⟨b0, g0⟩ := k1 0 (by omega)
        obtain ⟨b1, g1⟩ := k1 1 (by omega)
        obtain ⟨b2, g2⟩ := k1 2 (by omega)
        clear k1 k2
        go_wp2_with fail
        ((try simp only [Exit.inBlock, Exit.then]); refine bodyPost_ret (by simp [results, Try.results12, go_sem, b0, b1, b2]; try rfl) rfl ?_)
        obtain ⟨f1, f2, f3, f4⟩ := FIN.out _ HK.out
        rw [f1, f2, f3, f4]
        exact ⟨rfl, by go_grown⟩
      · by_cases hq : hBytes x4 x8 x12 = l
        · have hk : decOk l = true := by rw [HD.out, hm, hq]; simp
          have hq' : (hBytes x4 x8 x12 == l) = true := by rw [hq]; simp
          have HM := Lib.hid hm
          have HK := Lib.hid hk
          have HO := Lib.hid ho
          clear hm hk hq ho
          go_wp2_with fail
          refine (encode_yes _ _ _ _ HM.out).mono ?_; rintro e w2 ⟨rfl, hw2⟩
          obtain ⟨k1, k2, k3, k4⟩ := KEEP.out w2 (by rw [HO.out]; exact hw2)
          obtain ⟨b0, g0⟩ := k1 0 (by omega)
          obtain ⟨b1, g1⟩ := k1 1 (by omega)
          obtain ⟨b2, g2⟩ := k1 2 (by omega)
          have q0 : w2.cell? ⟨wr.heap.size, 0, none⟩ = some (.int .i64 x4) := k2 0 (by omega)
          have q1 : w2.cell? ⟨wr.heap.size, 1, none⟩ = some (.int .i64 x8) := k2 1 (by omega)
          have q2 : w2.cell? ⟨wr.heap.size, 2, none⟩ = some (.int .i64 x12) := k2 2 (by omega)
          clear k1 k2
          simp only [Int.toNat_natCast]
          go_wp2_with fail
          ((try simp only [Exit.inBlock, Exit.then]); refine bodyPost_ret (by simp [results, Try.results12, go_sem, b0, b1, b2]; try rfl) rfl ?_)
          obtain ⟨f1, f2, f3, f4⟩ := FIN.out _ HK.out
          rw [f1, f2, f3, f4]
          exact ⟨rfl, by go_grown⟩
        · have hk : decOk l = false := by rw [HD.out, hm]; simpa using hq
          have hq' : (hBytes x4 x8 x12 == l) = false := by simpa using hq
          have HM := Lib.hid hm
          have HK := Lib.hid hk
          have HO := Lib.hid ho
          clear hm hk hq ho
          go_wp2_with fail
          refine (encode_yes _ _ _ _ HM.out).mono ?_; rintro e w2 ⟨rfl, hw2⟩
          obtain ⟨k1, k2, k3, k4⟩ := KEEP.out w2 (by rw [HO.out]; exact hw2)
          obtain ⟨b0, g0⟩ := k1 0 (by omega)
          obtain ⟨b1, g1⟩ := k1 1 (by omega)
          obtain ⟨b2, g2⟩ := k1 2 (by omega)
          clear k1 k2
          simp only [Int.toNat_natCast]
          go_wp2_with fail
          ((try simp only [Exit.inBlock, Exit.then]); refine bodyPost_ret (by simp [results, Try.results12, go_sem, b0, b1, b2]; try rfl) rfl ?_)
          obtain ⟨f1, f2, f3, f4⟩ := FIN.out _ HK.out
          rw [f1, f2, f3, f4]
          exact ⟨rfl, by go_grown⟩
end Go.Proofs.Ytchldgedpncggaa
