/- The reader of bytes (xdr.Reader): what lies in it. -/
import Derived.Test.YtaobfidjnnhniaaXdrWrite3
import Derived.Test.YtaobfidjnnhniaaHeld
namespace Go.Proofs.Ytaobfidjnnhniaa
set_option linter.unusedVariables false
set_option linter.unusedSimpArgs false
open Go.ChangeShapes Go.WideShapes Go.ChangeAt Go.RowKit Pl

theorem wb_of {w w' : World} (h : Below w.heap.size w w') (row : Option Nat) : w.grownBy w' row := ⟨h.os, h.tape, h.output, h.size, fun k hk _ => h.block k hk⟩

/-- In block g lies a reader: what is left of its bytes (in block h), or none: it is bad. -/
def Rd (w : World) (g h : Nat) (r : Option (List UInt8)) : Prop :=
  ∃ v, BytesV w v (r.getD []) ∧ (∀ a n c, v = .slice (some a) n c → 0 < (r.getD []).length → a.block = h ∧ h ≠ g) ∧
    w.cell? ⟨g, 0, none⟩ = some v ∧ w.cell? ⟨g, 1, none⟩ = some (.bool r.isNone) ∧ w.frozen? ⟨g, 0, none⟩ = false ∧ w.frozen? ⟨g, 1, none⟩ = false ∧ g < w.heap.size ∧ ∀ j, 2 ≤ j → w.cell? ⟨g, j, none⟩ = none

section
variable {w w' : World} {g h g' : Nat} {r : Option (List UInt8)} {v : Value} {l : List UInt8}
theorem BytesV.but {row : Option Nat} (hv : BytesV w v l) (hb : w.grownBy w' row) (ho : ∀ a n c, v = .slice (some a) n c → 0 < l.length → some a.block ≠ row) : BytesV w' v l := by
  obtain ⟨A, c, rfl, hl, hc, hn, hr⟩ := hv
  refine ⟨A, c, rfl, hl, hc, hn, fun h0 => ?_⟩
  obtain ⟨b, off, rfl, hbl, hcell⟩ := hr h0
  exact ⟨b, off, rfl, Nat.lt_of_lt_of_le hbl hb.size, fun k hk => hb.cell (hcell k hk) (ho ⟨b, off, none⟩ _ _ rfl h0)⟩
theorem Rd.but {row : Option Nat} (hr : Rd w g h r) (hb : w.grownBy w' row) (h1 : some g ≠ row) (h2 : some h ≠ row) : Rd w' g h r := by
  obtain ⟨v, hv, ho, c0, c1, f0, f1, hg, hj⟩ := hr
  exact ⟨v, hv.but hb (fun a n c e h0 => by rw [(ho a n c e h0).1]; exact h2), ho, hb.cell c0 h1, hb.cell c1 h1, (World.frozen?_of_block (a := ⟨g, 0, none⟩) (hb.block g hg h1)).trans f0, (World.frozen?_of_block (a := ⟨g, 1, none⟩) (hb.block g hg h1)).trans f1, Nat.lt_of_lt_of_le hg hb.size, fun j h2 => (World.cell?_of_block (a := ⟨g, j, none⟩) (hb.block g hg h1)).trans (hj j h2)⟩
theorem Rd.below (hr : Rd w g h r) (hb : Below w.heap.size w w') : Rd w' g h r := hr.but (wb_of hb none) (by simp) (by simp)
theorem Rd.drew (hr : Rd w g h r) : Rd w.drew g h r := hr.below (Below.refl _ _).drew
end

theorem gtrans {a b c : World} {row : Option Nat} (h : a.grownBy b row) (k : b.grownBy c row) : a.grownBy c row :=
  ⟨k.os.trans h.os, k.tape.trans h.tape, k.output.trans h.output, Nat.le_trans h.size k.size, fun i hi hne => (k.block i (Nat.lt_of_lt_of_le hi h.size) hne).trans (h.block i hi hne)⟩

theorem wb_set {w w' : World} {g : Nat} (hb : w.grownBy w' (some g)) (k : Nat) (u : Value) : w.grownBy (w'.setCell ⟨g, k, none⟩ u) (some g) :=
  gtrans hb ⟨rfl, rfl, rfl, by simp [World.setCell], fun j hj hne => Below.heap_setCell _ _ _ _ (fun e => hne (congrArg some e))⟩

/-- A reader anew in the cells of another. -/
theorem Rd.new {w : World} {g h : Nat} {r' : Option (List UInt8)} {v u : Value} (c0 : w.cell? ⟨g, 0, none⟩ = some v) (c1 : w.cell? ⟨g, 1, none⟩ = some (.bool r'.isNone)) (f0 : w.frozen? ⟨g, 0, none⟩ = false) (f1 : w.frozen? ⟨g, 1, none⟩ = false)
    (hg : g < w.heap.size) (hj : ∀ j, 2 ≤ j → w.cell? ⟨g, j, none⟩ = none) (hu : BytesV w u (r'.getD [])) (ho : ∀ a n c, u = .slice (some a) n c → 0 < (r'.getD []).length → a.block = h ∧ h ≠ g) : Rd (w.setCell ⟨g, 0, none⟩ u) g h r' := by
  have hb : w.grownBy (w.setCell ⟨g, 0, none⟩ u) (some g) := wb_set (World.grownBy.refl _ _) _ _
  refine ⟨u, hu.but hb (fun a n c e h0 hx => ?_), ho, ?_, ?_, ?_, ?_, ?_, fun j h2 => ?_⟩
  · have := ho a n c e h0
    injection hx with hx
    exact this.2 (this.1.symm.trans hx)
  · rw [World.cell?_setCell_same _ _ _ c0]
  · rw [World.cell?_setCell_other _ _ _ _ (fun e => by cases e), c1]
  · simpa using f0
  · simpa using f1
  · simpa [World.setCell] using hg
  · rw [World.cell?_setCell_other _ _ _ _ (fun e => by injection e; omega), hj j h2]

/-- Bytes never lie in a reader's block. -/
theorem BytesV.off {w : World} {g h : Nat} {r : Option (List UInt8)} {o : Value} {l : List UInt8} (hv : BytesV w o l) (hr : Rd w g h r) : ∀ a n c, o = .slice (some a) n c → 0 < l.length → some a.block ≠ some g := by
  obtain ⟨v, ⟨A, c, rfl, _⟩, _, c0, c1, _, _, _, hj⟩ := hr
  obtain ⟨B, d, rfl, _, _, _, hx⟩ := hv
  intro a n c' e h0 hb
  injection e with e
  subst e
  obtain ⟨b, off, e, _, hcell⟩ := hx h0
  injection e with e
  subst e
  injection hb with hb
  have hb : b = g := hb
  subst hb
  have h1 := hcell 0 h0
  rw [Nat.add_zero] at h1
  match off, h1 with
  | 0, h1 => rw [c0] at h1; cases h1
  | 1, h1 => rw [c1] at h1; cases h1
  | off + 2, h1 => rw [hj _ (by omega)] at h1; cases h1
theorem BytesV.read {w w' : World} {g h : Nat} {r : Option (List UInt8)} {o : Value} {l : List UInt8} (hv : BytesV w o l) (hr : Rd w g h r) (hb : w.grownBy w' (some g)) : BytesV w' o l := hv.but hb (hv.off hr)

abbrev ptr (g : Nat) : Value := .pointer (some ⟨g, 0, none⟩)

theorem OK_any {g h : Nat} {r : Option (List UInt8)} (w : World) (hr : Rd w g h r) : Calls Try.prog 30 #[ptr g] w fun e w' => e = .returned (.bool r.isSome) ∧ w = w' := by
  obtain ⟨v, hv, ho, c0, c1, f0, f1, hg, hj⟩ := hr
  have HJ := Lib.hid hj
  clear hj
  cases r with
  | none =>
    have c1 : w.cell? ⟨g, 1, none⟩ = some (.bool true) := c1
    go_enter Try.func30, Try.ntmps30
    go_wp2_with fail
    go_ret
    exact ⟨rfl, rfl⟩
  | some l =>
    have c1 : w.cell? ⟨g, 1, none⟩ = some (.bool false) := c1
    go_enter Try.func30, Try.ntmps30
    go_wp2_with fail
    go_ret
    exact ⟨rfl, rfl⟩

theorem fail_any {g h : Nat} {r : Option (List UInt8)} (w : World) (hr : Rd w g h r) : Calls Try.prog 40 #[ptr g] w fun e w' => e = .returned (.tuple #[]) ∧ Rd w' g h none ∧ w.grownBy w' (some g) := by
  obtain ⟨v, hv, ho, c0, c1, f0, f1, hg, hj⟩ := hr
  have HJ := Lib.hid hj
  clear hj
  go_enter Try.func40, Try.ntmps40
  go_wp2_with fail
  ((try simp only [Exit.inBlock, Exit.then]); refine bodyPost_end (results_none rfl _ _ _) rfl ?_)
  have g1 := wb_set (World.grownBy.refl w (some g)) 1 (.bool true)
  have c1' := World.cell?_setCell_same w ⟨g, 1, none⟩ (.bool true) c1
  have c0' := World.cell?_setCell_other w ⟨g, 1, none⟩ ⟨g, 0, none⟩ (.bool true) (fun e => by cases e)
  exact ⟨rfl, Rd.new (c0'.trans c0) c1' (by simpa using f0) (by simpa using f1) (by simpa [World.setCell] using hg) (fun j h2 => by rw [World.cell?_setCell_other _ _ _ _ (fun e => by injection e; omega)]; exact HJ.out j h2) (BytesV.nil _) (fun a n c e => by cases e), wb_set g1 0 _⟩
theorem Left_any {g h : Nat} {r : Option (List UInt8)} (w : World) (hr : Rd w g h r) : Calls Try.prog 32 #[ptr g] w fun e w' => e = .returned (.int .i64 ((r.getD []).length : Int)) ∧ w = w' := by
  obtain ⟨v, hv, ho, c0, c1, f0, f1, hg, hj⟩ := hr
  have HJ := Lib.hid hj
  clear hj
  obtain ⟨A, c, rfl, hl, hc, hn, hx⟩ := hv
  go_enter Try.func32, Try.ntmps32
  go_wp2_with fail
  go_ret
  exact ⟨rfl, rfl⟩

theorem bytes_take {w : World} {a : Addr} {c k : Nat} {l : List UInt8} (hv : BytesV w (.slice (some a) l.length c) l) (hk : k ≤ l.length) : BytesV w (.slice (some a) k k) (l.take k) := by
  obtain ⟨A, c', e, hl, hc, hn, hr⟩ := hv
  injection e with e1 _ e3
  subst e1 e3
  have hkl : (l.take k).length = k := by simp; omega
  refine ⟨some a, k, by rw [hkl], by omega, by omega, (fun h => by cases h), fun h0 => ?_⟩
  obtain ⟨b, off, e, hb, hcell⟩ := hr (by omega)
  exact ⟨b, off, e, hb, fun j hj => by rw [hcell j (by omega), List.getElem_take]⟩

theorem bytes_drop {w : World} {a : Addr} {c k : Nat} {l : List UInt8} (hv : BytesV w (.slice (some a) l.length c) l) (hk : k ≤ l.length) : BytesV w (.slice (some (a.add k)) (l.length - k) (c - k)) (l.drop k) := by
  obtain ⟨A, c', e, hl, hc, hn, hr⟩ := hv
  injection e with e1 _ e3
  subst e1 e3
  have hkl : (l.drop k).length = l.length - k := by simp
  refine ⟨_, c - k, by rw [hkl], by omega, by omega, (fun h => by cases h), fun h0 => ?_⟩
  obtain ⟨b, off, e, hb, hcell⟩ := hr (by omega)
  injection e with e
  subst e
  refine ⟨b, off + k, by rw [Addr.add_lit], hb, fun j hj => ?_⟩
  rw [show off + k + j = off + (k + j) from by omega, hcell (k + j) (by omega), List.getElem_drop]

theorem bytes_drop0 {w : World} {a : Addr} {c k : Nat} {l : List UInt8} (hv : BytesV w (.slice (some a) l.length c) l) (hk : k ≤ l.length) (hck : c = k) : BytesV w (.slice (some a) (l.length - k) 0) (l.drop k) := by
  have hl : l.length ≤ c := by
    obtain ⟨A, c', e, hl, _⟩ := hv
    injection e with _ _ e3
    omega
  have : l.length - k = 0 := by omega
  rw [this, List.drop_eq_nil_of_le (by omega)]
  exact ⟨some a, 0, rfl, Nat.le_refl _, Nat.zero_le _, (fun h => by cases h), fun h => absurd h (by simp)⟩

def takeR (n : Int) : Option (List UInt8) → List UInt8 × Option (List UInt8)
  | none => ([], none)
  | some l => if 0 ≤ n ∧ n ≤ (l.length : Int) then (l.take n.toNat, some (l.drop n.toNat)) else ([], none)

set_option maxHeartbeats 1000000 in
theorem take_any {g h : Nat} {r : Option (List UInt8)} (n : Int) (w : World) (hr : Rd w g h r) :
    Calls Try.prog 38 #[ptr g, .int .i64 n] w fun e w' => ∃ v, e = .returned v ∧ BytesV w' v (takeR n r).1 ∧ (∀ a m c, v = .slice (some a) m c → 0 < (takeR n r).1.length → a.block = h ∧ h ≠ g) ∧ Rd w' g h (takeR n r).2 ∧ w.grownBy w' (some g) := by
  have HR := Lib.hid hr
  cases r with
  | none =>
    clear hr
    go_enter Try.func38, Try.ntmps38
    go_wp2_with fail
    refine (OK_any _ HR.out).mono ?_; rintro e w' ⟨rfl, rfl⟩
    go_wp2_with fail
    refine (fail_any _ HR.out).mono ?_; rintro e w1 ⟨rfl, h1, hg1⟩
    go_wp2_with fail
    go_ret
    exact ⟨_, rfl, BytesV.nil _, (fun a n c e => by cases e), h1, hg1⟩
  | some l =>
    obtain ⟨v, hv, ho, c0, c1, f0, f1, hg, hj⟩ := hr
    have HJ := Lib.hid hj
    clear hj
    have hv0 := Lib.hid hv
    obtain ⟨A, c, rfl, hl, hc, hn, hx⟩ := hv
    simp only [Option.getD_some] at hl hc hn hx ho c0 hv0
    by_cases hb : 0 ≤ n ∧ n ≤ (l.length : Int)
    · have ht : takeR n (some l) = (l.take n.toNat, some (l.drop n.toNat)) := if_pos hb
      rw [ht]
      obtain ⟨k, rfl⟩ := Int.eq_ofNat_of_zero_le hb.1
      have hk : k ≤ l.length := by omega
      have hkc : (k : Int) ≤ (c : Int) := by omega
      have hlc : (l.length : Int) ≤ (c : Int) := by omega
      have t0 : ¬ (l.length : Int) < (k : Int) := by omega
      have HX := Lib.hid hx
      have HO := Lib.hid ho
      have HT := Lib.hid ht
      clear hx ho ht hb
      cases A with
      | none =>
        have hc0 : c = 0 := hn rfl
        have hl0 : l = [] := List.eq_nil_of_length_eq_zero (by omega)
        subst hc0 hl0
        have : k = 0 := by simpa using hk
        subst this
        go_enter Try.func38, Try.ntmps38
        go_wp2_with fail
        refine (OK_any _ HR.out).mono ?_; rintro e w' ⟨rfl, rfl⟩
        go_wp2_with fail
        go_ret
        exact ⟨_, rfl, BytesV.nil _, (fun a n c e => by cases e), Rd.new c0 c1 f0 f1 hg HJ.out (BytesV.nil _) (fun a n c e => by cases e), wb_set (World.grownBy.refl _ _) _ _⟩
      | some a =>
        have o1 : ∀ (a' : Addr) (m c' : Nat), Value.slice (some a) k k = .slice (some a') m c' → 0 < (l.take k).length → a'.block = h ∧ h ≠ g := fun a' m c' e h0 => by
          injection e with e1
          injection e1 with e1
          subst e1
          exact HO.out a _ _ rfl (by simp at h0; omega)
        have O1 := Lib.hid o1
        clear o1
        by_cases hck : c = k
        · have HD := Lib.hid (bytes_drop0 hv0.out hk hck)
          go_enter Try.func38, Try.ntmps38
          go_wp2_with fail
          refine (OK_any _ HR.out).mono ?_; rintro e w' ⟨rfl, rfl⟩
          go_wp2_with fail
          go_ret
          refine ⟨_, rfl, (bytes_take hv0.out hk).but (wb_set (World.grownBy.refl _ (some g)) _ _) (fun a m c e h0 hx => ?_), O1.out, Rd.new c0 c1 f0 f1 hg HJ.out HD.out (fun a' m c' e h0 => ?_), wb_set (World.grownBy.refl _ _) _ _⟩
          · have := O1.out a m c e h0
            injection hx with hx
            exact this.2 (this.1.symm.trans hx)
          · have hl' : 0 < l.length := by simp at h0; omega
            injection e with e1
            injection e1 with e1
            subst e1
            exact HO.out a _ _ rfl hl'
        · have HD := Lib.hid (bytes_drop hv0.out hk)
          go_enter Try.func38, Try.ntmps38
          go_wp2_with fail
          refine (OK_any _ HR.out).mono ?_; rintro e w' ⟨rfl, rfl⟩
          go_wp2_with fail
          go_ret
          refine ⟨_, rfl, (bytes_take hv0.out hk).but (wb_set (World.grownBy.refl _ (some g)) _ _) (fun a m c e h0 hx => ?_), O1.out, Rd.new c0 c1 f0 f1 hg HJ.out HD.out (fun a' m c' e h0 => ?_), wb_set (World.grownBy.refl _ _) _ _⟩
          · have := O1.out a m c e h0
            injection hx with hx
            exact this.2 (this.1.symm.trans hx)
          · have hl' : 0 < l.length := by simp at h0; omega
            injection e with e1
            injection e1 with e1
            subst e1
            have := HO.out a _ _ rfl hl'
            unfold Addr.add
            split <;> exact this
    · have ht : takeR n (some l) = ([], none) := if_neg hb
      rw [ht]
      clear hx ho hn hl
      by_cases h0 : n < 0
      · go_enter Try.func38, Try.ntmps38
        go_wp2_with fail
        refine (OK_any _ HR.out).mono ?_; rintro e w' ⟨rfl, rfl⟩
        go_wp2_with fail
        refine (fail_any _ HR.out).mono ?_; rintro e w1 ⟨rfl, h1, hg1⟩
        go_wp2_with fail
        go_ret
        exact ⟨_, rfl, BytesV.nil _, (fun a n c e => by cases e), h1, hg1⟩
      · have h2 : (l.length : Int) < n := by omega
        have h0' : 0 ≤ n := by omega
        go_enter Try.func38, Try.ntmps38
        go_wp2_with fail
        refine (OK_any _ HR.out).mono ?_; rintro e w' ⟨rfl, rfl⟩
        go_wp2_with fail
        refine (fail_any _ HR.out).mono ?_; rintro e w1 ⟨rfl, h1, hg1⟩
        go_wp2_with fail
        go_ret
        exact ⟨_, rfl, BytesV.nil _, (fun a n c e => by cases e), h1, hg1⟩
end Go.Proofs.Ytaobfidjnnhniaa
