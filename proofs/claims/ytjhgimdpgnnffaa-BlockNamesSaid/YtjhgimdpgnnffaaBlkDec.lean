/- block.Decode: the pointer of bytes. Conditions: bounds of machine numbers. -/
import Derived.Test.YtjhgimdpgnnffaaBlkEnc
import Derived.Laws.Cover3
import Derived.Deep.DeepCutAuto
namespace Go.Proofs.Ytjhgimdpgnnffaa
set_option linter.unusedVariables false
set_option linter.unusedSimpArgs false
open Go.ChangeShapes Go.WideShapes Go.ChangeAt Go.RowKit Pl
attribute [local go_sem] ba_toList ba_size

theorem decode_short (l : List UInt8) (w : World) (h : l.length ≠ 16) : Calls Try.prog 21 #[sv l] w fun e w' => e = .returned (decV l) ∧ Below w.heap.size w w' := by
  have h1 : ((l.length : Int) != 16) = true := by simp; omega
  have hV : decV l = .tuple #[ptrV 0 0 0, .int .i64 4] := by
    unfold decV decP
    rw [if_neg (by simp [h])]
  rw [hV]
  clear hV h
  go_enter Try.func21, Try.ntmps21
  go_wp2_with fail
  go_returns
  exact ⟨rfl, by go_grown⟩

theorem info_p3 : (Try.prog.info? 26).map (·.size) = some 3 := by kernel_rfl
theorem wp_store_p3 {o : Oper} {a : Act} {w : World} {K : Act → World → Prop} {Q : Exit → Act → World → Prop} {x y : Operand} (ho : o.op = .store 26 x y) {g : Nat} {old new : Array Value}
    (hx : a.eval x = .pointer (some ⟨g, 0, none⟩)) (hy : a.eval y = .agg new) (hl : w.heap[g]? = some (.cells old 26 (0, 0))) (h4 : old.size = 3) (n4 : new.size = 3) (h1 : new.all (·.oneCell') = true)
    (h : K (a.put o.dst undef) (w.setRow g new)) : o.wp Try.prog a w K Q := by
  have hr : (Instr.storeAt 26 (.pointer (some ⟨g, 0, none⟩)) (.agg new)).run Try.prog w = .ok () (w.setRow g new) := by
    have := run_storeVar_row (P := Try.prog) w g _ 26 old new hl (by rw [info_p3, n4]) (by rw [h4, n4]) h1
    simp only [Instr.storeAt, Instr.sureAddr, Sem.run_bind, Sem.run_pure, Result.andThen_ok, this]
  unfold Oper.wp execOp
  simp only [ho, hx, hy, Sem.run_bind, hr, Sem.run_pure, Result.andThen_ok]
  exact h

theorem u64_or (x y k : Nat) (hy : y < 2 ^ k) (hx : x % 2 ^ k = 0) (hs : x + y < 18446744073709551616) : bits BinOp.or IntKind.u64 (x : Int) (y : Int) = ((x + y : Nat) : Int) := by
  show IntKind.u64.wrap ((BitVec.ofInt 64 (x : Int) ||| BitVec.ofInt 64 (y : Int)).toNat : Int) = _
  rw [BitVec.toNat_or, BitVec.ofInt_natCast, BitVec.ofInt_natCast, BitVec.toNat_ofNat, BitVec.toNat_ofNat, Nat.mod_eq_of_lt (by omega), Nat.mod_eq_of_lt (by omega), nat_or x y k hy hx, IntKind.wrap_u64]
  omega
def ifL (L : Nat → Bool) (i : Nat) (v : Value) : Value := if L i = true then v else undef
theorem ifL_yes {L : Nat → Bool} {i : Nat} (h : L i = true) (v : Value) : ifL L i v = v := if_pos h
def decP5 (L : Nat → Bool) (g : Nat) : Value := if L 21 = true then .pointer (some ⟨g, 0, none⟩) else undef
def decZ : Array Value := #[.int .i64 0, .int .i64 0, .int .u64 0]
def decN (n0 n1 n2 n3 : Nat) : Array Value := #[.int .i64 (n0 : Int), .int .i64 (n1 : Int), .int .u64 ((n2 : Int) * 4294967296 + (n3 : Int))]
def decAct (u0 u1 u6 u7 u8 u9 u10 u11 u12 u13 u14 u15 u16 u18 u19 u20 u22 u23 u24 u28 u29 u30 u35 u36 u37 u38 u39 : Value) (B n0 n1 n2 n3 : Nat) (L : Nat → Bool) (g : Nat) : Act :=
  { tmps := #[u0, u1, .pointer (some ⟨B, 0, none⟩), .int .i64 0, .pointer (some ⟨B + 1 + 1, 0, none⟩), decP5 L g, u6, u7, u8, u9, u10, u11, u12, u13, u14, u15, u16, ifL L 3 (.int .i64 (n0 : Int)), u18, u19, u20, ifL L 7 (.int .i64 (n1 : Int)), u22, u23, u24, ifL L 11 (.int .i64 (n2 : Int)), ifL L 12 (.int .u64 (n2 : Int)), ifL L 13 (.int .u64 ((n2 : Int) * 4294967296)), u28, u29, u30, ifL L 17 (.int .i64 (n3 : Int)), ifL L 18 (.int .u64 (n3 : Int)), ifL L 19 (.int .u64 ((n2 : Int) * 4294967296 + (n3 : Int))), ifL L 20 (ptrV (n0 : Int) (n1 : Int) ((n2 : Int) * 4294967296 + (n3 : Int))), u35, u36, u37, u38, u39], defers := [] }
def DecI (u0 u1 u6 u7 u8 u9 u10 u11 u12 u13 u14 u15 u16 u18 u19 u20 u22 u23 u24 u28 u29 u30 u35 u36 u37 u38 u39 : Value) (B n0 n1 n2 n3 : Nat) (X : World) (L : Nat → Bool) (A : Act) (W : World) : Prop :=
  ∃ g : Nat, A = decAct u0 u1 u6 u7 u8 u9 u10 u11 u12 u13 u14 u15 u16 u18 u19 u20 u22 u23 u24 u28 u29 u30 u35 u36 u37 u38 u39 B n0 n1 n2 n3 L g ∧ Below X.heap.size X W ∧ (∀ i, i ∈ [0, 1, 2, 4, 5, 6, 8, 9, 10, 14, 15, 16] → L i = true) ∧
    (L 21 = true → X.heap.size ≤ g ∧ W.heap[g]? = some (.cells (if L 22 = true then decN n0 n1 n2 n3 else decZ) 26 (0, 0))) ∧ (L 22 = true → L 21 = true)

section
variable {u0 u1 u6 u7 u8 u9 u10 u11 u12 u13 u14 u15 u16 u18 u19 u20 u22 u23 u24 u28 u29 u30 u35 u36 u37 u38 u39 : Value} {B n0 n1 n2 n3 : Nat} {X : World} {L : Nat → Bool} {W : World} {g : Nat}
theorem decI_grow {i : Nat} {w' : World} {A : Act} (hA : A = decAct u0 u1 u6 u7 u8 u9 u10 u11 u12 u13 u14 u15 u16 u18 u19 u20 u22 u23 u24 u28 u29 u30 u35 u36 u37 u38 u39 B n0 n1 n2 n3 (more L i) g) (hi : i < 21) (hB : Below X.heap.size X W) (hw : Below W.heap.size W w') (hP : ∀ i, i ∈ [0, 1, 2, 4, 5, 6, 8, 9, 10, 14, 15, 16] → L i = true)
    (hC : L 21 = true → X.heap.size ≤ g ∧ W.heap[g]? = some (.cells (if L 22 = true then decN n0 n1 n2 n3 else decZ) 26 (0, 0))) (hT : L 22 = true → L 21 = true) : DecI u0 u1 u6 u7 u8 u9 u10 u11 u12 u13 u14 u15 u16 u18 u19 u20 u22 u23 u24 u28 u29 u30 u35 u36 u37 u38 u39 B n0 n1 n2 n3 X (more L i) A w' := by
  refine ⟨g, hA, hB.trans (hw.mono hB.size), fun j hj => more_old L (hP j hj), fun hL => ?_, fun h => ?_⟩
  · rw [more_other L (by omega)] at hL
    rw [more_other L (by omega)]
    obtain ⟨c1, c2⟩ := hC hL
    exact ⟨c1, (hw.block g (Array.getElem?_eq_some_iff.1 c2).1).trans c2⟩
  · rw [more_other L (by omega)] at h
    exact more_old L (hT h)
theorem decI_alloc {A : Act} (hA : A = decAct u0 u1 u6 u7 u8 u9 u10 u11 u12 u13 u14 u15 u16 u18 u19 u20 u22 u23 u24 u28 u29 u30 u35 u36 u37 u38 u39 B n0 n1 n2 n3 (more L 21) W.heap.size) (h21 : L 21 = false) (hB : Below X.heap.size X W) (hP : ∀ i, i ∈ [0, 1, 2, 4, 5, 6, 8, 9, 10, 14, 15, 16] → L i = true)
    (hT : L 22 = true → L 21 = true) : DecI u0 u1 u6 u7 u8 u9 u10 u11 u12 u13 u14 u15 u16 u18 u19 u20 u22 u23 u24 u28 u29 u30 u35 u36 u37 u38 u39 B n0 n1 n2 n3 X (more L 21) A (W.alloc (.cells decZ 26)) := by
  have h22 : L 22 = false := by
    cases h : L 22
    · rfl
    · rw [hT h] at h21; cases h21
  refine ⟨W.heap.size, hA, hB.alloc hB.size _, fun j hj => more_old L (hP j hj), fun _ => ?_, fun h => ?_⟩
  · rw [more_other L (by omega), h22]
    exact ⟨hB.size, heap_alloc_new W _⟩
  · exact more_same L 21
theorem decI_store {A : Act} (hA : A = decAct u0 u1 u6 u7 u8 u9 u10 u11 u12 u13 u14 u15 u16 u18 u19 u20 u22 u23 u24 u28 u29 u30 u35 u36 u37 u38 u39 B n0 n1 n2 n3 (more L 22) g) (h21 : L 21 = true) (hB : Below X.heap.size X W) (hP : ∀ i, i ∈ [0, 1, 2, 4, 5, 6, 8, 9, 10, 14, 15, 16] → L i = true)
    (hC : L 21 = true → X.heap.size ≤ g ∧ W.heap[g]? = some (.cells (if L 22 = true then decN n0 n1 n2 n3 else decZ) 26 (0, 0))) : DecI u0 u1 u6 u7 u8 u9 u10 u11 u12 u13 u14 u15 u16 u18 u19 u20 u22 u23 u24 u28 u29 u30 u35 u36 u37 u38 u39 B n0 n1 n2 n3 X (more L 22) A (W.setRow g (decN n0 n1 n2 n3)) := by
  obtain ⟨m1, m2⟩ := hC h21
  refine ⟨g, hA, hB.grown (wb_row g _) hB.size (fun k e => by cases e; exact m1), fun j hj => more_old L (hP j hj), fun _ => ?_, fun _ => more_old L h21⟩
  rw [more_same, if_pos rfl]
  exact ⟨m1, setRow_heap W g _ _ _ _ m2⟩
end

set_option maxRecDepth 100000 in
set_option maxHeartbeats 6400000 in
theorem decode_long (x0 x1 x2 x3 x4 x5 x6 x7 x8 x9 x10 x11 x12 x13 x14 x15 : UInt8) (w : World) : Calls Try.prog 21 #[sv [x0, x1, x2, x3, x4, x5, x6, x7, x8, x9, x10, x11, x12, x13, x14, x15]] w fun e w' => e = .returned (decV [x0, x1, x2, x3, x4, x5, x6, x7, x8, x9, x10, x11, x12, x13, x14, x15]) ∧ Below w.heap.size w w' := by
  obtain ⟨l, hl⟩ : ∃ l : List UInt8, l = [x0, x1, x2, x3, x4, x5, x6, x7, x8, x9, x10, x11, x12, x13, x14, x15] := ⟨_, rfl⟩
  have hlen : l.length = 16 := by rw [hl]; rfl
  have h1 : ((l.length : Int) != 16) = false := by rw [hlen]; rfl
  obtain ⟨V, hV⟩ : ∃ V : Value, V = decV [x0, x1, x2, x3, x4, x5, x6, x7, x8, x9, x10, x11, x12, x13, x14, x15] := ⟨_, rfl⟩
  rw [← hV, ← hl]
  have HL := Lib.hid hl
  have HN := Lib.hid hlen
  have HV := Lib.hid hV
  clear hl hlen hV
  go_enter Try.func21, Try.ntmps21
  go_wp2_with (with_reducible refine wpList_bytes_of_string rfl _ rfl Try.underlying9 Try.underlying43 Try.underlying5 (l := l) rfl (by rw [HN.out]; unfold maxLen; omega) ?_)
  intro v1 w1 hr hw1 hs1
  obtain ⟨g, c, rfl, hg0, hg1, hc0, hc1, hcell⟩ := hr
  obtain rfl := HL.out
  simp only [List.length_cons, List.length_nil, Nat.zero_add, Nat.reduceAdd] at hc0 ⊢
  have c0 : w1.cell? ⟨g, 0, none⟩ = some (.int .u8 (x0.toNat : Int)) := (hcell 0 (by simp)).1
  have c1 : w1.cell? ⟨g, 1, none⟩ = some (.int .u8 (x1.toNat : Int)) := (hcell 1 (by simp)).1
  have c2 : w1.cell? ⟨g, 2, none⟩ = some (.int .u8 (x2.toNat : Int)) := (hcell 2 (by simp)).1
  have c3 : w1.cell? ⟨g, 3, none⟩ = some (.int .u8 (x3.toNat : Int)) := (hcell 3 (by simp)).1
  have c4 : w1.cell? ⟨g, 4, none⟩ = some (.int .u8 (x4.toNat : Int)) := (hcell 4 (by simp)).1
  have c5 : w1.cell? ⟨g, 5, none⟩ = some (.int .u8 (x5.toNat : Int)) := (hcell 5 (by simp)).1
  have c6 : w1.cell? ⟨g, 6, none⟩ = some (.int .u8 (x6.toNat : Int)) := (hcell 6 (by simp)).1
  have c7 : w1.cell? ⟨g, 7, none⟩ = some (.int .u8 (x7.toNat : Int)) := (hcell 7 (by simp)).1
  have c8 : w1.cell? ⟨g, 8, none⟩ = some (.int .u8 (x8.toNat : Int)) := (hcell 8 (by simp)).1
  have c9 : w1.cell? ⟨g, 9, none⟩ = some (.int .u8 (x9.toNat : Int)) := (hcell 9 (by simp)).1
  have c10 : w1.cell? ⟨g, 10, none⟩ = some (.int .u8 (x10.toNat : Int)) := (hcell 10 (by simp)).1
  have c11 : w1.cell? ⟨g, 11, none⟩ = some (.int .u8 (x11.toNat : Int)) := (hcell 11 (by simp)).1
  have c12 : w1.cell? ⟨g, 12, none⟩ = some (.int .u8 (x12.toNat : Int)) := (hcell 12 (by simp)).1
  have c13 : w1.cell? ⟨g, 13, none⟩ = some (.int .u8 (x13.toNat : Int)) := (hcell 13 (by simp)).1
  have c14 : w1.cell? ⟨g, 14, none⟩ = some (.int .u8 (x14.toNat : Int)) := (hcell 14 (by simp)).1
  have c15 : w1.cell? ⟨g, 15, none⟩ = some (.int .u8 (x15.toNat : Int)) := (hcell 15 (by simp)).1
  have ka := fun W : World => run_arrayAt (P := Try.prog) (w := W) 58 5 16 (some ⟨g, 0, none⟩) 16 c Try.underlying58 (by omega)
  clear hcell HL HN
  go_wp2_with fail
  obtain ⟨X, hX⟩ : ∃ X : World, X = w1.alloc (.cells #[.int .u8 (x0.toNat : Int), .int .u8 (x1.toNat : Int), .int .u8 (x2.toNat : Int), .int .u8 (x3.toNat : Int), .int .u8 (x4.toNat : Int), .int .u8 (x5.toNat : Int), .int .u8 (x6.toNat : Int), .int .u8 (x7.toNat : Int), .int .u8 (x8.toNat : Int), .int .u8 (x9.toNat : Int), .int .u8 (x10.toNat : Int), .int .u8 (x11.toNat : Int), .int .u8 (x12.toNat : Int), .int .u8 (x13.toNat : Int), .int .u8 (x14.toNat : Int), .int .u8 (x15.toNat : Int)] 58) := ⟨_, rfl⟩
  have hs1' : w1.heap.size = w.heap.size + 1 + 1 := by simpa using hs1
  have hw1' : Below (w.alloc (.cells #[.int .i64 0, .int .i64 0, .int .u64 0] 26)).heap.size (w.alloc (.cells #[.int .i64 0, .int .i64 0, .int .u64 0] 26)) w1 := by simpa using hw1
  have hw2 := chain ((Below.refl w.heap.size w).alloc (Nat.le_refl _) (.cells #[.int .i64 0, .int .i64 0, .int .u64 0] 26)) hw1'
  have bX : Below w.heap.size w X := by rw [hX]; exact hw2.alloc hw2.size _
  have bZ : Below (w.alloc (.cells #[.int .i64 0, .int .i64 0, .int .u64 0] 26)).heap.size (w.alloc (.cells #[.int .i64 0, .int .i64 0, .int .u64 0] 26)) X := by rw [hX]; exact hw1'.alloc hw1'.size _
  have old : ∀ W : World, Below X.heap.size X W → W.cell? ⟨w.heap.size + 1 + 1, 0, none⟩ = some (.int .u8 (x0.toNat : Int)) ∧ W.cell? ⟨w.heap.size + 1 + 1, 1, none⟩ = some (.int .u8 (x1.toNat : Int)) ∧ W.cell? ⟨w.heap.size + 1 + 1, 2, none⟩ = some (.int .u8 (x2.toNat : Int)) ∧ W.cell? ⟨w.heap.size + 1 + 1, 3, none⟩ = some (.int .u8 (x3.toNat : Int)) ∧ W.cell? ⟨w.heap.size + 1 + 1, 4, none⟩ = some (.int .u8 (x4.toNat : Int)) ∧ W.cell? ⟨w.heap.size + 1 + 1, 5, none⟩ = some (.int .u8 (x5.toNat : Int)) ∧ W.cell? ⟨w.heap.size + 1 + 1, 6, none⟩ = some (.int .u8 (x6.toNat : Int)) ∧ W.cell? ⟨w.heap.size + 1 + 1, 7, none⟩ = some (.int .u8 (x7.toNat : Int)) ∧ W.cell? ⟨w.heap.size + 1 + 1, 8, none⟩ = some (.int .u8 (x8.toNat : Int)) ∧ W.cell? ⟨w.heap.size + 1 + 1, 9, none⟩ = some (.int .u8 (x9.toNat : Int)) ∧ W.cell? ⟨w.heap.size + 1 + 1, 10, none⟩ = some (.int .u8 (x10.toNat : Int)) ∧ W.cell? ⟨w.heap.size + 1 + 1, 11, none⟩ = some (.int .u8 (x11.toNat : Int)) ∧ W.cell? ⟨w.heap.size + 1 + 1, 12, none⟩ = some (.int .u8 (x12.toNat : Int)) ∧ W.cell? ⟨w.heap.size + 1 + 1, 13, none⟩ = some (.int .u8 (x13.toNat : Int)) ∧ W.cell? ⟨w.heap.size + 1 + 1, 14, none⟩ = some (.int .u8 (x14.toNat : Int)) ∧ W.cell? ⟨w.heap.size + 1 + 1, 15, none⟩ = some (.int .u8 (x15.toNat : Int)) := by
    intro W hW
    have hlt : w1.heap.size < X.heap.size := by rw [hX]; simp
    have hc : ∀ k v, (#[.int .u8 (x0.toNat : Int), .int .u8 (x1.toNat : Int), .int .u8 (x2.toNat : Int), .int .u8 (x3.toNat : Int), .int .u8 (x4.toNat : Int), .int .u8 (x5.toNat : Int), .int .u8 (x6.toNat : Int), .int .u8 (x7.toNat : Int), .int .u8 (x8.toNat : Int), .int .u8 (x9.toNat : Int), .int .u8 (x10.toNat : Int), .int .u8 (x11.toNat : Int), .int .u8 (x12.toNat : Int), .int .u8 (x13.toNat : Int), .int .u8 (x14.toNat : Int), .int .u8 (x15.toNat : Int)] : Array Value)[k]? = some v → W.cell? ⟨w.heap.size + 1 + 1, k, none⟩ = some v := fun k v hv => by
      rw [← hs1', hW.cell (p := ⟨w1.heap.size, k, none⟩) hlt, hX, cell_of_row _ _ k _ _ _ (heap_alloc_new w1 _)]
      exact hv
    exact ⟨hc 0 _ rfl, hc 1 _ rfl, hc 2 _ rfl, hc 3 _ rfl, hc 4 _ rfl, hc 5 _ rfl, hc 6 _ rfl, hc 7 _ rfl, hc 8 _ rfl, hc 9 _ rfl, hc 10 _ rfl, hc 11 _ rfl, hc 12 _ rfl, hc 13 _ rfl, hc 14 _ rfl, hc 15 _ rfl⟩
  have OLX := Lib.hid old
  have BX := Lib.hid bX
  have BZ := Lib.hid bZ
  rw [← hX]
  have k0 := fun W : World => run_arrayAt (P := Try.prog) (w := W) 50 5 4 (some ⟨w.heap.size + 1 + 1, 0, none⟩) 4 16 Try.underlying50 (by omega)
  have k4 := fun W : World => run_arrayAt (P := Try.prog) (w := W) 50 5 4 (some ⟨w.heap.size + 1 + 1, 4, none⟩) 4 12 Try.underlying50 (by omega)
  have k8 := fun W : World => run_arrayAt (P := Try.prog) (w := W) 50 5 4 (some ⟨w.heap.size + 1 + 1, 8, none⟩) 4 8 Try.underlying50 (by omega)
  have k12 := fun W : World => run_arrayAt (P := Try.prog) (w := W) 50 5 4 (some ⟨w.heap.size + 1 + 1, 12, none⟩) 4 4 Try.underlying50 (by omega)
  obtain ⟨n0, hn0⟩ : ∃ n : Nat, n = unbe 0 [x0, x1, x2, x3] := ⟨_, rfl⟩
  have CN0 := fun W : World => bnumber_any x0 x1 x2 x3 W
  rw [← hn0] at CN0
  have GN0 := Lib.hid CN0
  have b0 : n0 < 4294967296 := by rw [hn0]; have := unbe_lt [x0, x1, x2, x3] 0; simpa using this
  obtain ⟨n1, hn1⟩ : ∃ n : Nat, n = unbe 0 [x4, x5, x6, x7] := ⟨_, rfl⟩
  have CN1 := fun W : World => bnumber_any x4 x5 x6 x7 W
  rw [← hn1] at CN1
  have GN1 := Lib.hid CN1
  have b1 : n1 < 4294967296 := by rw [hn1]; have := unbe_lt [x4, x5, x6, x7] 0; simpa using this
  obtain ⟨n2, hn2⟩ : ∃ n : Nat, n = unbe 0 [x8, x9, x10, x11] := ⟨_, rfl⟩
  have CN2 := fun W : World => bnumber_any x8 x9 x10 x11 W
  rw [← hn2] at CN2
  have GN2 := Lib.hid CN2
  have b2 : n2 < 4294967296 := by rw [hn2]; have := unbe_lt [x8, x9, x10, x11] 0; simpa using this
  obtain ⟨n3, hn3⟩ : ∃ n : Nat, n = unbe 0 [x12, x13, x14, x15] := ⟨_, rfl⟩
  have CN3 := fun W : World => bnumber_any x12 x13 x14 x15 W
  rw [← hn3] at CN3
  have GN3 := Lib.hid CN3
  have b3 : n3 < 4294967296 := by rw [hn3]; have := unbe_lt [x12, x13, x14, x15] 0; simpa using this
  have hVV : V = if mayP (n0 : Int) (n1 : Int) ((n2 : Int) * 4294967296 + (n3 : Int)) = true then .tuple #[ptrV (n0 : Int) (n1 : Int) ((n2 : Int) * 4294967296 + (n3 : Int)), .int .i64 0] else .tuple #[ptrV 0 0 0, .int .i64 4] := by
    rw [HV.out]
    unfold decV decP
    have q0 : q4 [x0, x1, x2, x3, x4, x5, x6, x7, x8, x9, x10, x11, x12, x13, x14, x15] 0 = n0 := hn0.symm
    have q1 : q4 [x0, x1, x2, x3, x4, x5, x6, x7, x8, x9, x10, x11, x12, x13, x14, x15] 4 = n1 := hn1.symm
    have q2 : q4 [x0, x1, x2, x3, x4, x5, x6, x7, x8, x9, x10, x11, x12, x13, x14, x15] 8 = n2 := hn2.symm
    have q3 : q4 [x0, x1, x2, x3, x4, x5, x6, x7, x8, x9, x10, x11, x12, x13, x14, x15] 12 = n3 := hn3.symm
    rw [q0, q1, q2, q3, show ((n2 * 4294967296 + n3 : Nat) : Int) = (n2 : Int) * 4294967296 + (n3 : Int) from by omega]
    rfl
  have HVV := Lib.hid hVV
  clear old bX bZ hX ka hc0 hc1 hg0 hg1 hs1 hs1' hw1 hw1' hw2 HV hVV CN0 CN1 CN2 CN3 hn0 hn1 hn2 hn3 c0 c1 c2 c3 c4 c5 c6 c7 c8 c9 c10 c11 c12 c13 c14 c15
  go_upto_region 5 with (fail)
  go_cut [5] (fun v wc => ∃ g : Nat, v = .pointer (some ⟨g, 0, none⟩) ∧ Below X.heap.size X wc ∧ wc.heap[g]? = some (.cells (decN n0 n1 n2 n3) 26 (0, 0)))
  case first =>
    refine wp_region_held_drew (S := fun W => Below X.heap.size X W ∧ W.cell? ⟨w.heap.size + 1 + 1, 0, none⟩ = some (.int .u8 (x0.toNat : Int)) ∧ W.cell? ⟨w.heap.size + 1 + 1, 1, none⟩ = some (.int .u8 (x1.toNat : Int)) ∧ W.cell? ⟨w.heap.size + 1 + 1, 2, none⟩ = some (.int .u8 (x2.toNat : Int)) ∧ W.cell? ⟨w.heap.size + 1 + 1, 3, none⟩ = some (.int .u8 (x3.toNat : Int)) ∧ W.cell? ⟨w.heap.size + 1 + 1, 4, none⟩ = some (.int .u8 (x4.toNat : Int)) ∧ W.cell? ⟨w.heap.size + 1 + 1, 5, none⟩ = some (.int .u8 (x5.toNat : Int)) ∧ W.cell? ⟨w.heap.size + 1 + 1, 6, none⟩ = some (.int .u8 (x6.toNat : Int)) ∧ W.cell? ⟨w.heap.size + 1 + 1, 7, none⟩ = some (.int .u8 (x7.toNat : Int)) ∧ W.cell? ⟨w.heap.size + 1 + 1, 8, none⟩ = some (.int .u8 (x8.toNat : Int)) ∧ W.cell? ⟨w.heap.size + 1 + 1, 9, none⟩ = some (.int .u8 (x9.toNat : Int)) ∧ W.cell? ⟨w.heap.size + 1 + 1, 10, none⟩ = some (.int .u8 (x10.toNat : Int)) ∧ W.cell? ⟨w.heap.size + 1 + 1, 11, none⟩ = some (.int .u8 (x11.toNat : Int)) ∧ W.cell? ⟨w.heap.size + 1 + 1, 12, none⟩ = some (.int .u8 (x12.toNat : Int)) ∧ W.cell? ⟨w.heap.size + 1 + 1, 13, none⟩ = some (.int .u8 (x13.toNat : Int)) ∧ W.cell? ⟨w.heap.size + 1 + 1, 14, none⟩ = some (.int .u8 (x14.toNat : Int)) ∧ W.cell? ⟨w.heap.size + 1 + 1, 15, none⟩ = some (.int .u8 (x15.toNat : Int))) (by kernel_rfl) ⟨(Below.refl _ _).drew, OLX.out _ (Below.refl _ _).drew⟩ (fun hHeld => ?_)
    refine wpAnyH_take (i := 0) (oi := _) (v := ?_) rfl (by kernel_rfl) (by kernel_rfl) (by kernel_rfl) (fun _ _ _ h => h) (Or.inl ⟨by rfl, ?_⟩) (by assumption) ?_
    rotate_left
    · (intro w hSw; (try dsimp only at hSw); (try go_split_ands); go_simp; (try with_reducible rfl))
    (try simp only [List.getElem_toArray, List.getElem_cons_zero, List.getElem_cons_succ, Act.put, List.setIfInBounds_toArray, List.set_cons_zero, List.set_cons_succ])
    refine wpAnyH_take (i := 1) (oi := _) (v := ?_) rfl (by kernel_rfl) (by kernel_rfl) (by kernel_rfl) (fun _ _ _ h => h) (Or.inl ⟨by rfl, ?_⟩) (by assumption) ?_
    rotate_left
    · (intro w hSw; (try dsimp only at hSw); (try go_split_ands); go_simp; (try with_reducible rfl))
    (try simp only [List.getElem_toArray, List.getElem_cons_zero, List.getElem_cons_succ, Act.put, List.setIfInBounds_toArray, List.set_cons_zero, List.set_cons_succ])
    refine wpAnyH_take (i := 2) (oi := _) (v := ?_) rfl (by kernel_rfl) (by kernel_rfl) (by kernel_rfl) (fun _ _ _ h => h) (Or.inl ⟨by rfl, ?_⟩) (by assumption) ?_
    rotate_left
    · (intro w hSw; (try dsimp only at hSw); (try go_split_ands); go_simp; (try with_reducible rfl))
    (try simp only [List.getElem_toArray, List.getElem_cons_zero, List.getElem_cons_succ, Act.put, List.setIfInBounds_toArray, List.set_cons_zero, List.set_cons_succ])
    refine wpAnyH_take (i := 4) (oi := _) (v := ?_) rfl (by kernel_rfl) (by kernel_rfl) (by kernel_rfl) (fun _ _ _ h => h) (Or.inl ⟨by rfl, ?_⟩) (by assumption) ?_
    rotate_left
    · (intro w hSw; (try dsimp only at hSw); (try go_split_ands); go_simp; (try with_reducible rfl))
    (try simp only [List.getElem_toArray, List.getElem_cons_zero, List.getElem_cons_succ, Act.put, List.setIfInBounds_toArray, List.set_cons_zero, List.set_cons_succ])
    refine wpAnyH_take (i := 5) (oi := _) (v := ?_) rfl (by kernel_rfl) (by kernel_rfl) (by kernel_rfl) (fun _ _ _ h => h) (Or.inl ⟨by rfl, ?_⟩) (by assumption) ?_
    rotate_left
    · (intro w hSw; (try dsimp only at hSw); (try go_split_ands); go_simp; (try with_reducible rfl))
    (try simp only [List.getElem_toArray, List.getElem_cons_zero, List.getElem_cons_succ, Act.put, List.setIfInBounds_toArray, List.set_cons_zero, List.set_cons_succ])
    refine wpAnyH_take (i := 6) (oi := _) (v := ?_) rfl (by kernel_rfl) (by kernel_rfl) (by kernel_rfl) (fun _ _ _ h => h) (Or.inl ⟨by rfl, ?_⟩) (by assumption) ?_
    rotate_left
    · (intro w hSw; (try dsimp only at hSw); (try go_split_ands); go_simp; (try with_reducible rfl))
    (try simp only [List.getElem_toArray, List.getElem_cons_zero, List.getElem_cons_succ, Act.put, List.setIfInBounds_toArray, List.set_cons_zero, List.set_cons_succ])
    refine wpAnyH_take (i := 8) (oi := _) (v := ?_) rfl (by kernel_rfl) (by kernel_rfl) (by kernel_rfl) (fun _ _ _ h => h) (Or.inl ⟨by rfl, ?_⟩) (by assumption) ?_
    rotate_left
    · (intro w hSw; (try dsimp only at hSw); (try go_split_ands); go_simp; (try with_reducible rfl))
    (try simp only [List.getElem_toArray, List.getElem_cons_zero, List.getElem_cons_succ, Act.put, List.setIfInBounds_toArray, List.set_cons_zero, List.set_cons_succ])
    refine wpAnyH_take (i := 9) (oi := _) (v := ?_) rfl (by kernel_rfl) (by kernel_rfl) (by kernel_rfl) (fun _ _ _ h => h) (Or.inl ⟨by rfl, ?_⟩) (by assumption) ?_
    rotate_left
    · (intro w hSw; (try dsimp only at hSw); (try go_split_ands); go_simp; (try with_reducible rfl))
    (try simp only [List.getElem_toArray, List.getElem_cons_zero, List.getElem_cons_succ, Act.put, List.setIfInBounds_toArray, List.set_cons_zero, List.set_cons_succ])
    refine wpAnyH_take (i := 10) (oi := _) (v := ?_) rfl (by kernel_rfl) (by kernel_rfl) (by kernel_rfl) (fun _ _ _ h => h) (Or.inl ⟨by rfl, ?_⟩) (by assumption) ?_
    rotate_left
    · (intro w hSw; (try dsimp only at hSw); (try go_split_ands); go_simp; (try with_reducible rfl))
    (try simp only [List.getElem_toArray, List.getElem_cons_zero, List.getElem_cons_succ, Act.put, List.setIfInBounds_toArray, List.set_cons_zero, List.set_cons_succ])
    refine wpAnyH_take (i := 14) (oi := _) (v := ?_) rfl (by kernel_rfl) (by kernel_rfl) (by kernel_rfl) (fun _ _ _ h => h) (Or.inl ⟨by rfl, ?_⟩) (by assumption) ?_
    rotate_left
    · (intro w hSw; (try dsimp only at hSw); (try go_split_ands); go_simp; (try with_reducible rfl))
    (try simp only [List.getElem_toArray, List.getElem_cons_zero, List.getElem_cons_succ, Act.put, List.setIfInBounds_toArray, List.set_cons_zero, List.set_cons_succ])
    refine wpAnyH_take (i := 15) (oi := _) (v := ?_) rfl (by kernel_rfl) (by kernel_rfl) (by kernel_rfl) (fun _ _ _ h => h) (Or.inl ⟨by rfl, ?_⟩) (by assumption) ?_
    rotate_left
    · (intro w hSw; (try dsimp only at hSw); (try go_split_ands); go_simp; (try with_reducible rfl))
    (try simp only [List.getElem_toArray, List.getElem_cons_zero, List.getElem_cons_succ, Act.put, List.setIfInBounds_toArray, List.set_cons_zero, List.set_cons_succ])
    refine wpAnyH_take (i := 16) (oi := _) (v := ?_) rfl (by kernel_rfl) (by kernel_rfl) (by kernel_rfl) (fun _ _ _ h => h) (Or.inl ⟨by rfl, ?_⟩) (by assumption) ?_
    rotate_left
    · (intro w hSw; (try dsimp only at hSw); (try go_split_ands); go_simp; (try with_reducible rfl))
    (try simp only [List.getElem_toArray, List.getElem_cons_zero, List.getElem_cons_succ, Act.put, List.setIfInBounds_toArray, List.set_cons_zero, List.set_cons_succ])
    refine wpAnyH_inv (I := DecI _ _ _ _ _ _ _ _ _ _ _ _ _ _ _ _ _ _ _ _ _ _ _ _ _ _ _ w.heap.size n0 n1 n2 n3 X) (back_of (by kernel_rfl)) ?hstep ?hend _ _ _ _ (by kernel_rfl) (by decide) ⟨0, rfl, (Below.refl _ _).drew, by decide, (fun h => absurd h (by decide)), (fun h => absurd h (by decide))⟩
    case hend =>
      intro L A W hI hall
      obtain ⟨g, rfl, hB, hP, hC, hT⟩ := hI
      have HC : W.heap[g]? = some (.cells (decN n0 n1 n2 n3) 26 (0, 0)) := by
        have h1 := (hC (hall 21 (by decide))).2
        rwa [hall 22 (by decide), if_pos rfl] at h1
      have l3 : L 3 = true := hall 3 (by decide)
      have l7 : L 7 = true := hall 7 (by decide)
      have l11 : L 11 = true := hall 11 (by decide)
      have l12 : L 12 = true := hall 12 (by decide)
      have l13 : L 13 = true := hall 13 (by decide)
      have l17 : L 17 = true := hall 17 (by decide)
      have l18 : L 18 = true := hall 18 (by decide)
      have l19 : L 19 = true := hall 19 (by decide)
      have l20 : L 20 = true := hall 20 (by decide)
      have l21 : L 21 = true := hall 21 (by decide)
      simp only [decAct, decP5, ifL, l3, l7, l11, l12, l13, l17, l18, l19, l20, l21, if_true]
      clear hP hC hT hall l3 l7 l11 l12 l13 l17 l18 l19 l20 l21
      go_wp2_with fail
      go_meet
      exact ⟨g, rfl, hB, HC⟩
    case hstep =>
      intro L A W i o hI ho hLi hd
      obtain ⟨g, rfl, hB, hP, hC, hT⟩ := hI
      have hi23 : i < 23 := (Array.getElem?_eq_some_iff.1 ho).1
      have HS : ∀ W, Below X.heap.size X W → Below X.heap.size X W ∧ W.cell? ⟨w.heap.size + 1 + 1, 0, none⟩ = some (.int .u8 (x0.toNat : Int)) ∧ W.cell? ⟨w.heap.size + 1 + 1, 1, none⟩ = some (.int .u8 (x1.toNat : Int)) ∧ W.cell? ⟨w.heap.size + 1 + 1, 2, none⟩ = some (.int .u8 (x2.toNat : Int)) ∧ W.cell? ⟨w.heap.size + 1 + 1, 3, none⟩ = some (.int .u8 (x3.toNat : Int)) ∧ W.cell? ⟨w.heap.size + 1 + 1, 4, none⟩ = some (.int .u8 (x4.toNat : Int)) ∧ W.cell? ⟨w.heap.size + 1 + 1, 5, none⟩ = some (.int .u8 (x5.toNat : Int)) ∧ W.cell? ⟨w.heap.size + 1 + 1, 6, none⟩ = some (.int .u8 (x6.toNat : Int)) ∧ W.cell? ⟨w.heap.size + 1 + 1, 7, none⟩ = some (.int .u8 (x7.toNat : Int)) ∧ W.cell? ⟨w.heap.size + 1 + 1, 8, none⟩ = some (.int .u8 (x8.toNat : Int)) ∧ W.cell? ⟨w.heap.size + 1 + 1, 9, none⟩ = some (.int .u8 (x9.toNat : Int)) ∧ W.cell? ⟨w.heap.size + 1 + 1, 10, none⟩ = some (.int .u8 (x10.toNat : Int)) ∧ W.cell? ⟨w.heap.size + 1 + 1, 11, none⟩ = some (.int .u8 (x11.toNat : Int)) ∧ W.cell? ⟨w.heap.size + 1 + 1, 12, none⟩ = some (.int .u8 (x12.toNat : Int)) ∧ W.cell? ⟨w.heap.size + 1 + 1, 13, none⟩ = some (.int .u8 (x13.toNat : Int)) ∧ W.cell? ⟨w.heap.size + 1 + 1, 14, none⟩ = some (.int .u8 (x14.toNat : Int)) ∧ W.cell? ⟨w.heap.size + 1 + 1, 15, none⟩ = some (.int .u8 (x15.toNat : Int)) := fun W h => ⟨h, OLX.out W h⟩
      have w12 : IntKind.u64.wrap (n2 : Int) = (n2 : Int) := IntWalk.u64_in _ (by omega)
      have w18 : IntKind.u64.wrap (n3 : Int) = (n3 : Int) := IntWalk.u64_in _ (by omega)
      have w13 : IntKind.u64.wrap ((n2 : Int) * 4294967296) = (n2 : Int) * 4294967296 := IntWalk.u64_in _ (by omega)
      have w19 : bits BinOp.or IntKind.u64 ((n2 : Int) * 4294967296) (n3 : Int) = (n2 : Int) * 4294967296 + (n3 : Int) := by
        have := u64_or (n2 * 4294967296) n3 32 (by omega) (by omega) (by omega)
        rw [show ((n2 * 4294967296 : Nat) : Int) = (n2 : Int) * 4294967296 from by omega] at this
        rw [this]; omega
      obtain rfl | rfl | rfl | rfl | rfl | rfl | rfl | rfl | rfl | rfl | rfl | rfl | rfl | rfl | rfl | rfl | rfl | rfl | rfl | rfl | rfl | rfl | rfl : i = 0 ∨ i = 1 ∨ i = 2 ∨ i = 3 ∨ i = 4 ∨ i = 5 ∨ i = 6 ∨ i = 7 ∨ i = 8 ∨ i = 9 ∨ i = 10 ∨ i = 11 ∨ i = 12 ∨ i = 13 ∨ i = 14 ∨ i = 15 ∨ i = 16 ∨ i = 17 ∨ i = 18 ∨ i = 19 ∨ i = 20 ∨ i = 21 ∨ i = 22 := by omega
      · exact absurd (hP 0 (by simp)) (by rw [hLi]; decide)
      · exact absurd (hP 1 (by simp)) (by rw [hLi]; decide)
      · exact absurd (hP 2 (by simp)) (by rw [hLi]; decide)
      · simp only [List.getElem?_toArray, List.getElem?_cons_zero, List.getElem?_cons_succ, Option.some.injEq] at ho
        subst ho
        refine wpOp_step rfl rfl (fun K hK => ?_)
        simp only [List.getElem_toArray, List.getElem_cons_zero, List.getElem_cons_succ, decAct]
        go_simp
        refine (GN0.out W).mono ?_; rintro e w' ⟨rfl, hw'⟩
        exact hK _ _ ⟨HS _ (hB.trans (hw'.mono hB.size)), decI_grow (i := 3) rfl (by omega) hB hw' hP hC hT⟩
      · exact absurd (hP 4 (by simp)) (by rw [hLi]; decide)
      · exact absurd (hP 5 (by simp)) (by rw [hLi]; decide)
      · exact absurd (hP 6 (by simp)) (by rw [hLi]; decide)
      · simp only [List.getElem?_toArray, List.getElem?_cons_zero, List.getElem?_cons_succ, Option.some.injEq] at ho
        subst ho
        refine wpOp_step rfl rfl (fun K hK => ?_)
        simp only [List.getElem_toArray, List.getElem_cons_zero, List.getElem_cons_succ, decAct]
        go_simp
        refine (GN1.out W).mono ?_; rintro e w' ⟨rfl, hw'⟩
        exact hK _ _ ⟨HS _ (hB.trans (hw'.mono hB.size)), decI_grow (i := 7) rfl (by omega) hB hw' hP hC hT⟩
      · exact absurd (hP 8 (by simp)) (by rw [hLi]; decide)
      · exact absurd (hP 9 (by simp)) (by rw [hLi]; decide)
      · exact absurd (hP 10 (by simp)) (by rw [hLi]; decide)
      · simp only [List.getElem?_toArray, List.getElem?_cons_zero, List.getElem?_cons_succ, Option.some.injEq] at ho
        subst ho
        refine wpOp_step rfl rfl (fun K hK => ?_)
        simp only [List.getElem_toArray, List.getElem_cons_zero, List.getElem_cons_succ, decAct]
        go_simp
        refine (GN2.out W).mono ?_; rintro e w' ⟨rfl, hw'⟩
        exact hK _ _ ⟨HS _ (hB.trans (hw'.mono hB.size)), decI_grow (i := 11) rfl (by omega) hB hw' hP hC hT⟩
      · simp only [List.getElem?_toArray, List.getElem?_cons_zero, List.getElem?_cons_succ, Option.some.injEq] at ho
        subst ho
        have l11 : L 11 = true := hd ⟨11, .data⟩ (by simp) rfl
        refine wpOp_step rfl rfl (fun K hK => ?_)
        simp only [List.getElem_toArray, List.getElem_cons_zero, List.getElem_cons_succ, decAct, ifL_yes l11]
        go_simp
        refine hK _ _ ⟨HS _ hB, decI_grow (i := 12) ?_ (by omega) hB (Below.refl _ _) hP hC hT⟩
        simp only [decAct, ifL_yes (more_old L l11)]
        rfl
      · simp only [List.getElem?_toArray, List.getElem?_cons_zero, List.getElem?_cons_succ, Option.some.injEq] at ho
        subst ho
        have l12 : L 12 = true := hd ⟨12, .data⟩ (by simp) rfl
        refine wpOp_step rfl rfl (fun K hK => ?_)
        simp only [List.getElem_toArray, List.getElem_cons_zero, List.getElem_cons_succ, decAct, ifL_yes l12]
        go_simp
        refine hK _ _ ⟨HS _ hB, decI_grow (i := 13) ?_ (by omega) hB (Below.refl _ _) hP hC hT⟩
        simp only [decAct, ifL_yes (more_old L l12)]
        rfl
      · exact absurd (hP 14 (by simp)) (by rw [hLi]; decide)
      · exact absurd (hP 15 (by simp)) (by rw [hLi]; decide)
      · exact absurd (hP 16 (by simp)) (by rw [hLi]; decide)
      · simp only [List.getElem?_toArray, List.getElem?_cons_zero, List.getElem?_cons_succ, Option.some.injEq] at ho
        subst ho
        refine wpOp_step rfl rfl (fun K hK => ?_)
        simp only [List.getElem_toArray, List.getElem_cons_zero, List.getElem_cons_succ, decAct]
        go_simp
        refine (GN3.out W).mono ?_; rintro e w' ⟨rfl, hw'⟩
        exact hK _ _ ⟨HS _ (hB.trans (hw'.mono hB.size)), decI_grow (i := 17) rfl (by omega) hB hw' hP hC hT⟩
      · simp only [List.getElem?_toArray, List.getElem?_cons_zero, List.getElem?_cons_succ, Option.some.injEq] at ho
        subst ho
        have l17 : L 17 = true := hd ⟨17, .data⟩ (by simp) rfl
        refine wpOp_step rfl rfl (fun K hK => ?_)
        simp only [List.getElem_toArray, List.getElem_cons_zero, List.getElem_cons_succ, decAct, ifL_yes l17]
        go_simp
        refine hK _ _ ⟨HS _ hB, decI_grow (i := 18) ?_ (by omega) hB (Below.refl _ _) hP hC hT⟩
        simp only [decAct, ifL_yes (more_old L l17)]
        rfl
      · simp only [List.getElem?_toArray, List.getElem?_cons_zero, List.getElem?_cons_succ, Option.some.injEq] at ho
        subst ho
        have l13 : L 13 = true := hd ⟨13, .data⟩ (by simp) rfl
        have l18 : L 18 = true := hd ⟨18, .data⟩ (by simp) rfl
        refine wpOp_step rfl rfl (fun K hK => ?_)
        simp only [List.getElem_toArray, List.getElem_cons_zero, List.getElem_cons_succ, decAct, ifL_yes l13, ifL_yes l18]
        go_simp
        refine hK _ _ ⟨HS _ hB, decI_grow (i := 19) ?_ (by omega) hB (Below.refl _ _) hP hC hT⟩
        simp only [decAct, ifL_yes (more_old L l13), ifL_yes (more_old L l18)]
        rfl
      · simp only [List.getElem?_toArray, List.getElem?_cons_zero, List.getElem?_cons_succ, Option.some.injEq] at ho
        subst ho
        have l3 : L 3 = true := hd ⟨3, .data⟩ (by simp) rfl
        have l7 : L 7 = true := hd ⟨7, .data⟩ (by simp) rfl
        have l19 : L 19 = true := hd ⟨19, .data⟩ (by simp) rfl
        refine wpOp_step rfl rfl (fun K hK => ?_)
        simp only [List.getElem_toArray, List.getElem_cons_zero, List.getElem_cons_succ, decAct, ifL_yes l3, ifL_yes l7, ifL_yes l19]
        go_simp
        refine hK _ _ ⟨HS _ hB, decI_grow (i := 20) ?_ (by omega) hB (Below.refl _ _) hP hC hT⟩
        simp only [decAct, ifL_yes (more_old L l3), ifL_yes (more_old L l7), ifL_yes (more_old L l19)]
        rfl
      · simp only [List.getElem?_toArray, List.getElem?_cons_zero, List.getElem?_cons_succ, Option.some.injEq] at ho
        subst ho
        refine wpOp_step rfl rfl (fun K hK => ?_)
        simp only [List.getElem_toArray, List.getElem_cons_zero, List.getElem_cons_succ, decAct]
        go_simp
        exact hK _ _ ⟨HS _ (hB.alloc hB.size _), decI_alloc rfl hLi hB hP hT⟩
      · simp only [List.getElem?_toArray, List.getElem?_cons_zero, List.getElem?_cons_succ, Option.some.injEq] at ho
        subst ho
        have l20 : L 20 = true := hd ⟨20, .data⟩ (by simp) rfl
        have l21 : L 21 = true := hd ⟨21, .data⟩ (by simp) rfl
        refine wpOp_step rfl rfl (fun K hK => ?_)
        obtain ⟨m1, m2⟩ := hC l21
        refine wp_store_p3 (x := .tmp 5) (y := .tmp 34) (g := g) (new := decN n0 n1 n2 n3) rfl (by show decP5 L g = _; unfold decP5; rw [if_pos l21]) (by show ifL L 20 _ = _; rw [ifL_yes l20]; rfl) m2 (by split <;> rfl) rfl (by simp [decN, Value.oneCell']) ?_
        exact hK _ _ ⟨HS _ (below_row hB (wb_row g _) hB.size m1), decI_store rfl l21 hB hP hC⟩
  case rest =>
    obtain ⟨g, rfl, bw, hg⟩ := hcut
    have d0 : wc.cell? ⟨g, 0, none⟩ = some (.int .i64 (n0 : Int)) := cell_of_row _ _ 0 _ _ _ hg
    have d1 : wc.cell? ⟨g, 1, none⟩ = some (.int .i64 (n1 : Int)) := cell_of_row _ _ 1 _ _ _ hg
    have d2 : wc.cell? ⟨g, 2, none⟩ = some (.int .u64 ((n2 : Int) * 4294967296 + (n3 : Int))) := cell_of_row _ _ 2 _ _ _ hg
    have dl : g < wc.heap.size := (Array.getElem?_eq_some_iff.1 hg).1
    have bz := BZ.out.trans (bw.mono BZ.out.size)
    have bwc := BX.out.trans (bw.mono BX.out.size)
    have fin : ∀ w1 : World, Below wc.heap.size wc w1 →
        (w1.cell? ⟨w.heap.size, 0, none⟩ = some (.int .i64 0) ∧ w1.cell? ⟨w.heap.size, 1, none⟩ = some (.int .i64 0) ∧ w1.cell? ⟨w.heap.size, 2, none⟩ = some (.int .u64 0)) ∧
        (w1.frozen? ⟨w.heap.size, 0, none⟩ = false ∧ w1.frozen? ⟨w.heap.size, 1, none⟩ = false ∧ w1.frozen? ⟨w.heap.size, 2, none⟩ = false) ∧ w.heap.size < w1.heap.size := by
      intro w1 h
      have hb := bz.trans (h.mono bz.size)
      have hs := hb.size
      simp only [World.size_alloc] at hs
      have hz : w1.heap[w.heap.size]? = some (.cells #[.int .i64 0, .int .i64 0, .int .u64 0] 26 (0, 0)) := (hb.block w.heap.size (by simp)).trans (heap_alloc_new w _)
      exact ⟨⟨cell_of_row _ _ 0 _ _ _ hz, cell_of_row _ _ 1 _ _ _ hz, cell_of_row _ _ 2 _ _ _ hz⟩, ⟨frozen_of_row _ _ 0 _ _ hz, frozen_of_row _ _ 1 _ _ hz, frozen_of_row _ _ 2 _ _ hz⟩, by omega⟩
    have FIN := Lib.hid fin
    clear fin bw hg bz
    have hv := HVV.out
    cases hm : mayP (n0 : Int) (n1 : Int) ((n2 : Int) * 4294967296 + (n3 : Int))
    · rw [hm, if_neg (by decide)] at hv
      have HV2 := Lib.hid hv
      have MA := fun W : World => bmay_any (n0 : Int) (n1 : Int) ((n2 : Int) * 4294967296 + (n3 : Int)) W
      rw [hm] at MA
      have GM := Lib.hid MA
      clear MA hv hm
      go_wp2_with fail
      refine (GM.out _).mono ?_; rintro e w5 ⟨rfl, hw5⟩
      obtain ⟨⟨z0, z1, z2⟩, ⟨f0, f1, f2⟩, lz⟩ := FIN.out _ hw5
      have b5 := chain bwc hw5
      clear d0 d1 d2 dl
      go_wp2_with fail
      ((try simp only [Exit.inBlock, Exit.then]); refine bodyPost_ret (by simp [results, Try.results21, go_sem, z0, z1, z2, lz]; try rfl) rfl ?_)
      exact ⟨HV2.out.symm ▸ rfl, by repeat' (first | (with_reducible exact Below.refl _ _) | (with_reducible assumption) | (with_reducible refine below_drewN ?_ _) | (with_reducible refine Below.alloc ?_ ?_ _) | (with_reducible refine Below.drew ?_) | (with_reducible refine Below.setCell ?_ ?_ _) | go_size)⟩
    · rw [hm, if_pos rfl] at hv
      have HV2 := Lib.hid hv
      have MA := fun W : World => bmay_any (n0 : Int) (n1 : Int) ((n2 : Int) * 4294967296 + (n3 : Int)) W
      rw [hm] at MA
      have GM := Lib.hid MA
      clear MA hv hm
      go_wp2_with fail
      refine (GM.out _).mono ?_; rintro e w5 ⟨rfl, hw5⟩
      obtain ⟨⟨z0, z1, z2⟩, ⟨f0, f1, f2⟩, lz⟩ := FIN.out _ hw5
      have b5 := chain bwc hw5
      have d0' := (hw5.cell (p := ⟨g, 0, none⟩) dl).trans d0
      have d1' := (hw5.cell (p := ⟨g, 1, none⟩) dl).trans d1
      have d2' := (hw5.cell (p := ⟨g, 2, none⟩) dl).trans d2
      clear d0 d1 d2 dl
      go_wp2_with fail
      ((try simp only [Exit.inBlock, Exit.then]); refine bodyPost_ret (by simp [results, Try.results21, go_sem, z0, z1, z2, lz]; try rfl) rfl ?_)
      exact ⟨HV2.out.symm ▸ rfl, by repeat' (first | (with_reducible exact Below.refl _ _) | (with_reducible assumption) | (with_reducible refine below_drewN ?_ _) | (with_reducible refine Below.alloc ?_ ?_ _) | (with_reducible refine Below.drew ?_) | (with_reducible refine Below.setCell ?_ ?_ _) | go_size)⟩

theorem decode_any (l : List UInt8) (w : World) : Calls Try.prog 21 #[sv l] w fun e w' => e = .returned (decV l) ∧ Below w.heap.size w w' := by
  by_cases h : l.length = 16
  · match l, h with
    | [x0, x1, x2, x3, x4, x5, x6, x7, x8, x9, x10, x11, x12, x13, x14, x15], _ => exact decode_long x0 x1 x2 x3 x4 x5 x6 x7 x8 x9 x10 x11 x12 x13 x14 x15 w
  · exact decode_short l w h
end Go.Proofs.Ytjhgimdpgnnffaa
