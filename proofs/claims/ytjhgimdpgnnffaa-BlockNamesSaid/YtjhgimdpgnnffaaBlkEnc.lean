/- block.Encode: a pointer's bytes. Conditions: bounds of machine numbers. -/
import Derived.Test.YtjhgimdpgnnffaaBlkPlain
import Derived.Test.YtjhgimdpgnnffaaRegInv
namespace Go.Proofs.Ytjhgimdpgnnffaa
set_option linter.unusedVariables false
set_option linter.unusedSimpArgs false
open Go.ChangeShapes Go.WideShapes Go.ChangeAt Go.RowKit Pl
attribute [local go_sem] ba_toList ba_size

set_option maxHeartbeats 1600000 in
theorem encode_no (a b s : Int) (w : World) (h : mayP a b s = false) : Calls Try.prog 20 #[ptrV a b s] w fun e w' => e = .returned (.tuple #[sv [], .int .i64 4]) ∧ Below w.heap.size w w' := by
  have H := fun W : World => bmay_any a b s W
  rw [h] at H
  have G := Lib.hid H
  clear H h
  go_enter Try.func20, Try.ntmps20
  go_wp2_with fail
  refine (G.out _).mono ?_; rintro e w1 ⟨rfl, hw1⟩
  have b1 : Below w.heap.size w w1 := chain (by repeat' (first | (with_reducible exact Below.refl _ _) | (with_reducible assumption) | (with_reducible refine below_drewN ?_ _) | (with_reducible refine Below.alloc ?_ ?_ _) | (with_reducible refine Below.drew ?_) | (with_reducible refine Below.setCell ?_ ?_ _) | go_size)) hw1
  have s1 := b1.size
  go_wp2_with fail
  go_ret2
  exact ⟨rfl, by repeat' (first | (with_reducible exact Below.refl _ _) | (with_reducible assumption) | (with_reducible refine below_drewN ?_ _) | (with_reducible refine Below.alloc ?_ ?_ _) | (with_reducible refine Below.drew ?_) | (with_reducible refine Below.setCell ?_ ?_ _) | go_size)⟩

theorem wpOp_step {P : Program} {ops : Array Oper} {Q : Exit → Act → World → Prop} {i : Nat} {K : Act → World → Prop} {a : Act} {w : World} {o : Oper} (ho : ops[i]? = some o) (hg : o.guard = none)
    (h : ∀ K' : Act → World → Prop, (∀ a' w', K a' w' → K' a' w') → o.wp P a w K' Q) : wpOp P ops Q i K a w := by
  unfold wpOp
  simp only [ho]
  rw [if_pos (by simp [Region.wanted, hg])]
  exact .inl (h K (fun _ _ h => h))

theorem info_w4 : (Try.prog.info? 50).map (·.size) = some 4 := by kernel_rfl
theorem wp_store_w4 {o : Oper} {a : Act} {w : World} {K : Act → World → Prop} {Q : Exit → Act → World → Prop} {x y : Operand} (ho : o.op = .store 50 x y) {g : Nat} {old new : Array Value}
    (hx : a.eval x = .pointer (some ⟨g, 0, none⟩)) (hy : a.eval y = .agg new) (hl : w.heap[g]? = some (.cells old 50 (0, 0))) (h4 : old.size = 4) (n4 : new.size = 4) (h1 : new.all (·.oneCell') = true)
    (h : K (a.put o.dst undef) (w.setRow g new)) : o.wp Try.prog a w K Q := by
  have hr : (Instr.storeAt 50 (.pointer (some ⟨g, 0, none⟩)) (.agg new)).run Try.prog w = .ok () (w.setRow g new) := by
    have := run_storeVar_row (P := Try.prog) w g _ 50 old new hl (by rw [info_w4, n4]) (by rw [h4, n4]) h1
    simp only [Instr.storeAt, Instr.sureAddr, Sem.run_bind, Sem.run_pure, Result.andThen_ok, this]
  unfold Oper.wp execOp
  simp only [ho, hx, hy, Sem.run_bind, hr, Sem.run_pure, Result.andThen_ok]
  exact h

theorem bytesV_four {w : World} {g : Nat} {l : List UInt8} {t : TypeId} (h : w.heap[g]? = some (.cells (bc l).toArray t (0, 0))) (h4 : l.length = 4) : BytesV w (.slice (some ⟨g, 0, none⟩) 4 4) l :=
  ⟨_, 4, by rw [h4], by omega, by unfold maxLen; omega, (fun h => by cases h), fun _ => ⟨g, 0, rfl, (Array.getElem?_eq_some_iff.1 h).1, fun k hk => by rw [Nat.zero_add, cell_of_row w g k _ _ _ h, List.getElem?_toArray, bc_get _ _ hk]⟩⟩
theorem add_sv (l m : List UInt8) (h : l.length + m.length ≤ 9223372036854775807) : ∀ W : World, (Op.stringOp .add ⟨l.toArray⟩ ⟨m.toArray⟩).run Try.prog W = .ok (sv (l ++ m)) W := fun W => by
  have := run_string_add_sum (P := Try.prog) W ⟨l.toArray⟩ ⟨m.toArray⟩ (by rw [ba_size, ba_size]; omega)
  rw [ba_app] at this
  exact this
def encZ : Array Value := #[.int .u8 0, .int .u8 0, .int .u8 0, .int .u8 0]
def encVs (na nb hi lo : Nat) (k : Nat) : Array Value := (bc (be 4 ([na, nb, hi, lo].getD k 0))).toArray
theorem encVs_size (na nb hi lo k : Nat) : (encVs na nb hi lo k).size = 4 := by simp [encVs]
theorem encVs_one (na nb hi lo k : Nat) : (encVs na nb hi lo k).all (·.oneCell') = true := ac_one _
def encP (L : Nat → Bool) (G : Nat → Nat) (k : Nat) : Value := if L (16 + k) = true then .pointer (some ⟨G k, 0, none⟩) else undef
def encC (L : Nat → Bool) (na nb hi lo : Nat) (c k : Nat) : Value := if L c = true then .agg (encVs na nb hi lo k) else undef
def encA (s : Int) (B : Nat) (na nb hi lo : Nat) (L : Nat → Bool) (G : Nat → Nat) : Act :=
  { tmps := #[ptrV (na : Int) (nb : Int) s, .pointer (some ⟨B, 0, none⟩), .string ⟨#[]⟩, .int .i64 0, encP L G 0, encP L G 1, encP L G 2, encP L G 3, ptrV (na : Int) (nb : Int) s, .bool true, .bool false,
      .pointer (some ⟨B, 0, none⟩), .int .i64 (na : Int), encC L na nb hi lo 2 0, .pointer (some ⟨B, 1, none⟩), .int .i64 (nb : Int), encC L na nb hi lo 5 1, .pointer (some ⟨B, 2, none⟩), .int .u64 s,
      .int .u64 (s / 4294967296), .int .i64 (hi : Int), encC L na nb hi lo 10 2, .pointer (some ⟨B, 2, none⟩), .int .u64 s, .int .u64 (bits BinOp.and IntKind.u64 s 4294967295), .int .i64 (lo : Int), encC L na nb hi lo 15 3,
      undef, undef, undef, undef, undef, undef, undef, undef, undef, undef, undef], defers := [] }
def EncI (s : Int) (B : Nat) (na nb hi lo : Nat) (w1 : World) (L : Nat → Bool) (A : Act) (W : World) : Prop :=
  ∃ G : Nat → Nat, A = encA s B na nb hi lo L G ∧ Below w1.heap.size w1 W ∧ (∀ i, i ∈ [0, 1, 3, 4, 6, 7, 8, 9, 11, 12, 13, 14] → L i = true) ∧
    (∀ k, k < 4 → L (16 + k) = true → w1.heap.size ≤ G k ∧ W.heap[G k]? = some (.cells (if L (20 + k) = true then encVs na nb hi lo k else encZ) 50 (0, 0))) ∧
    (∀ j k, j < 4 → k < 4 → j ≠ k → L (16 + j) = true → L (16 + k) = true → G j ≠ G k) ∧ (∀ k, k < 4 → L (20 + k) = true → ∀ j, j < 4 → L (16 + j) = true)

/-- One more has come up. -/
abbrev more (L : Nat → Bool) (i : Nat) : Nat → Bool := fun j => decide (j = i) || L j
theorem more_same (L : Nat → Bool) (i : Nat) : more L i i = true := by simp [more]
theorem more_other (L : Nat → Bool) {i j : Nat} (h : j ≠ i) : more L i j = L j := by simp [more, h]
theorem more_old (L : Nat → Bool) {i j : Nat} (h : L j = true) : more L i j = true := by simp [more, h]

section
variable {s : Int} {B na nb hi lo : Nat} {w1 : World} {L : Nat → Bool} {W : World} {G : Nat → Nat}
theorem encI_grow {i : Nat} {w' : World} {A : Act} (hA : A = encA s B na nb hi lo (more L i) G) (hi16 : i < 16) (hB : Below w1.heap.size w1 W) (hw : Below W.heap.size W w') (hP : ∀ i, i ∈ [0, 1, 3, 4, 6, 7, 8, 9, 11, 12, 13, 14] → L i = true)
    (hC : ∀ k, k < 4 → L (16 + k) = true → w1.heap.size ≤ G k ∧ W.heap[G k]? = some (.cells (if L (20 + k) = true then encVs na nb hi lo k else encZ) 50 (0, 0)))
    (hN : ∀ j k, j < 4 → k < 4 → j ≠ k → L (16 + j) = true → L (16 + k) = true → G j ≠ G k) (hT : ∀ k, k < 4 → L (20 + k) = true → ∀ j, j < 4 → L (16 + j) = true) : EncI s B na nb hi lo w1 (more L i) A w' := by
  refine ⟨G, hA, hB.trans (hw.mono hB.size), fun j hj => more_old L (hP j hj), fun k hk hL => ?_, fun j k hj hk hne h1 h2 => ?_, fun k hk h j hj => ?_⟩
  rotate_right
  · rw [more_other L (by omega)] at h
    exact more_old L (hT k hk h j hj)
  · rw [more_other L (by omega)] at hL
    rw [more_other L (by omega)]
    obtain ⟨c1, c2⟩ := hC k hk hL
    exact ⟨c1, (hw.block (G k) (Array.getElem?_eq_some_iff.1 c2).1).trans c2⟩
  · rw [more_other L (by omega)] at h1 h2
    exact hN j k hj hk hne h1 h2
theorem encI_alloc {m : Nat} {A : Act} (hA : A = encA s B na nb hi lo (more L (16 + m)) (fun k => if k = m then W.heap.size else G k)) (hm : m < 4) (hm0 : L (16 + m) = false) (hB : Below w1.heap.size w1 W) (hP : ∀ i, i ∈ [0, 1, 3, 4, 6, 7, 8, 9, 11, 12, 13, 14] → L i = true)
    (hC : ∀ k, k < 4 → L (16 + k) = true → w1.heap.size ≤ G k ∧ W.heap[G k]? = some (.cells (if L (20 + k) = true then encVs na nb hi lo k else encZ) 50 (0, 0)))
    (hN : ∀ j k, j < 4 → k < 4 → j ≠ k → L (16 + j) = true → L (16 + k) = true → G j ≠ G k) (hT : ∀ k, k < 4 → L (20 + k) = true → ∀ j, j < 4 → L (16 + j) = true) :
    EncI s B na nb hi lo w1 (more L (16 + m)) A (W.alloc (.cells encZ 50)) := by
  refine ⟨_, hA, hB.alloc hB.size _, fun j hj => more_old L (hP j hj), fun k hk hL => ?_, fun j k hj hk hne h1 h2 => ?_, fun k hk h j hj => ?_⟩
  rotate_right
  · rw [more_other L (by omega)] at h
    exact more_old L (hT k hk h j hj)
  · by_cases hkm : k = m
    · subst hkm
      have h20 : L (20 + k) = false := by
        cases h : L (20 + k)
        · rfl
        · rw [hT k hk h k hk] at hm0; cases hm0
      rw [if_pos rfl, more_other L (by omega), h20]
      exact ⟨hB.size, heap_alloc_new W _⟩
    · rw [more_other L (by omega)] at hL
      rw [if_neg hkm, more_other L (by omega)]
      obtain ⟨c1, c2⟩ := hC k hk hL
      exact ⟨c1, (heap_alloc_old W _ (Array.getElem?_eq_some_iff.1 c2).1).trans c2⟩
  · have old : ∀ k, k < 4 → k ≠ m → more L (16 + m) (16 + k) = true → G k < W.heap.size := fun k hk hkm h => by
      rw [more_other L (by omega)] at h
      exact (Array.getElem?_eq_some_iff.1 (hC k hk h).2).1
    by_cases hjm : j = m
    · subst hjm
      have := old k hk (Ne.symm hne) h2
      rw [if_pos rfl, if_neg (Ne.symm hne)]
      omega
    · by_cases hkm : k = m
      · subst hkm
        have := old j hj hne h1
        rw [if_pos rfl, if_neg hjm]
        omega
      · rw [if_neg hjm, if_neg hkm]
        rw [more_other L (by omega)] at h1 h2
        exact hN j k hj hk hne h1 h2
theorem encI_store {m : Nat} {A : Act} (hA : A = encA s B na nb hi lo (more L (20 + m)) G) (hm : m < 4) (h16 : ∀ k, k < 4 → L (16 + k) = true) (hB : Below w1.heap.size w1 W) (hP : ∀ i, i ∈ [0, 1, 3, 4, 6, 7, 8, 9, 11, 12, 13, 14] → L i = true)
    (hC : ∀ k, k < 4 → L (16 + k) = true → w1.heap.size ≤ G k ∧ W.heap[G k]? = some (.cells (if L (20 + k) = true then encVs na nb hi lo k else encZ) 50 (0, 0)))
    (hN : ∀ j k, j < 4 → k < 4 → j ≠ k → L (16 + j) = true → L (16 + k) = true → G j ≠ G k) (hT : ∀ k, k < 4 → L (20 + k) = true → ∀ j, j < 4 → L (16 + j) = true) :
    EncI s B na nb hi lo w1 (more L (20 + m)) A (W.setRow (G m) (encVs na nb hi lo m)) := by
  obtain ⟨m1, m2⟩ := hC m hm (h16 m hm)
  refine ⟨G, hA, hB.grown (wb_row (G m) _) hB.size (fun k e => by cases e; exact m1), fun j hj => more_old L (hP j hj), fun k hk _ => ?_, fun j k hj hk hne _ _ => hN j k hj hk hne (h16 j hj) (h16 k hk), fun k hk h j hj => more_old L (h16 j hj)⟩
  by_cases hkm : k = m
  · subst hkm
    rw [more_same, if_pos rfl]
    exact ⟨m1, setRow_heap W (G k) _ _ _ _ m2⟩
  · rw [more_other L (by omega)]
    obtain ⟨c1, c2⟩ := hC k hk (h16 k hk)
    exact ⟨c1, (setRow_other W (G m) (G k) _ (fun e => hN m k hm hk (Ne.symm hkm) (h16 m hm) (h16 k hk) e.symm)).trans c2⟩
end

theorem back_of {md : Region.Mode} {ops : Array Oper} (h : (ops.toList.zipIdx.all fun x => x.1.after.all fun e => decide (e.on < x.2)) = true) : ∀ i o, ops[i]? = some o → ∀ e ∈ o.after, Region.binds md e = true → e.on < i := by
  intro i o ho e he _
  have h1 := List.all_eq_true.1 h (o, i) (List.mk_mem_zipIdx_iff_getElem?.2 (by simpa using ho))
  have h2 := (Array.all_eq_true_iff_forall_mem.1 h1) e he
  simpa using h2

set_option maxRecDepth 100000 in
set_option maxHeartbeats 6400000 in
theorem encode_nat (na nb : Nat) (s : Int) (w : World) (h : mayP (na : Int) (nb : Int) s = true) (hs : 0 ≤ s ∧ s < 18446744073709551616) : Calls Try.prog 20 #[ptrV (na : Int) (nb : Int) s] w fun e w' => e = .returned (.tuple #[sv (encS (na : Int) (nb : Int) s), .int .i64 0]) ∧ Below w.heap.size w w' := by
  have H := fun W : World => bmay_any (na : Int) (nb : Int) s W
  rw [h] at H
  have G := Lib.hid H
  have hin := mayP_in h
  obtain ⟨hi, hhi⟩ : ∃ hi : Nat, hi = s.toNat / 4294967296 := ⟨_, rfl⟩
  obtain ⟨lo, hlo⟩ : ∃ lo : Nat, lo = s.toNat % 4294967296 := ⟨_, rfl⟩
  have e20 : IntKind.i64.wrap (s / 4294967296) = (hi : Int) := by
    rw [IntWalk.i64_in _ (by omega), hhi]; omega
  have e25 : IntKind.i64.wrap (bits BinOp.and IntKind.u64 s 4294967295) = (lo : Int) := by
    obtain ⟨n, rfl⟩ := Int.eq_ofNat_of_zero_le hs.1
    have : bits BinOp.and IntKind.u64 (n : Int) 4294967295 = ((n % 4294967296 : Nat) : Int) := by
      show IntKind.u64.wrap ((BitVec.ofInt 64 (n : Int) &&& BitVec.ofInt 64 ((4294967295 : Nat) : Int)).toNat : Int) = _
      rw [BitVec.toNat_and, BitVec.ofInt_natCast, BitVec.ofInt_natCast, BitVec.toNat_ofNat, BitVec.toNat_ofNat, Nat.mod_eq_of_lt (by omega : n < 2 ^ 64), Nat.mod_eq_of_lt (by omega : 4294967295 < 2 ^ 64),
        show (4294967295 : Nat) = 2 ^ 32 - 1 from rfl, Nat.and_two_pow_sub_one_eq_mod, IntKind.wrap_u64]
      omega
    rw [this, hlo, IntWalk.i64_in _ (by omega)]
    simp
  have hfin : encS (na : Int) (nb : Int) s = be 4 na ++ be 4 nb ++ be 4 hi ++ be 4 lo := by
    unfold encS
    rw [Int.toNat_natCast, Int.toNat_natCast, ← hhi, ← hlo]
  have hhi4 : hi < 4294967296 := by omega
  have hlo4 : lo < 4294967296 := by omega
  have HFIN := Lib.hid hfin
  have E20 := Lib.hid e20
  have E25 := Lib.hid e25
  clear H h hfin hhi hlo e20 e25
  go_enter Try.func20, Try.ntmps20
  go_wp2_with fail
  refine (G.out _).mono ?_; rintro e w1 ⟨rfl, hw1⟩
  have b1 : Below w.heap.size w w1 := chain (by repeat' (first | (with_reducible exact Below.refl _ _) | (with_reducible assumption) | (with_reducible refine below_drewN ?_ _) | (with_reducible refine Below.alloc ?_ ?_ _) | (with_reducible refine Below.drew ?_) | (with_reducible refine Below.setCell ?_ ?_ _) | go_size)) hw1
  have s1 := b1.size
  go_wp2_with fail
  have old : ∀ W : World, Below w1.heap.size w1 W → W.cell? ⟨w.heap.size, 0, none⟩ = some (.int .i64 (na : Int)) ∧ W.cell? ⟨w.heap.size, 1, none⟩ = some (.int .i64 (nb : Int)) ∧ W.cell? ⟨w.heap.size, 2, none⟩ = some (.int .u64 s) := by
    intro W hW
    have hb : Below (w.alloc (.cells #[.int .i64 (na : Int), .int .i64 (nb : Int), .int .u64 s] 26)).heap.size (w.alloc (.cells #[.int .i64 (na : Int), .int .i64 (nb : Int), .int .u64 s] 26)) W := chain hw1 hW
    exact ⟨(hb.cell (p := ⟨w.heap.size, 0, none⟩) (by simp)).trans (by simp), (hb.cell (p := ⟨w.heap.size, 1, none⟩) (by simp)).trans (by simp), (hb.cell (p := ⟨w.heap.size, 2, none⟩) (by simp)).trans (by simp)⟩
  have OLD := Lib.hid old
  clear old
  go_upto_region 4 with (fail)
  go_cut [4, 5, 6, 7] (fun v4 v5 v6 v7 wc => ∃ g0 g1 g2 g3, v4 = .pointer (some ⟨g0, 0, none⟩) ∧ v5 = .pointer (some ⟨g1, 0, none⟩) ∧ v6 = .pointer (some ⟨g2, 0, none⟩) ∧ v7 = .pointer (some ⟨g3, 0, none⟩) ∧ Below w.heap.size w wc ∧
    wc.heap[g0]? = some (.cells (encVs na nb hi lo 0) 50 (0, 0)) ∧ wc.heap[g1]? = some (.cells (encVs na nb hi lo 1) 50 (0, 0)) ∧ wc.heap[g2]? = some (.cells (encVs na nb hi lo 2) 50 (0, 0)) ∧ wc.heap[g3]? = some (.cells (encVs na nb hi lo 3) 50 (0, 0)))
  case first =>
    refine wp_region_held_drew (S := fun W => Below w1.heap.size w1 W ∧ W.cell? ⟨w.heap.size, 0, none⟩ = some (.int .i64 (na : Int)) ∧ W.cell? ⟨w.heap.size, 1, none⟩ = some (.int .i64 (nb : Int)) ∧ W.cell? ⟨w.heap.size, 2, none⟩ = some (.int .u64 s)) (by kernel_rfl) ⟨(Below.refl _ _).drew, OLD.out _ (Below.refl _ _).drew⟩ (fun hHeld => ?_)
    refine wpAnyH_take (i := 0) (oi := _) (v := ?_) rfl (by kernel_rfl) (by kernel_rfl) (by kernel_rfl) (fun _ _ _ h => h) (Or.inl ⟨by rfl, ?_⟩) (by assumption) ?_
    rotate_left
    · (intro w hSw; (try dsimp only at hSw); (try go_split_ands); go_simp; (try with_reducible rfl))
    (try simp only [List.getElem_toArray, List.getElem_cons_zero, List.getElem_cons_succ, Act.put, List.setIfInBounds_toArray, List.set_cons_zero, List.set_cons_succ])
    refine wpAnyH_take (i := 1) (oi := _) (v := ?_) rfl (by kernel_rfl) (by kernel_rfl) (by kernel_rfl) (fun _ _ _ h => h) (Or.inl ⟨by rfl, ?_⟩) (by assumption) ?_
    rotate_left
    · (intro w hSw; (try dsimp only at hSw); (try go_split_ands); go_simp; (try with_reducible rfl))
    (try simp only [List.getElem_toArray, List.getElem_cons_zero, List.getElem_cons_succ, Act.put, List.setIfInBounds_toArray, List.set_cons_zero, List.set_cons_succ])
    refine wpAnyH_take (i := 3) (oi := _) (v := ?_) rfl (by kernel_rfl) (by kernel_rfl) (by kernel_rfl) (fun _ _ _ h => h) (Or.inl ⟨by rfl, ?_⟩) (by assumption) ?_
    rotate_left
    · (intro w hSw; (try dsimp only at hSw); (try go_split_ands); go_simp; (try with_reducible rfl))
    (try simp only [List.getElem_toArray, List.getElem_cons_zero, List.getElem_cons_succ, Act.put, List.setIfInBounds_toArray, List.set_cons_zero, List.set_cons_succ])
    refine wpAnyH_take (i := 4) (oi := _) (v := ?_) rfl (by kernel_rfl) (by kernel_rfl) (by kernel_rfl) (fun _ _ _ h => h) (Or.inl ⟨by rfl, ?_⟩) (by assumption) ?_
    rotate_left
    · (intro w hSw; (try dsimp only at hSw); (try go_split_ands); go_simp; (try with_reducible rfl))
    (try simp only [List.getElem_toArray, List.getElem_cons_zero, List.getElem_cons_succ, Act.put, List.setIfInBounds_toArray, List.set_cons_zero, List.set_cons_succ])
    refine wpAnyH_take (i := 6) (oi := _) (v := ?_) rfl (by kernel_rfl) (by kernel_rfl) (by kernel_rfl) (fun _ _ _ h => h) (Or.inl ⟨by rfl, ?_⟩) (by assumption) ?_
    rotate_left
    · (intro w hSw; (try dsimp only at hSw); (try go_split_ands); go_simp; (try with_reducible rfl))
    (try simp only [List.getElem_toArray, List.getElem_cons_zero, List.getElem_cons_succ, Act.put, List.setIfInBounds_toArray, List.set_cons_zero, List.set_cons_succ])
    refine wpAnyH_take (i := 7) (oi := _) (v := ?_) rfl (by kernel_rfl) (by kernel_rfl) (by kernel_rfl) (fun _ _ _ h => h) (Or.inl ⟨by rfl, ?_⟩) (by assumption) ?_
    rotate_left
    · (intro w hSw; (try dsimp only at hSw); (try go_split_ands); go_simp; (try with_reducible rfl))
    (try simp only [List.getElem_toArray, List.getElem_cons_zero, List.getElem_cons_succ, Act.put, List.setIfInBounds_toArray, List.set_cons_zero, List.set_cons_succ])
    refine wpAnyH_take (i := 8) (oi := _) (v := ?_) rfl (by kernel_rfl) (by kernel_rfl) (by kernel_rfl) (fun _ _ _ h => h) (Or.inl ⟨by rfl, ?_⟩) (by assumption) ?_
    rotate_left
    · (intro w hSw; (try dsimp only at hSw); (try go_split_ands); go_simp; (try with_reducible rfl))
    (try simp only [List.getElem_toArray, List.getElem_cons_zero, List.getElem_cons_succ, Act.put, List.setIfInBounds_toArray, List.set_cons_zero, List.set_cons_succ])
    refine wpAnyH_take (i := 9) (oi := _) (v := ?_) rfl (by kernel_rfl) (by kernel_rfl) (by kernel_rfl) (fun _ _ _ h => h) (Or.inl ⟨by rfl, ?_⟩) (by assumption) ?_
    rotate_left
    · (intro w hSw; (try dsimp only at hSw); (try go_split_ands); go_simp; (try with_reducible rfl))
    (try simp only [List.getElem_toArray, List.getElem_cons_zero, List.getElem_cons_succ, Act.put, List.setIfInBounds_toArray, List.set_cons_zero, List.set_cons_succ])
    refine wpAnyH_take (i := 11) (oi := _) (v := ?_) rfl (by kernel_rfl) (by kernel_rfl) (by kernel_rfl) (fun _ _ _ h => h) (Or.inl ⟨by rfl, ?_⟩) (by assumption) ?_
    rotate_left
    · (intro w hSw; (try dsimp only at hSw); (try go_split_ands); go_simp; (try with_reducible rfl))
    (try simp only [List.getElem_toArray, List.getElem_cons_zero, List.getElem_cons_succ, Act.put, List.setIfInBounds_toArray, List.set_cons_zero, List.set_cons_succ])
    refine wpAnyH_take (i := 12) (oi := _) (v := ?_) rfl (by kernel_rfl) (by kernel_rfl) (by kernel_rfl) (fun _ _ _ h => h) (Or.inl ⟨by rfl, ?_⟩) (by assumption) ?_
    rotate_left
    · (intro w hSw; (try dsimp only at hSw); (try go_split_ands); go_simp; (try with_reducible rfl))
    (try simp only [List.getElem_toArray, List.getElem_cons_zero, List.getElem_cons_succ, Act.put, List.setIfInBounds_toArray, List.set_cons_zero, List.set_cons_succ])
    refine wpAnyH_take (i := 13) (oi := _) (v := ?_) rfl (by kernel_rfl) (by kernel_rfl) (by kernel_rfl) (fun _ _ _ h => h) (Or.inl ⟨by rfl, ?_⟩) (by assumption) ?_
    rotate_left
    · (intro w hSw; (try dsimp only at hSw); (try go_split_ands); go_simp; (try with_reducible rfl))
    (try simp only [List.getElem_toArray, List.getElem_cons_zero, List.getElem_cons_succ, Act.put, List.setIfInBounds_toArray, List.set_cons_zero, List.set_cons_succ])
    refine wpAnyH_take (i := 14) (oi := _) (v := ?_) rfl (by kernel_rfl) (by kernel_rfl) (by kernel_rfl) (fun _ _ _ h => h) (Or.inl ⟨by rfl, ?_⟩) (by assumption) ?_
    rotate_left
    · (intro w hSw; (try dsimp only at hSw); (try go_split_ands); go_simp; (try with_reducible rfl))
    (try simp only [List.getElem_toArray, List.getElem_cons_zero, List.getElem_cons_succ, Act.put, List.setIfInBounds_toArray, List.set_cons_zero, List.set_cons_succ])
    rw [E20.out, E25.out]
    refine wpAnyH_inv (I := EncI s w.heap.size na nb hi lo w1) (back_of (by kernel_rfl)) ?hstep ?hend _ _ _ _ (by kernel_rfl) (by decide) ⟨fun _ => 0, rfl, (Below.refl _ _).drew, by decide, ?hc, ?hn, ?ht⟩
    case hc => intro k hk h; exfalso; revert h; rcases (by omega : k = 0 ∨ k = 1 ∨ k = 2 ∨ k = 3) with rfl | rfl | rfl | rfl <;> decide
    case hn => intro j k hj hk hne h; exfalso; revert h; rcases (by omega : j = 0 ∨ j = 1 ∨ j = 2 ∨ j = 3) with rfl | rfl | rfl | rfl <;> decide
    case ht => intro k hk h; exfalso; revert h; rcases (by omega : k = 0 ∨ k = 1 ∨ k = 2 ∨ k = 3) with rfl | rfl | rfl | rfl <;> decide
    case hend =>
      intro L A W hI hall
      obtain ⟨G, rfl, hB, hP, hC, hN, hT⟩ := hI
      have HC : ∀ k, k < 4 → W.heap[G k]? = some (.cells (encVs na nb hi lo k) 50 (0, 0)) := fun k hk => by
        have h1 := (hC k hk (hall (16 + k) (by show 16 + k < 24; omega))).2
        rwa [hall (20 + k) (by show 20 + k < 24; omega), if_pos rfl] at h1
      have l2 : L 2 = true := hall 2 (by decide)
      have l5 : L 5 = true := hall 5 (by decide)
      have l10 : L 10 = true := hall 10 (by decide)
      have l15 : L 15 = true := hall 15 (by decide)
      have l16 : L (16 + 0) = true := hall 16 (by decide)
      have l17 : L (16 + 1) = true := hall 17 (by decide)
      have l18 : L (16 + 2) = true := hall 18 (by decide)
      have l19 : L (16 + 3) = true := hall 19 (by decide)
      simp only [encA, encP, encC, l2, l5, l10, l15, l16, l17, l18, l19, if_true]
      clear hP hC hN hT hall l2 l5 l10 l15 l16 l17 l18 l19
      go_wp2_with fail
      go_meet
      exact ⟨G 0, G 1, G 2, G 3, rfl, rfl, rfl, rfl, chain b1 hB, HC 0 (by omega), HC 1 (by omega), HC 2 (by omega), HC 3 (by omega)⟩
    case hstep =>
      intro L A W i o hI ho hLi hd
      obtain ⟨G, rfl, hB, hP, hC, hN, hT⟩ := hI
      have hi24 : i < 24 := (Array.getElem?_eq_some_iff.1 ho).1
      have HS : ∀ W', Below w1.heap.size w1 W' → Below w1.heap.size w1 W' ∧ W'.cell? ⟨w.heap.size, 0, none⟩ = some (.int .i64 (na : Int)) ∧ W'.cell? ⟨w.heap.size, 1, none⟩ = some (.int .i64 (nb : Int)) ∧ W'.cell? ⟨w.heap.size, 2, none⟩ = some (.int .u64 s) := fun W' h => ⟨h, OLD.out W' h⟩
      obtain rfl | rfl | rfl | rfl | rfl | rfl | rfl | rfl | rfl | rfl | rfl | rfl | rfl | rfl | rfl | rfl | rfl | rfl | rfl | rfl | rfl | rfl | rfl | rfl : i = 0 ∨ i = 1 ∨ i = 2 ∨ i = 3 ∨ i = 4 ∨ i = 5 ∨ i = 6 ∨ i = 7 ∨ i = 8 ∨ i = 9 ∨ i = 10 ∨ i = 11 ∨ i = 12 ∨ i = 13 ∨ i = 14 ∨ i = 15 ∨ i = 16 ∨ i = 17 ∨ i = 18 ∨ i = 19 ∨ i = 20 ∨ i = 21 ∨ i = 22 ∨ i = 23 := by omega
      · exact absurd (hP 0 (by simp)) (by rw [hLi]; decide)
      · exact absurd (hP 1 (by simp)) (by rw [hLi]; decide)
      · simp only [List.getElem?_toArray, List.getElem?_cons_zero, List.getElem?_cons_succ, Option.some.injEq] at ho
        subst ho
        refine wpOp_step rfl rfl (fun K hK => ?_)
        simp only [List.getElem_toArray, List.getElem_cons_zero, List.getElem_cons_succ, encA]
        go_simp
        refine (bword_any na W (by omega)).mono ?_; rintro e w' ⟨rfl, hw'⟩
        exact hK _ _ ⟨HS _ (hB.trans (hw'.mono hB.size)), encI_grow (i := 2) rfl (by omega) hB hw' hP hC hN hT⟩
      · exact absurd (hP 3 (by simp)) (by rw [hLi]; decide)
      · exact absurd (hP 4 (by simp)) (by rw [hLi]; decide)
      · simp only [List.getElem?_toArray, List.getElem?_cons_zero, List.getElem?_cons_succ, Option.some.injEq] at ho
        subst ho
        refine wpOp_step rfl rfl (fun K hK => ?_)
        simp only [List.getElem_toArray, List.getElem_cons_zero, List.getElem_cons_succ, encA]
        go_simp
        refine (bword_any nb W (by omega)).mono ?_; rintro e w' ⟨rfl, hw'⟩
        exact hK _ _ ⟨HS _ (hB.trans (hw'.mono hB.size)), encI_grow (i := 5) rfl (by omega) hB hw' hP hC hN hT⟩
      · exact absurd (hP 6 (by simp)) (by rw [hLi]; decide)
      · exact absurd (hP 7 (by simp)) (by rw [hLi]; decide)
      · exact absurd (hP 8 (by simp)) (by rw [hLi]; decide)
      · exact absurd (hP 9 (by simp)) (by rw [hLi]; decide)
      · simp only [List.getElem?_toArray, List.getElem?_cons_zero, List.getElem?_cons_succ, Option.some.injEq] at ho
        subst ho
        refine wpOp_step rfl rfl (fun K hK => ?_)
        simp only [List.getElem_toArray, List.getElem_cons_zero, List.getElem_cons_succ, encA]
        go_simp
        refine (bword_any hi W (by omega)).mono ?_; rintro e w' ⟨rfl, hw'⟩
        exact hK _ _ ⟨HS _ (hB.trans (hw'.mono hB.size)), encI_grow (i := 10) rfl (by omega) hB hw' hP hC hN hT⟩
      · exact absurd (hP 11 (by simp)) (by rw [hLi]; decide)
      · exact absurd (hP 12 (by simp)) (by rw [hLi]; decide)
      · exact absurd (hP 13 (by simp)) (by rw [hLi]; decide)
      · exact absurd (hP 14 (by simp)) (by rw [hLi]; decide)
      · simp only [List.getElem?_toArray, List.getElem?_cons_zero, List.getElem?_cons_succ, Option.some.injEq] at ho
        subst ho
        refine wpOp_step rfl rfl (fun K hK => ?_)
        simp only [List.getElem_toArray, List.getElem_cons_zero, List.getElem_cons_succ, encA]
        go_simp
        refine (bword_any lo W (by omega)).mono ?_; rintro e w' ⟨rfl, hw'⟩
        exact hK _ _ ⟨HS _ (hB.trans (hw'.mono hB.size)), encI_grow (i := 15) rfl (by omega) hB hw' hP hC hN hT⟩
      · simp only [List.getElem?_toArray, List.getElem?_cons_zero, List.getElem?_cons_succ, Option.some.injEq] at ho
        subst ho
        refine wpOp_step rfl rfl (fun K hK => ?_)
        simp only [List.getElem_toArray, List.getElem_cons_zero, List.getElem_cons_succ, encA]
        go_simp
        exact hK _ _ ⟨HS _ (hB.alloc hB.size _), encI_alloc (m := 0) rfl (by omega) hLi hB hP hC hN hT⟩
      · simp only [List.getElem?_toArray, List.getElem?_cons_zero, List.getElem?_cons_succ, Option.some.injEq] at ho
        subst ho
        refine wpOp_step rfl rfl (fun K hK => ?_)
        simp only [List.getElem_toArray, List.getElem_cons_zero, List.getElem_cons_succ, encA]
        go_simp
        exact hK _ _ ⟨HS _ (hB.alloc hB.size _), encI_alloc (m := 1) rfl (by omega) hLi hB hP hC hN hT⟩
      · simp only [List.getElem?_toArray, List.getElem?_cons_zero, List.getElem?_cons_succ, Option.some.injEq] at ho
        subst ho
        refine wpOp_step rfl rfl (fun K hK => ?_)
        simp only [List.getElem_toArray, List.getElem_cons_zero, List.getElem_cons_succ, encA]
        go_simp
        exact hK _ _ ⟨HS _ (hB.alloc hB.size _), encI_alloc (m := 2) rfl (by omega) hLi hB hP hC hN hT⟩
      · simp only [List.getElem?_toArray, List.getElem?_cons_zero, List.getElem?_cons_succ, Option.some.injEq] at ho
        subst ho
        refine wpOp_step rfl rfl (fun K hK => ?_)
        simp only [List.getElem_toArray, List.getElem_cons_zero, List.getElem_cons_succ, encA]
        go_simp
        exact hK _ _ ⟨HS _ (hB.alloc hB.size _), encI_alloc (m := 3) rfl (by omega) hLi hB hP hC hN hT⟩
      · simp only [List.getElem?_toArray, List.getElem?_cons_zero, List.getElem?_cons_succ, Option.some.injEq] at ho
        subst ho
        have lc : L 2 = true := hd ⟨2, .data⟩ (by simp) rfl
        have h16 : ∀ k, k < 4 → L (16 + k) = true := fun k hk => by
          rcases (by omega : k = 0 ∨ k = 1 ∨ k = 2 ∨ k = 3) with rfl | rfl | rfl | rfl
          · exact hd ⟨16, .phase⟩ (by simp) rfl
          · exact hd ⟨17, .phase⟩ (by simp) rfl
          · exact hd ⟨18, .phase⟩ (by simp) rfl
          · exact hd ⟨19, .phase⟩ (by simp) rfl
        refine wpOp_step rfl rfl (fun K hK => ?_)
        obtain ⟨m1, m2⟩ := hC 0 (by omega) (h16 0 (by omega))
        refine wp_store_w4 (x := .tmp 4) (y := .tmp 13) (g := G 0) (new := encVs na nb hi lo 0) rfl (by show encP L G 0 = _; unfold encP; rw [if_pos (h16 0 (by omega))]) (by show encC L na nb hi lo 2 0 = _; unfold encC; rw [if_pos lc]) m2 (by split <;> simp [encVs_size, encZ]) (encVs_size _ _ _ _ _) (encVs_one _ _ _ _ _) ?_
        exact hK _ _ ⟨HS _ (below_row hB (wb_row (G 0) _) hB.size m1), encI_store (m := 0) rfl (by omega) h16 hB hP hC hN hT⟩
      · simp only [List.getElem?_toArray, List.getElem?_cons_zero, List.getElem?_cons_succ, Option.some.injEq] at ho
        subst ho
        have lc : L 5 = true := hd ⟨5, .data⟩ (by simp) rfl
        have h16 : ∀ k, k < 4 → L (16 + k) = true := fun k hk => by
          rcases (by omega : k = 0 ∨ k = 1 ∨ k = 2 ∨ k = 3) with rfl | rfl | rfl | rfl
          · exact hd ⟨16, .phase⟩ (by simp) rfl
          · exact hd ⟨17, .phase⟩ (by simp) rfl
          · exact hd ⟨18, .phase⟩ (by simp) rfl
          · exact hd ⟨19, .phase⟩ (by simp) rfl
        refine wpOp_step rfl rfl (fun K hK => ?_)
        obtain ⟨m1, m2⟩ := hC 1 (by omega) (h16 1 (by omega))
        refine wp_store_w4 (x := .tmp 5) (y := .tmp 16) (g := G 1) (new := encVs na nb hi lo 1) rfl (by show encP L G 1 = _; unfold encP; rw [if_pos (h16 1 (by omega))]) (by show encC L na nb hi lo 5 1 = _; unfold encC; rw [if_pos lc]) m2 (by split <;> simp [encVs_size, encZ]) (encVs_size _ _ _ _ _) (encVs_one _ _ _ _ _) ?_
        exact hK _ _ ⟨HS _ (below_row hB (wb_row (G 1) _) hB.size m1), encI_store (m := 1) rfl (by omega) h16 hB hP hC hN hT⟩
      · simp only [List.getElem?_toArray, List.getElem?_cons_zero, List.getElem?_cons_succ, Option.some.injEq] at ho
        subst ho
        have lc : L 10 = true := hd ⟨10, .data⟩ (by simp) rfl
        have h16 : ∀ k, k < 4 → L (16 + k) = true := fun k hk => by
          rcases (by omega : k = 0 ∨ k = 1 ∨ k = 2 ∨ k = 3) with rfl | rfl | rfl | rfl
          · exact hd ⟨16, .phase⟩ (by simp) rfl
          · exact hd ⟨17, .phase⟩ (by simp) rfl
          · exact hd ⟨18, .phase⟩ (by simp) rfl
          · exact hd ⟨19, .phase⟩ (by simp) rfl
        refine wpOp_step rfl rfl (fun K hK => ?_)
        obtain ⟨m1, m2⟩ := hC 2 (by omega) (h16 2 (by omega))
        refine wp_store_w4 (x := .tmp 6) (y := .tmp 21) (g := G 2) (new := encVs na nb hi lo 2) rfl (by show encP L G 2 = _; unfold encP; rw [if_pos (h16 2 (by omega))]) (by show encC L na nb hi lo 10 2 = _; unfold encC; rw [if_pos lc]) m2 (by split <;> simp [encVs_size, encZ]) (encVs_size _ _ _ _ _) (encVs_one _ _ _ _ _) ?_
        exact hK _ _ ⟨HS _ (below_row hB (wb_row (G 2) _) hB.size m1), encI_store (m := 2) rfl (by omega) h16 hB hP hC hN hT⟩
      · simp only [List.getElem?_toArray, List.getElem?_cons_zero, List.getElem?_cons_succ, Option.some.injEq] at ho
        subst ho
        have lc : L 15 = true := hd ⟨15, .data⟩ (by simp) rfl
        have h16 : ∀ k, k < 4 → L (16 + k) = true := fun k hk => by
          rcases (by omega : k = 0 ∨ k = 1 ∨ k = 2 ∨ k = 3) with rfl | rfl | rfl | rfl
          · exact hd ⟨16, .phase⟩ (by simp) rfl
          · exact hd ⟨17, .phase⟩ (by simp) rfl
          · exact hd ⟨18, .phase⟩ (by simp) rfl
          · exact hd ⟨19, .phase⟩ (by simp) rfl
        refine wpOp_step rfl rfl (fun K hK => ?_)
        obtain ⟨m1, m2⟩ := hC 3 (by omega) (h16 3 (by omega))
        refine wp_store_w4 (x := .tmp 7) (y := .tmp 26) (g := G 3) (new := encVs na nb hi lo 3) rfl (by show encP L G 3 = _; unfold encP; rw [if_pos (h16 3 (by omega))]) (by show encC L na nb hi lo 15 3 = _; unfold encC; rw [if_pos lc]) m2 (by split <;> simp [encVs_size, encZ]) (encVs_size _ _ _ _ _) (encVs_one _ _ _ _ _) ?_
        exact hK _ _ ⟨HS _ (below_row hB (wb_row (G 3) _) hB.size m1), encI_store (m := 3) rfl (by omega) h16 hB hP hC hN hT⟩
  case rest =>
    obtain ⟨g0, g1, g2, g3, rfl, rfl, rfl, rfl, bw, h0, h1, h2, h3⟩ := hcut
    have x0 := bytesV_four h0 (be_length _ _)
    have x1 := bytesV_four h1 (be_length _ _)
    have x2 := bytesV_four h2 (be_length _ _)
    have x3 := bytesV_four h3 (be_length _ _)
    have c0 := fun n : Nat => (x0.below (below_drewN (Below.refl _ _) n)).string (P := Try.prog) Try.underlying43 Try.underlying5 Try.underlying9
    have c1 := fun n : Nat => (x1.below (below_drewN (Below.refl _ _) n)).string (P := Try.prog) Try.underlying43 Try.underlying5 Try.underlying9
    have c2 := fun n : Nat => (x2.below (below_drewN (Below.refl _ _) n)).string (P := Try.prog) Try.underlying43 Try.underlying5 Try.underlying9
    have c3 := fun n : Nat => (x3.below (below_drewN (Below.refl _ _) n)).string (P := Try.prog) Try.underlying43 Try.underlying5 Try.underlying9
    simp only [List.getD_cons_zero, List.getD_cons_succ] at c0 c1 c2 c3
    have a1 := add_sv (be 4 na) (be 4 nb) (by simp)
    have a2 := add_sv (be 4 na ++ be 4 nb) (be 4 hi) (by simp)
    have a3 := add_sv (be 4 na ++ be 4 nb ++ be 4 hi) (be 4 lo) (by simp)
    clear h0 h1 h2 h3 x0 x1 x2 x3
    go_wp2_with fail
    go_quiet (fail)
    go_wp2_with fail
    go_ret2
    rw [HFIN.out]
    exact ⟨rfl, below_drewN bw _⟩

theorem encode_any (a b s : Int) (w : World) (hs : 0 ≤ s ∧ s < 18446744073709551616) : Calls Try.prog 20 #[ptrV a b s] w fun e w' => e = .returned (.tuple #[sv (encL a b s), .int .i64 (encOK a b s)]) ∧ Below w.heap.size w w' := by
  unfold encL encOK
  cases h : mayP a b s
  · exact encode_no a b s w h
  · obtain ⟨i0, i1, i2, i3⟩ := mayP_in h
    obtain ⟨na, rfl⟩ := Int.eq_ofNat_of_zero_le i0
    obtain ⟨nb, rfl⟩ := Int.eq_ofNat_of_zero_le i2
    exact encode_nat na nb s w h hs
end Go.Proofs.Ytjhgimdpgnnffaa
