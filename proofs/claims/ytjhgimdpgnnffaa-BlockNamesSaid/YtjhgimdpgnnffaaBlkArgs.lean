/- Blocks and pointers among a law's arguments, opened; what Open, To and Check give, in form; a slice literal of two blocks. Conditions: none. -/
import Derived.Test.YtjhgimdpgnnffaaBlkRefTo
import Derived.Lib.SmallJoins
import Derived.OpenShut
import Derived.WideKeyArr2
import Derived.Great.BuildSlice
namespace Go.Proofs.Ytjhgimdpgnnffaa
set_option linter.unusedVariables false
set_option linter.unusedSimpArgs false
open Go.ChangeShapes Go.WideShapes Go.ChangeAt Go.RowKit Go.Joins Pl

theorem cells_blk : Try.prog.cellsOf 23 = 512 := by kernel_rfl
theorem cells_ptr : Try.prog.cellsOf 26 = 3 := by kernel_rfl

theorem mapM_each {α β : Type} {f : α → Option β} : ∀ (L : List α) (ys : List β), L.mapM f = some ys → ∀ i ∈ L, ∃ y, f i = some y
  | [], _, _, i, hi => by cases hi
  | x :: L, ys, h, i, hi => by
    rw [List.mapM_cons] at h
    simp only [bind, Option.bind_eq_some_iff, pure, Option.some.injEq] at h
    obtain ⟨y, hy, ys', hys, _⟩ := h
    rcases List.mem_cons.1 hi with rfl | hi
    · exact ⟨y, hy⟩
    · exact mapM_each L ys' hys i hi

section
variable {H : Type} {enc : TypeId × Value → H} {w : World} {base : Nat} {spare : Nat → Bool} {held : Bool}
theorem open_blk {r : Reach} {b0 : Nat} {v : Value} {d : DataW H} {p : List MemPlace} (hv0 : Value.okWide Try.prog w r b0 23 v) (h : DataW.Trod enc Try.prog w base spare held 23 v d p) :
    ∃ l : List UInt8, v = blk l ∧ l.length = 512 := by
  unfold Value.okWide at hv0
  rw [Try.underlying23] at hv0
  obtain ⟨cs, rfl, hn, _⟩ := hv0
  rw [cells_blk] at hn
  obtain ⟨fuel, hf⟩ := h
  cases fuel with
  | zero => simp [DataW.trod] at hf
  | succ m =>
    rw [DataW.trod_step] at hf
    unfold DataW.trodStep at hf
    simp only [Try.underlying23, Value.cells] at hf
    rw [if_pos (by rw [cells_blk]; simpa using hn)] at hf
    simp only [Option.map_eq_some_iff] at hf
    obtain ⟨ys, hy, _⟩ := hf
    have hall : ∀ i, (hi : i < cs.toList.length) → ∃ a : Int, cs.toList[i] = .int .u8 a ∧ 0 ≤ a ∧ a < 256 := by
      intro i hi
      obtain ⟨y, hy'⟩ := mapM_each _ _ hy i (by simp at hi; simp; omega)
      rw [cells_u8] at hy'
      obtain ⟨a, ea, _, wa⟩ := DataW.trod_int Try.underlying5 hy'
      rw [Nat.mul_one] at ea
      have h2 : (cs.toList.drop i).take 1 = [cs.toList[i]] := by rw [List.drop_eq_getElem_cons hi]; rfl
      rw [h2] at ea
      injection ea with ea _
      obtain ⟨b0, b1⟩ := bounds_u8 wa
      exact ⟨a, ea, b0, by omega⟩
    refine ⟨cs.toList.map fun v => match v with | .int _ a => UInt8.ofNat a.toNat | _ => 0, ?_, by simpa using hn⟩
    have : cs = ac (cs.toList.map fun v => match v with | .int _ a => UInt8.ofNat a.toNat | _ => 0) := by
      unfold ac
      apply Array.toList_inj.1
      refine List.ext_getElem (by simp) (fun i h1 h2 => ?_)
      obtain ⟨a, ea, b0, b1⟩ := hall i h1
      have e : a = (((UInt8.ofNat a.toNat).toNat : Nat) : Int) := by rw [UInt8.toNat_ofNat']; omega
      simp only [bc, List.getElem_map, ea]
      exact congrArg (Value.int .u8) e
    exact congrArg Value.agg this
theorem open_ptr {r : Reach} {b0 : Nat} {v : Value} {d : DataW H} {p : List MemPlace} (hv0 : Value.okWide Try.prog w r b0 26 v) (h : DataW.Trod enc Try.prog w base spare held 26 v d p) :
    ∃ a b s : Int, v = ptrV a b s ∧ 0 ≤ s ∧ s < 18446744073709551616 := by
  obtain ⟨v0, v1, v2, y0, y1, y2, n, rfl, rfl, rfl, h0, h1, h2⟩ := open_agg3 Try.underlying26 (by kernel_rfl) cells_ptr hv0 h
  obtain ⟨a, e0, rfl, wa⟩ := DataW.trod_int Try.underlying3 h0
  obtain ⟨b, e1, rfl, wb⟩ := DataW.trod_int Try.underlying3 h1
  obtain ⟨c, e2, rfl, wc⟩ := DataW.trod_int Try.underlying24 h2
  simp at e0 e1 e2
  subst e0 e1 e2
  obtain ⟨q0, q1⟩ := bounds_u64 wc
  exact ⟨a, b, c, rfl, q0, by omega⟩
end

def eqP (a b c x y z : Int) : Bool := (a == x) && (b == y) && (c == z)
theorem eql_ptr (a b c x y z : Int) (w : World) : (binOp BinOp.eql 26 (ptrV a b c) (ptrV x y z)).run Try.prog w = .ok (.bool (eqP a b c x y z)) w := by
  unfold eqP
  by_cases h1 : a = x <;> by_cases h2 : b = y <;> by_cases h3 : c = z <;> simp [go_sem, h1, h2, h3]
theorem neq_ptr (a b c x y z : Int) (w : World) : (binOp BinOp.neq 26 (ptrV a b c) (ptrV x y z)).run Try.prog w = .ok (.bool (!eqP a b c x y z)) w := by
  unfold eqP
  by_cases h1 : a = x <;> by_cases h2 : b = y <;> by_cases h3 : c = z <;> simp [go_sem, h1, h2, h3]
theorem eqP_refl (a b c : Int) : eqP a b c a b c = true := by simp [eqP]

theorem openV_form (l : List UInt8) : ∃ (K : UInt8) (N : Int) (S : List UInt8) (E : Int), openV l = .tuple #[.int .u8 (K.toNat : Int), .int .i64 N, sv S, .int .i64 E] := by
  unfold openV
  by_cases h : openOK l = true
  · rw [if_pos h]; exact ⟨_, _, _, _, rfl⟩
  · rw [if_neg h]; exact ⟨0, _, _, _, rfl⟩
theorem toV_form (a : Int) (l : List UInt8) : ∃ (A B S E : Int), toV a l = .tuple #[ptrV A B S, .int .i64 E] := by
  unfold toV
  by_cases h : toE a l = 0
  · rw [if_pos h]; exact ⟨_, _, _, _, rfl⟩
  · rw [if_neg h]; exact ⟨_, _, _, _, rfl⟩
theorem chV_form (a b s : Int) (l : List UInt8) : ∃ (K : UInt8) (S : List UInt8) (E : Int), chV a b s l = .tuple #[.int .u8 (K.toNat : Int), sv S, .int .i64 E] := by
  unfold chV
  by_cases h : chE a b s l = 0
  · rw [if_pos h]; exact ⟨_, _, _, rfl⟩
  · rw [if_neg h]; exact ⟨0, _, _, rfl⟩

/-- '[]api.Block{b, d}'. -/
theorem wpList_two_blk {ops : Array Oper} {rest : List Oper} {o : Oper} {a : Act} {Q : Exit → Act → World → Prop} {w : World} (hgd : o.guard = none) (x y : Operand) (ho : o.op = .buildSlice 31 2 #[(0, x), (1, y)]) {l m : List UInt8}
    (hx : a.eval x = blk l) (hy : a.eval y = blk m) (hl : l.length = 512) (hm : m.length = 512)
    (h : ∀ w', w'.rangeAt w.heap.size 0 (bc l) → w'.rangeAt w.heap.size 512 (bc m) → Below w.heap.size w w' → wpList Try.prog ops Q rest (a.put o.dst (.slice (some ⟨w.heap.size, 0, none⟩) 2 2)) w') : wpList Try.prog ops Q (o :: rest) a w := by
  have hs := info_blk
  have hz := zero_blk
  cases hie : Try.prog.info? 23 with
  | none => rw [hie] at hs; cases hs
  | some ie =>
    rw [hie] at hs hz
    have hs' : ie.size = 512 := by simpa using hs
    have hz' : ie.zero = some (.agg (ac (zs 512))) := by simpa using hz
    have hl' : (bc l).length = 512 := by rw [bc_length, hl]
    have hm' : (bc m).length = 512 := by rw [bc_length, hm]
    refine wpList_buildSlice hgd 31 23 2 _ ho (bc l ++ bc m).toArray ie _ Try.underlying31 hie hz' (by rw [hs']; omega) (by rw [hs']; omega) ?_ ?_
    · have hw := Great.fill_whole (s := 512) (by omega) [blk l, blk m] ((Array.range (2 * ie.size)).map ((Value.agg (ac (zs 512))).cells[· % (Value.agg (ac (zs 512))).cells.size]!))
        (fun v hv => by
          rcases List.mem_cons.1 hv with rfl | hv
          · simp [Value.cells, ac_size, hl]
          · rcases List.mem_cons.1 hv with rfl | hv
            · simp [Value.cells, ac_size, hm]
            · cases hv) (by simp [hs'])
      rw [hs'] at hw ⊢
      simp only [List.zipIdx, List.map_cons, List.map_nil, Nat.zero_add] at hw
      simp only [List.map_toArray, List.map_cons, List.map_nil, hx, hy]
      rw [hw]
      simp [Value.cells, ac]
    · have hb : (w.alloc (.cells (bc l ++ bc m).toArray 23)).heap[w.heap.size]? = some (.cells (bc l ++ bc m).toArray 23 (0, 0)) := heap_alloc_new w _
      have r0 := World.rangeAt_of_block hb 0 512
      have r1 := World.rangeAt_of_block hb 512 512
      have e0 : ((bc l ++ bc m).toArray.extract 0 (0 + 512)).toList = bc l := by simp [← hl']
      have e1 : ((bc l ++ bc m).toArray.extract 512 (512 + 512)).toList = bc m := by
        simp only [List.extract_toArray, List.extract_eq_take_drop]
        rw [List.drop_left' hl', List.take_of_length_le (by omega)]
      rw [e0] at r0
      rw [e1] at r1
      exact h _ r0 r1 ((Below.refl _ _).alloc (Nat.le_refl _) _)

theorem range_below {w w' : World} {g o : Nat} {cs : List Value} (h : w.rangeAt g o cs) (hg : g < w.heap.size) (hb : Below w.heap.size w w') : w'.rangeAt g o cs := fun j v hv => (hb.cell (p := ⟨g, o + j, none⟩) hg).trans (h j v hv)
end Go.Proofs.Ytjhgimdpgnnffaa
