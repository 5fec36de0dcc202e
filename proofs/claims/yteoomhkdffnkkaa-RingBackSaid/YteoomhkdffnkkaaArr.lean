/- A block of 512 bytes (api.Block) that lies whole in memory: made, read, copied into. Conditions: none. -/
import Derived.Test.YteoomhkdffnkkaaOpenBytes
import Derived.Test.YteoomhkdffnkkaaHeld
import Derived.Laws.CopyOwn
import Derived.Lib.AppendStr
import Derived.Deep.RegionLaw
import Derived.Stop.BytesEq
import Derived.Deep.QuietTactic
import Derived.BigQuiet
namespace Go.Proofs.Yteoomhkdffnkkaa
set_option linter.unusedVariables false
set_option linter.unusedSimpArgs false
open Go.ChangeShapes Go.WideShapes Go.ChangeAt Go.RowKit

def zs (n : Nat) : List UInt8 := List.replicate n 0
@[simp] theorem zs_len (n : Nat) : (zs n).length = n := by simp [zs]
/-- The cells of bytes. -/
def ac (l : List UInt8) : Array Value := (bc l).toArray
theorem ac_size (l : List UInt8) : (ac l).size = l.length := by simp [ac]
theorem ac_one (l : List UInt8) : (ac l).all (·.oneCell') = true := by
  rw [Array.all_eq_true_iff_forall_mem]
  intro v hv
  exact bc_one l v (by simpa [ac] using hv)
theorem ac_get (l : List UInt8) (j : Nat) (h : j < l.length) : (ac l)[j]? = some (.int .u8 (l[j].toNat : Int)) := by
  unfold ac
  rw [List.getElem?_toArray]
  exact bc_get l j h
theorem ac_inj {l m : List UInt8} (h : ac l = ac m) : l = m := by
  have h1 : bc l = bc m := by have := congrArg Array.toList h; simpa [ac] using this
  unfold bc at h1
  exact List.map_inj_right (f := fun c : UInt8 => Value.int .u8 (c.toNat : Int)) (by intro x y e; injection e with _ e; exact UInt8.toNat_inj.1 (by omega)) |>.1 h1
abbrev blk (l : List UInt8) : Value := .agg (ac l)

theorem info_blk : (Try.prog.info? 25).map (·.size) = some 512 := by kernel_rfl
theorem zero_blk : (Try.prog.info? 25).map (·.zero) = some (some (.agg (ac (zs 512)))) := by kernel_rfl
theorem zeroValueB : Try.zeroCells25 = ac (zs 512) := by kernel_rfl
@[simp] theorem ac_ne : ¬ ac (zs 512) = #[] := by
  intro h
  have := congrArg Array.size h
  rw [ac_size] at this
  simp at this

/-- In block g lies just a block of bytes, that may be written. -/
def Lies (w : World) (g : Nat) (l : List UInt8) : Prop := w.heap[g]? = some (.cells (ac l) 25 (0, 0))
section
variable {w w' : World} {g : Nat} {l : List UInt8}
theorem Lies.lt (h : Lies w g l) : g < w.heap.size := (Array.getElem?_eq_some_iff.1 h).1
theorem Lies.new (w : World) (l : List UInt8) (g : Nat) (hg : g = w.heap.size) : Lies (w.alloc (.cells (ac l) 25)) g l := by subst hg; exact heap_alloc_new w _
theorem Lies.alloc (h : Lies w g l) (o : Obj) : Lies (w.alloc o) g l := (heap_alloc_old w o h.lt).trans h
theorem Lies.drew (h : Lies w g l) : Lies w.drew g l := h
theorem Lies.but {row : Option Nat} (h : Lies w g l) (hb : w.grownBy w' row) (hne : some g ≠ row) : Lies w' g l := (hb.block g h.lt hne).trans h
theorem Lies.below (h : Lies w g l) (hb : Below w.heap.size w w') : Lies w' g l := (hb.block g h.lt).trans h
theorem Lies.setOther (h : Lies w g l) (a : Addr) (v : Value) (hne : g ≠ a.block) : Lies (w.setCell a v) g l := (heap_setCell_other w a g v hne).trans h
theorem Lies.cell (h : Lies w g l) {j : Nat} (hj : j < l.length) : w.cell? ⟨g, j, none⟩ = some (.int .u8 (l[j].toNat : Int)) := (cell_of_row w g j _ _ _ h).trans (ac_get l j hj)
theorem Lies.free (h : Lies w g l) (j : Nat) : w.frozen? ⟨g, j, none⟩ = false := frozen_of_row w g j _ _ h
theorem Lies.set (h : Lies w g l) {j : Nat} (x : UInt8) (hj : j < l.length) : Lies (w.setCell ⟨g, j, none⟩ (.int .u8 (x.toNat : Int))) g (l.set j x) := by
  have := heap_setCell_same w g j (ac l) 25 (.int .u8 (x.toNat : Int)) h
  refine this.trans ?_
  congr 3
  unfold ac
  simp [bc, List.map_set]
end

theorem wb_row {w : World} (g : Nat) (cs : Array Value) : w.grownBy (w.setRow g cs) (some g) := ⟨rfl, rfl, rfl, by simp, fun k _ hne => setRow_other w g k cs (fun e => hne (congrArg some e))⟩

section
variable {ops : Array Oper} {rest : List Oper} {o : Oper} {a : Act} {Q : Exit → Act → World → Prop} {w : World} {g : Nat} {l : List UInt8}
theorem wpList_load_blk (hgd : o.guard = none) (x : Operand) (ho : o.op = .load 25 x) (hx : a.eval x = .pointer (some ⟨g, 0, none⟩)) (hl : Lies w g l) (h5 : l.length = 512)
    (h : wpList Try.prog ops Q rest (a.put o.dst (blk l)) w) : wpList Try.prog ops Q (o :: rest) a w :=
  wpList_load_row hgd _ x ho g hx _ _ _ _ hl Try.underlying25 rfl (by rw [info_blk, ac_size, h5]) h

theorem wpList_load_blk_g (x : Operand) (ho : o.op = .load 25 x) (hx : a.eval x = .pointer (some ⟨g, 0, none⟩)) (hl : Lies w g l) (h5 : l.length = 512) (hw : Region.wanted o (yielded ops a.tmps) = true)
    (h : wpList Try.prog ops Q rest (a.put o.dst (blk l)) w) : wpList Try.prog ops Q (o :: rest) a w := by
  unfold wpList
  rw [if_pos hw]
  exact .inl (wp_load_row _ x ho g hx _ _ _ _ hl Try.underlying25 rfl (by rw [info_blk, ac_size, h5]) h)
theorem wp_load_blk {K : Act → World → Prop} {x : Operand} (ho : o.op = .load 25 x) (hx : a.eval x = .pointer (some ⟨g, 0, none⟩)) (hl : Lies w g l) (h5 : l.length = 512)
    (h : K (a.put o.dst (blk l)) w) : o.wp Try.prog a w K Q := wp_load_row _ x ho g hx _ _ _ _ hl Try.underlying25 rfl (by rw [info_blk, ac_size, h5]) h
theorem run_loadVar_blk (hl : Lies w g l) (h5 : l.length = 512) : (loadVar 25 ⟨g, 0, none⟩).run Try.prog w = .ok (blk l) w :=
  run_loadVar_row (P := Try.prog) w g _ 25 (ac l) _ _ hl Try.underlying25 rfl (by rw [info_blk, ac_size, h5])
theorem quiet_load_blk {C : World → Prop} {K : Act → Prop} {x : Operand} (ho : o.op = .load 25 x) (hx : a.eval x = .pointer (some ⟨g, 0, none⟩)) (hl : ∀ w, C w → Lies w g l) (h5 : l.length = 512) (hk : K (a.put o.dst (blk l))) : o.quiet Try.prog a C K :=
  ⟨blk l, fun w hw => by
    unfold Oper.quietAt execOp
    simp only [ho, hx, Instr.loadAt, Instr.sureAddr, Sem.run_bind, Sem.run_pure, Result.andThen_ok, run_loadVar_blk (hl w hw) h5]
    exact ⟨rfl, rfl⟩, hk⟩
theorem run_store_blk {m : List UInt8} (hl : Lies w g l) (h5 : l.length = 512) (hm : m.length = 512) : (Instr.storeAt 25 (.pointer (some ⟨g, 0, none⟩)) (blk m)).run Try.prog w = .ok () (w.setRow g (ac m)) := by
  have := run_storeVar_row (P := Try.prog) w g _ 25 (ac l) (ac m) hl (by rw [info_blk, ac_size, hm]) (by rw [ac_size, ac_size, h5, hm]) (ac_one m)
  simp only [Instr.storeAt, Instr.sureAddr, Sem.run_bind, Sem.run_pure, Result.andThen_ok, this]
theorem wpList_store_blk (hgd : o.guard = none) (x y : Operand) (ho : o.op = .store 25 x y) {m : List UInt8} (hx : a.eval x = .pointer (some ⟨g, 0, none⟩)) (hy : a.eval y = blk m) (hl : Lies w g l) (h5 : l.length = 512) (hm : m.length = 512)
    (h : ∀ w', Lies w' g m → w.grownBy w' (some g) → wpList Try.prog ops Q rest (a.put o.dst undef) w') : wpList Try.prog ops Q (o :: rest) a w := by
  refine wpList_plain hgd fun K hK => ?_
  unfold Oper.wp execOp
  simp only [ho, hx, hy, Sem.run_bind, run_store_blk hl h5 hm, Sem.run_pure, Result.andThen_ok]
  exact hK _ _ (h _ (setRow_heap w g _ _ _ _ hl) (wb_row g _))

theorem splice_ac (l k : List UInt8) (off : Nat) : ((ac l).toList.take off ++ bc k ++ (ac l).toList.drop (off + (bc k).length)).toArray = ac (splice l off k) := by
  unfold ac splice
  simp [bc, List.map_take, List.map_drop]

theorem run_copy_str {k : List UInt8} {dT sT ty : TypeId} {off dLen dCap : Nat} (hu : Try.prog.underlying dT = some (.slice 5)) (hl : Lies w g l) (hk : k.length ≤ dLen) (hfit : off + k.length ≤ l.length) :
    (Builtin.copy_ #[dT, sT] ty #[.slice (some ⟨g, off, none⟩) dLen dCap, .string ⟨k.toArray⟩]).run Try.prog w = .ok (goInt k.length) (w.setRow g (ac (splice l off k))) := by
  obtain ⟨i0, hi, hz0, hz1, hz2⟩ := info_parts info_u8
  have hst := run_storeCells_at Try.prog g off 25 (bc k) 0 (ac l) w hl (by rw [ac_size]; simpa using hfit) (bc_one k)
  have hf := Lib.run_firstCells_string (P := Try.prog) (w := w) 1 ⟨k.toArray⟩
  have hc : (Lib.strCells ⟨k.toArray⟩) = bc k := by simp [Lib.strCells, bc]
  rw [hc, ba_size] at hf
  have hm : Nat.min k.length dLen = k.length := Nat.min_eq_left hk
  simp only [Nat.add_zero] at hst
  rw [splice_ac] at hst
  simp [Builtin.copy_, run_underlying hu, Builtin.lenOf, sizeOf, typeInfo, hi, hz1, ba_size, hm, hf, hst]
theorem wpList_copy_str (hgd : o.guard = none) (d s : Operand) {dT sT : TypeId} (ho : o.op = .call { callee := .builtin .copy, args := #[d, s], argTypes := #[dT, sT] }) {k : List UInt8} {off dLen dCap : Nat}
    (hu : Try.prog.underlying dT = some (.slice 5)) (hd : a.eval d = .slice (some ⟨g, off, none⟩) dLen dCap) (hs : a.eval s = .string ⟨k.toArray⟩) (hl : Lies w g l) (hk : k.length ≤ dLen) (hfit : off + k.length ≤ l.length)
    (h : ∀ w', Lies w' g (splice l off k) → w.grownBy w' (some g) → wpList Try.prog ops Q rest (a.put o.dst (goInt k.length)) w') : wpList Try.prog ops Q (o :: rest) a w := by
  refine wpList_plain hgd fun K hK => ?_
  have hr := run_copy_str (dT := dT) (sT := sT) (ty := o.type) (dCap := dCap) hu hl hk hfit
  unfold Oper.wp execOp
  simp only [ho, resolve, invoke, builtin, Sem.run_bind, Sem.run_pure, Result.andThen_ok, List.map_toArray, List.map_cons, List.map_nil, hd, hs, hr]
  exact hK _ _ (h _ (setRow_heap w g _ _ _ _ hl) (wb_row g _))
end

section
variable {ops : Array Oper} {rest : List Oper} {o : Oper} {a : Act} {Q : Exit → Act → World → Prop} {w : World} {g : Nat} {l : List UInt8}
theorem run_copy_bytes {k : List UInt8} {dT sT ty : TypeId} {off dLen dCap sCap : Nat} {sp : Option Addr} (hu : Try.prog.underlying dT = some (.slice 5)) (hl : Lies w g l) (hb : BytesV w (.slice sp k.length sCap) k) (hk : k.length ≤ dLen) (hfit : off + k.length ≤ l.length) :
    (Builtin.copy_ #[dT, sT] ty #[.slice (some ⟨g, off, none⟩) dLen dCap, .slice sp k.length sCap]).run Try.prog w = .ok (goInt k.length) (w.setRow g (ac (splice l off k))) := by
  obtain ⟨i0, hi, hz0, hz1, hz2⟩ := info_parts info_u8
  have hst := run_storeCells_at Try.prog g off 25 (bc k) 0 (ac l) w hl (by rw [ac_size]; simpa using hfit) (bc_one k)
  have hf := firstCells_bytes (P := Try.prog) hb
  have hm : Nat.min k.length dLen = k.length := Nat.min_eq_left hk
  simp only [Nat.add_zero] at hst
  rw [splice_ac] at hst
  simp [Builtin.copy_, run_underlying hu, Builtin.lenOf, sizeOf, typeInfo, hi, hz1, hm, hf, hst]
theorem step_copy_blk {K : Act → World → Prop} {E : Prop} (hgd : o.guard = none) (d s : Operand) {dT sT : TypeId} (ho : o.op = .call { callee := .builtin .copy, args := #[d, s], argTypes := #[dT, sT] }) {k : List UInt8} {off dLen dCap sCap m : Nat} {sp : Option Addr}
    (hu : Try.prog.underlying dT = some (.slice 5)) (hd : a.eval d = .slice (some ⟨g, off, none⟩) dLen dCap) (hs : a.eval s = .slice sp m sCap) (hm : m = k.length) (hl : Lies w g l) (hb : BytesV w (.slice sp k.length sCap) k) (hk : k.length ≤ dLen) (hfit : off + k.length ≤ l.length)
    (h : ∀ w', Lies w' g (splice l off k) → w.grownBy w' (some g) → K (a.put o.dst (goInt k.length)) w') : if Region.wanted o (yielded ops a.tmps) = true then Oper.wp Try.prog o a w K Q else E := by
  subst hm
  have hw : Region.wanted o (yielded ops a.tmps) = true := by simp [Region.wanted, hgd]
  rw [if_pos hw]
  have hr := run_copy_bytes (dT := dT) (sT := sT) (ty := o.type) (dCap := dCap) hu hl hb hk hfit
  unfold Oper.wp execOp
  simp only [ho, resolve, invoke, builtin, Sem.run_bind, Sem.run_pure, Result.andThen_ok, List.map_toArray, List.map_cons, List.map_nil, hd, hs, hr]
  exact h _ (setRow_heap w g _ _ _ _ hl) (wb_row g _)
theorem results_blk_tmp {fn : Func} {p q : Tmp} (h : fn.results = #[.cell p 25, .tmp q]) (tmps : Array Value) (hp : tmps.getD p undef = .pointer (some ⟨g, 0, none⟩)) (hl : Lies w g l) (h5 : l.length = 512) :
    (results fn tmps).run Try.prog w = .ok (.tuple #[blk l, tmps.getD q undef]) w := by
  have hp' : tmps[p]?.getD undef = .pointer (some ⟨g, 0, none⟩) := by simpa using hp
  simp [results, h, hp', asAddr, run_loadVar_blk hl h5]
end
theorem bytesV_new (w : World) (l : List UInt8) (t : TypeId) (hl : l.length ≤ maxLen) : BytesV (w.alloc (.cells (bc l).toArray t)) (.slice (some ⟨w.heap.size, 0, none⟩) l.length l.length) l :=
  (rowB_new w _ t l l.length (Nat.le_refl _) hl (fun k hk => by rw [List.getElem?_toArray, bc_get _ _ hk])).bytes
theorem run_eq_blk (a b : List UInt8) (ha : a.length = 512) (hb : b.length = 512) (w : World) : (Op.equalIn 10000 25 (blk a) (blk b)).run Try.prog w = .ok (a == b) w :=
  run_equalIn_bytes (P := Try.prog) w 9998 25 5 512 Try.underlying25 Try.underlying5 (fun w => Try.sizeOf5 w) a b ha hb
theorem Lies.bytes {w : World} {g : Nat} {l : List UInt8} (h : Lies w g l) (off n c : Nat) (hn : off + n ≤ l.length) (hc : n ≤ c) (hm : c ≤ maxLen) : BytesV w (.slice (some ⟨g, off, none⟩) n c) ((l.drop off).take n) := by
  have hlen : ((l.drop off).take n).length = n := by simp; omega
  refine ⟨_, c, by rw [hlen], by omega, hm, (fun h => by cases h), fun h0 => ⟨g, off, rfl, h.lt, fun k hk => ?_⟩⟩
  rw [hlen] at hk
  rw [h.cell (j := off + k) (by omega)]
  simp
theorem below_row {B : Nat} {w w1 w' : World} {x : Nat} (h : Below B w w1) (hb : w1.grownBy w' (some x)) (hB : B ≤ w1.heap.size) (hx : B ≤ x) : Below B w w' := h.grown hb hB (fun k e => by cases e; exact hx)

theorem splice_pre (p k : List UInt8) (n : Nat) (hk : k.length ≤ n) : splice (p ++ zs n) p.length k = p ++ k ++ zs (n - k.length) := by
  unfold splice zs
  rw [List.take_left, ← List.drop_drop, List.drop_left, List.drop_replicate, List.append_assoc]
end Go.Proofs.Yteoomhkdffnkkaa
