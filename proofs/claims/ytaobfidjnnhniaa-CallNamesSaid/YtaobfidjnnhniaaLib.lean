/- Memory words that the walks share: a slice that reads as a list, a block that is known whole, an append of one cell. Conditions: none. -/
import Derived.Test.YtaobfidjnnhniaaBase
import Derived.WalkLawsBesides
import Derived.Handy
import Derived.Laws.OwnMore
import Derived.Deep.AppendSrc
import Derived.Deep.Draws
import Derived.Lib.Hide
import Derived.BigQuiet
import Derived.Laws.BytesArg
import Derived.Laws.IdiomStrings
namespace Go.Proofs.Ytaobfidjnnhniaa
set_option linter.unusedVariables false
set_option linter.unusedSimpArgs false
open Go.RowKit

/-- A text's value. -/
abbrev sv (l : List UInt8) : Value := .string ⟨l.toArray⟩
/-- A list of bytes, as cells. -/
def bc (l : List UInt8) : List Value := l.map fun c => Value.int .u8 (c.toNat : Int)
@[simp] theorem bc_length (l : List UInt8) : (bc l).length = l.length := by simp [bc]
theorem bc_append (l m : List UInt8) : bc (l ++ m) = bc l ++ bc m := by simp [bc]
@[simp] theorem bc_nil : bc [] = [] := rfl
theorem bc_one (l : List UInt8) : ∀ u ∈ bc l, u.oneCell' = true := by
  intro u hu
  obtain ⟨_, _, rfl⟩ := List.mem_map.1 hu
  rfl
theorem bc_byteCells (s : ByteArray) : byteCells s = bc s.data.toList := rfl

theorem info_u8 : (Try.prog.info? 5).map (fun i => (i.zero, i.size, i.bytes)) = some (some (.int .u8 0), 1, 1) := by kernel_rfl

section
variable {P : Program} {ops : Array Oper} {rest : List Oper} {o : Oper} {a : Act} {Q : Exit → Act → World → Prop} {w : World}
/-- 'out = append(out, x)', out the call's own, x of one cell. -/
theorem wpList_push (hgd : o.guard = none) (s x : Operand) (t : TypeId)
    (ho : o.op = .call { callee := .builtin .append, args := #[s, x], argTypes := #[t, t] })
    {e : TypeId} {i : TypeInfo} {z : Value} {bytes : Nat} (ht : P.underlying t = some (.slice e)) (hi : P.info? e = some i) (hz : i.zero = some z)
    (hsize : i.size = 1) (hby : i.bytes = bytes) (hzs : z.cells.size = 1)
    {base : Nat} {v : Value} {n : Nat} {xs : List Value} {u : Value} (hs : a.eval s = v) (hx : a.eval x = .slice (some ⟨w.heap.size, 0, none⟩) 1 1)
    (hown : w.ownsRow base e 1 v n xs) (hu : u.oneCell' = true) (h63 : n + 1 ≤ maxLen) (hbytes : (n + 1) * bytes ≤ 140737488355328) (hbase : base ≤ w.heap.size)
    (h : ∀ v' w', w'.ownsRow base e 1 v' (n + 1) (xs ++ [u]) → w.grownBy w' v.ownBlock → Below base w w' → wpList P ops Q rest (a.put o.dst v') w') :
    wpList P ops Q (o :: rest) a (w.alloc (.cells #[u] e)) := by
  refine wpList_append_own _ hgd s x t ho base e i z 1 bytes ht hi hz hsize hby hzs (by decide) v n xs hs (hown.alloc _) ⟨w.heap.size, 0, none⟩ 1 1 [u] hx rfl ?_ ?_ h63 hbytes (by simp; omega) ?_
  · intro j u' hj
    match j, hj with
    | 0, hj => simp at hj; subst hj; simp [Addr.add]
  · intro u' hu'; simp at hu'; subst hu'; exact hu
  · intro v' w' hown' hgrow _
    have h1 : w.grownBy (w.alloc (.cells #[u] e)) v.ownBlock := World.grownBy_alloc w _ _
    have h2 : w.grownBy w' v.ownBlock := ⟨hgrow.os.trans h1.os, hgrow.tape.trans h1.tape, hgrow.output.trans h1.output, Nat.le_trans h1.size hgrow.size,
      fun k hk hne => (hgrow.block k (Nat.lt_of_lt_of_le hk h1.size) hne).trans (h1.block k hk hne)⟩
    exact h v' w' hown' h2 ((Below.refl base w).grown h2 hbase (fun k hk => (hown.lt k hk).1))
end
theorem below_drewN {B : Nat} {a w : World} (h : Below B a w) (n : Nat) : Below B a (w.drewN n) := ⟨h.os, h.tape, h.output, h.size, h.block⟩

theorem chain {w0 X w' : World} (h : Below w0.heap.size w0 X) (hb : Below X.heap.size X w') : Below w0.heap.size w0 w' := h.trans (hb.mono h.size)

theorem cell_new (w : World) (c : Array Value) (t : TypeId) (g j : Nat) (hg : g = w.heap.size) : (w.alloc (.cells c t)).cell? ⟨g, j, none⟩ = c[j]? := by
  subst hg
  exact cell_of_row _ _ _ _ t (0, 0) (heap_alloc_new w _)

/-- The slice value v reads as the bytes l in w. -/
def BytesV (w : World) (v : Value) (l : List UInt8) : Prop :=
  ∃ A c, v = .slice A l.length c ∧ l.length ≤ c ∧ c ≤ maxLen ∧ (A = none → c = 0) ∧
    (0 < l.length → ∃ b off, A = some ⟨b, off, none⟩ ∧ b < w.heap.size ∧ ∀ k, (h : k < l.length) → w.cell? ⟨b, off + k, none⟩ = some (.int .u8 (l[k].toNat : Int)))

section
variable {w w' : World} {v : Value} {l : List UInt8}
theorem BytesV.nil (w : World) : BytesV w (.slice none 0 0) [] := ⟨none, 0, rfl, Nat.le_refl _, Nat.zero_le _, fun _ => rfl, fun h => absurd h (by simp)⟩
theorem BytesV.below (h : BytesV w v l) (hb : Below w.heap.size w w') : BytesV w' v l := by
  obtain ⟨A, c, hv, hl, hc, hn, hr⟩ := h
  refine ⟨A, c, hv, hl, hc, hn, fun h0 => ?_⟩
  obtain ⟨b, off, hA, hbl, hcell⟩ := hr h0
  exact ⟨b, off, hA, Nat.lt_of_lt_of_le hbl hb.size, fun k hk => (hb.cell (p := ⟨b, off + k, none⟩) hbl).trans (hcell k hk)⟩
theorem BytesV.drew (h : BytesV w v l) : BytesV w.drew v l := h
theorem BytesV.alloc (h : BytesV w v l) (o : Obj) : BytesV (w.alloc o) v l := h.below ((Below.refl _ _).alloc (Nat.le_refl _) o)
theorem BytesV.of_own {base e n : Nat} (h : w.ownsRow base e 1 v n (bc l)) : BytesV w v l := by
  have hlen : n = l.length := by have := h.1; simp at this; omega
  subst hlen
  rcases h.2 with ⟨rfl, hn⟩ | ⟨g, cap, cur, rfl, hb, hg, hnc, hcm, hcs, htake⟩
  · have : l = [] := List.eq_nil_of_length_eq_zero hn
    subst this
    exact BytesV.nil w
  · refine ⟨_, _, rfl, hnc, hcm, (fun h => by cases h), fun h0 => ⟨g, 0, rfl, (Array.getElem?_eq_some_iff.1 hg).1, fun k hk => ?_⟩⟩
    have hk' : (bc l)[k]? = some (.int .u8 (l[k].toNat : Int)) := by simp [bc, hk]
    have := h.cells (g := g) rfl k _ hk'
    simpa [Addr.add_lit] using this
theorem BytesV.len (h : BytesV w v l) : l.length ≤ maxLen := by
  obtain ⟨A, c, hv, hl, hc, hn, hr⟩ := h
  omega
end

/-- The worlds that are w with more behind it: for a region that draws its order and whose callees make memory. -/
structure Ext (w : World) where
  W : World
  below : Below w.heap.size w W
instance Ext.there (w : World) : Nonempty (Ext w) := ⟨⟨w, Below.refl _ _⟩⟩

theorem Ext.cell {w : World} {p : Addr} {v : Value} (h : w.cell? p = some v) (hp : p.block < w.heap.size) (n : Ext w) : n.W.cell? p = some v := (n.below.cell hp).trans h
theorem Ext.of_call {P : Program} {f : FuncId} {args : Array Value} {w : World} {n : Ext w} {v : Value}
    (h : Calls P f args n.W fun e w' => e = .returned v ∧ Below n.W.heap.size n.W w') : Calls P f args n.W fun e w'' => e = .returned v ∧ ∃ m : Ext w, w'' = m.W :=
  h.mono fun _ w' ⟨he, hb⟩ => ⟨he, ⟨w', n.below.trans (hb.mono n.below.size)⟩, rfl⟩
theorem Ext.of_same {P : Program} {f : FuncId} {args : Array Value} {w : World} {n : Ext w} {v : Value}
    (h : Calls P f args n.W fun e w' => e = .returned v ∧ n.W = w') : Calls P f args n.W fun e w'' => e = .returned v ∧ ∃ m : Ext w, w'' = m.W :=
  h.mono fun _ w' ⟨he, hb⟩ => ⟨he, n, hb.symm⟩
theorem Ext.start (w : World) : ∃ n : Ext w, { w with drawn := w.drawn + 1 } = n.W := ⟨⟨w.drew, (Below.refl _ _).drew⟩, rfl⟩
theorem wp_region_ext {P : Program} {id : Nat} {Q : Exit → Act → World → Prop} {a : Act} {w : World} {l : List Oper} (hm : P.follows .mixedOrders = true) (hB : Region.lexB .any l.toArray = true)
    (h : wpQuiet P l.toArray (fun w' => ∃ n : Ext w, w' = n.W) (fun a' => ∀ n : Ext w, Q .normal a' n.W) l a) : (Code.region id l.toArray true).wp P Q a w := by
  refine wp_region_quiet (C := fun w' => ∃ n : Ext w, w' = n.W) hm hB (Ext.start w) ?_
  have e : (fun a' => ∀ w', (∃ n : Ext w, w' = n.W) → Q .normal a' w') = (fun a' => ∀ n : Ext w, Q .normal a' n.W) := by
    funext a'
    exact propext ⟨fun h n => h _ ⟨n, rfl⟩, fun h _ ⟨n, e⟩ => e ▸ h n⟩
  rw [e]
  simpa using h

theorem ba_app (l m : List UInt8) : (⟨l.toArray⟩ : ByteArray) ++ (⟨m.toArray⟩ : ByteArray) = ⟨(l ++ m).toArray⟩ := by
  apply ByteArray.ext
  simp
theorem ba_size (l : List UInt8) : (⟨l.toArray⟩ : ByteArray).size = l.length := by simp [ByteArray.size]
theorem ba_get (l : List UInt8) (k : Nat) (h : k < (⟨l.toArray⟩ : ByteArray).size) : (⟨l.toArray⟩ : ByteArray)[k] = l[k]'(by rw [ba_size] at h; exact h) := rfl
theorem ba_toList (l : List UInt8) : (⟨l.toArray⟩ : ByteArray).toList = l := by rw [ByteArray.toList_eq]
theorem sv_inj {l m : List UInt8} (h : (⟨l.toArray⟩ : ByteArray) = ⟨m.toArray⟩) : l = m := by
  have := congrArg ByteArray.toList h
  rwa [ba_toList, ba_toList] at this

/-- '|' on ints: a byte behind a number that has room for it. -/
theorem i64_or_byte (x c : Nat) (hx : x < 4503599627370496) (hc : c < 256) : bits BinOp.or IntKind.i64 ((x : Int) * 256) (wrap64 (c : Int)) = ((x * 256 + c : Nat) : Int) := by
  have e1 : wrap64 (c : Int) = (c : Int) := IntWalk.wrap64_in _ (by omega)
  have e2 : ((x : Int) * 256) = ((x * 256 : Nat) : Int) := by omega
  have h1 : x * 256 ||| c = x * 256 + c := by
    have := Nat.two_pow_add_eq_or_of_lt (i := 8) (b := c) (by omega) x
    rw [show 2 ^ 8 * x = x * 256 from by omega] at this
    omega
  rw [e1, e2]
  show IntKind.i64.wrap ((BitVec.ofInt 64 ((x * 256 : Nat) : Int) ||| BitVec.ofInt 64 (c : Int)).toNat : Int) = _
  rw [BitVec.toNat_or, BitVec.ofInt_natCast, BitVec.ofInt_natCast, BitVec.toNat_ofNat, BitVec.toNat_ofNat, Nat.mod_eq_of_lt (by omega), Nat.mod_eq_of_lt (by omega), h1]
  exact IntWalk.i64_in _ (by omega)

theorem ba_extract (l : List UInt8) (i j : Nat) : (⟨l.toArray⟩ : ByteArray).extract i j = ⟨((l.drop i).take (j - i)).toArray⟩ := by
  apply ByteArray.ext
  simp
/-- 's[i:j]' of a string. -/
theorem slice_sv {P : Program} {t : TypeId} (ht : P.underlying t = some .string) (l : List UInt8) (i j : Nat) (hij : i ≤ j) (hj : j ≤ l.length) (w : World) :
    (Instr.slice t (.string ⟨l.toArray⟩) (some (.int .i64 (i : Int))) (some (.int .i64 (j : Int))) none).run P w = .ok (.string ⟨((l.drop i).take (j - i)).toArray⟩) w := by
  rw [run_slice_string w t ⟨l.toArray⟩ .i64 .i64 i j ht (by omega) (by omega) (by rw [ba_size]; omega), ba_extract]
  rfl
/-- 's[:j]' of a string. -/
theorem slice_sv_h {P : Program} {t : TypeId} (ht : P.underlying t = some .string) (l : List UInt8) (j : Nat) (hj : j ≤ l.length) (w : World) :
    (Instr.slice t (.string ⟨l.toArray⟩) none (some (.int .i64 (j : Int))) none).run P w = .ok (.string ⟨(l.take j).toArray⟩) w := by
  rw [run_slice_string_h w t ⟨l.toArray⟩ ht .i64 j (by omega) (by rw [ba_size]; omega), ba_extract]
  simp

/-- 'string(b)'. -/
theorem BytesV.string {P : Program} {w : World} {v : Value} {l : List UInt8} (h : BytesV w v l) {src dst e : TypeId} (hs : P.underlying src = some (.slice e)) (he : P.underlying e = some (.int .u8)) (hd : P.underlying dst = some .string) :
    (convert src dst v).run P w = .ok (.string ⟨l.toArray⟩) w := by
  obtain ⟨A, c, rfl, hl, hc, hn, hr⟩ := h
  rw [run_convert_bytes_string w src dst e A l.length c hs he hd]
  cases l with
  | nil =>
    cases A with
    | none => simp [Conv.bytesToString, Sem.run_pure]; rfl
    | some a => exact (run_bytesToString (P := P) w a 0 c [] (by simp [loadCells, loadCellsFrom])).trans (by simp; rfl)
  | cons x l =>
    obtain ⟨b, off, rfl, hb, hcell⟩ := hr (by simp)
    have := run_convert_bytes_back (P := P) w src dst e ⟨b, off, none⟩ c (x :: l) hs he hd (fun j hj => by rw [Addr.add_lit]; exact hcell j hj)
    rw [run_convert_bytes_string w src dst e _ _ c hs he hd] at this
    exact this

/-- '[]byte(s)'. -/
theorem bytesV_of_string (w : World) (l : List UInt8) (hl : l.length ≤ maxLen) (e : TypeId) :
    BytesV (w.drew.alloc (.cells (bytesRow ⟨l.toArray⟩ (grownCap w l.length 0 e)) e ((bytesRow ⟨l.toArray⟩ (grownCap w l.length 0 e)).size, (bytesRow ⟨l.toArray⟩ (grownCap w l.length 0 e)).size + 1)))
      (.slice (some ⟨w.heap.size, 0, none⟩) l.length (grownCap w l.length 0 e)) l := by
  refine ⟨_, _, rfl, grownCap_ge _ _ _ _, grownCap_le_maxLen _ _ _ _ hl, (fun h => by cases h), fun _ => ⟨w.heap.size, 0, rfl, by simp, fun k hk => ?_⟩⟩
  have h1 := World.cell?_alloc_mark w.drew (bytesRow ⟨l.toArray⟩ (grownCap w l.length 0 e)) e ((bytesRow ⟨l.toArray⟩ (grownCap w l.length 0 e)).size, (bytesRow ⟨l.toArray⟩ (grownCap w l.length 0 e)).size + 1) (0 + k)
  rw [Nat.zero_add] at h1 ⊢
  refine h1.trans ?_
  rw [bytesRow_at _ _ _ (by simpa using hk)]
  simp

/-- The slice value v is a row of its own, from block 'base' on, that may be written, and holds the bytes l. -/
def RowB (w : World) (base : Nat) (v : Value) (l : List UInt8) : Prop :=
  ∃ g c, v = .slice (some ⟨g, 0, none⟩) l.length c ∧ base ≤ g ∧ g < w.heap.size ∧ l.length ≤ c ∧ c ≤ maxLen ∧
    ∀ k, (h : k < l.length) → w.cell? ⟨g, k, none⟩ = some (.int .u8 (l[k].toNat : Int)) ∧ w.frozen? ⟨g, k, none⟩ = false
theorem RowB.bytes {w : World} {base : Nat} {v : Value} {l : List UInt8} (h : RowB w base v l) : BytesV w v l := by
  obtain ⟨g, c, rfl, hb, hg, hl, hc, hk⟩ := h
  exact ⟨_, c, rfl, hl, hc, (fun h => by cases h), fun _ => ⟨g, 0, rfl, hg, fun k hk' => by rw [Nat.zero_add]; exact (hk k hk').1⟩⟩

theorem wpList_bytes_of_string {P : Program} {ops : Array Oper} {rest : List Oper} {o : Oper} {a : Act} {Q : Exit → Act → World → Prop} {w : World} (hgd : o.guard = none) (x : Operand) {src dst e : TypeId}
    (ho : o.op = .convert src dst x) (hs : P.underlying src = some .string) (hd : P.underlying dst = some (.slice e)) (he : P.underlying e = some (.int .u8))
    {l : List UInt8} (hx : a.eval x = .string ⟨l.toArray⟩) (hl : l.length ≤ maxLen)
    (h : ∀ v' w', RowB w' w.heap.size v' l → Below w.heap.size w w' → w'.heap.size = w.heap.size + 1 → wpList P ops Q rest (a.put o.dst v') w') : wpList P ops Q (o :: rest) a w := by
  refine wpList_plain hgd fun K hK => ?_
  have hr := run_bytes_of_string (P := P) w src dst e ⟨l.toArray⟩ hs hd he
  unfold Oper.wp execOp
  simp only [ho, Sem.run_bind, hx, hr, Result.andThen_ok, Sem.run_pure]
  rw [ba_size]
  refine hK _ _ (h _ _ ⟨w.heap.size, grownCap w l.length 0 e, rfl, Nat.le_refl _, by simp, grownCap_ge _ _ _ _, grownCap_le_maxLen _ _ _ _ hl, fun k hk => ⟨?_, ?_⟩⟩ ((Below.refl _ _).drew.alloc (Nat.le_refl _) _) (by simp))
  · have h1 := World.cell?_alloc_mark w.drew (bytesRow ⟨l.toArray⟩ (grownCap w l.length 0 e)) e ((bytesRow ⟨l.toArray⟩ (grownCap w l.length 0 e)).size, (bytesRow ⟨l.toArray⟩ (grownCap w l.length 0 e)).size + 1) k
    refine h1.trans ?_
    rw [bytesRow_at _ _ _ (by simpa using hk)]
    simp
  · have h1 := World.frozen?_alloc_mark w.drew (bytesRow ⟨l.toArray⟩ (grownCap w l.length 0 e)) e (bytesRow ⟨l.toArray⟩ (grownCap w l.length 0 e)).size ((bytesRow ⟨l.toArray⟩ (grownCap w l.length 0 e)).size + 1) k
    refine h1.trans ?_
    have hsz : l.length ≤ (bytesRow ⟨l.toArray⟩ (grownCap w l.length 0 e)).size := by
      unfold bytesRow
      simp
    rw [Bool.and_eq_false_iff]
    exact .inl (by simp; omega)

theorem RowB.set {w : World} {base g c : Nat} {l : List UInt8} {k : Nat} (x : UInt8) (hk : k < l.length)
    (h : RowB w base (.slice (some ⟨g, 0, none⟩) l.length c) l) : RowB (w.setCell ⟨g, k, none⟩ (.int .u8 (x.toNat : Int))) base (.slice (some ⟨g, 0, none⟩) l.length c) (l.set k x) := by
  obtain ⟨g', c', e, hb, hg, hl, hc, hcell⟩ := h
  injection e with e1 e2 e3
  injection e1 with e1
  injection e1 with e1 _ _
  subst e1 e3
  refine ⟨g, c, by rw [List.length_set], hb, by simpa [World.setCell] using hg, by rw [List.length_set]; exact hl, hc, fun j hj => ?_⟩
  rw [List.length_set] at hj
  rw [List.getElem_set]
  by_cases hjk : k = j
  · subst hjk
    rw [if_pos rfl, World.cell?_setCell_same _ _ _ (hcell k hk).1]
    exact ⟨rfl, by simpa using (hcell k hk).2⟩
  · rw [if_neg hjk, World.cell?_setCell_other _ _ _ _ (fun e => hjk (congrArg Addr.off e))]
    exact ⟨(hcell j hj).1, by simpa using (hcell j hj).2⟩

/-- 'make([]byte, n)'. -/
theorem wpList_make_bytes {P : Program} {ops : Array Oper} {rest : List Oper} {o : Oper} {a : Act} {Q : Exit → Act → World → Prop} {w : World} (hgd : o.guard = none) (x c : Operand) {t e : TypeId}
    (ho : o.op = .makeSlice t x c) (ht : P.underlying t = some (.slice e)) {i : TypeInfo} (hi : P.info? e = some i) (hz : i.zero = some (.int .u8 0)) (hs : i.size = 1) (hby : i.bytes = 1)
    {L C : Int} (n : Nat) (hx : a.eval x = .int .i64 L) (hc : a.eval c = .int .i64 C) (hL : L = (n : Int)) (hC : C = (n : Int)) (hn : n ≤ 281474976710656)
    (h : ∀ v' w', BytesV w' v' (List.replicate n 0) → Below w.heap.size w w' → wpList P ops Q rest (a.put o.dst v') w') : wpList P ops Q (o :: rest) a w := by
  refine wpList_make_full w hgd x c t ho w.heap.size e i (.int .u8 0) 1 ht hi hz hs .i64 .i64 L C n hx hc hL hC (by rw [hby]; omega) (by unfold maxLen; omega) (Nat.le_refl _) ?_
  intro w' hown hgr
  refine h _ w' ?_ ((Below.refl _ _).grown hgr (Nat.le_refl _) (fun k hk => by cases hk))
  refine BytesV.of_own (base := w.heap.size) (e := e) (n := n) ?_
  have hm : (madeCells (Value.int .u8 0).cells (n * 1)).toList = bc (List.replicate n 0) := by
    have e1 : bc (List.replicate n 0) = List.replicate n (.int .u8 0) := by simp [bc]
    rw [e1, List.eq_replicate_iff]
    refine ⟨by rw [Array.length_toList, size_madeCells, Nat.mul_one], fun b hb => ?_⟩
    rw [Array.mem_toList_iff] at hb
    unfold madeCells at hb
    obtain ⟨k, _, rfl⟩ := Array.mem_map.1 hb
    have : k % (Value.int .u8 0).cells.size = 0 := Nat.mod_one k
    rw [this]
    rfl
  rw [hm] at hown
  exact hown
end Go.Proofs.Ytaobfidjnnhniaa
