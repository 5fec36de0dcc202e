/- ring.Open, jettyref09.Open. Conditions: bounds of machine numbers. -/
import Derived.Test.YteoomhkdffnkkaaRngSeal2
import Derived.Test.YteoomhkdffnkkaaRead3
import Derived.Test.YteoomhkdffnkkaaReadLaw
namespace Go.Proofs.Yteoomhkdffnkkaa
set_option linter.unusedVariables false
set_option linter.unusedSimpArgs false
open Go.ChangeShapes Go.WideShapes Go.ChangeAt Go.RowKit Pl
attribute [local go_sem] ba_toList ba_size zeroValueB
set_option maxRecDepth 100000

theorem openV_yes {l : List UInt8} (h : openOK l = true) : openV l = .tuple #[.int .u8 ((oK l).toNat : Int), .int .i64 (oB l), sv (oS l), .int .i64 0] := if_pos h
theorem openV_no {l : List UInt8} (h : openOK l = false) : openV l = .tuple #[.int .u8 0, .int .i64 0, sv [], .int .i64 4] := if_neg (by rw [h]; decide)
def roOK (l : List UInt8) : Bool := openOK l && (((oK l).toNat : Int) == 3) && decide (8 ≤ (oS l).length) && decide (1 ≤ oB l)
def roSum (l : List UInt8) : Bool := (unbe 0 ((oS l).take 8) == fnv fnv0 ((oS l).drop 8))
def roE (l : List UInt8) : Int := if roOK l = true then (if roSum l = true then 0 else 52) else 4
def roV (l : List UInt8) : Value := if roE l = 0 then .tuple #[rootV (oB l) ((oS l).drop 8), .int .i64 0] else .tuple #[rootV 0 [], .int .i64 (roE l)]

theorem rov_no {l : List UInt8} (h : roOK l = false) : roV l = .tuple #[rootV 0 [], .int .i64 4] := by
  have hE : roE l = 4 := if_neg (by rw [h]; decide)
  unfold roV
  rw [hE, if_neg (by decide)]
theorem rov_sum {l : List UInt8} (h : roOK l = true) (hs : roSum l = false) : roV l = .tuple #[rootV 0 [], .int .i64 52] := by
  have hE : roE l = 52 := by unfold roE; rw [if_pos h, if_neg (by rw [hs]; decide)]
  unfold roV
  rw [hE, if_neg (by decide)]
theorem rov_yes {l : List UInt8} (h : roOK l = true) (hs : roSum l = true) : roV l = .tuple #[rootV (oB l) ((oS l).drop 8), .int .i64 0] := by
  have hE : roE l = 0 := by unfold roE; rw [if_pos h, if_pos hs]
  unfold roV
  rw [hE, if_pos rfl]
theorem sum_bytes {l : List UInt8} (h : 8 ≤ (oS l).length) : ((oS l).take 8 == rSum ((oS l).drop 8)) = roSum l := by
  have hf := fnv_lt ((oS l).drop 8) (u := fnv0) (by decide)
  have hb := be_unbe ((oS l).take 8) 8 (by simp; omega) 0
  rw [Bool.eq_iff_iff, beq_iff_eq]
  unfold roSum rSum
  rw [beq_iff_eq]
  constructor
  · intro e
    rw [e, unbe_be, Nat.zero_mul, Nat.zero_add, Nat.mod_eq_of_lt (by omega)]
  · intro e
    rw [← e, hb]

theorem wp_bytes_of_string {P : Program} {o : Oper} {a : Act} {K : Act → World → Prop} {Q : Exit → Act → World → Prop} {w : World} {x : Operand} {src dst e : TypeId}
    (ho : o.op = .convert src dst x) (hs : P.underlying src = some .string) (hd : P.underlying dst = some (.slice e)) (he : P.underlying e = some (.int .u8))
    {l : List UInt8} (hx : a.eval x = .string ⟨l.toArray⟩) (hl : l.length ≤ maxLen)
    (h : ∀ v' w', BytesV w' v' l → Below w.heap.size w w' → K (a.put o.dst v') w') : o.wp P a w K Q := by
  have hr := run_bytes_of_string (P := P) w src dst e ⟨l.toArray⟩ hs hd he
  unfold Oper.wp execOp
  simp only [ho, Sem.run_bind, hx, hr, Result.andThen_ok, Sem.run_pure]
  rw [ba_size]
  exact h _ _ (bytesV_of_string w l hl e) ((Below.refl _ _).drew.alloc (Nat.le_refl _) _)
end Go.Proofs.Yteoomhkdffnkkaa
