/- CallNames: the examples, the limits and the errors are as the document has them: the law returns true. Conditions: none. -/
import Derived.Test.YtaobfidjnnhniaaCallPlain
import Derived.Deep.DeepCutAuto
namespace Go.Proofs.Ytaobfidjnnhniaa
set_option linter.unusedVariables false
set_option linter.unusedSimpArgs false
open Go.ChangeShapes Go.WideShapes Go.ChangeAt Go.RowKit Pl
attribute [local go_sem] ba_toList ba_size ba_app
set_option maxRecDepth 100000

/-- The rows of the first loop: a head, and the error that Write tells of it. -/
structure RowW (W : World) (g j : Nat) : Prop where
  ex : ∃ (c x p : Int) (l : List UInt8) (e : Int), W.cell? ⟨g, j * 5, none⟩ = some (.int .i64 c) ∧ W.cell? ⟨g, j * 5 + 1, none⟩ = some (.int .i64 x) ∧ W.cell? ⟨g, j * 5 + 2, none⟩ = some (.int .i64 p) ∧ W.cell? ⟨g, j * 5 + 3, none⟩ = some (sv l) ∧ W.cell? ⟨g, j * 5 + 4, none⟩ = some (.int .i64 e) ∧
    callE c x p l = e ∧ l.length ≤ 5000 ∧ (e = 0 → (callS c x p l).length = 24 + l.length)
/-- The rows of the second loop: bytes, and the error that Read tells of them. -/
structure RowR (W : World) (g j : Nat) : Prop where
  ex : ∃ (s : List UInt8) (e : Int), W.cell? ⟨g, j * 2, none⟩ = some (sv s) ∧ W.cell? ⟨g, j * 2 + 1, none⟩ = some (.int .i64 e) ∧ readE s = e ∧ s.length ≤ 5000

/-- What the last region reads. -/
structure TailS (w : World) (g1 g2 g3 : Nat) (l : List UInt8) (W : World) : Prop where
  d1 : BoxD W g1 4 9 99 []
  d2 : BoxD W g2 4 4294967295 99 []
  a3 : BoxA W g3 4294967295 0 l
  below0 : Below w.heap.size w W
theorem TailS.below {w W W' : World} {g1 g2 g3 : Nat} {l : List UInt8} (h : TailS w g1 g2 g3 l W) (hb : Below W.heap.size W W') : TailS w g1 g2 g3 l W' :=
  ⟨h.d1.below hb, h.d2.below hb, h.a3.below hb, h.below0.trans (hb.mono h.below0.size)⟩
theorem TailS.alloc {w W : World} {g1 g2 g3 : Nat} {l : List UInt8} (h : TailS w g1 g2 g3 l W) (o : Obj) : TailS w g1 g2 g3 l (W.alloc o) := h.below ((Below.refl _ _).alloc (Nat.le_refl _) o)

set_option maxHeartbeats 12800000 in
theorem names_any (w : World) : Calls Try.prog 7 #[] w fun e w' => e = .returned (.bool true) ∧ Below w.heap.size w w' := by
  have MA : ∀ W, Calls Try.prog 19 #[.int .i64 4072] W fun r w' => r = .returned (sv (zeros 4072)) ∧ Below W.heap.size W w' := fun W => many_any 4072 W (by omega)
  have MB : ∀ W, Calls Try.prog 19 #[.int .i64 4076] W fun r w' => r = .returned (sv (zeros 4076)) ∧ Below W.heap.size W w' := fun W => many_any 4076 W (by omega)
  have MC : ∀ W, Calls Try.prog 19 #[.int .i64 4075] W fun r w' => r = .returned (sv (zeros 4075)) ∧ Below W.heap.size W w' := fun W => many_any 4075 W (by omega)
  have MD : ∀ W, Calls Try.prog 19 #[.int .i64 2] W fun r w' => r = .returned (sv (zeros 2)) ∧ Below W.heap.size W w' := fun W => many_any 2 W (by omega)
  have ME : ∀ W, Calls Try.prog 19 #[.int .i64 8] W fun r w' => r = .returned (sv (zeros 8)) ∧ Below W.heap.size W w' := fun W => many_any 8 W (by omega)
  have lA : (zeros 4072).length = 4072 := zeros_length _
  have lB : (zeros 4076).length = 4076 := zeros_length _
  have lC : (zeros 4075).length = 4075 := zeros_length _
  generalize zeros 4072 = ZA at *
  generalize zeros 4076 = ZB at *
  generalize zeros 4075 = ZC at *
  obtain ⟨WA, hWA⟩ : ∃ s, s = wordsB [7, 0, 284, 3, 1, 18] := ⟨_, rfl⟩
  have GWA : Hid (∀ (V : Value) (W : World), IntsV W V [7, 0, 284, 3, 1, 18] → Calls Try.prog 18 #[V] W fun r w' => r = .returned (sv WA) ∧ Below W.heap.size W w') := Lib.hid fun V W h => by
    have := words_any V [7, 0, 284, 3, 1, 18] W h (by simp)
    rwa [← hWA] at this
  have lWA : WA.length = 24 := by rw [hWA, wordsB_len]; rfl
  obtain ⟨WB, hWB⟩ : ∃ s, s = wordsB [7, 0, 284, 3, 1] := ⟨_, rfl⟩
  have GWB : Hid (∀ (V : Value) (W : World), IntsV W V [7, 0, 284, 3, 1] → Calls Try.prog 18 #[V] W fun r w' => r = .returned (sv WB) ∧ Below W.heap.size W w') := Lib.hid fun V W h => by
    have := words_any V [7, 0, 284, 3, 1] W h (by simp)
    rwa [← hWB] at this
  have lWB : WB.length = 20 := by rw [hWB, wordsB_len]; rfl
  obtain ⟨WC, hWC⟩ : ∃ s, s = wordsB [7, 1, 284, 3, 1, 1] := ⟨_, rfl⟩
  have GWC : Hid (∀ (V : Value) (W : World), IntsV W V [7, 1, 284, 3, 1, 1] → Calls Try.prog 18 #[V] W fun r w' => r = .returned (sv WC) ∧ Below W.heap.size W w') := Lib.hid fun V W h => by
    have := words_any V [7, 1, 284, 3, 1, 1] W h (by simp)
    rwa [← hWC] at this
  have lWC : WC.length = 24 := by rw [hWC, wordsB_len]; rfl
  obtain ⟨WD, hWD⟩ : ∃ s, s = wordsB [7, 0, 1, 3, 0, 1] := ⟨_, rfl⟩
  have GWD : Hid (∀ (V : Value) (W : World), IntsV W V [7, 0, 1, 3, 0, 1] → Calls Try.prog 18 #[V] W fun r w' => r = .returned (sv WD) ∧ Below W.heap.size W w') := Lib.hid fun V W h => by
    have := words_any V [7, 0, 1, 3, 0, 1] W h (by simp)
    rwa [← hWD] at this
  have lWD : WD.length = 24 := by rw [hWD, wordsB_len]; rfl
  obtain ⟨WE, hWE⟩ : ∃ s, s = wordsB [7, 0, 284, 2, 1, 99] := ⟨_, rfl⟩
  have GWE : Hid (∀ (V : Value) (W : World), IntsV W V [7, 0, 284, 2, 1, 99] → Calls Try.prog 18 #[V] W fun r w' => r = .returned (sv WE) ∧ Below W.heap.size W w') := Lib.hid fun V W h => by
    have := words_any V [7, 0, 284, 2, 1, 99] W h (by simp)
    rwa [← hWE] at this
  have lWE : WE.length = 24 := by rw [hWE, wordsB_len]; rfl
  obtain ⟨WF, hWF⟩ : ∃ s, s = wordsB [7, 0, 284, 3, 1, -1] := ⟨_, rfl⟩
  have GWF : Hid (∀ (V : Value) (W : World), IntsV W V [7, 0, 284, 3, 1, -1] → Calls Try.prog 18 #[V] W fun r w' => r = .returned (sv WF) ∧ Below W.heap.size W w') := Lib.hid fun V W h => by
    have := words_any V [7, 0, 284, 3, 1, -1] W h (by simp)
    rwa [← hWF] at this
  have lWF : WF.length = 24 := by rw [hWF, wordsB_len]; rfl
  obtain ⟨WG, hWG⟩ : ∃ s, s = wordsB [9, 0, 1, 3, 4, 99] := ⟨_, rfl⟩
  have GWG : Hid (∀ (V : Value) (W : World), IntsV W V [9, 0, 1, 3, 4, 99] → Calls Try.prog 18 #[V] W fun r w' => r = .returned (sv WG) ∧ Below W.heap.size W w') := Lib.hid fun V W h => by
    have := words_any V [9, 0, 1, 3, 4, 99] W h (by simp)
    rwa [← hWG] at this
  have lWG : WG.length = 24 := by rw [hWG, wordsB_len]; rfl
  obtain ⟨WH, hWH⟩ : ∃ s, s = wordsB [-1, 0, 284, 3, 4, 99] := ⟨_, rfl⟩
  have GWH : Hid (∀ (V : Value) (W : World), IntsV W V [-1, 0, 284, 3, 4, 99] → Calls Try.prog 18 #[V] W fun r w' => r = .returned (sv WH) ∧ Below W.heap.size W w') := Lib.hid fun V W h => by
    have := words_any V [-1, 0, 284, 3, 4, 99] W h (by simp)
    rwa [← hWH] at this
  have lWH : WH.length = 24 := by rw [hWH, wordsB_len]; rfl
  obtain ⟨WI, hWI⟩ : ∃ s, s = wordsB [-1, 1, 0, 5] := ⟨_, rfl⟩
  have GWI : Hid (∀ (V : Value) (W : World), IntsV W V [-1, 1, 0, 5] → Calls Try.prog 18 #[V] W fun r w' => r = .returned (sv WI) ∧ Below W.heap.size W w') := Lib.hid fun V W h => by
    have := words_any V [-1, 1, 0, 5] W h (by simp)
    rwa [← hWI] at this
  have lWI : WI.length = 16 := by rw [hWI, wordsB_len]; rfl
  obtain ⟨WJ, hWJ⟩ : ∃ s, s = wordsB [7, 1, 62, 5] := ⟨_, rfl⟩
  have GWJ : Hid (∀ (V : Value) (W : World), IntsV W V [7, 1, 62, 5] → Calls Try.prog 18 #[V] W fun r w' => r = .returned (sv WJ) ∧ Below W.heap.size W w') := Lib.hid fun V W h => by
    have := words_any V [7, 1, 62, 5] W h (by simp)
    rwa [← hWJ] at this
  have lWJ : WJ.length = 16 := by rw [hWJ, wordsB_len]; rfl
  obtain ⟨WK, hWK⟩ : ∃ s, s = wordsB [7, 1, 1] := ⟨_, rfl⟩
  have GWK : Hid (∀ (V : Value) (W : World), IntsV W V [7, 1, 1] → Calls Try.prog 18 #[V] W fun r w' => r = .returned (sv WK) ∧ Below W.heap.size W w') := Lib.hid fun V W h => by
    have := words_any V [7, 1, 1] W h (by simp)
    rwa [← hWK] at this
  have lWK : WK.length = 12 := by rw [hWK, wordsB_len]; rfl
  obtain ⟨WL, hWL⟩ : ∃ s, s = wordsB [7, 0, 0] := ⟨_, rfl⟩
  have GWL : Hid (∀ (V : Value) (W : World), IntsV W V [7, 0, 0] → Calls Try.prog 18 #[V] W fun r w' => r = .returned (sv WL) ∧ Below W.heap.size W w') := Lib.hid fun V W h => by
    have := words_any V [7, 0, 0] W h (by simp)
    rwa [← hWL] at this
  have lWL : WL.length = 12 := by rw [hWL, wordsB_len]; rfl
  obtain ⟨WM, hWM⟩ : ∃ s, s = wordsB [7, 1] := ⟨_, rfl⟩
  have GWM : Hid (∀ (V : Value) (W : World), IntsV W V [7, 1] → Calls Try.prog 18 #[V] W fun r w' => r = .returned (sv WM) ∧ Below W.heap.size W w') := Lib.hid fun V W h => by
    have := words_any V [7, 1] W h (by simp)
    rwa [← hWM] at this
  have lWM : WM.length = 8 := by rw [hWM, wordsB_len]; rfl
  obtain ⟨WN, hWN⟩ : ∃ s, s = wordsB [7, 1, 0] := ⟨_, rfl⟩
  have GWN : Hid (∀ (V : Value) (W : World), IntsV W V [7, 1, 0] → Calls Try.prog 18 #[V] W fun r w' => r = .returned (sv WN) ∧ Below W.heap.size W w') := Lib.hid fun V W h => by
    have := words_any V [7, 1, 0] W h (by simp)
    rwa [← hWN] at this
  have lWN : WN.length = 12 := by rw [hWN, wordsB_len]; rfl
  obtain ⟨WO, hWO⟩ : ∃ s, s = wordsB [5] := ⟨_, rfl⟩
  have GWO : Hid (∀ (V : Value) (W : World), IntsV W V [5] → Calls Try.prog 18 #[V] W fun r w' => r = .returned (sv WO) ∧ Below W.heap.size W w') := Lib.hid fun V W h => by
    have := words_any V [5] W h (by simp)
    rwa [← hWO] at this
  have lWO : WO.length = 4 := by rw [hWO, wordsB_len]; rfl
  have rA : readE (WA ++ ZA) = 0 := by
    have h := readE_six (a := 7) (b := 0) (c := 284) (d := 3) (e := 1) (f := 18) (by omega) (by omega) (by omega) (by omega) (by omega) (by omega) (r := ZA) (by omega) (by omega)
    have e : be 4 7 ++ (be 4 0 ++ (be 4 284 ++ (be 4 3 ++ (be 4 1 ++ (be 4 18 ++ ZA))))) = WA ++ ZA := by rw [hWA]; simp [wordsB]
    rw [e] at h
    rw [h]; decide
  have rB : readE (WA ++ ZB) = 4 := if_neg (by simp [lWA, lB])
  have rC : readE (WA ++ zeros 2) = 4 := if_neg (by simp [lWA])
  have rD : readE WB = 4 := if_neg (by simp [lWB])
  have rE : readE [] = 4 := by kernel_rfl
  have rF : readE WC = 4 := by rw [hWC]; kernel_rfl
  have rG : readE WD = 4 := by rw [hWD]; kernel_rfl
  have rH : readE WE = 63 := by rw [hWE]; kernel_rfl
  have rI : readE WF = 62 := by rw [hWF]; kernel_rfl
  have ReadRG : Hid (∀ W, Calls Try.prog 13 #[sv (WG ++ zeros 8)] W fun r w' => r = .returned (.tuple #[headV 4 9 99 [], .int .i64 63]) ∧ Below W.heap.size W w') := Lib.hid fun W => by
    have := read_any (WG ++ zeros 8) W (by rw [hWG]; simp [wordsB])
    rwa [show readV (WG ++ zeros 8) = .tuple #[headV 4 9 99 [], .int .i64 63] from by rw [hWG]; kernel_rfl] at this
  have ReadRH : Hid (∀ W, Calls Try.prog 13 #[sv (WH ++ zeros 8)] W fun r w' => r = .returned (.tuple #[headV 4 4294967295 99 [], .int .i64 62]) ∧ Below W.heap.size W w') := Lib.hid fun W => by
    have := read_any (WH ++ zeros 8) W (by rw [hWH]; simp [wordsB])
    rwa [show readV (WH ++ zeros 8) = .tuple #[headV 4 4294967295 99 [], .int .i64 62] from by rw [hWH]; kernel_rfl] at this
  have HearI : Hid (∀ W, Calls Try.prog 15 #[sv (WI)] W fun r w' => r = .returned (.tuple #[ansV 4294967295 0 WO, .int .i64 0]) ∧ Below W.heap.size W w') := Lib.hid fun W => by
    have := hear_any (WI) W (by rw [hWI]; simp [wordsB])
    rwa [show hearV (WI) = .tuple #[ansV 4294967295 0 WO, .int .i64 0] from by rw [hWI, hWO]; kernel_rfl] at this
  have HearJ : Hid (∀ W, Calls Try.prog 15 #[sv (WJ)] W fun r w' => r = .returned (.tuple #[ansV 0 0 [], .int .i64 4]) ∧ Below W.heap.size W w') := Lib.hid fun W => by
    have := hear_any (WJ) W (by rw [hWJ]; simp [wordsB])
    rwa [show hearV (WJ) = .tuple #[ansV 0 0 [], .int .i64 4] from by rw [hWJ]; kernel_rfl] at this
  have HearK : Hid (∀ W, Calls Try.prog 15 #[sv (WK)] W fun r w' => r = .returned (.tuple #[ansV 0 0 [], .int .i64 4]) ∧ Below W.heap.size W w') := Lib.hid fun W => by
    have := hear_any (WK) W (by rw [hWK]; simp [wordsB])
    rwa [show hearV (WK) = .tuple #[ansV 0 0 [], .int .i64 4] from by rw [hWK]; kernel_rfl] at this
  have HearL : Hid (∀ W, Calls Try.prog 15 #[sv (WL)] W fun r w' => r = .returned (.tuple #[ansV 0 0 [], .int .i64 4]) ∧ Below W.heap.size W w') := Lib.hid fun W => by
    have := hear_any (WL) W (by rw [hWL]; simp [wordsB])
    rwa [show hearV (WL) = .tuple #[ansV 0 0 [], .int .i64 4] from by rw [hWL]; kernel_rfl] at this
  have HearM : Hid (∀ W, Calls Try.prog 15 #[sv (WM)] W fun r w' => r = .returned (.tuple #[ansV 0 0 [], .int .i64 4]) ∧ Below W.heap.size W w') := Lib.hid fun W => by
    have := hear_any (WM) W (by rw [hWM]; simp [wordsB])
    rwa [show hearV (WM) = .tuple #[ansV 0 0 [], .int .i64 4] from by rw [hWM]; kernel_rfl] at this
  have HearN : Hid (∀ W, Calls Try.prog 15 #[sv (WN ++ [97])] W fun r w' => r = .returned (.tuple #[ansV 0 0 [], .int .i64 4]) ∧ Below W.heap.size W w') := Lib.hid fun W => by
    have := hear_any (WN ++ [97]) W (by rw [hWN]; simp [wordsB])
    rwa [show hearV (WN ++ [97]) = .tuple #[ansV 0 0 [], .int .i64 4] from by rw [hWN]; kernel_rfl] at this
  have TellA : Hid (∀ W, Calls Try.prog 11 #[ansV 0 1 ([])] W fun r w' => r = .returned (.tuple #[sv [], .int .i64 1]) ∧ Below W.heap.size W w') := Lib.hid fun W => by
    have := tell_any 0 1 ([]) W (by simp)
    rwa [show tellS 0 1 ([]) = [] from by kernel_rfl, show tellE 0 1 ([]) = 1 from by kernel_rfl] at this
  have TellB : Hid (∀ W, Calls Try.prog 11 #[ansV 0 4 (zeros 4)] W fun r w' => r = .returned (.tuple #[sv [], .int .i64 1]) ∧ Below W.heap.size W w') := Lib.hid fun W => by
    have := tell_any 0 4 (zeros 4) W (by simp)
    rwa [show tellS 0 4 (zeros 4) = [] from by kernel_rfl, show tellE 0 4 (zeros 4) = 1 from by kernel_rfl] at this
  have TellC : Hid (∀ W, Calls Try.prog 11 #[ansV 0 0 (zeros 3)] W fun r w' => r = .returned (.tuple #[sv [], .int .i64 1]) ∧ Below W.heap.size W w') := Lib.hid fun W => by
    have := tell_any 0 0 (zeros 3) W (by simp)
    rwa [show tellS 0 0 (zeros 3) = [] from by kernel_rfl, show tellE 0 0 (zeros 3) = 1 from by kernel_rfl] at this
  have TellD : Hid (∀ W, Calls Try.prog 11 #[ansV 4294967296 0 ([])] W fun r w' => r = .returned (.tuple #[sv [], .int .i64 1]) ∧ Below W.heap.size W w') := Lib.hid fun W => by
    have := tell_any 4294967296 0 ([]) W (by simp)
    rwa [show tellS 4294967296 0 ([]) = [] from by kernel_rfl, show tellE 4294967296 0 ([]) = 1 from by kernel_rfl] at this
  have MF : Hid (∀ W, Calls Try.prog 19 #[.int .i64 4] W fun r w' => r = .returned (sv (zeros 4)) ∧ Below W.heap.size W w') := Lib.hid fun W => many_any 4 W (by omega)
  have MG : Hid (∀ W, Calls Try.prog 19 #[.int .i64 3] W fun r w' => r = .returned (sv (zeros 3)) ∧ Below W.heap.size W w') := Lib.hid fun W => many_any 3 W (by omega)
  have lE : (zeros 8).length = 8 := zeros_length _
  generalize zeros 8 = ZE at *
  generalize zeros 4 = ZF at *
  generalize zeros 3 = ZG at *
  have GE := Lib.hid ME
  have LG := Lib.hid (And.intro lWG (And.intro lWH (And.intro lWN lE)))
  clear ME lE
  have lD : (zeros 2).length = 2 := zeros_length _
  generalize zeros 2 = ZD at *
  have GD := Lib.hid MD
  have LD := Lib.hid lD
  clear MD lD
  have RD := Lib.hid (And.intro rA (And.intro rB (And.intro rC (And.intro rD (And.intro rE (And.intro rF (And.intro rG (And.intro rH rI))))))))
  have LW := Lib.hid (And.intro lWA (And.intro lWB (And.intro lWC (And.intro lWD (And.intro lWE lWF)))))
  clear rA rB rC rD rE rF rG rH rI hWA lWA hWB lWB hWC lWC hWD lWD hWE lWE hWF lWF hWG lWG hWH lWH hWI lWI hWJ lWJ hWK lWK hWL lWL hWM lWM hWN lWN hWO lWO
  have GA := Lib.hid MA
  have GB := Lib.hid MB
  have GC := Lib.hid MC
  have LA := Lib.hid lA
  have LB := Lib.hid lB
  have LC := Lib.hid lC
  clear MA MB MC lA lB lC
  go_enter Try.func7, Try.ntmps7
  go_wp2_with fail
  refine (works_any _).mono ?_; rintro e w1 ⟨rfl, hw1⟩
  have b1 : Below w.heap.size w w1 := chain (by repeat' (first | (with_reducible exact Below.refl _ _) | (with_reducible assumption) | (with_reducible refine below_drewN ?_ _) | (with_reducible refine Below.alloc ?_ ?_ _) | (with_reducible refine Below.drew ?_) | (with_reducible refine Below.setCell ?_ ?_ _) | go_size)) hw1
  have s1 := b1.size
  go_wp2_with fail
  refine (GA.out _).mono ?_; rintro e w2 ⟨rfl, hw2⟩
  have b2 : Below w.heap.size w w2 := chain (by repeat' (first | (with_reducible exact Below.refl _ _) | (with_reducible assumption) | (with_reducible refine below_drewN ?_ _) | (with_reducible refine Below.alloc ?_ ?_ _) | (with_reducible refine Below.drew ?_) | (with_reducible refine Below.setCell ?_ ?_ _) | go_size)) hw2
  have s2 := b2.size
  go_wp2_with fail
  refine (GB.out _).mono ?_; rintro e w3 ⟨rfl, hw3⟩
  have b3 : Below w.heap.size w w3 := chain (by repeat' (first | (with_reducible exact Below.refl _ _) | (with_reducible assumption) | (with_reducible refine below_drewN ?_ _) | (with_reducible refine Below.alloc ?_ ?_ _) | (with_reducible refine Below.drew ?_) | (with_reducible refine Below.setCell ?_ ?_ _) | go_size)) hw3
  have s3 := b3.size
  go_wp2_with fail
  refine (GC.out _).mono ?_; rintro e w4 ⟨rfl, hw4⟩
  have b4 : Below w.heap.size w w4 := chain (by repeat' (first | (with_reducible exact Below.refl _ _) | (with_reducible assumption) | (with_reducible refine below_drewN ?_ _) | (with_reducible refine Below.alloc ?_ ?_ _) | (with_reducible refine Below.drew ?_) | (with_reducible refine Below.setCell ?_ ?_ _) | go_size)) hw4
  have s4 := b4.size
  go_wp2_with fail
  obtain ⟨X, hX⟩ : ∃ X : World, X = w4.alloc (.cells #[.int .i64 16, .int .i64 4294967295, .int .i64 4294967295, sv ZA, .int .i64 0, .int .i64 1, .int .i64 0, .int .i64 0, sv ZB, .int .i64 40, .int .i64 1, .int .i64 0, .int .i64 0, sv ZC, .int .i64 1, .int .i64 0, .int .i64 0, .int .i64 0, .string ⟨#[]⟩, .int .i64 1, .int .i64 17, .int .i64 0, .int .i64 0, .string ⟨#[]⟩, .int .i64 1, .int .i64 1, .int .i64 (-1), .int .i64 0, .string ⟨#[]⟩, .int .i64 1, .int .i64 1, .int .i64 4294967296, .int .i64 0, .string ⟨#[]⟩, .int .i64 1, .int .i64 1, .int .i64 0, .int .i64 (-1), .string ⟨#[]⟩, .int .i64 1, .int .i64 1, .int .i64 0, .int .i64 4294967296, .string ⟨#[]⟩, .int .i64 1] 52) := ⟨_, rfl⟩
  have hc : ∀ k v, (#[.int .i64 16, .int .i64 4294967295, .int .i64 4294967295, sv ZA, .int .i64 0, .int .i64 1, .int .i64 0, .int .i64 0, sv ZB, .int .i64 40, .int .i64 1, .int .i64 0, .int .i64 0, sv ZC, .int .i64 1, .int .i64 0, .int .i64 0, .int .i64 0, .string ⟨#[]⟩, .int .i64 1, .int .i64 17, .int .i64 0, .int .i64 0, .string ⟨#[]⟩, .int .i64 1, .int .i64 1, .int .i64 (-1), .int .i64 0, .string ⟨#[]⟩, .int .i64 1, .int .i64 1, .int .i64 4294967296, .int .i64 0, .string ⟨#[]⟩, .int .i64 1, .int .i64 1, .int .i64 0, .int .i64 (-1), .string ⟨#[]⟩, .int .i64 1, .int .i64 1, .int .i64 0, .int .i64 4294967296, .string ⟨#[]⟩, .int .i64 1] : Array Value)[k]? = some v → X.cell? ⟨w4.heap.size, k, none⟩ = some v := fun k v hv => by
    rw [hX, cell_of_row _ _ k _ _ _ (heap_alloc_new w4 _)]
    exact hv
  have lx : w4.heap.size < X.heap.size := by rw [hX]; simp
  have bX : Below w.heap.size w X := by rw [hX]; exact b4.alloc s4 _
  have rw9 : ∀ j, j < 9 → RowW X w4.heap.size j := by
    intro j hj
    have la := LA.out
    have lb := LB.out
    have lc := LC.out
    rcases (by omega : j = 0 ∨ j = 1 ∨ j = 2 ∨ j = 3 ∨ j = 4 ∨ j = 5 ∨ j = 6 ∨ j = 7 ∨ j = 8) with rfl | rfl | rfl | rfl | rfl | rfl | rfl | rfl | rfl
    · exact ⟨⟨16, 4294967295, 4294967295, ZA, 0, hc 0 _ rfl, hc 1 _ rfl, hc 2 _ rfl, hc 3 _ rfl, hc 4 _ rfl, by unfold callE isC isW; simp [la], by omega, fun _ => by rw [(callE_ok (by unfold callE isC isW; simp [la])).2.2.2.2.2, callB_len]⟩⟩
    · exact ⟨⟨1, 0, 0, ZB, 40, hc 5 _ rfl, hc 6 _ rfl, hc 7 _ rfl, hc 8 _ rfl, hc 9 _ rfl, by unfold callE isC isW; simp [lb], by omega, fun h => absurd h (by decide)⟩⟩
    · exact ⟨⟨1, 0, 0, ZC, 1, hc 10 _ rfl, hc 11 _ rfl, hc 12 _ rfl, hc 13 _ rfl, hc 14 _ rfl, by unfold callE isC isW; simp [lc], by omega, fun h => absurd h (by decide)⟩⟩
    · exact ⟨⟨0, 0, 0, [], 1, hc 15 _ rfl, hc 16 _ rfl, hc 17 _ rfl, hc 18 _ rfl, hc 19 _ rfl, by unfold callE isC isW; simp, by simp, fun h => absurd h (by decide)⟩⟩
    · exact ⟨⟨17, 0, 0, [], 1, hc 20 _ rfl, hc 21 _ rfl, hc 22 _ rfl, hc 23 _ rfl, hc 24 _ rfl, by unfold callE isC isW; simp, by simp, fun h => absurd h (by decide)⟩⟩
    · exact ⟨⟨1, (-1), 0, [], 1, hc 25 _ rfl, hc 26 _ rfl, hc 27 _ rfl, hc 28 _ rfl, hc 29 _ rfl, by unfold callE isC isW; simp, by simp, fun h => absurd h (by decide)⟩⟩
    · exact ⟨⟨1, 4294967296, 0, [], 1, hc 30 _ rfl, hc 31 _ rfl, hc 32 _ rfl, hc 33 _ rfl, hc 34 _ rfl, by unfold callE isC isW; simp, by simp, fun h => absurd h (by decide)⟩⟩
    · exact ⟨⟨1, 0, (-1), [], 1, hc 35 _ rfl, hc 36 _ rfl, hc 37 _ rfl, hc 38 _ rfl, hc 39 _ rfl, by unfold callE isC isW; simp, by simp, fun h => absurd h (by decide)⟩⟩
    · exact ⟨⟨1, 0, 4294967296, [], 1, hc 40 _ rfl, hc 41 _ rfl, hc 42 _ rfl, hc 43 _ rfl, hc 44 _ rfl, by unfold callE isC isW; simp, by simp, fun h => absurd h (by decide)⟩⟩
  have HR := Lib.hid rw9
  rw [← hX]
  clear hX hc rw9
  go_loopw [78] (fun i W => ∃ q : Nat, q ≤ 9 ∧ i = .int .i64 q ∧ Below X.heap.size X W) (fun i _ => 9 - (intOf i).toNat)
  case atStart => exact ⟨0, by omega, rfl, Below.refl _ _⟩
  case round =>
    obtain ⟨q, hq, rfl, hbr⟩ := hrel
    have bwr : Below w.heap.size w wr := chain bX hbr
    have swr := bwr.size
    by_cases hlt : q < 9
    · have hq1 : (q : Int) < 9 := by omega
      obtain ⟨c, x, p, l, e, c0, c1, c2, c3, c4, hE, hl, hS⟩ := (HR.out q hlt).ex
      have c0 := (hbr.cell (p := ⟨w4.heap.size, q * 5, none⟩) lx).trans c0
      have c1 := (hbr.cell (p := ⟨w4.heap.size, q * 5 + 1, none⟩) lx).trans c1
      have c2 := (hbr.cell (p := ⟨w4.heap.size, q * 5 + 2, none⟩) lx).trans c2
      have c3 := (hbr.cell (p := ⟨w4.heap.size, q * 5 + 3, none⟩) lx).trans c3
      have c4 := (hbr.cell (p := ⟨w4.heap.size, q * 5 + 4, none⟩) lx).trans c4
      have CW := fun W : World => cWrite_any c x p l W (by omega)
      rw [hE] at CW
      generalize callS c x p l = S at *
      have GW := Lib.hid CW
      have HS := Lib.hid hS
      clear CW hE hS
      go_wp2_with fail
      refine (GW.out _).mono ?_; rintro r wg ⟨rfl, hwg⟩
      have bg : Below X.heap.size X wg := chain (hbr.alloc hbr.size _) hwg
      have d3 : wg.cell? ⟨wr.heap.size, 3, none⟩ = some (sv l) := (hwg.cell (p := ⟨wr.heap.size, 3, none⟩) (by simp)).trans (by simp)
      have d4 : wg.cell? ⟨wr.heap.size, 4, none⟩ = some (.int .i64 e) := (hwg.cell (p := ⟨wr.heap.size, 4, none⟩) (by simp)).trans (by simp)
      have hne : (e != e) = false := by simp
      clear c0 c1 c2 c3 c4
      by_cases he : e = 0
      · subst he
        have hs := HS.out rfl
        have hln : ((S.length : Int) != 24 + (l.length : Int)) = false := by rw [bne_eq_false_iff_eq]; omega
        clear hs
        go_wp2_with fail
        go_roundw
        case rel => exact ⟨q + 1, by omega, by go_num, bg⟩
        case measure => simp [intOf]; omega
      · have he' : (e == 0) = false := by rw [beq_eq_false_iff_ne]; exact he
        clear he
        go_wp2_with fail
        go_roundw
        case rel => exact ⟨q + 1, by omega, by go_num, bg⟩
        case measure => simp [intOf]; omega
    · obtain rfl : q = 9 := by omega
      go_wp2_with fail
      refine (GWA.out _ _ (IntsV.lit _ _ _ _ _ rfl rfl)).mono ?_; rintro r w5 ⟨rfl, hw5⟩
      have b5 : Below w.heap.size w w5 := chain (by repeat' (first | (with_reducible exact Below.refl _ _) | (with_reducible assumption) | (with_reducible refine below_drewN ?_ _) | (with_reducible refine Below.alloc ?_ ?_ _) | (with_reducible refine Below.drew ?_) | (with_reducible refine Below.setCell ?_ ?_ _) | go_size)) hw5
      have s5 := b5.size
      obtain ⟨l1, l2, l3, l4, l5, l6⟩ := LW.out
      have la := LA.out
      have lb := LB.out
      have ld := LD.out
      have n1 : WA.length + ZA.length ≤ 9223372036854775807 := by omega
      have n2 : WA.length + ZB.length ≤ 9223372036854775807 := by omega
      have n3 : WA.length + ZD.length ≤ 9223372036854775807 := by omega
      clear l1 l2 l3 l4 l5 l6 la lb ld
      go_wp2_with fail
      refine (GA.out _).mono ?_; rintro e w6 ⟨rfl, hw6⟩
      have b6 : Below w.heap.size w w6 := chain (by repeat' (first | (with_reducible exact Below.refl _ _) | (with_reducible assumption) | (with_reducible refine below_drewN ?_ _) | (with_reducible refine Below.alloc ?_ ?_ _) | (with_reducible refine Below.drew ?_) | (with_reducible refine Below.setCell ?_ ?_ _) | go_size)) hw6
      have s6 := b6.size
      go_wp2_with fail
      refine (GWA.out _ _ (IntsV.lit _ _ _ _ _ rfl rfl)).mono ?_; rintro e w7 ⟨rfl, hw7⟩
      have b7 : Below w.heap.size w w7 := chain (by repeat' (first | (with_reducible exact Below.refl _ _) | (with_reducible assumption) | (with_reducible refine below_drewN ?_ _) | (with_reducible refine Below.alloc ?_ ?_ _) | (with_reducible refine Below.drew ?_) | (with_reducible refine Below.setCell ?_ ?_ _) | go_size)) hw7
      have s7 := b7.size
      go_wp2_with fail
      refine (GB.out _).mono ?_; rintro e w8 ⟨rfl, hw8⟩
      have b8 : Below w.heap.size w w8 := chain (by repeat' (first | (with_reducible exact Below.refl _ _) | (with_reducible assumption) | (with_reducible refine below_drewN ?_ _) | (with_reducible refine Below.alloc ?_ ?_ _) | (with_reducible refine Below.drew ?_) | (with_reducible refine Below.setCell ?_ ?_ _) | go_size)) hw8
      have s8 := b8.size
      go_wp2_with fail
      refine (GWA.out _ _ (IntsV.lit _ _ _ _ _ rfl rfl)).mono ?_; rintro e w9 ⟨rfl, hw9⟩
      have b9 : Below w.heap.size w w9 := chain (by repeat' (first | (with_reducible exact Below.refl _ _) | (with_reducible assumption) | (with_reducible refine below_drewN ?_ _) | (with_reducible refine Below.alloc ?_ ?_ _) | (with_reducible refine Below.drew ?_) | (with_reducible refine Below.setCell ?_ ?_ _) | go_size)) hw9
      have s9 := b9.size
      go_wp2_with fail
      refine (GD.out _).mono ?_; rintro e w10 ⟨rfl, hw10⟩
      have b10 : Below w.heap.size w w10 := chain (by repeat' (first | (with_reducible exact Below.refl _ _) | (with_reducible assumption) | (with_reducible refine below_drewN ?_ _) | (with_reducible refine Below.alloc ?_ ?_ _) | (with_reducible refine Below.drew ?_) | (with_reducible refine Below.setCell ?_ ?_ _) | go_size)) hw10
      have s10 := b10.size
      go_wp2_with fail
      refine (GWB.out _ _ (IntsV.lit _ _ _ _ _ rfl rfl)).mono ?_; rintro e w11 ⟨rfl, hw11⟩
      have b11 : Below w.heap.size w w11 := chain (by repeat' (first | (with_reducible exact Below.refl _ _) | (with_reducible assumption) | (with_reducible refine below_drewN ?_ _) | (with_reducible refine Below.alloc ?_ ?_ _) | (with_reducible refine Below.drew ?_) | (with_reducible refine Below.setCell ?_ ?_ _) | go_size)) hw11
      have s11 := b11.size
      go_wp2_with fail
      refine (GWC.out _ _ (IntsV.lit _ _ _ _ _ rfl rfl)).mono ?_; rintro e w12 ⟨rfl, hw12⟩
      have b12 : Below w.heap.size w w12 := chain (by repeat' (first | (with_reducible exact Below.refl _ _) | (with_reducible assumption) | (with_reducible refine below_drewN ?_ _) | (with_reducible refine Below.alloc ?_ ?_ _) | (with_reducible refine Below.drew ?_) | (with_reducible refine Below.setCell ?_ ?_ _) | go_size)) hw12
      have s12 := b12.size
      go_wp2_with fail
      refine (GWD.out _ _ (IntsV.lit _ _ _ _ _ rfl rfl)).mono ?_; rintro e w13 ⟨rfl, hw13⟩
      have b13 : Below w.heap.size w w13 := chain (by repeat' (first | (with_reducible exact Below.refl _ _) | (with_reducible assumption) | (with_reducible refine below_drewN ?_ _) | (with_reducible refine Below.alloc ?_ ?_ _) | (with_reducible refine Below.drew ?_) | (with_reducible refine Below.setCell ?_ ?_ _) | go_size)) hw13
      have s13 := b13.size
      go_wp2_with fail
      refine (GWE.out _ _ (IntsV.lit _ _ _ _ _ rfl rfl)).mono ?_; rintro e w14 ⟨rfl, hw14⟩
      have b14 : Below w.heap.size w w14 := chain (by repeat' (first | (with_reducible exact Below.refl _ _) | (with_reducible assumption) | (with_reducible refine below_drewN ?_ _) | (with_reducible refine Below.alloc ?_ ?_ _) | (with_reducible refine Below.drew ?_) | (with_reducible refine Below.setCell ?_ ?_ _) | go_size)) hw14
      have s14 := b14.size
      go_wp2_with fail
      refine (GWF.out _ _ (IntsV.lit _ _ _ _ _ rfl rfl)).mono ?_; rintro e w15 ⟨rfl, hw15⟩
      have b15 : Below w.heap.size w w15 := chain (by repeat' (first | (with_reducible exact Below.refl _ _) | (with_reducible assumption) | (with_reducible refine below_drewN ?_ _) | (with_reducible refine Below.alloc ?_ ?_ _) | (with_reducible refine Below.drew ?_) | (with_reducible refine Below.setCell ?_ ?_ _) | go_size)) hw15
      have s15 := b15.size
      go_wp2_with fail
      obtain ⟨X2, hX2⟩ : ∃ X2 : World, X2 = w15.alloc (.cells #[.string ⟨(WA ++ ZA).toArray⟩, .int .i64 0, .string ⟨(WA ++ ZB).toArray⟩, .int .i64 4, .string ⟨(WA ++ ZD).toArray⟩, .int .i64 4, sv WB, .int .i64 4, .string ⟨#[]⟩, .int .i64 4, sv WC, .int .i64 4, sv WD, .int .i64 4, sv WE, .int .i64 63, sv WF, .int .i64 62] 54) := ⟨_, rfl⟩
      have hc : ∀ k v, (#[.string ⟨(WA ++ ZA).toArray⟩, .int .i64 0, .string ⟨(WA ++ ZB).toArray⟩, .int .i64 4, .string ⟨(WA ++ ZD).toArray⟩, .int .i64 4, sv WB, .int .i64 4, .string ⟨#[]⟩, .int .i64 4, sv WC, .int .i64 4, sv WD, .int .i64 4, sv WE, .int .i64 63, sv WF, .int .i64 62] : Array Value)[k]? = some v → X2.cell? ⟨w15.heap.size, k, none⟩ = some v := fun k v hv => by
        rw [hX2, cell_of_row _ _ k _ _ _ (heap_alloc_new w15 _)]
        exact hv
      have lx2 : w15.heap.size < X2.heap.size := by rw [hX2]; simp
      have bX2 : Below w.heap.size w X2 := by rw [hX2]; exact b15.alloc s15 _
      have rr9 : ∀ j, j < 9 → RowR X2 w15.heap.size j := by
        intro j hj
        obtain ⟨r1, r2, r3, r4, r5, r6, r7, r8, r9⟩ := RD.out
        obtain ⟨l1, l2, l3, l4, l5, l6⟩ := LW.out
        have la := LA.out
        have lb := LB.out
        have ld := LD.out
        rcases (by omega : j = 0 ∨ j = 1 ∨ j = 2 ∨ j = 3 ∨ j = 4 ∨ j = 5 ∨ j = 6 ∨ j = 7 ∨ j = 8) with rfl | rfl | rfl | rfl | rfl | rfl | rfl | rfl | rfl
        · exact ⟨⟨WA ++ ZA, 0, hc 0 _ rfl, hc 1 _ rfl, r1, by simp; omega⟩⟩
        · exact ⟨⟨WA ++ ZB, 4, hc 2 _ rfl, hc 3 _ rfl, r2, by simp; omega⟩⟩
        · exact ⟨⟨WA ++ ZD, 4, hc 4 _ rfl, hc 5 _ rfl, r3, by simp; omega⟩⟩
        · exact ⟨⟨WB, 4, hc 6 _ rfl, hc 7 _ rfl, r4, by omega⟩⟩
        · exact ⟨⟨[], 4, hc 8 _ rfl, hc 9 _ rfl, r5, by simp⟩⟩
        · exact ⟨⟨WC, 4, hc 10 _ rfl, hc 11 _ rfl, r6, by omega⟩⟩
        · exact ⟨⟨WD, 4, hc 12 _ rfl, hc 13 _ rfl, r7, by omega⟩⟩
        · exact ⟨⟨WE, 63, hc 14 _ rfl, hc 15 _ rfl, r8, by omega⟩⟩
        · exact ⟨⟨WF, 62, hc 16 _ rfl, hc 17 _ rfl, r9, by omega⟩⟩
      have HR2 := Lib.hid rr9
      rw [← hX2]
      clear hX2 hc rr9 n1 n2 n3
      obtain ⟨wo, rfl⟩ : ∃ wo : World, wo = wr := ⟨_, rfl⟩
      go_loopw [140] (fun i W => ∃ q : Nat, q ≤ 9 ∧ i = .int .i64 q ∧ Below X2.heap.size X2 W) (fun i _ => 9 - (intOf i).toNat)
      case atStart => exact ⟨0, by omega, rfl, Below.refl _ _⟩
      case round =>
        obtain ⟨q, hq, rfl, hbr2⟩ := hrel
        have bwr2 : Below w.heap.size w wr := chain bX2 hbr2
        have swr2 := bwr2.size
        by_cases hlt : q < 9
        · have hq1 : (q : Int) < 9 := by omega
          obtain ⟨s, e, c0, c1, hE, hl⟩ := (HR2.out q hlt).ex
          have c0 := (hbr2.cell (p := ⟨w15.heap.size, q * 2, none⟩) lx2).trans c0
          have c1 := (hbr2.cell (p := ⟨w15.heap.size, q * 2 + 1, none⟩) lx2).trans c1
          have CR : ∀ W : World, Calls Try.prog 13 #[sv s] W fun r w' => r = .returned (.tuple #[headV (readC s) (readX s) (readP s) (readB s), .int .i64 e]) ∧ Below W.heap.size W w' := fun W => by
            have := read_any s W (by omega)
            rwa [show readV s = .tuple #[headV (readC s) (readX s) (readP s) (readB s), .int .i64 e] from by rw [← hE]] at this
          generalize readC s = y1 at *
          generalize readX s = y2 at *
          generalize readP s = y3 at *
          generalize readB s = y4 at *
          have GR := Lib.hid CR
          clear CR hE
          go_wp2_with fail
          refine (GR.out _).mono ?_; rintro r wg ⟨rfl, hwg⟩
          have bg : Below X2.heap.size X2 wg := chain (hbr2.alloc hbr2.size _) hwg
          have d1 : wg.cell? ⟨wr.heap.size, 1, none⟩ = some (.int .i64 e) := (hwg.cell (p := ⟨wr.heap.size, 1, none⟩) (by simp)).trans (by simp)
          have dl : wr.heap.size < wg.heap.size := by have := hwg.size; simp at this; omega
          have hne : (e != e) = false := by simp
          clear c0 c1
          go_wp2_with fail
          go_roundw
          case rel => exact ⟨q + 1, by omega, by go_num, bg.alloc bg.size _⟩
          case measure => simp [intOf]; omega
        · obtain rfl : q = 9 := by omega
          go_wp2_with fail
          refine (GWG.out _ _ (IntsV.lit _ _ _ _ _ rfl rfl)).mono ?_; rintro r w20 ⟨rfl, hw20⟩
          have b20 : Below w.heap.size w w20 := chain (by repeat' (first | (with_reducible exact Below.refl _ _) | (with_reducible assumption) | (with_reducible refine below_drewN ?_ _) | (with_reducible refine Below.alloc ?_ ?_ _) | (with_reducible refine Below.drew ?_) | (with_reducible refine Below.setCell ?_ ?_ _) | go_size)) hw20
          have s20 := b20.size
          obtain ⟨g1, g2, g3, g4⟩ := LG.out
          have n1 : WG.length + ZE.length ≤ 9223372036854775807 := by omega
          have n2 : WH.length + ZE.length ≤ 9223372036854775807 := by omega
          have n3 : WN.length + 1 ≤ 9223372036854775807 := by omega
          clear g1 g2 g3 g4
          go_wp2_with fail
          refine (GE.out _).mono ?_; rintro e w21 ⟨rfl, hw21⟩
          have b21 : Below w.heap.size w w21 := chain (by repeat' (first | (with_reducible exact Below.refl _ _) | (with_reducible assumption) | (with_reducible refine below_drewN ?_ _) | (with_reducible refine Below.alloc ?_ ?_ _) | (with_reducible refine Below.drew ?_) | (with_reducible refine Below.setCell ?_ ?_ _) | go_size)) hw21
          have s21 := b21.size
          go_wp2_with fail
          refine (ReadRG.out _).mono ?_; rintro e w22 ⟨rfl, hw22⟩
          have b22 : Below w.heap.size w w22 := chain (by repeat' (first | (with_reducible exact Below.refl _ _) | (with_reducible assumption) | (with_reducible refine below_drewN ?_ _) | (with_reducible refine Below.alloc ?_ ?_ _) | (with_reducible refine Below.drew ?_) | (with_reducible refine Below.setCell ?_ ?_ _) | go_size)) hw22
          have s22 := b22.size
          have D9 : BoxD (w22.alloc (.cells #[.int .i64 4, .int .i64 9, .int .i64 99, .string ⟨#[]⟩] 29)) w22.heap.size 4 9 99 [] := BoxD.new w22 4 9 99 [] 29
          go_wp2_with fail
          refine (GWH.out _ _ (IntsV.lit _ _ _ _ _ rfl (by first | with_reducible rfl | simp))).mono ?_; rintro e w23 ⟨rfl, hw23⟩
          have b23 : Below w.heap.size w w23 := chain (by repeat' (first | (with_reducible exact Below.refl _ _) | (with_reducible assumption) | (with_reducible refine below_drewN ?_ _) | (with_reducible refine Below.alloc ?_ ?_ _) | (with_reducible refine Below.drew ?_) | (with_reducible refine Below.setCell ?_ ?_ _) | go_size)) hw23
          have s23 := b23.size
          have D9 := D9.step (by repeat' (first | (with_reducible exact Below.refl _ _) | (with_reducible assumption) | (with_reducible refine below_drewN ?_ _) | (with_reducible refine Below.alloc ?_ ?_ _) | (with_reducible refine Below.drew ?_) | (with_reducible refine Below.setCell ?_ ?_ _) | go_size)) hw23
          go_wp2_with fail
          refine (GE.out _).mono ?_; rintro e w24 ⟨rfl, hw24⟩
          have b24 : Below w.heap.size w w24 := chain (by repeat' (first | (with_reducible exact Below.refl _ _) | (with_reducible assumption) | (with_reducible refine below_drewN ?_ _) | (with_reducible refine Below.alloc ?_ ?_ _) | (with_reducible refine Below.drew ?_) | (with_reducible refine Below.setCell ?_ ?_ _) | go_size)) hw24
          have s24 := b24.size
          have D9 := D9.step (by repeat' (first | (with_reducible exact Below.refl _ _) | (with_reducible assumption) | (with_reducible refine below_drewN ?_ _) | (with_reducible refine Below.alloc ?_ ?_ _) | (with_reducible refine Below.drew ?_) | (with_reducible refine Below.setCell ?_ ?_ _) | go_size)) hw24
          go_wp2_with fail
          refine (ReadRH.out _).mono ?_; rintro e w25 ⟨rfl, hw25⟩
          have b25 : Below w.heap.size w w25 := chain (by repeat' (first | (with_reducible exact Below.refl _ _) | (with_reducible assumption) | (with_reducible refine below_drewN ?_ _) | (with_reducible refine Below.alloc ?_ ?_ _) | (with_reducible refine Below.drew ?_) | (with_reducible refine Below.setCell ?_ ?_ _) | go_size)) hw25
          have s25 := b25.size
          have D9 := D9.step (by repeat' (first | (with_reducible exact Below.refl _ _) | (with_reducible assumption) | (with_reducible refine below_drewN ?_ _) | (with_reducible refine Below.alloc ?_ ?_ _) | (with_reducible refine Below.drew ?_) | (with_reducible refine Below.setCell ?_ ?_ _) | go_size)) hw25
          have D11 : BoxD (w25.alloc (.cells #[.int .i64 4, .int .i64 4294967295, .int .i64 99, .string ⟨#[]⟩] 29)) w25.heap.size 4 4294967295 99 [] := BoxD.new w25 4 4294967295 99 [] 29
          go_wp2_with fail
          refine (GWI.out _ _ (IntsV.lit _ _ _ _ _ rfl (by first | with_reducible rfl | simp))).mono ?_; rintro e w26 ⟨rfl, hw26⟩
          have b26 : Below w.heap.size w w26 := chain (by repeat' (first | (with_reducible exact Below.refl _ _) | (with_reducible assumption) | (with_reducible refine below_drewN ?_ _) | (with_reducible refine Below.alloc ?_ ?_ _) | (with_reducible refine Below.drew ?_) | (with_reducible refine Below.setCell ?_ ?_ _) | go_size)) hw26
          have s26 := b26.size
          have D9 := D9.step (by repeat' (first | (with_reducible exact Below.refl _ _) | (with_reducible assumption) | (with_reducible refine below_drewN ?_ _) | (with_reducible refine Below.alloc ?_ ?_ _) | (with_reducible refine Below.drew ?_) | (with_reducible refine Below.setCell ?_ ?_ _) | go_size)) hw26
          have D11 := D11.step (by repeat' (first | (with_reducible exact Below.refl _ _) | (with_reducible assumption) | (with_reducible refine below_drewN ?_ _) | (with_reducible refine Below.alloc ?_ ?_ _) | (with_reducible refine Below.drew ?_) | (with_reducible refine Below.setCell ?_ ?_ _) | go_size)) hw26
          go_wp2_with fail
          refine (HearI.out _).mono ?_; rintro e w27 ⟨rfl, hw27⟩
          have b27 : Below w.heap.size w w27 := chain (by repeat' (first | (with_reducible exact Below.refl _ _) | (with_reducible assumption) | (with_reducible refine below_drewN ?_ _) | (with_reducible refine Below.alloc ?_ ?_ _) | (with_reducible refine Below.drew ?_) | (with_reducible refine Below.setCell ?_ ?_ _) | go_size)) hw27
          have s27 := b27.size
          have D9 := D9.step (by repeat' (first | (with_reducible exact Below.refl _ _) | (with_reducible assumption) | (with_reducible refine below_drewN ?_ _) | (with_reducible refine Below.alloc ?_ ?_ _) | (with_reducible refine Below.drew ?_) | (with_reducible refine Below.setCell ?_ ?_ _) | go_size)) hw27
          have D11 := D11.step (by repeat' (first | (with_reducible exact Below.refl _ _) | (with_reducible assumption) | (with_reducible refine below_drewN ?_ _) | (with_reducible refine Below.alloc ?_ ?_ _) | (with_reducible refine Below.drew ?_) | (with_reducible refine Below.setCell ?_ ?_ _) | go_size)) hw27
          have A13 := BoxA.new w27 4294967295 0 WO 32 _ rfl
          go_wp2_with fail
          refine (GWJ.out _ _ (IntsV.lit _ _ _ _ _ rfl (by first | with_reducible rfl | simp))).mono ?_; rintro e w28 ⟨rfl, hw28⟩
          have b28 : Below w.heap.size w w28 := chain (by repeat' (first | (with_reducible exact Below.refl _ _) | (with_reducible assumption) | (with_reducible refine below_drewN ?_ _) | (with_reducible refine Below.alloc ?_ ?_ _) | (with_reducible refine Below.drew ?_) | (with_reducible refine Below.setCell ?_ ?_ _) | go_size)) hw28
          have s28 := b28.size
          have D9 := D9.step (by repeat' (first | (with_reducible exact Below.refl _ _) | (with_reducible assumption) | (with_reducible refine below_drewN ?_ _) | (with_reducible refine Below.alloc ?_ ?_ _) | (with_reducible refine Below.drew ?_) | (with_reducible refine Below.setCell ?_ ?_ _) | go_size)) hw28
          have D11 := D11.step (by repeat' (first | (with_reducible exact Below.refl _ _) | (with_reducible assumption) | (with_reducible refine below_drewN ?_ _) | (with_reducible refine Below.alloc ?_ ?_ _) | (with_reducible refine Below.drew ?_) | (with_reducible refine Below.setCell ?_ ?_ _) | go_size)) hw28
          have A13 := A13.step (by repeat' (first | (with_reducible exact Below.refl _ _) | (with_reducible assumption) | (with_reducible refine below_drewN ?_ _) | (with_reducible refine Below.alloc ?_ ?_ _) | (with_reducible refine Below.drew ?_) | (with_reducible refine Below.setCell ?_ ?_ _) | go_size)) hw28
          go_wp2_with fail
          refine (HearJ.out _).mono ?_; rintro e w29 ⟨rfl, hw29⟩
          have b29 : Below w.heap.size w w29 := chain (by repeat' (first | (with_reducible exact Below.refl _ _) | (with_reducible assumption) | (with_reducible refine below_drewN ?_ _) | (with_reducible refine Below.alloc ?_ ?_ _) | (with_reducible refine Below.drew ?_) | (with_reducible refine Below.setCell ?_ ?_ _) | go_size)) hw29
          have s29 := b29.size
          have D9 := D9.step (by repeat' (first | (with_reducible exact Below.refl _ _) | (with_reducible assumption) | (with_reducible refine below_drewN ?_ _) | (with_reducible refine Below.alloc ?_ ?_ _) | (with_reducible refine Below.drew ?_) | (with_reducible refine Below.setCell ?_ ?_ _) | go_size)) hw29
          have D11 := D11.step (by repeat' (first | (with_reducible exact Below.refl _ _) | (with_reducible assumption) | (with_reducible refine below_drewN ?_ _) | (with_reducible refine Below.alloc ?_ ?_ _) | (with_reducible refine Below.drew ?_) | (with_reducible refine Below.setCell ?_ ?_ _) | go_size)) hw29
          have A13 := A13.step (by repeat' (first | (with_reducible exact Below.refl _ _) | (with_reducible assumption) | (with_reducible refine below_drewN ?_ _) | (with_reducible refine Below.alloc ?_ ?_ _) | (with_reducible refine Below.drew ?_) | (with_reducible refine Below.setCell ?_ ?_ _) | go_size)) hw29
          go_wp2_with fail
          refine (GWK.out _ _ (IntsV.lit _ _ _ _ _ rfl (by first | with_reducible rfl | simp))).mono ?_; rintro e w30 ⟨rfl, hw30⟩
          have b30 : Below w.heap.size w w30 := chain (by repeat' (first | (with_reducible exact Below.refl _ _) | (with_reducible assumption) | (with_reducible refine below_drewN ?_ _) | (with_reducible refine Below.alloc ?_ ?_ _) | (with_reducible refine Below.drew ?_) | (with_reducible refine Below.setCell ?_ ?_ _) | go_size)) hw30
          have s30 := b30.size
          have D9 := D9.step (by repeat' (first | (with_reducible exact Below.refl _ _) | (with_reducible assumption) | (with_reducible refine below_drewN ?_ _) | (with_reducible refine Below.alloc ?_ ?_ _) | (with_reducible refine Below.drew ?_) | (with_reducible refine Below.setCell ?_ ?_ _) | go_size)) hw30
          have D11 := D11.step (by repeat' (first | (with_reducible exact Below.refl _ _) | (with_reducible assumption) | (with_reducible refine below_drewN ?_ _) | (with_reducible refine Below.alloc ?_ ?_ _) | (with_reducible refine Below.drew ?_) | (with_reducible refine Below.setCell ?_ ?_ _) | go_size)) hw30
          have A13 := A13.step (by repeat' (first | (with_reducible exact Below.refl _ _) | (with_reducible assumption) | (with_reducible refine below_drewN ?_ _) | (with_reducible refine Below.alloc ?_ ?_ _) | (with_reducible refine Below.drew ?_) | (with_reducible refine Below.setCell ?_ ?_ _) | go_size)) hw30
          go_wp2_with fail
          refine (HearK.out _).mono ?_; rintro e w31 ⟨rfl, hw31⟩
          have b31 : Below w.heap.size w w31 := chain (by repeat' (first | (with_reducible exact Below.refl _ _) | (with_reducible assumption) | (with_reducible refine below_drewN ?_ _) | (with_reducible refine Below.alloc ?_ ?_ _) | (with_reducible refine Below.drew ?_) | (with_reducible refine Below.setCell ?_ ?_ _) | go_size)) hw31
          have s31 := b31.size
          have D9 := D9.step (by repeat' (first | (with_reducible exact Below.refl _ _) | (with_reducible assumption) | (with_reducible refine below_drewN ?_ _) | (with_reducible refine Below.alloc ?_ ?_ _) | (with_reducible refine Below.drew ?_) | (with_reducible refine Below.setCell ?_ ?_ _) | go_size)) hw31
          have D11 := D11.step (by repeat' (first | (with_reducible exact Below.refl _ _) | (with_reducible assumption) | (with_reducible refine below_drewN ?_ _) | (with_reducible refine Below.alloc ?_ ?_ _) | (with_reducible refine Below.drew ?_) | (with_reducible refine Below.setCell ?_ ?_ _) | go_size)) hw31
          have A13 := A13.step (by repeat' (first | (with_reducible exact Below.refl _ _) | (with_reducible assumption) | (with_reducible refine below_drewN ?_ _) | (with_reducible refine Below.alloc ?_ ?_ _) | (with_reducible refine Below.drew ?_) | (with_reducible refine Below.setCell ?_ ?_ _) | go_size)) hw31
          go_wp2_with fail
          refine (GWL.out _ _ (IntsV.lit _ _ _ _ _ rfl (by first | with_reducible rfl | simp))).mono ?_; rintro e w32 ⟨rfl, hw32⟩
          have b32 : Below w.heap.size w w32 := chain (by repeat' (first | (with_reducible exact Below.refl _ _) | (with_reducible assumption) | (with_reducible refine below_drewN ?_ _) | (with_reducible refine Below.alloc ?_ ?_ _) | (with_reducible refine Below.drew ?_) | (with_reducible refine Below.setCell ?_ ?_ _) | go_size)) hw32
          have s32 := b32.size
          have D9 := D9.step (by repeat' (first | (with_reducible exact Below.refl _ _) | (with_reducible assumption) | (with_reducible refine below_drewN ?_ _) | (with_reducible refine Below.alloc ?_ ?_ _) | (with_reducible refine Below.drew ?_) | (with_reducible refine Below.setCell ?_ ?_ _) | go_size)) hw32
          have D11 := D11.step (by repeat' (first | (with_reducible exact Below.refl _ _) | (with_reducible assumption) | (with_reducible refine below_drewN ?_ _) | (with_reducible refine Below.alloc ?_ ?_ _) | (with_reducible refine Below.drew ?_) | (with_reducible refine Below.setCell ?_ ?_ _) | go_size)) hw32
          have A13 := A13.step (by repeat' (first | (with_reducible exact Below.refl _ _) | (with_reducible assumption) | (with_reducible refine below_drewN ?_ _) | (with_reducible refine Below.alloc ?_ ?_ _) | (with_reducible refine Below.drew ?_) | (with_reducible refine Below.setCell ?_ ?_ _) | go_size)) hw32
          go_wp2_with fail
          refine (HearL.out _).mono ?_; rintro e w33 ⟨rfl, hw33⟩
          have b33 : Below w.heap.size w w33 := chain (by repeat' (first | (with_reducible exact Below.refl _ _) | (with_reducible assumption) | (with_reducible refine below_drewN ?_ _) | (with_reducible refine Below.alloc ?_ ?_ _) | (with_reducible refine Below.drew ?_) | (with_reducible refine Below.setCell ?_ ?_ _) | go_size)) hw33
          have s33 := b33.size
          have D9 := D9.step (by repeat' (first | (with_reducible exact Below.refl _ _) | (with_reducible assumption) | (with_reducible refine below_drewN ?_ _) | (with_reducible refine Below.alloc ?_ ?_ _) | (with_reducible refine Below.drew ?_) | (with_reducible refine Below.setCell ?_ ?_ _) | go_size)) hw33
          have D11 := D11.step (by repeat' (first | (with_reducible exact Below.refl _ _) | (with_reducible assumption) | (with_reducible refine below_drewN ?_ _) | (with_reducible refine Below.alloc ?_ ?_ _) | (with_reducible refine Below.drew ?_) | (with_reducible refine Below.setCell ?_ ?_ _) | go_size)) hw33
          have A13 := A13.step (by repeat' (first | (with_reducible exact Below.refl _ _) | (with_reducible assumption) | (with_reducible refine below_drewN ?_ _) | (with_reducible refine Below.alloc ?_ ?_ _) | (with_reducible refine Below.drew ?_) | (with_reducible refine Below.setCell ?_ ?_ _) | go_size)) hw33
          go_wp2_with fail
          refine (GWM.out _ _ (IntsV.lit _ _ _ _ _ rfl (by first | with_reducible rfl | simp))).mono ?_; rintro e w34 ⟨rfl, hw34⟩
          have b34 : Below w.heap.size w w34 := chain (by repeat' (first | (with_reducible exact Below.refl _ _) | (with_reducible assumption) | (with_reducible refine below_drewN ?_ _) | (with_reducible refine Below.alloc ?_ ?_ _) | (with_reducible refine Below.drew ?_) | (with_reducible refine Below.setCell ?_ ?_ _) | go_size)) hw34
          have s34 := b34.size
          have D9 := D9.step (by repeat' (first | (with_reducible exact Below.refl _ _) | (with_reducible assumption) | (with_reducible refine below_drewN ?_ _) | (with_reducible refine Below.alloc ?_ ?_ _) | (with_reducible refine Below.drew ?_) | (with_reducible refine Below.setCell ?_ ?_ _) | go_size)) hw34
          have D11 := D11.step (by repeat' (first | (with_reducible exact Below.refl _ _) | (with_reducible assumption) | (with_reducible refine below_drewN ?_ _) | (with_reducible refine Below.alloc ?_ ?_ _) | (with_reducible refine Below.drew ?_) | (with_reducible refine Below.setCell ?_ ?_ _) | go_size)) hw34
          have A13 := A13.step (by repeat' (first | (with_reducible exact Below.refl _ _) | (with_reducible assumption) | (with_reducible refine below_drewN ?_ _) | (with_reducible refine Below.alloc ?_ ?_ _) | (with_reducible refine Below.drew ?_) | (with_reducible refine Below.setCell ?_ ?_ _) | go_size)) hw34
          go_wp2_with fail
          refine (HearM.out _).mono ?_; rintro e w35 ⟨rfl, hw35⟩
          have b35 : Below w.heap.size w w35 := chain (by repeat' (first | (with_reducible exact Below.refl _ _) | (with_reducible assumption) | (with_reducible refine below_drewN ?_ _) | (with_reducible refine Below.alloc ?_ ?_ _) | (with_reducible refine Below.drew ?_) | (with_reducible refine Below.setCell ?_ ?_ _) | go_size)) hw35
          have s35 := b35.size
          have D9 := D9.step (by repeat' (first | (with_reducible exact Below.refl _ _) | (with_reducible assumption) | (with_reducible refine below_drewN ?_ _) | (with_reducible refine Below.alloc ?_ ?_ _) | (with_reducible refine Below.drew ?_) | (with_reducible refine Below.setCell ?_ ?_ _) | go_size)) hw35
          have D11 := D11.step (by repeat' (first | (with_reducible exact Below.refl _ _) | (with_reducible assumption) | (with_reducible refine below_drewN ?_ _) | (with_reducible refine Below.alloc ?_ ?_ _) | (with_reducible refine Below.drew ?_) | (with_reducible refine Below.setCell ?_ ?_ _) | go_size)) hw35
          have A13 := A13.step (by repeat' (first | (with_reducible exact Below.refl _ _) | (with_reducible assumption) | (with_reducible refine below_drewN ?_ _) | (with_reducible refine Below.alloc ?_ ?_ _) | (with_reducible refine Below.drew ?_) | (with_reducible refine Below.setCell ?_ ?_ _) | go_size)) hw35
          go_wp2_with fail
          refine (GWN.out _ _ (IntsV.lit _ _ _ _ _ rfl (by first | with_reducible rfl | simp))).mono ?_; rintro e w36 ⟨rfl, hw36⟩
          have b36 : Below w.heap.size w w36 := chain (by repeat' (first | (with_reducible exact Below.refl _ _) | (with_reducible assumption) | (with_reducible refine below_drewN ?_ _) | (with_reducible refine Below.alloc ?_ ?_ _) | (with_reducible refine Below.drew ?_) | (with_reducible refine Below.setCell ?_ ?_ _) | go_size)) hw36
          have s36 := b36.size
          have D9 := D9.step (by repeat' (first | (with_reducible exact Below.refl _ _) | (with_reducible assumption) | (with_reducible refine below_drewN ?_ _) | (with_reducible refine Below.alloc ?_ ?_ _) | (with_reducible refine Below.drew ?_) | (with_reducible refine Below.setCell ?_ ?_ _) | go_size)) hw36
          have D11 := D11.step (by repeat' (first | (with_reducible exact Below.refl _ _) | (with_reducible assumption) | (with_reducible refine below_drewN ?_ _) | (with_reducible refine Below.alloc ?_ ?_ _) | (with_reducible refine Below.drew ?_) | (with_reducible refine Below.setCell ?_ ?_ _) | go_size)) hw36
          have A13 := A13.step (by repeat' (first | (with_reducible exact Below.refl _ _) | (with_reducible assumption) | (with_reducible refine below_drewN ?_ _) | (with_reducible refine Below.alloc ?_ ?_ _) | (with_reducible refine Below.drew ?_) | (with_reducible refine Below.setCell ?_ ?_ _) | go_size)) hw36
          go_wp2_with fail
          refine (HearN.out _).mono ?_; rintro e w37 ⟨rfl, hw37⟩
          have b37 : Below w.heap.size w w37 := chain (by repeat' (first | (with_reducible exact Below.refl _ _) | (with_reducible assumption) | (with_reducible refine below_drewN ?_ _) | (with_reducible refine Below.alloc ?_ ?_ _) | (with_reducible refine Below.drew ?_) | (with_reducible refine Below.setCell ?_ ?_ _) | go_size)) hw37
          have s37 := b37.size
          have D9 := D9.step (by repeat' (first | (with_reducible exact Below.refl _ _) | (with_reducible assumption) | (with_reducible refine below_drewN ?_ _) | (with_reducible refine Below.alloc ?_ ?_ _) | (with_reducible refine Below.drew ?_) | (with_reducible refine Below.setCell ?_ ?_ _) | go_size)) hw37
          have D11 := D11.step (by repeat' (first | (with_reducible exact Below.refl _ _) | (with_reducible assumption) | (with_reducible refine below_drewN ?_ _) | (with_reducible refine Below.alloc ?_ ?_ _) | (with_reducible refine Below.drew ?_) | (with_reducible refine Below.setCell ?_ ?_ _) | go_size)) hw37
          have A13 := A13.step (by repeat' (first | (with_reducible exact Below.refl _ _) | (with_reducible assumption) | (with_reducible refine below_drewN ?_ _) | (with_reducible refine Below.alloc ?_ ?_ _) | (with_reducible refine Below.drew ?_) | (with_reducible refine Below.setCell ?_ ?_ _) | go_size)) hw37
          go_wp2_with fail
          refine (TellA.out _).mono ?_; rintro e w38 ⟨rfl, hw38⟩
          have b38 : Below w.heap.size w w38 := chain (by repeat' (first | (with_reducible exact Below.refl _ _) | (with_reducible assumption) | (with_reducible refine below_drewN ?_ _) | (with_reducible refine Below.alloc ?_ ?_ _) | (with_reducible refine Below.drew ?_) | (with_reducible refine Below.setCell ?_ ?_ _) | go_size)) hw38
          have s38 := b38.size
          have D9 := D9.step (by repeat' (first | (with_reducible exact Below.refl _ _) | (with_reducible assumption) | (with_reducible refine below_drewN ?_ _) | (with_reducible refine Below.alloc ?_ ?_ _) | (with_reducible refine Below.drew ?_) | (with_reducible refine Below.setCell ?_ ?_ _) | go_size)) hw38
          have D11 := D11.step (by repeat' (first | (with_reducible exact Below.refl _ _) | (with_reducible assumption) | (with_reducible refine below_drewN ?_ _) | (with_reducible refine Below.alloc ?_ ?_ _) | (with_reducible refine Below.drew ?_) | (with_reducible refine Below.setCell ?_ ?_ _) | go_size)) hw38
          have A13 := A13.step (by repeat' (first | (with_reducible exact Below.refl _ _) | (with_reducible assumption) | (with_reducible refine below_drewN ?_ _) | (with_reducible refine Below.alloc ?_ ?_ _) | (with_reducible refine Below.drew ?_) | (with_reducible refine Below.setCell ?_ ?_ _) | go_size)) hw38
          go_wp2_with fail
          refine (MF.out _).mono ?_; rintro e w39 ⟨rfl, hw39⟩
          have b39 : Below w.heap.size w w39 := chain (by repeat' (first | (with_reducible exact Below.refl _ _) | (with_reducible assumption) | (with_reducible refine below_drewN ?_ _) | (with_reducible refine Below.alloc ?_ ?_ _) | (with_reducible refine Below.drew ?_) | (with_reducible refine Below.setCell ?_ ?_ _) | go_size)) hw39
          have s39 := b39.size
          have D9 := D9.step (by repeat' (first | (with_reducible exact Below.refl _ _) | (with_reducible assumption) | (with_reducible refine below_drewN ?_ _) | (with_reducible refine Below.alloc ?_ ?_ _) | (with_reducible refine Below.drew ?_) | (with_reducible refine Below.setCell ?_ ?_ _) | go_size)) hw39
          have D11 := D11.step (by repeat' (first | (with_reducible exact Below.refl _ _) | (with_reducible assumption) | (with_reducible refine below_drewN ?_ _) | (with_reducible refine Below.alloc ?_ ?_ _) | (with_reducible refine Below.drew ?_) | (with_reducible refine Below.setCell ?_ ?_ _) | go_size)) hw39
          have A13 := A13.step (by repeat' (first | (with_reducible exact Below.refl _ _) | (with_reducible assumption) | (with_reducible refine below_drewN ?_ _) | (with_reducible refine Below.alloc ?_ ?_ _) | (with_reducible refine Below.drew ?_) | (with_reducible refine Below.setCell ?_ ?_ _) | go_size)) hw39
          go_wp2_with fail
          refine (TellB.out _).mono ?_; rintro e w40 ⟨rfl, hw40⟩
          have b40 : Below w.heap.size w w40 := chain (by repeat' (first | (with_reducible exact Below.refl _ _) | (with_reducible assumption) | (with_reducible refine below_drewN ?_ _) | (with_reducible refine Below.alloc ?_ ?_ _) | (with_reducible refine Below.drew ?_) | (with_reducible refine Below.setCell ?_ ?_ _) | go_size)) hw40
          have s40 := b40.size
          have D9 := D9.step (by repeat' (first | (with_reducible exact Below.refl _ _) | (with_reducible assumption) | (with_reducible refine below_drewN ?_ _) | (with_reducible refine Below.alloc ?_ ?_ _) | (with_reducible refine Below.drew ?_) | (with_reducible refine Below.setCell ?_ ?_ _) | go_size)) hw40
          have D11 := D11.step (by repeat' (first | (with_reducible exact Below.refl _ _) | (with_reducible assumption) | (with_reducible refine below_drewN ?_ _) | (with_reducible refine Below.alloc ?_ ?_ _) | (with_reducible refine Below.drew ?_) | (with_reducible refine Below.setCell ?_ ?_ _) | go_size)) hw40
          have A13 := A13.step (by repeat' (first | (with_reducible exact Below.refl _ _) | (with_reducible assumption) | (with_reducible refine below_drewN ?_ _) | (with_reducible refine Below.alloc ?_ ?_ _) | (with_reducible refine Below.drew ?_) | (with_reducible refine Below.setCell ?_ ?_ _) | go_size)) hw40
          go_wp2_with fail
          refine (MG.out _).mono ?_; rintro e w41 ⟨rfl, hw41⟩
          have b41 : Below w.heap.size w w41 := chain (by repeat' (first | (with_reducible exact Below.refl _ _) | (with_reducible assumption) | (with_reducible refine below_drewN ?_ _) | (with_reducible refine Below.alloc ?_ ?_ _) | (with_reducible refine Below.drew ?_) | (with_reducible refine Below.setCell ?_ ?_ _) | go_size)) hw41
          have s41 := b41.size
          have D9 := D9.step (by repeat' (first | (with_reducible exact Below.refl _ _) | (with_reducible assumption) | (with_reducible refine below_drewN ?_ _) | (with_reducible refine Below.alloc ?_ ?_ _) | (with_reducible refine Below.drew ?_) | (with_reducible refine Below.setCell ?_ ?_ _) | go_size)) hw41
          have D11 := D11.step (by repeat' (first | (with_reducible exact Below.refl _ _) | (with_reducible assumption) | (with_reducible refine below_drewN ?_ _) | (with_reducible refine Below.alloc ?_ ?_ _) | (with_reducible refine Below.drew ?_) | (with_reducible refine Below.setCell ?_ ?_ _) | go_size)) hw41
          have A13 := A13.step (by repeat' (first | (with_reducible exact Below.refl _ _) | (with_reducible assumption) | (with_reducible refine below_drewN ?_ _) | (with_reducible refine Below.alloc ?_ ?_ _) | (with_reducible refine Below.drew ?_) | (with_reducible refine Below.setCell ?_ ?_ _) | go_size)) hw41
          go_wp2_with fail
          refine (TellC.out _).mono ?_; rintro e w42 ⟨rfl, hw42⟩
          have b42 : Below w.heap.size w w42 := chain (by repeat' (first | (with_reducible exact Below.refl _ _) | (with_reducible assumption) | (with_reducible refine below_drewN ?_ _) | (with_reducible refine Below.alloc ?_ ?_ _) | (with_reducible refine Below.drew ?_) | (with_reducible refine Below.setCell ?_ ?_ _) | go_size)) hw42
          have s42 := b42.size
          have D9 := D9.step (by repeat' (first | (with_reducible exact Below.refl _ _) | (with_reducible assumption) | (with_reducible refine below_drewN ?_ _) | (with_reducible refine Below.alloc ?_ ?_ _) | (with_reducible refine Below.drew ?_) | (with_reducible refine Below.setCell ?_ ?_ _) | go_size)) hw42
          have D11 := D11.step (by repeat' (first | (with_reducible exact Below.refl _ _) | (with_reducible assumption) | (with_reducible refine below_drewN ?_ _) | (with_reducible refine Below.alloc ?_ ?_ _) | (with_reducible refine Below.drew ?_) | (with_reducible refine Below.setCell ?_ ?_ _) | go_size)) hw42
          have A13 := A13.step (by repeat' (first | (with_reducible exact Below.refl _ _) | (with_reducible assumption) | (with_reducible refine below_drewN ?_ _) | (with_reducible refine Below.alloc ?_ ?_ _) | (with_reducible refine Below.drew ?_) | (with_reducible refine Below.setCell ?_ ?_ _) | go_size)) hw42
          go_wp2_with fail
          refine (TellD.out _).mono ?_; rintro e w43 ⟨rfl, hw43⟩
          have b43 : Below w.heap.size w w43 := chain (by repeat' (first | (with_reducible exact Below.refl _ _) | (with_reducible assumption) | (with_reducible refine below_drewN ?_ _) | (with_reducible refine Below.alloc ?_ ?_ _) | (with_reducible refine Below.drew ?_) | (with_reducible refine Below.setCell ?_ ?_ _) | go_size)) hw43
          have s43 := b43.size
          have D9 := D9.step (by repeat' (first | (with_reducible exact Below.refl _ _) | (with_reducible assumption) | (with_reducible refine below_drewN ?_ _) | (with_reducible refine Below.alloc ?_ ?_ _) | (with_reducible refine Below.drew ?_) | (with_reducible refine Below.setCell ?_ ?_ _) | go_size)) hw43
          have D11 := D11.step (by repeat' (first | (with_reducible exact Below.refl _ _) | (with_reducible assumption) | (with_reducible refine below_drewN ?_ _) | (with_reducible refine Below.alloc ?_ ?_ _) | (with_reducible refine Below.drew ?_) | (with_reducible refine Below.setCell ?_ ?_ _) | go_size)) hw43
          have A13 := A13.step (by repeat' (first | (with_reducible exact Below.refl _ _) | (with_reducible assumption) | (with_reducible refine below_drewN ?_ _) | (with_reducible refine Below.alloc ?_ ?_ _) | (with_reducible refine Below.drew ?_) | (with_reducible refine Below.setCell ?_ ?_ _) | go_size)) hw43
          go_wp2_with fail
          simp only [List.append]
          refine wp_region_held_drew (S := TailS w w22.heap.size w25.heap.size w27.heap.size WO) (by kernel_rfl) ⟨D9.below (Below.refl _ _).drew, D11.below (Below.refl _ _).drew, A13.below (Below.refl _ _).drew, b43.drew⟩ (fun hHeld => ?_)
          have hS : TailS w w22.heap.size w25.heap.size w27.heap.size WO w43.drew := ⟨D9.below (Below.refl _ _).drew, D11.below (Below.refl _ _).drew, A13.below (Below.refl _ _).drew, b43.drew⟩
          generalize w43.drew = V0 at *
          clear D9 D11 A13
          refine wpAnyH_take (i := 0) (oi := _) (v := ?_) rfl (by kernel_rfl) (by kernel_rfl) (by kernel_rfl) (fun _ _ _ h => h) (Or.inl ⟨by rfl, ?_⟩) (by assumption) ?_
          rotate_left
          · (intro w hSw; (try dsimp only at hSw); (try go_split_ands); go_simp; (try with_reducible rfl))
          (try simp only [List.getElem_toArray, List.getElem_cons_zero, List.getElem_cons_succ, Act.put, List.setIfInBounds_toArray, List.set_cons_zero, List.set_cons_succ])
          refine wpAnyH_take (i := 1) (oi := _) (v := ?_) rfl (by kernel_rfl) (by kernel_rfl) (by kernel_rfl) (fun _ _ _ h => h) (Or.inl ⟨by rfl, ?_⟩) (by assumption) ?_
          rotate_left
          · (intro w hSw; (try dsimp only at hSw); (try go_split_ands); go_simp; (try with_reducible rfl))
          (try simp only [List.getElem_toArray, List.getElem_cons_zero, List.getElem_cons_succ, Act.put, List.setIfInBounds_toArray, List.set_cons_zero, List.set_cons_succ])
          refine wpAnyH_take (i := 2) (oi := _) (v := ?_) rfl (by kernel_rfl) (by kernel_rfl) (by kernel_rfl) (fun _ _ _ h => h) (Or.inl ⟨by rfl, ?_⟩) (by assumption) ?_
          rotate_left
          · (intro w hSw; (try dsimp only at hSw); (try go_split_ands); go_simp; (try with_reducible rfl))
          (try simp only [List.getElem_toArray, List.getElem_cons_zero, List.getElem_cons_succ, Act.put, List.setIfInBounds_toArray, List.set_cons_zero, List.set_cons_succ])
          refine wpAnyH_take (i := 3) (oi := _) (v := ?_) rfl (by kernel_rfl) (by kernel_rfl) (by kernel_rfl) (fun _ _ _ h => h) (Or.inl ⟨by rfl, ?_⟩) (by assumption) ?_
          rotate_left
          · (intro W8 hSw; obtain ⟨⟨_, q0, q1, q2, q3⟩, ⟨_, r0, r1, r2, r3⟩, ⟨_, s0, s1, s2⟩, _⟩ := hSw; replace q3 : _ = some (Value.string ⟨#[]⟩) := q3; replace r3 : _ = some (Value.string ⟨#[]⟩) := r3; go_simp; (try with_reducible rfl))
          (try simp only [List.getElem_toArray, List.getElem_cons_zero, List.getElem_cons_succ, Act.put, List.setIfInBounds_toArray, List.set_cons_zero, List.set_cons_succ])
          refine wpAnyH_take (i := 4) (oi := _) (v := ?_) rfl (by kernel_rfl) (by kernel_rfl) (by kernel_rfl) (fun _ _ _ h => h) (Or.inl ⟨by rfl, ?_⟩) (by assumption) ?_
          rotate_left
          · (intro w hSw; (try dsimp only at hSw); (try go_split_ands); go_simp; (try with_reducible rfl))
          (try simp only [List.getElem_toArray, List.getElem_cons_zero, List.getElem_cons_succ, Act.put, List.setIfInBounds_toArray, List.set_cons_zero, List.set_cons_succ])
          refine wpAnyH_take (i := 5) (oi := _) (v := ?_) rfl (by kernel_rfl) (by kernel_rfl) (by kernel_rfl) (fun _ _ _ h => h) (Or.inl ⟨by rfl, ?_⟩) (by assumption) ?_
          rotate_left
          · (intro w hSw; (try dsimp only at hSw); (try go_split_ands); go_simp; (try with_reducible rfl))
          (try simp only [List.getElem_toArray, List.getElem_cons_zero, List.getElem_cons_succ, Act.put, List.setIfInBounds_toArray, List.set_cons_zero, List.set_cons_succ])
          refine wpAnyH_take (i := 6) (oi := _) (v := ?_) rfl (by kernel_rfl) (by kernel_rfl) (by kernel_rfl) (fun _ _ _ h => h) (Or.inl ⟨by rfl, ?_⟩) (by assumption) ?_
          rotate_left
          · (intro w hSw; (try dsimp only at hSw); (try go_split_ands); go_simp; (try with_reducible rfl))
          (try simp only [List.getElem_toArray, List.getElem_cons_zero, List.getElem_cons_succ, Act.put, List.setIfInBounds_toArray, List.set_cons_zero, List.set_cons_succ])
          refine wpAnyH_take (i := 7) (oi := _) (v := ?_) rfl (by kernel_rfl) (by kernel_rfl) (by kernel_rfl) (fun _ _ _ h => h) (Or.inl ⟨by rfl, ?_⟩) (by assumption) ?_
          rotate_left
          · (intro w hSw; (try dsimp only at hSw); (try go_split_ands); go_simp; (try with_reducible rfl))
          (try simp only [List.getElem_toArray, List.getElem_cons_zero, List.getElem_cons_succ, Act.put, List.setIfInBounds_toArray, List.set_cons_zero, List.set_cons_succ])
          refine wpAnyH_take (i := 8) (oi := _) (v := ?_) rfl (by kernel_rfl) (by kernel_rfl) (by kernel_rfl) (fun _ _ _ h => h) (Or.inl ⟨by rfl, ?_⟩) (by assumption) ?_
          rotate_left
          · (intro w hSw; (try dsimp only at hSw); (try go_split_ands); go_simp; (try with_reducible rfl))
          (try simp only [List.getElem_toArray, List.getElem_cons_zero, List.getElem_cons_succ, Act.put, List.setIfInBounds_toArray, List.set_cons_zero, List.set_cons_succ])
          refine wpAnyH_take (i := 9) (oi := _) (v := ?_) rfl (by kernel_rfl) (by kernel_rfl) (by kernel_rfl) (fun _ _ _ h => h) (Or.inl ⟨by rfl, ?_⟩) (by assumption) ?_
          rotate_left
          · (intro w hSw; (try dsimp only at hSw); (try go_split_ands); go_simp; (try with_reducible rfl))
          (try simp only [List.getElem_toArray, List.getElem_cons_zero, List.getElem_cons_succ, Act.put, List.setIfInBounds_toArray, List.set_cons_zero, List.set_cons_succ])
          refine wpAnyH_take (i := 10) (oi := _) (v := ?_) rfl (by kernel_rfl) (by kernel_rfl) (by kernel_rfl) (fun _ _ _ h => h) (Or.inl ⟨by rfl, ?_⟩) (by assumption) ?_
          rotate_left
          · (intro w hSw; (try dsimp only at hSw); (try go_split_ands); go_simp; (try with_reducible rfl))
          (try simp only [List.getElem_toArray, List.getElem_cons_zero, List.getElem_cons_succ, Act.put, List.setIfInBounds_toArray, List.set_cons_zero, List.set_cons_succ])
          refine wpAnyH_take (i := 11) (oi := _) (v := ?_) rfl (by kernel_rfl) (by kernel_rfl) (by kernel_rfl) (fun _ _ _ h => h) (Or.inl ⟨by rfl, ?_⟩) (by assumption) ?_
          rotate_left
          · (intro w hSw; (try dsimp only at hSw); (try go_split_ands); go_simp; (try with_reducible rfl))
          (try simp only [List.getElem_toArray, List.getElem_cons_zero, List.getElem_cons_succ, Act.put, List.setIfInBounds_toArray, List.set_cons_zero, List.set_cons_succ])
          refine wpAnyH_take (i := 12) (oi := _) (v := ?_) rfl (by kernel_rfl) (by kernel_rfl) (by kernel_rfl) (fun _ _ _ h => h) (Or.inl ⟨by rfl, ?_⟩) (by assumption) ?_
          rotate_left
          · (intro W8 hSw; obtain ⟨⟨_, q0, q1, q2, q3⟩, ⟨_, r0, r1, r2, r3⟩, ⟨_, s0, s1, s2⟩, _⟩ := hSw; replace q3 : _ = some (Value.string ⟨#[]⟩) := q3; replace r3 : _ = some (Value.string ⟨#[]⟩) := r3; go_simp; (try with_reducible rfl))
          (try simp only [List.getElem_toArray, List.getElem_cons_zero, List.getElem_cons_succ, Act.put, List.setIfInBounds_toArray, List.set_cons_zero, List.set_cons_succ])
          refine wpAnyH_take (i := 13) (oi := _) (v := ?_) rfl (by kernel_rfl) (by kernel_rfl) (by kernel_rfl) (fun _ _ _ h => h) (Or.inl ⟨by rfl, ?_⟩) (by assumption) ?_
          rotate_left
          · (intro w hSw; (try dsimp only at hSw); (try go_split_ands); go_simp; (try with_reducible rfl))
          (try simp only [List.getElem_toArray, List.getElem_cons_zero, List.getElem_cons_succ, Act.put, List.setIfInBounds_toArray, List.set_cons_zero, List.set_cons_succ])
          refine wpAnyH_take (i := 14) (oi := _) (v := ?_) rfl (by kernel_rfl) (by kernel_rfl) (by kernel_rfl) (fun _ _ _ h => h) (Or.inl ⟨by rfl, ?_⟩) (by assumption) ?_
          rotate_left
          · (intro w hSw; (try dsimp only at hSw); (try go_split_ands); go_simp; (try with_reducible rfl))
          (try simp only [List.getElem_toArray, List.getElem_cons_zero, List.getElem_cons_succ, Act.put, List.setIfInBounds_toArray, List.set_cons_zero, List.set_cons_succ])
          refine wpAnyH_take (i := 15) (oi := _) (v := ?_) rfl (by kernel_rfl) (by kernel_rfl) (by kernel_rfl) (fun _ _ _ h => h) (Or.inl ⟨by rfl, ?_⟩) (by assumption) ?_
          rotate_left
          · (intro w hSw; (try dsimp only at hSw); (try go_split_ands); go_simp; (try with_reducible rfl))
          (try simp only [List.getElem_toArray, List.getElem_cons_zero, List.getElem_cons_succ, Act.put, List.setIfInBounds_toArray, List.set_cons_zero, List.set_cons_succ])
          refine wpAnyH_take (i := 16) (oi := _) (v := ?_) rfl (by kernel_rfl) (by kernel_rfl) (by kernel_rfl) (fun _ _ _ h => h) (Or.inl ⟨by rfl, ?_⟩) (by assumption) ?_
          rotate_left
          · (intro w hSw; (try dsimp only at hSw); (try go_split_ands); go_simp; (try with_reducible rfl))
          (try simp only [List.getElem_toArray, List.getElem_cons_zero, List.getElem_cons_succ, Act.put, List.setIfInBounds_toArray, List.set_cons_zero, List.set_cons_succ])
          refine wpAnyH_take (i := 17) (oi := _) (v := ?_) rfl (by kernel_rfl) (by kernel_rfl) (by kernel_rfl) (fun _ _ _ h => h) (Or.inl ⟨by rfl, ?_⟩) (by assumption) ?_
          rotate_left
          · (intro w hSw; (try dsimp only at hSw); (try go_split_ands); go_simp; (try with_reducible rfl))
          (try simp only [List.getElem_toArray, List.getElem_cons_zero, List.getElem_cons_succ, Act.put, List.setIfInBounds_toArray, List.set_cons_zero, List.set_cons_succ])
          refine wpAnyH_take (i := 18) (oi := _) (v := ?_) rfl (by kernel_rfl) (by kernel_rfl) (by kernel_rfl) (fun _ _ _ h => h) (Or.inl ⟨by rfl, ?_⟩) (by assumption) ?_
          rotate_left
          · (intro w hSw; (try dsimp only at hSw); (try go_split_ands); go_simp; (try with_reducible rfl))
          (try simp only [List.getElem_toArray, List.getElem_cons_zero, List.getElem_cons_succ, Act.put, List.setIfInBounds_toArray, List.set_cons_zero, List.set_cons_succ])
          refine wpAnyH_take (i := 19) (oi := _) (v := ?_) rfl (by kernel_rfl) (by kernel_rfl) (by kernel_rfl) (fun _ _ _ h => h) (Or.inl ⟨by rfl, ?_⟩) (by assumption) ?_
          rotate_left
          · (intro w hSw; (try dsimp only at hSw); (try go_split_ands); go_simp; (try with_reducible rfl))
          (try simp only [List.getElem_toArray, List.getElem_cons_zero, List.getElem_cons_succ, Act.put, List.setIfInBounds_toArray, List.set_cons_zero, List.set_cons_succ])
          refine wpAnyH_take (i := 20) (oi := _) (v := ?_) rfl (by kernel_rfl) (by kernel_rfl) (by kernel_rfl) (fun _ _ _ h => h) (Or.inl ⟨by rfl, ?_⟩) (by assumption) ?_
          rotate_left
          · (intro w hSw; (try dsimp only at hSw); (try go_split_ands); go_simp; (try with_reducible rfl))
          (try simp only [List.getElem_toArray, List.getElem_cons_zero, List.getElem_cons_succ, Act.put, List.setIfInBounds_toArray, List.set_cons_zero, List.set_cons_succ])
          refine wpAnyH_take (i := 21) (oi := _) (v := ?_) rfl (by kernel_rfl) (by kernel_rfl) (by kernel_rfl) (fun _ _ _ h => h) (Or.inl ⟨by rfl, ?_⟩) (by assumption) ?_
          rotate_left
          · (intro w hSw; (try dsimp only at hSw); (try go_split_ands); go_simp; (try with_reducible rfl))
          (try simp only [List.getElem_toArray, List.getElem_cons_zero, List.getElem_cons_succ, Act.put, List.setIfInBounds_toArray, List.set_cons_zero, List.set_cons_succ])
          refine wpAnyH_take (i := 22) (oi := _) (v := ?_) rfl (by kernel_rfl) (by kernel_rfl) (by kernel_rfl) (fun _ _ _ h => h) (Or.inl ⟨by rfl, ?_⟩) (by assumption) ?_
          rotate_left
          · (intro W8 hSw; obtain ⟨⟨_, q0, q1, q2, q3⟩, ⟨_, r0, r1, r2, r3⟩, ⟨_, s0, s1, s2⟩, _⟩ := hSw; replace q3 : _ = some (Value.string ⟨#[]⟩) := q3; replace r3 : _ = some (Value.string ⟨#[]⟩) := r3; go_simp; (try with_reducible rfl))
          (try simp only [List.getElem_toArray, List.getElem_cons_zero, List.getElem_cons_succ, Act.put, List.setIfInBounds_toArray, List.set_cons_zero, List.set_cons_succ])
          refine wpAnyH_take (i := 23) (oi := _) (v := ?_) rfl (by kernel_rfl) (by kernel_rfl) (by kernel_rfl) (fun _ _ _ h => h) (Or.inl ⟨by rfl, ?_⟩) (by assumption) ?_
          rotate_left
          · (intro w hSw; (try dsimp only at hSw); (try go_split_ands); go_simp; (try with_reducible rfl))
          (try simp only [List.getElem_toArray, List.getElem_cons_zero, List.getElem_cons_succ, Act.put, List.setIfInBounds_toArray, List.set_cons_zero, List.set_cons_succ])
          refine wpAnyH_take (i := 24) (oi := _) (v := ?_) rfl (by kernel_rfl) (by kernel_rfl) (by kernel_rfl) (fun _ _ _ h => h) (Or.inl ⟨by rfl, ?_⟩) (by assumption) ?_
          rotate_left
          · (intro w hSw; (try dsimp only at hSw); (try go_split_ands); go_simp; (try with_reducible rfl))
          (try simp only [List.getElem_toArray, List.getElem_cons_zero, List.getElem_cons_succ, Act.put, List.setIfInBounds_toArray, List.set_cons_zero, List.set_cons_succ])
          refine wpAnyH_take (i := 25) (oi := _) (v := ?_) rfl (by kernel_rfl) (by kernel_rfl) (by kernel_rfl) (fun _ _ _ h => h) (Or.inl ⟨by rfl, ?_⟩) (by assumption) ?_
          rotate_left
          · (intro w hSw; (try dsimp only at hSw); (try go_split_ands); go_simp; (try with_reducible rfl))
          (try simp only [List.getElem_toArray, List.getElem_cons_zero, List.getElem_cons_succ, Act.put, List.setIfInBounds_toArray, List.set_cons_zero, List.set_cons_succ])
          refine wpAnyH_take (i := 26) (oi := _) (v := ?_) rfl (by kernel_rfl) (by kernel_rfl) (by kernel_rfl) (fun _ _ _ h => h) (Or.inl ⟨by rfl, ?_⟩) (by assumption) ?_
          rotate_left
          · (intro w hSw; (try dsimp only at hSw); (try go_split_ands); go_simp; (try with_reducible rfl))
          (try simp only [List.getElem_toArray, List.getElem_cons_zero, List.getElem_cons_succ, Act.put, List.setIfInBounds_toArray, List.set_cons_zero, List.set_cons_succ])
          refine wpAnyH_take (i := 27) (oi := _) (v := ?_) rfl (by kernel_rfl) (by kernel_rfl) (by kernel_rfl) (fun _ _ _ h => h) (Or.inl ⟨by rfl, ?_⟩) (by assumption) ?_
          rotate_left
          · (intro W8 hSw; obtain ⟨⟨_, q0, q1, q2, q3⟩, ⟨_, r0, r1, r2, r3⟩, ⟨_, s0, s1, s2⟩, _⟩ := hSw; replace q3 : _ = some (Value.string ⟨#[]⟩) := q3; replace r3 : _ = some (Value.string ⟨#[]⟩) := r3; go_simp; (try with_reducible rfl))
          (try simp only [List.getElem_toArray, List.getElem_cons_zero, List.getElem_cons_succ, Act.put, List.setIfInBounds_toArray, List.set_cons_zero, List.set_cons_succ])
          refine wpAnyH_ready (rs := [28]) (by kernel_rfl) (by simp) ?_
          refine AllReadyH.cons (o := _) rfl (fun K hK => ?_) AllReadyH.nil
          (try simp only [List.getElem_toArray, List.getElem_cons_zero, List.getElem_cons_succ])
          go_simp
          have hS2 : TailS w w22.heap.size w25.heap.size w27.heap.size WO (V0.alloc (.cells #[.int .i64 5] 3)) := hS.alloc _
          refine hK.out _ _ (hS2) (fun hHeld => ?_)
          clear hK K
          (try simp only [List.getElem_toArray, List.getElem_cons_zero, List.getElem_cons_succ, Act.put, List.setIfInBounds_toArray, List.set_cons_zero, List.set_cons_succ])
          refine wpAnyH_ready (rs := [29]) (by kernel_rfl) (by simp) ?_
          refine AllReadyH.cons (o := _) rfl (fun K hK => ?_) AllReadyH.nil
          (try simp only [List.getElem_toArray, List.getElem_cons_zero, List.getElem_cons_succ])
          go_simp
          refine (GWO.out _ _ (IntsV.lit _ _ _ _ _ rfl (by first | with_reducible rfl | simp))).mono ?_; rintro r w60 ⟨rfl, hw60⟩
          have hS3 := hS2.below hw60
          refine hK.out _ _ (hS3) (fun hHeld => ?_)
          clear hK K
          (try simp only [List.getElem_toArray, List.getElem_cons_zero, List.getElem_cons_succ, Act.put, List.setIfInBounds_toArray, List.set_cons_zero, List.set_cons_succ])
          refine wpAnyH_take (i := 30) (oi := _) (v := ?_) rfl (by kernel_rfl) (by kernel_rfl) (by kernel_rfl) (fun _ _ _ h => h) (Or.inl ⟨by rfl, ?_⟩) (by assumption) ?_
          rotate_left
          · (intro w hSw; (try dsimp only at hSw); (try go_split_ands); go_simp; (try with_reducible rfl))
          (try simp only [List.getElem_toArray, List.getElem_cons_zero, List.getElem_cons_succ, Act.put, List.setIfInBounds_toArray, List.set_cons_zero, List.set_cons_succ])
          refine wpAnyH_take (i := 31) (oi := _) (v := ?_) rfl (by kernel_rfl) (by kernel_rfl) (by kernel_rfl) (fun _ _ _ h => h) (Or.inl ⟨by rfl, ?_⟩) (by assumption) ?_
          rotate_left
          · (intro w hSw; (try dsimp only at hSw); (try go_split_ands); go_simp; (try with_reducible rfl))
          (try simp only [List.getElem_toArray, List.getElem_cons_zero, List.getElem_cons_succ, Act.put, List.setIfInBounds_toArray, List.set_cons_zero, List.set_cons_succ])
          refine wpAnyH_take (i := 32) (oi := _) (v := ?_) rfl (by kernel_rfl) (by kernel_rfl) (by kernel_rfl) (fun _ _ _ h => h) (Or.inl ⟨by rfl, ?_⟩) (by assumption) ?_
          rotate_left
          · (intro w hSw; (try dsimp only at hSw); (try go_split_ands); go_simp; (try with_reducible rfl))
          (try simp only [List.getElem_toArray, List.getElem_cons_zero, List.getElem_cons_succ, Act.put, List.setIfInBounds_toArray, List.set_cons_zero, List.set_cons_succ])
          refine wpAnyH_take (i := 33) (oi := _) (v := ?_) rfl (by kernel_rfl) (by kernel_rfl) (by kernel_rfl) (fun _ _ _ h => h) (Or.inl ⟨by rfl, ?_⟩) (by assumption) ?_
          rotate_left
          · (intro w hSw; (try dsimp only at hSw); (try go_split_ands); go_simp; (try with_reducible rfl))
          (try simp only [List.getElem_toArray, List.getElem_cons_zero, List.getElem_cons_succ, Act.put, List.setIfInBounds_toArray, List.set_cons_zero, List.set_cons_succ])
          refine wpAnyH_take (i := 34) (oi := _) (v := ?_) rfl (by kernel_rfl) (by kernel_rfl) (by kernel_rfl) (fun _ _ _ h => h) (Or.inl ⟨by rfl, ?_⟩) (by assumption) ?_
          rotate_left
          · (intro w hSw; (try dsimp only at hSw); (try go_split_ands); go_simp; (try with_reducible rfl))
          (try simp only [List.getElem_toArray, List.getElem_cons_zero, List.getElem_cons_succ, Act.put, List.setIfInBounds_toArray, List.set_cons_zero, List.set_cons_succ])
          refine wpAnyH_take (i := 35) (oi := _) (v := ?_) rfl (by kernel_rfl) (by kernel_rfl) (by kernel_rfl) (fun _ _ _ h => h) (Or.inl ⟨by rfl, ?_⟩) (by assumption) ?_
          rotate_left
          · (intro w hSw; (try dsimp only at hSw); (try go_split_ands); go_simp; (try with_reducible rfl))
          (try simp only [List.getElem_toArray, List.getElem_cons_zero, List.getElem_cons_succ, Act.put, List.setIfInBounds_toArray, List.set_cons_zero, List.set_cons_succ])
          refine wpAnyH_take (i := 36) (oi := _) (v := ?_) rfl (by kernel_rfl) (by kernel_rfl) (by kernel_rfl) (fun _ _ _ h => h) (Or.inl ⟨by rfl, ?_⟩) (by assumption) ?_
          rotate_left
          · (intro w hSw; (try dsimp only at hSw); (try go_split_ands); go_simp; (try with_reducible rfl))
          (try simp only [List.getElem_toArray, List.getElem_cons_zero, List.getElem_cons_succ, Act.put, List.setIfInBounds_toArray, List.set_cons_zero, List.set_cons_succ])
          refine wpAnyH_take (i := 37) (oi := _) (v := ?_) rfl (by kernel_rfl) (by kernel_rfl) (by kernel_rfl) (fun _ _ _ h => h) (Or.inl ⟨by rfl, ?_⟩) (by assumption) ?_
          rotate_left
          · (intro w hSw; (try dsimp only at hSw); (try go_split_ands); go_simp; (try with_reducible rfl))
          (try simp only [List.getElem_toArray, List.getElem_cons_zero, List.getElem_cons_succ, Act.put, List.setIfInBounds_toArray, List.set_cons_zero, List.set_cons_succ])
          refine wpAnyH_take (i := 38) (oi := _) (v := ?_) rfl (by kernel_rfl) (by kernel_rfl) (by kernel_rfl) (fun _ _ _ h => h) (Or.inl ⟨by rfl, ?_⟩) (by assumption) ?_
          rotate_left
          · (intro w hSw; (try dsimp only at hSw); (try go_split_ands); go_simp; (try with_reducible rfl))
          (try simp only [List.getElem_toArray, List.getElem_cons_zero, List.getElem_cons_succ, Act.put, List.setIfInBounds_toArray, List.set_cons_zero, List.set_cons_succ])
          refine wpAnyH_take (i := 39) (oi := _) (v := ?_) rfl (by kernel_rfl) (by kernel_rfl) (by kernel_rfl) (fun _ _ _ h => h) (Or.inl ⟨by rfl, ?_⟩) (by assumption) ?_
          rotate_left
          · (intro w hSw; (try dsimp only at hSw); (try go_split_ands); go_simp; (try with_reducible rfl))
          (try simp only [List.getElem_toArray, List.getElem_cons_zero, List.getElem_cons_succ, Act.put, List.setIfInBounds_toArray, List.set_cons_zero, List.set_cons_succ])
          refine wpAnyH_take (i := 40) (oi := _) (v := ?_) rfl (by kernel_rfl) (by kernel_rfl) (by kernel_rfl) (fun _ _ _ h => h) (Or.inl ⟨by rfl, ?_⟩) (by assumption) ?_
          rotate_left
          · (intro w hSw; (try dsimp only at hSw); (try go_split_ands); go_simp; (try with_reducible rfl))
          (try simp only [List.getElem_toArray, List.getElem_cons_zero, List.getElem_cons_succ, Act.put, List.setIfInBounds_toArray, List.set_cons_zero, List.set_cons_succ])
          refine wpAnyH_take (i := 41) (oi := _) (v := ?_) rfl (by kernel_rfl) (by kernel_rfl) (by kernel_rfl) (fun _ _ _ h => h) (Or.inl ⟨by rfl, ?_⟩) (by assumption) ?_
          rotate_left
          · (intro w hSw; (try dsimp only at hSw); (try go_split_ands); go_simp; (try with_reducible rfl))
          (try simp only [List.getElem_toArray, List.getElem_cons_zero, List.getElem_cons_succ, Act.put, List.setIfInBounds_toArray, List.set_cons_zero, List.set_cons_succ])
          refine wpAnyH_take (i := 42) (oi := _) (v := ?_) rfl (by kernel_rfl) (by kernel_rfl) (by kernel_rfl) (fun _ _ _ h => h) (Or.inl ⟨by rfl, ?_⟩) (by assumption) ?_
          rotate_left
          · (intro w hSw; (try dsimp only at hSw); (try go_split_ands); go_simp; (try with_reducible rfl))
          (try simp only [List.getElem_toArray, List.getElem_cons_zero, List.getElem_cons_succ, Act.put, List.setIfInBounds_toArray, List.set_cons_zero, List.set_cons_succ])
          refine wpAnyH_take (i := 43) (oi := _) (v := ?_) rfl (by kernel_rfl) (by kernel_rfl) (by kernel_rfl) (fun _ _ _ h => h) (Or.inl ⟨by rfl, ?_⟩) (by assumption) ?_
          rotate_left
          · (intro w hSw; (try dsimp only at hSw); (try go_split_ands); go_simp; (try with_reducible rfl))
          (try simp only [List.getElem_toArray, List.getElem_cons_zero, List.getElem_cons_succ, Act.put, List.setIfInBounds_toArray, List.set_cons_zero, List.set_cons_succ])
          refine wpAnyH_take (i := 44) (oi := _) (v := ?_) rfl (by kernel_rfl) (by kernel_rfl) (by kernel_rfl) (fun _ _ _ h => h) (Or.inl ⟨by rfl, ?_⟩) (by assumption) ?_
          rotate_left
          · (intro w hSw; (try dsimp only at hSw); (try go_split_ands); go_simp; (try with_reducible rfl))
          (try simp only [List.getElem_toArray, List.getElem_cons_zero, List.getElem_cons_succ, Act.put, List.setIfInBounds_toArray, List.set_cons_zero, List.set_cons_succ])
          refine wpAnyH_take (i := 45) (oi := _) (v := ?_) rfl (by kernel_rfl) (by kernel_rfl) (by kernel_rfl) (fun _ _ _ h => h) (Or.inl ⟨by rfl, ?_⟩) (by assumption) ?_
          rotate_left
          · (intro w hSw; (try dsimp only at hSw); (try go_split_ands); go_simp; (try with_reducible rfl))
          (try simp only [List.getElem_toArray, List.getElem_cons_zero, List.getElem_cons_succ, Act.put, List.setIfInBounds_toArray, List.set_cons_zero, List.set_cons_succ])
          refine wpAnyH_take (i := 46) (oi := _) (v := ?_) rfl (by kernel_rfl) (by kernel_rfl) (by kernel_rfl) (fun _ _ _ h => h) (Or.inl ⟨by rfl, ?_⟩) (by assumption) ?_
          rotate_left
          · (intro w hSw; (try dsimp only at hSw); (try go_split_ands); go_simp; (try with_reducible rfl))
          (try simp only [List.getElem_toArray, List.getElem_cons_zero, List.getElem_cons_succ, Act.put, List.setIfInBounds_toArray, List.set_cons_zero, List.set_cons_succ])
          refine wpAnyH_take (i := 47) (oi := _) (v := ?_) rfl (by kernel_rfl) (by kernel_rfl) (by kernel_rfl) (fun _ _ _ h => h) (Or.inl ⟨by rfl, ?_⟩) (by assumption) ?_
          rotate_left
          · (intro w hSw; (try dsimp only at hSw); (try go_split_ands); go_simp; (try with_reducible rfl))
          (try simp only [List.getElem_toArray, List.getElem_cons_zero, List.getElem_cons_succ, Act.put, List.setIfInBounds_toArray, List.set_cons_zero, List.set_cons_succ])
          refine wpAnyH_take (i := 48) (oi := _) (v := ?_) rfl (by kernel_rfl) (by kernel_rfl) (by kernel_rfl) (fun _ _ _ h => h) (Or.inl ⟨by rfl, ?_⟩) (by assumption) ?_
          rotate_left
          · (intro w hSw; (try dsimp only at hSw); (try go_split_ands); go_simp; (try with_reducible rfl))
          (try simp only [List.getElem_toArray, List.getElem_cons_zero, List.getElem_cons_succ, Act.put, List.setIfInBounds_toArray, List.set_cons_zero, List.set_cons_succ])
          refine wpAnyH_take (i := 49) (oi := _) (v := ?_) rfl (by kernel_rfl) (by kernel_rfl) (by kernel_rfl) (fun _ _ _ h => h) (Or.inl ⟨by rfl, ?_⟩) (by assumption) ?_
          rotate_left
          · (intro w hSw; (try dsimp only at hSw); (try go_split_ands); go_simp; (try with_reducible rfl))
          (try simp only [List.getElem_toArray, List.getElem_cons_zero, List.getElem_cons_succ, Act.put, List.setIfInBounds_toArray, List.set_cons_zero, List.set_cons_succ])
          refine wpAnyH_take (i := 50) (oi := _) (v := ?_) rfl (by kernel_rfl) (by kernel_rfl) (by kernel_rfl) (fun _ _ _ h => h) (Or.inl ⟨by rfl, ?_⟩) (by assumption) ?_
          rotate_left
          · (intro w hSw; (try dsimp only at hSw); (try go_split_ands); go_simp; (try with_reducible rfl))
          (try simp only [List.getElem_toArray, List.getElem_cons_zero, List.getElem_cons_succ, Act.put, List.setIfInBounds_toArray, List.set_cons_zero, List.set_cons_succ])
          refine wpAnyH_take (i := 51) (oi := _) (v := ?_) rfl (by kernel_rfl) (by kernel_rfl) (by kernel_rfl) (fun _ _ _ h => h) (Or.inl ⟨by rfl, ?_⟩) (by assumption) ?_
          rotate_left
          · (intro w hSw; (try dsimp only at hSw); (try go_split_ands); go_simp; (try with_reducible rfl))
          (try simp only [List.getElem_toArray, List.getElem_cons_zero, List.getElem_cons_succ, Act.put, List.setIfInBounds_toArray, List.set_cons_zero, List.set_cons_succ])
          refine wpAnyH_take (i := 52) (oi := _) (v := ?_) rfl (by kernel_rfl) (by kernel_rfl) (by kernel_rfl) (fun _ _ _ h => h) (Or.inl ⟨by rfl, ?_⟩) (by assumption) ?_
          rotate_left
          · (intro w hSw; (try dsimp only at hSw); (try go_split_ands); go_simp; (try with_reducible rfl))
          (try simp only [List.getElem_toArray, List.getElem_cons_zero, List.getElem_cons_succ, Act.put, List.setIfInBounds_toArray, List.set_cons_zero, List.set_cons_succ])
          refine wpAnyH_take (i := 53) (oi := _) (v := ?_) rfl (by kernel_rfl) (by kernel_rfl) (by kernel_rfl) (fun _ _ _ h => h) (Or.inl ⟨by rfl, ?_⟩) (by assumption) ?_
          rotate_left
          · (intro w hSw; (try dsimp only at hSw); (try go_split_ands); go_simp; (try with_reducible rfl))
          (try simp only [List.getElem_toArray, List.getElem_cons_zero, List.getElem_cons_succ, Act.put, List.setIfInBounds_toArray, List.set_cons_zero, List.set_cons_succ])
          refine wpAnyH_take (i := 54) (oi := _) (v := ?_) rfl (by kernel_rfl) (by kernel_rfl) (by kernel_rfl) (fun _ _ _ h => h) (Or.inl ⟨by rfl, ?_⟩) (by assumption) ?_
          rotate_left
          · (intro w hSw; (try dsimp only at hSw); (try go_split_ands); go_simp; (try with_reducible rfl))
          (try simp only [List.getElem_toArray, List.getElem_cons_zero, List.getElem_cons_succ, Act.put, List.setIfInBounds_toArray, List.set_cons_zero, List.set_cons_succ])
          refine wpAnyH_take (i := 55) (oi := _) (v := ?_) rfl (by kernel_rfl) (by kernel_rfl) (by kernel_rfl) (fun _ _ _ h => h) (Or.inl ⟨by rfl, ?_⟩) (by assumption) ?_
          rotate_left
          · (intro w hSw; (try dsimp only at hSw); (try go_split_ands); go_simp; (try with_reducible rfl))
          (try simp only [List.getElem_toArray, List.getElem_cons_zero, List.getElem_cons_succ, Act.put, List.setIfInBounds_toArray, List.set_cons_zero, List.set_cons_succ])
          refine wpAnyH_take (i := 56) (oi := _) (v := ?_) rfl (by kernel_rfl) (by kernel_rfl) (by kernel_rfl) (fun _ _ _ h => h) (Or.inl ⟨by rfl, ?_⟩) (by assumption) ?_
          rotate_left
          · (intro w hSw; (try dsimp only at hSw); (try go_split_ands); go_simp; (try with_reducible rfl))
          (try simp only [List.getElem_toArray, List.getElem_cons_zero, List.getElem_cons_succ, Act.put, List.setIfInBounds_toArray, List.set_cons_zero, List.set_cons_succ])
          refine wpAnyH_take (i := 57) (oi := _) (v := ?_) rfl (by kernel_rfl) (by kernel_rfl) (by kernel_rfl) (fun _ _ _ h => h) (Or.inl ⟨by rfl, ?_⟩) (by assumption) ?_
          rotate_left
          · (intro w hSw; (try dsimp only at hSw); (try go_split_ands); go_simp; (try with_reducible rfl))
          (try simp only [List.getElem_toArray, List.getElem_cons_zero, List.getElem_cons_succ, Act.put, List.setIfInBounds_toArray, List.set_cons_zero, List.set_cons_succ])
          refine wpAnyH_take (i := 58) (oi := _) (v := ?_) rfl (by kernel_rfl) (by kernel_rfl) (by kernel_rfl) (fun _ _ _ h => h) (Or.inl ⟨by rfl, ?_⟩) (by assumption) ?_
          rotate_left
          · (intro w hSw; (try dsimp only at hSw); (try go_split_ands); go_simp; (try with_reducible rfl))
          (try simp only [List.getElem_toArray, List.getElem_cons_zero, List.getElem_cons_succ, Act.put, List.setIfInBounds_toArray, List.set_cons_zero, List.set_cons_succ])
          refine wpAnyH_take (i := 59) (oi := _) (v := ?_) rfl (by kernel_rfl) (by kernel_rfl) (by kernel_rfl) (fun _ _ _ h => h) (Or.inl ⟨by rfl, ?_⟩) (by assumption) ?_
          rotate_left
          · (intro w hSw; (try dsimp only at hSw); (try go_split_ands); go_simp; (try with_reducible rfl))
          (try simp only [List.getElem_toArray, List.getElem_cons_zero, List.getElem_cons_succ, Act.put, List.setIfInBounds_toArray, List.set_cons_zero, List.set_cons_succ])
          refine wpAnyH_take (i := 60) (oi := _) (v := ?_) rfl (by kernel_rfl) (by kernel_rfl) (by kernel_rfl) (fun _ _ _ h => h) (Or.inl ⟨by rfl, ?_⟩) (by assumption) ?_
          rotate_left
          · (intro w hSw; (try dsimp only at hSw); (try go_split_ands); go_simp; (try with_reducible rfl))
          (try simp only [List.getElem_toArray, List.getElem_cons_zero, List.getElem_cons_succ, Act.put, List.setIfInBounds_toArray, List.set_cons_zero, List.set_cons_succ])
          refine wpAnyH_take (i := 61) (oi := _) (v := ?_) rfl (by kernel_rfl) (by kernel_rfl) (by kernel_rfl) (fun _ _ _ h => h) (Or.inl ⟨by rfl, ?_⟩) (by assumption) ?_
          rotate_left
          · (intro w hSw; (try dsimp only at hSw); (try go_split_ands); go_simp; (try with_reducible rfl))
          (try simp only [List.getElem_toArray, List.getElem_cons_zero, List.getElem_cons_succ, Act.put, List.setIfInBounds_toArray, List.set_cons_zero, List.set_cons_succ])
          refine wpAnyH_take (i := 62) (oi := _) (v := ?_) rfl (by kernel_rfl) (by kernel_rfl) (by kernel_rfl) (fun _ _ _ h => h) (Or.inl ⟨by rfl, ?_⟩) (by assumption) ?_
          rotate_left
          · (intro w hSw; (try dsimp only at hSw); (try go_split_ands); go_simp; (try with_reducible rfl))
          (try simp only [List.getElem_toArray, List.getElem_cons_zero, List.getElem_cons_succ, Act.put, List.setIfInBounds_toArray, List.set_cons_zero, List.set_cons_succ])
          refine wpAnyH_take (i := 63) (oi := _) (v := ?_) rfl (by kernel_rfl) (by kernel_rfl) (by kernel_rfl) (fun _ _ _ h => h) (Or.inl ⟨by rfl, ?_⟩) (by assumption) ?_
          rotate_left
          · (intro w hSw; (try dsimp only at hSw); (try go_split_ands); go_simp; (try with_reducible rfl))
          (try simp only [List.getElem_toArray, List.getElem_cons_zero, List.getElem_cons_succ, Act.put, List.setIfInBounds_toArray, List.set_cons_zero, List.set_cons_succ])
          refine wpAnyH_take (i := 64) (oi := _) (v := ?_) rfl (by kernel_rfl) (by kernel_rfl) (by kernel_rfl) (fun _ _ _ h => h) (Or.inl ⟨by rfl, ?_⟩) (by assumption) ?_
          rotate_left
          · (intro w hSw; (try dsimp only at hSw); (try go_split_ands); go_simp; (try with_reducible rfl))
          (try simp only [List.getElem_toArray, List.getElem_cons_zero, List.getElem_cons_succ, Act.put, List.setIfInBounds_toArray, List.set_cons_zero, List.set_cons_succ])
          refine wpAnyH_take (i := 65) (oi := _) (v := ?_) rfl (by kernel_rfl) (by kernel_rfl) (by kernel_rfl) (fun _ _ _ h => h) (Or.inl ⟨by rfl, ?_⟩) (by assumption) ?_
          rotate_left
          · (intro w hSw; (try dsimp only at hSw); (try go_split_ands); go_simp; (try with_reducible rfl))
          (try simp only [List.getElem_toArray, List.getElem_cons_zero, List.getElem_cons_succ, Act.put, List.setIfInBounds_toArray, List.set_cons_zero, List.set_cons_succ])
          refine wpAnyH_take (i := 66) (oi := _) (v := ?_) rfl (by kernel_rfl) (by kernel_rfl) (by kernel_rfl) (fun _ _ _ h => h) (Or.inl ⟨by rfl, ?_⟩) (by assumption) ?_
          rotate_left
          · (intro w hSw; (try dsimp only at hSw); (try go_split_ands); go_simp; (try with_reducible rfl))
          (try simp only [List.getElem_toArray, List.getElem_cons_zero, List.getElem_cons_succ, Act.put, List.setIfInBounds_toArray, List.set_cons_zero, List.set_cons_succ])
          refine wpAnyH_take (i := 67) (oi := _) (v := ?_) rfl (by kernel_rfl) (by kernel_rfl) (by kernel_rfl) (fun _ _ _ h => h) (Or.inl ⟨by rfl, ?_⟩) (by assumption) ?_
          rotate_left
          · (intro w hSw; (try dsimp only at hSw); (try go_split_ands); go_simp; (try with_reducible rfl))
          (try simp only [List.getElem_toArray, List.getElem_cons_zero, List.getElem_cons_succ, Act.put, List.setIfInBounds_toArray, List.set_cons_zero, List.set_cons_succ])
          refine wpAnyH_take (i := 68) (oi := _) (v := ?_) rfl (by kernel_rfl) (by kernel_rfl) (by kernel_rfl) (fun _ _ _ h => h) (Or.inl ⟨by rfl, ?_⟩) (by assumption) ?_
          rotate_left
          · (intro w hSw; (try dsimp only at hSw); (try go_split_ands); go_simp; (try with_reducible rfl))
          (try simp only [List.getElem_toArray, List.getElem_cons_zero, List.getElem_cons_succ, Act.put, List.setIfInBounds_toArray, List.set_cons_zero, List.set_cons_succ])
          refine wpAnyH_done (by kernel_rfl) ?_ _
          have b60 := hS3.below0
          go_wp2_with fail
          go_ret
          exact ⟨rfl, b60⟩

theorem names_walk : Walks Try.prog 7 Try.f7 := by
  intro H enc W args ds p base hval hA _
  rw [Try.params7] at hA hval
  obtain ⟨rfl, rfl, rfl⟩ := trodAll_none hA
  exact names_any W

theorem CallNames_holds : Rows.CallNamesSaid :=
  OpenClaim.holds_of_wide 7 Try.f7 rfl rfl rfl rfl rfl rfl rfl ⟨rfl, rfl, rfl, rfl, rfl⟩ rfl rfl rfl rfl rfl (by kernel_rfl) Try.func7 (by kernel_rfl)
    (of_decide_eq_true (by kernel_rfl)) (by unfold Func.isWrapper; first | (rw [if_pos (by decide +kernel)]; kernel_rfl) | (rw [if_neg (by decide +kernel)]; exact ⟨rfl, rfl⟩))
    (fun os started H enc _ => law_lifted (C := Try.checked) (s := Rows.callNamesSpec) own started (by kernel_rfl) Try.func7 laidOut rfl rfl Try.underlying4
      (by have h : ∀ u ∈ Try.f7.params.toList, (Try.prog.readableRec u && decide (u < Try.prog.types.size)) = true := List.all_eq_true.1 (by kernel_rfl)
          intro u hu; have := h u hu; rw [Bool.and_eq_true, decide_eq_true_eq] at this; exact this)
      (by intro H l hl; rw [show Try.f7.params.size = 0 from by rw [Try.params7]; rfl] at hl; match l, hl with | [], _ => rfl)
      H enc (ChangeSpec.witness6 (enc := enc) (C := Try.checked) false ⟨#[], #[], []⟩ 8 (by kernel_rfl) (by kernel_rfl) (by kernel_rfl) (by kernel_rfl)) names_walk)
#print axioms CallNames_holds
end Go.Proofs.Ytaobfidjnnhniaa
