/- The law ArithOrder's walk. -/
import Derived.Test.YtencepjebdadcaaM4
import Derived.Test.YtencepjebdadcaaM6
namespace Go.Proofs.Ytencepjebdadcaa.A
open Go.RowKit Go.Proofs.Ytencepjebdadcaa.A.P Go.Proofs.YtencepjebdadcaaW.PrintWords Go.Proofs.YtencepjebdadcaaW.PrintLast Go.Proofs.YtencepjebdadcaaW.PrintMore
set_option linter.unusedVariables false
set_option linter.unusedSimpArgs false

theorem clo_long (op x y z : Int) (w : World) (h : arith_Long.f op x y = some (z, 0)) :
    Calls Try.prog 19 #[.int .i64 op, .int .i64 x, .int .i64 y] w fun e w' => e = .returned (.int .i64 z) ∧ Drawn0 w w' := by
  have HC := Lib.hid (arith_Long.calls op x y z 0 w h)
  clear h
  go_enter Try.func19, Try.ntmps19
  go_wp2_with fail
  refine HC.out.mono ?_
  rintro e w1 ⟨rfl, ⟨m, rfl⟩⟩
  go_wp2
  go_ret
  exact ⟨rfl, ⟨_, rfl⟩⟩
theorem clo_int (op x y z : Int) (w : World) (h : arith_Int.f op x y = some (z, 0)) :
    Calls Try.prog 20 #[.int .i64 op, .int .i64 x, .int .i64 y] w fun e w' => e = .returned (.int .i64 z) ∧ Below w.heap.size w w' := by
  have HC := Lib.hid (arith_Int.calls op x y z 0 w h)
  clear h
  go_enter Try.func20, Try.ntmps20
  go_wp2_with fail
  refine HC.out.mono ?_
  rintro e w1 ⟨rfl, hb⟩
  go_wp2
  go_ret
  exact ⟨rfl, hb⟩

/-- a result that the walk doesn't look into -/
def LongPost (v : Int) (w : World) (e : Ending) (w' : World) : Prop := ∃ z, e = .returned (.int .i64 z) ∧ Hid (z = v) ∧ isL z ∧ Below w.heap.size w w'
def IntPost (v : Int) (w : World) (e : Ending) (w' : World) : Prop := ∃ z, e = .returned (.int .i64 z) ∧ Hid (z = v) ∧ isI z ∧ Below w.heap.size w w'

theorem long_97 (x y : Int) (w : World) (hx : isL x) (hy : isL y) : Calls Try.prog 19 #[.int .i64 97, .int .i64 x, .int .i64 y] w (LongPost (wrap64 (x + y)) w) := by
  have h : arith_Long.f 97 x y = some (wrap64 (x + y), 0) := by
    unfold arith_Long.f
    rw [if_pos ⟨by unfold isL; omega, hx, hy⟩, if_neg (by omega), show wrap64 (97 - 1) = 96 by unfold wrap64; omega]
    simp [doL]
  refine (clo_long 97 x y _ w h).mono ?_
  rintro e w' ⟨rfl, hd⟩
  exact ⟨_, rfl, rfl, wrap64_isL _, hd.below⟩

theorem long_101 (x y : Int) (w : World) (hx : isL x) (hy : isL y) : Calls Try.prog 19 #[.int .i64 101, .int .i64 x, .int .i64 y] w (LongPost (wrap64 (x - y)) w) := by
  have h : arith_Long.f 101 x y = some (wrap64 (x - y), 0) := by
    unfold arith_Long.f
    rw [if_pos ⟨by unfold isL; omega, hx, hy⟩, if_neg (by omega), show wrap64 (101 - 1) = 100 by unfold wrap64; omega]
    simp [doL]
  refine (clo_long 101 x y _ w h).mono ?_
  rintro e w' ⟨rfl, hd⟩
  exact ⟨_, rfl, rfl, wrap64_isL _, hd.below⟩

theorem long_105 (x y : Int) (w : World) (hx : isL x) (hy : isL y) : Calls Try.prog 19 #[.int .i64 105, .int .i64 x, .int .i64 y] w (LongPost (wrap64 (x * y)) w) := by
  have h : arith_Long.f 105 x y = some (wrap64 (x * y), 0) := by
    unfold arith_Long.f
    rw [if_pos ⟨by unfold isL; omega, hx, hy⟩, if_neg (by omega), show wrap64 (105 - 1) = 104 by unfold wrap64; omega]
    simp [doL]
  refine (clo_long 105 x y _ w h).mono ?_
  rintro e w' ⟨rfl, hd⟩
  exact ⟨_, rfl, rfl, wrap64_isL _, hd.below⟩

theorem int_96 (x y : Int) (w : World) (hx : isI x) (hy : isI y) : Calls Try.prog 20 #[.int .i64 96, .int .i64 x, .int .i64 y] w (IntPost (wrap32 (x + y)) w) := by
  have h : arith_Int.f 96 x y = some (wrap32 (x + y), 0) := by
    unfold arith_Int.f
    rw [if_pos ⟨hx, hy⟩]
    simp [doS]
  refine (clo_int 96 x y _ w h).mono ?_
  rintro e w' ⟨rfl, hb⟩
  exact ⟨_, rfl, rfl, wrap32_isI _, hb⟩

theorem int_100 (x y : Int) (w : World) (hx : isI x) (hy : isI y) : Calls Try.prog 20 #[.int .i64 100, .int .i64 x, .int .i64 y] w (IntPost (wrap32 (x - y)) w) := by
  have h : arith_Int.f 100 x y = some (wrap32 (x - y), 0) := by
    unfold arith_Int.f
    rw [if_pos ⟨hx, hy⟩]
    simp [doS]
  refine (clo_int 100 x y _ w h).mono ?_
  rintro e w' ⟨rfl, hb⟩
  exact ⟨_, rfl, rfl, wrap32_isI _, hb⟩

theorem int_104 (x y : Int) (w : World) (hx : isI x) (hy : isI y) : Calls Try.prog 20 #[.int .i64 104, .int .i64 x, .int .i64 y] w (IntPost (wrap32 (x * y)) w) := by
  have h : arith_Int.f 104 x y = some (wrap32 (x * y), 0) := by
    unfold arith_Int.f
    rw [if_pos ⟨hx, hy⟩]
    simp [doS]
  refine (clo_int 104 x y _ w h).mono ?_
  rintro e w' ⟨rfl, hb⟩
  exact ⟨_, rfl, rfl, wrap32_isI _, hb⟩

set_option maxRecDepth 100000 in
set_option maxHeartbeats 4000000 in
theorem ArithOrder_walk (a b c : Int) (w : World) (ha : isL a) (hb : isL b) (hc : isL c) :
    Calls Try.prog 7 #[.int .i64 a, .int .i64 b, .int .i64 c] w fun e w' => e = .returned (.bool true) ∧ Below w.heap.size w w' := by
  have hworks : larchlaw14_works.f = some true := works_true
  have HW := Lib.hid (larchlaw14_works.calls true w hworks)
  clear hworks
  obtain ⟨m, hm0⟩ : ∃ m, m = wrap32 a := ⟨_, rfl⟩
  obtain ⟨n, hn0⟩ : ∃ n, n = wrap32 b := ⟨_, rfl⟩
  obtain ⟨o, ho0⟩ : ∃ o, o = wrap32 c := ⟨_, rfl⟩
  have hm : isI m := by rw [hm0]; exact wrap32_isI _
  have hn : isI n := by rw [hn0]; exact wrap32_isI _
  have ho : isI o := by rw [ho0]; exact wrap32_isI _
  have HRm := Lib.hid (fun W => arith_Round.calls a m W (by rw [hm0]; exact roundA a))
  have HRn := Lib.hid (fun W => arith_Round.calls b n W (by rw [hn0]; exact roundA b))
  have HRo := Lib.hid (fun W => arith_Round.calls c o W (by rw [ho0]; exact roundA c))
  clear hm0 hn0 ho0
  have La := Lib.hid ha
  have Lb := Lib.hid hb
  have Lc := Lib.hid hc
  have Lm := Lib.hid hm
  have Ln := Lib.hid hn
  have Lo := Lib.hid ho
  clear ha hb hc hm hn ho
  go_enter Try.func7, Try.ntmps7
  go_wp2_with fail
  refine HW.out.mono ?_
  rintro e w0 ⟨rfl, B0⟩
  go_wp2_with fail
  refine (HRm.out _).mono ?_
  rintro e w1 ⟨rfl, ⟨i0, rfl⟩⟩
  go_wp2_with fail
  refine (HRn.out _).mono ?_
  rintro e w2 ⟨rfl, ⟨i1, rfl⟩⟩
  go_wp2_with fail
  refine (HRo.out _).mono ?_
  rintro e w3 ⟨rfl, ⟨i2, rfl⟩⟩
  have B1 := pw_below_drewN B0 (i0 + i1 + i2)
  go_wp2_with fail
  refine (long_97 a b _ La.out Lb.out).mono ?_
  rintro e v1 ⟨z1, rfl, Hz1, Lz10, C1⟩
  have Lz1 := Lib.hid Lz10
  clear Lz10
  have B2 := below_then B1 B1.size C1
  go_wp2_with fail
  refine (long_97 b a _ Lb.out La.out).mono ?_
  rintro e v2 ⟨z2, rfl, Hz2, Lz20, C2⟩
  have Lz2 := Lib.hid Lz20
  clear Lz20
  have B3 := below_then B2 B2.size C2
  have qorder1 : (z1 == z2) = true := beq_iff_eq.2 (by simp only [Hz1.out, Hz2.out]; exact order1 a b)
  go_wp2_with fail
  refine (long_105 a b _ La.out Lb.out).mono ?_
  rintro e v3 ⟨z3, rfl, Hz3, Lz30, C3⟩
  have Lz3 := Lib.hid Lz30
  clear Lz30
  have B4 := below_then B3 B3.size C3
  go_wp2_with fail
  refine (long_105 b a _ Lb.out La.out).mono ?_
  rintro e v4 ⟨z4, rfl, Hz4, Lz40, C4⟩
  have Lz4 := Lib.hid Lz40
  clear Lz40
  have B5 := below_then B4 B4.size C4
  have qorder2 : (z3 == z4) = true := beq_iff_eq.2 (by simp only [Hz3.out, Hz4.out]; exact order2 a b)
  go_wp2_with fail
  refine (long_97 a b _ La.out Lb.out).mono ?_
  rintro e v5 ⟨z5, rfl, Hz5, Lz50, C5⟩
  have Lz5 := Lib.hid Lz50
  clear Lz50
  have B6 := below_then B5 B5.size C5
  go_wp2_with fail
  refine (long_97 z5 c _ Lz5.out Lc.out).mono ?_
  rintro e v6 ⟨z6, rfl, Hz6, Lz60, C6⟩
  have Lz6 := Lib.hid Lz60
  clear Lz60
  have B7 := below_then B6 B6.size C6
  go_wp2_with fail
  refine (long_97 b c _ Lb.out Lc.out).mono ?_
  rintro e v7 ⟨z7, rfl, Hz7, Lz70, C7⟩
  have Lz7 := Lib.hid Lz70
  clear Lz70
  have B8 := below_then B7 B7.size C7
  go_wp2_with fail
  refine (long_97 a z7 _ La.out Lz7.out).mono ?_
  rintro e v8 ⟨z8, rfl, Hz8, Lz80, C8⟩
  have Lz8 := Lib.hid Lz80
  clear Lz80
  have B9 := below_then B8 B8.size C8
  have qorder3 : (z6 == z8) = true := beq_iff_eq.2 (by simp only [Hz6.out, Hz5.out, Hz8.out, Hz7.out]; exact order3 a b c)
  go_wp2_with fail
  refine (long_97 b c _ Lb.out Lc.out).mono ?_
  rintro e v9 ⟨z9, rfl, Hz9, Lz90, C9⟩
  have Lz9 := Lib.hid Lz90
  clear Lz90
  have B10 := below_then B9 B9.size C9
  go_wp2_with fail
  refine (long_105 a z9 _ La.out Lz9.out).mono ?_
  rintro e v10 ⟨z10, rfl, Hz10, Lz100, C10⟩
  have Lz10 := Lib.hid Lz100
  clear Lz100
  have B11 := below_then B10 B10.size C10
  go_wp2_with fail
  refine (long_105 a b _ La.out Lb.out).mono ?_
  rintro e v11 ⟨z11, rfl, Hz11, Lz110, C11⟩
  have Lz11 := Lib.hid Lz110
  clear Lz110
  have B12 := below_then B11 B11.size C11
  go_wp2_with fail
  refine (long_105 a c _ La.out Lc.out).mono ?_
  rintro e v12 ⟨z12, rfl, Hz12, Lz120, C12⟩
  have Lz12 := Lib.hid Lz120
  clear Lz120
  have B13 := below_then B12 B12.size C12
  go_wp2_with fail
  refine (long_97 z11 z12 _ Lz11.out Lz12.out).mono ?_
  rintro e v13 ⟨z13, rfl, Hz13, Lz130, C13⟩
  have Lz13 := Lib.hid Lz130
  clear Lz130
  have B14 := below_then B13 B13.size C13
  have qorder4 : (z10 == z13) = true := beq_iff_eq.2 (by simp only [Hz10.out, Hz9.out, Hz13.out, Hz11.out, Hz12.out]; exact order4 a b c)
  go_wp2_with fail
  refine (long_97 a b _ La.out Lb.out).mono ?_
  rintro e v14 ⟨z14, rfl, Hz14, Lz140, C14⟩
  have Lz14 := Lib.hid Lz140
  clear Lz140
  have B15 := below_then B14 B14.size C14
  go_wp2_with fail
  refine (long_101 z14 b _ Lz14.out Lb.out).mono ?_
  rintro e v15 ⟨z15, rfl, Hz15, Lz150, C15⟩
  have Lz15 := Lib.hid Lz150
  clear Lz150
  have B16 := below_then B15 B15.size C15
  have qorder5 : (z15 == a) = true := beq_iff_eq.2 (by simp only [Hz15.out, Hz14.out]; exact order5 a b La.out)
  go_wp2_with fail
  refine (int_96 m n _ Lm.out Ln.out).mono ?_
  rintro e v16 ⟨z16, rfl, Hz16, Lz160, C16⟩
  have Lz16 := Lib.hid Lz160
  clear Lz160
  have B17 := below_then B16 B16.size C16
  go_wp2_with fail
  refine (int_96 n m _ Ln.out Lm.out).mono ?_
  rintro e v17 ⟨z17, rfl, Hz17, Lz170, C17⟩
  have Lz17 := Lib.hid Lz170
  clear Lz170
  have B18 := below_then B17 B17.size C17
  have qorder6 : (z16 == z17) = true := beq_iff_eq.2 (by simp only [Hz16.out, Hz17.out]; exact order6 m n)
  go_wp2_with fail
  refine (int_104 m n _ Lm.out Ln.out).mono ?_
  rintro e v18 ⟨z18, rfl, Hz18, Lz180, C18⟩
  have Lz18 := Lib.hid Lz180
  clear Lz180
  have B19 := below_then B18 B18.size C18
  go_wp2_with fail
  refine (int_104 z18 o _ Lz18.out Lo.out).mono ?_
  rintro e v19 ⟨z19, rfl, Hz19, Lz190, C19⟩
  have Lz19 := Lib.hid Lz190
  clear Lz190
  have B20 := below_then B19 B19.size C19
  go_wp2_with fail
  refine (int_104 n o _ Ln.out Lo.out).mono ?_
  rintro e v20 ⟨z20, rfl, Hz20, Lz200, C20⟩
  have Lz20 := Lib.hid Lz200
  clear Lz200
  have B21 := below_then B20 B20.size C20
  go_wp2_with fail
  refine (int_104 m z20 _ Lm.out Lz20.out).mono ?_
  rintro e v21 ⟨z21, rfl, Hz21, Lz210, C21⟩
  have Lz21 := Lib.hid Lz210
  clear Lz210
  have B22 := below_then B21 B21.size C21
  have qorder7 : (z19 == z21) = true := beq_iff_eq.2 (by simp only [Hz19.out, Hz18.out, Hz21.out, Hz20.out]; exact order7 m n o)
  go_wp2_with fail
  refine (int_96 n o _ Ln.out Lo.out).mono ?_
  rintro e v22 ⟨z22, rfl, Hz22, Lz220, C22⟩
  have Lz22 := Lib.hid Lz220
  clear Lz220
  have B23 := below_then B22 B22.size C22
  go_wp2_with fail
  refine (int_104 m z22 _ Lm.out Lz22.out).mono ?_
  rintro e v23 ⟨z23, rfl, Hz23, Lz230, C23⟩
  have Lz23 := Lib.hid Lz230
  clear Lz230
  have B24 := below_then B23 B23.size C23
  go_wp2_with fail
  refine (int_104 m n _ Lm.out Ln.out).mono ?_
  rintro e v24 ⟨z24, rfl, Hz24, Lz240, C24⟩
  have Lz24 := Lib.hid Lz240
  clear Lz240
  have B25 := below_then B24 B24.size C24
  go_wp2_with fail
  refine (int_104 m o _ Lm.out Lo.out).mono ?_
  rintro e v25 ⟨z25, rfl, Hz25, Lz250, C25⟩
  have Lz25 := Lib.hid Lz250
  clear Lz250
  have B26 := below_then B25 B25.size C25
  go_wp2_with fail
  refine (int_96 z24 z25 _ Lz24.out Lz25.out).mono ?_
  rintro e v26 ⟨z26, rfl, Hz26, Lz260, C26⟩
  have Lz26 := Lib.hid Lz260
  clear Lz260
  have B27 := below_then B26 B26.size C26
  have qorder8 : (z23 == z26) = true := beq_iff_eq.2 (by simp only [Hz23.out, Hz22.out, Hz26.out, Hz24.out, Hz25.out]; exact order8 m n o)
  go_wp2_with fail
  refine (int_96 m n _ Lm.out Ln.out).mono ?_
  rintro e v27 ⟨z27, rfl, Hz27, Lz270, C27⟩
  have Lz27 := Lib.hid Lz270
  clear Lz270
  have B28 := below_then B27 B27.size C27
  go_wp2_with fail
  refine (int_100 z27 n _ Lz27.out Ln.out).mono ?_
  rintro e v28 ⟨z28, rfl, Hz28, Lz280, C28⟩
  have Lz28 := Lib.hid Lz280
  clear Lz280
  have B29 := below_then B28 B28.size C28
  have qorder9 : (z28 == m) = true := beq_iff_eq.2 (by simp only [Hz28.out, Hz27.out]; exact order9 m n Lm.out)
  go_wp2
  go_ret
  exact ⟨rfl, B29⟩
end Go.Proofs.Ytencepjebdadcaa.A
