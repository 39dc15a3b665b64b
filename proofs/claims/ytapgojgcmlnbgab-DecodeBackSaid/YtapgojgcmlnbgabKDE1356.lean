/- The word of each form, as decode.Encode puts it together. Printed by gen_enc.py. -/
import Derived.Test.YtapgojgcmlnbgabKHS902
import Derived.Test.YtapgojgcmlnbgabKHS904
set_option linter.unusedSimpArgs false
set_option linter.unusedVariables false

namespace Go.Proofs.Ytapgojgcmlnbgab
open Go

theorem encE_0 (low rd mid rs1 rs2 up n : Int) (l0 : 0 ≤ low) (l1 : low < 128) (m0 : 0 ≤ mid) (m1 : mid < 8) (u0 : 0 ≤ up) (u1 : up < 128) (r0 : 0 ≤ rd) (r1 : rd ≤ 31) (s0 : 0 ≤ rs1) (s1 : rs1 ≤ 31) (q0 : 0 ≤ rs2) (q1 : rs2 ≤ 31) (n0 : 0 ≤ n) (n1 : n ≤ 4294967295) (zmid : mid = 0) (zrs1 : rs1 = 0) (zrs2 : rs2 = 0) :
    (bits .or .u32 (bits .or .u32 (bits .or .u32 (bits .or .u32 (bits .or .u32 low (rd * 128)) (mid * 4096)) (rs1 * 32768)) (rs2 * 1048576)) (bits .andNot .u32 n 4095)) = low + rd * 128 + mid * 4096 + rs1 * 32768 + rs2 * 1048576 + (n - n % 4096) := by
  have fl : InW 127 low := by simpa using InW.field low 0 7 1 l0 (by omega) (by decide) 127 (by decide)
  have fr : InW 3968 (rd * 128) := InW.field (rd) 7 5 128 r0 (by simp; omega) (by decide) 3968 (by decide)
  have fm : InW 0 (mid * 4096) := InW.field (mid) 12 0 4096 m0 (by simp; omega) (by decide) 0 (by decide)
  have f1 : InW 0 (rs1 * 32768) := InW.field (rs1) 15 0 32768 s0 (by simp; omega) (by decide) 0 (by decide)
  have f2 : InW 0 (rs2 * 1048576) := InW.field (rs2) 20 0 1048576 q0 (by simp; omega) (by decide) 0 (by decide)
  obtain ⟨e1, g1⟩ := fl.or fr (by decide) (by decide)
  obtain ⟨e2, g2⟩ := g1.or fm (by decide) (by decide)
  obtain ⟨e3, g3⟩ := g2.or f1 (by decide) (by decide)
  obtain ⟨e4, g4⟩ := g3.or f2 (by decide) (by decide)
  have hn : n - n % 4096 = (n / 4096) * 4096 := by omega
  have t0 : InW 4294963200 (n - n % 4096) := by rw [hn]; exact InW.field (n / 4096) 12 20 4096 (by omega) (by simp; omega) (by decide) 4294963200 (by decide)
  obtain ⟨e5, g5⟩ := g4.or t0 (by decide) (by decide)
  rw [andNot12 n n0 n1, e1, e2, e3, e4, e5]
theorem encE_1 (low rd mid rs1 rs2 up n : Int) (l0 : 0 ≤ low) (l1 : low < 128) (m0 : 0 ≤ mid) (m1 : mid < 8) (u0 : 0 ≤ up) (u1 : up < 128) (r0 : 0 ≤ rd) (r1 : rd ≤ 31) (s0 : 0 ≤ rs1) (s1 : rs1 ≤ 31) (q0 : 0 ≤ rs2) (q1 : rs2 ≤ 31) (n0 : 0 ≤ n) (n1 : n ≤ 4294967295) (zmid : mid = 0) (zrs1 : rs1 = 0) (zrs2 : rs2 = 0) :
    (bits .or .u32 (bits .or .u32 (bits .or .u32 (bits .or .u32 (bits .or .u32 low (rd * 128)) (mid * 4096)) (rs1 * 32768)) (rs2 * 1048576)) (bits .or .u32 (bits .or .u32 (bits .or .u32 (cutI n 20 20 * 2147483648 % 4294967296) (cutI n 12 19 * 4096 % 4294967296)) (cutI n 11 11 * 1048576 % 4294967296)) (cutI n 1 10 * 2097152 % 4294967296))) = low + rd * 128 + mid * 4096 + rs1 * 32768 + rs2 * 1048576 + cutI n 20 20 * 2147483648 + cutI n 12 19 * 4096 + cutI n 11 11 * 1048576 + cutI n 1 10 * 2097152 := by
  have fl : InW 127 low := by simpa using InW.field low 0 7 1 l0 (by omega) (by decide) 127 (by decide)
  have fr : InW 3968 (rd * 128) := InW.field (rd) 7 5 128 r0 (by simp; omega) (by decide) 3968 (by decide)
  have fm : InW 0 (mid * 4096) := InW.field (mid) 12 0 4096 m0 (by simp; omega) (by decide) 0 (by decide)
  have f1 : InW 0 (rs1 * 32768) := InW.field (rs1) 15 0 32768 s0 (by simp; omega) (by decide) 0 (by decide)
  have f2 : InW 0 (rs2 * 1048576) := InW.field (rs2) 20 0 1048576 q0 (by simp; omega) (by decide) 0 (by decide)
  obtain ⟨e1, g1⟩ := fl.or fr (by decide) (by decide)
  obtain ⟨e2, g2⟩ := g1.or fm (by decide) (by decide)
  obtain ⟨e3, g3⟩ := g2.or f1 (by decide) (by decide)
  obtain ⟨e4, g4⟩ := g3.or f2 (by decide) (by decide)
  have c0 := cut_hi n 20 20 2 (by decide)
  have t0 : InW 2147483648 (cutI n 20 20 * 2147483648) := InW.field (cutI n 20 20) 31 1 2147483648 c0.1 (by simp; omega) (by decide) 2147483648 (by decide)
  have x0 : cutI n 20 20 * 2147483648 % 4294967296 = cutI n 20 20 * 2147483648 := by omega
  have c1 := cut_hi n 12 19 256 (by decide)
  have t1 : InW 1044480 (cutI n 12 19 * 4096) := InW.field (cutI n 12 19) 12 8 4096 c1.1 (by simp; omega) (by decide) 1044480 (by decide)
  have x1 : cutI n 12 19 * 4096 % 4294967296 = cutI n 12 19 * 4096 := by omega
  have c2 := cut_hi n 11 11 2 (by decide)
  have t2 : InW 1048576 (cutI n 11 11 * 1048576) := InW.field (cutI n 11 11) 20 1 1048576 c2.1 (by simp; omega) (by decide) 1048576 (by decide)
  have x2 : cutI n 11 11 * 1048576 % 4294967296 = cutI n 11 11 * 1048576 := by omega
  have c3 := cut_hi n 1 10 1024 (by decide)
  have t3 : InW 2145386496 (cutI n 1 10 * 2097152) := InW.field (cutI n 1 10) 21 10 2097152 c3.1 (by simp; omega) (by decide) 2145386496 (by decide)
  have x3 : cutI n 1 10 * 2097152 % 4294967296 = cutI n 1 10 * 2097152 := by omega
  obtain ⟨y1, h1⟩ := t0.or t1 (by decide) (by decide)
  obtain ⟨y2, h2⟩ := h1.or t2 (by decide) (by decide)
  obtain ⟨y3, h3⟩ := h2.or t3 (by decide) (by decide)
  obtain ⟨e5, g5⟩ := g4.or h3 (by decide) (by decide)
  rw [x0, x1, x2, x3, y1, y2, y3, e1, e2, e3, e4, e5]
  all_goals omega
theorem encE_2 (low rd mid rs1 rs2 up n : Int) (l0 : 0 ≤ low) (l1 : low < 128) (m0 : 0 ≤ mid) (m1 : mid < 8) (u0 : 0 ≤ up) (u1 : up < 128) (r0 : 0 ≤ rd) (r1 : rd ≤ 31) (s0 : 0 ≤ rs1) (s1 : rs1 ≤ 31) (q0 : 0 ≤ rs2) (q1 : rs2 ≤ 31) (n0 : 0 ≤ n) (n1 : n ≤ 4294967295) (zrs2 : rs2 = 0) :
    (bits .or .u32 (bits .or .u32 (bits .or .u32 (bits .or .u32 (bits .or .u32 low (rd * 128)) (mid * 4096)) (rs1 * 32768)) (rs2 * 1048576)) (cutI n 0 11 * 1048576 % 4294967296)) = low + rd * 128 + mid * 4096 + rs1 * 32768 + rs2 * 1048576 + cutI n 0 11 * 1048576 := by
  have fl : InW 127 low := by simpa using InW.field low 0 7 1 l0 (by omega) (by decide) 127 (by decide)
  have fr : InW 3968 (rd * 128) := InW.field (rd) 7 5 128 r0 (by simp; omega) (by decide) 3968 (by decide)
  have fm : InW 28672 (mid * 4096) := InW.field (mid) 12 3 4096 m0 (by simp; omega) (by decide) 28672 (by decide)
  have f1 : InW 1015808 (rs1 * 32768) := InW.field (rs1) 15 5 32768 s0 (by simp; omega) (by decide) 1015808 (by decide)
  have f2 : InW 0 (rs2 * 1048576) := InW.field (rs2) 20 0 1048576 q0 (by simp; omega) (by decide) 0 (by decide)
  obtain ⟨e1, g1⟩ := fl.or fr (by decide) (by decide)
  obtain ⟨e2, g2⟩ := g1.or fm (by decide) (by decide)
  obtain ⟨e3, g3⟩ := g2.or f1 (by decide) (by decide)
  obtain ⟨e4, g4⟩ := g3.or f2 (by decide) (by decide)
  have c0 := cut_hi n 0 11 4096 (by decide)
  have t0 : InW 4293918720 (cutI n 0 11 * 1048576) := InW.field (cutI n 0 11) 20 12 1048576 c0.1 (by simp; omega) (by decide) 4293918720 (by decide)
  have x0 : cutI n 0 11 * 1048576 % 4294967296 = cutI n 0 11 * 1048576 := by omega
  obtain ⟨e5, g5⟩ := g4.or t0 (by decide) (by decide)
  rw [x0, e1, e2, e3, e4, e5]
  all_goals omega
theorem encE_3 (low rd mid rs1 rs2 up n : Int) (l0 : 0 ≤ low) (l1 : low < 128) (m0 : 0 ≤ mid) (m1 : mid < 8) (u0 : 0 ≤ up) (u1 : up < 128) (r0 : 0 ≤ rd) (r1 : rd ≤ 31) (s0 : 0 ≤ rs1) (s1 : rs1 ≤ 31) (q0 : 0 ≤ rs2) (q1 : rs2 ≤ 31) (n0 : 0 ≤ n) (n1 : n ≤ 4294967295) (zrs2 : rs2 = 0) :
    (bits .or .u32 (bits .or .u32 (bits .or .u32 (bits .or .u32 (bits .or .u32 low (rd * 128)) (mid * 4096)) (rs1 * 32768)) (rs2 * 1048576)) (bits .or .u32 (cutI n 0 4 * 1048576 % 4294967296) (up * 33554432))) = low + rd * 128 + mid * 4096 + rs1 * 32768 + rs2 * 1048576 + cutI n 0 4 * 1048576 + up * 33554432 := by
  have fl : InW 127 low := by simpa using InW.field low 0 7 1 l0 (by omega) (by decide) 127 (by decide)
  have fr : InW 3968 (rd * 128) := InW.field (rd) 7 5 128 r0 (by simp; omega) (by decide) 3968 (by decide)
  have fm : InW 28672 (mid * 4096) := InW.field (mid) 12 3 4096 m0 (by simp; omega) (by decide) 28672 (by decide)
  have f1 : InW 1015808 (rs1 * 32768) := InW.field (rs1) 15 5 32768 s0 (by simp; omega) (by decide) 1015808 (by decide)
  have f2 : InW 0 (rs2 * 1048576) := InW.field (rs2) 20 0 1048576 q0 (by simp; omega) (by decide) 0 (by decide)
  obtain ⟨e1, g1⟩ := fl.or fr (by decide) (by decide)
  obtain ⟨e2, g2⟩ := g1.or fm (by decide) (by decide)
  obtain ⟨e3, g3⟩ := g2.or f1 (by decide) (by decide)
  obtain ⟨e4, g4⟩ := g3.or f2 (by decide) (by decide)
  have c0 := cut_hi n 0 4 32 (by decide)
  have t0 : InW 32505856 (cutI n 0 4 * 1048576) := InW.field (cutI n 0 4) 20 5 1048576 c0.1 (by simp; omega) (by decide) 32505856 (by decide)
  have x0 : cutI n 0 4 * 1048576 % 4294967296 = cutI n 0 4 * 1048576 := by omega
  have t1 : InW 4261412864 (up * 33554432) := InW.field up 25 7 33554432 u0 (by simp; omega) (by decide) 4261412864 (by decide)
  obtain ⟨y1, h1⟩ := t0.or t1 (by decide) (by decide)
  obtain ⟨e5, g5⟩ := g4.or h1 (by decide) (by decide)
  rw [x0, y1, e1, e2, e3, e4, e5]
  all_goals omega
theorem encE_4 (low rd mid rs1 rs2 up n : Int) (l0 : 0 ≤ low) (l1 : low < 128) (m0 : 0 ≤ mid) (m1 : mid < 8) (u0 : 0 ≤ up) (u1 : up < 128) (r0 : 0 ≤ rd) (r1 : rd ≤ 31) (s0 : 0 ≤ rs1) (s1 : rs1 ≤ 31) (q0 : 0 ≤ rs2) (q1 : rs2 ≤ 31) (n0 : 0 ≤ n) (n1 : n ≤ 4294967295) (zrd : rd = 0) :
    (bits .or .u32 (bits .or .u32 (bits .or .u32 (bits .or .u32 (bits .or .u32 low (rd * 128)) (mid * 4096)) (rs1 * 32768)) (rs2 * 1048576)) (bits .or .u32 (bits .or .u32 (bits .or .u32 (cutI n 12 12 * 2147483648 % 4294967296) (cutI n 11 11 * 128 % 4294967296)) (cutI n 5 10 * 33554432 % 4294967296)) (cutI n 1 4 * 256 % 4294967296))) = low + rd * 128 + mid * 4096 + rs1 * 32768 + rs2 * 1048576 + cutI n 12 12 * 2147483648 + cutI n 11 11 * 128 + cutI n 5 10 * 33554432 + cutI n 1 4 * 256 := by
  have fl : InW 127 low := by simpa using InW.field low 0 7 1 l0 (by omega) (by decide) 127 (by decide)
  have fr : InW 0 (rd * 128) := InW.field (rd) 7 0 128 r0 (by simp; omega) (by decide) 0 (by decide)
  have fm : InW 28672 (mid * 4096) := InW.field (mid) 12 3 4096 m0 (by simp; omega) (by decide) 28672 (by decide)
  have f1 : InW 1015808 (rs1 * 32768) := InW.field (rs1) 15 5 32768 s0 (by simp; omega) (by decide) 1015808 (by decide)
  have f2 : InW 32505856 (rs2 * 1048576) := InW.field (rs2) 20 5 1048576 q0 (by simp; omega) (by decide) 32505856 (by decide)
  obtain ⟨e1, g1⟩ := fl.or fr (by decide) (by decide)
  obtain ⟨e2, g2⟩ := g1.or fm (by decide) (by decide)
  obtain ⟨e3, g3⟩ := g2.or f1 (by decide) (by decide)
  obtain ⟨e4, g4⟩ := g3.or f2 (by decide) (by decide)
  have c0 := cut_hi n 12 12 2 (by decide)
  have t0 : InW 2147483648 (cutI n 12 12 * 2147483648) := InW.field (cutI n 12 12) 31 1 2147483648 c0.1 (by simp; omega) (by decide) 2147483648 (by decide)
  have x0 : cutI n 12 12 * 2147483648 % 4294967296 = cutI n 12 12 * 2147483648 := by omega
  have c1 := cut_hi n 11 11 2 (by decide)
  have t1 : InW 128 (cutI n 11 11 * 128) := InW.field (cutI n 11 11) 7 1 128 c1.1 (by simp; omega) (by decide) 128 (by decide)
  have x1 : cutI n 11 11 * 128 % 4294967296 = cutI n 11 11 * 128 := by omega
  have c2 := cut_hi n 5 10 64 (by decide)
  have t2 : InW 2113929216 (cutI n 5 10 * 33554432) := InW.field (cutI n 5 10) 25 6 33554432 c2.1 (by simp; omega) (by decide) 2113929216 (by decide)
  have x2 : cutI n 5 10 * 33554432 % 4294967296 = cutI n 5 10 * 33554432 := by omega
  have c3 := cut_hi n 1 4 16 (by decide)
  have t3 : InW 3840 (cutI n 1 4 * 256) := InW.field (cutI n 1 4) 8 4 256 c3.1 (by simp; omega) (by decide) 3840 (by decide)
  have x3 : cutI n 1 4 * 256 % 4294967296 = cutI n 1 4 * 256 := by omega
  obtain ⟨y1, h1⟩ := t0.or t1 (by decide) (by decide)
  obtain ⟨y2, h2⟩ := h1.or t2 (by decide) (by decide)
  obtain ⟨y3, h3⟩ := h2.or t3 (by decide) (by decide)
  obtain ⟨e5, g5⟩ := g4.or h3 (by decide) (by decide)
  rw [x0, x1, x2, x3, y1, y2, y3, e1, e2, e3, e4, e5]
  all_goals omega
theorem encE_5 (low rd mid rs1 rs2 up n : Int) (l0 : 0 ≤ low) (l1 : low < 128) (m0 : 0 ≤ mid) (m1 : mid < 8) (u0 : 0 ≤ up) (u1 : up < 128) (r0 : 0 ≤ rd) (r1 : rd ≤ 31) (s0 : 0 ≤ rs1) (s1 : rs1 ≤ 31) (q0 : 0 ≤ rs2) (q1 : rs2 ≤ 31) (n0 : 0 ≤ n) (n1 : n ≤ 4294967295) (zrd : rd = 0) :
    (bits .or .u32 (bits .or .u32 (bits .or .u32 (bits .or .u32 (bits .or .u32 low (rd * 128)) (mid * 4096)) (rs1 * 32768)) (rs2 * 1048576)) (bits .or .u32 (cutI n 5 11 * 33554432 % 4294967296) (cutI n 0 4 * 128 % 4294967296))) = low + rd * 128 + mid * 4096 + rs1 * 32768 + rs2 * 1048576 + cutI n 5 11 * 33554432 + cutI n 0 4 * 128 := by
  have fl : InW 127 low := by simpa using InW.field low 0 7 1 l0 (by omega) (by decide) 127 (by decide)
  have fr : InW 0 (rd * 128) := InW.field (rd) 7 0 128 r0 (by simp; omega) (by decide) 0 (by decide)
  have fm : InW 28672 (mid * 4096) := InW.field (mid) 12 3 4096 m0 (by simp; omega) (by decide) 28672 (by decide)
  have f1 : InW 1015808 (rs1 * 32768) := InW.field (rs1) 15 5 32768 s0 (by simp; omega) (by decide) 1015808 (by decide)
  have f2 : InW 32505856 (rs2 * 1048576) := InW.field (rs2) 20 5 1048576 q0 (by simp; omega) (by decide) 32505856 (by decide)
  obtain ⟨e1, g1⟩ := fl.or fr (by decide) (by decide)
  obtain ⟨e2, g2⟩ := g1.or fm (by decide) (by decide)
  obtain ⟨e3, g3⟩ := g2.or f1 (by decide) (by decide)
  obtain ⟨e4, g4⟩ := g3.or f2 (by decide) (by decide)
  have c0 := cut_hi n 5 11 128 (by decide)
  have t0 : InW 4261412864 (cutI n 5 11 * 33554432) := InW.field (cutI n 5 11) 25 7 33554432 c0.1 (by simp; omega) (by decide) 4261412864 (by decide)
  have x0 : cutI n 5 11 * 33554432 % 4294967296 = cutI n 5 11 * 33554432 := by omega
  have c1 := cut_hi n 0 4 32 (by decide)
  have t1 : InW 3968 (cutI n 0 4 * 128) := InW.field (cutI n 0 4) 7 5 128 c1.1 (by simp; omega) (by decide) 3968 (by decide)
  have x1 : cutI n 0 4 * 128 % 4294967296 = cutI n 0 4 * 128 := by omega
  obtain ⟨y1, h1⟩ := t0.or t1 (by decide) (by decide)
  obtain ⟨e5, g5⟩ := g4.or h1 (by decide) (by decide)
  rw [x0, x1, y1, e1, e2, e3, e4, e5]
  all_goals omega
theorem encE_6 (low rd mid rs1 rs2 up n : Int) (l0 : 0 ≤ low) (l1 : low < 128) (m0 : 0 ≤ mid) (m1 : mid < 8) (u0 : 0 ≤ up) (u1 : up < 128) (r0 : 0 ≤ rd) (r1 : rd ≤ 31) (s0 : 0 ≤ rs1) (s1 : rs1 ≤ 31) (q0 : 0 ≤ rs2) (q1 : rs2 ≤ 31) (n0 : 0 ≤ n) (n1 : n ≤ 4294967295)  :
    (bits .or .u32 (bits .or .u32 (bits .or .u32 (bits .or .u32 (bits .or .u32 low (rd * 128)) (mid * 4096)) (rs1 * 32768)) (rs2 * 1048576)) (up * 33554432)) = low + rd * 128 + mid * 4096 + rs1 * 32768 + rs2 * 1048576 + up * 33554432 := by
  have fl : InW 127 low := by simpa using InW.field low 0 7 1 l0 (by omega) (by decide) 127 (by decide)
  have fr : InW 3968 (rd * 128) := InW.field (rd) 7 5 128 r0 (by simp; omega) (by decide) 3968 (by decide)
  have fm : InW 28672 (mid * 4096) := InW.field (mid) 12 3 4096 m0 (by simp; omega) (by decide) 28672 (by decide)
  have f1 : InW 1015808 (rs1 * 32768) := InW.field (rs1) 15 5 32768 s0 (by simp; omega) (by decide) 1015808 (by decide)
  have f2 : InW 32505856 (rs2 * 1048576) := InW.field (rs2) 20 5 1048576 q0 (by simp; omega) (by decide) 32505856 (by decide)
  obtain ⟨e1, g1⟩ := fl.or fr (by decide) (by decide)
  obtain ⟨e2, g2⟩ := g1.or fm (by decide) (by decide)
  obtain ⟨e3, g3⟩ := g2.or f1 (by decide) (by decide)
  obtain ⟨e4, g4⟩ := g3.or f2 (by decide) (by decide)
  have t0 : InW 4261412864 (up * 33554432) := InW.field up 25 7 33554432 u0 (by simp; omega) (by decide) 4261412864 (by decide)
  obtain ⟨e5, g5⟩ := g4.or t0 (by decide) (by decide)
  rw [e1, e2, e3, e4, e5]
  all_goals omega
theorem encE_7 (low rd mid rs1 rs2 up n : Int) (l0 : 0 ≤ low) (l1 : low < 128) (m0 : 0 ≤ mid) (m1 : mid < 8) (u0 : 0 ≤ up) (u1 : up < 128) (r0 : 0 ≤ rd) (r1 : rd ≤ 31) (s0 : 0 ≤ rs1) (s1 : rs1 ≤ 31) (q0 : 0 ≤ rs2) (q1 : rs2 ≤ 31) (n0 : 0 ≤ n) (n1 : n ≤ 4294967295) (zrd : rd = 0) (zmid : mid = 0) (zrs1 : rs1 = 0) (zrs2 : rs2 = 0) :
    (bits .or .u32 (bits .or .u32 (bits .or .u32 (bits .or .u32 (bits .or .u32 low (rd * 128)) (mid * 4096)) (rs1 * 32768)) (rs2 * 1048576)) (up * 1048576)) = low + rd * 128 + mid * 4096 + rs1 * 32768 + rs2 * 1048576 + up * 1048576 := by
  have fl : InW 127 low := by simpa using InW.field low 0 7 1 l0 (by omega) (by decide) 127 (by decide)
  have fr : InW 0 (rd * 128) := InW.field (rd) 7 0 128 r0 (by simp; omega) (by decide) 0 (by decide)
  have fm : InW 0 (mid * 4096) := InW.field (mid) 12 0 4096 m0 (by simp; omega) (by decide) 0 (by decide)
  have f1 : InW 0 (rs1 * 32768) := InW.field (rs1) 15 0 32768 s0 (by simp; omega) (by decide) 0 (by decide)
  have f2 : InW 0 (rs2 * 1048576) := InW.field (rs2) 20 0 1048576 q0 (by simp; omega) (by decide) 0 (by decide)
  obtain ⟨e1, g1⟩ := fl.or fr (by decide) (by decide)
  obtain ⟨e2, g2⟩ := g1.or fm (by decide) (by decide)
  obtain ⟨e3, g3⟩ := g2.or f1 (by decide) (by decide)
  obtain ⟨e4, g4⟩ := g3.or f2 (by decide) (by decide)
  have t0 : InW 133169152 (up * 1048576) := InW.field up 20 7 1048576 u0 (by simp; omega) (by decide) 133169152 (by decide)
  obtain ⟨e5, g5⟩ := g4.or t0 (by decide) (by decide)
  rw [e1, e2, e3, e4, e5]
  all_goals omega
end Go.Proofs.Ytapgojgcmlnbgab
