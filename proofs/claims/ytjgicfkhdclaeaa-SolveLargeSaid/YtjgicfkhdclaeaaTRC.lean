import Derived.Test.YtjgicfkhdclaeaaJH
import Derived.Test.YtjgicfkhdclaeaaJQuiet
import Derived.Test.YtjgicfkhdclaeaaRows
set_option linter.all false
namespace Go.Proofs.Ytjgicfkhdclaeaa
open Go.J
/-! triangle_Set_Size: function 47, 36 temporaries. -/
def S_triangle_Set_Size_r0 : SC := .reg [⟨some 4, .box 31 (.tmp 1), none⟩,
  ⟨some 6, .assign (.const (.int .i64 0)), none⟩]
def S_triangle_Set_Size_r1 : SC := .reg [⟨some 10, .move (.tmp 0), none⟩,
  ⟨some 11, .load 31 (.tmp 4), none⟩,
  ⟨some 12, .call ⟨.value (.func 69), #[(.tmp 10), (.tmp 11)], #[79, 31]⟩, none⟩,
  ⟨none, .store 31 (.tmp 4) (.tmp 12), none⟩]
def S_triangle_Set_Size_r2 : SC := .reg [⟨some 7, .assign (.const (.int .i64 1)), none⟩]
def S_triangle_Set_Size_r3 : SC := .reg [⟨some 13, .fieldAddr 31 (.tmp 4) 4, none⟩,
  ⟨some 14, .load 29 (.tmp 13), none⟩,
  ⟨some 15, .call ⟨.builtin .len, #[(.tmp 14)], #[29]⟩, none⟩,
  ⟨some 16, .move (.const (.int .i64 0)), none⟩]
def S_triangle_Set_Size_r4 : SC := .reg [⟨some 17, .binOp .lss 3 (.tmp 16) (.tmp 15) 3, none⟩]
def S_triangle_Set_Size_r5 : SC := .reg [⟨some 18, .indexAddr 29 (.tmp 14) (.tmp 16), none⟩,
  ⟨some 19, .load 31 (.tmp 18), none⟩,
  ⟨some 9, .alloc 31, none⟩,
  ⟨none, .store 31 (.tmp 9) (.tmp 19), none⟩]
def S_triangle_Set_Size_r6 : SC := .reg [⟨some 20, .move (.tmp 7), none⟩,
  ⟨some 21, .move (.tmp 2), none⟩,
  ⟨some 22, .binOp .gtr 3 (.tmp 20) (.tmp 21) 3, none⟩]
def S_triangle_Set_Size_r7 : SC := .reg [⟨some 23, .move (.tmp 7), none⟩,
  ⟨some 24, .move (.tmp 0), none⟩,
  ⟨some 25, .load 31 (.tmp 9), none⟩,
  ⟨some 26, .move (.tmp 2), none⟩,
  ⟨some 27, .move (.tmp 7), none⟩,
  ⟨some 28, .binOp .sub 3 (.tmp 26) (.tmp 27) 3, none⟩,
  ⟨some 29, .call ⟨.value (.func 47), #[(.tmp 24), (.tmp 25), (.tmp 28)], #[79, 31, 3]⟩, none⟩,
  ⟨some 30, .binOp .add 3 (.tmp 23) (.tmp 29) 3, none⟩,
  ⟨some 7, .assign (.tmp 30), none⟩]
def S_triangle_Set_Size_b0 : SC := .block 1 (.seq S_triangle_Set_Size_r5 (.seq (.seq S_triangle_Set_Size_r6 (.cond (.tmp 22) (.exit 0) .skip)) S_triangle_Set_Size_r7))
def S_triangle_Set_Size_r8 : SC := .reg [⟨some 31, .binOp .add 3 (.tmp 16) (.const (.int .i64 1)) 3, none⟩,
  ⟨some 16, .move (.tmp 31), none⟩]
def S_triangle_Set_Size_l0 : SC := (.seq S_triangle_Set_Size_r4 (.seq (.cond (.tmp 17) .skip (.exit 0)) (.seq S_triangle_Set_Size_b0 S_triangle_Set_Size_r8)))
def S_triangle_Set_Size_b1 : SC := .block 0 (.loop S_triangle_Set_Size_l0)
def S_triangle_Set_Size_r9 : SC := .reg [⟨some 32, .move (.tmp 7), none⟩,
  ⟨some 33, .move (.tmp 2), none⟩,
  ⟨some 34, .binOp .add 3 (.tmp 33) (.const (.int .i64 1)) 3, none⟩,
  ⟨some 35, .call ⟨.builtin .min, #[(.tmp 32), (.tmp 34)], #[3, 3]⟩, none⟩,
  ⟨some 6, .assign (.tmp 35), none⟩]
def S_triangle_Set_Size : SC := (.seq S_triangle_Set_Size_r0 (.seq S_triangle_Set_Size_r1 (.seq S_triangle_Set_Size_r2 (.seq (.seq S_triangle_Set_Size_r3 S_triangle_Set_Size_b1) (.seq S_triangle_Set_Size_r9 .ret)))))
theorem BS_triangle_Set_Size : Try.f47.body.bind stripC = some S_triangle_Set_Size := by kernel_rfl
/-! triangle_Set_Walk: function 69, 24 temporaries. -/
def S_triangle_Set_Walk_r0 : SC := .reg [⟨some 3, .box 31 (.tmp 1), none⟩,
  ⟨some 4, .alloc 31, none⟩]
def S_triangle_Set_Walk_r1 : SC := .reg [⟨some 7, .fieldAddr 31 (.tmp 3) 0, none⟩,
  ⟨some 8, .load 3 (.tmp 7), none⟩,
  ⟨some 9, .binOp .eql 3 (.tmp 8) (.const (.int .i64 1)) 3, none⟩]
def S_triangle_Set_Walk_r2 : SC := .draw [⟨some 11, .move (.tmp 0), none, [0]⟩,
  ⟨some 12, .nilCheck (.tmp 11), none, [11]⟩,
  ⟨some 13, .fieldAddr 100 (.tmp 12) 0, none, [12]⟩,
  ⟨some 14, .load 98 (.tmp 13), none, [13]⟩,
  ⟨some 15, .fieldAddr 31 (.tmp 3) 2, none, [3]⟩,
  ⟨some 16, .load 3 (.tmp 15), none, [15]⟩,
  ⟨some 17, .lookup 98 (.tmp 14) (.tmp 16) true, none, [14, 16]⟩,
  ⟨some 10, .move (.tmp 17), none, [17]⟩,
  ⟨some 18, .extract (.tmp 10) 0, none, [10]⟩,
  ⟨some 19, .extract (.tmp 10) 1, none, [10]⟩,
  ⟨some 5, .alloc 31, none, []⟩,
  ⟨none, .store 31 (.tmp 5) (.tmp 18), none, [5, 18]⟩,
  ⟨some 6, .assign (.tmp 19), none, [19]⟩] [0, 1, 3, 7, 0, 16, 63, 127, 255, 255, 0, 1535, 4095]
def S_triangle_Set_Walk_r3 : SC := .reg [⟨some 20, .move (.tmp 6), none⟩,
  ⟨some 21, .unOp .not 4 (.tmp 20), none⟩]
def S_triangle_Set_Walk_r4 : SC := .reg [⟨some 22, .load 31 (.tmp 5), none⟩,
  ⟨none, .store 31 (.tmp 3) (.tmp 22), none⟩]
def S_triangle_Set_Walk_b0 : SC := .block 1 (.seq S_triangle_Set_Walk_r2 (.seq (.seq S_triangle_Set_Walk_r3 (.cond (.tmp 21) (.exit 0) .skip)) S_triangle_Set_Walk_r4))
def S_triangle_Set_Walk_l0 : SC := (.seq (.seq S_triangle_Set_Walk_r1 (.cond (.tmp 9) .skip (.exit 0))) S_triangle_Set_Walk_b0)
def S_triangle_Set_Walk_b1 : SC := .block 0 (.loop S_triangle_Set_Walk_l0)
def S_triangle_Set_Walk_r5 : SC := .reg [⟨some 23, .load 31 (.tmp 3), none⟩,
  ⟨none, .store 31 (.tmp 4) (.tmp 23), none⟩]
def S_triangle_Set_Walk : SC := (.seq S_triangle_Set_Walk_r0 (.seq S_triangle_Set_Walk_b1 (.seq S_triangle_Set_Walk_r5 .ret)))
theorem BS_triangle_Set_Walk : Try.f69.body.bind stripC = some S_triangle_Set_Walk := by kernel_rfl
end Go.Proofs.Ytjgicfkhdclaeaa
