import Derived.Test.YtjgicfkhdclaeaaJG
import Derived.Test.YtjgicfkhdclaeaaRows
set_option linter.all false
namespace Go.Proofs.Ytjgicfkhdclaeaa
open Go.J
/-! store_has: function 31, 14 temporaries. -/
def S_store_has_r0 : SC := .reg [⟨some 2, .box 27 (.tmp 0), none⟩,
  ⟨some 4, .assign (.const (.bool false)), none⟩]
def S_store_has_r1 : SC := .reg [⟨some 5, .move (.tmp 1), none⟩,
  ⟨some 6, .binOp .geq 3 (.tmp 5) (.const (.int .i64 0)) 3, none⟩,
  ⟨some 7, .move (.tmp 6), none⟩,
  ⟨some 8, .move (.tmp 1), some (7, true)⟩,
  ⟨some 9, .fieldAddr 27 (.tmp 2) 0, some (7, true)⟩,
  ⟨some 10, .load 24 (.tmp 9), some (7, true)⟩,
  ⟨some 11, .call ⟨.builtin .len, #[(.tmp 10)], #[24]⟩, some (7, true)⟩,
  ⟨some 12, .binOp .lss 3 (.tmp 8) (.tmp 11) 3, some (7, true)⟩,
  ⟨some 13, .pick (.tmp 7) (.tmp 12) (.const (.bool false)), none⟩,
  ⟨some 4, .assign (.tmp 13), none⟩]
def S_store_has : SC := (.seq S_store_has_r0 (.seq S_store_has_r1 .ret))
theorem BS_store_has : Try.f31.body.bind stripC = some S_store_has := by kernel_rfl
/-! store_bound: function 57, 23 temporaries. -/
def S_store_bound_r0 : SC := .reg [⟨some 2, .box 27 (.tmp 0), none⟩,
  ⟨some 3, .box 31 (.tmp 1), none⟩,
  ⟨some 4, .assign (.const (.bool false)), none⟩]
def S_store_bound_r1 : SC := .reg [⟨some 5, .fieldAddr 31 (.tmp 3) 0, none⟩,
  ⟨some 6, .load 3 (.tmp 5), none⟩,
  ⟨some 7, .binOp .eql 3 (.tmp 6) (.const (.int .i64 1)) 3, none⟩,
  ⟨some 8, .move (.tmp 7), none⟩,
  ⟨some 9, .load 27 (.tmp 2), some (8, true)⟩,
  ⟨some 10, .fieldAddr 31 (.tmp 3) 2, some (8, true)⟩,
  ⟨some 11, .load 3 (.tmp 10), some (8, true)⟩,
  ⟨some 12, .call ⟨.value (.func 31), #[(.tmp 9), (.tmp 11)], #[27, 3]⟩, some (8, true)⟩,
  ⟨some 13, .pick (.tmp 8) (.tmp 12) (.const (.bool false)), none⟩,
  ⟨some 14, .move (.tmp 13), none⟩,
  ⟨some 15, .fieldAddr 27 (.tmp 2) 0, some (14, true)⟩,
  ⟨some 16, .load 24 (.tmp 15), some (14, true)⟩,
  ⟨some 17, .fieldAddr 31 (.tmp 3) 2, some (14, true)⟩,
  ⟨some 18, .load 3 (.tmp 17), some (14, true)⟩,
  ⟨some 19, .indexAddr 24 (.tmp 16) (.tmp 18), some (14, true)⟩,
  ⟨some 20, .fieldAddr 39 (.tmp 19) 0, some (14, true)⟩,
  ⟨some 21, .load 4 (.tmp 20), some (14, true)⟩,
  ⟨some 22, .pick (.tmp 14) (.tmp 21) (.const (.bool false)), none⟩,
  ⟨some 4, .assign (.tmp 22), none⟩]
def S_store_bound : SC := (.seq S_store_bound_r0 (.seq S_store_bound_r1 .ret))
theorem BS_store_bound : Try.f57.body.bind stripC = some S_store_bound := by kernel_rfl
/-! store_Walk: function 34, 23 temporaries. -/
def S_store_Walk_r0 : SC := .reg [⟨some 2, .box 27 (.tmp 0), none⟩,
  ⟨some 3, .box 31 (.tmp 1), none⟩,
  ⟨some 4, .alloc 31, none⟩]
def S_store_Walk_r1 : SC := .reg [⟨some 5, .fieldAddr 27 (.tmp 2) 0, none⟩,
  ⟨some 6, .load 24 (.tmp 5), none⟩,
  ⟨some 7, .call ⟨.builtin .len, #[(.tmp 6)], #[24]⟩, none⟩,
  ⟨some 8, .move (.const (.int .i64 0)), none⟩]
def S_store_Walk_r2 : SC := .reg [⟨some 9, .binOp .lss 3 (.tmp 8) (.tmp 7) 3, none⟩]
def S_store_Walk_r3 : SC := .reg [⟨some 10, .load 27 (.tmp 2), none⟩,
  ⟨some 11, .load 31 (.tmp 3), none⟩,
  ⟨some 12, .call ⟨.value (.func 57), #[(.tmp 10), (.tmp 11)], #[27, 31]⟩, none⟩,
  ⟨some 13, .unOp .not 4 (.tmp 12), none⟩]
def S_store_Walk_r4 : SC := .reg [⟨some 14, .fieldAddr 27 (.tmp 2) 0, none⟩,
  ⟨some 15, .load 24 (.tmp 14), none⟩,
  ⟨some 16, .fieldAddr 31 (.tmp 3) 2, none⟩,
  ⟨some 17, .load 3 (.tmp 16), none⟩,
  ⟨some 18, .indexAddr 24 (.tmp 15) (.tmp 17), none⟩,
  ⟨some 19, .fieldAddr 39 (.tmp 18) 1, none⟩,
  ⟨some 20, .load 31 (.tmp 19), none⟩,
  ⟨none, .store 31 (.tmp 3) (.tmp 20), none⟩]
def S_store_Walk_b0 : SC := .block 1 (.seq (.seq S_store_Walk_r3 (.cond (.tmp 13) (.exit 0) .skip)) S_store_Walk_r4)
def S_store_Walk_r5 : SC := .reg [⟨some 21, .binOp .add 3 (.tmp 8) (.const (.int .i64 1)) 3, none⟩,
  ⟨some 8, .move (.tmp 21), none⟩]
def S_store_Walk_l0 : SC := (.seq S_store_Walk_r2 (.seq (.cond (.tmp 9) .skip (.exit 0)) (.seq S_store_Walk_b0 S_store_Walk_r5)))
def S_store_Walk_b1 : SC := .block 0 (.loop S_store_Walk_l0)
def S_store_Walk_r6 : SC := .reg [⟨some 22, .load 31 (.tmp 3), none⟩,
  ⟨none, .store 31 (.tmp 4) (.tmp 22), none⟩]
def S_store_Walk : SC := (.seq S_store_Walk_r0 (.seq (.seq S_store_Walk_r1 S_store_Walk_b1) (.seq S_store_Walk_r6 .ret)))
theorem BS_store_Walk : Try.f34.body.bind stripC = some S_store_Walk := by kernel_rfl
/-! store_Size: function 15, 39 temporaries. -/
def S_store_Size_r0 : SC := .reg [⟨some 3, .box 27 (.tmp 0), none⟩,
  ⟨some 4, .box 31 (.tmp 1), none⟩,
  ⟨some 6, .assign (.const (.int .i64 0)), none⟩]
def S_store_Size_r1 : SC := .reg [⟨some 10, .move (.tmp 2), none⟩,
  ⟨some 11, .call ⟨.builtin .max, #[(.tmp 10), (.const (.int .i64 0))], #[3, 3]⟩, none⟩,
  ⟨some 2, .assign (.tmp 11), none⟩]
def S_store_Size_r2 : SC := .reg [⟨some 7, .assign (.const (.int .i64 1)), none⟩]
def S_store_Size_r3 : SC := .reg [⟨some 12, .load 27 (.tmp 3), none⟩,
  ⟨some 13, .load 31 (.tmp 4), none⟩,
  ⟨some 14, .call ⟨.value (.func 34), #[(.tmp 12), (.tmp 13)], #[27, 31]⟩, none⟩,
  ⟨some 15, .field 31 (.tmp 14) 4, none⟩,
  ⟨some 16, .call ⟨.builtin .len, #[(.tmp 15)], #[29]⟩, none⟩,
  ⟨some 17, .move (.const (.int .i64 0)), none⟩]
def S_store_Size_r4 : SC := .reg [⟨some 18, .binOp .lss 3 (.tmp 17) (.tmp 16) 3, none⟩]
def S_store_Size_r5 : SC := .reg [⟨some 19, .indexAddr 29 (.tmp 15) (.tmp 17), none⟩,
  ⟨some 20, .load 31 (.tmp 19), none⟩,
  ⟨some 9, .alloc 31, none⟩,
  ⟨none, .store 31 (.tmp 9) (.tmp 20), none⟩]
def S_store_Size_r6 : SC := .reg [⟨some 21, .move (.tmp 7), none⟩,
  ⟨some 22, .move (.tmp 2), none⟩,
  ⟨some 23, .binOp .gtr 3 (.tmp 21) (.tmp 22) 3, none⟩]
def S_store_Size_r7 : SC := .reg [⟨some 24, .move (.tmp 7), none⟩,
  ⟨some 25, .load 27 (.tmp 3), none⟩,
  ⟨some 26, .load 31 (.tmp 9), none⟩,
  ⟨some 27, .move (.tmp 2), none⟩,
  ⟨some 28, .move (.tmp 7), none⟩,
  ⟨some 29, .binOp .sub 3 (.tmp 27) (.tmp 28) 3, none⟩,
  ⟨some 30, .call ⟨.value (.func 15), #[(.tmp 25), (.tmp 26), (.tmp 29)], #[27, 31, 3]⟩, none⟩,
  ⟨some 31, .binOp .add 3 (.tmp 24) (.tmp 30) 3, none⟩,
  ⟨some 7, .assign (.tmp 31), none⟩]
def S_store_Size_b0 : SC := .block 1 (.seq S_store_Size_r5 (.seq (.seq S_store_Size_r6 (.cond (.tmp 23) (.exit 0) .skip)) S_store_Size_r7))
def S_store_Size_r8 : SC := .reg [⟨some 32, .binOp .add 3 (.tmp 17) (.const (.int .i64 1)) 3, none⟩,
  ⟨some 17, .move (.tmp 32), none⟩]
def S_store_Size_l0 : SC := (.seq S_store_Size_r4 (.seq (.cond (.tmp 18) .skip (.exit 0)) (.seq S_store_Size_b0 S_store_Size_r8)))
def S_store_Size_b1 : SC := .block 0 (.loop S_store_Size_l0)
def S_store_Size_r9 : SC := .reg [⟨some 33, .move (.tmp 7), none⟩,
  ⟨some 34, .move (.tmp 2), none⟩,
  ⟨some 35, .binOp .gtr 3 (.tmp 33) (.tmp 34) 3, none⟩]
def S_store_Size_r10 : SC := .reg [⟨some 36, .move (.tmp 2), none⟩,
  ⟨some 37, .binOp .add 3 (.tmp 36) (.const (.int .i64 1)) 3, none⟩,
  ⟨some 6, .assign (.tmp 37), none⟩]
def S_store_Size_r11 : SC := .reg [⟨some 38, .move (.tmp 7), none⟩,
  ⟨some 6, .assign (.tmp 38), none⟩]
def S_store_Size : SC := (.seq S_store_Size_r0 (.seq S_store_Size_r1 (.seq S_store_Size_r2 (.seq (.seq S_store_Size_r3 S_store_Size_b1) (.seq (.seq S_store_Size_r9 (.cond (.tmp 35) (.seq S_store_Size_r10 .ret) .skip)) (.seq S_store_Size_r11 .ret))))))
theorem BS_store_Size : Try.f15.body.bind stripC = some S_store_Size := by kernel_rfl
/-! store_New: function 9, 2 temporaries. -/
def S_store_New_r0 : SC := .reg [⟨some 0, .alloc 27, none⟩]
def S_store_New_r1 : SC := .reg [⟨some 1, .build 27 #[], none⟩,
  ⟨none, .store 27 (.tmp 0) (.tmp 1), none⟩]
def S_store_New : SC := (.seq S_store_New_r0 (.seq S_store_New_r1 .ret))
theorem BS_store_New : Try.f9.body.bind stripC = some S_store_New := by kernel_rfl
/-! store_Fresh: function 10, 36 temporaries. -/
def S_store_Fresh_r0 : SC := .reg [⟨some 3, .box 27 (.tmp 0), none⟩,
  ⟨some 6, .alloc 27, none⟩,
  ⟨some 7, .alloc 31, none⟩]
def S_store_Fresh_r1 : SC := .reg [⟨some 10, .fieldAddr 27 (.tmp 3) 0, none⟩,
  ⟨some 11, .load 24 (.tmp 10), none⟩,
  ⟨some 12, .call ⟨.builtin .len, #[(.tmp 11)], #[24]⟩, none⟩,
  ⟨some 8, .assign (.tmp 12), none⟩]
def S_store_Fresh_r2 : SC := .reg [⟨some 13, .move (.tmp 8), none⟩,
  ⟨some 14, .move (.tmp 8), none⟩,
  ⟨some 15, .binOp .add 3 (.tmp 14) (.const (.int .i64 1)) 3, none⟩,
  ⟨some 16, .makeSlice 24 (.tmp 13) (.tmp 15), none⟩,
  ⟨some 9, .assign (.tmp 16), none⟩]
def S_store_Fresh_r3 : SC := .reg [⟨some 17, .move (.tmp 9), none⟩,
  ⟨some 18, .fieldAddr 27 (.tmp 3) 0, none⟩,
  ⟨some 19, .load 24 (.tmp 18), none⟩,
  ⟨some 20, .call ⟨.builtin .copy, #[(.tmp 17), (.tmp 19)], #[24, 24]⟩, none⟩]
def S_store_Fresh_r4 : SC := .reg [⟨some 21, .move (.tmp 9), none⟩,
  ⟨some 22, .move (.tmp 1), none⟩,
  ⟨some 23, .move (.tmp 2), none⟩,
  ⟨some 24, .build 39 #[(2, (.tmp 22)), (3, (.tmp 23))], none⟩,
  ⟨some 25, .buildSlice 24 1 #[(0, (.tmp 24))], none⟩,
  ⟨some 26, .call ⟨.builtin .append, #[(.tmp 21), (.tmp 25)], #[24, 24]⟩, none⟩,
  ⟨some 9, .assign (.tmp 26), none⟩]
def S_store_Fresh_r5 : SC := .reg [⟨some 27, .move (.tmp 9), none⟩,
  ⟨some 28, .fieldAddr 27 (.tmp 3) 1, none⟩,
  ⟨some 29, .load 25 (.tmp 28), none⟩,
  ⟨some 30, .move (.tmp 8), none⟩,
  ⟨some 31, .build 64 #[(0, (.tmp 30)), (2, (.const (.bool true)))], none⟩,
  ⟨some 32, .call ⟨.value (.func 29), #[(.tmp 29), (.tmp 31)], #[25, 64]⟩, none⟩,
  ⟨some 33, .build 27 #[(0, (.tmp 27)), (1, (.tmp 32))], none⟩,
  ⟨some 34, .move (.tmp 8), none⟩,
  ⟨some 35, .call ⟨.value (.func 30), #[(.tmp 34)], #[3]⟩, none⟩,
  ⟨none, .store 27 (.tmp 6) (.tmp 33), none⟩,
  ⟨none, .store 31 (.tmp 7) (.tmp 35), none⟩]
def S_store_Fresh : SC := (.seq S_store_Fresh_r0 (.seq S_store_Fresh_r1 (.seq S_store_Fresh_r2 (.seq S_store_Fresh_r3 (.seq S_store_Fresh_r4 (.seq S_store_Fresh_r5 .ret))))))
theorem BS_store_Fresh : Try.f10.body.bind stripC = some S_store_Fresh := by kernel_rfl
/-! store_Set: function 11, 39 temporaries. -/
def S_store_Set_r0 : SC := .reg [⟨some 3, .box 27 (.tmp 0), none⟩,
  ⟨some 5, .box 39 (.tmp 2), none⟩,
  ⟨some 6, .alloc 27, none⟩,
  ⟨some 7, .assign (.const (.bool false)), none⟩]
def S_store_Set_r1 : SC := .reg [⟨some 10, .load 27 (.tmp 3), none⟩,
  ⟨some 11, .move (.tmp 1), none⟩,
  ⟨some 12, .call ⟨.value (.func 31), #[(.tmp 10), (.tmp 11)], #[27, 3]⟩, none⟩,
  ⟨some 13, .unOp .not 4 (.tmp 12), none⟩]
def S_store_Set_r2 : SC := .reg [⟨some 14, .load 27 (.tmp 3), none⟩,
  ⟨none, .store 27 (.tmp 6) (.tmp 14), none⟩,
  ⟨some 7, .assign (.const (.bool false)), none⟩]
def S_store_Set_r3 : SC := .reg [⟨some 15, .fieldAddr 27 (.tmp 3) 0, none⟩,
  ⟨some 16, .load 24 (.tmp 15), none⟩,
  ⟨some 17, .call ⟨.builtin .len, #[(.tmp 16)], #[24]⟩, none⟩,
  ⟨some 18, .makeSlice 24 (.tmp 17) (.tmp 17), none⟩,
  ⟨some 8, .assign (.tmp 18), none⟩]
def S_store_Set_r4 : SC := .reg [⟨some 19, .move (.tmp 8), none⟩,
  ⟨some 20, .fieldAddr 27 (.tmp 3) 0, none⟩,
  ⟨some 21, .load 24 (.tmp 20), none⟩,
  ⟨some 22, .call ⟨.builtin .copy, #[(.tmp 19), (.tmp 21)], #[24, 24]⟩, none⟩]
def S_store_Set_r5 : SC := .reg [⟨some 23, .move (.tmp 8), none⟩,
  ⟨some 24, .move (.tmp 1), none⟩,
  ⟨some 25, .indexAddr 24 (.tmp 23) (.tmp 24), none⟩,
  ⟨some 26, .load 39 (.tmp 25), none⟩,
  ⟨some 9, .alloc 39, none⟩,
  ⟨none, .store 39 (.tmp 9) (.tmp 26), none⟩]
def S_store_Set_r6 : SC := .reg [⟨some 27, .move (.tmp 8), none⟩,
  ⟨some 28, .move (.tmp 1), none⟩,
  ⟨some 29, .load 39 (.tmp 5), none⟩,
  ⟨some 30, .indexAddr 24 (.tmp 27) (.tmp 28), none⟩,
  ⟨none, .store 39 (.tmp 30) (.tmp 29), none⟩]
def S_store_Set_r7 : SC := .reg [⟨some 31, .move (.tmp 8), none⟩,
  ⟨some 32, .fieldAddr 27 (.tmp 3) 1, none⟩,
  ⟨some 33, .load 25 (.tmp 32), none⟩,
  ⟨some 34, .move (.tmp 1), none⟩,
  ⟨some 35, .load 39 (.tmp 9), none⟩,
  ⟨some 36, .build 64 #[(0, (.tmp 34)), (1, (.tmp 35))], none⟩,
  ⟨some 37, .call ⟨.value (.func 29), #[(.tmp 33), (.tmp 36)], #[25, 64]⟩, none⟩,
  ⟨some 38, .build 27 #[(0, (.tmp 31)), (1, (.tmp 37))], none⟩,
  ⟨none, .store 27 (.tmp 6) (.tmp 38), none⟩,
  ⟨some 7, .assign (.const (.bool true)), none⟩]
def S_store_Set : SC := (.seq S_store_Set_r0 (.seq (.seq S_store_Set_r1 (.cond (.tmp 13) (.seq S_store_Set_r2 .ret) .skip)) (.seq S_store_Set_r3 (.seq S_store_Set_r4 (.seq S_store_Set_r5 (.seq S_store_Set_r6 (.seq S_store_Set_r7 .ret)))))))
theorem BS_store_Set : Try.f11.body.bind stripC = some S_store_Set := by kernel_rfl
/-! store_log: function 29, 19 temporaries. -/
def S_store_log_r0 : SC := .reg [⟨some 3, .box 64 (.tmp 1), none⟩,
  ⟨some 4, .assign (.const (.slice none 0 0)), none⟩]
def S_store_log_r1 : SC := .reg [⟨some 6, .move (.tmp 0), none⟩,
  ⟨some 7, .call ⟨.builtin .len, #[(.tmp 6)], #[25]⟩, none⟩,
  ⟨some 8, .move (.tmp 0), none⟩,
  ⟨some 9, .call ⟨.builtin .len, #[(.tmp 8)], #[25]⟩, none⟩,
  ⟨some 10, .binOp .add 3 (.tmp 9) (.const (.int .i64 1)) 3, none⟩,
  ⟨some 11, .makeSlice 25 (.tmp 7) (.tmp 10), none⟩,
  ⟨some 5, .assign (.tmp 11), none⟩]
def S_store_log_r2 : SC := .reg [⟨some 12, .move (.tmp 5), none⟩,
  ⟨some 13, .move (.tmp 0), none⟩,
  ⟨some 14, .call ⟨.builtin .copy, #[(.tmp 12), (.tmp 13)], #[25, 25]⟩, none⟩]
def S_store_log_r3 : SC := .reg [⟨some 15, .move (.tmp 5), none⟩,
  ⟨some 16, .load 64 (.tmp 3), none⟩,
  ⟨some 17, .buildSlice 25 1 #[(0, (.tmp 16))], none⟩,
  ⟨some 18, .call ⟨.builtin .append, #[(.tmp 15), (.tmp 17)], #[25, 25]⟩, none⟩,
  ⟨some 4, .assign (.tmp 18), none⟩]
def S_store_log : SC := (.seq S_store_log_r0 (.seq S_store_log_r1 (.seq S_store_log_r2 (.seq S_store_log_r3 .ret))))
theorem BS_store_log : Try.f29.body.bind stripC = some S_store_log := by kernel_rfl
/-! types_Var: function 30, 5 temporaries. -/
def S_types_Var_r0 : SC := .reg [⟨some 2, .alloc 31, none⟩]
def S_types_Var_r1 : SC := .reg [⟨some 3, .move (.tmp 0), none⟩,
  ⟨some 4, .build 31 #[(0, (.const (.int .i64 1))), (2, (.tmp 3))], none⟩,
  ⟨none, .store 31 (.tmp 2) (.tmp 4), none⟩]
def S_types_Var : SC := (.seq S_types_Var_r0 (.seq S_types_Var_r1 .ret))
theorem BS_types_Var : Try.f30.body.bind stripC = some S_types_Var := by kernel_rfl
/-! store_Resolve: function 14, 14 temporaries. -/
def S_store_Resolve_r0 : SC := .reg [⟨some 2, .box 27 (.tmp 0), none⟩,
  ⟨some 3, .box 31 (.tmp 1), none⟩,
  ⟨some 4, .alloc 31, none⟩,
  ⟨some 5, .assign (.const (.bool false)), none⟩]
def S_store_Resolve_r1 : SC := .reg [⟨some 6, .load 27 (.tmp 2), none⟩,
  ⟨some 7, .load 31 (.tmp 3), none⟩,
  ⟨some 8, .call ⟨.value (.func 15), #[(.tmp 6), (.tmp 7), (.const (.int .i64 4000))], #[27, 31, 3]⟩, none⟩,
  ⟨some 9, .binOp .gtr 3 (.tmp 8) (.const (.int .i64 4000)) 3, none⟩]
def S_store_Resolve_r2 : SC := .reg [⟨some 10, .build 31 #[], none⟩,
  ⟨none, .store 31 (.tmp 4) (.tmp 10), none⟩,
  ⟨some 5, .assign (.const (.bool false)), none⟩]
def S_store_Resolve_r3 : SC := .reg [⟨some 11, .load 27 (.tmp 2), none⟩,
  ⟨some 12, .load 31 (.tmp 3), none⟩,
  ⟨some 13, .call ⟨.value (.func 33), #[(.tmp 11), (.tmp 12)], #[27, 31]⟩, none⟩,
  ⟨none, .store 31 (.tmp 4) (.tmp 13), none⟩,
  ⟨some 5, .assign (.const (.bool true)), none⟩]
def S_store_Resolve : SC := (.seq S_store_Resolve_r0 (.seq (.seq S_store_Resolve_r1 (.cond (.tmp 9) (.seq S_store_Resolve_r2 .ret) .skip)) (.seq S_store_Resolve_r3 .ret)))
theorem BS_store_Resolve : Try.f14.body.bind stripC = some S_store_Resolve := by kernel_rfl
/-! store_resolve: function 33, 37 temporaries. -/
def S_store_resolve_r0 : SC := .reg [⟨some 2, .box 27 (.tmp 0), none⟩,
  ⟨some 3, .box 31 (.tmp 1), none⟩,
  ⟨some 4, .alloc 31, none⟩]
def S_store_resolve_r1 : SC := .reg [⟨some 8, .load 27 (.tmp 2), none⟩,
  ⟨some 9, .load 31 (.tmp 3), none⟩,
  ⟨some 10, .call ⟨.value (.func 34), #[(.tmp 8), (.tmp 9)], #[27, 31]⟩, none⟩,
  ⟨none, .store 31 (.tmp 3) (.tmp 10), none⟩]
def S_store_resolve_r2 : SC := .reg [⟨some 11, .fieldAddr 31 (.tmp 3) 4, none⟩,
  ⟨some 12, .load 29 (.tmp 11), none⟩,
  ⟨some 13, .call ⟨.builtin .len, #[(.tmp 12)], #[29]⟩, none⟩,
  ⟨some 14, .binOp .gtr 3 (.tmp 13) (.const (.int .i64 0)) 3, none⟩]
def S_store_resolve_r3 : SC := .reg [⟨some 15, .fieldAddr 31 (.tmp 3) 4, none⟩,
  ⟨some 16, .load 29 (.tmp 15), none⟩,
  ⟨some 17, .call ⟨.builtin .len, #[(.tmp 16)], #[29]⟩, none⟩,
  ⟨some 18, .makeSlice 29 (.tmp 17) (.tmp 17), none⟩,
  ⟨some 5, .assign (.tmp 18), none⟩]
def S_store_resolve_r4 : SC := .reg [⟨some 19, .fieldAddr 31 (.tmp 3) 4, none⟩,
  ⟨some 20, .load 29 (.tmp 19), none⟩,
  ⟨some 21, .call ⟨.builtin .len, #[(.tmp 20)], #[29]⟩, none⟩,
  ⟨some 22, .move (.const (.int .i64 0)), none⟩]
def S_store_resolve_r5 : SC := .reg [⟨some 23, .binOp .lss 3 (.tmp 22) (.tmp 21) 3, none⟩]
def S_store_resolve_r6 : SC := .reg [⟨some 24, .move (.tmp 22), none⟩,
  ⟨some 25, .indexAddr 29 (.tmp 20) (.tmp 22), none⟩,
  ⟨some 26, .load 31 (.tmp 25), none⟩,
  ⟨some 7, .alloc 31, none⟩,
  ⟨some 6, .assign (.tmp 24), none⟩,
  ⟨none, .store 31 (.tmp 7) (.tmp 26), none⟩]
def S_store_resolve_r7 : SC := .reg [⟨some 27, .move (.tmp 5), none⟩,
  ⟨some 28, .move (.tmp 6), none⟩,
  ⟨some 29, .load 27 (.tmp 2), none⟩,
  ⟨some 30, .load 31 (.tmp 7), none⟩,
  ⟨some 31, .call ⟨.value (.func 33), #[(.tmp 29), (.tmp 30)], #[27, 31]⟩, none⟩,
  ⟨some 32, .indexAddr 29 (.tmp 27) (.tmp 28), none⟩,
  ⟨none, .store 31 (.tmp 32) (.tmp 31), none⟩]
def S_store_resolve_b0 : SC := .block 1 (.seq S_store_resolve_r6 S_store_resolve_r7)
def S_store_resolve_r8 : SC := .reg [⟨some 33, .binOp .add 3 (.tmp 22) (.const (.int .i64 1)) 3, none⟩,
  ⟨some 22, .move (.tmp 33), none⟩]
def S_store_resolve_l0 : SC := (.seq S_store_resolve_r5 (.seq (.cond (.tmp 23) .skip (.exit 0)) (.seq S_store_resolve_b0 S_store_resolve_r8)))
def S_store_resolve_b1 : SC := .block 0 (.loop S_store_resolve_l0)
def S_store_resolve_r9 : SC := .reg [⟨some 34, .move (.tmp 5), none⟩,
  ⟨some 35, .fieldAddr 31 (.tmp 3) 4, none⟩,
  ⟨none, .store 29 (.tmp 35) (.tmp 34), none⟩]
def S_store_resolve_r10 : SC := .reg [⟨some 36, .load 31 (.tmp 3), none⟩,
  ⟨none, .store 31 (.tmp 4) (.tmp 36), none⟩]
def S_store_resolve : SC := (.seq S_store_resolve_r0 (.seq S_store_resolve_r1 (.seq (.seq S_store_resolve_r2 (.cond (.tmp 14) (.seq S_store_resolve_r3 (.seq (.seq S_store_resolve_r4 S_store_resolve_b1) S_store_resolve_r9)) .skip)) (.seq S_store_resolve_r10 .ret))))
theorem BS_store_resolve : Try.f33.body.bind stripC = some S_store_resolve := by kernel_rfl
/-! store_Mark: function 28, 6 temporaries. -/
def S_store_Mark_r0 : SC := .reg [⟨some 1, .box 27 (.tmp 0), none⟩,
  ⟨some 2, .assign (.const (.int .i64 0)), none⟩]
def S_store_Mark_r1 : SC := .reg [⟨some 3, .fieldAddr 27 (.tmp 1) 1, none⟩,
  ⟨some 4, .load 25 (.tmp 3), none⟩,
  ⟨some 5, .call ⟨.builtin .len, #[(.tmp 4)], #[25]⟩, none⟩,
  ⟨some 2, .assign (.tmp 5), none⟩]
def S_store_Mark : SC := (.seq S_store_Mark_r0 (.seq S_store_Mark_r1 .ret))
theorem BS_store_Mark : Try.f28.body.bind stripC = some S_store_Mark := by kernel_rfl
/-! ref3_Var: function 13, 5 temporaries. -/
def S_ref3_Var_r0 : SC := .reg [⟨some 2, .alloc 31, none⟩]
def S_ref3_Var_r1 : SC := .reg [⟨some 3, .move (.tmp 0), none⟩,
  ⟨some 4, .build 31 #[(0, (.const (.int .i64 1))), (2, (.tmp 3))], none⟩,
  ⟨none, .store 31 (.tmp 2) (.tmp 4), none⟩]
def S_ref3_Var : SC := (.seq S_ref3_Var_r0 (.seq S_ref3_Var_r1 .ret))
theorem BS_ref3_Var : Try.f13.body.bind stripC = some S_ref3_Var := by kernel_rfl
/-! ref3_Arrow: function 12, 9 temporaries. -/
def S_ref3_Arrow_r0 : SC := .reg [⟨some 2, .box 31 (.tmp 0), none⟩,
  ⟨some 3, .box 31 (.tmp 1), none⟩,
  ⟨some 4, .alloc 31, none⟩]
def S_ref3_Arrow_r1 : SC := .reg [⟨some 5, .load 31 (.tmp 2), none⟩,
  ⟨some 6, .load 31 (.tmp 3), none⟩,
  ⟨some 7, .buildSlice 29 2 #[(0, (.tmp 5)), (1, (.tmp 6))], none⟩,
  ⟨some 8, .call ⟨.value (.func 32), #[(.const (.string ⟨#[45, 62]⟩)), (.tmp 7)], #[9, 29]⟩, none⟩,
  ⟨none, .store 31 (.tmp 4) (.tmp 8), none⟩]
def S_ref3_Arrow : SC := (.seq S_ref3_Arrow_r0 (.seq S_ref3_Arrow_r1 .ret))
theorem BS_ref3_Arrow : Try.f12.body.bind stripC = some S_ref3_Arrow := by kernel_rfl
/-! ref3_Con: function 32, 9 temporaries. -/
def S_ref3_Con_r0 : SC := .reg [⟨some 4, .alloc 31, none⟩]
def S_ref3_Con_r1 : SC := .reg [⟨some 5, .move (.tmp 0), none⟩,
  ⟨some 6, .move (.tmp 1), none⟩,
  ⟨some 7, .call ⟨.builtin .append, #[(.const (.slice none 0 0)), (.tmp 6)], #[29, 29]⟩, none⟩,
  ⟨some 8, .build 31 #[(0, (.const (.int .i64 4))), (1, (.tmp 5)), (4, (.tmp 7))], none⟩,
  ⟨none, .store 31 (.tmp 4) (.tmp 8), none⟩]
def S_ref3_Con : SC := (.seq S_ref3_Con_r0 (.seq S_ref3_Con_r1 .ret))
theorem BS_ref3_Con : Try.f32.body.bind stripC = some S_ref3_Con := by kernel_rfl
/-! law16_StoreBig: function 3, 81 temporaries. -/
def S_law16_StoreBig_r0 : SC := .reg [⟨some 2, .assign (.const (.bool false)), none⟩]
def S_law16_StoreBig_r1 : SC := .reg [⟨some 10, .call ⟨.value (.func 7), #[], #[]⟩, none⟩,
  ⟨some 11, .unOp .not 4 (.tmp 10), none⟩]
def S_law16_StoreBig_r2 : SC := .reg [⟨some 2, .assign (.const (.bool false)), none⟩]
def S_law16_StoreBig_r3 : SC := .reg [⟨some 12, .move (.tmp 0), none⟩,
  ⟨some 13, .call ⟨.value (.func 8), #[(.tmp 12), (.const (.int .i64 60))], #[3, 3]⟩, none⟩,
  ⟨some 14, .binOp .add 3 (.const (.int .i64 2)) (.tmp 13) 3, none⟩,
  ⟨some 3, .assign (.tmp 14), none⟩]
def S_law16_StoreBig_r4 : SC := .reg [⟨some 15, .call ⟨.value (.func 9), #[], #[]⟩, none⟩,
  ⟨some 4, .alloc 27, none⟩,
  ⟨none, .store 27 (.tmp 4) (.tmp 15), none⟩]
def S_law16_StoreBig_r5 : SC := .reg [⟨some 5, .assign (.const (.int .i64 0)), none⟩]
def S_law16_StoreBig_r6 : SC := .reg [⟨some 16, .move (.tmp 5), none⟩,
  ⟨some 17, .move (.tmp 3), none⟩,
  ⟨some 18, .binOp .lss 3 (.tmp 16) (.tmp 17) 3, none⟩]
def S_law16_StoreBig_r7 : SC := .reg [⟨some 22, .load 27 (.tmp 4), none⟩,
  ⟨some 23, .call ⟨.value (.func 10), #[(.tmp 22), (.const (.int .i64 0)), (.const (.bool false))], #[27, 3, 4]⟩, none⟩,
  ⟨some 21, .move (.tmp 23), none⟩,
  ⟨some 24, .extract (.tmp 21) 0, none⟩,
  ⟨some 25, .extract (.tmp 21) 1, none⟩,
  ⟨none, .store 27 (.tmp 4) (.tmp 24), none⟩]
def S_law16_StoreBig_r8 : SC := .reg [⟨some 26, .move (.tmp 5), none⟩,
  ⟨some 27, .binOp .gtr 3 (.tmp 26) (.const (.int .i64 0)) 3, none⟩]
def S_law16_StoreBig_r9 : SC := .draw [⟨some 29, .load 27 (.tmp 4), none, [4]⟩,
  ⟨some 30, .move (.tmp 5), none, [5]⟩,
  ⟨some 31, .move (.tmp 5), none, [5]⟩,
  ⟨some 32, .binOp .sub 3 (.tmp 31) (.const (.int .i64 1)) 3, none, [31]⟩,
  ⟨some 33, .call ⟨.value (.func 13), #[(.tmp 32)], #[3]⟩, none, [32]⟩,
  ⟨some 34, .move (.tmp 5), none, [5]⟩,
  ⟨some 35, .binOp .sub 3 (.tmp 34) (.const (.int .i64 1)) 3, none, [34]⟩,
  ⟨some 36, .call ⟨.value (.func 13), #[(.tmp 35)], #[3]⟩, none, [35]⟩,
  ⟨some 37, .call ⟨.value (.func 12), #[(.tmp 33), (.tmp 36)], #[31, 31]⟩, none, [33, 36]⟩,
  ⟨some 38, .build 39 #[(0, (.const (.bool true))), (1, (.tmp 37))], none, [37]⟩,
  ⟨some 39, .call ⟨.value (.func 11), #[(.tmp 29), (.tmp 30), (.tmp 38)], #[27, 3, 39]⟩, none, [29, 30, 38]⟩,
  ⟨some 28, .move (.tmp 39), none, [39]⟩,
  ⟨some 40, .extract (.tmp 28) 0, none, [28]⟩,
  ⟨some 41, .extract (.tmp 28) 1, none, [28]⟩,
  ⟨none, .store 27 (.tmp 4) (.tmp 40), none, [4, 40]⟩] [0, 0, 0, 4, 12, 0, 32, 124, 252, 508, 1023, 2047, 4095, 4095, 8191]
def S_law16_StoreBig_b0 : SC := .block 1 (.seq S_law16_StoreBig_r7 (.seq S_law16_StoreBig_r8 (.cond (.tmp 27) S_law16_StoreBig_r9 .skip)))
def S_law16_StoreBig_r10 : SC := .reg [⟨some 19, .move (.tmp 5), none⟩,
  ⟨some 20, .binOp .add 3 (.tmp 19) (.const (.int .i64 1)) 3, none⟩,
  ⟨some 5, .assign (.tmp 20), none⟩]
def S_law16_StoreBig_l0 : SC := (.seq (.seq S_law16_StoreBig_r6 (.cond (.tmp 18) .skip (.exit 0))) (.seq S_law16_StoreBig_b0 S_law16_StoreBig_r10))
def S_law16_StoreBig_b1 : SC := .block 0 (.loop S_law16_StoreBig_l0)
def S_law16_StoreBig_r11 : SC := .reg [⟨some 42, .fieldAddr 27 (.tmp 4) 0, none⟩,
  ⟨some 43, .load 24 (.tmp 42), none⟩,
  ⟨some 44, .call ⟨.builtin .len, #[(.tmp 43)], #[24]⟩, none⟩,
  ⟨some 45, .move (.tmp 3), none⟩,
  ⟨some 46, .binOp .neq 3 (.tmp 44) (.tmp 45) 3, none⟩]
def S_law16_StoreBig_r12 : SC := .reg [⟨some 2, .assign (.const (.bool false)), none⟩]
def S_law16_StoreBig_r13 : SC := .reg [⟨some 6, .assign (.const (.int .i64 1)), none⟩]
def S_law16_StoreBig_r14 : SC := .reg [⟨some 7, .assign (.const (.int .i64 1)), none⟩]
def S_law16_StoreBig_r15 : SC := .reg [⟨some 47, .move (.tmp 7), none⟩,
  ⟨some 48, .move (.tmp 3), none⟩,
  ⟨some 49, .binOp .lss 3 (.tmp 47) (.tmp 48) 3, none⟩,
  ⟨some 50, .move (.tmp 49), none⟩,
  ⟨some 51, .move (.tmp 6), some (50, true)⟩,
  ⟨some 52, .binOp .leq 3 (.tmp 51) (.const (.int .i64 4000)) 3, some (50, true)⟩,
  ⟨some 53, .pick (.tmp 50) (.tmp 52) (.const (.bool false)), none⟩]
def S_law16_StoreBig_r16 : SC := .reg [⟨some 56, .move (.tmp 6), none⟩,
  ⟨some 57, .binOp .mul 3 (.const (.int .i64 2)) (.tmp 56) 3, none⟩,
  ⟨some 58, .binOp .add 3 (.tmp 57) (.const (.int .i64 1)) 3, none⟩,
  ⟨some 6, .assign (.tmp 58), none⟩]
def S_law16_StoreBig_b2 : SC := .block 3 S_law16_StoreBig_r16
def S_law16_StoreBig_r17 : SC := .reg [⟨some 54, .move (.tmp 7), none⟩,
  ⟨some 55, .binOp .add 3 (.tmp 54) (.const (.int .i64 1)) 3, none⟩,
  ⟨some 7, .assign (.tmp 55), none⟩]
def S_law16_StoreBig_l1 : SC := (.seq (.seq S_law16_StoreBig_r15 (.cond (.tmp 53) .skip (.exit 2))) (.seq S_law16_StoreBig_b2 S_law16_StoreBig_r17))
def S_law16_StoreBig_b3 : SC := .block 2 (.loop S_law16_StoreBig_l1)
def S_law16_StoreBig_r18 : SC := .draw [⟨some 60, .load 27 (.tmp 4), none, [4]⟩,
  ⟨some 61, .move (.tmp 3), none, [3]⟩,
  ⟨some 62, .binOp .sub 3 (.tmp 61) (.const (.int .i64 1)) 3, none, [61]⟩,
  ⟨some 63, .call ⟨.value (.func 13), #[(.tmp 62)], #[3]⟩, none, [62]⟩,
  ⟨some 64, .call ⟨.value (.func 14), #[(.tmp 60), (.tmp 63)], #[27, 31]⟩, none, [60, 63]⟩,
  ⟨some 59, .move (.tmp 64), none, [64]⟩,
  ⟨some 65, .extract (.tmp 59) 0, none, [59]⟩,
  ⟨some 66, .extract (.tmp 59) 1, none, [59]⟩,
  ⟨some 8, .alloc 31, none, []⟩,
  ⟨none, .store 31 (.tmp 8) (.tmp 65), none, [8, 65]⟩,
  ⟨some 9, .assign (.tmp 66), none, [66]⟩] [0, 0, 2, 6, 15, 31, 63, 63, 0, 383, 1023]
def S_law16_StoreBig_r19 : SC := .draw [⟨some 67, .move (.tmp 9), none, [9]⟩,
  ⟨some 68, .move (.tmp 6), none, [6]⟩,
  ⟨some 69, .binOp .leq 3 (.tmp 68) (.const (.int .i64 4000)) 3, none, [68]⟩,
  ⟨some 70, .binOp .eql 4 (.tmp 67) (.tmp 69) 4, none, [67, 69]⟩,
  ⟨some 71, .move (.tmp 70), none, [70]⟩,
  ⟨some 72, .load 27 (.tmp 4), some (71, true), [4, 71]⟩,
  ⟨some 73, .move (.tmp 3), some (71, true), [3, 71]⟩,
  ⟨some 74, .binOp .sub 3 (.tmp 73) (.const (.int .i64 1)) 3, some (71, true), [73, 71]⟩,
  ⟨some 75, .call ⟨.value (.func 13), #[(.tmp 74)], #[3]⟩, some (71, true), [74, 71]⟩,
  ⟨some 76, .call ⟨.value (.func 15), #[(.tmp 72), (.tmp 75), (.const (.int .i64 100))], #[27, 31, 3]⟩, some (71, true), [72, 75, 71]⟩,
  ⟨some 77, .move (.tmp 6), some (71, true), [6, 71]⟩,
  ⟨some 78, .call ⟨.builtin .min, #[(.tmp 77), (.const (.int .i64 101))], #[3, 3]⟩, some (71, true), [77, 71]⟩,
  ⟨some 79, .binOp .eql 3 (.tmp 76) (.tmp 78) 3, some (71, true), [76, 78, 71]⟩,
  ⟨some 80, .pick (.tmp 71) (.tmp 79) (.const (.bool false)), none, [71, 79]⟩,
  ⟨some 2, .assign (.tmp 80), none, [80]⟩] [0, 0, 2, 7, 15, 31, 31, 95, 223, 511, 31, 1055, 4095, 8191, 16383]
def S_law16_StoreBig : SC := (.seq S_law16_StoreBig_r0 (.seq (.seq S_law16_StoreBig_r1 (.cond (.tmp 11) (.seq S_law16_StoreBig_r2 .ret) .skip)) (.seq S_law16_StoreBig_r3 (.seq S_law16_StoreBig_r4 (.seq (.seq S_law16_StoreBig_r5 S_law16_StoreBig_b1) (.seq (.seq S_law16_StoreBig_r11 (.cond (.tmp 46) (.seq S_law16_StoreBig_r12 .ret) .skip)) (.seq S_law16_StoreBig_r13 (.seq (.seq S_law16_StoreBig_r14 S_law16_StoreBig_b3) (.seq S_law16_StoreBig_r18 (.seq S_law16_StoreBig_r19 .ret))))))))))
theorem BS_law16_StoreBig : Try.f3.body.bind stripC = some S_law16_StoreBig := by kernel_rfl
end Go.Proofs.Ytjgicfkhdclaeaa
