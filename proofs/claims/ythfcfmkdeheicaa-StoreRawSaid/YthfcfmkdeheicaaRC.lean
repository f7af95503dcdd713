import Derived.Test.YthfcfmkdeheicaaJH
import Derived.Test.YthfcfmkdeheicaaRT
import Derived.Test.YthfcfmkdeheicaaRows
set_option linter.all false
namespace Go.Proofs.Ythfcfmkdeheicaa
open Go.J
/-! law16_StoreRaw: function 5, 69 temporaries. -/
def S_law16_StoreRaw_r0 : SC := .reg [⟨some 2, .box 38 (.tmp 0), none⟩,
  ⟨some 4, .assign (.const (.bool false)), none⟩]
def S_law16_StoreRaw_r1 : SC := .reg [⟨some 9, .call ⟨.value (.func 10), #[], #[]⟩, none⟩,
  ⟨some 10, .unOp .not 4 (.tmp 9), none⟩]
def S_law16_StoreRaw_r2 : SC := .reg [⟨some 4, .assign (.const (.bool false)), none⟩]
def S_law16_StoreRaw_r3 : SC := .reg [⟨some 11, .load 38 (.tmp 2), none⟩,
  ⟨some 12, .call ⟨.value (.func 29), #[(.tmp 11)], #[38]⟩, none⟩,
  ⟨some 13, .unOp .not 4 (.tmp 12), none⟩]
def S_law16_StoreRaw_r4 : SC := .reg [⟨some 4, .assign (.const (.bool true)), none⟩]
def S_law16_StoreRaw_r5 : SC := .reg [⟨some 14, .load 38 (.tmp 2), none⟩,
  ⟨some 15, .call ⟨.value (.func 30), #[(.tmp 14)], #[38]⟩, none⟩,
  ⟨some 16, .unOp .not 4 (.tmp 15), none⟩]
def S_law16_StoreRaw_r6 : SC := .reg [⟨some 4, .assign (.const (.bool true)), none⟩]
def S_law16_StoreRaw_r7 : SC := .reg [⟨some 17, .move (.tmp 1), none⟩,
  ⟨some 18, .move (.tmp 1), none⟩,
  ⟨some 19, .fieldAddr 38 (.tmp 2) 1, none⟩,
  ⟨some 20, .load 36 (.tmp 19), none⟩,
  ⟨some 21, .call ⟨.builtin .len, #[(.tmp 20)], #[36]⟩, none⟩,
  ⟨some 22, .binOp .add 3 (.tmp 21) (.const (.int .i64 2)) 3, none⟩,
  ⟨some 23, .call ⟨.value (.func 22), #[(.tmp 18), (.tmp 22)], #[3, 3]⟩, none⟩,
  ⟨some 24, .binOp .sub 3 (.tmp 23) (.const (.int .i64 1)) 3, none⟩,
  ⟨some 25, .buildSlice 22 2 #[(0, (.tmp 17)), (1, (.tmp 24))], none⟩,
  ⟨some 26, .call ⟨.builtin .len, #[(.tmp 25)], #[22]⟩, none⟩,
  ⟨some 27, .move (.const (.int .i64 0)), none⟩]
def S_law16_StoreRaw_r8 : SC := .reg [⟨some 28, .binOp .lss 3 (.tmp 27) (.tmp 26) 3, none⟩]
def S_law16_StoreRaw_r9 : SC := .reg [⟨some 29, .indexAddr 22 (.tmp 25) (.tmp 27), none⟩,
  ⟨some 30, .load 3 (.tmp 29), none⟩,
  ⟨some 6, .assign (.tmp 30), none⟩]
def S_law16_StoreRaw_r10 : SC := .reg [⟨some 32, .load 38 (.tmp 2), none⟩,
  ⟨some 33, .move (.tmp 6), none⟩,
  ⟨some 34, .call ⟨.value (.func 27), #[(.tmp 32), (.tmp 33)], #[38, 3]⟩, none⟩,
  ⟨some 31, .move (.tmp 34), none⟩,
  ⟨some 35, .extract (.tmp 31) 0, none⟩,
  ⟨some 36, .extract (.tmp 31) 1, none⟩,
  ⟨some 7, .alloc 38, none⟩,
  ⟨none, .store 38 (.tmp 7) (.tmp 35), none⟩,
  ⟨some 8, .assign (.tmp 36), none⟩]
def S_law16_StoreRaw_r11 : SC := .reg [⟨some 37, .move (.tmp 8), none⟩,
  ⟨some 38, .move (.tmp 6), none⟩,
  ⟨some 39, .binOp .geq 3 (.tmp 38) (.const (.int .i64 0)) 3, none⟩,
  ⟨some 40, .move (.tmp 39), none⟩,
  ⟨some 41, .move (.tmp 6), some (40, true)⟩,
  ⟨some 42, .fieldAddr 38 (.tmp 2) 1, some (40, true)⟩,
  ⟨some 43, .load 36 (.tmp 42), some (40, true)⟩,
  ⟨some 44, .call ⟨.builtin .len, #[(.tmp 43)], #[36]⟩, some (40, true)⟩,
  ⟨some 45, .binOp .leq 3 (.tmp 41) (.tmp 44) 3, some (40, true)⟩,
  ⟨some 46, .pick (.tmp 40) (.tmp 45) (.const (.bool false)), none⟩,
  ⟨some 47, .binOp .neq 4 (.tmp 37) (.tmp 46) 4, none⟩,
  ⟨some 48, .move (.tmp 47), none⟩,
  ⟨some 49, .move (.tmp 8), some (48, false)⟩,
  ⟨some 50, .unOp .not 4 (.tmp 49), some (48, false)⟩,
  ⟨some 51, .move (.tmp 50), some (48, false)⟩,
  ⟨some 52, .load 38 (.tmp 7), some (51, true)⟩,
  ⟨some 53, .load 38 (.tmp 2), some (51, true)⟩,
  ⟨some 54, .call ⟨.value (.func 18), #[(.tmp 52), (.tmp 53)], #[38, 38]⟩, some (51, true)⟩,
  ⟨some 55, .unOp .not 4 (.tmp 54), some (51, true)⟩,
  ⟨some 56, .pick (.tmp 51) (.tmp 55) (.const (.bool false)), some (48, false)⟩,
  ⟨some 57, .pick (.tmp 48) (.const (.bool true)) (.tmp 56), none⟩,
  ⟨some 58, .move (.tmp 57), none⟩,
  ⟨some 59, .move (.tmp 8), some (58, false)⟩,
  ⟨some 60, .move (.tmp 59), some (58, false)⟩,
  ⟨some 61, .fieldAddr 38 (.tmp 7) 1, some (60, true)⟩,
  ⟨some 62, .load 36 (.tmp 61), some (60, true)⟩,
  ⟨some 63, .call ⟨.builtin .len, #[(.tmp 62)], #[36]⟩, some (60, true)⟩,
  ⟨some 64, .move (.tmp 6), some (60, true)⟩,
  ⟨some 65, .binOp .neq 3 (.tmp 63) (.tmp 64) 3, some (60, true)⟩,
  ⟨some 66, .pick (.tmp 60) (.tmp 65) (.const (.bool false)), some (58, false)⟩,
  ⟨some 67, .pick (.tmp 58) (.const (.bool true)) (.tmp 66), none⟩]
def S_law16_StoreRaw_r12 : SC := .reg [⟨some 4, .assign (.const (.bool false)), none⟩]
def S_law16_StoreRaw_b0 : SC := .block 1 (.seq S_law16_StoreRaw_r9 (.seq S_law16_StoreRaw_r10 (.seq S_law16_StoreRaw_r11 (.cond (.tmp 67) (.seq S_law16_StoreRaw_r12 .ret) .skip))))
def S_law16_StoreRaw_r13 : SC := .reg [⟨some 68, .binOp .add 3 (.tmp 27) (.const (.int .i64 1)) 3, none⟩,
  ⟨some 27, .move (.tmp 68), none⟩]
def S_law16_StoreRaw_l0 : SC := (.seq S_law16_StoreRaw_r8 (.seq (.cond (.tmp 28) .skip (.exit 0)) (.seq S_law16_StoreRaw_b0 S_law16_StoreRaw_r13)))
def S_law16_StoreRaw_b1 : SC := .block 0 (.loop S_law16_StoreRaw_l0)
def S_law16_StoreRaw_r14 : SC := .reg [⟨some 4, .assign (.const (.bool true)), none⟩]
def S_law16_StoreRaw : SC := (.seq S_law16_StoreRaw_r0 (.seq (.seq S_law16_StoreRaw_r1 (.cond (.tmp 10) (.seq S_law16_StoreRaw_r2 .ret) .skip)) (.seq (.seq S_law16_StoreRaw_r3 (.cond (.tmp 13) (.seq S_law16_StoreRaw_r4 .ret) .skip)) (.seq (.seq S_law16_StoreRaw_r5 (.cond (.tmp 16) (.seq S_law16_StoreRaw_r6 .ret) .skip)) (.seq (.seq S_law16_StoreRaw_r7 S_law16_StoreRaw_b1) (.seq S_law16_StoreRaw_r14 .ret))))))
theorem BS_law16_StoreRaw : Try.f5.body.bind stripC = some S_law16_StoreRaw := by kernel_rfl
/-! make_Few: function 11, 6 temporaries. -/
def S_make_Few_r0 : SC := .reg [⟨some 2, .assign (.const (.bool false)), none⟩]
def S_make_Few_r1 : SC := .reg [⟨some 3, .move (.tmp 0), none⟩,
  ⟨some 4, .call ⟨.builtin .len, #[(.tmp 3)], #[22]⟩, none⟩,
  ⟨some 5, .binOp .leq 3 (.tmp 4) (.const (.int .i64 60)) 3, none⟩,
  ⟨some 2, .assign (.tmp 5), none⟩]
def S_make_Few : SC := (.seq S_make_Few_r0 (.seq S_make_Few_r1 .ret))
theorem BS_make_Few : Try.f11.body.bind stripC = some S_make_Few := by kernel_rfl
/-! make_SmallType: function 12, 10 temporaries. -/
def S_make_SmallType_r0 : SC := .reg [⟨some 2, .box 25 (.tmp 0), none⟩,
  ⟨some 4, .assign (.const (.bool false)), none⟩]
def S_make_SmallType_r1 : SC := .reg [⟨some 5, .load 25 (.tmp 2), none⟩,
  ⟨some 6, .move (.tmp 1), none⟩,
  ⟨some 7, .binOp .add 3 (.tmp 6) (.const (.int .i64 1)) 3, none⟩,
  ⟨some 8, .call ⟨.value (.func 56), #[(.tmp 5), (.tmp 7)], #[25, 3]⟩, none⟩,
  ⟨some 9, .binOp .gtr 3 (.tmp 8) (.const (.int .i64 0)) 3, none⟩,
  ⟨some 4, .assign (.tmp 9), none⟩]
def S_make_SmallType : SC := (.seq S_make_SmallType_r0 (.seq S_make_SmallType_r1 .ret))
theorem BS_make_SmallType : Try.f12.body.bind stripC = some S_make_SmallType := by kernel_rfl
/-! make_Datas: function 15, 45 temporaries. -/
def S_make_Datas_r0 : SC := .reg [⟨some 2, .assign (.const (.slice none 0 0)), none⟩]
def S_make_Datas_r1 : SC := .reg [⟨some 6, .call ⟨.value (.func 61), #[], #[]⟩, none⟩,
  ⟨some 3, .assign (.tmp 6), none⟩]
def S_make_Datas_r2 : SC := .reg [⟨some 4, .assign (.const (.slice none 0 0)), none⟩]
def S_make_Datas_r3 : SC := .reg [⟨some 7, .move (.tmp 0), none⟩,
  ⟨some 8, .binOp .and 3 (.tmp 7) (.const (.int .i64 2)) 3, none⟩,
  ⟨some 9, .binOp .neq 3 (.tmp 8) (.const (.int .i64 0)) 3, none⟩,
  ⟨some 10, .move (.tmp 9), none⟩,
  ⟨some 11, .move (.tmp 0), some (10, false)⟩,
  ⟨some 12, .binOp .and 3 (.tmp 11) (.const (.int .i64 64)) 3, some (10, false)⟩,
  ⟨some 13, .binOp .neq 3 (.tmp 12) (.const (.int .i64 0)) 3, some (10, false)⟩,
  ⟨some 14, .pick (.tmp 10) (.const (.bool true)) (.tmp 13), none⟩]
def S_make_Datas_r4 : SC := .reg [⟨some 15, .move (.tmp 4), none⟩,
  ⟨some 16, .move (.tmp 3), none⟩,
  ⟨some 17, .indexAddr 40 (.tmp 16) (.const (.int .i64 1)), none⟩,
  ⟨some 18, .load 98 (.tmp 17), none⟩,
  ⟨some 19, .buildSlice 40 1 #[(0, (.tmp 18))], none⟩,
  ⟨some 20, .call ⟨.builtin .append, #[(.tmp 15), (.tmp 19)], #[40, 40]⟩, none⟩,
  ⟨some 4, .assign (.tmp 20), none⟩]
def S_make_Datas_r5 : SC := .reg [⟨some 5, .assign (.const (.int .i64 0)), none⟩]
def S_make_Datas_r6 : SC := .reg [⟨some 21, .move (.tmp 5), none⟩,
  ⟨some 22, .move (.tmp 3), none⟩,
  ⟨some 23, .call ⟨.builtin .len, #[(.tmp 22)], #[40]⟩, none⟩,
  ⟨some 24, .binOp .lss 3 (.tmp 21) (.tmp 23) 3, none⟩]
def S_make_Datas_r7 : SC := .reg [⟨some 27, .move (.tmp 5), none⟩,
  ⟨some 28, .binOp .neq 3 (.tmp 27) (.const (.int .i64 1)) 3, none⟩,
  ⟨some 29, .move (.tmp 28), none⟩,
  ⟨some 30, .move (.tmp 0), some (29, true)⟩,
  ⟨some 31, .move (.tmp 5), some (29, true)⟩,
  ⟨some 32, .convert 3 99 (.tmp 31), some (29, true)⟩,
  ⟨some 33, .binOp .shr 3 (.tmp 30) (.tmp 32) 99, some (29, true)⟩,
  ⟨some 34, .binOp .and 3 (.tmp 33) (.const (.int .i64 1)) 3, some (29, true)⟩,
  ⟨some 35, .binOp .eql 3 (.tmp 34) (.const (.int .i64 1)) 3, some (29, true)⟩,
  ⟨some 36, .pick (.tmp 29) (.tmp 35) (.const (.bool false)), none⟩]
def S_make_Datas_r8 : SC := .reg [⟨some 37, .move (.tmp 4), none⟩,
  ⟨some 38, .move (.tmp 3), none⟩,
  ⟨some 39, .move (.tmp 5), none⟩,
  ⟨some 40, .indexAddr 40 (.tmp 38) (.tmp 39), none⟩,
  ⟨some 41, .load 98 (.tmp 40), none⟩,
  ⟨some 42, .buildSlice 40 1 #[(0, (.tmp 41))], none⟩,
  ⟨some 43, .call ⟨.builtin .append, #[(.tmp 37), (.tmp 42)], #[40, 40]⟩, none⟩,
  ⟨some 4, .assign (.tmp 43), none⟩]
def S_make_Datas_b0 : SC := .block 1 (.seq S_make_Datas_r7 (.cond (.tmp 36) S_make_Datas_r8 .skip))
def S_make_Datas_r9 : SC := .reg [⟨some 25, .move (.tmp 5), none⟩,
  ⟨some 26, .binOp .add 3 (.tmp 25) (.const (.int .i64 1)) 3, none⟩,
  ⟨some 5, .assign (.tmp 26), none⟩]
def S_make_Datas_l0 : SC := (.seq (.seq S_make_Datas_r6 (.cond (.tmp 24) .skip (.exit 0))) (.seq S_make_Datas_b0 S_make_Datas_r9))
def S_make_Datas_b1 : SC := .block 0 (.loop S_make_Datas_l0)
def S_make_Datas_r10 : SC := .reg [⟨some 44, .move (.tmp 4), none⟩,
  ⟨some 2, .assign (.tmp 44), none⟩]
def S_make_Datas : SC := (.seq S_make_Datas_r0 (.seq S_make_Datas_r1 (.seq S_make_Datas_r2 (.seq (.seq S_make_Datas_r3 (.cond (.tmp 14) S_make_Datas_r4 .skip)) (.seq (.seq S_make_Datas_r5 S_make_Datas_b1) (.seq S_make_Datas_r10 .ret))))))
theorem BS_make_Datas : Try.f15.body.bind stripC = some S_make_Datas := by kernel_rfl
/-! store_Fresh: function 16, 36 temporaries. -/
def S_store_Fresh_r0 : SC := .reg [⟨some 3, .box 38 (.tmp 0), none⟩,
  ⟨some 6, .alloc 38, none⟩,
  ⟨some 7, .alloc 25, none⟩]
def S_store_Fresh_r1 : SC := .reg [⟨some 10, .fieldAddr 38 (.tmp 3) 0, none⟩,
  ⟨some 11, .load 35 (.tmp 10), none⟩,
  ⟨some 12, .call ⟨.builtin .len, #[(.tmp 11)], #[35]⟩, none⟩,
  ⟨some 8, .assign (.tmp 12), none⟩]
def S_store_Fresh_r2 : SC := .reg [⟨some 13, .move (.tmp 8), none⟩,
  ⟨some 14, .move (.tmp 8), none⟩,
  ⟨some 15, .binOp .add 3 (.tmp 14) (.const (.int .i64 1)) 3, none⟩,
  ⟨some 16, .makeSlice 35 (.tmp 13) (.tmp 15), none⟩,
  ⟨some 9, .assign (.tmp 16), none⟩]
def S_store_Fresh_r3 : SC := .reg [⟨some 17, .move (.tmp 9), none⟩,
  ⟨some 18, .fieldAddr 38 (.tmp 3) 0, none⟩,
  ⟨some 19, .load 35 (.tmp 18), none⟩,
  ⟨some 20, .call ⟨.builtin .copy, #[(.tmp 17), (.tmp 19)], #[35, 35]⟩, none⟩]
def S_store_Fresh_r4 : SC := .reg [⟨some 21, .move (.tmp 9), none⟩,
  ⟨some 22, .move (.tmp 1), none⟩,
  ⟨some 23, .move (.tmp 2), none⟩,
  ⟨some 24, .build 27 #[(2, (.tmp 22)), (3, (.tmp 23))], none⟩,
  ⟨some 25, .buildSlice 35 1 #[(0, (.tmp 24))], none⟩,
  ⟨some 26, .call ⟨.builtin .append, #[(.tmp 21), (.tmp 25)], #[35, 35]⟩, none⟩,
  ⟨some 9, .assign (.tmp 26), none⟩]
def S_store_Fresh_r5 : SC := .reg [⟨some 27, .move (.tmp 9), none⟩,
  ⟨some 28, .fieldAddr 38 (.tmp 3) 1, none⟩,
  ⟨some 29, .load 36 (.tmp 28), none⟩,
  ⟨some 30, .move (.tmp 8), none⟩,
  ⟨some 31, .build 102 #[(0, (.tmp 30)), (2, (.const (.bool true)))], none⟩,
  ⟨some 32, .call ⟨.value (.func 62), #[(.tmp 29), (.tmp 31)], #[36, 102]⟩, none⟩,
  ⟨some 33, .build 38 #[(0, (.tmp 27)), (1, (.tmp 32))], none⟩,
  ⟨some 34, .move (.tmp 8), none⟩,
  ⟨some 35, .call ⟨.value (.func 63), #[(.tmp 34)], #[3]⟩, none⟩,
  ⟨none, .store 38 (.tmp 6) (.tmp 33), none⟩,
  ⟨none, .store 25 (.tmp 7) (.tmp 35), none⟩]
def S_store_Fresh : SC := (.seq S_store_Fresh_r0 (.seq S_store_Fresh_r1 (.seq S_store_Fresh_r2 (.seq S_store_Fresh_r3 (.seq S_store_Fresh_r4 (.seq S_store_Fresh_r5 .ret))))))
theorem BS_store_Fresh : Try.f16.body.bind stripC = some S_store_Fresh := by kernel_rfl
/-! ref16_Fresh: function 17, 33 temporaries. -/
def S_ref16_Fresh_r0 : SC := .reg [⟨some 3, .box 38 (.tmp 0), none⟩,
  ⟨some 6, .alloc 38, none⟩,
  ⟨some 7, .alloc 25, none⟩]
def S_ref16_Fresh_r1 : SC := .reg [⟨some 10, .fieldAddr 38 (.tmp 3) 0, none⟩,
  ⟨some 11, .load 35 (.tmp 10), none⟩,
  ⟨some 12, .call ⟨.builtin .len, #[(.tmp 11)], #[35]⟩, none⟩,
  ⟨some 8, .assign (.tmp 12), none⟩]
def S_ref16_Fresh_r2 : SC := .reg [⟨some 13, .fieldAddr 38 (.tmp 3) 0, none⟩,
  ⟨some 14, .load 35 (.tmp 13), none⟩,
  ⟨some 15, .call ⟨.builtin .append, #[(.const (.slice none 0 0)), (.tmp 14)], #[35, 35]⟩, none⟩,
  ⟨some 16, .move (.tmp 1), none⟩,
  ⟨some 17, .move (.tmp 2), none⟩,
  ⟨some 18, .build 27 #[(2, (.tmp 16)), (3, (.tmp 17))], none⟩,
  ⟨some 19, .buildSlice 35 1 #[(0, (.tmp 18))], none⟩,
  ⟨some 20, .call ⟨.builtin .append, #[(.tmp 15), (.tmp 19)], #[35, 35]⟩, none⟩,
  ⟨some 21, .build 38 #[(0, (.tmp 20))], none⟩,
  ⟨some 9, .alloc 38, none⟩,
  ⟨none, .store 38 (.tmp 9) (.tmp 21), none⟩]
def S_ref16_Fresh_r3 : SC := .reg [⟨some 22, .fieldAddr 38 (.tmp 3) 1, none⟩,
  ⟨some 23, .load 36 (.tmp 22), none⟩,
  ⟨some 24, .call ⟨.builtin .append, #[(.const (.slice none 0 0)), (.tmp 23)], #[36, 36]⟩, none⟩,
  ⟨some 25, .move (.tmp 8), none⟩,
  ⟨some 26, .build 102 #[(0, (.tmp 25)), (2, (.const (.bool true)))], none⟩,
  ⟨some 27, .buildSlice 36 1 #[(0, (.tmp 26))], none⟩,
  ⟨some 28, .call ⟨.builtin .append, #[(.tmp 24), (.tmp 27)], #[36, 36]⟩, none⟩,
  ⟨some 29, .fieldAddr 38 (.tmp 9) 1, none⟩,
  ⟨none, .store 36 (.tmp 29) (.tmp 28), none⟩]
def S_ref16_Fresh_r4 : SC := .draw [⟨some 30, .load 38 (.tmp 9), none, [9]⟩,
  ⟨some 31, .move (.tmp 8), none, [8]⟩,
  ⟨some 32, .call ⟨.value (.func 55), #[(.tmp 31)], #[3]⟩, none, [31]⟩,
  ⟨none, .store 38 (.tmp 6) (.tmp 30), none, [6, 30]⟩,
  ⟨none, .store 25 (.tmp 7) (.tmp 32), none, [7, 32]⟩] [0, 0, 2, 7, 15]
def S_ref16_Fresh : SC := (.seq S_ref16_Fresh_r0 (.seq S_ref16_Fresh_r1 (.seq S_ref16_Fresh_r2 (.seq S_ref16_Fresh_r3 (.seq S_ref16_Fresh_r4 .ret)))))
theorem BS_ref16_Fresh : Try.f17.body.bind stripC = some S_ref16_Fresh := by kernel_rfl
/-! law16_same: function 18, 93 temporaries. -/
def S_law16_same_r0 : SC := .reg [⟨some 2, .box 38 (.tmp 0), none⟩,
  ⟨some 3, .box 38 (.tmp 1), none⟩,
  ⟨some 4, .assign (.const (.bool false)), none⟩]
def S_law16_same_r1 : SC := .reg [⟨some 7, .fieldAddr 38 (.tmp 2) 0, none⟩,
  ⟨some 8, .load 35 (.tmp 7), none⟩,
  ⟨some 9, .call ⟨.builtin .len, #[(.tmp 8)], #[35]⟩, none⟩,
  ⟨some 10, .fieldAddr 38 (.tmp 3) 0, none⟩,
  ⟨some 11, .load 35 (.tmp 10), none⟩,
  ⟨some 12, .call ⟨.builtin .len, #[(.tmp 11)], #[35]⟩, none⟩,
  ⟨some 13, .binOp .neq 3 (.tmp 9) (.tmp 12) 3, none⟩,
  ⟨some 14, .move (.tmp 13), none⟩,
  ⟨some 15, .fieldAddr 38 (.tmp 2) 1, some (14, false)⟩,
  ⟨some 16, .load 36 (.tmp 15), some (14, false)⟩,
  ⟨some 17, .call ⟨.builtin .len, #[(.tmp 16)], #[36]⟩, some (14, false)⟩,
  ⟨some 18, .fieldAddr 38 (.tmp 3) 1, some (14, false)⟩,
  ⟨some 19, .load 36 (.tmp 18), some (14, false)⟩,
  ⟨some 20, .call ⟨.builtin .len, #[(.tmp 19)], #[36]⟩, some (14, false)⟩,
  ⟨some 21, .binOp .neq 3 (.tmp 17) (.tmp 20) 3, some (14, false)⟩,
  ⟨some 22, .pick (.tmp 14) (.const (.bool true)) (.tmp 21), none⟩]
def S_law16_same_r2 : SC := .reg [⟨some 4, .assign (.const (.bool false)), none⟩]
def S_law16_same_r3 : SC := .reg [⟨some 5, .assign (.const (.int .i64 0)), none⟩]
def S_law16_same_r4 : SC := .reg [⟨some 23, .move (.tmp 5), none⟩,
  ⟨some 24, .fieldAddr 38 (.tmp 2) 0, none⟩,
  ⟨some 25, .load 35 (.tmp 24), none⟩,
  ⟨some 26, .call ⟨.builtin .len, #[(.tmp 25)], #[35]⟩, none⟩,
  ⟨some 27, .binOp .lss 3 (.tmp 23) (.tmp 26) 3, none⟩]
def S_law16_same_r5 : SC := .draw [⟨some 30, .fieldAddr 38 (.tmp 2) 0, none, [2]⟩,
  ⟨some 31, .load 35 (.tmp 30), none, [30]⟩,
  ⟨some 32, .move (.tmp 5), none, [5]⟩,
  ⟨some 33, .indexAddr 35 (.tmp 31) (.tmp 32), none, [31, 32]⟩,
  ⟨some 34, .load 27 (.tmp 33), none, [33]⟩,
  ⟨some 35, .fieldAddr 38 (.tmp 3) 0, none, [3]⟩,
  ⟨some 36, .load 35 (.tmp 35), none, [35]⟩,
  ⟨some 37, .move (.tmp 5), none, [5]⟩,
  ⟨some 38, .indexAddr 35 (.tmp 36) (.tmp 37), none, [36, 37]⟩,
  ⟨some 39, .load 27 (.tmp 38), none, [38]⟩,
  ⟨some 40, .call ⟨.value (.func 64), #[(.tmp 34), (.tmp 39)], #[27, 27]⟩, none, [34, 39]⟩,
  ⟨some 41, .unOp .not 4 (.tmp 40), none, [40]⟩] [0, 1, 0, 7, 15, 0, 32, 0, 224, 480, 1023, 2047]
def S_law16_same_r6 : SC := .reg [⟨some 4, .assign (.const (.bool false)), none⟩]
def S_law16_same_b0 : SC := .block 1 (.seq S_law16_same_r5 (.cond (.tmp 41) (.seq S_law16_same_r6 .ret) .skip))
def S_law16_same_r7 : SC := .reg [⟨some 28, .move (.tmp 5), none⟩,
  ⟨some 29, .binOp .add 3 (.tmp 28) (.const (.int .i64 1)) 3, none⟩,
  ⟨some 5, .assign (.tmp 29), none⟩]
def S_law16_same_l0 : SC := (.seq (.seq S_law16_same_r4 (.cond (.tmp 27) .skip (.exit 0))) (.seq S_law16_same_b0 S_law16_same_r7))
def S_law16_same_b1 : SC := .block 0 (.loop S_law16_same_l0)
def S_law16_same_r8 : SC := .reg [⟨some 6, .assign (.const (.int .i64 0)), none⟩]
def S_law16_same_r9 : SC := .reg [⟨some 42, .move (.tmp 6), none⟩,
  ⟨some 43, .fieldAddr 38 (.tmp 2) 1, none⟩,
  ⟨some 44, .load 36 (.tmp 43), none⟩,
  ⟨some 45, .call ⟨.builtin .len, #[(.tmp 44)], #[36]⟩, none⟩,
  ⟨some 46, .binOp .lss 3 (.tmp 42) (.tmp 45) 3, none⟩]
def S_law16_same_r10 : SC := .draw [⟨some 49, .fieldAddr 38 (.tmp 2) 1, none, [2]⟩,
  ⟨some 50, .load 36 (.tmp 49), none, [49]⟩,
  ⟨some 51, .move (.tmp 6), none, [6]⟩,
  ⟨some 52, .indexAddr 36 (.tmp 50) (.tmp 51), none, [50, 51]⟩,
  ⟨some 53, .fieldAddr 102 (.tmp 52) 0, none, [52]⟩,
  ⟨some 54, .load 3 (.tmp 53), none, [53]⟩,
  ⟨some 55, .fieldAddr 38 (.tmp 3) 1, none, [3]⟩,
  ⟨some 56, .load 36 (.tmp 55), none, [55]⟩,
  ⟨some 57, .move (.tmp 6), none, [6]⟩,
  ⟨some 58, .indexAddr 36 (.tmp 56) (.tmp 57), none, [56, 57]⟩,
  ⟨some 59, .fieldAddr 102 (.tmp 58) 0, none, [58]⟩,
  ⟨some 60, .load 3 (.tmp 59), none, [59]⟩,
  ⟨some 61, .binOp .neq 3 (.tmp 54) (.tmp 60) 3, none, [54, 60]⟩,
  ⟨some 62, .move (.tmp 61), none, [61]⟩,
  ⟨some 63, .fieldAddr 38 (.tmp 2) 1, some (62, false), [2, 62]⟩,
  ⟨some 64, .load 36 (.tmp 63), some (62, false), [63, 62]⟩,
  ⟨some 65, .move (.tmp 6), some (62, false), [6, 62]⟩,
  ⟨some 66, .indexAddr 36 (.tmp 64) (.tmp 65), some (62, false), [64, 65, 62]⟩,
  ⟨some 67, .fieldAddr 102 (.tmp 66) 2, some (62, false), [66, 62]⟩,
  ⟨some 68, .load 4 (.tmp 67), some (62, false), [67, 62]⟩,
  ⟨some 69, .fieldAddr 38 (.tmp 3) 1, some (62, false), [3, 62]⟩,
  ⟨some 70, .load 36 (.tmp 69), some (62, false), [69, 62]⟩,
  ⟨some 71, .move (.tmp 6), some (62, false), [6, 62]⟩,
  ⟨some 72, .indexAddr 36 (.tmp 70) (.tmp 71), some (62, false), [70, 71, 62]⟩,
  ⟨some 73, .fieldAddr 102 (.tmp 72) 2, some (62, false), [72, 62]⟩,
  ⟨some 74, .load 4 (.tmp 73), some (62, false), [73, 62]⟩,
  ⟨some 75, .binOp .neq 4 (.tmp 68) (.tmp 74) 4, some (62, false), [68, 74, 62]⟩,
  ⟨some 76, .pick (.tmp 62) (.const (.bool true)) (.tmp 75), none, [62, 75]⟩,
  ⟨some 77, .move (.tmp 76), none, [76]⟩,
  ⟨some 78, .fieldAddr 38 (.tmp 2) 1, some (77, false), [2, 77]⟩,
  ⟨some 79, .load 36 (.tmp 78), some (77, false), [78, 77]⟩,
  ⟨some 80, .move (.tmp 6), some (77, false), [6, 77]⟩,
  ⟨some 81, .indexAddr 36 (.tmp 79) (.tmp 80), some (77, false), [79, 80, 77]⟩,
  ⟨some 82, .fieldAddr 102 (.tmp 81) 1, some (77, false), [81, 77]⟩,
  ⟨some 83, .load 27 (.tmp 82), some (77, false), [82, 77]⟩,
  ⟨some 84, .fieldAddr 38 (.tmp 3) 1, some (77, false), [3, 77]⟩,
  ⟨some 85, .load 36 (.tmp 84), some (77, false), [84, 77]⟩,
  ⟨some 86, .move (.tmp 6), some (77, false), [6, 77]⟩,
  ⟨some 87, .indexAddr 36 (.tmp 85) (.tmp 86), some (77, false), [85, 86, 77]⟩,
  ⟨some 88, .fieldAddr 102 (.tmp 87) 1, some (77, false), [87, 77]⟩,
  ⟨some 89, .load 27 (.tmp 88), some (77, false), [88, 77]⟩,
  ⟨some 90, .call ⟨.value (.func 64), #[(.tmp 83), (.tmp 89)], #[27, 27]⟩, some (77, false), [83, 89, 77]⟩,
  ⟨some 91, .unOp .not 4 (.tmp 90), some (77, false), [90, 77]⟩,
  ⟨some 92, .pick (.tmp 77) (.const (.bool true)) (.tmp 91), none, [77, 91]⟩] [0, 1, 0, 7, 15, 31, 0, 64, 0, 448, 960, 1984, 4095, 8191, 16383, 32767, 16383, 131071, 262143, 524287, 16383, 1064959, 16383, 7356415, 15745023, 32522239, 67108863, 134217727, 268435455, 536870911, 1073741823, 536870911, 4294967295, 8589934591, 17179869183, 536870911, 34896609279, 536870911, 241055039487, 515932946431, 1065688760319, 2199023255551, 4398046511103, 8796093022207]
def S_law16_same_r11 : SC := .reg [⟨some 4, .assign (.const (.bool false)), none⟩]
def S_law16_same_b2 : SC := .block 3 (.seq S_law16_same_r10 (.cond (.tmp 92) (.seq S_law16_same_r11 .ret) .skip))
def S_law16_same_r12 : SC := .reg [⟨some 47, .move (.tmp 6), none⟩,
  ⟨some 48, .binOp .add 3 (.tmp 47) (.const (.int .i64 1)) 3, none⟩,
  ⟨some 6, .assign (.tmp 48), none⟩]
def S_law16_same_l1 : SC := (.seq (.seq S_law16_same_r9 (.cond (.tmp 46) .skip (.exit 2))) (.seq S_law16_same_b2 S_law16_same_r12))
def S_law16_same_b3 : SC := .block 2 (.loop S_law16_same_l1)
def S_law16_same_r13 : SC := .reg [⟨some 4, .assign (.const (.bool true)), none⟩]
def S_law16_same : SC := (.seq S_law16_same_r0 (.seq (.seq S_law16_same_r1 (.cond (.tmp 22) (.seq S_law16_same_r2 .ret) .skip)) (.seq (.seq S_law16_same_r3 S_law16_same_b1) (.seq (.seq S_law16_same_r8 S_law16_same_b3) (.seq S_law16_same_r13 .ret)))))
theorem BS_law16_same : Try.f18.body.bind stripC = some S_law16_same := by kernel_rfl
/-! ref3_Equal: function 19, 36 temporaries. -/
def S_ref3_Equal_r0 : SC := .reg [⟨some 2, .box 25 (.tmp 0), none⟩,
  ⟨some 3, .box 25 (.tmp 1), none⟩,
  ⟨some 4, .assign (.const (.bool false)), none⟩]
def S_ref3_Equal_r1 : SC := .reg [⟨some 5, .fieldAddr 25 (.tmp 2) 0, none⟩,
  ⟨some 6, .load 3 (.tmp 5), none⟩,
  ⟨some 7, .fieldAddr 25 (.tmp 3) 0, none⟩,
  ⟨some 8, .load 3 (.tmp 7), none⟩,
  ⟨some 9, .binOp .neq 3 (.tmp 6) (.tmp 8) 3, none⟩,
  ⟨some 10, .move (.tmp 9), none⟩,
  ⟨some 11, .fieldAddr 25 (.tmp 2) 1, some (10, false)⟩,
  ⟨some 12, .load 9 (.tmp 11), some (10, false)⟩,
  ⟨some 13, .fieldAddr 25 (.tmp 3) 1, some (10, false)⟩,
  ⟨some 14, .load 9 (.tmp 13), some (10, false)⟩,
  ⟨some 15, .binOp .neq 9 (.tmp 12) (.tmp 14) 9, some (10, false)⟩,
  ⟨some 16, .pick (.tmp 10) (.const (.bool true)) (.tmp 15), none⟩,
  ⟨some 17, .move (.tmp 16), none⟩,
  ⟨some 18, .fieldAddr 25 (.tmp 2) 2, some (17, false)⟩,
  ⟨some 19, .load 3 (.tmp 18), some (17, false)⟩,
  ⟨some 20, .fieldAddr 25 (.tmp 3) 2, some (17, false)⟩,
  ⟨some 21, .load 3 (.tmp 20), some (17, false)⟩,
  ⟨some 22, .binOp .neq 3 (.tmp 19) (.tmp 21) 3, some (17, false)⟩,
  ⟨some 23, .pick (.tmp 17) (.const (.bool true)) (.tmp 22), none⟩,
  ⟨some 24, .move (.tmp 23), none⟩,
  ⟨some 25, .fieldAddr 25 (.tmp 2) 3, some (24, false)⟩,
  ⟨some 26, .load 3 (.tmp 25), some (24, false)⟩,
  ⟨some 27, .fieldAddr 25 (.tmp 3) 3, some (24, false)⟩,
  ⟨some 28, .load 3 (.tmp 27), some (24, false)⟩,
  ⟨some 29, .binOp .neq 3 (.tmp 26) (.tmp 28) 3, some (24, false)⟩,
  ⟨some 30, .pick (.tmp 24) (.const (.bool true)) (.tmp 29), none⟩]
def S_ref3_Equal_r2 : SC := .reg [⟨some 4, .assign (.const (.bool false)), none⟩]
def S_ref3_Equal_r3 : SC := .reg [⟨some 31, .fieldAddr 25 (.tmp 2) 4, none⟩,
  ⟨some 32, .load 23 (.tmp 31), none⟩,
  ⟨some 33, .fieldAddr 25 (.tmp 3) 4, none⟩,
  ⟨some 34, .load 23 (.tmp 33), none⟩,
  ⟨some 35, .call ⟨.value (.func 65), #[(.tmp 32), (.tmp 34)], #[23, 23]⟩, none⟩,
  ⟨some 4, .assign (.tmp 35), none⟩]
def S_ref3_Equal : SC := (.seq S_ref3_Equal_r0 (.seq (.seq S_ref3_Equal_r1 (.cond (.tmp 30) (.seq S_ref3_Equal_r2 .ret) .skip)) (.seq S_ref3_Equal_r3 .ret)))
theorem BS_ref3_Equal : Try.f19.body.bind stripC = some S_ref3_Equal := by kernel_rfl
/-! store_New: function 20, 2 temporaries. -/
def S_store_New_r0 : SC := .reg [⟨some 0, .alloc 38, none⟩]
def S_store_New_r1 : SC := .reg [⟨some 1, .build 38 #[], none⟩,
  ⟨none, .store 38 (.tmp 0) (.tmp 1), none⟩]
def S_store_New : SC := (.seq S_store_New_r0 (.seq S_store_New_r1 .ret))
theorem BS_store_New : Try.f20.body.bind stripC = some S_store_New := by kernel_rfl
/-! ref16_New: function 21, 2 temporaries. -/
def S_ref16_New_r0 : SC := .reg [⟨some 0, .alloc 38, none⟩]
def S_ref16_New_r1 : SC := .reg [⟨some 1, .build 38 #[], none⟩,
  ⟨none, .store 38 (.tmp 0) (.tmp 1), none⟩]
def S_ref16_New : SC := (.seq S_ref16_New_r0 (.seq S_ref16_New_r1 .ret))
theorem BS_ref16_New : Try.f21.body.bind stripC = some S_ref16_New := by kernel_rfl
/-! make_Mod: function 22, 16 temporaries. -/
def S_make_Mod_r0 : SC := .reg [⟨some 4, .assign (.const (.int .i64 0)), none⟩]
def S_make_Mod_r1 : SC := .reg [⟨some 5, .move (.tmp 1), none⟩,
  ⟨some 6, .binOp .lss 3 (.tmp 5) (.const (.int .i64 1)) 3, none⟩]
def S_make_Mod_r2 : SC := .reg [⟨some 4, .assign (.const (.int .i64 0)), none⟩]
def S_make_Mod_r3 : SC := .reg [⟨some 7, .move (.tmp 0), none⟩,
  ⟨some 8, .move (.tmp 1), none⟩,
  ⟨some 9, .binOp .rem 3 (.tmp 7) (.tmp 8) 3, none⟩,
  ⟨some 0, .assign (.tmp 9), none⟩]
def S_make_Mod_r4 : SC := .reg [⟨some 10, .move (.tmp 0), none⟩,
  ⟨some 11, .binOp .lss 3 (.tmp 10) (.const (.int .i64 0)) 3, none⟩]
def S_make_Mod_r5 : SC := .reg [⟨some 12, .move (.tmp 0), none⟩,
  ⟨some 13, .move (.tmp 1), none⟩,
  ⟨some 14, .binOp .add 3 (.tmp 12) (.tmp 13) 3, none⟩,
  ⟨some 0, .assign (.tmp 14), none⟩]
def S_make_Mod_r6 : SC := .reg [⟨some 15, .move (.tmp 0), none⟩,
  ⟨some 4, .assign (.tmp 15), none⟩]
def S_make_Mod : SC := (.seq S_make_Mod_r0 (.seq (.seq S_make_Mod_r1 (.cond (.tmp 6) (.seq S_make_Mod_r2 .ret) .skip)) (.seq S_make_Mod_r3 (.seq (.seq S_make_Mod_r4 (.cond (.tmp 11) S_make_Mod_r5 .skip)) (.seq S_make_Mod_r6 .ret)))))
theorem BS_make_Mod : Try.f22.body.bind stripC = some S_make_Mod := by kernel_rfl
/-! store_Set: function 23, 39 temporaries. -/
def S_store_Set_r0 : SC := .reg [⟨some 3, .box 38 (.tmp 0), none⟩,
  ⟨some 5, .box 27 (.tmp 2), none⟩,
  ⟨some 6, .alloc 38, none⟩,
  ⟨some 7, .assign (.const (.bool false)), none⟩]
def S_store_Set_r1 : SC := .reg [⟨some 10, .load 38 (.tmp 3), none⟩,
  ⟨some 11, .move (.tmp 1), none⟩,
  ⟨some 12, .call ⟨.value (.func 66), #[(.tmp 10), (.tmp 11)], #[38, 3]⟩, none⟩,
  ⟨some 13, .unOp .not 4 (.tmp 12), none⟩]
def S_store_Set_r2 : SC := .reg [⟨some 14, .load 38 (.tmp 3), none⟩,
  ⟨none, .store 38 (.tmp 6) (.tmp 14), none⟩,
  ⟨some 7, .assign (.const (.bool false)), none⟩]
def S_store_Set_r3 : SC := .reg [⟨some 15, .fieldAddr 38 (.tmp 3) 0, none⟩,
  ⟨some 16, .load 35 (.tmp 15), none⟩,
  ⟨some 17, .call ⟨.builtin .len, #[(.tmp 16)], #[35]⟩, none⟩,
  ⟨some 18, .makeSlice 35 (.tmp 17) (.tmp 17), none⟩,
  ⟨some 8, .assign (.tmp 18), none⟩]
def S_store_Set_r4 : SC := .reg [⟨some 19, .move (.tmp 8), none⟩,
  ⟨some 20, .fieldAddr 38 (.tmp 3) 0, none⟩,
  ⟨some 21, .load 35 (.tmp 20), none⟩,
  ⟨some 22, .call ⟨.builtin .copy, #[(.tmp 19), (.tmp 21)], #[35, 35]⟩, none⟩]
def S_store_Set_r5 : SC := .reg [⟨some 23, .move (.tmp 8), none⟩,
  ⟨some 24, .move (.tmp 1), none⟩,
  ⟨some 25, .indexAddr 35 (.tmp 23) (.tmp 24), none⟩,
  ⟨some 26, .load 27 (.tmp 25), none⟩,
  ⟨some 9, .alloc 27, none⟩,
  ⟨none, .store 27 (.tmp 9) (.tmp 26), none⟩]
def S_store_Set_r6 : SC := .reg [⟨some 27, .move (.tmp 8), none⟩,
  ⟨some 28, .move (.tmp 1), none⟩,
  ⟨some 29, .load 27 (.tmp 5), none⟩,
  ⟨some 30, .indexAddr 35 (.tmp 27) (.tmp 28), none⟩,
  ⟨none, .store 27 (.tmp 30) (.tmp 29), none⟩]
def S_store_Set_r7 : SC := .reg [⟨some 31, .move (.tmp 8), none⟩,
  ⟨some 32, .fieldAddr 38 (.tmp 3) 1, none⟩,
  ⟨some 33, .load 36 (.tmp 32), none⟩,
  ⟨some 34, .move (.tmp 1), none⟩,
  ⟨some 35, .load 27 (.tmp 9), none⟩,
  ⟨some 36, .build 102 #[(0, (.tmp 34)), (1, (.tmp 35))], none⟩,
  ⟨some 37, .call ⟨.value (.func 62), #[(.tmp 33), (.tmp 36)], #[36, 102]⟩, none⟩,
  ⟨some 38, .build 38 #[(0, (.tmp 31)), (1, (.tmp 37))], none⟩,
  ⟨none, .store 38 (.tmp 6) (.tmp 38), none⟩,
  ⟨some 7, .assign (.const (.bool true)), none⟩]
def S_store_Set : SC := (.seq S_store_Set_r0 (.seq (.seq S_store_Set_r1 (.cond (.tmp 13) (.seq S_store_Set_r2 .ret) .skip)) (.seq S_store_Set_r3 (.seq S_store_Set_r4 (.seq S_store_Set_r5 (.seq S_store_Set_r6 (.seq S_store_Set_r7 .ret)))))))
theorem BS_store_Set : Try.f23.body.bind stripC = some S_store_Set := by kernel_rfl
/-! ref16_Set: function 24, 42 temporaries. -/
def S_ref16_Set_r0 : SC := .reg [⟨some 3, .box 38 (.tmp 0), none⟩,
  ⟨some 5, .box 27 (.tmp 2), none⟩,
  ⟨some 6, .alloc 38, none⟩,
  ⟨some 7, .assign (.const (.bool false)), none⟩]
def S_ref16_Set_r1 : SC := .reg [⟨some 9, .move (.tmp 1), none⟩,
  ⟨some 10, .binOp .lss 3 (.tmp 9) (.const (.int .i64 0)) 3, none⟩,
  ⟨some 11, .move (.tmp 10), none⟩,
  ⟨some 12, .move (.tmp 1), some (11, false)⟩,
  ⟨some 13, .fieldAddr 38 (.tmp 3) 0, some (11, false)⟩,
  ⟨some 14, .load 35 (.tmp 13), some (11, false)⟩,
  ⟨some 15, .call ⟨.builtin .len, #[(.tmp 14)], #[35]⟩, some (11, false)⟩,
  ⟨some 16, .binOp .geq 3 (.tmp 12) (.tmp 15) 3, some (11, false)⟩,
  ⟨some 17, .pick (.tmp 11) (.const (.bool true)) (.tmp 16), none⟩]
def S_ref16_Set_r2 : SC := .reg [⟨some 18, .load 38 (.tmp 3), none⟩,
  ⟨none, .store 38 (.tmp 6) (.tmp 18), none⟩,
  ⟨some 7, .assign (.const (.bool false)), none⟩]
def S_ref16_Set_r3 : SC := .reg [⟨some 19, .fieldAddr 38 (.tmp 3) 0, none⟩,
  ⟨some 20, .load 35 (.tmp 19), none⟩,
  ⟨some 21, .call ⟨.builtin .append, #[(.const (.slice none 0 0)), (.tmp 20)], #[35, 35]⟩, none⟩,
  ⟨some 22, .build 38 #[(0, (.tmp 21))], none⟩,
  ⟨some 8, .alloc 38, none⟩,
  ⟨none, .store 38 (.tmp 8) (.tmp 22), none⟩]
def S_ref16_Set_r4 : SC := .draw [⟨some 23, .fieldAddr 38 (.tmp 3) 1, none, [3]⟩,
  ⟨some 24, .load 36 (.tmp 23), none, [23]⟩,
  ⟨some 25, .call ⟨.builtin .append, #[(.const (.slice none 0 0)), (.tmp 24)], #[36, 36]⟩, none, [24]⟩,
  ⟨some 26, .move (.tmp 1), none, [1]⟩,
  ⟨some 27, .fieldAddr 38 (.tmp 3) 0, none, [3]⟩,
  ⟨some 28, .load 35 (.tmp 27), none, [27]⟩,
  ⟨some 29, .move (.tmp 1), none, [1]⟩,
  ⟨some 30, .indexAddr 35 (.tmp 28) (.tmp 29), none, [28, 29]⟩,
  ⟨some 31, .load 27 (.tmp 30), none, [30]⟩,
  ⟨some 32, .build 102 #[(0, (.tmp 26)), (1, (.tmp 31))], none, [26, 31]⟩,
  ⟨some 33, .buildSlice 36 1 #[(0, (.tmp 32))], none, [32]⟩,
  ⟨some 34, .call ⟨.builtin .append, #[(.tmp 25), (.tmp 33)], #[36, 36]⟩, none, [25, 33]⟩,
  ⟨some 35, .fieldAddr 38 (.tmp 8) 1, none, [8]⟩,
  ⟨none, .store 36 (.tmp 35) (.tmp 34), none, [35, 34]⟩] [0, 1, 3, 0, 0, 16, 0, 112, 240, 504, 1016, 2047, 4095, 8191]
def S_ref16_Set_r5 : SC := .reg [⟨some 36, .fieldAddr 38 (.tmp 8) 0, none⟩,
  ⟨some 37, .load 35 (.tmp 36), none⟩,
  ⟨some 38, .move (.tmp 1), none⟩,
  ⟨some 39, .load 27 (.tmp 5), none⟩,
  ⟨some 40, .indexAddr 35 (.tmp 37) (.tmp 38), none⟩,
  ⟨none, .store 27 (.tmp 40) (.tmp 39), none⟩]
def S_ref16_Set_r6 : SC := .reg [⟨some 41, .load 38 (.tmp 8), none⟩,
  ⟨none, .store 38 (.tmp 6) (.tmp 41), none⟩,
  ⟨some 7, .assign (.const (.bool true)), none⟩]
def S_ref16_Set : SC := (.seq S_ref16_Set_r0 (.seq (.seq S_ref16_Set_r1 (.cond (.tmp 17) (.seq S_ref16_Set_r2 .ret) .skip)) (.seq S_ref16_Set_r3 (.seq S_ref16_Set_r4 (.seq S_ref16_Set_r5 (.seq S_ref16_Set_r6 .ret))))))
theorem BS_ref16_Set : Try.f24.body.bind stripC = some S_ref16_Set := by kernel_rfl
/-! store_Mark: function 25, 6 temporaries. -/
def S_store_Mark_r0 : SC := .reg [⟨some 1, .box 38 (.tmp 0), none⟩,
  ⟨some 2, .assign (.const (.int .i64 0)), none⟩]
def S_store_Mark_r1 : SC := .reg [⟨some 3, .fieldAddr 38 (.tmp 1) 1, none⟩,
  ⟨some 4, .load 36 (.tmp 3), none⟩,
  ⟨some 5, .call ⟨.builtin .len, #[(.tmp 4)], #[36]⟩, none⟩,
  ⟨some 2, .assign (.tmp 5), none⟩]
def S_store_Mark : SC := (.seq S_store_Mark_r0 (.seq S_store_Mark_r1 .ret))
theorem BS_store_Mark : Try.f25.body.bind stripC = some S_store_Mark := by kernel_rfl
/-! ref3_Int: function 26, 2 temporaries. -/
def S_ref3_Int_r0 : SC := .reg [⟨some 0, .alloc 25, none⟩]
def S_ref3_Int_r1 : SC := .reg [⟨some 1, .call ⟨.value (.func 67), #[(.const (.string ⟨#[73, 110, 116]⟩)), (.const (.slice none 0 0))], #[9, 23]⟩, none⟩,
  ⟨none, .store 25 (.tmp 0) (.tmp 1), none⟩]
def S_ref3_Int : SC := (.seq S_ref3_Int_r0 (.seq S_ref3_Int_r1 .ret))
theorem BS_ref3_Int : Try.f26.body.bind stripC = some S_ref3_Int := by kernel_rfl
/-! store_Rollback: function 27, 68 temporaries. -/
def S_store_Rollback_r0 : SC := .reg [⟨some 2, .box 38 (.tmp 0), none⟩,
  ⟨some 4, .alloc 38, none⟩,
  ⟨some 5, .assign (.const (.bool false)), none⟩]
def S_store_Rollback_r1 : SC := .reg [⟨some 9, .move (.tmp 1), none⟩,
  ⟨some 10, .binOp .lss 3 (.tmp 9) (.const (.int .i64 0)) 3, none⟩,
  ⟨some 11, .move (.tmp 10), none⟩,
  ⟨some 12, .move (.tmp 1), some (11, false)⟩,
  ⟨some 13, .fieldAddr 38 (.tmp 2) 1, some (11, false)⟩,
  ⟨some 14, .load 36 (.tmp 13), some (11, false)⟩,
  ⟨some 15, .call ⟨.builtin .len, #[(.tmp 14)], #[36]⟩, some (11, false)⟩,
  ⟨some 16, .binOp .gtr 3 (.tmp 12) (.tmp 15) 3, some (11, false)⟩,
  ⟨some 17, .pick (.tmp 11) (.const (.bool true)) (.tmp 16), none⟩]
def S_store_Rollback_r2 : SC := .reg [⟨some 18, .load 38 (.tmp 2), none⟩,
  ⟨none, .store 38 (.tmp 4) (.tmp 18), none⟩,
  ⟨some 5, .assign (.const (.bool false)), none⟩]
def S_store_Rollback_r3 : SC := .reg [⟨some 19, .fieldAddr 38 (.tmp 2) 0, none⟩,
  ⟨some 20, .load 35 (.tmp 19), none⟩,
  ⟨some 21, .call ⟨.builtin .len, #[(.tmp 20)], #[35]⟩, none⟩,
  ⟨some 22, .makeSlice 35 (.tmp 21) (.tmp 21), none⟩,
  ⟨some 6, .alloc 35, none⟩,
  ⟨none, .store 35 (.tmp 6) (.tmp 22), none⟩]
def S_store_Rollback_r4 : SC := .reg [⟨some 23, .load 35 (.tmp 6), none⟩,
  ⟨some 24, .fieldAddr 38 (.tmp 2) 0, none⟩,
  ⟨some 25, .load 35 (.tmp 24), none⟩,
  ⟨some 26, .call ⟨.builtin .copy, #[(.tmp 23), (.tmp 25)], #[35, 35]⟩, none⟩]
def S_store_Rollback_r5 : SC := .reg [⟨some 27, .fieldAddr 38 (.tmp 2) 1, none⟩,
  ⟨some 28, .load 36 (.tmp 27), none⟩,
  ⟨some 29, .move (.tmp 1), none⟩,
  ⟨some 30, .slice 36 (.tmp 28) (some (.tmp 29)) none none, none⟩,
  ⟨some 31, .call ⟨.value (.func 68), #[(.tmp 30)], #[36]⟩, none⟩]
def S_store_Rollback_r6 : SC := .reg [⟨some 8, .alloc 102, none⟩,
  ⟨none, .store 102 (.tmp 8) (.tmp 33), none⟩]
def S_store_Rollback_r7 : SC := .reg [⟨some 41, .load 38 (.tmp 2), none⟩,
  ⟨some 42, .fieldAddr 102 (.tmp 8) 0, none⟩,
  ⟨some 43, .load 3 (.tmp 42), none⟩,
  ⟨some 44, .call ⟨.value (.func 66), #[(.tmp 41), (.tmp 43)], #[38, 3]⟩, none⟩,
  ⟨some 45, .unOp .not 4 (.tmp 44), none⟩,
  ⟨some 46, .move (.tmp 45), none⟩,
  ⟨some 47, .fieldAddr 102 (.tmp 8) 0, some (46, false)⟩,
  ⟨some 48, .load 3 (.tmp 47), some (46, false)⟩,
  ⟨some 49, .load 35 (.tmp 6), some (46, false)⟩,
  ⟨some 50, .call ⟨.builtin .len, #[(.tmp 49)], #[35]⟩, some (46, false)⟩,
  ⟨some 51, .binOp .geq 3 (.tmp 48) (.tmp 50) 3, some (46, false)⟩,
  ⟨some 52, .pick (.tmp 46) (.const (.bool true)) (.tmp 51), none⟩,
  ⟨some 40, .assign (.tmp 52), none⟩]
def S_store_Rollback_r8 : SC := .reg [⟨some 54, .fieldAddr 102 (.tmp 8) 2, none⟩,
  ⟨some 55, .load 4 (.tmp 54), none⟩,
  ⟨some 53, .assign (.tmp 55), none⟩]
def S_store_Rollback_r9 : SC := .reg [⟨some 56, .load 35 (.tmp 6), none⟩,
  ⟨some 57, .fieldAddr 102 (.tmp 8) 0, none⟩,
  ⟨some 58, .load 3 (.tmp 57), none⟩,
  ⟨some 59, .slice 35 (.tmp 56) none (some (.tmp 58)) none, none⟩,
  ⟨none, .store 35 (.tmp 6) (.tmp 59), none⟩]
def S_store_Rollback_r10 : SC := .reg [⟨some 34, .load 35 (.tmp 6), none⟩,
  ⟨some 35, .fieldAddr 102 (.tmp 8) 0, none⟩,
  ⟨some 36, .load 3 (.tmp 35), none⟩,
  ⟨some 37, .fieldAddr 102 (.tmp 8) 1, none⟩,
  ⟨some 38, .load 27 (.tmp 37), none⟩,
  ⟨some 39, .indexAddr 35 (.tmp 34) (.tmp 36), none⟩,
  ⟨none, .store 27 (.tmp 39) (.tmp 38), none⟩]
def S_store_Rollback_b0 : SC := .block 2 (.seq S_store_Rollback_r7 (.cond (.tmp 40) .skip (.seq S_store_Rollback_r8 (.cond (.tmp 53) S_store_Rollback_r9 S_store_Rollback_r10))))
def S_store_Rollback_b1 : SC := .block 1 S_store_Rollback_b0
def S_store_Rollback_g0a : SC := S_store_Rollback_r6
def S_store_Rollback_g0b : SC := S_store_Rollback_b1
def S_store_Rollback_b2 : SC := .block 0 (.range (.tmp 31) #[32, 33] S_store_Rollback_g0a S_store_Rollback_g0b)
def S_store_Rollback_r11 : SC := .draw [⟨some 60, .load 35 (.tmp 6), none, [6]⟩,
  ⟨some 61, .call ⟨.value (.func 69), #[(.tmp 60)], #[35]⟩, none, [60]⟩,
  ⟨some 62, .fieldAddr 38 (.tmp 2) 1, none, [2]⟩,
  ⟨some 63, .load 36 (.tmp 62), none, [62]⟩,
  ⟨some 64, .move (.tmp 1), none, [1]⟩,
  ⟨some 65, .slice 36 (.tmp 63) none (some (.tmp 64)) none, none, [63, 64]⟩,
  ⟨some 66, .call ⟨.value (.func 70), #[(.tmp 65)], #[36]⟩, none, [65]⟩,
  ⟨some 67, .build 38 #[(0, (.tmp 61)), (1, (.tmp 66))], none, [61, 66]⟩,
  ⟨none, .store 38 (.tmp 4) (.tmp 67), none, [4, 67]⟩,
  ⟨some 5, .assign (.const (.bool true)), none, []⟩] [0, 1, 0, 4, 0, 28, 63, 127, 255, 511]
def S_store_Rollback : SC := (.seq S_store_Rollback_r0 (.seq (.seq S_store_Rollback_r1 (.cond (.tmp 17) (.seq S_store_Rollback_r2 .ret) .skip)) (.seq S_store_Rollback_r3 (.seq S_store_Rollback_r4 (.seq (.seq S_store_Rollback_r5 S_store_Rollback_b2) (.seq S_store_Rollback_r11 .ret))))))
theorem BS_store_Rollback : Try.f27.body.bind stripC = some S_store_Rollback := by kernel_rfl
/-! law16_few: function 29, 46 temporaries. -/
def S_law16_few_r0 : SC := .reg [⟨some 1, .box 38 (.tmp 0), none⟩,
  ⟨some 2, .assign (.const (.bool false)), none⟩]
def S_law16_few_r1 : SC := .reg [⟨some 5, .fieldAddr 38 (.tmp 1) 0, none⟩,
  ⟨some 6, .load 35 (.tmp 5), none⟩,
  ⟨some 7, .call ⟨.builtin .len, #[(.tmp 6)], #[35]⟩, none⟩,
  ⟨some 8, .binOp .gtr 3 (.tmp 7) (.const (.int .i64 6)) 3, none⟩,
  ⟨some 9, .move (.tmp 8), none⟩,
  ⟨some 10, .fieldAddr 38 (.tmp 1) 1, some (9, false)⟩,
  ⟨some 11, .load 36 (.tmp 10), some (9, false)⟩,
  ⟨some 12, .call ⟨.builtin .len, #[(.tmp 11)], #[36]⟩, some (9, false)⟩,
  ⟨some 13, .binOp .gtr 3 (.tmp 12) (.const (.int .i64 6)) 3, some (9, false)⟩,
  ⟨some 14, .pick (.tmp 9) (.const (.bool true)) (.tmp 13), none⟩]
def S_law16_few_r2 : SC := .reg [⟨some 2, .assign (.const (.bool false)), none⟩]
def S_law16_few_r3 : SC := .reg [⟨some 3, .assign (.const (.int .i64 0)), none⟩]
def S_law16_few_r4 : SC := .reg [⟨some 15, .move (.tmp 3), none⟩,
  ⟨some 16, .fieldAddr 38 (.tmp 1) 0, none⟩,
  ⟨some 17, .load 35 (.tmp 16), none⟩,
  ⟨some 18, .call ⟨.builtin .len, #[(.tmp 17)], #[35]⟩, none⟩,
  ⟨some 19, .binOp .lss 3 (.tmp 15) (.tmp 18) 3, none⟩]
def S_law16_few_r5 : SC := .reg [⟨some 22, .fieldAddr 38 (.tmp 1) 0, none⟩,
  ⟨some 23, .load 35 (.tmp 22), none⟩,
  ⟨some 24, .move (.tmp 3), none⟩,
  ⟨some 25, .indexAddr 35 (.tmp 23) (.tmp 24), none⟩,
  ⟨some 26, .fieldAddr 27 (.tmp 25) 1, none⟩,
  ⟨some 27, .load 25 (.tmp 26), none⟩,
  ⟨some 28, .call ⟨.value (.func 12), #[(.tmp 27), (.const (.int .i64 20))], #[25, 3]⟩, none⟩,
  ⟨some 29, .unOp .not 4 (.tmp 28), none⟩]
def S_law16_few_r6 : SC := .reg [⟨some 2, .assign (.const (.bool false)), none⟩]
def S_law16_few_b0 : SC := .block 1 (.seq S_law16_few_r5 (.cond (.tmp 29) (.seq S_law16_few_r6 .ret) .skip))
def S_law16_few_r7 : SC := .reg [⟨some 20, .move (.tmp 3), none⟩,
  ⟨some 21, .binOp .add 3 (.tmp 20) (.const (.int .i64 1)) 3, none⟩,
  ⟨some 3, .assign (.tmp 21), none⟩]
def S_law16_few_l0 : SC := (.seq (.seq S_law16_few_r4 (.cond (.tmp 19) .skip (.exit 0))) (.seq S_law16_few_b0 S_law16_few_r7))
def S_law16_few_b1 : SC := .block 0 (.loop S_law16_few_l0)
def S_law16_few_r8 : SC := .reg [⟨some 4, .assign (.const (.int .i64 0)), none⟩]
def S_law16_few_r9 : SC := .reg [⟨some 30, .move (.tmp 4), none⟩,
  ⟨some 31, .fieldAddr 38 (.tmp 1) 1, none⟩,
  ⟨some 32, .load 36 (.tmp 31), none⟩,
  ⟨some 33, .call ⟨.builtin .len, #[(.tmp 32)], #[36]⟩, none⟩,
  ⟨some 34, .binOp .lss 3 (.tmp 30) (.tmp 33) 3, none⟩]
def S_law16_few_r10 : SC := .reg [⟨some 37, .fieldAddr 38 (.tmp 1) 1, none⟩,
  ⟨some 38, .load 36 (.tmp 37), none⟩,
  ⟨some 39, .move (.tmp 4), none⟩,
  ⟨some 40, .indexAddr 36 (.tmp 38) (.tmp 39), none⟩,
  ⟨some 41, .fieldAddr 102 (.tmp 40) 1, none⟩,
  ⟨some 42, .fieldAddr 27 (.tmp 41) 1, none⟩,
  ⟨some 43, .load 25 (.tmp 42), none⟩,
  ⟨some 44, .call ⟨.value (.func 12), #[(.tmp 43), (.const (.int .i64 20))], #[25, 3]⟩, none⟩,
  ⟨some 45, .unOp .not 4 (.tmp 44), none⟩]
def S_law16_few_r11 : SC := .reg [⟨some 2, .assign (.const (.bool false)), none⟩]
def S_law16_few_b2 : SC := .block 3 (.seq S_law16_few_r10 (.cond (.tmp 45) (.seq S_law16_few_r11 .ret) .skip))
def S_law16_few_r12 : SC := .reg [⟨some 35, .move (.tmp 4), none⟩,
  ⟨some 36, .binOp .add 3 (.tmp 35) (.const (.int .i64 1)) 3, none⟩,
  ⟨some 4, .assign (.tmp 36), none⟩]
def S_law16_few_l1 : SC := (.seq (.seq S_law16_few_r9 (.cond (.tmp 34) .skip (.exit 2))) (.seq S_law16_few_b2 S_law16_few_r12))
def S_law16_few_b3 : SC := .block 2 (.loop S_law16_few_l1)
def S_law16_few_r13 : SC := .reg [⟨some 2, .assign (.const (.bool true)), none⟩]
def S_law16_few : SC := (.seq S_law16_few_r0 (.seq (.seq S_law16_few_r1 (.cond (.tmp 14) (.seq S_law16_few_r2 .ret) .skip)) (.seq (.seq S_law16_few_r3 S_law16_few_b1) (.seq (.seq S_law16_few_r8 S_law16_few_b3) (.seq S_law16_few_r13 .ret)))))
theorem BS_law16_few : Try.f29.body.bind stripC = some S_law16_few := by kernel_rfl
/-! ref16_Valid: function 30, 92 temporaries. -/
def S_ref16_Valid_r0 : SC := .reg [⟨some 1, .box 38 (.tmp 0), none⟩,
  ⟨some 2, .assign (.const (.bool false)), none⟩]
def S_ref16_Valid_r1 : SC := .reg [⟨some 3, .assign (.const (.int .i64 0)), none⟩]
def S_ref16_Valid_r2 : SC := .reg [⟨some 9, .move (.tmp 3), none⟩,
  ⟨some 10, .fieldAddr 38 (.tmp 1) 1, none⟩,
  ⟨some 11, .load 36 (.tmp 10), none⟩,
  ⟨some 12, .call ⟨.builtin .len, #[(.tmp 11)], #[36]⟩, none⟩,
  ⟨some 13, .binOp .lss 3 (.tmp 9) (.tmp 12) 3, none⟩]
def S_ref16_Valid_r3 : SC := .draw [⟨some 16, .fieldAddr 38 (.tmp 1) 1, none, [1]⟩,
  ⟨some 17, .load 36 (.tmp 16), none, [16]⟩,
  ⟨some 18, .move (.tmp 3), none, [3]⟩,
  ⟨some 19, .indexAddr 36 (.tmp 17) (.tmp 18), none, [17, 18]⟩,
  ⟨some 20, .fieldAddr 102 (.tmp 19) 0, none, [19]⟩,
  ⟨some 21, .load 3 (.tmp 20), none, [20]⟩,
  ⟨some 22, .binOp .lss 3 (.tmp 21) (.const (.int .i64 0)) 3, none, [21]⟩,
  ⟨some 23, .move (.tmp 22), none, [22]⟩,
  ⟨some 24, .fieldAddr 38 (.tmp 1) 1, some (23, false), [1, 23]⟩,
  ⟨some 25, .load 36 (.tmp 24), some (23, false), [24, 23]⟩,
  ⟨some 26, .move (.tmp 3), some (23, false), [3, 23]⟩,
  ⟨some 27, .indexAddr 36 (.tmp 25) (.tmp 26), some (23, false), [25, 26, 23]⟩,
  ⟨some 28, .fieldAddr 102 (.tmp 27) 0, some (23, false), [27, 23]⟩,
  ⟨some 29, .load 3 (.tmp 28), some (23, false), [28, 23]⟩,
  ⟨some 30, .fieldAddr 38 (.tmp 1) 0, some (23, false), [1, 23]⟩,
  ⟨some 31, .load 35 (.tmp 30), some (23, false), [30, 23]⟩,
  ⟨some 32, .call ⟨.builtin .len, #[(.tmp 31)], #[35]⟩, some (23, false), [31, 23]⟩,
  ⟨some 33, .binOp .geq 3 (.tmp 29) (.tmp 32) 3, some (23, false), [29, 32, 23]⟩,
  ⟨some 34, .pick (.tmp 23) (.const (.bool true)) (.tmp 33), none, [23, 33]⟩] [0, 1, 0, 7, 15, 31, 63, 127, 255, 511, 255, 2047, 4095, 8191, 255, 16639, 49407, 131071, 262143]
def S_ref16_Valid_r4 : SC := .reg [⟨some 2, .assign (.const (.bool false)), none⟩]
def S_ref16_Valid_b0 : SC := .block 1 (.seq S_ref16_Valid_r3 (.cond (.tmp 34) (.seq S_ref16_Valid_r4 .ret) .skip))
def S_ref16_Valid_r5 : SC := .reg [⟨some 14, .move (.tmp 3), none⟩,
  ⟨some 15, .binOp .add 3 (.tmp 14) (.const (.int .i64 1)) 3, none⟩,
  ⟨some 3, .assign (.tmp 15), none⟩]
def S_ref16_Valid_l0 : SC := (.seq (.seq S_ref16_Valid_r2 (.cond (.tmp 13) .skip (.exit 0))) (.seq S_ref16_Valid_b0 S_ref16_Valid_r5))
def S_ref16_Valid_b1 : SC := .block 0 (.loop S_ref16_Valid_l0)
def S_ref16_Valid_r6 : SC := .reg [⟨some 4, .assign (.const (.int .i64 0)), none⟩]
def S_ref16_Valid_r7 : SC := .reg [⟨some 35, .move (.tmp 4), none⟩,
  ⟨some 36, .fieldAddr 38 (.tmp 1) 0, none⟩,
  ⟨some 37, .load 35 (.tmp 36), none⟩,
  ⟨some 38, .call ⟨.builtin .len, #[(.tmp 37)], #[35]⟩, none⟩,
  ⟨some 39, .binOp .lss 3 (.tmp 35) (.tmp 38) 3, none⟩]
def S_ref16_Valid_r8 : SC := .reg [⟨some 42, .fieldAddr 38 (.tmp 1) 0, none⟩,
  ⟨some 43, .load 35 (.tmp 42), none⟩,
  ⟨some 44, .move (.tmp 4), none⟩,
  ⟨some 45, .indexAddr 35 (.tmp 43) (.tmp 44), none⟩,
  ⟨some 46, .load 27 (.tmp 45), none⟩,
  ⟨some 5, .alloc 27, none⟩,
  ⟨none, .store 27 (.tmp 5) (.tmp 46), none⟩]
def S_ref16_Valid_r9 : SC := .reg [⟨some 47, .fieldAddr 27 (.tmp 5) 0, none⟩,
  ⟨some 48, .load 4 (.tmp 47), none⟩,
  ⟨some 49, .unOp .not 4 (.tmp 48), none⟩]
def S_ref16_Valid_r10 : SC := .reg [⟨some 50, .fieldAddr 27 (.tmp 5) 1, none⟩,
  ⟨some 51, .load 25 (.tmp 50), none⟩,
  ⟨some 52, .build 25 #[], none⟩,
  ⟨some 53, .call ⟨.value (.func 19), #[(.tmp 51), (.tmp 52)], #[25, 25]⟩, none⟩,
  ⟨some 54, .unOp .not 4 (.tmp 53), none⟩]
def S_ref16_Valid_r11 : SC := .reg [⟨some 2, .assign (.const (.bool false)), none⟩]
def S_ref16_Valid_r12 : SC := .reg [⟨some 55, .fieldAddr 27 (.tmp 5) 1, none⟩,
  ⟨some 56, .load 25 (.tmp 55), none⟩,
  ⟨some 57, .call ⟨.value (.func 57), #[(.tmp 56)], #[25]⟩, none⟩,
  ⟨some 58, .unOp .not 4 (.tmp 57), none⟩]
def S_ref16_Valid_r13 : SC := .reg [⟨some 2, .assign (.const (.bool false)), none⟩]
def S_ref16_Valid_r14 : SC := .reg [⟨some 59, .fieldAddr 27 (.tmp 5) 1, none⟩,
  ⟨some 60, .load 25 (.tmp 59), none⟩,
  ⟨some 61, .buildSlice 23 1 #[(0, (.tmp 60))], none⟩,
  ⟨some 62, .call ⟨.value (.func 46), #[(.tmp 61)], #[23]⟩, none⟩,
  ⟨some 6, .assign (.tmp 62), none⟩]
def S_ref16_Valid_r15 : SC := .reg [⟨some 7, .assign (.const (.int .i64 0)), none⟩]
def S_ref16_Valid_r16 : SC := .reg [⟨some 63, .move (.tmp 7), none⟩,
  ⟨some 64, .move (.tmp 6), none⟩,
  ⟨some 65, .call ⟨.builtin .len, #[(.tmp 64)], #[22]⟩, none⟩,
  ⟨some 66, .binOp .lss 3 (.tmp 63) (.tmp 65) 3, none⟩]
def S_ref16_Valid_r17 : SC := .draw [⟨some 69, .move (.tmp 6), none, [6]⟩,
  ⟨some 70, .move (.tmp 7), none, [7]⟩,
  ⟨some 71, .indexAddr 22 (.tmp 69) (.tmp 70), none, [69, 70]⟩,
  ⟨some 72, .load 3 (.tmp 71), none, [71]⟩,
  ⟨some 73, .fieldAddr 38 (.tmp 1) 0, none, [1]⟩,
  ⟨some 74, .load 35 (.tmp 73), none, [73]⟩,
  ⟨some 75, .call ⟨.builtin .len, #[(.tmp 74)], #[35]⟩, none, [74]⟩,
  ⟨some 76, .binOp .geq 3 (.tmp 72) (.tmp 75) 3, none, [72, 75]⟩] [0, 0, 3, 7, 0, 16, 48, 127]
def S_ref16_Valid_r18 : SC := .reg [⟨some 2, .assign (.const (.bool false)), none⟩]
def S_ref16_Valid_b2 : SC := .block 5 (.seq S_ref16_Valid_r17 (.cond (.tmp 76) (.seq S_ref16_Valid_r18 .ret) .skip))
def S_ref16_Valid_r19 : SC := .reg [⟨some 67, .move (.tmp 7), none⟩,
  ⟨some 68, .binOp .add 3 (.tmp 67) (.const (.int .i64 1)) 3, none⟩,
  ⟨some 7, .assign (.tmp 68), none⟩]
def S_ref16_Valid_l1 : SC := (.seq (.seq S_ref16_Valid_r16 (.cond (.tmp 66) .skip (.exit 4))) (.seq S_ref16_Valid_b2 S_ref16_Valid_r19))
def S_ref16_Valid_b3 : SC := .block 4 (.loop S_ref16_Valid_l1)
def S_ref16_Valid_b4 : SC := .block 3 (.seq S_ref16_Valid_r8 (.seq (.seq S_ref16_Valid_r9 (.cond (.tmp 49) (.seq (.seq S_ref16_Valid_r10 (.cond (.tmp 54) (.seq S_ref16_Valid_r11 .ret) .skip)) (.exit 3)) .skip)) (.seq (.seq S_ref16_Valid_r12 (.cond (.tmp 58) (.seq S_ref16_Valid_r13 .ret) .skip)) (.seq S_ref16_Valid_r14 (.seq S_ref16_Valid_r15 S_ref16_Valid_b3)))))
def S_ref16_Valid_r20 : SC := .reg [⟨some 40, .move (.tmp 4), none⟩,
  ⟨some 41, .binOp .add 3 (.tmp 40) (.const (.int .i64 1)) 3, none⟩,
  ⟨some 4, .assign (.tmp 41), none⟩]
def S_ref16_Valid_l2 : SC := (.seq (.seq S_ref16_Valid_r7 (.cond (.tmp 39) .skip (.exit 2))) (.seq S_ref16_Valid_b4 S_ref16_Valid_r20))
def S_ref16_Valid_b5 : SC := .block 2 (.loop S_ref16_Valid_l2)
def S_ref16_Valid_r21 : SC := .reg [⟨some 8, .assign (.const (.int .i64 0)), none⟩]
def S_ref16_Valid_r22 : SC := .reg [⟨some 77, .move (.tmp 8), none⟩,
  ⟨some 78, .fieldAddr 38 (.tmp 1) 0, none⟩,
  ⟨some 79, .load 35 (.tmp 78), none⟩,
  ⟨some 80, .call ⟨.builtin .len, #[(.tmp 79)], #[35]⟩, none⟩,
  ⟨some 81, .binOp .lss 3 (.tmp 77) (.tmp 80) 3, none⟩]
def S_ref16_Valid_r23 : SC := .draw [⟨some 84, .load 38 (.tmp 1), none, [1]⟩,
  ⟨some 85, .move (.tmp 8), none, [8]⟩,
  ⟨some 86, .fieldAddr 38 (.tmp 1) 0, none, [1]⟩,
  ⟨some 87, .load 35 (.tmp 86), none, [86]⟩,
  ⟨some 88, .call ⟨.builtin .len, #[(.tmp 87)], #[35]⟩, none, [87]⟩,
  ⟨some 89, .makeSlice 22 (.tmp 88) (.tmp 88), none, [88, 88]⟩,
  ⟨some 90, .move (.tmp 8), none, [8]⟩,
  ⟨some 91, .call ⟨.value (.func 71), #[(.tmp 84), (.tmp 85), (.tmp 89), (.tmp 90)], #[38, 3, 22, 3]⟩, none, [84, 85, 89, 90]⟩] [0, 0, 0, 4, 12, 28, 0, 127]
def S_ref16_Valid_r24 : SC := .reg [⟨some 2, .assign (.const (.bool false)), none⟩]
def S_ref16_Valid_b6 : SC := .block 7 (.seq S_ref16_Valid_r23 (.cond (.tmp 91) (.seq S_ref16_Valid_r24 .ret) .skip))
def S_ref16_Valid_r25 : SC := .reg [⟨some 82, .move (.tmp 8), none⟩,
  ⟨some 83, .binOp .add 3 (.tmp 82) (.const (.int .i64 1)) 3, none⟩,
  ⟨some 8, .assign (.tmp 83), none⟩]
def S_ref16_Valid_l3 : SC := (.seq (.seq S_ref16_Valid_r22 (.cond (.tmp 81) .skip (.exit 6))) (.seq S_ref16_Valid_b6 S_ref16_Valid_r25))
def S_ref16_Valid_b7 : SC := .block 6 (.loop S_ref16_Valid_l3)
def S_ref16_Valid_r26 : SC := .reg [⟨some 2, .assign (.const (.bool true)), none⟩]
def S_ref16_Valid : SC := (.seq S_ref16_Valid_r0 (.seq (.seq S_ref16_Valid_r1 S_ref16_Valid_b1) (.seq (.seq S_ref16_Valid_r6 S_ref16_Valid_b5) (.seq (.seq S_ref16_Valid_r21 S_ref16_Valid_b7) (.seq S_ref16_Valid_r26 .ret)))))
theorem BS_ref16_Valid : Try.f30.body.bind stripC = some S_ref16_Valid := by kernel_rfl
/-! make_Tape_Type: function 31, 95 temporaries. -/
def S_make_Tape_Type_r0 : SC := .reg [⟨some 8, .alloc 25, none⟩]
def S_make_Tape_Type_r1 : SC := .reg [⟨some 14, .move (.tmp 0), none⟩,
  ⟨some 15, .call ⟨.value (.func 58), #[(.tmp 14), (.const (.int .i64 7))], #[32, 3]⟩, none⟩,
  ⟨some 9, .assign (.tmp 15), none⟩]
def S_make_Tape_Type_r2 : SC := .reg [⟨some 17, .move (.tmp 9), none⟩,
  ⟨some 18, .binOp .lss 3 (.tmp 17) (.const (.int .i64 3)) 3, none⟩,
  ⟨some 19, .move (.tmp 18), none⟩,
  ⟨some 20, .move (.tmp 2), some (19, true)⟩,
  ⟨some 21, .call ⟨.builtin .len, #[(.tmp 20)], #[23]⟩, some (19, true)⟩,
  ⟨some 22, .binOp .gtr 3 (.tmp 21) (.const (.int .i64 0)) 3, some (19, true)⟩,
  ⟨some 23, .pick (.tmp 19) (.tmp 22) (.const (.bool false)), none⟩,
  ⟨some 16, .assign (.tmp 23), none⟩]
def S_make_Tape_Type_r3 : SC := .reg [⟨some 24, .move (.tmp 2), none⟩,
  ⟨some 25, .move (.tmp 0), none⟩,
  ⟨some 26, .move (.tmp 2), none⟩,
  ⟨some 27, .call ⟨.builtin .len, #[(.tmp 26)], #[23]⟩, none⟩,
  ⟨some 28, .call ⟨.value (.func 58), #[(.tmp 25), (.tmp 27)], #[32, 3]⟩, none⟩,
  ⟨some 29, .indexAddr 23 (.tmp 24) (.tmp 28), none⟩,
  ⟨some 30, .load 25 (.tmp 29), none⟩,
  ⟨none, .store 25 (.tmp 8) (.tmp 30), none⟩]
def S_make_Tape_Type_r4 : SC := .reg [⟨some 32, .move (.tmp 9), none⟩,
  ⟨some 33, .binOp .lss 3 (.tmp 32) (.const (.int .i64 4)) 3, none⟩,
  ⟨some 34, .move (.tmp 33), none⟩,
  ⟨some 35, .move (.tmp 3), some (34, false)⟩,
  ⟨some 36, .binOp .lss 3 (.tmp 35) (.const (.int .i64 1)) 3, some (34, false)⟩,
  ⟨some 37, .pick (.tmp 34) (.const (.bool true)) (.tmp 36), none⟩,
  ⟨some 31, .assign (.tmp 37), none⟩]
def S_make_Tape_Type_r5 : SC := .reg [⟨some 38, .call ⟨.value (.func 26), #[], #[]⟩, none⟩,
  ⟨none, .store 25 (.tmp 8) (.tmp 38), none⟩]
def S_make_Tape_Type_r6 : SC := .reg [⟨some 40, .move (.tmp 9), none⟩,
  ⟨some 41, .binOp .eql 3 (.tmp 40) (.const (.int .i64 4)) 3, none⟩,
  ⟨some 42, .move (.tmp 41), none⟩,
  ⟨some 43, .move (.tmp 1), some (42, true)⟩,
  ⟨some 44, .call ⟨.builtin .len, #[(.tmp 43)], #[40]⟩, some (42, true)⟩,
  ⟨some 45, .binOp .gtr 3 (.tmp 44) (.const (.int .i64 0)) 3, some (42, true)⟩,
  ⟨some 46, .pick (.tmp 42) (.tmp 45) (.const (.bool false)), none⟩,
  ⟨some 39, .assign (.tmp 46), none⟩]
def S_make_Tape_Type_r7 : SC := .reg [⟨some 47, .move (.tmp 9), none⟩,
  ⟨some 48, .binOp .eql 3 (.tmp 47) (.const (.int .i64 5)) 3, none⟩,
  ⟨some 49, .move (.tmp 48), none⟩,
  ⟨some 50, .move (.tmp 1), some (49, true)⟩,
  ⟨some 51, .call ⟨.builtin .len, #[(.tmp 50)], #[40]⟩, some (49, true)⟩,
  ⟨some 52, .binOp .gtr 3 (.tmp 51) (.const (.int .i64 0)) 3, some (49, true)⟩,
  ⟨some 53, .pick (.tmp 49) (.tmp 52) (.const (.bool false)), none⟩,
  ⟨some 39, .assign (.tmp 53), none⟩]
def S_make_Tape_Type_r8 : SC := .reg [⟨some 54, .move (.tmp 1), none⟩,
  ⟨some 55, .move (.tmp 0), none⟩,
  ⟨some 56, .move (.tmp 1), none⟩,
  ⟨some 57, .call ⟨.builtin .len, #[(.tmp 56)], #[40]⟩, none⟩,
  ⟨some 58, .call ⟨.value (.func 58), #[(.tmp 55), (.tmp 57)], #[32, 3]⟩, none⟩,
  ⟨some 59, .indexAddr 40 (.tmp 54) (.tmp 58), none⟩,
  ⟨some 60, .load 98 (.tmp 59), none⟩,
  ⟨some 10, .alloc 98, none⟩,
  ⟨none, .store 98 (.tmp 10) (.tmp 60), none⟩]
def S_make_Tape_Type_r9 : SC := .reg [⟨some 11, .assign (.const (.slice none 0 0)), none⟩]
def S_make_Tape_Type_r10 : SC := .reg [⟨some 12, .assign (.const (.int .i64 0)), none⟩]
def S_make_Tape_Type_r11 : SC := .reg [⟨some 61, .move (.tmp 12), none⟩,
  ⟨some 62, .fieldAddr 98 (.tmp 10) 2, none⟩,
  ⟨some 63, .load 95 (.tmp 62), none⟩,
  ⟨some 64, .call ⟨.builtin .len, #[(.tmp 63)], #[95]⟩, none⟩,
  ⟨some 65, .binOp .lss 3 (.tmp 61) (.tmp 64) 3, none⟩]
def S_make_Tape_Type_r12 : SC := .reg [⟨some 68, .move (.tmp 11), none⟩,
  ⟨some 69, .move (.tmp 0), none⟩,
  ⟨some 70, .move (.tmp 1), none⟩,
  ⟨some 71, .move (.tmp 2), none⟩,
  ⟨some 72, .move (.tmp 3), none⟩,
  ⟨some 73, .binOp .sub 3 (.tmp 72) (.const (.int .i64 1)) 3, none⟩,
  ⟨some 74, .call ⟨.value (.func 31), #[(.tmp 69), (.tmp 70), (.tmp 71), (.tmp 73)], #[32, 40, 23, 3]⟩, none⟩,
  ⟨some 75, .buildSlice 23 1 #[(0, (.tmp 74))], none⟩,
  ⟨some 76, .call ⟨.builtin .append, #[(.tmp 68), (.tmp 75)], #[23, 23]⟩, none⟩,
  ⟨some 11, .assign (.tmp 76), none⟩]
def S_make_Tape_Type_b0 : SC := .block 2 S_make_Tape_Type_r12
def S_make_Tape_Type_r13 : SC := .reg [⟨some 66, .move (.tmp 12), none⟩,
  ⟨some 67, .binOp .add 3 (.tmp 66) (.const (.int .i64 1)) 3, none⟩,
  ⟨some 12, .assign (.tmp 67), none⟩]
def S_make_Tape_Type_l0 : SC := (.seq (.seq S_make_Tape_Type_r11 (.cond (.tmp 65) .skip (.exit 1))) (.seq S_make_Tape_Type_b0 S_make_Tape_Type_r13))
def S_make_Tape_Type_b1 : SC := .block 1 (.loop S_make_Tape_Type_l0)
def S_make_Tape_Type_r14 : SC := .reg [⟨some 77, .fieldAddr 98 (.tmp 10) 1, none⟩,
  ⟨some 78, .load 9 (.tmp 77), none⟩,
  ⟨some 79, .move (.tmp 11), none⟩,
  ⟨some 80, .call ⟨.value (.func 67), #[(.tmp 78), (.tmp 79)], #[9, 23]⟩, none⟩,
  ⟨none, .store 25 (.tmp 8) (.tmp 80), none⟩]
def S_make_Tape_Type_b2 : SC := .block 0 (.seq S_make_Tape_Type_r2 (.cond (.tmp 16) (.seq S_make_Tape_Type_r3 .ret) (.seq S_make_Tape_Type_r4 (.cond (.tmp 31) (.seq S_make_Tape_Type_r5 .ret) (.seq (.seq S_make_Tape_Type_r6 (.cond (.tmp 39) .skip S_make_Tape_Type_r7)) (.cond (.tmp 39) (.seq S_make_Tape_Type_r8 (.seq S_make_Tape_Type_r9 (.seq (.seq S_make_Tape_Type_r10 S_make_Tape_Type_b1) (.seq S_make_Tape_Type_r14 .ret)))) .skip))))))
def S_make_Tape_Type_r15 : SC := .reg [⟨some 81, .move (.tmp 0), none⟩,
  ⟨some 82, .move (.tmp 1), none⟩,
  ⟨some 83, .move (.tmp 2), none⟩,
  ⟨some 84, .move (.tmp 3), none⟩,
  ⟨some 85, .binOp .sub 3 (.tmp 84) (.const (.int .i64 1)) 3, none⟩,
  ⟨some 86, .call ⟨.value (.func 31), #[(.tmp 81), (.tmp 82), (.tmp 83), (.tmp 85)], #[32, 40, 23, 3]⟩, none⟩,
  ⟨some 13, .alloc 25, none⟩,
  ⟨none, .store 25 (.tmp 13) (.tmp 86), none⟩]
def S_make_Tape_Type_r16 : SC := .draw [⟨some 87, .load 25 (.tmp 13), none, [13]⟩,
  ⟨some 88, .move (.tmp 0), none, [0]⟩,
  ⟨some 89, .move (.tmp 1), none, [1]⟩,
  ⟨some 90, .move (.tmp 2), none, [2]⟩,
  ⟨some 91, .move (.tmp 3), none, [3]⟩,
  ⟨some 92, .binOp .sub 3 (.tmp 91) (.const (.int .i64 1)) 3, none, [91]⟩,
  ⟨some 93, .call ⟨.value (.func 31), #[(.tmp 88), (.tmp 89), (.tmp 90), (.tmp 92)], #[32, 40, 23, 3]⟩, none, [88, 89, 90, 92]⟩,
  ⟨some 94, .call ⟨.value (.func 72), #[(.tmp 87), (.tmp 93)], #[25, 25]⟩, none, [87, 93]⟩,
  ⟨none, .store 25 (.tmp 8) (.tmp 94), none, [8, 94]⟩] [0, 0, 0, 0, 0, 16, 62, 127, 255]
def S_make_Tape_Type : SC := (.seq S_make_Tape_Type_r0 (.seq S_make_Tape_Type_r1 (.seq S_make_Tape_Type_b2 (.seq S_make_Tape_Type_r15 (.seq S_make_Tape_Type_r16 .ret)))))
theorem BS_make_Tape_Type : Try.f31.body.bind stripC = some S_make_Tape_Type := by kernel_rfl
/-! make_Vars: function 32, 16 temporaries. -/
def S_make_Vars_r0 : SC := .reg [⟨some 2, .assign (.const (.slice none 0 0)), none⟩]
def S_make_Vars_r1 : SC := .reg [⟨some 3, .assign (.const (.slice none 0 0)), none⟩]
def S_make_Vars_r2 : SC := .reg [⟨some 4, .assign (.const (.int .i64 0)), none⟩]
def S_make_Vars_r3 : SC := .reg [⟨some 5, .move (.tmp 4), none⟩,
  ⟨some 6, .move (.tmp 0), none⟩,
  ⟨some 7, .binOp .lss 3 (.tmp 5) (.tmp 6) 3, none⟩]
def S_make_Vars_r4 : SC := .reg [⟨some 10, .move (.tmp 3), none⟩,
  ⟨some 11, .move (.tmp 4), none⟩,
  ⟨some 12, .call ⟨.value (.func 55), #[(.tmp 11)], #[3]⟩, none⟩,
  ⟨some 13, .buildSlice 23 1 #[(0, (.tmp 12))], none⟩,
  ⟨some 14, .call ⟨.builtin .append, #[(.tmp 10), (.tmp 13)], #[23, 23]⟩, none⟩,
  ⟨some 3, .assign (.tmp 14), none⟩]
def S_make_Vars_b0 : SC := .block 1 S_make_Vars_r4
def S_make_Vars_r5 : SC := .reg [⟨some 8, .move (.tmp 4), none⟩,
  ⟨some 9, .binOp .add 3 (.tmp 8) (.const (.int .i64 1)) 3, none⟩,
  ⟨some 4, .assign (.tmp 9), none⟩]
def S_make_Vars_l0 : SC := (.seq (.seq S_make_Vars_r3 (.cond (.tmp 7) .skip (.exit 0))) (.seq S_make_Vars_b0 S_make_Vars_r5))
def S_make_Vars_b1 : SC := .block 0 (.loop S_make_Vars_l0)
def S_make_Vars_r6 : SC := .reg [⟨some 15, .move (.tmp 3), none⟩,
  ⟨some 2, .assign (.tmp 15), none⟩]
def S_make_Vars : SC := (.seq S_make_Vars_r0 (.seq S_make_Vars_r1 (.seq (.seq S_make_Vars_r2 S_make_Vars_b1) (.seq S_make_Vars_r6 .ret))))
theorem BS_make_Vars : Try.f32.body.bind stripC = some S_make_Vars := by kernel_rfl
/-! ref3_Bound: function 33, 5 temporaries. -/
def S_ref3_Bound_r0 : SC := .reg [⟨some 2, .alloc 25, none⟩]
def S_ref3_Bound_r1 : SC := .reg [⟨some 3, .move (.tmp 0), none⟩,
  ⟨some 4, .build 25 #[(0, (.const (.int .i64 2))), (2, (.tmp 3))], none⟩,
  ⟨none, .store 25 (.tmp 2) (.tmp 4), none⟩]
def S_ref3_Bound : SC := (.seq S_ref3_Bound_r0 (.seq S_ref3_Bound_r1 .ret))
theorem BS_ref3_Bound : Try.f33.body.bind stripC = some S_ref3_Bound := by kernel_rfl
/-! store_Walk: function 36, 23 temporaries. -/
def S_store_Walk_r0 : SC := .reg [⟨some 2, .box 38 (.tmp 0), none⟩,
  ⟨some 3, .box 25 (.tmp 1), none⟩,
  ⟨some 4, .alloc 25, none⟩]
def S_store_Walk_r1 : SC := .reg [⟨some 5, .fieldAddr 38 (.tmp 2) 0, none⟩,
  ⟨some 6, .load 35 (.tmp 5), none⟩,
  ⟨some 7, .call ⟨.builtin .len, #[(.tmp 6)], #[35]⟩, none⟩,
  ⟨some 8, .move (.const (.int .i64 0)), none⟩]
def S_store_Walk_r2 : SC := .reg [⟨some 9, .binOp .lss 3 (.tmp 8) (.tmp 7) 3, none⟩]
def S_store_Walk_r3 : SC := .reg [⟨some 10, .load 38 (.tmp 2), none⟩,
  ⟨some 11, .load 25 (.tmp 3), none⟩,
  ⟨some 12, .call ⟨.value (.func 75), #[(.tmp 10), (.tmp 11)], #[38, 25]⟩, none⟩,
  ⟨some 13, .unOp .not 4 (.tmp 12), none⟩]
def S_store_Walk_r4 : SC := .reg [⟨some 14, .fieldAddr 38 (.tmp 2) 0, none⟩,
  ⟨some 15, .load 35 (.tmp 14), none⟩,
  ⟨some 16, .fieldAddr 25 (.tmp 3) 2, none⟩,
  ⟨some 17, .load 3 (.tmp 16), none⟩,
  ⟨some 18, .indexAddr 35 (.tmp 15) (.tmp 17), none⟩,
  ⟨some 19, .fieldAddr 27 (.tmp 18) 1, none⟩,
  ⟨some 20, .load 25 (.tmp 19), none⟩,
  ⟨none, .store 25 (.tmp 3) (.tmp 20), none⟩]
def S_store_Walk_b0 : SC := .block 1 (.seq (.seq S_store_Walk_r3 (.cond (.tmp 13) (.exit 0) .skip)) S_store_Walk_r4)
def S_store_Walk_r5 : SC := .reg [⟨some 21, .binOp .add 3 (.tmp 8) (.const (.int .i64 1)) 3, none⟩,
  ⟨some 8, .move (.tmp 21), none⟩]
def S_store_Walk_l0 : SC := (.seq S_store_Walk_r2 (.seq (.cond (.tmp 9) .skip (.exit 0)) (.seq S_store_Walk_b0 S_store_Walk_r5)))
def S_store_Walk_b1 : SC := .block 0 (.loop S_store_Walk_l0)
def S_store_Walk_r6 : SC := .reg [⟨some 22, .load 25 (.tmp 3), none⟩,
  ⟨none, .store 25 (.tmp 4) (.tmp 22), none⟩]
def S_store_Walk : SC := (.seq S_store_Walk_r0 (.seq (.seq S_store_Walk_r1 S_store_Walk_b1) (.seq S_store_Walk_r6 .ret)))
theorem BS_store_Walk : Try.f36.body.bind stripC = some S_store_Walk := by kernel_rfl
/-! ref16_Walk: function 37, 26 temporaries. -/
def S_ref16_Walk_r0 : SC := .reg [⟨some 2, .box 38 (.tmp 0), none⟩,
  ⟨some 3, .box 25 (.tmp 1), none⟩,
  ⟨some 4, .alloc 25, none⟩]
def S_ref16_Walk_r1 : SC := .reg [⟨some 5, .assign (.const (.int .i64 0)), none⟩]
def S_ref16_Walk_r2 : SC := .reg [⟨some 6, .move (.tmp 5), none⟩,
  ⟨some 7, .fieldAddr 38 (.tmp 2) 0, none⟩,
  ⟨some 8, .load 35 (.tmp 7), none⟩,
  ⟨some 9, .call ⟨.builtin .len, #[(.tmp 8)], #[35]⟩, none⟩,
  ⟨some 10, .binOp .leq 3 (.tmp 6) (.tmp 9) 3, none⟩,
  ⟨some 11, .move (.tmp 10), none⟩,
  ⟨some 12, .load 38 (.tmp 2), some (11, true)⟩,
  ⟨some 13, .load 25 (.tmp 3), some (11, true)⟩,
  ⟨some 14, .call ⟨.value (.func 76), #[(.tmp 12), (.tmp 13)], #[38, 25]⟩, some (11, true)⟩,
  ⟨some 15, .pick (.tmp 11) (.tmp 14) (.const (.bool false)), none⟩]
def S_ref16_Walk_r3 : SC := .reg [⟨some 18, .fieldAddr 38 (.tmp 2) 0, none⟩,
  ⟨some 19, .load 35 (.tmp 18), none⟩,
  ⟨some 20, .fieldAddr 25 (.tmp 3) 2, none⟩,
  ⟨some 21, .load 3 (.tmp 20), none⟩,
  ⟨some 22, .indexAddr 35 (.tmp 19) (.tmp 21), none⟩,
  ⟨some 23, .fieldAddr 27 (.tmp 22) 1, none⟩,
  ⟨some 24, .load 25 (.tmp 23), none⟩,
  ⟨none, .store 25 (.tmp 3) (.tmp 24), none⟩]
def S_ref16_Walk_b0 : SC := .block 1 S_ref16_Walk_r3
def S_ref16_Walk_r4 : SC := .reg [⟨some 16, .move (.tmp 5), none⟩,
  ⟨some 17, .binOp .add 3 (.tmp 16) (.const (.int .i64 1)) 3, none⟩,
  ⟨some 5, .assign (.tmp 17), none⟩]
def S_ref16_Walk_l0 : SC := (.seq (.seq S_ref16_Walk_r2 (.cond (.tmp 15) .skip (.exit 0))) (.seq S_ref16_Walk_b0 S_ref16_Walk_r4))
def S_ref16_Walk_b1 : SC := .block 0 (.loop S_ref16_Walk_l0)
def S_ref16_Walk_r5 : SC := .reg [⟨some 25, .load 25 (.tmp 3), none⟩,
  ⟨none, .store 25 (.tmp 4) (.tmp 25), none⟩]
def S_ref16_Walk : SC := (.seq S_ref16_Walk_r0 (.seq (.seq S_ref16_Walk_r1 S_ref16_Walk_b1) (.seq S_ref16_Walk_r5 .ret)))
theorem BS_ref16_Walk : Try.f37.body.bind stripC = some S_ref16_Walk := by kernel_rfl
/-! ref3_Vars: function 46, 42 temporaries. -/
def S_ref3_Vars_r0 : SC := .reg [⟨some 2, .assign (.const (.slice none 0 0)), none⟩]
def S_ref3_Vars_r1 : SC := .reg [⟨some 3, .assign (.const (.slice none 0 0)), none⟩]
def S_ref3_Vars_r2 : SC := .reg [⟨some 4, .assign (.const (.int .i64 0)), none⟩]
def S_ref3_Vars_r3 : SC := .reg [⟨some 7, .move (.tmp 4), none⟩,
  ⟨some 8, .move (.tmp 0), none⟩,
  ⟨some 9, .call ⟨.builtin .len, #[(.tmp 8)], #[23]⟩, none⟩,
  ⟨some 10, .binOp .lss 3 (.tmp 7) (.tmp 9) 3, none⟩]
def S_ref3_Vars_r4 : SC := .reg [⟨some 13, .move (.tmp 3), none⟩,
  ⟨some 14, .move (.tmp 0), none⟩,
  ⟨some 15, .move (.tmp 4), none⟩,
  ⟨some 16, .indexAddr 23 (.tmp 14) (.tmp 15), none⟩,
  ⟨some 17, .load 25 (.tmp 16), none⟩,
  ⟨some 18, .call ⟨.value (.func 85), #[(.tmp 13), (.tmp 17), (.const (.int .i64 1))], #[23, 25, 3]⟩, none⟩,
  ⟨some 3, .assign (.tmp 18), none⟩]
def S_ref3_Vars_b0 : SC := .block 1 S_ref3_Vars_r4
def S_ref3_Vars_r5 : SC := .reg [⟨some 11, .move (.tmp 4), none⟩,
  ⟨some 12, .binOp .add 3 (.tmp 11) (.const (.int .i64 1)) 3, none⟩,
  ⟨some 4, .assign (.tmp 12), none⟩]
def S_ref3_Vars_l0 : SC := (.seq (.seq S_ref3_Vars_r3 (.cond (.tmp 10) .skip (.exit 0))) (.seq S_ref3_Vars_b0 S_ref3_Vars_r5))
def S_ref3_Vars_b1 : SC := .block 0 (.loop S_ref3_Vars_l0)
def S_ref3_Vars_r6 : SC := .reg [⟨some 5, .assign (.const (.slice none 0 0)), none⟩]
def S_ref3_Vars_r7 : SC := .reg [⟨some 6, .assign (.const (.int .i64 0)), none⟩]
def S_ref3_Vars_r8 : SC := .reg [⟨some 19, .move (.tmp 6), none⟩,
  ⟨some 20, .move (.tmp 3), none⟩,
  ⟨some 21, .call ⟨.builtin .len, #[(.tmp 20)], #[23]⟩, none⟩,
  ⟨some 22, .binOp .lss 3 (.tmp 19) (.tmp 21) 3, none⟩]
def S_ref3_Vars_r9 : SC := .reg [⟨some 25, .move (.tmp 5), none⟩,
  ⟨some 26, .move (.tmp 3), none⟩,
  ⟨some 27, .move (.tmp 6), none⟩,
  ⟨some 28, .indexAddr 23 (.tmp 26) (.tmp 27), none⟩,
  ⟨some 29, .fieldAddr 25 (.tmp 28) 2, none⟩,
  ⟨some 30, .load 3 (.tmp 29), none⟩,
  ⟨some 31, .call ⟨.value (.func 47), #[(.tmp 25), (.tmp 30)], #[22, 3]⟩, none⟩,
  ⟨some 32, .unOp .not 4 (.tmp 31), none⟩]
def S_ref3_Vars_r10 : SC := .reg [⟨some 33, .move (.tmp 5), none⟩,
  ⟨some 34, .move (.tmp 3), none⟩,
  ⟨some 35, .move (.tmp 6), none⟩,
  ⟨some 36, .indexAddr 23 (.tmp 34) (.tmp 35), none⟩,
  ⟨some 37, .fieldAddr 25 (.tmp 36) 2, none⟩,
  ⟨some 38, .load 3 (.tmp 37), none⟩,
  ⟨some 39, .buildSlice 22 1 #[(0, (.tmp 38))], none⟩,
  ⟨some 40, .call ⟨.builtin .append, #[(.tmp 33), (.tmp 39)], #[22, 22]⟩, none⟩,
  ⟨some 5, .assign (.tmp 40), none⟩]
def S_ref3_Vars_b2 : SC := .block 3 (.seq S_ref3_Vars_r9 (.cond (.tmp 32) S_ref3_Vars_r10 .skip))
def S_ref3_Vars_r11 : SC := .reg [⟨some 23, .move (.tmp 6), none⟩,
  ⟨some 24, .binOp .add 3 (.tmp 23) (.const (.int .i64 1)) 3, none⟩,
  ⟨some 6, .assign (.tmp 24), none⟩]
def S_ref3_Vars_l1 : SC := (.seq (.seq S_ref3_Vars_r8 (.cond (.tmp 22) .skip (.exit 2))) (.seq S_ref3_Vars_b2 S_ref3_Vars_r11))
def S_ref3_Vars_b3 : SC := .block 2 (.loop S_ref3_Vars_l1)
def S_ref3_Vars_r12 : SC := .reg [⟨some 41, .move (.tmp 5), none⟩,
  ⟨some 2, .assign (.tmp 41), none⟩]
def S_ref3_Vars : SC := (.seq S_ref3_Vars_r0 (.seq S_ref3_Vars_r1 (.seq (.seq S_ref3_Vars_r2 S_ref3_Vars_b1) (.seq S_ref3_Vars_r6 (.seq (.seq S_ref3_Vars_r7 S_ref3_Vars_b3) (.seq S_ref3_Vars_r12 .ret))))))
theorem BS_ref3_Vars : Try.f46.body.bind stripC = some S_ref3_Vars := by kernel_rfl
/-! ref3_Has: function 47, 18 temporaries. -/
def S_ref3_Has_r0 : SC := .reg [⟨some 4, .assign (.const (.bool false)), none⟩]
def S_ref3_Has_r1 : SC := .reg [⟨some 5, .assign (.const (.int .i64 0)), none⟩]
def S_ref3_Has_r2 : SC := .reg [⟨some 6, .move (.tmp 5), none⟩,
  ⟨some 7, .move (.tmp 0), none⟩,
  ⟨some 8, .call ⟨.builtin .len, #[(.tmp 7)], #[22]⟩, none⟩,
  ⟨some 9, .binOp .lss 3 (.tmp 6) (.tmp 8) 3, none⟩]
def S_ref3_Has_r3 : SC := .reg [⟨some 12, .move (.tmp 0), none⟩,
  ⟨some 13, .move (.tmp 5), none⟩,
  ⟨some 14, .indexAddr 22 (.tmp 12) (.tmp 13), none⟩,
  ⟨some 15, .load 3 (.tmp 14), none⟩,
  ⟨some 16, .move (.tmp 1), none⟩,
  ⟨some 17, .binOp .eql 3 (.tmp 15) (.tmp 16) 3, none⟩]
def S_ref3_Has_r4 : SC := .reg [⟨some 4, .assign (.const (.bool true)), none⟩]
def S_ref3_Has_b0 : SC := .block 1 (.seq S_ref3_Has_r3 (.cond (.tmp 17) (.seq S_ref3_Has_r4 .ret) .skip))
def S_ref3_Has_r5 : SC := .reg [⟨some 10, .move (.tmp 5), none⟩,
  ⟨some 11, .binOp .add 3 (.tmp 10) (.const (.int .i64 1)) 3, none⟩,
  ⟨some 5, .assign (.tmp 11), none⟩]
def S_ref3_Has_l0 : SC := (.seq (.seq S_ref3_Has_r2 (.cond (.tmp 9) .skip (.exit 0))) (.seq S_ref3_Has_b0 S_ref3_Has_r5))
def S_ref3_Has_b1 : SC := .block 0 (.loop S_ref3_Has_l0)
def S_ref3_Has_r6 : SC := .reg [⟨some 4, .assign (.const (.bool false)), none⟩]
def S_ref3_Has : SC := (.seq S_ref3_Has_r0 (.seq (.seq S_ref3_Has_r1 S_ref3_Has_b1) (.seq S_ref3_Has_r6 .ret)))
theorem BS_ref3_Has : Try.f47.body.bind stripC = some S_ref3_Has := by kernel_rfl
/-! ref3_Replace: function 50, 53 temporaries. -/
def S_ref3_Replace_r0 : SC := .reg [⟨some 2, .box 25 (.tmp 0), none⟩,
  ⟨some 4, .alloc 25, none⟩]
def S_ref3_Replace_r1 : SC := .reg [⟨some 8, .fieldAddr 25 (.tmp 2) 0, none⟩,
  ⟨some 9, .load 3 (.tmp 8), none⟩,
  ⟨some 10, .binOp .eql 3 (.tmp 9) (.const (.int .i64 1)) 3, none⟩]
def S_ref3_Replace_r2 : SC := .reg [⟨some 5, .assign (.const (.int .i64 0)), none⟩]
def S_ref3_Replace_r3 : SC := .reg [⟨some 11, .move (.tmp 5), none⟩,
  ⟨some 12, .move (.tmp 1), none⟩,
  ⟨some 13, .call ⟨.builtin .len, #[(.tmp 12)], #[69]⟩, none⟩,
  ⟨some 14, .binOp .lss 3 (.tmp 11) (.tmp 13) 3, none⟩]
def S_ref3_Replace_r4 : SC := .draw [⟨some 17, .move (.tmp 1), none, [1]⟩,
  ⟨some 18, .move (.tmp 5), none, [5]⟩,
  ⟨some 19, .indexAddr 69 (.tmp 17) (.tmp 18), none, [17, 18]⟩,
  ⟨some 20, .fieldAddr 75 (.tmp 19) 0, none, [19]⟩,
  ⟨some 21, .load 3 (.tmp 20), none, [20]⟩,
  ⟨some 22, .fieldAddr 25 (.tmp 2) 2, none, [2]⟩,
  ⟨some 23, .load 3 (.tmp 22), none, [22]⟩,
  ⟨some 24, .binOp .eql 3 (.tmp 21) (.tmp 23) 3, none, [21, 23]⟩] [0, 0, 3, 7, 15, 0, 32, 127]
def S_ref3_Replace_r5 : SC := .reg [⟨some 25, .move (.tmp 1), none⟩,
  ⟨some 26, .move (.tmp 5), none⟩,
  ⟨some 27, .indexAddr 69 (.tmp 25) (.tmp 26), none⟩,
  ⟨some 28, .fieldAddr 75 (.tmp 27) 1, none⟩,
  ⟨some 29, .load 25 (.tmp 28), none⟩,
  ⟨none, .store 25 (.tmp 4) (.tmp 29), none⟩]
def S_ref3_Replace_b0 : SC := .block 1 (.seq S_ref3_Replace_r4 (.cond (.tmp 24) (.seq S_ref3_Replace_r5 .ret) .skip))
def S_ref3_Replace_r6 : SC := .reg [⟨some 15, .move (.tmp 5), none⟩,
  ⟨some 16, .binOp .add 3 (.tmp 15) (.const (.int .i64 1)) 3, none⟩,
  ⟨some 5, .assign (.tmp 16), none⟩]
def S_ref3_Replace_l0 : SC := (.seq (.seq S_ref3_Replace_r3 (.cond (.tmp 14) .skip (.exit 0))) (.seq S_ref3_Replace_b0 S_ref3_Replace_r6))
def S_ref3_Replace_b1 : SC := .block 0 (.loop S_ref3_Replace_l0)
def S_ref3_Replace_r7 : SC := .reg [⟨some 30, .load 25 (.tmp 2), none⟩,
  ⟨none, .store 25 (.tmp 4) (.tmp 30), none⟩]
def S_ref3_Replace_r8 : SC := .reg [⟨some 31, .load 25 (.tmp 2), none⟩,
  ⟨some 6, .alloc 25, none⟩,
  ⟨none, .store 25 (.tmp 6) (.tmp 31), none⟩]
def S_ref3_Replace_r9 : SC := .reg [⟨some 32, .fieldAddr 25 (.tmp 6) 4, none⟩,
  ⟨none, .store 23 (.tmp 32) (.const (.slice none 0 0)), none⟩]
def S_ref3_Replace_r10 : SC := .reg [⟨some 7, .assign (.const (.int .i64 0)), none⟩]
def S_ref3_Replace_r11 : SC := .reg [⟨some 33, .move (.tmp 7), none⟩,
  ⟨some 34, .fieldAddr 25 (.tmp 2) 4, none⟩,
  ⟨some 35, .load 23 (.tmp 34), none⟩,
  ⟨some 36, .call ⟨.builtin .len, #[(.tmp 35)], #[23]⟩, none⟩,
  ⟨some 37, .binOp .lss 3 (.tmp 33) (.tmp 36) 3, none⟩]
def S_ref3_Replace_r12 : SC := .draw [⟨some 40, .fieldAddr 25 (.tmp 6) 4, none, [6]⟩,
  ⟨some 41, .load 23 (.tmp 40), none, [40]⟩,
  ⟨some 42, .fieldAddr 25 (.tmp 2) 4, none, [2]⟩,
  ⟨some 43, .load 23 (.tmp 42), none, [42]⟩,
  ⟨some 44, .move (.tmp 7), none, [7]⟩,
  ⟨some 45, .indexAddr 23 (.tmp 43) (.tmp 44), none, [43, 44]⟩,
  ⟨some 46, .load 25 (.tmp 45), none, [45]⟩,
  ⟨some 47, .move (.tmp 1), none, [1]⟩,
  ⟨some 48, .call ⟨.value (.func 50), #[(.tmp 46), (.tmp 47)], #[25, 69]⟩, none, [46, 47]⟩,
  ⟨some 49, .buildSlice 23 1 #[(0, (.tmp 48))], none, [48]⟩,
  ⟨some 50, .call ⟨.builtin .append, #[(.tmp 41), (.tmp 49)], #[23, 23]⟩, none, [41, 49]⟩,
  ⟨some 51, .fieldAddr 25 (.tmp 6) 4, none, [6]⟩,
  ⟨none, .store 23 (.tmp 51) (.tmp 50), none, [51, 50]⟩] [0, 1, 0, 4, 0, 28, 60, 0, 252, 508, 1023, 2047, 4095]
def S_ref3_Replace_b2 : SC := .block 3 S_ref3_Replace_r12
def S_ref3_Replace_r13 : SC := .reg [⟨some 38, .move (.tmp 7), none⟩,
  ⟨some 39, .binOp .add 3 (.tmp 38) (.const (.int .i64 1)) 3, none⟩,
  ⟨some 7, .assign (.tmp 39), none⟩]
def S_ref3_Replace_l1 : SC := (.seq (.seq S_ref3_Replace_r11 (.cond (.tmp 37) .skip (.exit 2))) (.seq S_ref3_Replace_b2 S_ref3_Replace_r13))
def S_ref3_Replace_b3 : SC := .block 2 (.loop S_ref3_Replace_l1)
def S_ref3_Replace_r14 : SC := .reg [⟨some 52, .load 25 (.tmp 6), none⟩,
  ⟨none, .store 25 (.tmp 4) (.tmp 52), none⟩]
def S_ref3_Replace : SC := (.seq S_ref3_Replace_r0 (.seq (.seq S_ref3_Replace_r1 (.cond (.tmp 10) (.seq (.seq S_ref3_Replace_r2 S_ref3_Replace_b1) (.seq S_ref3_Replace_r7 .ret)) .skip)) (.seq S_ref3_Replace_r8 (.seq S_ref3_Replace_r9 (.seq (.seq S_ref3_Replace_r10 S_ref3_Replace_b3) (.seq S_ref3_Replace_r14 .ret))))))
theorem BS_ref3_Replace : Try.f50.body.bind stripC = some S_ref3_Replace := by kernel_rfl
/-! ref3_Var: function 55, 5 temporaries. -/
def S_ref3_Var_r0 : SC := .reg [⟨some 2, .alloc 25, none⟩]
def S_ref3_Var_r1 : SC := .reg [⟨some 3, .move (.tmp 0), none⟩,
  ⟨some 4, .build 25 #[(0, (.const (.int .i64 1))), (2, (.tmp 3))], none⟩,
  ⟨none, .store 25 (.tmp 2) (.tmp 4), none⟩]
def S_ref3_Var : SC := (.seq S_ref3_Var_r0 (.seq S_ref3_Var_r1 .ret))
theorem BS_ref3_Var : Try.f55.body.bind stripC = some S_ref3_Var := by kernel_rfl
/-! make_types: function 56, 28 temporaries. -/
def S_make_types_r0 : SC := .reg [⟨some 2, .box 25 (.tmp 0), none⟩,
  ⟨some 4, .assign (.const (.int .i64 0)), none⟩]
def S_make_types_r1 : SC := .reg [⟨some 6, .move (.tmp 1), none⟩,
  ⟨some 7, .binOp .sub 3 (.tmp 6) (.const (.int .i64 1)) 3, none⟩,
  ⟨some 1, .assign (.tmp 7), none⟩]
def S_make_types_r2 : SC := .reg [⟨some 5, .assign (.const (.int .i64 0)), none⟩]
def S_make_types_r3 : SC := .reg [⟨some 8, .move (.tmp 5), none⟩,
  ⟨some 9, .fieldAddr 25 (.tmp 2) 4, none⟩,
  ⟨some 10, .load 23 (.tmp 9), none⟩,
  ⟨some 11, .call ⟨.builtin .len, #[(.tmp 10)], #[23]⟩, none⟩,
  ⟨some 12, .binOp .lss 3 (.tmp 8) (.tmp 11) 3, none⟩,
  ⟨some 13, .move (.tmp 12), none⟩,
  ⟨some 14, .move (.tmp 1), some (13, true)⟩,
  ⟨some 15, .binOp .gtr 3 (.tmp 14) (.const (.int .i64 0)) 3, some (13, true)⟩,
  ⟨some 16, .pick (.tmp 13) (.tmp 15) (.const (.bool false)), none⟩]
def S_make_types_r4 : SC := .reg [⟨some 19, .fieldAddr 25 (.tmp 2) 4, none⟩,
  ⟨some 20, .load 23 (.tmp 19), none⟩,
  ⟨some 21, .move (.tmp 5), none⟩,
  ⟨some 22, .indexAddr 23 (.tmp 20) (.tmp 21), none⟩,
  ⟨some 23, .load 25 (.tmp 22), none⟩,
  ⟨some 24, .move (.tmp 1), none⟩,
  ⟨some 25, .call ⟨.value (.func 56), #[(.tmp 23), (.tmp 24)], #[25, 3]⟩, none⟩,
  ⟨some 1, .assign (.tmp 25), none⟩]
def S_make_types_b0 : SC := .block 1 S_make_types_r4
def S_make_types_r5 : SC := .reg [⟨some 17, .move (.tmp 5), none⟩,
  ⟨some 18, .binOp .add 3 (.tmp 17) (.const (.int .i64 1)) 3, none⟩,
  ⟨some 5, .assign (.tmp 18), none⟩]
def S_make_types_l0 : SC := (.seq (.seq S_make_types_r3 (.cond (.tmp 16) .skip (.exit 0))) (.seq S_make_types_b0 S_make_types_r5))
def S_make_types_b1 : SC := .block 0 (.loop S_make_types_l0)
def S_make_types_r6 : SC := .reg [⟨some 26, .move (.tmp 1), none⟩,
  ⟨some 27, .call ⟨.builtin .max, #[(.tmp 26), (.const (.int .i64 0))], #[3, 3]⟩, none⟩,
  ⟨some 4, .assign (.tmp 27), none⟩]
def S_make_types : SC := (.seq S_make_types_r0 (.seq S_make_types_r1 (.seq (.seq S_make_types_r2 S_make_types_b1) (.seq S_make_types_r6 .ret))))
theorem BS_make_types : Try.f56.body.bind stripC = some S_make_types := by kernel_rfl
/-! ref3_Valid: function 57, 132 temporaries. -/
def S_ref3_Valid_r0 : SC := .reg [⟨some 1, .box 25 (.tmp 0), none⟩,
  ⟨some 2, .assign (.const (.bool false)), none⟩]
def S_ref3_Valid_r1 : SC := .reg [⟨some 4, .fieldAddr 25 (.tmp 1) 0, none⟩,
  ⟨some 5, .load 3 (.tmp 4), none⟩]
def S_ref3_Valid_r2 : SC := .reg [⟨some 7, .binOp .eql 3 (.tmp 5) (.const (.int .i64 1)) 3, none⟩,
  ⟨some 6, .assign (.tmp 7), none⟩]
def S_ref3_Valid_r3 : SC := .reg [⟨some 8, .binOp .eql 3 (.tmp 5) (.const (.int .i64 2)) 3, none⟩,
  ⟨some 6, .assign (.tmp 8), none⟩]
def S_ref3_Valid_r4 : SC := .reg [⟨some 9, .fieldAddr 25 (.tmp 1) 2, none⟩,
  ⟨some 10, .load 3 (.tmp 9), none⟩,
  ⟨some 11, .binOp .geq 3 (.tmp 10) (.const (.int .i64 0)) 3, none⟩,
  ⟨some 12, .move (.tmp 11), none⟩,
  ⟨some 13, .fieldAddr 25 (.tmp 1) 2, some (12, true)⟩,
  ⟨some 14, .load 3 (.tmp 13), some (12, true)⟩,
  ⟨some 15, .binOp .leq 3 (.tmp 14) (.const (.int .i64 1000000)) 3, some (12, true)⟩,
  ⟨some 16, .pick (.tmp 12) (.tmp 15) (.const (.bool false)), none⟩,
  ⟨some 17, .move (.tmp 16), none⟩,
  ⟨some 18, .fieldAddr 25 (.tmp 1) 1, some (17, true)⟩,
  ⟨some 19, .load 9 (.tmp 18), some (17, true)⟩,
  ⟨some 20, .binOp .eql 9 (.tmp 19) (.const (.string ⟨#[]⟩)) 9, some (17, true)⟩,
  ⟨some 21, .pick (.tmp 17) (.tmp 20) (.const (.bool false)), none⟩,
  ⟨some 22, .move (.tmp 21), none⟩,
  ⟨some 23, .fieldAddr 25 (.tmp 1) 3, some (22, true)⟩,
  ⟨some 24, .load 3 (.tmp 23), some (22, true)⟩,
  ⟨some 25, .binOp .eql 3 (.tmp 24) (.const (.int .i64 0)) 3, some (22, true)⟩,
  ⟨some 26, .pick (.tmp 22) (.tmp 25) (.const (.bool false)), none⟩,
  ⟨some 27, .move (.tmp 26), none⟩,
  ⟨some 28, .fieldAddr 25 (.tmp 1) 4, some (27, true)⟩,
  ⟨some 29, .load 23 (.tmp 28), some (27, true)⟩,
  ⟨some 30, .call ⟨.builtin .len, #[(.tmp 29)], #[23]⟩, some (27, true)⟩,
  ⟨some 31, .binOp .eql 3 (.tmp 30) (.const (.int .i64 0)) 3, some (27, true)⟩,
  ⟨some 32, .pick (.tmp 27) (.tmp 31) (.const (.bool false)), none⟩,
  ⟨some 2, .assign (.tmp 32), none⟩]
def S_ref3_Valid_r5 : SC := .reg [⟨some 34, .binOp .eql 3 (.tmp 5) (.const (.int .i64 3)) 3, none⟩,
  ⟨some 33, .assign (.tmp 34), none⟩]
def S_ref3_Valid_r6 : SC := .reg [⟨some 35, .fieldAddr 25 (.tmp 1) 2, none⟩,
  ⟨some 36, .load 3 (.tmp 35), none⟩,
  ⟨some 37, .binOp .geq 3 (.tmp 36) (.const (.int .i64 0)) 3, none⟩,
  ⟨some 38, .move (.tmp 37), none⟩,
  ⟨some 39, .fieldAddr 25 (.tmp 1) 2, some (38, true)⟩,
  ⟨some 40, .load 3 (.tmp 39), some (38, true)⟩,
  ⟨some 41, .binOp .leq 3 (.tmp 40) (.const (.int .i64 1000000)) 3, some (38, true)⟩,
  ⟨some 42, .pick (.tmp 38) (.tmp 41) (.const (.bool false)), none⟩,
  ⟨some 43, .move (.tmp 42), none⟩,
  ⟨some 44, .fieldAddr 25 (.tmp 1) 3, some (43, true)⟩,
  ⟨some 45, .load 3 (.tmp 44), some (43, true)⟩,
  ⟨some 46, .binOp .geq 3 (.tmp 45) (.const (.int .i64 (-1))) 3, some (43, true)⟩,
  ⟨some 47, .pick (.tmp 43) (.tmp 46) (.const (.bool false)), none⟩,
  ⟨some 48, .move (.tmp 47), none⟩,
  ⟨some 49, .fieldAddr 25 (.tmp 1) 3, some (48, true)⟩,
  ⟨some 50, .load 3 (.tmp 49), some (48, true)⟩,
  ⟨some 51, .binOp .leq 3 (.tmp 50) (.const (.int .i64 1000000)) 3, some (48, true)⟩,
  ⟨some 52, .pick (.tmp 48) (.tmp 51) (.const (.bool false)), none⟩,
  ⟨some 53, .move (.tmp 52), none⟩,
  ⟨some 54, .fieldAddr 25 (.tmp 1) 1, some (53, true)⟩,
  ⟨some 55, .load 9 (.tmp 54), some (53, true)⟩,
  ⟨some 56, .binOp .eql 9 (.tmp 55) (.const (.string ⟨#[]⟩)) 9, some (53, true)⟩,
  ⟨some 57, .pick (.tmp 53) (.tmp 56) (.const (.bool false)), none⟩,
  ⟨some 58, .move (.tmp 57), none⟩,
  ⟨some 59, .fieldAddr 25 (.tmp 1) 4, some (58, true)⟩,
  ⟨some 60, .load 23 (.tmp 59), some (58, true)⟩,
  ⟨some 61, .call ⟨.builtin .len, #[(.tmp 60)], #[23]⟩, some (58, true)⟩,
  ⟨some 62, .binOp .eql 3 (.tmp 61) (.const (.int .i64 0)) 3, some (58, true)⟩,
  ⟨some 63, .pick (.tmp 58) (.tmp 62) (.const (.bool false)), none⟩,
  ⟨some 2, .assign (.tmp 63), none⟩]
def S_ref3_Valid_r7 : SC := .reg [⟨some 65, .binOp .eql 3 (.tmp 5) (.const (.int .i64 5)) 3, none⟩,
  ⟨some 64, .assign (.tmp 65), none⟩]
def S_ref3_Valid_r8 : SC := .reg [⟨some 66, .fieldAddr 25 (.tmp 1) 2, none⟩,
  ⟨some 67, .load 3 (.tmp 66), none⟩,
  ⟨some 68, .binOp .eql 3 (.tmp 67) (.const (.int .i64 0)) 3, none⟩,
  ⟨some 69, .move (.tmp 68), none⟩,
  ⟨some 70, .fieldAddr 25 (.tmp 1) 3, some (69, true)⟩,
  ⟨some 71, .load 3 (.tmp 70), some (69, true)⟩,
  ⟨some 72, .binOp .eql 3 (.tmp 71) (.const (.int .i64 0)) 3, some (69, true)⟩,
  ⟨some 73, .pick (.tmp 69) (.tmp 72) (.const (.bool false)), none⟩,
  ⟨some 74, .move (.tmp 73), none⟩,
  ⟨some 75, .fieldAddr 25 (.tmp 1) 4, some (74, true)⟩,
  ⟨some 76, .load 23 (.tmp 75), some (74, true)⟩,
  ⟨some 77, .call ⟨.builtin .len, #[(.tmp 76)], #[23]⟩, some (74, true)⟩,
  ⟨some 78, .binOp .eql 3 (.tmp 77) (.const (.int .i64 0)) 3, some (74, true)⟩,
  ⟨some 79, .pick (.tmp 74) (.tmp 78) (.const (.bool false)), none⟩,
  ⟨some 80, .move (.tmp 79), none⟩,
  ⟨some 81, .fieldAddr 25 (.tmp 1) 1, some (80, true)⟩,
  ⟨some 82, .load 9 (.tmp 81), some (80, true)⟩,
  ⟨some 83, .call ⟨.value (.func 91), #[(.tmp 82)], #[9]⟩, some (80, true)⟩,
  ⟨some 84, .pick (.tmp 80) (.tmp 83) (.const (.bool false)), none⟩,
  ⟨some 2, .assign (.tmp 84), none⟩]
def S_ref3_Valid_r9 : SC := .reg [⟨some 86, .binOp .eql 3 (.tmp 5) (.const (.int .i64 4)) 3, none⟩,
  ⟨some 85, .assign (.tmp 86), none⟩]
def S_ref3_Valid_r10 : SC := .reg [⟨some 87, .fieldAddr 25 (.tmp 1) 2, none⟩,
  ⟨some 88, .load 3 (.tmp 87), none⟩,
  ⟨some 89, .binOp .neq 3 (.tmp 88) (.const (.int .i64 0)) 3, none⟩,
  ⟨some 90, .move (.tmp 89), none⟩,
  ⟨some 91, .fieldAddr 25 (.tmp 1) 3, some (90, false)⟩,
  ⟨some 92, .load 3 (.tmp 91), some (90, false)⟩,
  ⟨some 93, .binOp .neq 3 (.tmp 92) (.const (.int .i64 0)) 3, some (90, false)⟩,
  ⟨some 94, .pick (.tmp 90) (.const (.bool true)) (.tmp 93), none⟩]
def S_ref3_Valid_r11 : SC := .reg [⟨some 2, .assign (.const (.bool false)), none⟩]
def S_ref3_Valid_r12 : SC := .reg [⟨some 3, .assign (.const (.int .i64 0)), none⟩]
def S_ref3_Valid_r13 : SC := .reg [⟨some 95, .move (.tmp 3), none⟩,
  ⟨some 96, .fieldAddr 25 (.tmp 1) 4, none⟩,
  ⟨some 97, .load 23 (.tmp 96), none⟩,
  ⟨some 98, .call ⟨.builtin .len, #[(.tmp 97)], #[23]⟩, none⟩,
  ⟨some 99, .binOp .lss 3 (.tmp 95) (.tmp 98) 3, none⟩]
def S_ref3_Valid_r14 : SC := .reg [⟨some 102, .fieldAddr 25 (.tmp 1) 4, none⟩,
  ⟨some 103, .load 23 (.tmp 102), none⟩,
  ⟨some 104, .move (.tmp 3), none⟩,
  ⟨some 105, .indexAddr 23 (.tmp 103) (.tmp 104), none⟩,
  ⟨some 106, .load 25 (.tmp 105), none⟩,
  ⟨some 107, .call ⟨.value (.func 57), #[(.tmp 106)], #[25]⟩, none⟩,
  ⟨some 108, .unOp .not 4 (.tmp 107), none⟩]
def S_ref3_Valid_r15 : SC := .reg [⟨some 2, .assign (.const (.bool false)), none⟩]
def S_ref3_Valid_b0 : SC := .block 2 (.seq S_ref3_Valid_r14 (.cond (.tmp 108) (.seq S_ref3_Valid_r15 .ret) .skip))
def S_ref3_Valid_r16 : SC := .reg [⟨some 100, .move (.tmp 3), none⟩,
  ⟨some 101, .binOp .add 3 (.tmp 100) (.const (.int .i64 1)) 3, none⟩,
  ⟨some 3, .assign (.tmp 101), none⟩]
def S_ref3_Valid_l0 : SC := (.seq (.seq S_ref3_Valid_r13 (.cond (.tmp 99) .skip (.exit 1))) (.seq S_ref3_Valid_b0 S_ref3_Valid_r16))
def S_ref3_Valid_b1 : SC := .block 1 (.loop S_ref3_Valid_l0)
def S_ref3_Valid_r17 : SC := .reg [⟨some 109, .fieldAddr 25 (.tmp 1) 1, none⟩,
  ⟨some 110, .load 9 (.tmp 109), none⟩]
def S_ref3_Valid_r18 : SC := .reg [⟨some 112, .binOp .eql 9 (.tmp 110) (.const (.string ⟨#[45, 62]⟩)) 9, none⟩,
  ⟨some 111, .assign (.tmp 112), none⟩]
def S_ref3_Valid_r19 : SC := .reg [⟨some 113, .fieldAddr 25 (.tmp 1) 4, none⟩,
  ⟨some 114, .load 23 (.tmp 113), none⟩,
  ⟨some 115, .call ⟨.builtin .len, #[(.tmp 114)], #[23]⟩, none⟩,
  ⟨some 116, .binOp .eql 3 (.tmp 115) (.const (.int .i64 2)) 3, none⟩,
  ⟨some 2, .assign (.tmp 116), none⟩]
def S_ref3_Valid_r20 : SC := .reg [⟨some 118, .binOp .eql 9 (.tmp 110) (.const (.string ⟨#[73, 110, 116]⟩)) 9, none⟩,
  ⟨some 117, .assign (.tmp 118), none⟩]
def S_ref3_Valid_r21 : SC := .reg [⟨some 119, .fieldAddr 25 (.tmp 1) 4, none⟩,
  ⟨some 120, .load 23 (.tmp 119), none⟩,
  ⟨some 121, .call ⟨.builtin .len, #[(.tmp 120)], #[23]⟩, none⟩,
  ⟨some 122, .binOp .eql 3 (.tmp 121) (.const (.int .i64 0)) 3, none⟩,
  ⟨some 2, .assign (.tmp 122), none⟩]
def S_ref3_Valid_b2 : SC := .block 3 (.seq S_ref3_Valid_r18 (.cond (.tmp 111) (.seq S_ref3_Valid_r19 .ret) (.seq S_ref3_Valid_r20 (.cond (.tmp 117) (.seq S_ref3_Valid_r21 .ret) .skip))))
def S_ref3_Valid_r22 : SC := .reg [⟨some 123, .fieldAddr 25 (.tmp 1) 1, none⟩,
  ⟨some 124, .load 9 (.tmp 123), none⟩,
  ⟨some 125, .call ⟨.value (.func 92), #[(.tmp 124)], #[9]⟩, none⟩,
  ⟨some 126, .move (.tmp 125), none⟩,
  ⟨some 127, .fieldAddr 25 (.tmp 1) 4, some (126, true)⟩,
  ⟨some 128, .load 23 (.tmp 127), some (126, true)⟩,
  ⟨some 129, .call ⟨.builtin .len, #[(.tmp 128)], #[23]⟩, some (126, true)⟩,
  ⟨some 130, .binOp .leq 3 (.tmp 129) (.const (.int .i64 4)) 3, some (126, true)⟩,
  ⟨some 131, .pick (.tmp 126) (.tmp 130) (.const (.bool false)), none⟩,
  ⟨some 2, .assign (.tmp 131), none⟩]
def S_ref3_Valid_b3 : SC := .block 0 (.seq (.seq S_ref3_Valid_r2 (.cond (.tmp 6) .skip S_ref3_Valid_r3)) (.cond (.tmp 6) (.seq S_ref3_Valid_r4 .ret) (.seq S_ref3_Valid_r5 (.cond (.tmp 33) (.seq S_ref3_Valid_r6 .ret) (.seq S_ref3_Valid_r7 (.cond (.tmp 64) (.seq S_ref3_Valid_r8 .ret) (.seq S_ref3_Valid_r9 (.cond (.tmp 85) (.seq (.seq S_ref3_Valid_r10 (.cond (.tmp 94) (.seq S_ref3_Valid_r11 .ret) .skip)) (.seq (.seq S_ref3_Valid_r12 S_ref3_Valid_b1) (.seq (.seq S_ref3_Valid_r17 S_ref3_Valid_b2) (.seq S_ref3_Valid_r22 .ret)))) .skip))))))))
def S_ref3_Valid_r23 : SC := .reg [⟨some 2, .assign (.const (.bool false)), none⟩]
def S_ref3_Valid : SC := (.seq S_ref3_Valid_r0 (.seq (.seq S_ref3_Valid_r1 S_ref3_Valid_b3) (.seq S_ref3_Valid_r23 .ret)))
theorem BS_ref3_Valid : Try.f57.body.bind stripC = some S_ref3_Valid := by kernel_rfl
/-! make_Tape_Next: function 58, 35 temporaries. -/
def S_make_Tape_Next_r0 : SC := .reg [⟨some 4, .assign (.const (.int .i64 0)), none⟩]
def S_make_Tape_Next_r1 : SC := .draw [⟨some 5, .move (.tmp 0), none, [0]⟩,
  ⟨some 6, .nilCheck (.tmp 5), none, [5]⟩,
  ⟨some 7, .fieldAddr 34 (.tmp 6) 1, none, [6]⟩,
  ⟨some 8, .load 3 (.tmp 7), none, [7]⟩,
  ⟨some 9, .move (.tmp 0), none, [0]⟩,
  ⟨some 10, .nilCheck (.tmp 9), none, [9]⟩,
  ⟨some 11, .fieldAddr 34 (.tmp 10) 0, none, [10]⟩,
  ⟨some 12, .load 22 (.tmp 11), none, [11]⟩,
  ⟨some 13, .call ⟨.builtin .len, #[(.tmp 12)], #[22]⟩, none, [12]⟩,
  ⟨some 14, .binOp .geq 3 (.tmp 8) (.tmp 13) 3, none, [8, 13]⟩] [0, 1, 3, 7, 0, 16, 48, 112, 240, 511]
def S_make_Tape_Next_r2 : SC := .reg [⟨some 4, .assign (.const (.int .i64 0)), none⟩]
def S_make_Tape_Next_r3 : SC := .reg [⟨some 15, .move (.tmp 0), none⟩,
  ⟨some 16, .nilCheck (.tmp 15), none⟩,
  ⟨some 17, .fieldAddr 34 (.tmp 16) 1, none⟩,
  ⟨some 18, .load 3 (.tmp 17), none⟩,
  ⟨some 19, .binOp .add 3 (.tmp 18) (.const (.int .i64 1)) 3, none⟩,
  ⟨some 20, .nilCheck (.tmp 15), none⟩,
  ⟨some 21, .fieldAddr 34 (.tmp 20) 1, none⟩,
  ⟨none, .store 3 (.tmp 21) (.tmp 19), none⟩]
def S_make_Tape_Next_r4 : SC := .draw [⟨some 22, .move (.tmp 0), none, [0]⟩,
  ⟨some 23, .nilCheck (.tmp 22), none, [22]⟩,
  ⟨some 24, .fieldAddr 34 (.tmp 23) 0, none, [23]⟩,
  ⟨some 25, .load 22 (.tmp 24), none, [24]⟩,
  ⟨some 26, .move (.tmp 0), none, [0]⟩,
  ⟨some 27, .nilCheck (.tmp 26), none, [26]⟩,
  ⟨some 28, .fieldAddr 34 (.tmp 27) 1, none, [27]⟩,
  ⟨some 29, .load 3 (.tmp 28), none, [28]⟩,
  ⟨some 30, .binOp .sub 3 (.tmp 29) (.const (.int .i64 1)) 3, none, [29]⟩,
  ⟨some 31, .indexAddr 22 (.tmp 25) (.tmp 30), none, [25, 30]⟩,
  ⟨some 32, .load 3 (.tmp 31), none, [31]⟩,
  ⟨some 33, .move (.tmp 1), none, [1]⟩,
  ⟨some 34, .call ⟨.value (.func 22), #[(.tmp 32), (.tmp 33)], #[3, 3]⟩, none, [32, 33]⟩,
  ⟨some 4, .assign (.tmp 34), none, [34]⟩] [0, 1, 3, 7, 0, 16, 48, 112, 240, 511, 1023, 0, 4095, 8191]
def S_make_Tape_Next : SC := (.seq S_make_Tape_Next_r0 (.seq (.seq S_make_Tape_Next_r1 (.cond (.tmp 14) (.seq S_make_Tape_Next_r2 .ret) .skip)) (.seq S_make_Tape_Next_r3 (.seq S_make_Tape_Next_r4 .ret))))
theorem BS_make_Tape_Next : Try.f58.body.bind stripC = some S_make_Tape_Next := by kernel_rfl
/-! ref3_Rigid: function 59, 8 temporaries. -/
def S_ref3_Rigid_r0 : SC := .reg [⟨some 4, .alloc 25, none⟩]
def S_ref3_Rigid_r1 : SC := .reg [⟨some 5, .move (.tmp 0), none⟩,
  ⟨some 6, .move (.tmp 1), none⟩,
  ⟨some 7, .build 25 #[(0, (.const (.int .i64 3))), (3, (.tmp 5)), (2, (.tmp 6))], none⟩,
  ⟨none, .store 25 (.tmp 4) (.tmp 7), none⟩]
def S_ref3_Rigid : SC := (.seq S_ref3_Rigid_r0 (.seq S_ref3_Rigid_r1 .ret))
theorem BS_ref3_Rigid : Try.f59.body.bind stripC = some S_ref3_Rigid := by kernel_rfl
/-! store_log: function 62, 19 temporaries. -/
def S_store_log_r0 : SC := .reg [⟨some 3, .box 102 (.tmp 1), none⟩,
  ⟨some 4, .assign (.const (.slice none 0 0)), none⟩]
def S_store_log_r1 : SC := .reg [⟨some 6, .move (.tmp 0), none⟩,
  ⟨some 7, .call ⟨.builtin .len, #[(.tmp 6)], #[36]⟩, none⟩,
  ⟨some 8, .move (.tmp 0), none⟩,
  ⟨some 9, .call ⟨.builtin .len, #[(.tmp 8)], #[36]⟩, none⟩,
  ⟨some 10, .binOp .add 3 (.tmp 9) (.const (.int .i64 1)) 3, none⟩,
  ⟨some 11, .makeSlice 36 (.tmp 7) (.tmp 10), none⟩,
  ⟨some 5, .assign (.tmp 11), none⟩]
def S_store_log_r2 : SC := .reg [⟨some 12, .move (.tmp 5), none⟩,
  ⟨some 13, .move (.tmp 0), none⟩,
  ⟨some 14, .call ⟨.builtin .copy, #[(.tmp 12), (.tmp 13)], #[36, 36]⟩, none⟩]
def S_store_log_r3 : SC := .reg [⟨some 15, .move (.tmp 5), none⟩,
  ⟨some 16, .load 102 (.tmp 3), none⟩,
  ⟨some 17, .buildSlice 36 1 #[(0, (.tmp 16))], none⟩,
  ⟨some 18, .call ⟨.builtin .append, #[(.tmp 15), (.tmp 17)], #[36, 36]⟩, none⟩,
  ⟨some 4, .assign (.tmp 18), none⟩]
def S_store_log : SC := (.seq S_store_log_r0 (.seq S_store_log_r1 (.seq S_store_log_r2 (.seq S_store_log_r3 .ret))))
theorem BS_store_log : Try.f62.body.bind stripC = some S_store_log := by kernel_rfl
/-! types_Var: function 63, 5 temporaries. -/
def S_types_Var_r0 : SC := .reg [⟨some 2, .alloc 25, none⟩]
def S_types_Var_r1 : SC := .reg [⟨some 3, .move (.tmp 0), none⟩,
  ⟨some 4, .build 25 #[(0, (.const (.int .i64 1))), (2, (.tmp 3))], none⟩,
  ⟨none, .store 25 (.tmp 2) (.tmp 4), none⟩]
def S_types_Var : SC := (.seq S_types_Var_r0 (.seq S_types_Var_r1 .ret))
theorem BS_types_Var : Try.f63.body.bind stripC = some S_types_Var := by kernel_rfl
/-! law16_sameSlot: function 64, 31 temporaries. -/
def S_law16_sameSlot_r0 : SC := .reg [⟨some 2, .box 27 (.tmp 0), none⟩,
  ⟨some 3, .box 27 (.tmp 1), none⟩,
  ⟨some 4, .assign (.const (.bool false)), none⟩]
def S_law16_sameSlot_r1 : SC := .reg [⟨some 5, .fieldAddr 27 (.tmp 2) 0, none⟩,
  ⟨some 6, .load 4 (.tmp 5), none⟩,
  ⟨some 7, .fieldAddr 27 (.tmp 3) 0, none⟩,
  ⟨some 8, .load 4 (.tmp 7), none⟩,
  ⟨some 9, .binOp .eql 4 (.tmp 6) (.tmp 8) 4, none⟩,
  ⟨some 10, .move (.tmp 9), none⟩,
  ⟨some 11, .fieldAddr 27 (.tmp 2) 2, some (10, true)⟩,
  ⟨some 12, .load 3 (.tmp 11), some (10, true)⟩,
  ⟨some 13, .fieldAddr 27 (.tmp 3) 2, some (10, true)⟩,
  ⟨some 14, .load 3 (.tmp 13), some (10, true)⟩,
  ⟨some 15, .binOp .eql 3 (.tmp 12) (.tmp 14) 3, some (10, true)⟩,
  ⟨some 16, .pick (.tmp 10) (.tmp 15) (.const (.bool false)), none⟩,
  ⟨some 17, .move (.tmp 16), none⟩,
  ⟨some 18, .fieldAddr 27 (.tmp 2) 3, some (17, true)⟩,
  ⟨some 19, .load 4 (.tmp 18), some (17, true)⟩,
  ⟨some 20, .fieldAddr 27 (.tmp 3) 3, some (17, true)⟩,
  ⟨some 21, .load 4 (.tmp 20), some (17, true)⟩,
  ⟨some 22, .binOp .eql 4 (.tmp 19) (.tmp 21) 4, some (17, true)⟩,
  ⟨some 23, .pick (.tmp 17) (.tmp 22) (.const (.bool false)), none⟩,
  ⟨some 24, .move (.tmp 23), none⟩,
  ⟨some 25, .fieldAddr 27 (.tmp 2) 1, some (24, true)⟩,
  ⟨some 26, .load 25 (.tmp 25), some (24, true)⟩,
  ⟨some 27, .fieldAddr 27 (.tmp 3) 1, some (24, true)⟩,
  ⟨some 28, .load 25 (.tmp 27), some (24, true)⟩,
  ⟨some 29, .call ⟨.value (.func 19), #[(.tmp 26), (.tmp 28)], #[25, 25]⟩, some (24, true)⟩,
  ⟨some 30, .pick (.tmp 24) (.tmp 29) (.const (.bool false)), none⟩,
  ⟨some 4, .assign (.tmp 30), none⟩]
def S_law16_sameSlot : SC := (.seq S_law16_sameSlot_r0 (.seq S_law16_sameSlot_r1 .ret))
theorem BS_law16_sameSlot : Try.f64.body.bind stripC = some S_law16_sameSlot := by kernel_rfl
/-! ref3_EqualAll: function 65, 27 temporaries. -/
def S_ref3_EqualAll_r0 : SC := .reg [⟨some 4, .assign (.const (.bool false)), none⟩]
def S_ref3_EqualAll_r1 : SC := .reg [⟨some 6, .move (.tmp 0), none⟩,
  ⟨some 7, .call ⟨.builtin .len, #[(.tmp 6)], #[23]⟩, none⟩,
  ⟨some 8, .move (.tmp 1), none⟩,
  ⟨some 9, .call ⟨.builtin .len, #[(.tmp 8)], #[23]⟩, none⟩,
  ⟨some 10, .binOp .neq 3 (.tmp 7) (.tmp 9) 3, none⟩]
def S_ref3_EqualAll_r2 : SC := .reg [⟨some 4, .assign (.const (.bool false)), none⟩]
def S_ref3_EqualAll_r3 : SC := .reg [⟨some 5, .assign (.const (.int .i64 0)), none⟩]
def S_ref3_EqualAll_r4 : SC := .reg [⟨some 11, .move (.tmp 5), none⟩,
  ⟨some 12, .move (.tmp 0), none⟩,
  ⟨some 13, .call ⟨.builtin .len, #[(.tmp 12)], #[23]⟩, none⟩,
  ⟨some 14, .binOp .lss 3 (.tmp 11) (.tmp 13) 3, none⟩]
def S_ref3_EqualAll_r5 : SC := .draw [⟨some 17, .move (.tmp 0), none, [0]⟩,
  ⟨some 18, .move (.tmp 5), none, [5]⟩,
  ⟨some 19, .indexAddr 23 (.tmp 17) (.tmp 18), none, [17, 18]⟩,
  ⟨some 20, .load 25 (.tmp 19), none, [19]⟩,
  ⟨some 21, .move (.tmp 1), none, [1]⟩,
  ⟨some 22, .move (.tmp 5), none, [5]⟩,
  ⟨some 23, .indexAddr 23 (.tmp 21) (.tmp 22), none, [21, 22]⟩,
  ⟨some 24, .load 25 (.tmp 23), none, [23]⟩,
  ⟨some 25, .call ⟨.value (.func 19), #[(.tmp 20), (.tmp 24)], #[25, 25]⟩, none, [20, 24]⟩,
  ⟨some 26, .unOp .not 4 (.tmp 25), none, [25]⟩] [0, 0, 3, 7, 0, 0, 48, 112, 255, 511]
def S_ref3_EqualAll_r6 : SC := .reg [⟨some 4, .assign (.const (.bool false)), none⟩]
def S_ref3_EqualAll_b0 : SC := .block 1 (.seq S_ref3_EqualAll_r5 (.cond (.tmp 26) (.seq S_ref3_EqualAll_r6 .ret) .skip))
def S_ref3_EqualAll_r7 : SC := .reg [⟨some 15, .move (.tmp 5), none⟩,
  ⟨some 16, .binOp .add 3 (.tmp 15) (.const (.int .i64 1)) 3, none⟩,
  ⟨some 5, .assign (.tmp 16), none⟩]
def S_ref3_EqualAll_l0 : SC := (.seq (.seq S_ref3_EqualAll_r4 (.cond (.tmp 14) .skip (.exit 0))) (.seq S_ref3_EqualAll_b0 S_ref3_EqualAll_r7))
def S_ref3_EqualAll_b1 : SC := .block 0 (.loop S_ref3_EqualAll_l0)
def S_ref3_EqualAll_r8 : SC := .reg [⟨some 4, .assign (.const (.bool true)), none⟩]
def S_ref3_EqualAll : SC := (.seq S_ref3_EqualAll_r0 (.seq (.seq S_ref3_EqualAll_r1 (.cond (.tmp 10) (.seq S_ref3_EqualAll_r2 .ret) .skip)) (.seq (.seq S_ref3_EqualAll_r3 S_ref3_EqualAll_b1) (.seq S_ref3_EqualAll_r8 .ret))))
theorem BS_ref3_EqualAll : Try.f65.body.bind stripC = some S_ref3_EqualAll := by kernel_rfl
/-! store_has: function 66, 14 temporaries. -/
def S_store_has_r0 : SC := .reg [⟨some 2, .box 38 (.tmp 0), none⟩,
  ⟨some 4, .assign (.const (.bool false)), none⟩]
def S_store_has_r1 : SC := .reg [⟨some 5, .move (.tmp 1), none⟩,
  ⟨some 6, .binOp .geq 3 (.tmp 5) (.const (.int .i64 0)) 3, none⟩,
  ⟨some 7, .move (.tmp 6), none⟩,
  ⟨some 8, .move (.tmp 1), some (7, true)⟩,
  ⟨some 9, .fieldAddr 38 (.tmp 2) 0, some (7, true)⟩,
  ⟨some 10, .load 35 (.tmp 9), some (7, true)⟩,
  ⟨some 11, .call ⟨.builtin .len, #[(.tmp 10)], #[35]⟩, some (7, true)⟩,
  ⟨some 12, .binOp .lss 3 (.tmp 8) (.tmp 11) 3, some (7, true)⟩,
  ⟨some 13, .pick (.tmp 7) (.tmp 12) (.const (.bool false)), none⟩,
  ⟨some 4, .assign (.tmp 13), none⟩]
def S_store_has : SC := (.seq S_store_has_r0 (.seq S_store_has_r1 .ret))
theorem BS_store_has : Try.f66.body.bind stripC = some S_store_has := by kernel_rfl
/-! ref3_Con: function 67, 9 temporaries. -/
def S_ref3_Con_r0 : SC := .reg [⟨some 4, .alloc 25, none⟩]
def S_ref3_Con_r1 : SC := .reg [⟨some 5, .move (.tmp 0), none⟩,
  ⟨some 6, .move (.tmp 1), none⟩,
  ⟨some 7, .call ⟨.builtin .append, #[(.const (.slice none 0 0)), (.tmp 6)], #[23, 23]⟩, none⟩,
  ⟨some 8, .build 25 #[(0, (.const (.int .i64 4))), (1, (.tmp 5)), (4, (.tmp 7))], none⟩,
  ⟨none, .store 25 (.tmp 4) (.tmp 8), none⟩]
def S_ref3_Con : SC := (.seq S_ref3_Con_r0 (.seq S_ref3_Con_r1 .ret))
theorem BS_ref3_Con : Try.f67.body.bind stripC = some S_ref3_Con := by kernel_rfl
/-! slices_Backward__api_Changeapi_Change: function 68, 4 temporaries. -/
def S_slices_Backward__api_Changeapi_Change_r0 : SC := .reg [⟨some 1, .box 36 (.tmp 0), none⟩,
  ⟨some 2, .assign (.const .nilFunc), none⟩]
def S_slices_Backward__api_Changeapi_Change_r1 : SC := .reg [⟨some 3, .makeFunc (.func 95) #[] #[(.tmp 1)], none⟩,
  ⟨some 2, .assign (.tmp 3), none⟩]
def S_slices_Backward__api_Changeapi_Change : SC := (.seq S_slices_Backward__api_Changeapi_Change_r0 (.seq S_slices_Backward__api_Changeapi_Change_r1 .ret))
theorem BS_slices_Backward__api_Changeapi_Change : Try.f68.body.bind stripC = some S_slices_Backward__api_Changeapi_Change := by kernel_rfl
/-! slices_Clip__api_Slotapi_Slot: function 69, 9 temporaries. -/
def S_slices_Clip__api_Slotapi_Slot_r0 : SC := .reg [⟨some 2, .assign (.const (.slice none 0 0)), none⟩]
def S_slices_Clip__api_Slotapi_Slot_r1 : SC := .reg [⟨some 3, .move (.tmp 0), none⟩,
  ⟨some 4, .move (.tmp 0), none⟩,
  ⟨some 5, .call ⟨.builtin .len, #[(.tmp 4)], #[35]⟩, none⟩,
  ⟨some 6, .move (.tmp 0), none⟩,
  ⟨some 7, .call ⟨.builtin .len, #[(.tmp 6)], #[35]⟩, none⟩,
  ⟨some 8, .slice 35 (.tmp 3) none (some (.tmp 5)) (some (.tmp 7)), none⟩,
  ⟨some 2, .assign (.tmp 8), none⟩]
def S_slices_Clip__api_Slotapi_Slot : SC := (.seq S_slices_Clip__api_Slotapi_Slot_r0 (.seq S_slices_Clip__api_Slotapi_Slot_r1 .ret))
theorem BS_slices_Clip__api_Slotapi_Slot : Try.f69.body.bind stripC = some S_slices_Clip__api_Slotapi_Slot := by kernel_rfl
/-! slices_Clip__api_Changeapi_Change: function 70, 9 temporaries. -/
def S_slices_Clip__api_Changeapi_Change_r0 : SC := .reg [⟨some 2, .assign (.const (.slice none 0 0)), none⟩]
def S_slices_Clip__api_Changeapi_Change_r1 : SC := .reg [⟨some 3, .move (.tmp 0), none⟩,
  ⟨some 4, .move (.tmp 0), none⟩,
  ⟨some 5, .call ⟨.builtin .len, #[(.tmp 4)], #[36]⟩, none⟩,
  ⟨some 6, .move (.tmp 0), none⟩,
  ⟨some 7, .call ⟨.builtin .len, #[(.tmp 6)], #[36]⟩, none⟩,
  ⟨some 8, .slice 36 (.tmp 3) none (some (.tmp 5)) (some (.tmp 7)), none⟩,
  ⟨some 2, .assign (.tmp 8), none⟩]
def S_slices_Clip__api_Changeapi_Change : SC := (.seq S_slices_Clip__api_Changeapi_Change_r0 (.seq S_slices_Clip__api_Changeapi_Change_r1 .ret))
theorem BS_slices_Clip__api_Changeapi_Change : Try.f70.body.bind stripC = some S_slices_Clip__api_Changeapi_Change := by kernel_rfl
/-! ref16_cyclic: function 71, 60 temporaries. -/
def S_ref16_cyclic_r0 : SC := .reg [⟨some 4, .box 38 (.tmp 0), none⟩,
  ⟨some 8, .assign (.const (.bool false)), none⟩]
def S_ref16_cyclic_r1 : SC := .reg [⟨some 11, .fieldAddr 38 (.tmp 4) 0, none⟩,
  ⟨some 12, .load 35 (.tmp 11), none⟩,
  ⟨some 13, .move (.tmp 1), none⟩,
  ⟨some 14, .indexAddr 35 (.tmp 12) (.tmp 13), none⟩,
  ⟨some 15, .fieldAddr 27 (.tmp 14) 0, none⟩,
  ⟨some 16, .load 4 (.tmp 15), none⟩,
  ⟨some 17, .unOp .not 4 (.tmp 16), none⟩]
def S_ref16_cyclic_r2 : SC := .reg [⟨some 8, .assign (.const (.bool false)), none⟩]
def S_ref16_cyclic_r3 : SC := .reg [⟨some 18, .fieldAddr 38 (.tmp 4) 0, none⟩,
  ⟨some 19, .load 35 (.tmp 18), none⟩,
  ⟨some 20, .move (.tmp 1), none⟩,
  ⟨some 21, .indexAddr 35 (.tmp 19) (.tmp 20), none⟩,
  ⟨some 22, .fieldAddr 27 (.tmp 21) 1, none⟩,
  ⟨some 23, .load 25 (.tmp 22), none⟩,
  ⟨some 24, .buildSlice 23 1 #[(0, (.tmp 23))], none⟩,
  ⟨some 25, .call ⟨.value (.func 46), #[(.tmp 24)], #[23]⟩, none⟩,
  ⟨some 9, .assign (.tmp 25), none⟩]
def S_ref16_cyclic_r4 : SC := .reg [⟨some 10, .assign (.const (.int .i64 0)), none⟩]
def S_ref16_cyclic_r5 : SC := .reg [⟨some 26, .move (.tmp 10), none⟩,
  ⟨some 27, .move (.tmp 9), none⟩,
  ⟨some 28, .call ⟨.builtin .len, #[(.tmp 27)], #[22]⟩, none⟩,
  ⟨some 29, .binOp .lss 3 (.tmp 26) (.tmp 28) 3, none⟩]
def S_ref16_cyclic_r6 : SC := .reg [⟨some 32, .move (.tmp 9), none⟩,
  ⟨some 33, .move (.tmp 10), none⟩,
  ⟨some 34, .indexAddr 22 (.tmp 32) (.tmp 33), none⟩,
  ⟨some 35, .load 3 (.tmp 34), none⟩,
  ⟨some 36, .move (.tmp 3), none⟩,
  ⟨some 37, .binOp .eql 3 (.tmp 35) (.tmp 36) 3, none⟩]
def S_ref16_cyclic_r7 : SC := .reg [⟨some 8, .assign (.const (.bool true)), none⟩]
def S_ref16_cyclic_r8 : SC := .reg [⟨some 38, .move (.tmp 2), none⟩,
  ⟨some 39, .move (.tmp 9), none⟩,
  ⟨some 40, .move (.tmp 10), none⟩,
  ⟨some 41, .indexAddr 22 (.tmp 39) (.tmp 40), none⟩,
  ⟨some 42, .load 3 (.tmp 41), none⟩,
  ⟨some 43, .indexAddr 22 (.tmp 38) (.tmp 42), none⟩,
  ⟨some 44, .load 3 (.tmp 43), none⟩,
  ⟨some 45, .binOp .eql 3 (.tmp 44) (.const (.int .i64 0)) 3, none⟩]
def S_ref16_cyclic_r9 : SC := .reg [⟨some 46, .move (.tmp 2), none⟩,
  ⟨some 47, .move (.tmp 9), none⟩,
  ⟨some 48, .move (.tmp 10), none⟩,
  ⟨some 49, .indexAddr 22 (.tmp 47) (.tmp 48), none⟩,
  ⟨some 50, .load 3 (.tmp 49), none⟩,
  ⟨some 51, .indexAddr 22 (.tmp 46) (.tmp 50), none⟩,
  ⟨none, .store 3 (.tmp 51) (.const (.int .i64 1)), none⟩]
def S_ref16_cyclic_r10 : SC := .draw [⟨some 52, .load 38 (.tmp 4), none, [4]⟩,
  ⟨some 53, .move (.tmp 9), none, [9]⟩,
  ⟨some 54, .move (.tmp 10), none, [10]⟩,
  ⟨some 55, .indexAddr 22 (.tmp 53) (.tmp 54), none, [53, 54]⟩,
  ⟨some 56, .load 3 (.tmp 55), none, [55]⟩,
  ⟨some 57, .move (.tmp 2), none, [2]⟩,
  ⟨some 58, .move (.tmp 3), none, [3]⟩,
  ⟨some 59, .call ⟨.value (.func 71), #[(.tmp 52), (.tmp 56), (.tmp 57), (.tmp 58)], #[38, 3, 22, 3]⟩, none, [52, 56, 57, 58]⟩] [0, 0, 0, 6, 14, 0, 0, 127]
def S_ref16_cyclic_r11 : SC := .reg [⟨some 8, .assign (.const (.bool true)), none⟩]
def S_ref16_cyclic_b0 : SC := .block 1 (.seq (.seq S_ref16_cyclic_r6 (.cond (.tmp 37) (.seq S_ref16_cyclic_r7 .ret) .skip)) (.seq S_ref16_cyclic_r8 (.cond (.tmp 45) (.seq S_ref16_cyclic_r9 (.seq S_ref16_cyclic_r10 (.cond (.tmp 59) (.seq S_ref16_cyclic_r11 .ret) .skip))) .skip)))
def S_ref16_cyclic_r12 : SC := .reg [⟨some 30, .move (.tmp 10), none⟩,
  ⟨some 31, .binOp .add 3 (.tmp 30) (.const (.int .i64 1)) 3, none⟩,
  ⟨some 10, .assign (.tmp 31), none⟩]
def S_ref16_cyclic_l0 : SC := (.seq (.seq S_ref16_cyclic_r5 (.cond (.tmp 29) .skip (.exit 0))) (.seq S_ref16_cyclic_b0 S_ref16_cyclic_r12))
def S_ref16_cyclic_b1 : SC := .block 0 (.loop S_ref16_cyclic_l0)
def S_ref16_cyclic_r13 : SC := .reg [⟨some 8, .assign (.const (.bool false)), none⟩]
def S_ref16_cyclic : SC := (.seq S_ref16_cyclic_r0 (.seq (.seq S_ref16_cyclic_r1 (.cond (.tmp 17) (.seq S_ref16_cyclic_r2 .ret) .skip)) (.seq S_ref16_cyclic_r3 (.seq (.seq S_ref16_cyclic_r4 S_ref16_cyclic_b1) (.seq S_ref16_cyclic_r13 .ret)))))
theorem BS_ref16_cyclic : Try.f71.body.bind stripC = some S_ref16_cyclic := by kernel_rfl
/-! ref3_Arrow: function 72, 9 temporaries. -/
def S_ref3_Arrow_r0 : SC := .reg [⟨some 2, .box 25 (.tmp 0), none⟩,
  ⟨some 3, .box 25 (.tmp 1), none⟩,
  ⟨some 4, .alloc 25, none⟩]
def S_ref3_Arrow_r1 : SC := .reg [⟨some 5, .load 25 (.tmp 2), none⟩,
  ⟨some 6, .load 25 (.tmp 3), none⟩,
  ⟨some 7, .buildSlice 23 2 #[(0, (.tmp 5)), (1, (.tmp 6))], none⟩,
  ⟨some 8, .call ⟨.value (.func 67), #[(.const (.string ⟨#[45, 62]⟩)), (.tmp 7)], #[9, 23]⟩, none⟩,
  ⟨none, .store 25 (.tmp 4) (.tmp 8), none⟩]
def S_ref3_Arrow : SC := (.seq S_ref3_Arrow_r0 (.seq S_ref3_Arrow_r1 .ret))
theorem BS_ref3_Arrow : Try.f72.body.bind stripC = some S_ref3_Arrow := by kernel_rfl
/-! store_bound: function 75, 23 temporaries. -/
def S_store_bound_r0 : SC := .reg [⟨some 2, .box 38 (.tmp 0), none⟩,
  ⟨some 3, .box 25 (.tmp 1), none⟩,
  ⟨some 4, .assign (.const (.bool false)), none⟩]
def S_store_bound_r1 : SC := .reg [⟨some 5, .fieldAddr 25 (.tmp 3) 0, none⟩,
  ⟨some 6, .load 3 (.tmp 5), none⟩,
  ⟨some 7, .binOp .eql 3 (.tmp 6) (.const (.int .i64 1)) 3, none⟩,
  ⟨some 8, .move (.tmp 7), none⟩,
  ⟨some 9, .load 38 (.tmp 2), some (8, true)⟩,
  ⟨some 10, .fieldAddr 25 (.tmp 3) 2, some (8, true)⟩,
  ⟨some 11, .load 3 (.tmp 10), some (8, true)⟩,
  ⟨some 12, .call ⟨.value (.func 66), #[(.tmp 9), (.tmp 11)], #[38, 3]⟩, some (8, true)⟩,
  ⟨some 13, .pick (.tmp 8) (.tmp 12) (.const (.bool false)), none⟩,
  ⟨some 14, .move (.tmp 13), none⟩,
  ⟨some 15, .fieldAddr 38 (.tmp 2) 0, some (14, true)⟩,
  ⟨some 16, .load 35 (.tmp 15), some (14, true)⟩,
  ⟨some 17, .fieldAddr 25 (.tmp 3) 2, some (14, true)⟩,
  ⟨some 18, .load 3 (.tmp 17), some (14, true)⟩,
  ⟨some 19, .indexAddr 35 (.tmp 16) (.tmp 18), some (14, true)⟩,
  ⟨some 20, .fieldAddr 27 (.tmp 19) 0, some (14, true)⟩,
  ⟨some 21, .load 4 (.tmp 20), some (14, true)⟩,
  ⟨some 22, .pick (.tmp 14) (.tmp 21) (.const (.bool false)), none⟩,
  ⟨some 4, .assign (.tmp 22), none⟩]
def S_store_bound : SC := (.seq S_store_bound_r0 (.seq S_store_bound_r1 .ret))
theorem BS_store_bound : Try.f75.body.bind stripC = some S_store_bound := by kernel_rfl
/-! ref16_bound: function 76, 30 temporaries. -/
def S_ref16_bound_r0 : SC := .reg [⟨some 2, .box 38 (.tmp 0), none⟩,
  ⟨some 3, .box 25 (.tmp 1), none⟩,
  ⟨some 4, .assign (.const (.bool false)), none⟩]
def S_ref16_bound_r1 : SC := .reg [⟨some 5, .fieldAddr 25 (.tmp 3) 0, none⟩,
  ⟨some 6, .load 3 (.tmp 5), none⟩,
  ⟨some 7, .binOp .eql 3 (.tmp 6) (.const (.int .i64 1)) 3, none⟩,
  ⟨some 8, .move (.tmp 7), none⟩,
  ⟨some 9, .fieldAddr 25 (.tmp 3) 2, some (8, true)⟩,
  ⟨some 10, .load 3 (.tmp 9), some (8, true)⟩,
  ⟨some 11, .binOp .geq 3 (.tmp 10) (.const (.int .i64 0)) 3, some (8, true)⟩,
  ⟨some 12, .pick (.tmp 8) (.tmp 11) (.const (.bool false)), none⟩,
  ⟨some 13, .move (.tmp 12), none⟩,
  ⟨some 14, .fieldAddr 25 (.tmp 3) 2, some (13, true)⟩,
  ⟨some 15, .load 3 (.tmp 14), some (13, true)⟩,
  ⟨some 16, .fieldAddr 38 (.tmp 2) 0, some (13, true)⟩,
  ⟨some 17, .load 35 (.tmp 16), some (13, true)⟩,
  ⟨some 18, .call ⟨.builtin .len, #[(.tmp 17)], #[35]⟩, some (13, true)⟩,
  ⟨some 19, .binOp .lss 3 (.tmp 15) (.tmp 18) 3, some (13, true)⟩,
  ⟨some 20, .pick (.tmp 13) (.tmp 19) (.const (.bool false)), none⟩,
  ⟨some 21, .move (.tmp 20), none⟩,
  ⟨some 22, .fieldAddr 38 (.tmp 2) 0, some (21, true)⟩,
  ⟨some 23, .load 35 (.tmp 22), some (21, true)⟩,
  ⟨some 24, .fieldAddr 25 (.tmp 3) 2, some (21, true)⟩,
  ⟨some 25, .load 3 (.tmp 24), some (21, true)⟩,
  ⟨some 26, .indexAddr 35 (.tmp 23) (.tmp 25), some (21, true)⟩,
  ⟨some 27, .fieldAddr 27 (.tmp 26) 0, some (21, true)⟩,
  ⟨some 28, .load 4 (.tmp 27), some (21, true)⟩,
  ⟨some 29, .pick (.tmp 21) (.tmp 28) (.const (.bool false)), none⟩,
  ⟨some 4, .assign (.tmp 29), none⟩]
def S_ref16_bound : SC := (.seq S_ref16_bound_r0 (.seq S_ref16_bound_r1 .ret))
theorem BS_ref16_bound : Try.f76.body.bind stripC = some S_ref16_bound := by kernel_rfl
/-! ref3_leaves: function 85, 52 temporaries. -/
def S_ref3_leaves_r0 : SC := .reg [⟨some 4, .box 25 (.tmp 1), none⟩,
  ⟨some 6, .assign (.const (.slice none 0 0)), none⟩]
def S_ref3_leaves_r1 : SC := .reg [⟨some 9, .fieldAddr 25 (.tmp 4) 0, none⟩,
  ⟨some 10, .load 3 (.tmp 9), none⟩,
  ⟨some 11, .move (.tmp 2), none⟩,
  ⟨some 12, .binOp .eql 3 (.tmp 10) (.tmp 11) 3, none⟩,
  ⟨some 13, .move (.tmp 12), none⟩,
  ⟨some 14, .fieldAddr 25 (.tmp 4) 4, some (13, true)⟩,
  ⟨some 15, .load 23 (.tmp 14), some (13, true)⟩,
  ⟨some 16, .call ⟨.builtin .len, #[(.tmp 15)], #[23]⟩, some (13, true)⟩,
  ⟨some 17, .binOp .eql 3 (.tmp 16) (.const (.int .i64 0)) 3, some (13, true)⟩,
  ⟨some 18, .pick (.tmp 13) (.tmp 17) (.const (.bool false)), none⟩]
def S_ref3_leaves_r2 : SC := .reg [⟨some 7, .assign (.const (.int .i64 0)), none⟩]
def S_ref3_leaves_r3 : SC := .reg [⟨some 19, .move (.tmp 7), none⟩,
  ⟨some 20, .move (.tmp 0), none⟩,
  ⟨some 21, .call ⟨.builtin .len, #[(.tmp 20)], #[23]⟩, none⟩,
  ⟨some 22, .binOp .lss 3 (.tmp 19) (.tmp 21) 3, none⟩]
def S_ref3_leaves_r4 : SC := .draw [⟨some 25, .move (.tmp 0), none, [0]⟩,
  ⟨some 26, .move (.tmp 7), none, [7]⟩,
  ⟨some 27, .indexAddr 23 (.tmp 25) (.tmp 26), none, [25, 26]⟩,
  ⟨some 28, .load 25 (.tmp 27), none, [27]⟩,
  ⟨some 29, .load 25 (.tmp 4), none, [4]⟩,
  ⟨some 30, .call ⟨.value (.func 19), #[(.tmp 28), (.tmp 29)], #[25, 25]⟩, none, [28, 29]⟩] [0, 0, 3, 7, 0, 31]
def S_ref3_leaves_r5 : SC := .reg [⟨some 31, .move (.tmp 0), none⟩,
  ⟨some 6, .assign (.tmp 31), none⟩]
def S_ref3_leaves_b0 : SC := .block 1 (.seq S_ref3_leaves_r4 (.cond (.tmp 30) (.seq S_ref3_leaves_r5 .ret) .skip))
def S_ref3_leaves_r6 : SC := .reg [⟨some 23, .move (.tmp 7), none⟩,
  ⟨some 24, .binOp .add 3 (.tmp 23) (.const (.int .i64 1)) 3, none⟩,
  ⟨some 7, .assign (.tmp 24), none⟩]
def S_ref3_leaves_l0 : SC := (.seq (.seq S_ref3_leaves_r3 (.cond (.tmp 22) .skip (.exit 0))) (.seq S_ref3_leaves_b0 S_ref3_leaves_r6))
def S_ref3_leaves_b1 : SC := .block 0 (.loop S_ref3_leaves_l0)
def S_ref3_leaves_r7 : SC := .reg [⟨some 32, .move (.tmp 0), none⟩,
  ⟨some 33, .load 25 (.tmp 4), none⟩,
  ⟨some 34, .buildSlice 23 1 #[(0, (.tmp 33))], none⟩,
  ⟨some 35, .call ⟨.builtin .append, #[(.tmp 32), (.tmp 34)], #[23, 23]⟩, none⟩,
  ⟨some 6, .assign (.tmp 35), none⟩]
def S_ref3_leaves_r8 : SC := .reg [⟨some 8, .assign (.const (.int .i64 0)), none⟩]
def S_ref3_leaves_r9 : SC := .reg [⟨some 36, .move (.tmp 8), none⟩,
  ⟨some 37, .fieldAddr 25 (.tmp 4) 4, none⟩,
  ⟨some 38, .load 23 (.tmp 37), none⟩,
  ⟨some 39, .call ⟨.builtin .len, #[(.tmp 38)], #[23]⟩, none⟩,
  ⟨some 40, .binOp .lss 3 (.tmp 36) (.tmp 39) 3, none⟩]
def S_ref3_leaves_r10 : SC := .reg [⟨some 43, .move (.tmp 0), none⟩,
  ⟨some 44, .fieldAddr 25 (.tmp 4) 4, none⟩,
  ⟨some 45, .load 23 (.tmp 44), none⟩,
  ⟨some 46, .move (.tmp 8), none⟩,
  ⟨some 47, .indexAddr 23 (.tmp 45) (.tmp 46), none⟩,
  ⟨some 48, .load 25 (.tmp 47), none⟩,
  ⟨some 49, .move (.tmp 2), none⟩,
  ⟨some 50, .call ⟨.value (.func 85), #[(.tmp 43), (.tmp 48), (.tmp 49)], #[23, 25, 3]⟩, none⟩,
  ⟨some 0, .assign (.tmp 50), none⟩]
def S_ref3_leaves_b2 : SC := .block 3 S_ref3_leaves_r10
def S_ref3_leaves_r11 : SC := .reg [⟨some 41, .move (.tmp 8), none⟩,
  ⟨some 42, .binOp .add 3 (.tmp 41) (.const (.int .i64 1)) 3, none⟩,
  ⟨some 8, .assign (.tmp 42), none⟩]
def S_ref3_leaves_l1 : SC := (.seq (.seq S_ref3_leaves_r9 (.cond (.tmp 40) .skip (.exit 2))) (.seq S_ref3_leaves_b2 S_ref3_leaves_r11))
def S_ref3_leaves_b3 : SC := .block 2 (.loop S_ref3_leaves_l1)
def S_ref3_leaves_r12 : SC := .reg [⟨some 51, .move (.tmp 0), none⟩,
  ⟨some 6, .assign (.tmp 51), none⟩]
def S_ref3_leaves : SC := (.seq S_ref3_leaves_r0 (.seq (.seq S_ref3_leaves_r1 (.cond (.tmp 18) (.seq (.seq S_ref3_leaves_r2 S_ref3_leaves_b1) (.seq S_ref3_leaves_r7 .ret)) .skip)) (.seq (.seq S_ref3_leaves_r8 S_ref3_leaves_b3) (.seq S_ref3_leaves_r12 .ret))))
theorem BS_ref3_leaves : Try.f85.body.bind stripC = some S_ref3_leaves := by kernel_rfl
/-! ref2_Lower: function 91, 20 temporaries. -/
def S_ref2_Lower_r0 : SC := .reg [⟨some 2, .assign (.const (.bool false)), none⟩]
def S_ref2_Lower_r1 : SC := .reg [⟨some 3, .move (.tmp 0), none⟩,
  ⟨some 4, .call ⟨.value (.func 109), #[(.tmp 3)], #[9]⟩, none⟩,
  ⟨some 5, .move (.tmp 4), none⟩,
  ⟨some 6, .move (.tmp 0), some (5, true)⟩,
  ⟨some 7, .index 9 (.tmp 6) (.const (.int .i64 0)), some (5, true)⟩,
  ⟨some 8, .call ⟨.value (.func 110), #[(.tmp 7)], #[5]⟩, some (5, true)⟩,
  ⟨some 9, .pick (.tmp 5) (.tmp 8) (.const (.bool false)), none⟩,
  ⟨some 10, .move (.tmp 9), none⟩,
  ⟨some 11, .move (.tmp 0), some (10, true)⟩,
  ⟨some 12, .call ⟨.builtin .len, #[(.tmp 11)], #[9]⟩, some (10, true)⟩,
  ⟨some 13, .binOp .leq 3 (.tmp 12) (.const (.int .i64 12)) 3, some (10, true)⟩,
  ⟨some 14, .pick (.tmp 10) (.tmp 13) (.const (.bool false)), none⟩,
  ⟨some 15, .move (.tmp 14), none⟩,
  ⟨some 16, .move (.tmp 0), some (15, true)⟩,
  ⟨some 17, .call ⟨.value (.func 111), #[(.tmp 16)], #[9]⟩, some (15, true)⟩,
  ⟨some 18, .unOp .not 4 (.tmp 17), some (15, true)⟩,
  ⟨some 19, .pick (.tmp 15) (.tmp 18) (.const (.bool false)), none⟩,
  ⟨some 2, .assign (.tmp 19), none⟩]
def S_ref2_Lower : SC := (.seq S_ref2_Lower_r0 (.seq S_ref2_Lower_r1 .ret))
theorem BS_ref2_Lower : Try.f91.body.bind stripC = some S_ref2_Lower := by kernel_rfl
/-! ref2_Upper: function 92, 15 temporaries. -/
def S_ref2_Upper_r0 : SC := .reg [⟨some 2, .assign (.const (.bool false)), none⟩]
def S_ref2_Upper_r1 : SC := .reg [⟨some 3, .move (.tmp 0), none⟩,
  ⟨some 4, .call ⟨.value (.func 109), #[(.tmp 3)], #[9]⟩, none⟩,
  ⟨some 5, .move (.tmp 4), none⟩,
  ⟨some 6, .move (.tmp 0), some (5, true)⟩,
  ⟨some 7, .index 9 (.tmp 6) (.const (.int .i64 0)), some (5, true)⟩,
  ⟨some 8, .call ⟨.value (.func 112), #[(.tmp 7)], #[5]⟩, some (5, true)⟩,
  ⟨some 9, .pick (.tmp 5) (.tmp 8) (.const (.bool false)), none⟩,
  ⟨some 10, .move (.tmp 9), none⟩,
  ⟨some 11, .move (.tmp 0), some (10, true)⟩,
  ⟨some 12, .call ⟨.builtin .len, #[(.tmp 11)], #[9]⟩, some (10, true)⟩,
  ⟨some 13, .binOp .leq 3 (.tmp 12) (.const (.int .i64 12)) 3, some (10, true)⟩,
  ⟨some 14, .pick (.tmp 10) (.tmp 13) (.const (.bool false)), none⟩,
  ⟨some 2, .assign (.tmp 14), none⟩]
def S_ref2_Upper : SC := (.seq S_ref2_Upper_r0 (.seq S_ref2_Upper_r1 .ret))
theorem BS_ref2_Upper : Try.f92.body.bind stripC = some S_ref2_Upper := by kernel_rfl
/-! slices_Backward__api_Changeapi_Change_1: function 95, 19 temporaries. -/
def S_slices_Backward__api_Changeapi_Change_1_r0 : SC := .reg [⟨some 4, .load 36 (.tmp 1), none⟩,
  ⟨some 5, .call ⟨.builtin .len, #[(.tmp 4)], #[36]⟩, none⟩,
  ⟨some 6, .binOp .sub 3 (.tmp 5) (.const (.int .i64 1)) 3, none⟩,
  ⟨some 3, .assign (.tmp 6), none⟩]
def S_slices_Backward__api_Changeapi_Change_1_r1 : SC := .reg [⟨some 7, .move (.tmp 3), none⟩,
  ⟨some 8, .binOp .geq 3 (.tmp 7) (.const (.int .i64 0)) 3, none⟩]
def S_slices_Backward__api_Changeapi_Change_1_r2 : SC := .reg [⟨some 11, .move (.tmp 0), none⟩,
  ⟨some 12, .move (.tmp 3), none⟩,
  ⟨some 13, .load 36 (.tmp 1), none⟩,
  ⟨some 14, .move (.tmp 3), none⟩,
  ⟨some 15, .indexAddr 36 (.tmp 13) (.tmp 14), none⟩,
  ⟨some 16, .load 102 (.tmp 15), none⟩,
  ⟨some 17, .call ⟨.value (.tmp 11), #[(.tmp 12), (.tmp 16)], #[3, 102]⟩, none⟩,
  ⟨some 18, .unOp .not 4 (.tmp 17), none⟩]
def S_slices_Backward__api_Changeapi_Change_1_b0 : SC := .block 1 (.seq S_slices_Backward__api_Changeapi_Change_1_r2 (.cond (.tmp 18) .ret .skip))
def S_slices_Backward__api_Changeapi_Change_1_r3 : SC := .reg [⟨some 9, .move (.tmp 3), none⟩,
  ⟨some 10, .binOp .sub 3 (.tmp 9) (.const (.int .i64 1)) 3, none⟩,
  ⟨some 3, .assign (.tmp 10), none⟩]
def S_slices_Backward__api_Changeapi_Change_1_l0 : SC := (.seq (.seq S_slices_Backward__api_Changeapi_Change_1_r1 (.cond (.tmp 8) .skip (.exit 0))) (.seq S_slices_Backward__api_Changeapi_Change_1_b0 S_slices_Backward__api_Changeapi_Change_1_r3))
def S_slices_Backward__api_Changeapi_Change_1_b1 : SC := .block 0 (.loop S_slices_Backward__api_Changeapi_Change_1_l0)
def S_slices_Backward__api_Changeapi_Change_1 : SC := (.seq S_slices_Backward__api_Changeapi_Change_1_r0 S_slices_Backward__api_Changeapi_Change_1_b1)
theorem BS_slices_Backward__api_Changeapi_Change_1 : Try.f95.body.bind stripC = some S_slices_Backward__api_Changeapi_Change_1 := by kernel_rfl
/-! ref2_word: function 109, 17 temporaries. -/
def S_ref2_word_r0 : SC := .reg [⟨some 2, .assign (.const (.bool false)), none⟩]
def S_ref2_word_r1 : SC := .reg [⟨some 3, .assign (.const (.int .i64 0)), none⟩]
def S_ref2_word_r2 : SC := .reg [⟨some 4, .move (.tmp 3), none⟩,
  ⟨some 5, .move (.tmp 0), none⟩,
  ⟨some 6, .call ⟨.builtin .len, #[(.tmp 5)], #[9]⟩, none⟩,
  ⟨some 7, .binOp .lss 3 (.tmp 4) (.tmp 6) 3, none⟩]
def S_ref2_word_r3 : SC := .reg [⟨some 10, .move (.tmp 0), none⟩,
  ⟨some 11, .move (.tmp 3), none⟩,
  ⟨some 12, .index 9 (.tmp 10) (.tmp 11), none⟩,
  ⟨some 13, .call ⟨.value (.func 130), #[(.tmp 12)], #[5]⟩, none⟩,
  ⟨some 14, .unOp .not 4 (.tmp 13), none⟩]
def S_ref2_word_r4 : SC := .reg [⟨some 2, .assign (.const (.bool false)), none⟩]
def S_ref2_word_b0 : SC := .block 1 (.seq S_ref2_word_r3 (.cond (.tmp 14) (.seq S_ref2_word_r4 .ret) .skip))
def S_ref2_word_r5 : SC := .reg [⟨some 8, .move (.tmp 3), none⟩,
  ⟨some 9, .binOp .add 3 (.tmp 8) (.const (.int .i64 1)) 3, none⟩,
  ⟨some 3, .assign (.tmp 9), none⟩]
def S_ref2_word_l0 : SC := (.seq (.seq S_ref2_word_r2 (.cond (.tmp 7) .skip (.exit 0))) (.seq S_ref2_word_b0 S_ref2_word_r5))
def S_ref2_word_b1 : SC := .block 0 (.loop S_ref2_word_l0)
def S_ref2_word_r6 : SC := .reg [⟨some 15, .move (.tmp 0), none⟩,
  ⟨some 16, .binOp .neq 9 (.tmp 15) (.const (.string ⟨#[]⟩)) 9, none⟩,
  ⟨some 2, .assign (.tmp 16), none⟩]
def S_ref2_word : SC := (.seq S_ref2_word_r0 (.seq (.seq S_ref2_word_r1 S_ref2_word_b1) (.seq S_ref2_word_r6 .ret)))
theorem BS_ref2_word : Try.f109.body.bind stripC = some S_ref2_word := by kernel_rfl
/-! ref2_lower: function 110, 9 temporaries. -/
def S_ref2_lower_r0 : SC := .reg [⟨some 2, .assign (.const (.bool false)), none⟩]
def S_ref2_lower_r1 : SC := .reg [⟨some 3, .move (.tmp 0), none⟩,
  ⟨some 4, .binOp .geq 5 (.tmp 3) (.const (.int .u8 97)) 5, none⟩,
  ⟨some 5, .move (.tmp 4), none⟩,
  ⟨some 6, .move (.tmp 0), some (5, true)⟩,
  ⟨some 7, .binOp .leq 5 (.tmp 6) (.const (.int .u8 122)) 5, some (5, true)⟩,
  ⟨some 8, .pick (.tmp 5) (.tmp 7) (.const (.bool false)), none⟩,
  ⟨some 2, .assign (.tmp 8), none⟩]
def S_ref2_lower : SC := (.seq S_ref2_lower_r0 (.seq S_ref2_lower_r1 .ret))
theorem BS_ref2_lower : Try.f110.body.bind stripC = some S_ref2_lower := by kernel_rfl
/-! ref2_Keyword: function 111, 18 temporaries. -/
def S_ref2_Keyword_r0 : SC := .reg [⟨some 2, .assign (.const (.bool false)), none⟩]
def S_ref2_Keyword_r1 : SC := .reg [⟨some 5, .buildSlice 95 7 #[(0, (.const (.string ⟨#[100, 97, 116, 97]⟩))), (1, (.const (.string ⟨#[108, 101, 116]⟩))), (2, (.const (.string ⟨#[114, 101, 99]⟩))), (3, (.const (.string ⟨#[105, 110]⟩))), (4, (.const (.string ⟨#[99, 97, 115, 101]⟩))), (5, (.const (.string ⟨#[111, 102]⟩))), (6, (.const (.string ⟨#[101, 110, 100]⟩)))], none⟩,
  ⟨some 3, .assign (.tmp 5), none⟩]
def S_ref2_Keyword_r2 : SC := .reg [⟨some 4, .assign (.const (.int .i64 0)), none⟩]
def S_ref2_Keyword_r3 : SC := .reg [⟨some 6, .move (.tmp 4), none⟩,
  ⟨some 7, .move (.tmp 3), none⟩,
  ⟨some 8, .call ⟨.builtin .len, #[(.tmp 7)], #[95]⟩, none⟩,
  ⟨some 9, .binOp .lss 3 (.tmp 6) (.tmp 8) 3, none⟩]
def S_ref2_Keyword_r4 : SC := .reg [⟨some 12, .move (.tmp 3), none⟩,
  ⟨some 13, .move (.tmp 4), none⟩,
  ⟨some 14, .indexAddr 95 (.tmp 12) (.tmp 13), none⟩,
  ⟨some 15, .load 9 (.tmp 14), none⟩,
  ⟨some 16, .move (.tmp 0), none⟩,
  ⟨some 17, .binOp .eql 9 (.tmp 15) (.tmp 16) 9, none⟩]
def S_ref2_Keyword_r5 : SC := .reg [⟨some 2, .assign (.const (.bool true)), none⟩]
def S_ref2_Keyword_b0 : SC := .block 1 (.seq S_ref2_Keyword_r4 (.cond (.tmp 17) (.seq S_ref2_Keyword_r5 .ret) .skip))
def S_ref2_Keyword_r6 : SC := .reg [⟨some 10, .move (.tmp 4), none⟩,
  ⟨some 11, .binOp .add 3 (.tmp 10) (.const (.int .i64 1)) 3, none⟩,
  ⟨some 4, .assign (.tmp 11), none⟩]
def S_ref2_Keyword_l0 : SC := (.seq (.seq S_ref2_Keyword_r3 (.cond (.tmp 9) .skip (.exit 0))) (.seq S_ref2_Keyword_b0 S_ref2_Keyword_r6))
def S_ref2_Keyword_b1 : SC := .block 0 (.loop S_ref2_Keyword_l0)
def S_ref2_Keyword_r7 : SC := .reg [⟨some 2, .assign (.const (.bool false)), none⟩]
def S_ref2_Keyword : SC := (.seq S_ref2_Keyword_r0 (.seq S_ref2_Keyword_r1 (.seq (.seq S_ref2_Keyword_r2 S_ref2_Keyword_b1) (.seq S_ref2_Keyword_r7 .ret))))
theorem BS_ref2_Keyword : Try.f111.body.bind stripC = some S_ref2_Keyword := by kernel_rfl
/-! ref2_upper: function 112, 9 temporaries. -/
def S_ref2_upper_r0 : SC := .reg [⟨some 2, .assign (.const (.bool false)), none⟩]
def S_ref2_upper_r1 : SC := .reg [⟨some 3, .move (.tmp 0), none⟩,
  ⟨some 4, .binOp .geq 5 (.tmp 3) (.const (.int .u8 65)) 5, none⟩,
  ⟨some 5, .move (.tmp 4), none⟩,
  ⟨some 6, .move (.tmp 0), some (5, true)⟩,
  ⟨some 7, .binOp .leq 5 (.tmp 6) (.const (.int .u8 90)) 5, some (5, true)⟩,
  ⟨some 8, .pick (.tmp 5) (.tmp 7) (.const (.bool false)), none⟩,
  ⟨some 2, .assign (.tmp 8), none⟩]
def S_ref2_upper : SC := (.seq S_ref2_upper_r0 (.seq S_ref2_upper_r1 .ret))
theorem BS_ref2_upper : Try.f112.body.bind stripC = some S_ref2_upper := by kernel_rfl
/-! ref3_Occurs: function 124, 10 temporaries. -/
def S_ref3_Occurs_r0 : SC := .reg [⟨some 3, .box 25 (.tmp 1), none⟩,
  ⟨some 4, .assign (.const (.bool false)), none⟩]
def S_ref3_Occurs_r1 : SC := .reg [⟨some 5, .load 25 (.tmp 3), none⟩,
  ⟨some 6, .buildSlice 23 1 #[(0, (.tmp 5))], none⟩,
  ⟨some 7, .call ⟨.value (.func 46), #[(.tmp 6)], #[23]⟩, none⟩,
  ⟨some 8, .move (.tmp 0), none⟩,
  ⟨some 9, .call ⟨.value (.func 47), #[(.tmp 7), (.tmp 8)], #[22, 3]⟩, none⟩,
  ⟨some 4, .assign (.tmp 9), none⟩]
def S_ref3_Occurs : SC := (.seq S_ref3_Occurs_r0 (.seq S_ref3_Occurs_r1 .ret))
theorem BS_ref3_Occurs : Try.f124.body.bind stripC = some S_ref3_Occurs := by kernel_rfl
/-! ref2_inner: function 130, 17 temporaries. -/
def S_ref2_inner_r0 : SC := .reg [⟨some 2, .assign (.const (.bool false)), none⟩]
def S_ref2_inner_r1 : SC := .reg [⟨some 3, .move (.tmp 0), none⟩,
  ⟨some 4, .call ⟨.value (.func 110), #[(.tmp 3)], #[5]⟩, none⟩,
  ⟨some 5, .move (.tmp 4), none⟩,
  ⟨some 6, .move (.tmp 0), some (5, false)⟩,
  ⟨some 7, .call ⟨.value (.func 112), #[(.tmp 6)], #[5]⟩, some (5, false)⟩,
  ⟨some 8, .pick (.tmp 5) (.const (.bool true)) (.tmp 7), none⟩,
  ⟨some 9, .move (.tmp 8), none⟩,
  ⟨some 10, .move (.tmp 0), some (9, false)⟩,
  ⟨some 11, .call ⟨.value (.func 149), #[(.tmp 10)], #[5]⟩, some (9, false)⟩,
  ⟨some 12, .pick (.tmp 9) (.const (.bool true)) (.tmp 11), none⟩,
  ⟨some 13, .move (.tmp 12), none⟩,
  ⟨some 14, .move (.tmp 0), some (13, false)⟩,
  ⟨some 15, .binOp .eql 5 (.tmp 14) (.const (.int .u8 95)) 5, some (13, false)⟩,
  ⟨some 16, .pick (.tmp 13) (.const (.bool true)) (.tmp 15), none⟩,
  ⟨some 2, .assign (.tmp 16), none⟩]
def S_ref2_inner : SC := (.seq S_ref2_inner_r0 (.seq S_ref2_inner_r1 .ret))
theorem BS_ref2_inner : Try.f130.body.bind stripC = some S_ref2_inner := by kernel_rfl
/-! ref3_IsArrow: function 131, 29 temporaries. -/
def S_ref3_IsArrow_r0 : SC := .reg [⟨some 1, .box 25 (.tmp 0), none⟩,
  ⟨some 2, .alloc 25, none⟩,
  ⟨some 3, .alloc 25, none⟩,
  ⟨some 4, .assign (.const (.bool false)), none⟩]
def S_ref3_IsArrow_r1 : SC := .reg [⟨some 5, .fieldAddr 25 (.tmp 1) 0, none⟩,
  ⟨some 6, .load 3 (.tmp 5), none⟩,
  ⟨some 7, .binOp .eql 3 (.tmp 6) (.const (.int .i64 4)) 3, none⟩,
  ⟨some 8, .move (.tmp 7), none⟩,
  ⟨some 9, .fieldAddr 25 (.tmp 1) 1, some (8, true)⟩,
  ⟨some 10, .load 9 (.tmp 9), some (8, true)⟩,
  ⟨some 11, .binOp .eql 9 (.tmp 10) (.const (.string ⟨#[45, 62]⟩)) 9, some (8, true)⟩,
  ⟨some 12, .pick (.tmp 8) (.tmp 11) (.const (.bool false)), none⟩,
  ⟨some 13, .move (.tmp 12), none⟩,
  ⟨some 14, .fieldAddr 25 (.tmp 1) 4, some (13, true)⟩,
  ⟨some 15, .load 23 (.tmp 14), some (13, true)⟩,
  ⟨some 16, .call ⟨.builtin .len, #[(.tmp 15)], #[23]⟩, some (13, true)⟩,
  ⟨some 17, .binOp .eql 3 (.tmp 16) (.const (.int .i64 2)) 3, some (13, true)⟩,
  ⟨some 18, .pick (.tmp 13) (.tmp 17) (.const (.bool false)), none⟩]
def S_ref3_IsArrow_r2 : SC := .draw [⟨some 19, .fieldAddr 25 (.tmp 1) 4, none, [1]⟩,
  ⟨some 20, .load 23 (.tmp 19), none, [19]⟩,
  ⟨some 21, .indexAddr 23 (.tmp 20) (.const (.int .i64 0)), none, [20]⟩,
  ⟨some 22, .load 25 (.tmp 21), none, [21]⟩,
  ⟨some 23, .fieldAddr 25 (.tmp 1) 4, none, [1]⟩,
  ⟨some 24, .load 23 (.tmp 23), none, [23]⟩,
  ⟨some 25, .indexAddr 23 (.tmp 24) (.const (.int .i64 1)), none, [24]⟩,
  ⟨some 26, .load 25 (.tmp 25), none, [25]⟩,
  ⟨none, .store 25 (.tmp 2) (.tmp 22), none, [2, 22]⟩,
  ⟨none, .store 25 (.tmp 3) (.tmp 26), none, [3, 26]⟩,
  ⟨some 4, .assign (.const (.bool true)), none, []⟩] [0, 1, 3, 7, 0, 16, 48, 112, 15, 511, 1023]
def S_ref3_IsArrow_r3 : SC := .reg [⟨some 27, .build 25 #[], none⟩,
  ⟨some 28, .build 25 #[], none⟩,
  ⟨none, .store 25 (.tmp 2) (.tmp 27), none⟩,
  ⟨none, .store 25 (.tmp 3) (.tmp 28), none⟩,
  ⟨some 4, .assign (.const (.bool false)), none⟩]
def S_ref3_IsArrow : SC := (.seq S_ref3_IsArrow_r0 (.seq (.seq S_ref3_IsArrow_r1 (.cond (.tmp 18) (.seq S_ref3_IsArrow_r2 .ret) .skip)) (.seq S_ref3_IsArrow_r3 .ret)))
theorem BS_ref3_IsArrow : Try.f131.body.bind stripC = some S_ref3_IsArrow := by kernel_rfl
/-! ref3_Rigids: function 132, 18 temporaries. -/
def S_ref3_Rigids_r0 : SC := .reg [⟨some 2, .assign (.const (.slice none 0 0)), none⟩]
def S_ref3_Rigids_r1 : SC := .reg [⟨some 3, .assign (.const (.slice none 0 0)), none⟩]
def S_ref3_Rigids_r2 : SC := .reg [⟨some 4, .assign (.const (.int .i64 0)), none⟩]
def S_ref3_Rigids_r3 : SC := .reg [⟨some 5, .move (.tmp 4), none⟩,
  ⟨some 6, .move (.tmp 0), none⟩,
  ⟨some 7, .call ⟨.builtin .len, #[(.tmp 6)], #[23]⟩, none⟩,
  ⟨some 8, .binOp .lss 3 (.tmp 5) (.tmp 7) 3, none⟩]
def S_ref3_Rigids_r4 : SC := .reg [⟨some 11, .move (.tmp 3), none⟩,
  ⟨some 12, .move (.tmp 0), none⟩,
  ⟨some 13, .move (.tmp 4), none⟩,
  ⟨some 14, .indexAddr 23 (.tmp 12) (.tmp 13), none⟩,
  ⟨some 15, .load 25 (.tmp 14), none⟩,
  ⟨some 16, .call ⟨.value (.func 85), #[(.tmp 11), (.tmp 15), (.const (.int .i64 3))], #[23, 25, 3]⟩, none⟩,
  ⟨some 3, .assign (.tmp 16), none⟩]
def S_ref3_Rigids_b0 : SC := .block 1 S_ref3_Rigids_r4
def S_ref3_Rigids_r5 : SC := .reg [⟨some 9, .move (.tmp 4), none⟩,
  ⟨some 10, .binOp .add 3 (.tmp 9) (.const (.int .i64 1)) 3, none⟩,
  ⟨some 4, .assign (.tmp 10), none⟩]
def S_ref3_Rigids_l0 : SC := (.seq (.seq S_ref3_Rigids_r3 (.cond (.tmp 8) .skip (.exit 0))) (.seq S_ref3_Rigids_b0 S_ref3_Rigids_r5))
def S_ref3_Rigids_b1 : SC := .block 0 (.loop S_ref3_Rigids_l0)
def S_ref3_Rigids_r6 : SC := .reg [⟨some 17, .move (.tmp 3), none⟩,
  ⟨some 2, .assign (.tmp 17), none⟩]
def S_ref3_Rigids : SC := (.seq S_ref3_Rigids_r0 (.seq S_ref3_Rigids_r1 (.seq (.seq S_ref3_Rigids_r2 S_ref3_Rigids_b1) (.seq S_ref3_Rigids_r6 .ret))))
theorem BS_ref3_Rigids : Try.f132.body.bind stripC = some S_ref3_Rigids := by kernel_rfl
/-! ref2_digit: function 149, 9 temporaries. -/
def S_ref2_digit_r0 : SC := .reg [⟨some 2, .assign (.const (.bool false)), none⟩]
def S_ref2_digit_r1 : SC := .reg [⟨some 3, .move (.tmp 0), none⟩,
  ⟨some 4, .binOp .geq 5 (.tmp 3) (.const (.int .u8 48)) 5, none⟩,
  ⟨some 5, .move (.tmp 4), none⟩,
  ⟨some 6, .move (.tmp 0), some (5, true)⟩,
  ⟨some 7, .binOp .leq 5 (.tmp 6) (.const (.int .u8 57)) 5, some (5, true)⟩,
  ⟨some 8, .pick (.tmp 5) (.tmp 7) (.const (.bool false)), none⟩,
  ⟨some 2, .assign (.tmp 8), none⟩]
def S_ref2_digit : SC := (.seq S_ref2_digit_r0 (.seq S_ref2_digit_r1 .ret))
theorem BS_ref2_digit : Try.f149.body.bind stripC = some S_ref2_digit := by kernel_rfl
end Go.Proofs.Ythfcfmkdeheicaa
