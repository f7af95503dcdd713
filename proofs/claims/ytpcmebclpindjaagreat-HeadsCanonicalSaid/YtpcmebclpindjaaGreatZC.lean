import Derived.Test.YtpcmebclpindjaaGreatJH
import Derived.Test.YtpcmebclpindjaaGreatZT
import Derived.Test.YtpcmebclpindjaaGreatRows
set_option linter.all false
namespace Go.Proofs.YtpcmebclpindjaaGreat
open Go.J
/-! law30_HeadsCanonical: function 3, 47 temporaries. -/
def S_law30_HeadsCanonical_r0 : SC := .reg [⟨some 4, .assign (.const (.bool false)), none⟩]
def S_law30_HeadsCanonical_r1 : SC := .reg [⟨some 8, .call ⟨.value (.func 13), #[], #[]⟩, none⟩,
  ⟨some 9, .unOp .not 4 (.tmp 8), none⟩]
def S_law30_HeadsCanonical_r2 : SC := .reg [⟨some 4, .assign (.const (.bool false)), none⟩]
def S_law30_HeadsCanonical_r3 : SC := .reg [⟨some 10, .move (.tmp 1), none⟩,
  ⟨some 11, .call ⟨.value (.func 14), #[(.tmp 10)], #[22]⟩, none⟩,
  ⟨some 12, .unOp .not 4 (.tmp 11), none⟩]
def S_law30_HeadsCanonical_r4 : SC := .reg [⟨some 4, .assign (.const (.bool true)), none⟩]
def S_law30_HeadsCanonical_r5 : SC := .reg [⟨some 13, .move (.tmp 1), none⟩,
  ⟨some 14, .build 27 #[(0, (.tmp 13))], none⟩,
  ⟨some 15, .box 27 (.tmp 14), none⟩,
  ⟨some 5, .assign (.tmp 15), none⟩]
def S_law30_HeadsCanonical_r6 : SC := .reg [⟨some 16, .move (.tmp 5), none⟩,
  ⟨some 17, .move (.tmp 0), none⟩,
  ⟨some 18, .call ⟨.value (.func 16), #[(.tmp 17)], #[3]⟩, none⟩,
  ⟨some 19, .call ⟨.value (.func 17), #[], #[]⟩, none⟩,
  ⟨some 20, .call ⟨.value (.func 15), #[(.tmp 16), (.tmp 18), (.tmp 19), (.const (.int .i64 3))], #[25, 32, 28, 3]⟩, none⟩,
  ⟨some 6, .alloc 30, none⟩,
  ⟨none, .store 30 (.tmp 6) (.tmp 20), none⟩]
def S_law30_HeadsCanonical_r7 : SC := .reg [⟨some 21, .move (.tmp 5), none⟩,
  ⟨some 22, .move (.tmp 0), none⟩,
  ⟨some 23, .call ⟨.value (.func 16), #[(.tmp 22)], #[3]⟩, none⟩,
  ⟨some 24, .call ⟨.value (.func 17), #[], #[]⟩, none⟩,
  ⟨some 25, .call ⟨.value (.func 15), #[(.tmp 21), (.tmp 23), (.tmp 24), (.const (.int .i64 2))], #[25, 32, 28, 3]⟩, none⟩,
  ⟨some 7, .alloc 30, none⟩,
  ⟨none, .store 30 (.tmp 7) (.tmp 25), none⟩]
def S_law30_HeadsCanonical_r8 : SC := .draw [⟨some 26, .load 30 (.tmp 6), none, [6]⟩,
  ⟨some 27, .load 30 (.tmp 7), none, [7]⟩,
  ⟨some 28, .buildSlice 28 2 #[(0, (.tmp 26)), (1, (.tmp 27))], none, [26, 27]⟩,
  ⟨some 29, .call ⟨.value (.func 19), #[(.tmp 28)], #[28]⟩, none, [28]⟩,
  ⟨some 30, .load 30 (.tmp 6), none, [6]⟩,
  ⟨some 31, .load 30 (.tmp 7), none, [7]⟩,
  ⟨some 32, .buildSlice 28 2 #[(0, (.tmp 30)), (1, (.tmp 31))], none, [30, 31]⟩,
  ⟨some 33, .call ⟨.value (.func 20), #[(.tmp 32)], #[28]⟩, none, [32]⟩,
  ⟨some 34, .call ⟨.value (.func 18), #[(.tmp 29), (.tmp 33)], #[28, 28]⟩, none, [29, 33]⟩,
  ⟨some 35, .move (.tmp 34), none, [34]⟩,
  ⟨some 36, .load 30 (.tmp 7), some (35, true), [7, 35]⟩,
  ⟨some 37, .load 30 (.tmp 6), some (35, true), [6, 35]⟩,
  ⟨some 38, .buildSlice 28 2 #[(0, (.tmp 36)), (1, (.tmp 37))], some (35, true), [36, 37, 35]⟩,
  ⟨some 39, .call ⟨.value (.func 19), #[(.tmp 38)], #[28]⟩, some (35, true), [38, 35]⟩,
  ⟨some 40, .call ⟨.value (.func 19), #[(.tmp 39)], #[28]⟩, some (35, true), [39, 35]⟩,
  ⟨some 41, .load 30 (.tmp 7), some (35, true), [7, 35]⟩,
  ⟨some 42, .load 30 (.tmp 6), some (35, true), [6, 35]⟩,
  ⟨some 43, .buildSlice 28 2 #[(0, (.tmp 41)), (1, (.tmp 42))], some (35, true), [41, 42, 35]⟩,
  ⟨some 44, .call ⟨.value (.func 20), #[(.tmp 43)], #[28]⟩, some (35, true), [43, 35]⟩,
  ⟨some 45, .call ⟨.value (.func 18), #[(.tmp 40), (.tmp 44)], #[28, 28]⟩, some (35, true), [40, 44, 35]⟩,
  ⟨some 46, .pick (.tmp 35) (.tmp 45) (.const (.bool false)), none, [35, 45]⟩,
  ⟨some 4, .assign (.tmp 46), none, [46]⟩] [0, 0, 3, 7, 0, 0, 48, 127, 255, 511, 1023, 1023, 4095, 8191, 16383, 1023, 1023, 99327, 262143, 524287, 1048575, 2097151]
def S_law30_HeadsCanonical : SC := (.seq S_law30_HeadsCanonical_r0 (.seq (.seq S_law30_HeadsCanonical_r1 (.cond (.tmp 9) (.seq S_law30_HeadsCanonical_r2 .ret) .skip)) (.seq (.seq S_law30_HeadsCanonical_r3 (.cond (.tmp 12) (.seq S_law30_HeadsCanonical_r4 .ret) .skip)) (.seq S_law30_HeadsCanonical_r5 (.seq S_law30_HeadsCanonical_r6 (.seq S_law30_HeadsCanonical_r7 (.seq S_law30_HeadsCanonical_r8 .ret)))))))
theorem BS_law30_HeadsCanonical : Tryz.f3.body.bind stripC = some S_law30_HeadsCanonical := by kernel_rfl
/-! make_Few: function 14, 6 temporaries. -/
def S_make_Few_r0 : SC := .reg [⟨some 2, .assign (.const (.bool false)), none⟩]
def S_make_Few_r1 : SC := .reg [⟨some 3, .move (.tmp 0), none⟩,
  ⟨some 4, .call ⟨.builtin .len, #[(.tmp 3)], #[22]⟩, none⟩,
  ⟨some 5, .binOp .leq 3 (.tmp 4) (.const (.int .i64 60)) 3, none⟩,
  ⟨some 2, .assign (.tmp 5), none⟩]
def S_make_Few : SC := (.seq S_make_Few_r0 (.seq S_make_Few_r1 .ret))
theorem BS_make_Few : Tryz.f14.body.bind stripC = some S_make_Few := by kernel_rfl
/-! make_Tape_Type: function 15, 95 temporaries. -/
def S_make_Tape_Type_r0 : SC := .reg [⟨some 8, .alloc 30, none⟩]
def S_make_Tape_Type_r1 : SC := .reg [⟨some 14, .move (.tmp 0), none⟩,
  ⟨some 15, .call ⟨.value (.func 55), #[(.tmp 14), (.const (.int .i64 7))], #[25, 3]⟩, none⟩,
  ⟨some 9, .assign (.tmp 15), none⟩]
def S_make_Tape_Type_r2 : SC := .reg [⟨some 17, .move (.tmp 9), none⟩,
  ⟨some 18, .binOp .lss 3 (.tmp 17) (.const (.int .i64 3)) 3, none⟩,
  ⟨some 19, .move (.tmp 18), none⟩,
  ⟨some 20, .move (.tmp 2), some (19, true)⟩,
  ⟨some 21, .call ⟨.builtin .len, #[(.tmp 20)], #[28]⟩, some (19, true)⟩,
  ⟨some 22, .binOp .gtr 3 (.tmp 21) (.const (.int .i64 0)) 3, some (19, true)⟩,
  ⟨some 23, .pick (.tmp 19) (.tmp 22) (.const (.bool false)), none⟩,
  ⟨some 16, .assign (.tmp 23), none⟩]
def S_make_Tape_Type_r3 : SC := .reg [⟨some 24, .move (.tmp 2), none⟩,
  ⟨some 25, .move (.tmp 0), none⟩,
  ⟨some 26, .move (.tmp 2), none⟩,
  ⟨some 27, .call ⟨.builtin .len, #[(.tmp 26)], #[28]⟩, none⟩,
  ⟨some 28, .call ⟨.value (.func 55), #[(.tmp 25), (.tmp 27)], #[25, 3]⟩, none⟩,
  ⟨some 29, .indexAddr 28 (.tmp 24) (.tmp 28), none⟩,
  ⟨some 30, .load 30 (.tmp 29), none⟩,
  ⟨none, .store 30 (.tmp 8) (.tmp 30), none⟩]
def S_make_Tape_Type_r4 : SC := .reg [⟨some 32, .move (.tmp 9), none⟩,
  ⟨some 33, .binOp .lss 3 (.tmp 32) (.const (.int .i64 4)) 3, none⟩,
  ⟨some 34, .move (.tmp 33), none⟩,
  ⟨some 35, .move (.tmp 3), some (34, false)⟩,
  ⟨some 36, .binOp .lss 3 (.tmp 35) (.const (.int .i64 1)) 3, some (34, false)⟩,
  ⟨some 37, .pick (.tmp 34) (.const (.bool true)) (.tmp 36), none⟩,
  ⟨some 31, .assign (.tmp 37), none⟩]
def S_make_Tape_Type_r5 : SC := .reg [⟨some 38, .call ⟨.value (.func 27), #[], #[]⟩, none⟩,
  ⟨none, .store 30 (.tmp 8) (.tmp 38), none⟩]
def S_make_Tape_Type_r6 : SC := .reg [⟨some 40, .move (.tmp 9), none⟩,
  ⟨some 41, .binOp .eql 3 (.tmp 40) (.const (.int .i64 4)) 3, none⟩,
  ⟨some 42, .move (.tmp 41), none⟩,
  ⟨some 43, .move (.tmp 1), some (42, true)⟩,
  ⟨some 44, .call ⟨.builtin .len, #[(.tmp 43)], #[32]⟩, some (42, true)⟩,
  ⟨some 45, .binOp .gtr 3 (.tmp 44) (.const (.int .i64 0)) 3, some (42, true)⟩,
  ⟨some 46, .pick (.tmp 42) (.tmp 45) (.const (.bool false)), none⟩,
  ⟨some 39, .assign (.tmp 46), none⟩]
def S_make_Tape_Type_r7 : SC := .reg [⟨some 47, .move (.tmp 9), none⟩,
  ⟨some 48, .binOp .eql 3 (.tmp 47) (.const (.int .i64 5)) 3, none⟩,
  ⟨some 49, .move (.tmp 48), none⟩,
  ⟨some 50, .move (.tmp 1), some (49, true)⟩,
  ⟨some 51, .call ⟨.builtin .len, #[(.tmp 50)], #[32]⟩, some (49, true)⟩,
  ⟨some 52, .binOp .gtr 3 (.tmp 51) (.const (.int .i64 0)) 3, some (49, true)⟩,
  ⟨some 53, .pick (.tmp 49) (.tmp 52) (.const (.bool false)), none⟩,
  ⟨some 39, .assign (.tmp 53), none⟩]
def S_make_Tape_Type_r8 : SC := .reg [⟨some 54, .move (.tmp 1), none⟩,
  ⟨some 55, .move (.tmp 0), none⟩,
  ⟨some 56, .move (.tmp 1), none⟩,
  ⟨some 57, .call ⟨.builtin .len, #[(.tmp 56)], #[32]⟩, none⟩,
  ⟨some 58, .call ⟨.value (.func 55), #[(.tmp 55), (.tmp 57)], #[25, 3]⟩, none⟩,
  ⟨some 59, .indexAddr 32 (.tmp 54) (.tmp 58), none⟩,
  ⟨some 60, .load 95 (.tmp 59), none⟩,
  ⟨some 10, .alloc 95, none⟩,
  ⟨none, .store 95 (.tmp 10) (.tmp 60), none⟩]
def S_make_Tape_Type_r9 : SC := .reg [⟨some 11, .assign (.const (.slice none 0 0)), none⟩]
def S_make_Tape_Type_r10 : SC := .reg [⟨some 12, .assign (.const (.int .i64 0)), none⟩]
def S_make_Tape_Type_r11 : SC := .reg [⟨some 61, .move (.tmp 12), none⟩,
  ⟨some 62, .fieldAddr 95 (.tmp 10) 2, none⟩,
  ⟨some 63, .load 41 (.tmp 62), none⟩,
  ⟨some 64, .call ⟨.builtin .len, #[(.tmp 63)], #[41]⟩, none⟩,
  ⟨some 65, .binOp .lss 3 (.tmp 61) (.tmp 64) 3, none⟩]
def S_make_Tape_Type_r12 : SC := .reg [⟨some 68, .move (.tmp 11), none⟩,
  ⟨some 69, .move (.tmp 0), none⟩,
  ⟨some 70, .move (.tmp 1), none⟩,
  ⟨some 71, .move (.tmp 2), none⟩,
  ⟨some 72, .move (.tmp 3), none⟩,
  ⟨some 73, .binOp .sub 3 (.tmp 72) (.const (.int .i64 1)) 3, none⟩,
  ⟨some 74, .call ⟨.value (.func 15), #[(.tmp 69), (.tmp 70), (.tmp 71), (.tmp 73)], #[25, 32, 28, 3]⟩, none⟩,
  ⟨some 75, .buildSlice 28 1 #[(0, (.tmp 74))], none⟩,
  ⟨some 76, .call ⟨.builtin .append, #[(.tmp 68), (.tmp 75)], #[28, 28]⟩, none⟩,
  ⟨some 11, .assign (.tmp 76), none⟩]
def S_make_Tape_Type_b0 : SC := .block 2 S_make_Tape_Type_r12
def S_make_Tape_Type_r13 : SC := .reg [⟨some 66, .move (.tmp 12), none⟩,
  ⟨some 67, .binOp .add 3 (.tmp 66) (.const (.int .i64 1)) 3, none⟩,
  ⟨some 12, .assign (.tmp 67), none⟩]
def S_make_Tape_Type_l0 : SC := (.seq (.seq S_make_Tape_Type_r11 (.cond (.tmp 65) .skip (.exit 1))) (.seq S_make_Tape_Type_b0 S_make_Tape_Type_r13))
def S_make_Tape_Type_b1 : SC := .block 1 (.loop S_make_Tape_Type_l0)
def S_make_Tape_Type_r14 : SC := .reg [⟨some 77, .fieldAddr 95 (.tmp 10) 1, none⟩,
  ⟨some 78, .load 9 (.tmp 77), none⟩,
  ⟨some 79, .move (.tmp 11), none⟩,
  ⟨some 80, .call ⟨.value (.func 56), #[(.tmp 78), (.tmp 79)], #[9, 28]⟩, none⟩,
  ⟨none, .store 30 (.tmp 8) (.tmp 80), none⟩]
def S_make_Tape_Type_b2 : SC := .block 0 (.seq S_make_Tape_Type_r2 (.cond (.tmp 16) (.seq S_make_Tape_Type_r3 .ret) (.seq S_make_Tape_Type_r4 (.cond (.tmp 31) (.seq S_make_Tape_Type_r5 .ret) (.seq (.seq S_make_Tape_Type_r6 (.cond (.tmp 39) .skip S_make_Tape_Type_r7)) (.cond (.tmp 39) (.seq S_make_Tape_Type_r8 (.seq S_make_Tape_Type_r9 (.seq (.seq S_make_Tape_Type_r10 S_make_Tape_Type_b1) (.seq S_make_Tape_Type_r14 .ret)))) .skip))))))
def S_make_Tape_Type_r15 : SC := .reg [⟨some 81, .move (.tmp 0), none⟩,
  ⟨some 82, .move (.tmp 1), none⟩,
  ⟨some 83, .move (.tmp 2), none⟩,
  ⟨some 84, .move (.tmp 3), none⟩,
  ⟨some 85, .binOp .sub 3 (.tmp 84) (.const (.int .i64 1)) 3, none⟩,
  ⟨some 86, .call ⟨.value (.func 15), #[(.tmp 81), (.tmp 82), (.tmp 83), (.tmp 85)], #[25, 32, 28, 3]⟩, none⟩,
  ⟨some 13, .alloc 30, none⟩,
  ⟨none, .store 30 (.tmp 13) (.tmp 86), none⟩]
def S_make_Tape_Type_r16 : SC := .draw [⟨some 87, .load 30 (.tmp 13), none, [13]⟩,
  ⟨some 88, .move (.tmp 0), none, [0]⟩,
  ⟨some 89, .move (.tmp 1), none, [1]⟩,
  ⟨some 90, .move (.tmp 2), none, [2]⟩,
  ⟨some 91, .move (.tmp 3), none, [3]⟩,
  ⟨some 92, .binOp .sub 3 (.tmp 91) (.const (.int .i64 1)) 3, none, [91]⟩,
  ⟨some 93, .call ⟨.value (.func 15), #[(.tmp 88), (.tmp 89), (.tmp 90), (.tmp 92)], #[25, 32, 28, 3]⟩, none, [88, 89, 90, 92]⟩,
  ⟨some 94, .call ⟨.value (.func 42), #[(.tmp 87), (.tmp 93)], #[30, 30]⟩, none, [87, 93]⟩,
  ⟨none, .store 30 (.tmp 8) (.tmp 94), none, [8, 94]⟩] [0, 0, 0, 0, 0, 16, 62, 127, 255]
def S_make_Tape_Type : SC := (.seq S_make_Tape_Type_r0 (.seq S_make_Tape_Type_r1 (.seq S_make_Tape_Type_b2 (.seq S_make_Tape_Type_r15 (.seq S_make_Tape_Type_r16 .ret)))))
theorem BS_make_Tape_Type : Tryz.f15.body.bind stripC = some S_make_Tape_Type := by kernel_rfl
/-! make_Datas: function 16, 45 temporaries. -/
def S_make_Datas_r0 : SC := .reg [⟨some 2, .assign (.const (.slice none 0 0)), none⟩]
def S_make_Datas_r1 : SC := .reg [⟨some 6, .call ⟨.value (.func 57), #[], #[]⟩, none⟩,
  ⟨some 3, .assign (.tmp 6), none⟩]
def S_make_Datas_r2 : SC := .reg [⟨some 4, .assign (.const (.slice none 0 0)), none⟩]
def S_make_Datas_r3 : SC := .reg [⟨some 7, .move (.tmp 0), none⟩,
  ⟨some 8, .binOp .and 3 (.tmp 7) (.const (.int .i64 2)) 3, none⟩,
  ⟨some 9, .binOp .neq 3 (.tmp 8) (.const (.int .i64 0)) 3, none⟩,
  ⟨some 10, .move (.tmp 9), none⟩,
  ⟨some 11, .move (.tmp 0), some (10, false)⟩,
  ⟨some 12, .binOp .and 3 (.tmp 11) (.const (.int .i64 64)) 3, some (10, false)⟩,
  ⟨some 13, .binOp .neq 3 (.tmp 12) (.const (.int .i64 0)) 3, some (10, false)⟩,
  ⟨some 14, .pick (.tmp 10) (.const (.bool true)) (.tmp 13), none⟩]
def S_make_Datas_r4 : SC := .reg [⟨some 15, .move (.tmp 4), none⟩,
  ⟨some 16, .move (.tmp 3), none⟩,
  ⟨some 17, .indexAddr 32 (.tmp 16) (.const (.int .i64 1)), none⟩,
  ⟨some 18, .load 95 (.tmp 17), none⟩,
  ⟨some 19, .buildSlice 32 1 #[(0, (.tmp 18))], none⟩,
  ⟨some 20, .call ⟨.builtin .append, #[(.tmp 15), (.tmp 19)], #[32, 32]⟩, none⟩,
  ⟨some 4, .assign (.tmp 20), none⟩]
def S_make_Datas_r5 : SC := .reg [⟨some 5, .assign (.const (.int .i64 0)), none⟩]
def S_make_Datas_r6 : SC := .reg [⟨some 21, .move (.tmp 5), none⟩,
  ⟨some 22, .move (.tmp 3), none⟩,
  ⟨some 23, .call ⟨.builtin .len, #[(.tmp 22)], #[32]⟩, none⟩,
  ⟨some 24, .binOp .lss 3 (.tmp 21) (.tmp 23) 3, none⟩]
def S_make_Datas_r7 : SC := .reg [⟨some 27, .move (.tmp 5), none⟩,
  ⟨some 28, .binOp .neq 3 (.tmp 27) (.const (.int .i64 1)) 3, none⟩,
  ⟨some 29, .move (.tmp 28), none⟩,
  ⟨some 30, .move (.tmp 0), some (29, true)⟩,
  ⟨some 31, .move (.tmp 5), some (29, true)⟩,
  ⟨some 32, .convert 3 98 (.tmp 31), some (29, true)⟩,
  ⟨some 33, .binOp .shr 3 (.tmp 30) (.tmp 32) 98, some (29, true)⟩,
  ⟨some 34, .binOp .and 3 (.tmp 33) (.const (.int .i64 1)) 3, some (29, true)⟩,
  ⟨some 35, .binOp .eql 3 (.tmp 34) (.const (.int .i64 1)) 3, some (29, true)⟩,
  ⟨some 36, .pick (.tmp 29) (.tmp 35) (.const (.bool false)), none⟩]
def S_make_Datas_r8 : SC := .reg [⟨some 37, .move (.tmp 4), none⟩,
  ⟨some 38, .move (.tmp 3), none⟩,
  ⟨some 39, .move (.tmp 5), none⟩,
  ⟨some 40, .indexAddr 32 (.tmp 38) (.tmp 39), none⟩,
  ⟨some 41, .load 95 (.tmp 40), none⟩,
  ⟨some 42, .buildSlice 32 1 #[(0, (.tmp 41))], none⟩,
  ⟨some 43, .call ⟨.builtin .append, #[(.tmp 37), (.tmp 42)], #[32, 32]⟩, none⟩,
  ⟨some 4, .assign (.tmp 43), none⟩]
def S_make_Datas_b0 : SC := .block 1 (.seq S_make_Datas_r7 (.cond (.tmp 36) S_make_Datas_r8 .skip))
def S_make_Datas_r9 : SC := .reg [⟨some 25, .move (.tmp 5), none⟩,
  ⟨some 26, .binOp .add 3 (.tmp 25) (.const (.int .i64 1)) 3, none⟩,
  ⟨some 5, .assign (.tmp 26), none⟩]
def S_make_Datas_l0 : SC := (.seq (.seq S_make_Datas_r6 (.cond (.tmp 24) .skip (.exit 0))) (.seq S_make_Datas_b0 S_make_Datas_r9))
def S_make_Datas_b1 : SC := .block 0 (.loop S_make_Datas_l0)
def S_make_Datas_r10 : SC := .reg [⟨some 44, .move (.tmp 4), none⟩,
  ⟨some 2, .assign (.tmp 44), none⟩]
def S_make_Datas : SC := (.seq S_make_Datas_r0 (.seq S_make_Datas_r1 (.seq S_make_Datas_r2 (.seq (.seq S_make_Datas_r3 (.cond (.tmp 14) S_make_Datas_r4 .skip)) (.seq (.seq S_make_Datas_r5 S_make_Datas_b1) (.seq S_make_Datas_r10 .ret))))))
theorem BS_make_Datas : Tryz.f16.body.bind stripC = some S_make_Datas := by kernel_rfl
/-! ref3_EqualAll: function 18, 27 temporaries. -/
def S_ref3_EqualAll_r0 : SC := .reg [⟨some 4, .assign (.const (.bool false)), none⟩]
def S_ref3_EqualAll_r1 : SC := .reg [⟨some 6, .move (.tmp 0), none⟩,
  ⟨some 7, .call ⟨.builtin .len, #[(.tmp 6)], #[28]⟩, none⟩,
  ⟨some 8, .move (.tmp 1), none⟩,
  ⟨some 9, .call ⟨.builtin .len, #[(.tmp 8)], #[28]⟩, none⟩,
  ⟨some 10, .binOp .neq 3 (.tmp 7) (.tmp 9) 3, none⟩]
def S_ref3_EqualAll_r2 : SC := .reg [⟨some 4, .assign (.const (.bool false)), none⟩]
def S_ref3_EqualAll_r3 : SC := .reg [⟨some 5, .assign (.const (.int .i64 0)), none⟩]
def S_ref3_EqualAll_r4 : SC := .reg [⟨some 11, .move (.tmp 5), none⟩,
  ⟨some 12, .move (.tmp 0), none⟩,
  ⟨some 13, .call ⟨.builtin .len, #[(.tmp 12)], #[28]⟩, none⟩,
  ⟨some 14, .binOp .lss 3 (.tmp 11) (.tmp 13) 3, none⟩]
def S_ref3_EqualAll_r5 : SC := .draw [⟨some 17, .move (.tmp 0), none, [0]⟩,
  ⟨some 18, .move (.tmp 5), none, [5]⟩,
  ⟨some 19, .indexAddr 28 (.tmp 17) (.tmp 18), none, [17, 18]⟩,
  ⟨some 20, .load 30 (.tmp 19), none, [19]⟩,
  ⟨some 21, .move (.tmp 1), none, [1]⟩,
  ⟨some 22, .move (.tmp 5), none, [5]⟩,
  ⟨some 23, .indexAddr 28 (.tmp 21) (.tmp 22), none, [21, 22]⟩,
  ⟨some 24, .load 30 (.tmp 23), none, [23]⟩,
  ⟨some 25, .call ⟨.value (.func 54), #[(.tmp 20), (.tmp 24)], #[30, 30]⟩, none, [20, 24]⟩,
  ⟨some 26, .unOp .not 4 (.tmp 25), none, [25]⟩] [0, 0, 3, 7, 0, 0, 48, 112, 255, 511]
def S_ref3_EqualAll_r6 : SC := .reg [⟨some 4, .assign (.const (.bool false)), none⟩]
def S_ref3_EqualAll_b0 : SC := .block 1 (.seq S_ref3_EqualAll_r5 (.cond (.tmp 26) (.seq S_ref3_EqualAll_r6 .ret) .skip))
def S_ref3_EqualAll_r7 : SC := .reg [⟨some 15, .move (.tmp 5), none⟩,
  ⟨some 16, .binOp .add 3 (.tmp 15) (.const (.int .i64 1)) 3, none⟩,
  ⟨some 5, .assign (.tmp 16), none⟩]
def S_ref3_EqualAll_l0 : SC := (.seq (.seq S_ref3_EqualAll_r4 (.cond (.tmp 14) .skip (.exit 0))) (.seq S_ref3_EqualAll_b0 S_ref3_EqualAll_r7))
def S_ref3_EqualAll_b1 : SC := .block 0 (.loop S_ref3_EqualAll_l0)
def S_ref3_EqualAll_r8 : SC := .reg [⟨some 4, .assign (.const (.bool true)), none⟩]
def S_ref3_EqualAll : SC := (.seq S_ref3_EqualAll_r0 (.seq (.seq S_ref3_EqualAll_r1 (.cond (.tmp 10) (.seq S_ref3_EqualAll_r2 .ret) .skip)) (.seq (.seq S_ref3_EqualAll_r3 S_ref3_EqualAll_b1) (.seq S_ref3_EqualAll_r8 .ret))))
theorem BS_ref3_EqualAll : Tryz.f18.body.bind stripC = some S_ref3_EqualAll := by kernel_rfl
/-! heads_Canonical: function 19, 43 temporaries. -/
def S_heads_Canonical_r0 : SC := .reg [⟨some 2, .assign (.const (.slice none 0 0)), none⟩]
def S_heads_Canonical_r1 : SC := .reg [⟨some 3, .assign (.const (.slice none 0 0)), none⟩]
def S_heads_Canonical_r2 : SC := .reg [⟨some 9, .move (.tmp 0), none⟩,
  ⟨some 10, .call ⟨.value (.func 58), #[(.tmp 9)], #[28]⟩, none⟩,
  ⟨some 11, .call ⟨.builtin .len, #[(.tmp 10)], #[22]⟩, none⟩,
  ⟨some 12, .move (.const (.int .i64 0)), none⟩]
def S_heads_Canonical_r3 : SC := .reg [⟨some 13, .binOp .lss 3 (.tmp 12) (.tmp 11) 3, none⟩]
def S_heads_Canonical_r4 : SC := .reg [⟨some 14, .move (.tmp 12), none⟩,
  ⟨some 15, .indexAddr 22 (.tmp 10) (.tmp 12), none⟩,
  ⟨some 16, .load 3 (.tmp 15), none⟩,
  ⟨some 4, .assign (.tmp 14), none⟩,
  ⟨some 5, .assign (.tmp 16), none⟩]
def S_heads_Canonical_r5 : SC := .reg [⟨some 17, .move (.tmp 3), none⟩,
  ⟨some 18, .move (.tmp 5), none⟩,
  ⟨some 19, .move (.tmp 4), none⟩,
  ⟨some 20, .call ⟨.value (.func 59), #[(.tmp 19)], #[3]⟩, none⟩,
  ⟨some 21, .build 101 #[(0, (.tmp 18)), (1, (.tmp 20))], none⟩,
  ⟨some 22, .buildSlice 80 1 #[(0, (.tmp 21))], none⟩,
  ⟨some 23, .call ⟨.builtin .append, #[(.tmp 17), (.tmp 22)], #[80, 80]⟩, none⟩,
  ⟨some 3, .assign (.tmp 23), none⟩]
def S_heads_Canonical_b0 : SC := .block 1 (.seq S_heads_Canonical_r4 S_heads_Canonical_r5)
def S_heads_Canonical_r6 : SC := .reg [⟨some 24, .binOp .add 3 (.tmp 12) (.const (.int .i64 1)) 3, none⟩,
  ⟨some 12, .move (.tmp 24), none⟩]
def S_heads_Canonical_l0 : SC := (.seq S_heads_Canonical_r3 (.seq (.cond (.tmp 13) .skip (.exit 0)) (.seq S_heads_Canonical_b0 S_heads_Canonical_r6)))
def S_heads_Canonical_b1 : SC := .block 0 (.loop S_heads_Canonical_l0)
def S_heads_Canonical_r7 : SC := .reg [⟨some 25, .move (.tmp 0), none⟩,
  ⟨some 26, .call ⟨.builtin .len, #[(.tmp 25)], #[28]⟩, none⟩,
  ⟨some 27, .makeSlice 28 (.tmp 26) (.tmp 26), none⟩,
  ⟨some 6, .assign (.tmp 27), none⟩]
def S_heads_Canonical_r8 : SC := .reg [⟨some 28, .move (.tmp 0), none⟩,
  ⟨some 29, .call ⟨.builtin .len, #[(.tmp 28)], #[28]⟩, none⟩,
  ⟨some 30, .move (.const (.int .i64 0)), none⟩]
def S_heads_Canonical_r9 : SC := .reg [⟨some 31, .binOp .lss 3 (.tmp 30) (.tmp 29) 3, none⟩]
def S_heads_Canonical_r10 : SC := .reg [⟨some 32, .move (.tmp 30), none⟩,
  ⟨some 33, .indexAddr 28 (.tmp 28) (.tmp 30), none⟩,
  ⟨some 34, .load 30 (.tmp 33), none⟩,
  ⟨some 8, .alloc 30, none⟩,
  ⟨some 7, .assign (.tmp 32), none⟩,
  ⟨none, .store 30 (.tmp 8) (.tmp 34), none⟩]
def S_heads_Canonical_r11 : SC := .reg [⟨some 35, .move (.tmp 6), none⟩,
  ⟨some 36, .move (.tmp 7), none⟩,
  ⟨some 37, .load 30 (.tmp 8), none⟩,
  ⟨some 38, .move (.tmp 3), none⟩,
  ⟨some 39, .call ⟨.value (.func 60), #[(.tmp 37), (.tmp 38)], #[30, 80]⟩, none⟩,
  ⟨some 40, .indexAddr 28 (.tmp 35) (.tmp 36), none⟩,
  ⟨none, .store 30 (.tmp 40) (.tmp 39), none⟩]
def S_heads_Canonical_b2 : SC := .block 3 (.seq S_heads_Canonical_r10 S_heads_Canonical_r11)
def S_heads_Canonical_r12 : SC := .reg [⟨some 41, .binOp .add 3 (.tmp 30) (.const (.int .i64 1)) 3, none⟩,
  ⟨some 30, .move (.tmp 41), none⟩]
def S_heads_Canonical_l1 : SC := (.seq S_heads_Canonical_r9 (.seq (.cond (.tmp 31) .skip (.exit 2)) (.seq S_heads_Canonical_b2 S_heads_Canonical_r12)))
def S_heads_Canonical_b3 : SC := .block 2 (.loop S_heads_Canonical_l1)
def S_heads_Canonical_r13 : SC := .reg [⟨some 42, .move (.tmp 6), none⟩,
  ⟨some 2, .assign (.tmp 42), none⟩]
def S_heads_Canonical : SC := (.seq S_heads_Canonical_r0 (.seq S_heads_Canonical_r1 (.seq (.seq S_heads_Canonical_r2 S_heads_Canonical_b1) (.seq S_heads_Canonical_r7 (.seq (.seq S_heads_Canonical_r8 S_heads_Canonical_b3) (.seq S_heads_Canonical_r13 .ret))))))
theorem BS_heads_Canonical : Tryz.f19.body.bind stripC = some S_heads_Canonical := by kernel_rfl
/-! ref30_Canonical: function 20, 42 temporaries. -/
def S_ref30_Canonical_r0 : SC := .reg [⟨some 2, .assign (.const (.slice none 0 0)), none⟩]
def S_ref30_Canonical_r1 : SC := .reg [⟨some 8, .move (.tmp 0), none⟩,
  ⟨some 9, .call ⟨.value (.func 61), #[(.tmp 8)], #[28]⟩, none⟩,
  ⟨some 3, .assign (.tmp 9), none⟩]
def S_ref30_Canonical_r2 : SC := .reg [⟨some 4, .assign (.const (.slice none 0 0)), none⟩]
def S_ref30_Canonical_r3 : SC := .reg [⟨some 5, .assign (.const (.int .i64 0)), none⟩]
def S_ref30_Canonical_r4 : SC := .reg [⟨some 10, .move (.tmp 5), none⟩,
  ⟨some 11, .move (.tmp 3), none⟩,
  ⟨some 12, .call ⟨.builtin .len, #[(.tmp 11)], #[22]⟩, none⟩,
  ⟨some 13, .binOp .lss 3 (.tmp 10) (.tmp 12) 3, none⟩]
def S_ref30_Canonical_r5 : SC := .draw [⟨some 16, .move (.tmp 4), none, [4]⟩,
  ⟨some 17, .move (.tmp 3), none, [3]⟩,
  ⟨some 18, .move (.tmp 5), none, [5]⟩,
  ⟨some 19, .indexAddr 22 (.tmp 17) (.tmp 18), none, [17, 18]⟩,
  ⟨some 20, .load 3 (.tmp 19), none, [19]⟩,
  ⟨some 21, .move (.tmp 5), none, [5]⟩,
  ⟨some 22, .call ⟨.value (.func 26), #[(.tmp 21)], #[3]⟩, none, [21]⟩,
  ⟨some 23, .build 101 #[(0, (.tmp 20)), (1, (.tmp 22))], none, [20, 22]⟩,
  ⟨some 24, .buildSlice 80 1 #[(0, (.tmp 23))], none, [23]⟩,
  ⟨some 25, .call ⟨.builtin .append, #[(.tmp 16), (.tmp 24)], #[80, 80]⟩, none, [16, 24]⟩,
  ⟨some 4, .assign (.tmp 25), none, [25]⟩] [0, 0, 0, 6, 14, 0, 32, 126, 254, 511, 1023]
def S_ref30_Canonical_b0 : SC := .block 1 S_ref30_Canonical_r5
def S_ref30_Canonical_r6 : SC := .reg [⟨some 14, .move (.tmp 5), none⟩,
  ⟨some 15, .binOp .add 3 (.tmp 14) (.const (.int .i64 1)) 3, none⟩,
  ⟨some 5, .assign (.tmp 15), none⟩]
def S_ref30_Canonical_l0 : SC := (.seq (.seq S_ref30_Canonical_r4 (.cond (.tmp 13) .skip (.exit 0))) (.seq S_ref30_Canonical_b0 S_ref30_Canonical_r6))
def S_ref30_Canonical_b1 : SC := .block 0 (.loop S_ref30_Canonical_l0)
def S_ref30_Canonical_r7 : SC := .reg [⟨some 6, .assign (.const (.slice none 0 0)), none⟩]
def S_ref30_Canonical_r8 : SC := .reg [⟨some 7, .assign (.const (.int .i64 0)), none⟩]
def S_ref30_Canonical_r9 : SC := .reg [⟨some 26, .move (.tmp 7), none⟩,
  ⟨some 27, .move (.tmp 0), none⟩,
  ⟨some 28, .call ⟨.builtin .len, #[(.tmp 27)], #[28]⟩, none⟩,
  ⟨some 29, .binOp .lss 3 (.tmp 26) (.tmp 28) 3, none⟩]
def S_ref30_Canonical_r10 : SC := .reg [⟨some 32, .move (.tmp 6), none⟩,
  ⟨some 33, .move (.tmp 0), none⟩,
  ⟨some 34, .move (.tmp 7), none⟩,
  ⟨some 35, .indexAddr 28 (.tmp 33) (.tmp 34), none⟩,
  ⟨some 36, .load 30 (.tmp 35), none⟩,
  ⟨some 37, .move (.tmp 4), none⟩,
  ⟨some 38, .call ⟨.value (.func 62), #[(.tmp 36), (.tmp 37)], #[30, 80]⟩, none⟩,
  ⟨some 39, .buildSlice 28 1 #[(0, (.tmp 38))], none⟩,
  ⟨some 40, .call ⟨.builtin .append, #[(.tmp 32), (.tmp 39)], #[28, 28]⟩, none⟩,
  ⟨some 6, .assign (.tmp 40), none⟩]
def S_ref30_Canonical_b2 : SC := .block 3 S_ref30_Canonical_r10
def S_ref30_Canonical_r11 : SC := .reg [⟨some 30, .move (.tmp 7), none⟩,
  ⟨some 31, .binOp .add 3 (.tmp 30) (.const (.int .i64 1)) 3, none⟩,
  ⟨some 7, .assign (.tmp 31), none⟩]
def S_ref30_Canonical_l1 : SC := (.seq (.seq S_ref30_Canonical_r9 (.cond (.tmp 29) .skip (.exit 2))) (.seq S_ref30_Canonical_b2 S_ref30_Canonical_r11))
def S_ref30_Canonical_b3 : SC := .block 2 (.loop S_ref30_Canonical_l1)
def S_ref30_Canonical_r12 : SC := .reg [⟨some 41, .move (.tmp 6), none⟩,
  ⟨some 2, .assign (.tmp 41), none⟩]
def S_ref30_Canonical : SC := (.seq S_ref30_Canonical_r0 (.seq S_ref30_Canonical_r1 (.seq S_ref30_Canonical_r2 (.seq (.seq S_ref30_Canonical_r3 S_ref30_Canonical_b1) (.seq S_ref30_Canonical_r7 (.seq (.seq S_ref30_Canonical_r8 S_ref30_Canonical_b3) (.seq S_ref30_Canonical_r12 .ret)))))))
theorem BS_ref30_Canonical : Tryz.f20.body.bind stripC = some S_ref30_Canonical := by kernel_rfl
/-! make_Mod: function 24, 16 temporaries. -/
def S_make_Mod_r0 : SC := .reg [⟨some 4, .assign (.const (.int .i64 0)), none⟩]
def S_make_Mod_r1 : SC := .reg [⟨some 5, .move (.tmp 1), none⟩,
  ⟨some 6, .binOp .lss 3 (.tmp 5) (.const (.int .i64 1)) 3, none⟩]
def S_make_Mod_r2 : SC := .reg [⟨some 4, .assign (.const (.int .i64 0)), none⟩]
def S_make_Mod_r3 : SC := .reg [⟨some 7, .move (.tmp 0), none⟩,
  ⟨some 8, .move (.tmp 1), none⟩,
  ⟨some 9, .binOp .rem 3 (.tmp 7) (.tmp 8) 3, none⟩,
  ⟨some 0, .assign (.tmp 9), none⟩]
def S_make_Mod_r4 : SC := .reg [⟨some 10, .move (.tmp 0), none⟩,
  ⟨some 11, .binOp .lss 3 (.tmp 10) (.const (.int .i64 0)) 3, none⟩]
def S_make_Mod_r5 : SC := .reg [⟨some 12, .move (.tmp 0), none⟩,
  ⟨some 13, .move (.tmp 1), none⟩,
  ⟨some 14, .binOp .add 3 (.tmp 12) (.tmp 13) 3, none⟩,
  ⟨some 0, .assign (.tmp 14), none⟩]
def S_make_Mod_r6 : SC := .reg [⟨some 15, .move (.tmp 0), none⟩,
  ⟨some 4, .assign (.tmp 15), none⟩]
def S_make_Mod : SC := (.seq S_make_Mod_r0 (.seq (.seq S_make_Mod_r1 (.cond (.tmp 6) (.seq S_make_Mod_r2 .ret) .skip)) (.seq S_make_Mod_r3 (.seq (.seq S_make_Mod_r4 (.cond (.tmp 11) S_make_Mod_r5 .skip)) (.seq S_make_Mod_r6 .ret)))))
theorem BS_make_Mod : Tryz.f24.body.bind stripC = some S_make_Mod := by kernel_rfl
/-! make_Vars: function 25, 16 temporaries. -/
def S_make_Vars_r0 : SC := .reg [⟨some 2, .assign (.const (.slice none 0 0)), none⟩]
def S_make_Vars_r1 : SC := .reg [⟨some 3, .assign (.const (.slice none 0 0)), none⟩]
def S_make_Vars_r2 : SC := .reg [⟨some 4, .assign (.const (.int .i64 0)), none⟩]
def S_make_Vars_r3 : SC := .reg [⟨some 5, .move (.tmp 4), none⟩,
  ⟨some 6, .move (.tmp 0), none⟩,
  ⟨some 7, .binOp .lss 3 (.tmp 5) (.tmp 6) 3, none⟩]
def S_make_Vars_r4 : SC := .reg [⟨some 10, .move (.tmp 3), none⟩,
  ⟨some 11, .move (.tmp 4), none⟩,
  ⟨some 12, .call ⟨.value (.func 26), #[(.tmp 11)], #[3]⟩, none⟩,
  ⟨some 13, .buildSlice 28 1 #[(0, (.tmp 12))], none⟩,
  ⟨some 14, .call ⟨.builtin .append, #[(.tmp 10), (.tmp 13)], #[28, 28]⟩, none⟩,
  ⟨some 3, .assign (.tmp 14), none⟩]
def S_make_Vars_b0 : SC := .block 1 S_make_Vars_r4
def S_make_Vars_r5 : SC := .reg [⟨some 8, .move (.tmp 4), none⟩,
  ⟨some 9, .binOp .add 3 (.tmp 8) (.const (.int .i64 1)) 3, none⟩,
  ⟨some 4, .assign (.tmp 9), none⟩]
def S_make_Vars_l0 : SC := (.seq (.seq S_make_Vars_r3 (.cond (.tmp 7) .skip (.exit 0))) (.seq S_make_Vars_b0 S_make_Vars_r5))
def S_make_Vars_b1 : SC := .block 0 (.loop S_make_Vars_l0)
def S_make_Vars_r6 : SC := .reg [⟨some 15, .move (.tmp 3), none⟩,
  ⟨some 2, .assign (.tmp 15), none⟩]
def S_make_Vars : SC := (.seq S_make_Vars_r0 (.seq S_make_Vars_r1 (.seq (.seq S_make_Vars_r2 S_make_Vars_b1) (.seq S_make_Vars_r6 .ret))))
theorem BS_make_Vars : Tryz.f25.body.bind stripC = some S_make_Vars := by kernel_rfl
/-! ref3_Var: function 26, 5 temporaries. -/
def S_ref3_Var_r0 : SC := .reg [⟨some 2, .alloc 30, none⟩]
def S_ref3_Var_r1 : SC := .reg [⟨some 3, .move (.tmp 0), none⟩,
  ⟨some 4, .build 30 #[(0, (.const (.int .i64 1))), (2, (.tmp 3))], none⟩,
  ⟨none, .store 30 (.tmp 2) (.tmp 4), none⟩]
def S_ref3_Var : SC := (.seq S_ref3_Var_r0 (.seq S_ref3_Var_r1 .ret))
theorem BS_ref3_Var : Tryz.f26.body.bind stripC = some S_ref3_Var := by kernel_rfl
/-! ref3_Int: function 27, 2 temporaries. -/
def S_ref3_Int_r0 : SC := .reg [⟨some 0, .alloc 30, none⟩]
def S_ref3_Int_r1 : SC := .reg [⟨some 1, .call ⟨.value (.func 56), #[(.const (.string ⟨#[73, 110, 116]⟩)), (.const (.slice none 0 0))], #[9, 28]⟩, none⟩,
  ⟨none, .store 30 (.tmp 0) (.tmp 1), none⟩]
def S_ref3_Int : SC := (.seq S_ref3_Int_r0 (.seq S_ref3_Int_r1 .ret))
theorem BS_ref3_Int : Tryz.f27.body.bind stripC = some S_ref3_Int := by kernel_rfl
/-! ref3_Rigid: function 28, 8 temporaries. -/
def S_ref3_Rigid_r0 : SC := .reg [⟨some 4, .alloc 30, none⟩]
def S_ref3_Rigid_r1 : SC := .reg [⟨some 5, .move (.tmp 0), none⟩,
  ⟨some 6, .move (.tmp 1), none⟩,
  ⟨some 7, .build 30 #[(0, (.const (.int .i64 3))), (3, (.tmp 5)), (2, (.tmp 6))], none⟩,
  ⟨none, .store 30 (.tmp 4) (.tmp 7), none⟩]
def S_ref3_Rigid : SC := (.seq S_ref3_Rigid_r0 (.seq S_ref3_Rigid_r1 .ret))
theorem BS_ref3_Rigid : Tryz.f28.body.bind stripC = some S_ref3_Rigid := by kernel_rfl
/-! ref3_Arrow: function 42, 9 temporaries. -/
def S_ref3_Arrow_r0 : SC := .reg [⟨some 2, .box 30 (.tmp 0), none⟩,
  ⟨some 3, .box 30 (.tmp 1), none⟩,
  ⟨some 4, .alloc 30, none⟩]
def S_ref3_Arrow_r1 : SC := .reg [⟨some 5, .load 30 (.tmp 2), none⟩,
  ⟨some 6, .load 30 (.tmp 3), none⟩,
  ⟨some 7, .buildSlice 28 2 #[(0, (.tmp 5)), (1, (.tmp 6))], none⟩,
  ⟨some 8, .call ⟨.value (.func 56), #[(.const (.string ⟨#[45, 62]⟩)), (.tmp 7)], #[9, 28]⟩, none⟩,
  ⟨none, .store 30 (.tmp 4) (.tmp 8), none⟩]
def S_ref3_Arrow : SC := (.seq S_ref3_Arrow_r0 (.seq S_ref3_Arrow_r1 .ret))
theorem BS_ref3_Arrow : Tryz.f42.body.bind stripC = some S_ref3_Arrow := by kernel_rfl
/-! ref3_Bound: function 53, 5 temporaries. -/
def S_ref3_Bound_r0 : SC := .reg [⟨some 2, .alloc 30, none⟩]
def S_ref3_Bound_r1 : SC := .reg [⟨some 3, .move (.tmp 0), none⟩,
  ⟨some 4, .build 30 #[(0, (.const (.int .i64 2))), (2, (.tmp 3))], none⟩,
  ⟨none, .store 30 (.tmp 2) (.tmp 4), none⟩]
def S_ref3_Bound : SC := (.seq S_ref3_Bound_r0 (.seq S_ref3_Bound_r1 .ret))
theorem BS_ref3_Bound : Tryz.f53.body.bind stripC = some S_ref3_Bound := by kernel_rfl
/-! ref3_Equal: function 54, 36 temporaries. -/
def S_ref3_Equal_r0 : SC := .reg [⟨some 2, .box 30 (.tmp 0), none⟩,
  ⟨some 3, .box 30 (.tmp 1), none⟩,
  ⟨some 4, .assign (.const (.bool false)), none⟩]
def S_ref3_Equal_r1 : SC := .reg [⟨some 5, .fieldAddr 30 (.tmp 2) 0, none⟩,
  ⟨some 6, .load 3 (.tmp 5), none⟩,
  ⟨some 7, .fieldAddr 30 (.tmp 3) 0, none⟩,
  ⟨some 8, .load 3 (.tmp 7), none⟩,
  ⟨some 9, .binOp .neq 3 (.tmp 6) (.tmp 8) 3, none⟩,
  ⟨some 10, .move (.tmp 9), none⟩,
  ⟨some 11, .fieldAddr 30 (.tmp 2) 1, some (10, false)⟩,
  ⟨some 12, .load 9 (.tmp 11), some (10, false)⟩,
  ⟨some 13, .fieldAddr 30 (.tmp 3) 1, some (10, false)⟩,
  ⟨some 14, .load 9 (.tmp 13), some (10, false)⟩,
  ⟨some 15, .binOp .neq 9 (.tmp 12) (.tmp 14) 9, some (10, false)⟩,
  ⟨some 16, .pick (.tmp 10) (.const (.bool true)) (.tmp 15), none⟩,
  ⟨some 17, .move (.tmp 16), none⟩,
  ⟨some 18, .fieldAddr 30 (.tmp 2) 2, some (17, false)⟩,
  ⟨some 19, .load 3 (.tmp 18), some (17, false)⟩,
  ⟨some 20, .fieldAddr 30 (.tmp 3) 2, some (17, false)⟩,
  ⟨some 21, .load 3 (.tmp 20), some (17, false)⟩,
  ⟨some 22, .binOp .neq 3 (.tmp 19) (.tmp 21) 3, some (17, false)⟩,
  ⟨some 23, .pick (.tmp 17) (.const (.bool true)) (.tmp 22), none⟩,
  ⟨some 24, .move (.tmp 23), none⟩,
  ⟨some 25, .fieldAddr 30 (.tmp 2) 3, some (24, false)⟩,
  ⟨some 26, .load 3 (.tmp 25), some (24, false)⟩,
  ⟨some 27, .fieldAddr 30 (.tmp 3) 3, some (24, false)⟩,
  ⟨some 28, .load 3 (.tmp 27), some (24, false)⟩,
  ⟨some 29, .binOp .neq 3 (.tmp 26) (.tmp 28) 3, some (24, false)⟩,
  ⟨some 30, .pick (.tmp 24) (.const (.bool true)) (.tmp 29), none⟩]
def S_ref3_Equal_r2 : SC := .reg [⟨some 4, .assign (.const (.bool false)), none⟩]
def S_ref3_Equal_r3 : SC := .reg [⟨some 31, .fieldAddr 30 (.tmp 2) 4, none⟩,
  ⟨some 32, .load 28 (.tmp 31), none⟩,
  ⟨some 33, .fieldAddr 30 (.tmp 3) 4, none⟩,
  ⟨some 34, .load 28 (.tmp 33), none⟩,
  ⟨some 35, .call ⟨.value (.func 18), #[(.tmp 32), (.tmp 34)], #[28, 28]⟩, none⟩,
  ⟨some 4, .assign (.tmp 35), none⟩]
def S_ref3_Equal : SC := (.seq S_ref3_Equal_r0 (.seq (.seq S_ref3_Equal_r1 (.cond (.tmp 30) (.seq S_ref3_Equal_r2 .ret) .skip)) (.seq S_ref3_Equal_r3 .ret)))
theorem BS_ref3_Equal : Tryz.f54.body.bind stripC = some S_ref3_Equal := by kernel_rfl
/-! make_Tape_Next: function 55, 35 temporaries. -/
def S_make_Tape_Next_r0 : SC := .reg [⟨some 4, .assign (.const (.int .i64 0)), none⟩]
def S_make_Tape_Next_r1 : SC := .draw [⟨some 5, .move (.tmp 0), none, [0]⟩,
  ⟨some 6, .nilCheck (.tmp 5), none, [5]⟩,
  ⟨some 7, .fieldAddr 27 (.tmp 6) 1, none, [6]⟩,
  ⟨some 8, .load 3 (.tmp 7), none, [7]⟩,
  ⟨some 9, .move (.tmp 0), none, [0]⟩,
  ⟨some 10, .nilCheck (.tmp 9), none, [9]⟩,
  ⟨some 11, .fieldAddr 27 (.tmp 10) 0, none, [10]⟩,
  ⟨some 12, .load 22 (.tmp 11), none, [11]⟩,
  ⟨some 13, .call ⟨.builtin .len, #[(.tmp 12)], #[22]⟩, none, [12]⟩,
  ⟨some 14, .binOp .geq 3 (.tmp 8) (.tmp 13) 3, none, [8, 13]⟩] [0, 1, 3, 7, 0, 16, 48, 112, 240, 511]
def S_make_Tape_Next_r2 : SC := .reg [⟨some 4, .assign (.const (.int .i64 0)), none⟩]
def S_make_Tape_Next_r3 : SC := .reg [⟨some 15, .move (.tmp 0), none⟩,
  ⟨some 16, .nilCheck (.tmp 15), none⟩,
  ⟨some 17, .fieldAddr 27 (.tmp 16) 1, none⟩,
  ⟨some 18, .load 3 (.tmp 17), none⟩,
  ⟨some 19, .binOp .add 3 (.tmp 18) (.const (.int .i64 1)) 3, none⟩,
  ⟨some 20, .nilCheck (.tmp 15), none⟩,
  ⟨some 21, .fieldAddr 27 (.tmp 20) 1, none⟩,
  ⟨none, .store 3 (.tmp 21) (.tmp 19), none⟩]
def S_make_Tape_Next_r4 : SC := .draw [⟨some 22, .move (.tmp 0), none, [0]⟩,
  ⟨some 23, .nilCheck (.tmp 22), none, [22]⟩,
  ⟨some 24, .fieldAddr 27 (.tmp 23) 0, none, [23]⟩,
  ⟨some 25, .load 22 (.tmp 24), none, [24]⟩,
  ⟨some 26, .move (.tmp 0), none, [0]⟩,
  ⟨some 27, .nilCheck (.tmp 26), none, [26]⟩,
  ⟨some 28, .fieldAddr 27 (.tmp 27) 1, none, [27]⟩,
  ⟨some 29, .load 3 (.tmp 28), none, [28]⟩,
  ⟨some 30, .binOp .sub 3 (.tmp 29) (.const (.int .i64 1)) 3, none, [29]⟩,
  ⟨some 31, .indexAddr 22 (.tmp 25) (.tmp 30), none, [25, 30]⟩,
  ⟨some 32, .load 3 (.tmp 31), none, [31]⟩,
  ⟨some 33, .move (.tmp 1), none, [1]⟩,
  ⟨some 34, .call ⟨.value (.func 24), #[(.tmp 32), (.tmp 33)], #[3, 3]⟩, none, [32, 33]⟩,
  ⟨some 4, .assign (.tmp 34), none, [34]⟩] [0, 1, 3, 7, 0, 16, 48, 112, 240, 511, 1023, 0, 4095, 8191]
def S_make_Tape_Next : SC := (.seq S_make_Tape_Next_r0 (.seq (.seq S_make_Tape_Next_r1 (.cond (.tmp 14) (.seq S_make_Tape_Next_r2 .ret) .skip)) (.seq S_make_Tape_Next_r3 (.seq S_make_Tape_Next_r4 .ret))))
theorem BS_make_Tape_Next : Tryz.f55.body.bind stripC = some S_make_Tape_Next := by kernel_rfl
/-! ref3_Con: function 56, 9 temporaries. -/
def S_ref3_Con_r0 : SC := .reg [⟨some 4, .alloc 30, none⟩]
def S_ref3_Con_r1 : SC := .reg [⟨some 5, .move (.tmp 0), none⟩,
  ⟨some 6, .move (.tmp 1), none⟩,
  ⟨some 7, .call ⟨.builtin .append, #[(.const (.slice none 0 0)), (.tmp 6)], #[28, 28]⟩, none⟩,
  ⟨some 8, .build 30 #[(0, (.const (.int .i64 4))), (1, (.tmp 5)), (4, (.tmp 7))], none⟩,
  ⟨none, .store 30 (.tmp 4) (.tmp 8), none⟩]
def S_ref3_Con : SC := (.seq S_ref3_Con_r0 (.seq S_ref3_Con_r1 .ret))
theorem BS_ref3_Con : Tryz.f56.body.bind stripC = some S_ref3_Con := by kernel_rfl
/-! types_Vars: function 58, 17 temporaries. -/
def S_types_Vars_r0 : SC := .reg [⟨some 2, .assign (.const (.slice none 0 0)), none⟩]
def S_types_Vars_r1 : SC := .reg [⟨some 3, .alloc 22, none⟩]
def S_types_Vars_r2 : SC := .reg [⟨some 6, .move (.tmp 0), none⟩,
  ⟨some 7, .call ⟨.builtin .len, #[(.tmp 6)], #[28]⟩, none⟩,
  ⟨some 8, .move (.const (.int .i64 0)), none⟩]
def S_types_Vars_r3 : SC := .reg [⟨some 9, .binOp .lss 3 (.tmp 8) (.tmp 7) 3, none⟩]
def S_types_Vars_r4 : SC := .reg [⟨some 10, .indexAddr 28 (.tmp 6) (.tmp 8), none⟩,
  ⟨some 11, .load 30 (.tmp 10), none⟩,
  ⟨some 5, .alloc 30, none⟩,
  ⟨none, .store 30 (.tmp 5) (.tmp 11), none⟩]
def S_types_Vars_r5 : SC := .reg [⟨some 12, .load 30 (.tmp 5), none⟩,
  ⟨some 13, .makeFunc (.func 121) #[] #[(.tmp 3)], none⟩,
  ⟨some 14, .call ⟨.value (.func 120), #[(.tmp 12), (.tmp 13)], #[30, 181]⟩, none⟩]
def S_types_Vars_b0 : SC := .block 1 (.seq S_types_Vars_r4 S_types_Vars_r5)
def S_types_Vars_r6 : SC := .reg [⟨some 15, .binOp .add 3 (.tmp 8) (.const (.int .i64 1)) 3, none⟩,
  ⟨some 8, .move (.tmp 15), none⟩]
def S_types_Vars_l0 : SC := (.seq S_types_Vars_r3 (.seq (.cond (.tmp 9) .skip (.exit 0)) (.seq S_types_Vars_b0 S_types_Vars_r6)))
def S_types_Vars_b1 : SC := .block 0 (.loop S_types_Vars_l0)
def S_types_Vars_r7 : SC := .reg [⟨some 16, .load 22 (.tmp 3), none⟩,
  ⟨some 2, .assign (.tmp 16), none⟩]
def S_types_Vars : SC := (.seq S_types_Vars_r0 (.seq S_types_Vars_r1 (.seq (.seq S_types_Vars_r2 S_types_Vars_b1) (.seq S_types_Vars_r7 .ret))))
theorem BS_types_Vars : Tryz.f58.body.bind stripC = some S_types_Vars := by kernel_rfl
/-! types_Var: function 59, 5 temporaries. -/
def S_types_Var_r0 : SC := .reg [⟨some 2, .alloc 30, none⟩]
def S_types_Var_r1 : SC := .reg [⟨some 3, .move (.tmp 0), none⟩,
  ⟨some 4, .build 30 #[(0, (.const (.int .i64 1))), (2, (.tmp 3))], none⟩,
  ⟨none, .store 30 (.tmp 2) (.tmp 4), none⟩]
def S_types_Var : SC := (.seq S_types_Var_r0 (.seq S_types_Var_r1 .ret))
theorem BS_types_Var : Tryz.f59.body.bind stripC = some S_types_Var := by kernel_rfl
/-! types_Replace: function 60, 8 temporaries. -/
def S_types_Replace_r0 : SC := .reg [⟨some 2, .box 30 (.tmp 0), none⟩,
  ⟨some 3, .box 80 (.tmp 1), none⟩,
  ⟨some 4, .alloc 30, none⟩]
def S_types_Replace_r1 : SC := .reg [⟨some 5, .load 30 (.tmp 2), none⟩,
  ⟨some 6, .makeFunc (.func 124) #[] #[(.tmp 3)], none⟩,
  ⟨some 7, .call ⟨.value (.func 123), #[(.tmp 5), (.tmp 6)], #[30, 183]⟩, none⟩,
  ⟨none, .store 30 (.tmp 4) (.tmp 7), none⟩]
def S_types_Replace : SC := (.seq S_types_Replace_r0 (.seq S_types_Replace_r1 .ret))
theorem BS_types_Replace : Tryz.f60.body.bind stripC = some S_types_Replace := by kernel_rfl
/-! ref3_Vars: function 61, 42 temporaries. -/
def S_ref3_Vars_r0 : SC := .reg [⟨some 2, .assign (.const (.slice none 0 0)), none⟩]
def S_ref3_Vars_r1 : SC := .reg [⟨some 3, .assign (.const (.slice none 0 0)), none⟩]
def S_ref3_Vars_r2 : SC := .reg [⟨some 4, .assign (.const (.int .i64 0)), none⟩]
def S_ref3_Vars_r3 : SC := .reg [⟨some 7, .move (.tmp 4), none⟩,
  ⟨some 8, .move (.tmp 0), none⟩,
  ⟨some 9, .call ⟨.builtin .len, #[(.tmp 8)], #[28]⟩, none⟩,
  ⟨some 10, .binOp .lss 3 (.tmp 7) (.tmp 9) 3, none⟩]
def S_ref3_Vars_r4 : SC := .reg [⟨some 13, .move (.tmp 3), none⟩,
  ⟨some 14, .move (.tmp 0), none⟩,
  ⟨some 15, .move (.tmp 4), none⟩,
  ⟨some 16, .indexAddr 28 (.tmp 14) (.tmp 15), none⟩,
  ⟨some 17, .load 30 (.tmp 16), none⟩,
  ⟨some 18, .call ⟨.value (.func 125), #[(.tmp 13), (.tmp 17), (.const (.int .i64 1))], #[28, 30, 3]⟩, none⟩,
  ⟨some 3, .assign (.tmp 18), none⟩]
def S_ref3_Vars_b0 : SC := .block 1 S_ref3_Vars_r4
def S_ref3_Vars_r5 : SC := .reg [⟨some 11, .move (.tmp 4), none⟩,
  ⟨some 12, .binOp .add 3 (.tmp 11) (.const (.int .i64 1)) 3, none⟩,
  ⟨some 4, .assign (.tmp 12), none⟩]
def S_ref3_Vars_l0 : SC := (.seq (.seq S_ref3_Vars_r3 (.cond (.tmp 10) .skip (.exit 0))) (.seq S_ref3_Vars_b0 S_ref3_Vars_r5))
def S_ref3_Vars_b1 : SC := .block 0 (.loop S_ref3_Vars_l0)
def S_ref3_Vars_r6 : SC := .reg [⟨some 5, .assign (.const (.slice none 0 0)), none⟩]
def S_ref3_Vars_r7 : SC := .reg [⟨some 6, .assign (.const (.int .i64 0)), none⟩]
def S_ref3_Vars_r8 : SC := .reg [⟨some 19, .move (.tmp 6), none⟩,
  ⟨some 20, .move (.tmp 3), none⟩,
  ⟨some 21, .call ⟨.builtin .len, #[(.tmp 20)], #[28]⟩, none⟩,
  ⟨some 22, .binOp .lss 3 (.tmp 19) (.tmp 21) 3, none⟩]
def S_ref3_Vars_r9 : SC := .reg [⟨some 25, .move (.tmp 5), none⟩,
  ⟨some 26, .move (.tmp 3), none⟩,
  ⟨some 27, .move (.tmp 6), none⟩,
  ⟨some 28, .indexAddr 28 (.tmp 26) (.tmp 27), none⟩,
  ⟨some 29, .fieldAddr 30 (.tmp 28) 2, none⟩,
  ⟨some 30, .load 3 (.tmp 29), none⟩,
  ⟨some 31, .call ⟨.value (.func 126), #[(.tmp 25), (.tmp 30)], #[22, 3]⟩, none⟩,
  ⟨some 32, .unOp .not 4 (.tmp 31), none⟩]
def S_ref3_Vars_r10 : SC := .reg [⟨some 33, .move (.tmp 5), none⟩,
  ⟨some 34, .move (.tmp 3), none⟩,
  ⟨some 35, .move (.tmp 6), none⟩,
  ⟨some 36, .indexAddr 28 (.tmp 34) (.tmp 35), none⟩,
  ⟨some 37, .fieldAddr 30 (.tmp 36) 2, none⟩,
  ⟨some 38, .load 3 (.tmp 37), none⟩,
  ⟨some 39, .buildSlice 22 1 #[(0, (.tmp 38))], none⟩,
  ⟨some 40, .call ⟨.builtin .append, #[(.tmp 33), (.tmp 39)], #[22, 22]⟩, none⟩,
  ⟨some 5, .assign (.tmp 40), none⟩]
def S_ref3_Vars_b2 : SC := .block 3 (.seq S_ref3_Vars_r9 (.cond (.tmp 32) S_ref3_Vars_r10 .skip))
def S_ref3_Vars_r11 : SC := .reg [⟨some 23, .move (.tmp 6), none⟩,
  ⟨some 24, .binOp .add 3 (.tmp 23) (.const (.int .i64 1)) 3, none⟩,
  ⟨some 6, .assign (.tmp 24), none⟩]
def S_ref3_Vars_l1 : SC := (.seq (.seq S_ref3_Vars_r8 (.cond (.tmp 22) .skip (.exit 2))) (.seq S_ref3_Vars_b2 S_ref3_Vars_r11))
def S_ref3_Vars_b3 : SC := .block 2 (.loop S_ref3_Vars_l1)
def S_ref3_Vars_r12 : SC := .reg [⟨some 41, .move (.tmp 5), none⟩,
  ⟨some 2, .assign (.tmp 41), none⟩]
def S_ref3_Vars : SC := (.seq S_ref3_Vars_r0 (.seq S_ref3_Vars_r1 (.seq (.seq S_ref3_Vars_r2 S_ref3_Vars_b1) (.seq S_ref3_Vars_r6 (.seq (.seq S_ref3_Vars_r7 S_ref3_Vars_b3) (.seq S_ref3_Vars_r12 .ret))))))
theorem BS_ref3_Vars : Tryz.f61.body.bind stripC = some S_ref3_Vars := by kernel_rfl
/-! ref3_Replace: function 62, 53 temporaries. -/
def S_ref3_Replace_r0 : SC := .reg [⟨some 2, .box 30 (.tmp 0), none⟩,
  ⟨some 4, .alloc 30, none⟩]
def S_ref3_Replace_r1 : SC := .reg [⟨some 8, .fieldAddr 30 (.tmp 2) 0, none⟩,
  ⟨some 9, .load 3 (.tmp 8), none⟩,
  ⟨some 10, .binOp .eql 3 (.tmp 9) (.const (.int .i64 1)) 3, none⟩]
def S_ref3_Replace_r2 : SC := .reg [⟨some 5, .assign (.const (.int .i64 0)), none⟩]
def S_ref3_Replace_r3 : SC := .reg [⟨some 11, .move (.tmp 5), none⟩,
  ⟨some 12, .move (.tmp 1), none⟩,
  ⟨some 13, .call ⟨.builtin .len, #[(.tmp 12)], #[80]⟩, none⟩,
  ⟨some 14, .binOp .lss 3 (.tmp 11) (.tmp 13) 3, none⟩]
def S_ref3_Replace_r4 : SC := .draw [⟨some 17, .move (.tmp 1), none, [1]⟩,
  ⟨some 18, .move (.tmp 5), none, [5]⟩,
  ⟨some 19, .indexAddr 80 (.tmp 17) (.tmp 18), none, [17, 18]⟩,
  ⟨some 20, .fieldAddr 101 (.tmp 19) 0, none, [19]⟩,
  ⟨some 21, .load 3 (.tmp 20), none, [20]⟩,
  ⟨some 22, .fieldAddr 30 (.tmp 2) 2, none, [2]⟩,
  ⟨some 23, .load 3 (.tmp 22), none, [22]⟩,
  ⟨some 24, .binOp .eql 3 (.tmp 21) (.tmp 23) 3, none, [21, 23]⟩] [0, 0, 3, 7, 15, 0, 32, 127]
def S_ref3_Replace_r5 : SC := .reg [⟨some 25, .move (.tmp 1), none⟩,
  ⟨some 26, .move (.tmp 5), none⟩,
  ⟨some 27, .indexAddr 80 (.tmp 25) (.tmp 26), none⟩,
  ⟨some 28, .fieldAddr 101 (.tmp 27) 1, none⟩,
  ⟨some 29, .load 30 (.tmp 28), none⟩,
  ⟨none, .store 30 (.tmp 4) (.tmp 29), none⟩]
def S_ref3_Replace_b0 : SC := .block 1 (.seq S_ref3_Replace_r4 (.cond (.tmp 24) (.seq S_ref3_Replace_r5 .ret) .skip))
def S_ref3_Replace_r6 : SC := .reg [⟨some 15, .move (.tmp 5), none⟩,
  ⟨some 16, .binOp .add 3 (.tmp 15) (.const (.int .i64 1)) 3, none⟩,
  ⟨some 5, .assign (.tmp 16), none⟩]
def S_ref3_Replace_l0 : SC := (.seq (.seq S_ref3_Replace_r3 (.cond (.tmp 14) .skip (.exit 0))) (.seq S_ref3_Replace_b0 S_ref3_Replace_r6))
def S_ref3_Replace_b1 : SC := .block 0 (.loop S_ref3_Replace_l0)
def S_ref3_Replace_r7 : SC := .reg [⟨some 30, .load 30 (.tmp 2), none⟩,
  ⟨none, .store 30 (.tmp 4) (.tmp 30), none⟩]
def S_ref3_Replace_r8 : SC := .reg [⟨some 31, .load 30 (.tmp 2), none⟩,
  ⟨some 6, .alloc 30, none⟩,
  ⟨none, .store 30 (.tmp 6) (.tmp 31), none⟩]
def S_ref3_Replace_r9 : SC := .reg [⟨some 32, .fieldAddr 30 (.tmp 6) 4, none⟩,
  ⟨none, .store 28 (.tmp 32) (.const (.slice none 0 0)), none⟩]
def S_ref3_Replace_r10 : SC := .reg [⟨some 7, .assign (.const (.int .i64 0)), none⟩]
def S_ref3_Replace_r11 : SC := .reg [⟨some 33, .move (.tmp 7), none⟩,
  ⟨some 34, .fieldAddr 30 (.tmp 2) 4, none⟩,
  ⟨some 35, .load 28 (.tmp 34), none⟩,
  ⟨some 36, .call ⟨.builtin .len, #[(.tmp 35)], #[28]⟩, none⟩,
  ⟨some 37, .binOp .lss 3 (.tmp 33) (.tmp 36) 3, none⟩]
def S_ref3_Replace_r12 : SC := .draw [⟨some 40, .fieldAddr 30 (.tmp 6) 4, none, [6]⟩,
  ⟨some 41, .load 28 (.tmp 40), none, [40]⟩,
  ⟨some 42, .fieldAddr 30 (.tmp 2) 4, none, [2]⟩,
  ⟨some 43, .load 28 (.tmp 42), none, [42]⟩,
  ⟨some 44, .move (.tmp 7), none, [7]⟩,
  ⟨some 45, .indexAddr 28 (.tmp 43) (.tmp 44), none, [43, 44]⟩,
  ⟨some 46, .load 30 (.tmp 45), none, [45]⟩,
  ⟨some 47, .move (.tmp 1), none, [1]⟩,
  ⟨some 48, .call ⟨.value (.func 62), #[(.tmp 46), (.tmp 47)], #[30, 80]⟩, none, [46, 47]⟩,
  ⟨some 49, .buildSlice 28 1 #[(0, (.tmp 48))], none, [48]⟩,
  ⟨some 50, .call ⟨.builtin .append, #[(.tmp 41), (.tmp 49)], #[28, 28]⟩, none, [41, 49]⟩,
  ⟨some 51, .fieldAddr 30 (.tmp 6) 4, none, [6]⟩,
  ⟨none, .store 28 (.tmp 51) (.tmp 50), none, [51, 50]⟩] [0, 1, 0, 4, 0, 28, 60, 0, 252, 508, 1023, 2047, 4095]
def S_ref3_Replace_b2 : SC := .block 3 S_ref3_Replace_r12
def S_ref3_Replace_r13 : SC := .reg [⟨some 38, .move (.tmp 7), none⟩,
  ⟨some 39, .binOp .add 3 (.tmp 38) (.const (.int .i64 1)) 3, none⟩,
  ⟨some 7, .assign (.tmp 39), none⟩]
def S_ref3_Replace_l1 : SC := (.seq (.seq S_ref3_Replace_r11 (.cond (.tmp 37) .skip (.exit 2))) (.seq S_ref3_Replace_b2 S_ref3_Replace_r13))
def S_ref3_Replace_b3 : SC := .block 2 (.loop S_ref3_Replace_l1)
def S_ref3_Replace_r14 : SC := .reg [⟨some 52, .load 30 (.tmp 6), none⟩,
  ⟨none, .store 30 (.tmp 4) (.tmp 52), none⟩]
def S_ref3_Replace : SC := (.seq S_ref3_Replace_r0 (.seq (.seq S_ref3_Replace_r1 (.cond (.tmp 10) (.seq (.seq S_ref3_Replace_r2 S_ref3_Replace_b1) (.seq S_ref3_Replace_r7 .ret)) .skip)) (.seq S_ref3_Replace_r8 (.seq S_ref3_Replace_r9 (.seq (.seq S_ref3_Replace_r10 S_ref3_Replace_b3) (.seq S_ref3_Replace_r14 .ret))))))
theorem BS_ref3_Replace : Tryz.f62.body.bind stripC = some S_ref3_Replace := by kernel_rfl
/-! types_visit: function 120, 20 temporaries. -/
def S_types_visit_r0 : SC := .reg [⟨some 2, .box 30 (.tmp 0), none⟩]
def S_types_visit_r1 : SC := .reg [⟨some 6, .move (.tmp 1), none⟩,
  ⟨some 7, .load 30 (.tmp 2), none⟩,
  ⟨some 8, .call ⟨.value (.tmp 6), #[(.tmp 7)], #[30]⟩, none⟩]
def S_types_visit_r2 : SC := .reg [⟨some 9, .fieldAddr 30 (.tmp 2) 4, none⟩,
  ⟨some 10, .load 28 (.tmp 9), none⟩,
  ⟨some 11, .call ⟨.builtin .len, #[(.tmp 10)], #[28]⟩, none⟩,
  ⟨some 12, .move (.const (.int .i64 0)), none⟩]
def S_types_visit_r3 : SC := .reg [⟨some 13, .binOp .lss 3 (.tmp 12) (.tmp 11) 3, none⟩]
def S_types_visit_r4 : SC := .reg [⟨some 14, .indexAddr 28 (.tmp 10) (.tmp 12), none⟩,
  ⟨some 15, .load 30 (.tmp 14), none⟩,
  ⟨some 5, .alloc 30, none⟩,
  ⟨none, .store 30 (.tmp 5) (.tmp 15), none⟩]
def S_types_visit_r5 : SC := .reg [⟨some 16, .load 30 (.tmp 5), none⟩,
  ⟨some 17, .move (.tmp 1), none⟩,
  ⟨some 18, .call ⟨.value (.func 120), #[(.tmp 16), (.tmp 17)], #[30, 181]⟩, none⟩]
def S_types_visit_b0 : SC := .block 1 (.seq S_types_visit_r4 S_types_visit_r5)
def S_types_visit_r6 : SC := .reg [⟨some 19, .binOp .add 3 (.tmp 12) (.const (.int .i64 1)) 3, none⟩,
  ⟨some 12, .move (.tmp 19), none⟩]
def S_types_visit_l0 : SC := (.seq S_types_visit_r3 (.seq (.cond (.tmp 13) .skip (.exit 0)) (.seq S_types_visit_b0 S_types_visit_r6)))
def S_types_visit_b1 : SC := .block 0 (.loop S_types_visit_l0)
def S_types_visit : SC := (.seq S_types_visit_r0 (.seq S_types_visit_r1 (.seq S_types_visit_r2 S_types_visit_b1)))
theorem BS_types_visit : Tryz.f120.body.bind stripC = some S_types_visit := by kernel_rfl
/-! types_Vars_1: function 121, 18 temporaries. -/
def S_types_Vars_1_r0 : SC := .reg [⟨some 2, .box 30 (.tmp 0), none⟩]
def S_types_Vars_1_r1 : SC := .reg [⟨some 3, .fieldAddr 30 (.tmp 2) 0, none⟩,
  ⟨some 4, .load 3 (.tmp 3), none⟩,
  ⟨some 5, .binOp .eql 3 (.tmp 4) (.const (.int .i64 1)) 3, none⟩,
  ⟨some 6, .move (.tmp 5), none⟩,
  ⟨some 7, .load 22 (.tmp 1), some (6, true)⟩,
  ⟨some 8, .fieldAddr 30 (.tmp 2) 2, some (6, true)⟩,
  ⟨some 9, .load 3 (.tmp 8), some (6, true)⟩,
  ⟨some 10, .call ⟨.value (.func 122), #[(.tmp 7), (.tmp 9)], #[22, 3]⟩, some (6, true)⟩,
  ⟨some 11, .unOp .not 4 (.tmp 10), some (6, true)⟩,
  ⟨some 12, .pick (.tmp 6) (.tmp 11) (.const (.bool false)), none⟩]
def S_types_Vars_1_r2 : SC := .reg [⟨some 13, .load 22 (.tmp 1), none⟩,
  ⟨some 14, .fieldAddr 30 (.tmp 2) 2, none⟩,
  ⟨some 15, .load 3 (.tmp 14), none⟩,
  ⟨some 16, .buildSlice 22 1 #[(0, (.tmp 15))], none⟩,
  ⟨some 17, .call ⟨.builtin .append, #[(.tmp 13), (.tmp 16)], #[22, 22]⟩, none⟩,
  ⟨none, .store 22 (.tmp 1) (.tmp 17), none⟩]
def S_types_Vars_1 : SC := (.seq S_types_Vars_1_r0 (.seq S_types_Vars_1_r1 (.cond (.tmp 12) S_types_Vars_1_r2 .skip)))
theorem BS_types_Vars_1 : Tryz.f121.body.bind stripC = some S_types_Vars_1 := by kernel_rfl
/-! slices_Contains__intint: function 122, 9 temporaries. -/
def S_slices_Contains__intint_r0 : SC := .reg [⟨some 4, .assign (.const (.bool false)), none⟩]
def S_slices_Contains__intint_r1 : SC := .reg [⟨some 5, .move (.tmp 0), none⟩,
  ⟨some 6, .move (.tmp 1), none⟩,
  ⟨some 7, .call ⟨.value (.func 219), #[(.tmp 5), (.tmp 6)], #[22, 3]⟩, none⟩,
  ⟨some 8, .binOp .geq 3 (.tmp 7) (.const (.int .i64 0)) 3, none⟩,
  ⟨some 4, .assign (.tmp 8), none⟩]
def S_slices_Contains__intint : SC := (.seq S_slices_Contains__intint_r0 (.seq S_slices_Contains__intint_r1 .ret))
theorem BS_slices_Contains__intint : Tryz.f122.body.bind stripC = some S_slices_Contains__intint := by kernel_rfl
/-! types_rebuild: function 123, 37 temporaries. -/
def S_types_rebuild_r0 : SC := .reg [⟨some 2, .box 30 (.tmp 0), none⟩,
  ⟨some 4, .alloc 30, none⟩]
def S_types_rebuild_r1 : SC := .reg [⟨some 8, .fieldAddr 30 (.tmp 2) 4, none⟩,
  ⟨some 9, .load 28 (.tmp 8), none⟩,
  ⟨some 10, .call ⟨.builtin .len, #[(.tmp 9)], #[28]⟩, none⟩,
  ⟨some 11, .binOp .eql 3 (.tmp 10) (.const (.int .i64 0)) 3, none⟩]
def S_types_rebuild_r2 : SC := .reg [⟨some 12, .move (.tmp 1), none⟩,
  ⟨some 13, .load 30 (.tmp 2), none⟩,
  ⟨some 14, .call ⟨.value (.tmp 12), #[(.tmp 13)], #[30]⟩, none⟩,
  ⟨none, .store 30 (.tmp 4) (.tmp 14), none⟩]
def S_types_rebuild_r3 : SC := .reg [⟨some 15, .fieldAddr 30 (.tmp 2) 4, none⟩,
  ⟨some 16, .load 28 (.tmp 15), none⟩,
  ⟨some 17, .call ⟨.builtin .len, #[(.tmp 16)], #[28]⟩, none⟩,
  ⟨some 18, .makeSlice 28 (.tmp 17) (.tmp 17), none⟩,
  ⟨some 5, .assign (.tmp 18), none⟩]
def S_types_rebuild_r4 : SC := .reg [⟨some 19, .fieldAddr 30 (.tmp 2) 4, none⟩,
  ⟨some 20, .load 28 (.tmp 19), none⟩,
  ⟨some 21, .call ⟨.builtin .len, #[(.tmp 20)], #[28]⟩, none⟩,
  ⟨some 22, .move (.const (.int .i64 0)), none⟩]
def S_types_rebuild_r5 : SC := .reg [⟨some 23, .binOp .lss 3 (.tmp 22) (.tmp 21) 3, none⟩]
def S_types_rebuild_r6 : SC := .reg [⟨some 24, .move (.tmp 22), none⟩,
  ⟨some 25, .indexAddr 28 (.tmp 20) (.tmp 22), none⟩,
  ⟨some 26, .load 30 (.tmp 25), none⟩,
  ⟨some 7, .alloc 30, none⟩,
  ⟨some 6, .assign (.tmp 24), none⟩,
  ⟨none, .store 30 (.tmp 7) (.tmp 26), none⟩]
def S_types_rebuild_r7 : SC := .reg [⟨some 27, .move (.tmp 5), none⟩,
  ⟨some 28, .move (.tmp 6), none⟩,
  ⟨some 29, .load 30 (.tmp 7), none⟩,
  ⟨some 30, .move (.tmp 1), none⟩,
  ⟨some 31, .call ⟨.value (.func 123), #[(.tmp 29), (.tmp 30)], #[30, 183]⟩, none⟩,
  ⟨some 32, .indexAddr 28 (.tmp 27) (.tmp 28), none⟩,
  ⟨none, .store 30 (.tmp 32) (.tmp 31), none⟩]
def S_types_rebuild_b0 : SC := .block 1 (.seq S_types_rebuild_r6 S_types_rebuild_r7)
def S_types_rebuild_r8 : SC := .reg [⟨some 33, .binOp .add 3 (.tmp 22) (.const (.int .i64 1)) 3, none⟩,
  ⟨some 22, .move (.tmp 33), none⟩]
def S_types_rebuild_l0 : SC := (.seq S_types_rebuild_r5 (.seq (.cond (.tmp 23) .skip (.exit 0)) (.seq S_types_rebuild_b0 S_types_rebuild_r8)))
def S_types_rebuild_b1 : SC := .block 0 (.loop S_types_rebuild_l0)
def S_types_rebuild_r9 : SC := .reg [⟨some 34, .move (.tmp 5), none⟩,
  ⟨some 35, .fieldAddr 30 (.tmp 2) 4, none⟩,
  ⟨none, .store 28 (.tmp 35) (.tmp 34), none⟩]
def S_types_rebuild_r10 : SC := .reg [⟨some 36, .load 30 (.tmp 2), none⟩,
  ⟨none, .store 30 (.tmp 4) (.tmp 36), none⟩]
def S_types_rebuild : SC := (.seq S_types_rebuild_r0 (.seq (.seq S_types_rebuild_r1 (.cond (.tmp 11) (.seq S_types_rebuild_r2 .ret) .skip)) (.seq S_types_rebuild_r3 (.seq (.seq S_types_rebuild_r4 S_types_rebuild_b1) (.seq S_types_rebuild_r9 (.seq S_types_rebuild_r10 .ret))))))
theorem BS_types_rebuild : Tryz.f123.body.bind stripC = some S_types_rebuild := by kernel_rfl
/-! types_Replace_1: function 124, 24 temporaries. -/
def S_types_Replace_1_r0 : SC := .reg [⟨some 2, .box 30 (.tmp 0), none⟩,
  ⟨some 3, .alloc 30, none⟩]
def S_types_Replace_1_r1 : SC := .reg [⟨some 6, .fieldAddr 30 (.tmp 2) 0, none⟩,
  ⟨some 7, .load 3 (.tmp 6), none⟩,
  ⟨some 8, .binOp .eql 3 (.tmp 7) (.const (.int .i64 1)) 3, none⟩]
def S_types_Replace_1_r2 : SC := .reg [⟨some 9, .load 80 (.tmp 1), none⟩,
  ⟨some 10, .call ⟨.builtin .len, #[(.tmp 9)], #[80]⟩, none⟩,
  ⟨some 11, .move (.const (.int .i64 0)), none⟩]
def S_types_Replace_1_r3 : SC := .reg [⟨some 12, .binOp .lss 3 (.tmp 11) (.tmp 10) 3, none⟩]
def S_types_Replace_1_r4 : SC := .reg [⟨some 13, .indexAddr 80 (.tmp 9) (.tmp 11), none⟩,
  ⟨some 14, .load 101 (.tmp 13), none⟩,
  ⟨some 5, .alloc 101, none⟩,
  ⟨none, .store 101 (.tmp 5) (.tmp 14), none⟩]
def S_types_Replace_1_r5 : SC := .reg [⟨some 15, .fieldAddr 101 (.tmp 5) 0, none⟩,
  ⟨some 16, .load 3 (.tmp 15), none⟩,
  ⟨some 17, .fieldAddr 30 (.tmp 2) 2, none⟩,
  ⟨some 18, .load 3 (.tmp 17), none⟩,
  ⟨some 19, .binOp .eql 3 (.tmp 16) (.tmp 18) 3, none⟩]
def S_types_Replace_1_r6 : SC := .reg [⟨some 20, .fieldAddr 101 (.tmp 5) 1, none⟩,
  ⟨some 21, .load 30 (.tmp 20), none⟩,
  ⟨none, .store 30 (.tmp 3) (.tmp 21), none⟩]
def S_types_Replace_1_b0 : SC := .block 1 (.seq S_types_Replace_1_r4 (.seq S_types_Replace_1_r5 (.cond (.tmp 19) (.seq S_types_Replace_1_r6 .ret) .skip)))
def S_types_Replace_1_r7 : SC := .reg [⟨some 22, .binOp .add 3 (.tmp 11) (.const (.int .i64 1)) 3, none⟩,
  ⟨some 11, .move (.tmp 22), none⟩]
def S_types_Replace_1_l0 : SC := (.seq S_types_Replace_1_r3 (.seq (.cond (.tmp 12) .skip (.exit 0)) (.seq S_types_Replace_1_b0 S_types_Replace_1_r7)))
def S_types_Replace_1_b1 : SC := .block 0 (.loop S_types_Replace_1_l0)
def S_types_Replace_1_r8 : SC := .reg [⟨some 23, .load 30 (.tmp 2), none⟩,
  ⟨none, .store 30 (.tmp 3) (.tmp 23), none⟩]
def S_types_Replace_1 : SC := (.seq S_types_Replace_1_r0 (.seq (.seq S_types_Replace_1_r1 (.cond (.tmp 8) (.seq S_types_Replace_1_r2 S_types_Replace_1_b1) .skip)) (.seq S_types_Replace_1_r8 .ret)))
theorem BS_types_Replace_1 : Tryz.f124.body.bind stripC = some S_types_Replace_1 := by kernel_rfl
/-! ref3_leaves: function 125, 52 temporaries. -/
def S_ref3_leaves_r0 : SC := .reg [⟨some 4, .box 30 (.tmp 1), none⟩,
  ⟨some 6, .assign (.const (.slice none 0 0)), none⟩]
def S_ref3_leaves_r1 : SC := .reg [⟨some 9, .fieldAddr 30 (.tmp 4) 0, none⟩,
  ⟨some 10, .load 3 (.tmp 9), none⟩,
  ⟨some 11, .move (.tmp 2), none⟩,
  ⟨some 12, .binOp .eql 3 (.tmp 10) (.tmp 11) 3, none⟩,
  ⟨some 13, .move (.tmp 12), none⟩,
  ⟨some 14, .fieldAddr 30 (.tmp 4) 4, some (13, true)⟩,
  ⟨some 15, .load 28 (.tmp 14), some (13, true)⟩,
  ⟨some 16, .call ⟨.builtin .len, #[(.tmp 15)], #[28]⟩, some (13, true)⟩,
  ⟨some 17, .binOp .eql 3 (.tmp 16) (.const (.int .i64 0)) 3, some (13, true)⟩,
  ⟨some 18, .pick (.tmp 13) (.tmp 17) (.const (.bool false)), none⟩]
def S_ref3_leaves_r2 : SC := .reg [⟨some 7, .assign (.const (.int .i64 0)), none⟩]
def S_ref3_leaves_r3 : SC := .reg [⟨some 19, .move (.tmp 7), none⟩,
  ⟨some 20, .move (.tmp 0), none⟩,
  ⟨some 21, .call ⟨.builtin .len, #[(.tmp 20)], #[28]⟩, none⟩,
  ⟨some 22, .binOp .lss 3 (.tmp 19) (.tmp 21) 3, none⟩]
def S_ref3_leaves_r4 : SC := .draw [⟨some 25, .move (.tmp 0), none, [0]⟩,
  ⟨some 26, .move (.tmp 7), none, [7]⟩,
  ⟨some 27, .indexAddr 28 (.tmp 25) (.tmp 26), none, [25, 26]⟩,
  ⟨some 28, .load 30 (.tmp 27), none, [27]⟩,
  ⟨some 29, .load 30 (.tmp 4), none, [4]⟩,
  ⟨some 30, .call ⟨.value (.func 54), #[(.tmp 28), (.tmp 29)], #[30, 30]⟩, none, [28, 29]⟩] [0, 0, 3, 7, 0, 31]
def S_ref3_leaves_r5 : SC := .reg [⟨some 31, .move (.tmp 0), none⟩,
  ⟨some 6, .assign (.tmp 31), none⟩]
def S_ref3_leaves_b0 : SC := .block 1 (.seq S_ref3_leaves_r4 (.cond (.tmp 30) (.seq S_ref3_leaves_r5 .ret) .skip))
def S_ref3_leaves_r6 : SC := .reg [⟨some 23, .move (.tmp 7), none⟩,
  ⟨some 24, .binOp .add 3 (.tmp 23) (.const (.int .i64 1)) 3, none⟩,
  ⟨some 7, .assign (.tmp 24), none⟩]
def S_ref3_leaves_l0 : SC := (.seq (.seq S_ref3_leaves_r3 (.cond (.tmp 22) .skip (.exit 0))) (.seq S_ref3_leaves_b0 S_ref3_leaves_r6))
def S_ref3_leaves_b1 : SC := .block 0 (.loop S_ref3_leaves_l0)
def S_ref3_leaves_r7 : SC := .reg [⟨some 32, .move (.tmp 0), none⟩,
  ⟨some 33, .load 30 (.tmp 4), none⟩,
  ⟨some 34, .buildSlice 28 1 #[(0, (.tmp 33))], none⟩,
  ⟨some 35, .call ⟨.builtin .append, #[(.tmp 32), (.tmp 34)], #[28, 28]⟩, none⟩,
  ⟨some 6, .assign (.tmp 35), none⟩]
def S_ref3_leaves_r8 : SC := .reg [⟨some 8, .assign (.const (.int .i64 0)), none⟩]
def S_ref3_leaves_r9 : SC := .reg [⟨some 36, .move (.tmp 8), none⟩,
  ⟨some 37, .fieldAddr 30 (.tmp 4) 4, none⟩,
  ⟨some 38, .load 28 (.tmp 37), none⟩,
  ⟨some 39, .call ⟨.builtin .len, #[(.tmp 38)], #[28]⟩, none⟩,
  ⟨some 40, .binOp .lss 3 (.tmp 36) (.tmp 39) 3, none⟩]
def S_ref3_leaves_r10 : SC := .reg [⟨some 43, .move (.tmp 0), none⟩,
  ⟨some 44, .fieldAddr 30 (.tmp 4) 4, none⟩,
  ⟨some 45, .load 28 (.tmp 44), none⟩,
  ⟨some 46, .move (.tmp 8), none⟩,
  ⟨some 47, .indexAddr 28 (.tmp 45) (.tmp 46), none⟩,
  ⟨some 48, .load 30 (.tmp 47), none⟩,
  ⟨some 49, .move (.tmp 2), none⟩,
  ⟨some 50, .call ⟨.value (.func 125), #[(.tmp 43), (.tmp 48), (.tmp 49)], #[28, 30, 3]⟩, none⟩,
  ⟨some 0, .assign (.tmp 50), none⟩]
def S_ref3_leaves_b2 : SC := .block 3 S_ref3_leaves_r10
def S_ref3_leaves_r11 : SC := .reg [⟨some 41, .move (.tmp 8), none⟩,
  ⟨some 42, .binOp .add 3 (.tmp 41) (.const (.int .i64 1)) 3, none⟩,
  ⟨some 8, .assign (.tmp 42), none⟩]
def S_ref3_leaves_l1 : SC := (.seq (.seq S_ref3_leaves_r9 (.cond (.tmp 40) .skip (.exit 2))) (.seq S_ref3_leaves_b2 S_ref3_leaves_r11))
def S_ref3_leaves_b3 : SC := .block 2 (.loop S_ref3_leaves_l1)
def S_ref3_leaves_r12 : SC := .reg [⟨some 51, .move (.tmp 0), none⟩,
  ⟨some 6, .assign (.tmp 51), none⟩]
def S_ref3_leaves : SC := (.seq S_ref3_leaves_r0 (.seq (.seq S_ref3_leaves_r1 (.cond (.tmp 18) (.seq (.seq S_ref3_leaves_r2 S_ref3_leaves_b1) (.seq S_ref3_leaves_r7 .ret)) .skip)) (.seq (.seq S_ref3_leaves_r8 S_ref3_leaves_b3) (.seq S_ref3_leaves_r12 .ret))))
theorem BS_ref3_leaves : Tryz.f125.body.bind stripC = some S_ref3_leaves := by kernel_rfl
/-! ref3_Has: function 126, 18 temporaries. -/
def S_ref3_Has_r0 : SC := .reg [⟨some 4, .assign (.const (.bool false)), none⟩]
def S_ref3_Has_r1 : SC := .reg [⟨some 5, .assign (.const (.int .i64 0)), none⟩]
def S_ref3_Has_r2 : SC := .reg [⟨some 6, .move (.tmp 5), none⟩,
  ⟨some 7, .move (.tmp 0), none⟩,
  ⟨some 8, .call ⟨.builtin .len, #[(.tmp 7)], #[22]⟩, none⟩,
  ⟨some 9, .binOp .lss 3 (.tmp 6) (.tmp 8) 3, none⟩]
def S_ref3_Has_r3 : SC := .reg [⟨some 12, .move (.tmp 0), none⟩,
  ⟨some 13, .move (.tmp 5), none⟩,
  ⟨some 14, .indexAddr 22 (.tmp 12) (.tmp 13), none⟩,
  ⟨some 15, .load 3 (.tmp 14), none⟩,
  ⟨some 16, .move (.tmp 1), none⟩,
  ⟨some 17, .binOp .eql 3 (.tmp 15) (.tmp 16) 3, none⟩]
def S_ref3_Has_r4 : SC := .reg [⟨some 4, .assign (.const (.bool true)), none⟩]
def S_ref3_Has_b0 : SC := .block 1 (.seq S_ref3_Has_r3 (.cond (.tmp 17) (.seq S_ref3_Has_r4 .ret) .skip))
def S_ref3_Has_r5 : SC := .reg [⟨some 10, .move (.tmp 5), none⟩,
  ⟨some 11, .binOp .add 3 (.tmp 10) (.const (.int .i64 1)) 3, none⟩,
  ⟨some 5, .assign (.tmp 11), none⟩]
def S_ref3_Has_l0 : SC := (.seq (.seq S_ref3_Has_r2 (.cond (.tmp 9) .skip (.exit 0))) (.seq S_ref3_Has_b0 S_ref3_Has_r5))
def S_ref3_Has_b1 : SC := .block 0 (.loop S_ref3_Has_l0)
def S_ref3_Has_r6 : SC := .reg [⟨some 4, .assign (.const (.bool false)), none⟩]
def S_ref3_Has : SC := (.seq S_ref3_Has_r0 (.seq (.seq S_ref3_Has_r1 S_ref3_Has_b1) (.seq S_ref3_Has_r6 .ret)))
theorem BS_ref3_Has : Tryz.f126.body.bind stripC = some S_ref3_Has := by kernel_rfl
/-! slices_Index__intint: function 219, 19 temporaries. -/
def S_slices_Index__intint_r0 : SC := .reg [⟨some 4, .assign (.const (.int .i64 0)), none⟩]
def S_slices_Index__intint_r1 : SC := .reg [⟨some 6, .move (.tmp 0), none⟩,
  ⟨some 7, .call ⟨.builtin .len, #[(.tmp 6)], #[22]⟩, none⟩,
  ⟨some 8, .move (.const (.int .i64 0)), none⟩]
def S_slices_Index__intint_r2 : SC := .reg [⟨some 9, .binOp .lss 3 (.tmp 8) (.tmp 7) 3, none⟩]
def S_slices_Index__intint_r3 : SC := .reg [⟨some 10, .move (.tmp 8), none⟩,
  ⟨some 5, .assign (.tmp 10), none⟩]
def S_slices_Index__intint_r4 : SC := .reg [⟨some 11, .move (.tmp 1), none⟩,
  ⟨some 12, .move (.tmp 0), none⟩,
  ⟨some 13, .move (.tmp 5), none⟩,
  ⟨some 14, .indexAddr 22 (.tmp 12) (.tmp 13), none⟩,
  ⟨some 15, .load 3 (.tmp 14), none⟩,
  ⟨some 16, .binOp .eql 3 (.tmp 11) (.tmp 15) 3, none⟩]
def S_slices_Index__intint_r5 : SC := .reg [⟨some 17, .move (.tmp 5), none⟩,
  ⟨some 4, .assign (.tmp 17), none⟩]
def S_slices_Index__intint_b0 : SC := .block 1 (.seq S_slices_Index__intint_r3 (.seq S_slices_Index__intint_r4 (.cond (.tmp 16) (.seq S_slices_Index__intint_r5 .ret) .skip)))
def S_slices_Index__intint_r6 : SC := .reg [⟨some 18, .binOp .add 3 (.tmp 8) (.const (.int .i64 1)) 3, none⟩,
  ⟨some 8, .move (.tmp 18), none⟩]
def S_slices_Index__intint_l0 : SC := (.seq S_slices_Index__intint_r2 (.seq (.cond (.tmp 9) .skip (.exit 0)) (.seq S_slices_Index__intint_b0 S_slices_Index__intint_r6)))
def S_slices_Index__intint_b1 : SC := .block 0 (.loop S_slices_Index__intint_l0)
def S_slices_Index__intint_r7 : SC := .reg [⟨some 4, .assign (.const (.int .i64 (-1))), none⟩]
def S_slices_Index__intint : SC := (.seq S_slices_Index__intint_r0 (.seq (.seq S_slices_Index__intint_r1 S_slices_Index__intint_b1) (.seq S_slices_Index__intint_r7 .ret)))
theorem BS_slices_Index__intint : Tryz.f219.body.bind stripC = some S_slices_Index__intint := by kernel_rfl
end Go.Proofs.YtpcmebclpindjaaGreat
