import Derived.Test.YthfcfmkdeheicaaGreatGT
import Derived.Test.YthfcfmkdeheicaaGreatJH
import Derived.Test.YthfcfmkdeheicaaGreatRows
set_option linter.all false
namespace Go.Proofs.YthfcfmkdeheicaaGreat
open Go.J
/-! ref3_Equal: function 23, 36 temporaries. -/
def fS23r0 : SC := .reg [⟨some 2, .box 41 (.tmp 0), none⟩,
  ⟨some 3, .box 41 (.tmp 1), none⟩,
  ⟨some 4, .assign (.const (.bool false)), none⟩]
def fS23r1 : SC := .reg [⟨some 5, .fieldAddr 41 (.tmp 2) 0, none⟩,
  ⟨some 6, .load 3 (.tmp 5), none⟩,
  ⟨some 7, .fieldAddr 41 (.tmp 3) 0, none⟩,
  ⟨some 8, .load 3 (.tmp 7), none⟩,
  ⟨some 9, .binOp .neq 3 (.tmp 6) (.tmp 8) 3, none⟩,
  ⟨some 10, .move (.tmp 9), none⟩,
  ⟨some 11, .fieldAddr 41 (.tmp 2) 1, some (10, false)⟩,
  ⟨some 12, .load 9 (.tmp 11), some (10, false)⟩,
  ⟨some 13, .fieldAddr 41 (.tmp 3) 1, some (10, false)⟩,
  ⟨some 14, .load 9 (.tmp 13), some (10, false)⟩,
  ⟨some 15, .binOp .neq 9 (.tmp 12) (.tmp 14) 9, some (10, false)⟩,
  ⟨some 16, .pick (.tmp 10) (.const (.bool true)) (.tmp 15), none⟩,
  ⟨some 17, .move (.tmp 16), none⟩,
  ⟨some 18, .fieldAddr 41 (.tmp 2) 2, some (17, false)⟩,
  ⟨some 19, .load 3 (.tmp 18), some (17, false)⟩,
  ⟨some 20, .fieldAddr 41 (.tmp 3) 2, some (17, false)⟩,
  ⟨some 21, .load 3 (.tmp 20), some (17, false)⟩,
  ⟨some 22, .binOp .neq 3 (.tmp 19) (.tmp 21) 3, some (17, false)⟩,
  ⟨some 23, .pick (.tmp 17) (.const (.bool true)) (.tmp 22), none⟩,
  ⟨some 24, .move (.tmp 23), none⟩,
  ⟨some 25, .fieldAddr 41 (.tmp 2) 3, some (24, false)⟩,
  ⟨some 26, .load 3 (.tmp 25), some (24, false)⟩,
  ⟨some 27, .fieldAddr 41 (.tmp 3) 3, some (24, false)⟩,
  ⟨some 28, .load 3 (.tmp 27), some (24, false)⟩,
  ⟨some 29, .binOp .neq 3 (.tmp 26) (.tmp 28) 3, some (24, false)⟩,
  ⟨some 30, .pick (.tmp 24) (.const (.bool true)) (.tmp 29), none⟩]
def fS23r2 : SC := .reg [⟨some 4, .assign (.const (.bool false)), none⟩]
def fS23r3 : SC := .reg [⟨some 31, .fieldAddr 41 (.tmp 2) 4, none⟩,
  ⟨some 32, .load 39 (.tmp 31), none⟩,
  ⟨some 33, .fieldAddr 41 (.tmp 3) 4, none⟩,
  ⟨some 34, .load 39 (.tmp 33), none⟩,
  ⟨some 35, .call ⟨.value (.func 77), #[(.tmp 32), (.tmp 34)], #[39, 39]⟩, none⟩,
  ⟨some 4, .assign (.tmp 35), none⟩]
def fS23 : SC := (.seq fS23r0 (.seq (.seq fS23r1 (.cond (.tmp 30) (.seq fS23r2 .ret) .skip)) (.seq fS23r3 .ret)))
theorem fB23 : Tryz.f23.body.bind stripC = some fS23 := by kernel_rfl
/-! ref3_EqualAll: function 77, 27 temporaries. -/
def fS77r0 : SC := .reg [⟨some 4, .assign (.const (.bool false)), none⟩]
def fS77r1 : SC := .reg [⟨some 6, .move (.tmp 0), none⟩,
  ⟨some 7, .call ⟨.builtin .len, #[(.tmp 6)], #[39]⟩, none⟩,
  ⟨some 8, .move (.tmp 1), none⟩,
  ⟨some 9, .call ⟨.builtin .len, #[(.tmp 8)], #[39]⟩, none⟩,
  ⟨some 10, .binOp .neq 3 (.tmp 7) (.tmp 9) 3, none⟩]
def fS77r2 : SC := .reg [⟨some 4, .assign (.const (.bool false)), none⟩]
def fS77r3 : SC := .reg [⟨some 5, .assign (.const (.int .i64 0)), none⟩]
def fS77r4 : SC := .reg [⟨some 11, .move (.tmp 5), none⟩,
  ⟨some 12, .move (.tmp 0), none⟩,
  ⟨some 13, .call ⟨.builtin .len, #[(.tmp 12)], #[39]⟩, none⟩,
  ⟨some 14, .binOp .lss 3 (.tmp 11) (.tmp 13) 3, none⟩]
def fS77r5 : SC := .draw [⟨some 17, .move (.tmp 0), none, [0]⟩,
  ⟨some 18, .move (.tmp 5), none, [5]⟩,
  ⟨some 19, .indexAddr 39 (.tmp 17) (.tmp 18), none, [17, 18]⟩,
  ⟨some 20, .load 41 (.tmp 19), none, [19]⟩,
  ⟨some 21, .move (.tmp 1), none, [1]⟩,
  ⟨some 22, .move (.tmp 5), none, [5]⟩,
  ⟨some 23, .indexAddr 39 (.tmp 21) (.tmp 22), none, [21, 22]⟩,
  ⟨some 24, .load 41 (.tmp 23), none, [23]⟩,
  ⟨some 25, .call ⟨.value (.func 23), #[(.tmp 20), (.tmp 24)], #[41, 41]⟩, none, [20, 24]⟩,
  ⟨some 26, .unOp .not 4 (.tmp 25), none, [25]⟩] [0, 0, 3, 7, 0, 0, 48, 112, 255, 511]
def fS77r6 : SC := .reg [⟨some 4, .assign (.const (.bool false)), none⟩]
def fS77b0 : SC := .block 1 (.seq fS77r5 (.cond (.tmp 26) (.seq fS77r6 .ret) .skip))
def fS77r7 : SC := .reg [⟨some 15, .move (.tmp 5), none⟩,
  ⟨some 16, .binOp .add 3 (.tmp 15) (.const (.int .i64 1)) 3, none⟩,
  ⟨some 5, .assign (.tmp 16), none⟩]
def fS77l0 : SC := (.seq (.seq fS77r4 (.cond (.tmp 14) .skip (.exit 0))) (.seq fS77b0 fS77r7))
def fS77b1 : SC := .block 0 (.loop fS77l0)
def fS77r8 : SC := .reg [⟨some 4, .assign (.const (.bool true)), none⟩]
def fS77 : SC := (.seq fS77r0 (.seq (.seq fS77r1 (.cond (.tmp 10) (.seq fS77r2 .ret) .skip)) (.seq (.seq fS77r3 fS77b1) (.seq fS77r8 .ret))))
theorem fB77 : Tryz.f77.body.bind stripC = some fS77 := by kernel_rfl
/-! make_Mod: function 14, 16 temporaries. -/
def fS14r0 : SC := .reg [⟨some 4, .assign (.const (.int .i64 0)), none⟩]
def fS14r1 : SC := .reg [⟨some 5, .move (.tmp 1), none⟩,
  ⟨some 6, .binOp .lss 3 (.tmp 5) (.const (.int .i64 1)) 3, none⟩]
def fS14r2 : SC := .reg [⟨some 4, .assign (.const (.int .i64 0)), none⟩]
def fS14r3 : SC := .reg [⟨some 7, .move (.tmp 0), none⟩,
  ⟨some 8, .move (.tmp 1), none⟩,
  ⟨some 9, .binOp .rem 3 (.tmp 7) (.tmp 8) 3, none⟩,
  ⟨some 0, .assign (.tmp 9), none⟩]
def fS14r4 : SC := .reg [⟨some 10, .move (.tmp 0), none⟩,
  ⟨some 11, .binOp .lss 3 (.tmp 10) (.const (.int .i64 0)) 3, none⟩]
def fS14r5 : SC := .reg [⟨some 12, .move (.tmp 0), none⟩,
  ⟨some 13, .move (.tmp 1), none⟩,
  ⟨some 14, .binOp .add 3 (.tmp 12) (.tmp 13) 3, none⟩,
  ⟨some 0, .assign (.tmp 14), none⟩]
def fS14r6 : SC := .reg [⟨some 15, .move (.tmp 0), none⟩,
  ⟨some 4, .assign (.tmp 15), none⟩]
def fS14 : SC := (.seq fS14r0 (.seq (.seq fS14r1 (.cond (.tmp 6) (.seq fS14r2 .ret) .skip)) (.seq fS14r3 (.seq (.seq fS14r4 (.cond (.tmp 11) fS14r5 .skip)) (.seq fS14r6 .ret)))))
theorem fB14 : Tryz.f14.body.bind stripC = some fS14 := by kernel_rfl
/-! make_Few: function 10, 6 temporaries. -/
def fS10r0 : SC := .reg [⟨some 2, .assign (.const (.bool false)), none⟩]
def fS10r1 : SC := .reg [⟨some 3, .move (.tmp 0), none⟩,
  ⟨some 4, .call ⟨.builtin .len, #[(.tmp 3)], #[26]⟩, none⟩,
  ⟨some 5, .binOp .leq 3 (.tmp 4) (.const (.int .i64 60)) 3, none⟩,
  ⟨some 2, .assign (.tmp 5), none⟩]
def fS10 : SC := (.seq fS10r0 (.seq fS10r1 .ret))
theorem fB10 : Tryz.f10.body.bind stripC = some fS10 := by kernel_rfl
/-! ref3_Con: function 61, 9 temporaries. -/
def fS61r0 : SC := .reg [⟨some 4, .alloc 41, none⟩]
def fS61r1 : SC := .reg [⟨some 5, .move (.tmp 0), none⟩,
  ⟨some 6, .move (.tmp 1), none⟩,
  ⟨some 7, .call ⟨.builtin .append, #[(.const (.slice none 0 0)), (.tmp 6)], #[39, 39]⟩, none⟩,
  ⟨some 8, .build 41 #[(0, (.const (.int .i64 4))), (1, (.tmp 5)), (4, (.tmp 7))], none⟩,
  ⟨none, .store 41 (.tmp 4) (.tmp 8), none⟩]
def fS61 : SC := (.seq fS61r0 (.seq fS61r1 .ret))
theorem fB61 : Tryz.f61.body.bind stripC = some fS61 := by kernel_rfl
/-! ref3_Int: function 49, 2 temporaries. -/
def fS49r0 : SC := .reg [⟨some 0, .alloc 41, none⟩]
def fS49r1 : SC := .reg [⟨some 1, .call ⟨.value (.func 61), #[(.const (.string ⟨#[73, 110, 116]⟩)), (.const (.slice none 0 0))], #[9, 39]⟩, none⟩,
  ⟨none, .store 41 (.tmp 0) (.tmp 1), none⟩]
def fS49 : SC := (.seq fS49r0 (.seq fS49r1 .ret))
theorem fB49 : Tryz.f49.body.bind stripC = some fS49 := by kernel_rfl
/-! ref3_Arrow: function 62, 9 temporaries. -/
def fS62r0 : SC := .reg [⟨some 2, .box 41 (.tmp 0), none⟩,
  ⟨some 3, .box 41 (.tmp 1), none⟩,
  ⟨some 4, .alloc 41, none⟩]
def fS62r1 : SC := .reg [⟨some 5, .load 41 (.tmp 2), none⟩,
  ⟨some 6, .load 41 (.tmp 3), none⟩,
  ⟨some 7, .buildSlice 39 2 #[(0, (.tmp 5)), (1, (.tmp 6))], none⟩,
  ⟨some 8, .call ⟨.value (.func 61), #[(.const (.string ⟨#[45, 62]⟩)), (.tmp 7)], #[9, 39]⟩, none⟩,
  ⟨none, .store 41 (.tmp 4) (.tmp 8), none⟩]
def fS62 : SC := (.seq fS62r0 (.seq fS62r1 .ret))
theorem fB62 : Tryz.f62.body.bind stripC = some fS62 := by kernel_rfl
/-! ref3_Var: function 52, 5 temporaries. -/
def fS52r0 : SC := .reg [⟨some 2, .alloc 41, none⟩]
def fS52r1 : SC := .reg [⟨some 3, .move (.tmp 0), none⟩,
  ⟨some 4, .build 41 #[(0, (.const (.int .i64 1))), (2, (.tmp 3))], none⟩,
  ⟨none, .store 41 (.tmp 2) (.tmp 4), none⟩]
def fS52 : SC := (.seq fS52r0 (.seq fS52r1 .ret))
theorem fB52 : Tryz.f52.body.bind stripC = some fS52 := by kernel_rfl
/-! ref3_Rigid: function 58, 8 temporaries. -/
def fS58r0 : SC := .reg [⟨some 4, .alloc 41, none⟩]
def fS58r1 : SC := .reg [⟨some 5, .move (.tmp 0), none⟩,
  ⟨some 6, .move (.tmp 1), none⟩,
  ⟨some 7, .build 41 #[(0, (.const (.int .i64 3))), (3, (.tmp 5)), (2, (.tmp 6))], none⟩,
  ⟨none, .store 41 (.tmp 4) (.tmp 7), none⟩]
def fS58 : SC := (.seq fS58r0 (.seq fS58r1 .ret))
theorem fB58 : Tryz.f58.body.bind stripC = some fS58 := by kernel_rfl
/-! make_Tape_Next: function 56, 35 temporaries. -/
def fS56r0 : SC := .reg [⟨some 4, .assign (.const (.int .i64 0)), none⟩]
def fS56r1 : SC := .draw [⟨some 5, .move (.tmp 0), none, [0]⟩,
  ⟨some 6, .nilCheck (.tmp 5), none, [5]⟩,
  ⟨some 7, .fieldAddr 32 (.tmp 6) 1, none, [6]⟩,
  ⟨some 8, .load 3 (.tmp 7), none, [7]⟩,
  ⟨some 9, .move (.tmp 0), none, [0]⟩,
  ⟨some 10, .nilCheck (.tmp 9), none, [9]⟩,
  ⟨some 11, .fieldAddr 32 (.tmp 10) 0, none, [10]⟩,
  ⟨some 12, .load 26 (.tmp 11), none, [11]⟩,
  ⟨some 13, .call ⟨.builtin .len, #[(.tmp 12)], #[26]⟩, none, [12]⟩,
  ⟨some 14, .binOp .geq 3 (.tmp 8) (.tmp 13) 3, none, [8, 13]⟩] [0, 1, 3, 7, 0, 16, 48, 112, 240, 511]
def fS56r2 : SC := .reg [⟨some 4, .assign (.const (.int .i64 0)), none⟩]
def fS56r3 : SC := .reg [⟨some 15, .move (.tmp 0), none⟩,
  ⟨some 16, .nilCheck (.tmp 15), none⟩,
  ⟨some 17, .fieldAddr 32 (.tmp 16) 1, none⟩,
  ⟨some 18, .load 3 (.tmp 17), none⟩,
  ⟨some 19, .binOp .add 3 (.tmp 18) (.const (.int .i64 1)) 3, none⟩,
  ⟨some 20, .nilCheck (.tmp 15), none⟩,
  ⟨some 21, .fieldAddr 32 (.tmp 20) 1, none⟩,
  ⟨none, .store 3 (.tmp 21) (.tmp 19), none⟩]
def fS56r4 : SC := .draw [⟨some 22, .move (.tmp 0), none, [0]⟩,
  ⟨some 23, .nilCheck (.tmp 22), none, [22]⟩,
  ⟨some 24, .fieldAddr 32 (.tmp 23) 0, none, [23]⟩,
  ⟨some 25, .load 26 (.tmp 24), none, [24]⟩,
  ⟨some 26, .move (.tmp 0), none, [0]⟩,
  ⟨some 27, .nilCheck (.tmp 26), none, [26]⟩,
  ⟨some 28, .fieldAddr 32 (.tmp 27) 1, none, [27]⟩,
  ⟨some 29, .load 3 (.tmp 28), none, [28]⟩,
  ⟨some 30, .binOp .sub 3 (.tmp 29) (.const (.int .i64 1)) 3, none, [29]⟩,
  ⟨some 31, .indexAddr 26 (.tmp 25) (.tmp 30), none, [25, 30]⟩,
  ⟨some 32, .load 3 (.tmp 31), none, [31]⟩,
  ⟨some 33, .move (.tmp 1), none, [1]⟩,
  ⟨some 34, .call ⟨.value (.func 14), #[(.tmp 32), (.tmp 33)], #[3, 3]⟩, none, [32, 33]⟩,
  ⟨some 4, .assign (.tmp 34), none, [34]⟩] [0, 1, 3, 7, 0, 16, 48, 112, 240, 511, 1023, 0, 4095, 8191]
def fS56 : SC := (.seq fS56r0 (.seq (.seq fS56r1 (.cond (.tmp 14) (.seq fS56r2 .ret) .skip)) (.seq fS56r3 (.seq fS56r4 .ret))))
theorem fB56 : Tryz.f56.body.bind stripC = some fS56 := by kernel_rfl
/-! make_Vars: function 16, 16 temporaries. -/
def fS16r0 : SC := .reg [⟨some 2, .assign (.const (.slice none 0 0)), none⟩]
def fS16r1 : SC := .reg [⟨some 3, .assign (.const (.slice none 0 0)), none⟩]
def fS16r2 : SC := .reg [⟨some 4, .assign (.const (.int .i64 0)), none⟩]
def fS16r3 : SC := .reg [⟨some 5, .move (.tmp 4), none⟩,
  ⟨some 6, .move (.tmp 0), none⟩,
  ⟨some 7, .binOp .lss 3 (.tmp 5) (.tmp 6) 3, none⟩]
def fS16r4 : SC := .reg [⟨some 10, .move (.tmp 3), none⟩,
  ⟨some 11, .move (.tmp 4), none⟩,
  ⟨some 12, .call ⟨.value (.func 52), #[(.tmp 11)], #[3]⟩, none⟩,
  ⟨some 13, .buildSlice 39 1 #[(0, (.tmp 12))], none⟩,
  ⟨some 14, .call ⟨.builtin .append, #[(.tmp 10), (.tmp 13)], #[39, 39]⟩, none⟩,
  ⟨some 3, .assign (.tmp 14), none⟩]
def fS16b0 : SC := .block 1 fS16r4
def fS16r5 : SC := .reg [⟨some 8, .move (.tmp 4), none⟩,
  ⟨some 9, .binOp .add 3 (.tmp 8) (.const (.int .i64 1)) 3, none⟩,
  ⟨some 4, .assign (.tmp 9), none⟩]
def fS16l0 : SC := (.seq (.seq fS16r3 (.cond (.tmp 7) .skip (.exit 0))) (.seq fS16b0 fS16r5))
def fS16b1 : SC := .block 0 (.loop fS16l0)
def fS16r6 : SC := .reg [⟨some 15, .move (.tmp 3), none⟩,
  ⟨some 2, .assign (.tmp 15), none⟩]
def fS16 : SC := (.seq fS16r0 (.seq fS16r1 (.seq (.seq fS16r2 fS16b1) (.seq fS16r6 .ret))))
theorem fB16 : Tryz.f16.body.bind stripC = some fS16 := by kernel_rfl
/-! make_Datas: function 12, 45 temporaries. -/
def fS12r0 : SC := .reg [⟨some 2, .assign (.const (.slice none 0 0)), none⟩]
def fS12r1 : SC := .reg [⟨some 6, .call ⟨.value (.func 60), #[], #[]⟩, none⟩,
  ⟨some 3, .assign (.tmp 6), none⟩]
def fS12r2 : SC := .reg [⟨some 4, .assign (.const (.slice none 0 0)), none⟩]
def fS12r3 : SC := .reg [⟨some 7, .move (.tmp 0), none⟩,
  ⟨some 8, .binOp .and 3 (.tmp 7) (.const (.int .i64 2)) 3, none⟩,
  ⟨some 9, .binOp .neq 3 (.tmp 8) (.const (.int .i64 0)) 3, none⟩,
  ⟨some 10, .move (.tmp 9), none⟩,
  ⟨some 11, .move (.tmp 0), some (10, false)⟩,
  ⟨some 12, .binOp .and 3 (.tmp 11) (.const (.int .i64 64)) 3, some (10, false)⟩,
  ⟨some 13, .binOp .neq 3 (.tmp 12) (.const (.int .i64 0)) 3, some (10, false)⟩,
  ⟨some 14, .pick (.tmp 10) (.const (.bool true)) (.tmp 13), none⟩]
def fS12r4 : SC := .reg [⟨some 15, .move (.tmp 4), none⟩,
  ⟨some 16, .move (.tmp 3), none⟩,
  ⟨some 17, .indexAddr 34 (.tmp 16) (.const (.int .i64 1)), none⟩,
  ⟨some 18, .load 97 (.tmp 17), none⟩,
  ⟨some 19, .buildSlice 34 1 #[(0, (.tmp 18))], none⟩,
  ⟨some 20, .call ⟨.builtin .append, #[(.tmp 15), (.tmp 19)], #[34, 34]⟩, none⟩,
  ⟨some 4, .assign (.tmp 20), none⟩]
def fS12r5 : SC := .reg [⟨some 5, .assign (.const (.int .i64 0)), none⟩]
def fS12r6 : SC := .reg [⟨some 21, .move (.tmp 5), none⟩,
  ⟨some 22, .move (.tmp 3), none⟩,
  ⟨some 23, .call ⟨.builtin .len, #[(.tmp 22)], #[34]⟩, none⟩,
  ⟨some 24, .binOp .lss 3 (.tmp 21) (.tmp 23) 3, none⟩]
def fS12r7 : SC := .reg [⟨some 27, .move (.tmp 5), none⟩,
  ⟨some 28, .binOp .neq 3 (.tmp 27) (.const (.int .i64 1)) 3, none⟩,
  ⟨some 29, .move (.tmp 28), none⟩,
  ⟨some 30, .move (.tmp 0), some (29, true)⟩,
  ⟨some 31, .move (.tmp 5), some (29, true)⟩,
  ⟨some 32, .convert 3 98 (.tmp 31), some (29, true)⟩,
  ⟨some 33, .binOp .shr 3 (.tmp 30) (.tmp 32) 98, some (29, true)⟩,
  ⟨some 34, .binOp .and 3 (.tmp 33) (.const (.int .i64 1)) 3, some (29, true)⟩,
  ⟨some 35, .binOp .eql 3 (.tmp 34) (.const (.int .i64 1)) 3, some (29, true)⟩,
  ⟨some 36, .pick (.tmp 29) (.tmp 35) (.const (.bool false)), none⟩]
def fS12r8 : SC := .reg [⟨some 37, .move (.tmp 4), none⟩,
  ⟨some 38, .move (.tmp 3), none⟩,
  ⟨some 39, .move (.tmp 5), none⟩,
  ⟨some 40, .indexAddr 34 (.tmp 38) (.tmp 39), none⟩,
  ⟨some 41, .load 97 (.tmp 40), none⟩,
  ⟨some 42, .buildSlice 34 1 #[(0, (.tmp 41))], none⟩,
  ⟨some 43, .call ⟨.builtin .append, #[(.tmp 37), (.tmp 42)], #[34, 34]⟩, none⟩,
  ⟨some 4, .assign (.tmp 43), none⟩]
def fS12b0 : SC := .block 1 (.seq fS12r7 (.cond (.tmp 36) fS12r8 .skip))
def fS12r9 : SC := .reg [⟨some 25, .move (.tmp 5), none⟩,
  ⟨some 26, .binOp .add 3 (.tmp 25) (.const (.int .i64 1)) 3, none⟩,
  ⟨some 5, .assign (.tmp 26), none⟩]
def fS12l0 : SC := (.seq (.seq fS12r6 (.cond (.tmp 24) .skip (.exit 0))) (.seq fS12b0 fS12r9))
def fS12b1 : SC := .block 0 (.loop fS12l0)
def fS12r10 : SC := .reg [⟨some 44, .move (.tmp 4), none⟩,
  ⟨some 2, .assign (.tmp 44), none⟩]
def fS12 : SC := (.seq fS12r0 (.seq fS12r1 (.seq fS12r2 (.seq (.seq fS12r3 (.cond (.tmp 14) fS12r4 .skip)) (.seq (.seq fS12r5 fS12b1) (.seq fS12r10 .ret))))))
theorem fB12 : Tryz.f12.body.bind stripC = some fS12 := by kernel_rfl
/-! make_Tape_Type: function 15, 95 temporaries. -/
def fS15r0 : SC := .reg [⟨some 8, .alloc 41, none⟩]
def fS15r1 : SC := .reg [⟨some 14, .move (.tmp 0), none⟩,
  ⟨some 15, .call ⟨.value (.func 56), #[(.tmp 14), (.const (.int .i64 7))], #[30, 3]⟩, none⟩,
  ⟨some 9, .assign (.tmp 15), none⟩]
def fS15r2 : SC := .reg [⟨some 17, .move (.tmp 9), none⟩,
  ⟨some 18, .binOp .lss 3 (.tmp 17) (.const (.int .i64 3)) 3, none⟩,
  ⟨some 19, .move (.tmp 18), none⟩,
  ⟨some 20, .move (.tmp 2), some (19, true)⟩,
  ⟨some 21, .call ⟨.builtin .len, #[(.tmp 20)], #[39]⟩, some (19, true)⟩,
  ⟨some 22, .binOp .gtr 3 (.tmp 21) (.const (.int .i64 0)) 3, some (19, true)⟩,
  ⟨some 23, .pick (.tmp 19) (.tmp 22) (.const (.bool false)), none⟩,
  ⟨some 16, .assign (.tmp 23), none⟩]
def fS15r3 : SC := .reg [⟨some 24, .move (.tmp 2), none⟩,
  ⟨some 25, .move (.tmp 0), none⟩,
  ⟨some 26, .move (.tmp 2), none⟩,
  ⟨some 27, .call ⟨.builtin .len, #[(.tmp 26)], #[39]⟩, none⟩,
  ⟨some 28, .call ⟨.value (.func 56), #[(.tmp 25), (.tmp 27)], #[30, 3]⟩, none⟩,
  ⟨some 29, .indexAddr 39 (.tmp 24) (.tmp 28), none⟩,
  ⟨some 30, .load 41 (.tmp 29), none⟩,
  ⟨none, .store 41 (.tmp 8) (.tmp 30), none⟩]
def fS15r4 : SC := .reg [⟨some 32, .move (.tmp 9), none⟩,
  ⟨some 33, .binOp .lss 3 (.tmp 32) (.const (.int .i64 4)) 3, none⟩,
  ⟨some 34, .move (.tmp 33), none⟩,
  ⟨some 35, .move (.tmp 3), some (34, false)⟩,
  ⟨some 36, .binOp .lss 3 (.tmp 35) (.const (.int .i64 1)) 3, some (34, false)⟩,
  ⟨some 37, .pick (.tmp 34) (.const (.bool true)) (.tmp 36), none⟩,
  ⟨some 31, .assign (.tmp 37), none⟩]
def fS15r5 : SC := .reg [⟨some 38, .call ⟨.value (.func 49), #[], #[]⟩, none⟩,
  ⟨none, .store 41 (.tmp 8) (.tmp 38), none⟩]
def fS15r6 : SC := .reg [⟨some 40, .move (.tmp 9), none⟩,
  ⟨some 41, .binOp .eql 3 (.tmp 40) (.const (.int .i64 4)) 3, none⟩,
  ⟨some 42, .move (.tmp 41), none⟩,
  ⟨some 43, .move (.tmp 1), some (42, true)⟩,
  ⟨some 44, .call ⟨.builtin .len, #[(.tmp 43)], #[34]⟩, some (42, true)⟩,
  ⟨some 45, .binOp .gtr 3 (.tmp 44) (.const (.int .i64 0)) 3, some (42, true)⟩,
  ⟨some 46, .pick (.tmp 42) (.tmp 45) (.const (.bool false)), none⟩,
  ⟨some 39, .assign (.tmp 46), none⟩]
def fS15r7 : SC := .reg [⟨some 47, .move (.tmp 9), none⟩,
  ⟨some 48, .binOp .eql 3 (.tmp 47) (.const (.int .i64 5)) 3, none⟩,
  ⟨some 49, .move (.tmp 48), none⟩,
  ⟨some 50, .move (.tmp 1), some (49, true)⟩,
  ⟨some 51, .call ⟨.builtin .len, #[(.tmp 50)], #[34]⟩, some (49, true)⟩,
  ⟨some 52, .binOp .gtr 3 (.tmp 51) (.const (.int .i64 0)) 3, some (49, true)⟩,
  ⟨some 53, .pick (.tmp 49) (.tmp 52) (.const (.bool false)), none⟩,
  ⟨some 39, .assign (.tmp 53), none⟩]
def fS15r8 : SC := .reg [⟨some 54, .move (.tmp 1), none⟩,
  ⟨some 55, .move (.tmp 0), none⟩,
  ⟨some 56, .move (.tmp 1), none⟩,
  ⟨some 57, .call ⟨.builtin .len, #[(.tmp 56)], #[34]⟩, none⟩,
  ⟨some 58, .call ⟨.value (.func 56), #[(.tmp 55), (.tmp 57)], #[30, 3]⟩, none⟩,
  ⟨some 59, .indexAddr 34 (.tmp 54) (.tmp 58), none⟩,
  ⟨some 60, .load 97 (.tmp 59), none⟩,
  ⟨some 10, .alloc 97, none⟩,
  ⟨none, .store 97 (.tmp 10) (.tmp 60), none⟩]
def fS15r9 : SC := .reg [⟨some 11, .assign (.const (.slice none 0 0)), none⟩]
def fS15r10 : SC := .reg [⟨some 12, .assign (.const (.int .i64 0)), none⟩]
def fS15r11 : SC := .reg [⟨some 61, .move (.tmp 12), none⟩,
  ⟨some 62, .fieldAddr 97 (.tmp 10) 2, none⟩,
  ⟨some 63, .load 94 (.tmp 62), none⟩,
  ⟨some 64, .call ⟨.builtin .len, #[(.tmp 63)], #[94]⟩, none⟩,
  ⟨some 65, .binOp .lss 3 (.tmp 61) (.tmp 64) 3, none⟩]
def fS15r12 : SC := .reg [⟨some 68, .move (.tmp 11), none⟩,
  ⟨some 69, .move (.tmp 0), none⟩,
  ⟨some 70, .move (.tmp 1), none⟩,
  ⟨some 71, .move (.tmp 2), none⟩,
  ⟨some 72, .move (.tmp 3), none⟩,
  ⟨some 73, .binOp .sub 3 (.tmp 72) (.const (.int .i64 1)) 3, none⟩,
  ⟨some 74, .call ⟨.value (.func 15), #[(.tmp 69), (.tmp 70), (.tmp 71), (.tmp 73)], #[30, 34, 39, 3]⟩, none⟩,
  ⟨some 75, .buildSlice 39 1 #[(0, (.tmp 74))], none⟩,
  ⟨some 76, .call ⟨.builtin .append, #[(.tmp 68), (.tmp 75)], #[39, 39]⟩, none⟩,
  ⟨some 11, .assign (.tmp 76), none⟩]
def fS15b0 : SC := .block 2 fS15r12
def fS15r13 : SC := .reg [⟨some 66, .move (.tmp 12), none⟩,
  ⟨some 67, .binOp .add 3 (.tmp 66) (.const (.int .i64 1)) 3, none⟩,
  ⟨some 12, .assign (.tmp 67), none⟩]
def fS15l0 : SC := (.seq (.seq fS15r11 (.cond (.tmp 65) .skip (.exit 1))) (.seq fS15b0 fS15r13))
def fS15b1 : SC := .block 1 (.loop fS15l0)
def fS15r14 : SC := .reg [⟨some 77, .fieldAddr 97 (.tmp 10) 1, none⟩,
  ⟨some 78, .load 9 (.tmp 77), none⟩,
  ⟨some 79, .move (.tmp 11), none⟩,
  ⟨some 80, .call ⟨.value (.func 61), #[(.tmp 78), (.tmp 79)], #[9, 39]⟩, none⟩,
  ⟨none, .store 41 (.tmp 8) (.tmp 80), none⟩]
def fS15b2 : SC := .block 0 (.seq fS15r2 (.cond (.tmp 16) (.seq fS15r3 .ret) (.seq fS15r4 (.cond (.tmp 31) (.seq fS15r5 .ret) (.seq (.seq fS15r6 (.cond (.tmp 39) .skip fS15r7)) (.cond (.tmp 39) (.seq fS15r8 (.seq fS15r9 (.seq (.seq fS15r10 fS15b1) (.seq fS15r14 .ret)))) .skip))))))
def fS15r15 : SC := .reg [⟨some 81, .move (.tmp 0), none⟩,
  ⟨some 82, .move (.tmp 1), none⟩,
  ⟨some 83, .move (.tmp 2), none⟩,
  ⟨some 84, .move (.tmp 3), none⟩,
  ⟨some 85, .binOp .sub 3 (.tmp 84) (.const (.int .i64 1)) 3, none⟩,
  ⟨some 86, .call ⟨.value (.func 15), #[(.tmp 81), (.tmp 82), (.tmp 83), (.tmp 85)], #[30, 34, 39, 3]⟩, none⟩,
  ⟨some 13, .alloc 41, none⟩,
  ⟨none, .store 41 (.tmp 13) (.tmp 86), none⟩]
def fS15r16 : SC := .draw [⟨some 87, .load 41 (.tmp 13), none, [13]⟩,
  ⟨some 88, .move (.tmp 0), none, [0]⟩,
  ⟨some 89, .move (.tmp 1), none, [1]⟩,
  ⟨some 90, .move (.tmp 2), none, [2]⟩,
  ⟨some 91, .move (.tmp 3), none, [3]⟩,
  ⟨some 92, .binOp .sub 3 (.tmp 91) (.const (.int .i64 1)) 3, none, [91]⟩,
  ⟨some 93, .call ⟨.value (.func 15), #[(.tmp 88), (.tmp 89), (.tmp 90), (.tmp 92)], #[30, 34, 39, 3]⟩, none, [88, 89, 90, 92]⟩,
  ⟨some 94, .call ⟨.value (.func 62), #[(.tmp 87), (.tmp 93)], #[41, 41]⟩, none, [87, 93]⟩,
  ⟨none, .store 41 (.tmp 8) (.tmp 94), none, [8, 94]⟩] [0, 0, 0, 0, 0, 16, 62, 127, 255]
def fS15 : SC := (.seq fS15r0 (.seq fS15r1 (.seq fS15b2 (.seq fS15r15 (.seq fS15r16 .ret)))))
theorem fB15 : Tryz.f15.body.bind stripC = some fS15 := by kernel_rfl
/-! ref3_Replace: function 25, 53 temporaries. -/
def fS25r0 : SC := .reg [⟨some 2, .box 41 (.tmp 0), none⟩,
  ⟨some 4, .alloc 41, none⟩]
def fS25r1 : SC := .reg [⟨some 8, .fieldAddr 41 (.tmp 2) 0, none⟩,
  ⟨some 9, .load 3 (.tmp 8), none⟩,
  ⟨some 10, .binOp .eql 3 (.tmp 9) (.const (.int .i64 1)) 3, none⟩]
def fS25r2 : SC := .reg [⟨some 5, .assign (.const (.int .i64 0)), none⟩]
def fS25r3 : SC := .reg [⟨some 11, .move (.tmp 5), none⟩,
  ⟨some 12, .move (.tmp 1), none⟩,
  ⟨some 13, .call ⟨.builtin .len, #[(.tmp 12)], #[49]⟩, none⟩,
  ⟨some 14, .binOp .lss 3 (.tmp 11) (.tmp 13) 3, none⟩]
def fS25r4 : SC := .draw [⟨some 17, .move (.tmp 1), none, [1]⟩,
  ⟨some 18, .move (.tmp 5), none, [5]⟩,
  ⟨some 19, .indexAddr 49 (.tmp 17) (.tmp 18), none, [17, 18]⟩,
  ⟨some 20, .fieldAddr 65 (.tmp 19) 0, none, [19]⟩,
  ⟨some 21, .load 3 (.tmp 20), none, [20]⟩,
  ⟨some 22, .fieldAddr 41 (.tmp 2) 2, none, [2]⟩,
  ⟨some 23, .load 3 (.tmp 22), none, [22]⟩,
  ⟨some 24, .binOp .eql 3 (.tmp 21) (.tmp 23) 3, none, [21, 23]⟩] [0, 0, 3, 7, 15, 0, 32, 127]
def fS25r5 : SC := .reg [⟨some 25, .move (.tmp 1), none⟩,
  ⟨some 26, .move (.tmp 5), none⟩,
  ⟨some 27, .indexAddr 49 (.tmp 25) (.tmp 26), none⟩,
  ⟨some 28, .fieldAddr 65 (.tmp 27) 1, none⟩,
  ⟨some 29, .load 41 (.tmp 28), none⟩,
  ⟨none, .store 41 (.tmp 4) (.tmp 29), none⟩]
def fS25b0 : SC := .block 1 (.seq fS25r4 (.cond (.tmp 24) (.seq fS25r5 .ret) .skip))
def fS25r6 : SC := .reg [⟨some 15, .move (.tmp 5), none⟩,
  ⟨some 16, .binOp .add 3 (.tmp 15) (.const (.int .i64 1)) 3, none⟩,
  ⟨some 5, .assign (.tmp 16), none⟩]
def fS25l0 : SC := (.seq (.seq fS25r3 (.cond (.tmp 14) .skip (.exit 0))) (.seq fS25b0 fS25r6))
def fS25b1 : SC := .block 0 (.loop fS25l0)
def fS25r7 : SC := .reg [⟨some 30, .load 41 (.tmp 2), none⟩,
  ⟨none, .store 41 (.tmp 4) (.tmp 30), none⟩]
def fS25r8 : SC := .reg [⟨some 31, .load 41 (.tmp 2), none⟩,
  ⟨some 6, .alloc 41, none⟩,
  ⟨none, .store 41 (.tmp 6) (.tmp 31), none⟩]
def fS25r9 : SC := .reg [⟨some 32, .fieldAddr 41 (.tmp 6) 4, none⟩,
  ⟨none, .store 39 (.tmp 32) (.const (.slice none 0 0)), none⟩]
def fS25r10 : SC := .reg [⟨some 7, .assign (.const (.int .i64 0)), none⟩]
def fS25r11 : SC := .reg [⟨some 33, .move (.tmp 7), none⟩,
  ⟨some 34, .fieldAddr 41 (.tmp 2) 4, none⟩,
  ⟨some 35, .load 39 (.tmp 34), none⟩,
  ⟨some 36, .call ⟨.builtin .len, #[(.tmp 35)], #[39]⟩, none⟩,
  ⟨some 37, .binOp .lss 3 (.tmp 33) (.tmp 36) 3, none⟩]
def fS25r12 : SC := .draw [⟨some 40, .fieldAddr 41 (.tmp 6) 4, none, [6]⟩,
  ⟨some 41, .load 39 (.tmp 40), none, [40]⟩,
  ⟨some 42, .fieldAddr 41 (.tmp 2) 4, none, [2]⟩,
  ⟨some 43, .load 39 (.tmp 42), none, [42]⟩,
  ⟨some 44, .move (.tmp 7), none, [7]⟩,
  ⟨some 45, .indexAddr 39 (.tmp 43) (.tmp 44), none, [43, 44]⟩,
  ⟨some 46, .load 41 (.tmp 45), none, [45]⟩,
  ⟨some 47, .move (.tmp 1), none, [1]⟩,
  ⟨some 48, .call ⟨.value (.func 25), #[(.tmp 46), (.tmp 47)], #[41, 49]⟩, none, [46, 47]⟩,
  ⟨some 49, .buildSlice 39 1 #[(0, (.tmp 48))], none, [48]⟩,
  ⟨some 50, .call ⟨.builtin .append, #[(.tmp 41), (.tmp 49)], #[39, 39]⟩, none, [41, 49]⟩,
  ⟨some 51, .fieldAddr 41 (.tmp 6) 4, none, [6]⟩,
  ⟨none, .store 39 (.tmp 51) (.tmp 50), none, [51, 50]⟩] [0, 1, 0, 4, 0, 28, 60, 0, 252, 508, 1023, 2047, 4095]
def fS25b2 : SC := .block 3 fS25r12
def fS25r13 : SC := .reg [⟨some 38, .move (.tmp 7), none⟩,
  ⟨some 39, .binOp .add 3 (.tmp 38) (.const (.int .i64 1)) 3, none⟩,
  ⟨some 7, .assign (.tmp 39), none⟩]
def fS25l1 : SC := (.seq (.seq fS25r11 (.cond (.tmp 37) .skip (.exit 2))) (.seq fS25b2 fS25r13))
def fS25b3 : SC := .block 2 (.loop fS25l1)
def fS25r14 : SC := .reg [⟨some 52, .load 41 (.tmp 6), none⟩,
  ⟨none, .store 41 (.tmp 4) (.tmp 52), none⟩]
def fS25 : SC := (.seq fS25r0 (.seq (.seq fS25r1 (.cond (.tmp 10) (.seq (.seq fS25r2 fS25b1) (.seq fS25r7 .ret)) .skip)) (.seq fS25r8 (.seq fS25r9 (.seq (.seq fS25r10 fS25b3) (.seq fS25r14 .ret))))))
theorem fB25 : Tryz.f25.body.bind stripC = some fS25 := by kernel_rfl
/-! types_Var: function 86, 5 temporaries. -/
def fS86r0 : SC := .reg [⟨some 2, .alloc 41, none⟩]
def fS86r1 : SC := .reg [⟨some 3, .move (.tmp 0), none⟩,
  ⟨some 4, .build 41 #[(0, (.const (.int .i64 1))), (2, (.tmp 3))], none⟩,
  ⟨none, .store 41 (.tmp 2) (.tmp 4), none⟩]
def fS86 : SC := (.seq fS86r0 (.seq fS86r1 .ret))
theorem fB86 : Tryz.f86.body.bind stripC = some fS86 := by kernel_rfl
/-! types_Replace_1: function 160, 24 temporaries. -/
def fS160r0 : SC := .reg [⟨some 2, .box 41 (.tmp 0), none⟩,
  ⟨some 3, .alloc 41, none⟩]
def fS160r1 : SC := .reg [⟨some 6, .fieldAddr 41 (.tmp 2) 0, none⟩,
  ⟨some 7, .load 3 (.tmp 6), none⟩,
  ⟨some 8, .binOp .eql 3 (.tmp 7) (.const (.int .i64 1)) 3, none⟩]
def fS160r2 : SC := .reg [⟨some 9, .load 49 (.tmp 1), none⟩,
  ⟨some 10, .call ⟨.builtin .len, #[(.tmp 9)], #[49]⟩, none⟩,
  ⟨some 11, .move (.const (.int .i64 0)), none⟩]
def fS160r3 : SC := .reg [⟨some 12, .binOp .lss 3 (.tmp 11) (.tmp 10) 3, none⟩]
def fS160r4 : SC := .reg [⟨some 13, .indexAddr 49 (.tmp 9) (.tmp 11), none⟩,
  ⟨some 14, .load 65 (.tmp 13), none⟩,
  ⟨some 5, .alloc 65, none⟩,
  ⟨none, .store 65 (.tmp 5) (.tmp 14), none⟩]
def fS160r5 : SC := .reg [⟨some 15, .fieldAddr 65 (.tmp 5) 0, none⟩,
  ⟨some 16, .load 3 (.tmp 15), none⟩,
  ⟨some 17, .fieldAddr 41 (.tmp 2) 2, none⟩,
  ⟨some 18, .load 3 (.tmp 17), none⟩,
  ⟨some 19, .binOp .eql 3 (.tmp 16) (.tmp 18) 3, none⟩]
def fS160r6 : SC := .reg [⟨some 20, .fieldAddr 65 (.tmp 5) 1, none⟩,
  ⟨some 21, .load 41 (.tmp 20), none⟩,
  ⟨none, .store 41 (.tmp 3) (.tmp 21), none⟩]
def fS160b0 : SC := .block 1 (.seq fS160r4 (.seq fS160r5 (.cond (.tmp 19) (.seq fS160r6 .ret) .skip)))
def fS160r7 : SC := .reg [⟨some 22, .binOp .add 3 (.tmp 11) (.const (.int .i64 1)) 3, none⟩,
  ⟨some 11, .move (.tmp 22), none⟩]
def fS160l0 : SC := (.seq fS160r3 (.seq (.cond (.tmp 12) .skip (.exit 0)) (.seq fS160b0 fS160r7)))
def fS160b1 : SC := .block 0 (.loop fS160l0)
def fS160r8 : SC := .reg [⟨some 23, .load 41 (.tmp 2), none⟩,
  ⟨none, .store 41 (.tmp 3) (.tmp 23), none⟩]
def fS160 : SC := (.seq fS160r0 (.seq (.seq fS160r1 (.cond (.tmp 8) (.seq fS160r2 fS160b1) .skip)) (.seq fS160r8 .ret)))
theorem fB160 : Tryz.f160.body.bind stripC = some fS160 := by kernel_rfl
/-! types_rebuild: function 159, 37 temporaries. -/
def fS159r0 : SC := .reg [⟨some 2, .box 41 (.tmp 0), none⟩,
  ⟨some 4, .alloc 41, none⟩]
def fS159r1 : SC := .reg [⟨some 8, .fieldAddr 41 (.tmp 2) 4, none⟩,
  ⟨some 9, .load 39 (.tmp 8), none⟩,
  ⟨some 10, .call ⟨.builtin .len, #[(.tmp 9)], #[39]⟩, none⟩,
  ⟨some 11, .binOp .eql 3 (.tmp 10) (.const (.int .i64 0)) 3, none⟩]
def fS159r2 : SC := .reg [⟨some 12, .move (.tmp 1), none⟩,
  ⟨some 13, .load 41 (.tmp 2), none⟩,
  ⟨some 14, .call ⟨.value (.tmp 12), #[(.tmp 13)], #[41]⟩, none⟩,
  ⟨none, .store 41 (.tmp 4) (.tmp 14), none⟩]
def fS159r3 : SC := .reg [⟨some 15, .fieldAddr 41 (.tmp 2) 4, none⟩,
  ⟨some 16, .load 39 (.tmp 15), none⟩,
  ⟨some 17, .call ⟨.builtin .len, #[(.tmp 16)], #[39]⟩, none⟩,
  ⟨some 18, .makeSlice 39 (.tmp 17) (.tmp 17), none⟩,
  ⟨some 5, .assign (.tmp 18), none⟩]
def fS159r4 : SC := .reg [⟨some 19, .fieldAddr 41 (.tmp 2) 4, none⟩,
  ⟨some 20, .load 39 (.tmp 19), none⟩,
  ⟨some 21, .call ⟨.builtin .len, #[(.tmp 20)], #[39]⟩, none⟩,
  ⟨some 22, .move (.const (.int .i64 0)), none⟩]
def fS159r5 : SC := .reg [⟨some 23, .binOp .lss 3 (.tmp 22) (.tmp 21) 3, none⟩]
def fS159r6 : SC := .reg [⟨some 24, .move (.tmp 22), none⟩,
  ⟨some 25, .indexAddr 39 (.tmp 20) (.tmp 22), none⟩,
  ⟨some 26, .load 41 (.tmp 25), none⟩,
  ⟨some 7, .alloc 41, none⟩,
  ⟨some 6, .assign (.tmp 24), none⟩,
  ⟨none, .store 41 (.tmp 7) (.tmp 26), none⟩]
def fS159r7 : SC := .reg [⟨some 27, .move (.tmp 5), none⟩,
  ⟨some 28, .move (.tmp 6), none⟩,
  ⟨some 29, .load 41 (.tmp 7), none⟩,
  ⟨some 30, .move (.tmp 1), none⟩,
  ⟨some 31, .call ⟨.value (.func 159), #[(.tmp 29), (.tmp 30)], #[41, 165]⟩, none⟩,
  ⟨some 32, .indexAddr 39 (.tmp 27) (.tmp 28), none⟩,
  ⟨none, .store 41 (.tmp 32) (.tmp 31), none⟩]
def fS159b0 : SC := .block 1 (.seq fS159r6 fS159r7)
def fS159r8 : SC := .reg [⟨some 33, .binOp .add 3 (.tmp 22) (.const (.int .i64 1)) 3, none⟩,
  ⟨some 22, .move (.tmp 33), none⟩]
def fS159l0 : SC := (.seq fS159r5 (.seq (.cond (.tmp 23) .skip (.exit 0)) (.seq fS159b0 fS159r8)))
def fS159b1 : SC := .block 0 (.loop fS159l0)
def fS159r9 : SC := .reg [⟨some 34, .move (.tmp 5), none⟩,
  ⟨some 35, .fieldAddr 41 (.tmp 2) 4, none⟩,
  ⟨none, .store 39 (.tmp 35) (.tmp 34), none⟩]
def fS159r10 : SC := .reg [⟨some 36, .load 41 (.tmp 2), none⟩,
  ⟨none, .store 41 (.tmp 4) (.tmp 36), none⟩]
def fS159 : SC := (.seq fS159r0 (.seq (.seq fS159r1 (.cond (.tmp 11) (.seq fS159r2 .ret) .skip)) (.seq fS159r3 (.seq (.seq fS159r4 fS159b1) (.seq fS159r9 (.seq fS159r10 .ret))))))
theorem fB159 : Tryz.f159.body.bind stripC = some fS159 := by kernel_rfl
/-! types_Replace: function 130, 8 temporaries. -/
def fS130r0 : SC := .reg [⟨some 2, .box 41 (.tmp 0), none⟩,
  ⟨some 3, .box 49 (.tmp 1), none⟩,
  ⟨some 4, .alloc 41, none⟩]
def fS130r1 : SC := .reg [⟨some 5, .load 41 (.tmp 2), none⟩,
  ⟨some 6, .makeFunc (.func 160) #[] #[(.tmp 3)], none⟩,
  ⟨some 7, .call ⟨.value (.func 159), #[(.tmp 5), (.tmp 6)], #[41, 165]⟩, none⟩,
  ⟨none, .store 41 (.tmp 4) (.tmp 7), none⟩]
def fS130 : SC := (.seq fS130r0 (.seq fS130r1 .ret))
theorem fB130 : Tryz.f130.body.bind stripC = some fS130 := by kernel_rfl
/-! slices_CompareFunc__api_Type_api_Typeapi_Typeapi_Type: function 148, 39 temporaries. -/
def fS148r0 : SC := .reg [⟨some 6, .assign (.const (.int .i64 0)), none⟩]
def fS148r1 : SC := .reg [⟨some 11, .move (.tmp 0), none⟩,
  ⟨some 12, .call ⟨.builtin .len, #[(.tmp 11)], #[39]⟩, none⟩,
  ⟨some 13, .move (.const (.int .i64 0)), none⟩]
def fS148r2 : SC := .reg [⟨some 14, .binOp .lss 3 (.tmp 13) (.tmp 12) 3, none⟩]
def fS148r3 : SC := .reg [⟨some 15, .move (.tmp 13), none⟩,
  ⟨some 16, .indexAddr 39 (.tmp 11) (.tmp 13), none⟩,
  ⟨some 17, .load 41 (.tmp 16), none⟩,
  ⟨some 8, .alloc 41, none⟩,
  ⟨some 7, .assign (.tmp 15), none⟩,
  ⟨none, .store 41 (.tmp 8) (.tmp 17), none⟩]
def fS148r4 : SC := .reg [⟨some 18, .move (.tmp 7), none⟩,
  ⟨some 19, .move (.tmp 1), none⟩,
  ⟨some 20, .call ⟨.builtin .len, #[(.tmp 19)], #[39]⟩, none⟩,
  ⟨some 21, .binOp .geq 3 (.tmp 18) (.tmp 20) 3, none⟩]
def fS148r5 : SC := .reg [⟨some 6, .assign (.const (.int .i64 1)), none⟩]
def fS148r6 : SC := .reg [⟨some 22, .move (.tmp 1), none⟩,
  ⟨some 23, .move (.tmp 7), none⟩,
  ⟨some 24, .indexAddr 39 (.tmp 22) (.tmp 23), none⟩,
  ⟨some 25, .load 41 (.tmp 24), none⟩,
  ⟨some 9, .alloc 41, none⟩,
  ⟨none, .store 41 (.tmp 9) (.tmp 25), none⟩]
def fS148r7 : SC := .reg [⟨some 26, .move (.tmp 2), none⟩,
  ⟨some 27, .load 41 (.tmp 8), none⟩,
  ⟨some 28, .load 41 (.tmp 9), none⟩,
  ⟨some 29, .call ⟨.value (.tmp 26), #[(.tmp 27), (.tmp 28)], #[41, 41]⟩, none⟩,
  ⟨some 10, .assign (.tmp 29), none⟩]
def fS148r8 : SC := .reg [⟨some 30, .move (.tmp 10), none⟩,
  ⟨some 31, .binOp .neq 3 (.tmp 30) (.const (.int .i64 0)) 3, none⟩]
def fS148r9 : SC := .reg [⟨some 32, .move (.tmp 10), none⟩,
  ⟨some 6, .assign (.tmp 32), none⟩]
def fS148b0 : SC := .block 1 (.seq fS148r3 (.seq (.seq fS148r4 (.cond (.tmp 21) (.seq fS148r5 .ret) .skip)) (.seq fS148r6 (.seq fS148r7 (.seq fS148r8 (.cond (.tmp 31) (.seq fS148r9 .ret) .skip))))))
def fS148r10 : SC := .reg [⟨some 33, .binOp .add 3 (.tmp 13) (.const (.int .i64 1)) 3, none⟩,
  ⟨some 13, .move (.tmp 33), none⟩]
def fS148l0 : SC := (.seq fS148r2 (.seq (.cond (.tmp 14) .skip (.exit 0)) (.seq fS148b0 fS148r10)))
def fS148b1 : SC := .block 0 (.loop fS148l0)
def fS148r11 : SC := .reg [⟨some 34, .move (.tmp 0), none⟩,
  ⟨some 35, .call ⟨.builtin .len, #[(.tmp 34)], #[39]⟩, none⟩,
  ⟨some 36, .move (.tmp 1), none⟩,
  ⟨some 37, .call ⟨.builtin .len, #[(.tmp 36)], #[39]⟩, none⟩,
  ⟨some 38, .binOp .lss 3 (.tmp 35) (.tmp 37) 3, none⟩]
def fS148r12 : SC := .reg [⟨some 6, .assign (.const (.int .i64 (-1))), none⟩]
def fS148r13 : SC := .reg [⟨some 6, .assign (.const (.int .i64 0)), none⟩]
def fS148 : SC := (.seq fS148r0 (.seq (.seq fS148r1 fS148b1) (.seq (.seq fS148r11 (.cond (.tmp 38) (.seq fS148r12 .ret) .skip)) (.seq fS148r13 .ret))))
theorem fB148 : Tryz.f148.body.bind stripC = some fS148 := by kernel_rfl
/-! law15_made: function 20, 49 temporaries. -/
def fS20r0 : SC := .reg [⟨some 4, .alloc 41, none⟩,
  ⟨some 5, .alloc 41, none⟩,
  ⟨some 6, .alloc 41, none⟩,
  ⟨some 7, .assign (.const (.pointer none)), none⟩]
def fS20r1 : SC := .reg [⟨some 13, .move (.tmp 1), none⟩,
  ⟨some 14, .build 32 #[(0, (.tmp 13))], none⟩,
  ⟨some 15, .box 32 (.tmp 14), none⟩,
  ⟨some 8, .assign (.tmp 15), none⟩]
def fS20r2 : SC := .reg [⟨some 16, .move (.tmp 0), none⟩,
  ⟨some 17, .call ⟨.value (.func 12), #[(.tmp 16)], #[3]⟩, none⟩,
  ⟨some 9, .assign (.tmp 17), none⟩]
def fS20r3 : SC := .reg [⟨some 18, .move (.tmp 8), none⟩,
  ⟨some 19, .move (.tmp 9), none⟩,
  ⟨some 20, .call ⟨.value (.func 16), #[(.const (.int .i64 3))], #[3]⟩, none⟩,
  ⟨some 21, .call ⟨.value (.func 58), #[(.const (.int .i64 0)), (.const (.int .i64 0))], #[3, 3]⟩, none⟩,
  ⟨some 22, .buildSlice 39 1 #[(0, (.tmp 21))], none⟩,
  ⟨some 23, .call ⟨.builtin .append, #[(.tmp 20), (.tmp 22)], #[39, 39]⟩, none⟩,
  ⟨some 24, .call ⟨.value (.func 15), #[(.tmp 18), (.tmp 19), (.tmp 23), (.const (.int .i64 2))], #[30, 34, 39, 3]⟩, none⟩,
  ⟨some 10, .alloc 41, none⟩,
  ⟨none, .store 41 (.tmp 10) (.tmp 24), none⟩]
def fS20r4 : SC := .draw [⟨some 25, .load 41 (.tmp 10), none, [10]⟩,
  ⟨some 26, .move (.tmp 8), none, [8]⟩,
  ⟨some 27, .move (.tmp 9), none, [9]⟩,
  ⟨some 28, .call ⟨.value (.func 42), #[(.tmp 26), (.tmp 27), (.const (.int .i64 3))], #[30, 34, 3]⟩, none, [26, 27]⟩,
  ⟨some 29, .call ⟨.value (.func 25), #[(.tmp 25), (.tmp 28)], #[41, 49]⟩, none, [25, 28]⟩,
  ⟨some 11, .alloc 41, none, []⟩,
  ⟨none, .store 41 (.tmp 11) (.tmp 29), none, [11, 29]⟩] [0, 0, 0, 6, 15, 0, 63]
def fS20r5 : SC := .draw [⟨some 30, .load 41 (.tmp 10), none, [10]⟩,
  ⟨some 31, .move (.tmp 8), none, [8]⟩,
  ⟨some 32, .move (.tmp 9), none, [9]⟩,
  ⟨some 33, .call ⟨.value (.func 42), #[(.tmp 31), (.tmp 32), (.const (.int .i64 3))], #[30, 34, 3]⟩, none, [31, 32]⟩,
  ⟨some 34, .call ⟨.value (.func 25), #[(.tmp 30), (.tmp 33)], #[41, 49]⟩, none, [30, 33]⟩,
  ⟨some 12, .alloc 41, none, []⟩,
  ⟨none, .store 41 (.tmp 12) (.tmp 34), none, [12, 34]⟩] [0, 0, 0, 6, 15, 0, 63]
def fS20r6 : SC := .reg [⟨some 35, .move (.tmp 8), none⟩,
  ⟨some 36, .call ⟨.value (.func 56), #[(.tmp 35), (.const (.int .i64 3))], #[30, 3]⟩, none⟩,
  ⟨some 37, .binOp .eql 3 (.tmp 36) (.const (.int .i64 0)) 3, none⟩]
def fS20r7 : SC := .reg [⟨some 38, .move (.tmp 8), none⟩,
  ⟨some 39, .move (.tmp 9), none⟩,
  ⟨some 40, .call ⟨.value (.func 16), #[(.const (.int .i64 3))], #[3]⟩, none⟩,
  ⟨some 41, .call ⟨.value (.func 58), #[(.const (.int .i64 0)), (.const (.int .i64 1))], #[3, 3]⟩, none⟩,
  ⟨some 42, .buildSlice 39 1 #[(0, (.tmp 41))], none⟩,
  ⟨some 43, .call ⟨.builtin .append, #[(.tmp 40), (.tmp 42)], #[39, 39]⟩, none⟩,
  ⟨some 44, .call ⟨.value (.func 15), #[(.tmp 38), (.tmp 39), (.tmp 43), (.const (.int .i64 2))], #[30, 34, 39, 3]⟩, none⟩,
  ⟨none, .store 41 (.tmp 12) (.tmp 44), none⟩]
def fS20r8 : SC := .draw [⟨some 45, .load 41 (.tmp 11), none, [11]⟩,
  ⟨some 46, .load 41 (.tmp 12), none, [12]⟩,
  ⟨some 47, .load 41 (.tmp 10), none, [10]⟩,
  ⟨some 48, .move (.tmp 8), none, [8]⟩,
  ⟨none, .store 41 (.tmp 4) (.tmp 45), none, [4, 45]⟩,
  ⟨none, .store 41 (.tmp 5) (.tmp 46), none, [5, 46]⟩,
  ⟨none, .store 41 (.tmp 6) (.tmp 47), none, [6, 47]⟩,
  ⟨some 7, .assign (.tmp 48), none, [48]⟩] [0, 0, 0, 0, 1, 19, 55, 127]
def fS20 : SC := (.seq fS20r0 (.seq fS20r1 (.seq fS20r2 (.seq fS20r3 (.seq fS20r4 (.seq fS20r5 (.seq (.seq fS20r6 (.cond (.tmp 37) fS20r7 .skip)) (.seq fS20r8 .ret))))))))
theorem fB20 : Tryz.f20.body.bind stripC = some fS20 := by kernel_rfl
/-! make_Tape_Subst: function 42, 32 temporaries. -/
def fS42r0 : SC := .reg [⟨some 6, .assign (.const (.slice none 0 0)), none⟩]
def fS42r1 : SC := .reg [⟨some 7, .assign (.const (.slice none 0 0)), none⟩]
def fS42r2 : SC := .reg [⟨some 8, .assign (.const (.int .i64 0)), none⟩]
def fS42r3 : SC := .reg [⟨some 9, .move (.tmp 8), none⟩,
  ⟨some 10, .move (.tmp 2), none⟩,
  ⟨some 11, .binOp .lss 3 (.tmp 9) (.tmp 10) 3, none⟩]
def fS42r4 : SC := .reg [⟨some 14, .move (.tmp 0), none⟩,
  ⟨some 15, .call ⟨.value (.func 56), #[(.tmp 14), (.const (.int .i64 3))], #[30, 3]⟩, none⟩,
  ⟨some 16, .binOp .gtr 3 (.tmp 15) (.const (.int .i64 0)) 3, none⟩]
def fS42r5 : SC := .reg [⟨some 17, .move (.tmp 7), none⟩,
  ⟨some 18, .move (.tmp 8), none⟩,
  ⟨some 19, .move (.tmp 0), none⟩,
  ⟨some 20, .move (.tmp 1), none⟩,
  ⟨some 21, .move (.tmp 2), none⟩,
  ⟨some 22, .binOp .add 3 (.tmp 21) (.const (.int .i64 1)) 3, none⟩,
  ⟨some 23, .call ⟨.value (.func 16), #[(.tmp 22)], #[3]⟩, none⟩,
  ⟨some 24, .call ⟨.value (.func 58), #[(.const (.int .i64 (-1))), (.const (.int .i64 0))], #[3, 3]⟩, none⟩,
  ⟨some 25, .buildSlice 39 1 #[(0, (.tmp 24))], none⟩,
  ⟨some 26, .call ⟨.builtin .append, #[(.tmp 23), (.tmp 25)], #[39, 39]⟩, none⟩,
  ⟨some 27, .call ⟨.value (.func 15), #[(.tmp 19), (.tmp 20), (.tmp 26), (.const (.int .i64 1))], #[30, 34, 39, 3]⟩, none⟩,
  ⟨some 28, .build 65 #[(0, (.tmp 18)), (1, (.tmp 27))], none⟩,
  ⟨some 29, .buildSlice 49 1 #[(0, (.tmp 28))], none⟩,
  ⟨some 30, .call ⟨.builtin .append, #[(.tmp 17), (.tmp 29)], #[49, 49]⟩, none⟩,
  ⟨some 7, .assign (.tmp 30), none⟩]
def fS42b0 : SC := .block 1 (.seq fS42r4 (.cond (.tmp 16) fS42r5 .skip))
def fS42r6 : SC := .reg [⟨some 12, .move (.tmp 8), none⟩,
  ⟨some 13, .binOp .add 3 (.tmp 12) (.const (.int .i64 1)) 3, none⟩,
  ⟨some 8, .assign (.tmp 13), none⟩]
def fS42l0 : SC := (.seq (.seq fS42r3 (.cond (.tmp 11) .skip (.exit 0))) (.seq fS42b0 fS42r6))
def fS42b1 : SC := .block 0 (.loop fS42l0)
def fS42r7 : SC := .reg [⟨some 31, .move (.tmp 7), none⟩,
  ⟨some 6, .assign (.tmp 31), none⟩]
def fS42 : SC := (.seq fS42r0 (.seq fS42r1 (.seq (.seq fS42r2 fS42b1) (.seq fS42r7 .ret))))
theorem fB42 : Tryz.f42.body.bind stripC = some fS42 := by kernel_rfl
/-! lattice_Leq: function 27, 14 temporaries. -/
def fS27r0 : SC := .reg [⟨some 2, .box 41 (.tmp 0), none⟩,
  ⟨some 3, .box 41 (.tmp 1), none⟩,
  ⟨some 4, .assign (.const (.bool false)), none⟩]
def fS27r1 : SC := .reg [⟨some 8, .load 41 (.tmp 3), none⟩,
  ⟨some 9, .load 41 (.tmp 2), none⟩,
  ⟨some 10, .call ⟨.value (.func 79), #[(.tmp 8), (.tmp 9), (.const (.slice none 0 0))], #[41, 41, 49]⟩, none⟩,
  ⟨some 7, .move (.tmp 10), none⟩,
  ⟨some 11, .extract (.tmp 7) 0, none⟩,
  ⟨some 12, .extract (.tmp 7) 1, none⟩,
  ⟨some 5, .assign (.tmp 11), none⟩,
  ⟨some 6, .assign (.tmp 12), none⟩]
def fS27r2 : SC := .reg [⟨some 13, .move (.tmp 6), none⟩,
  ⟨some 4, .assign (.tmp 13), none⟩]
def fS27 : SC := (.seq fS27r0 (.seq fS27r1 (.seq fS27r2 .ret)))
theorem fB27 : Tryz.f27.body.bind stripC = some fS27 := by kernel_rfl
/-! lattice_Match: function 79, 21 temporaries. -/
def fS79r0 : SC := .reg [⟨some 3, .box 41 (.tmp 0), none⟩,
  ⟨some 4, .box 41 (.tmp 1), none⟩,
  ⟨some 6, .assign (.const (.slice none 0 0)), none⟩,
  ⟨some 7, .assign (.const (.bool false)), none⟩]
def fS79r1 : SC := .draw [⟨some 11, .load 41 (.tmp 3), none, [3]⟩,
  ⟨some 12, .load 41 (.tmp 4), none, [4]⟩,
  ⟨some 13, .move (.tmp 2), none, [2]⟩,
  ⟨some 14, .call ⟨.value (.func 124), #[(.tmp 13)], #[49]⟩, none, [13]⟩,
  ⟨some 15, .call ⟨.value (.func 123), #[(.tmp 11), (.tmp 12), (.tmp 14)], #[41, 41, 49]⟩, none, [11, 12, 14]⟩,
  ⟨some 10, .move (.tmp 15), none, [15]⟩,
  ⟨some 16, .extract (.tmp 10) 0, none, [10]⟩,
  ⟨some 17, .extract (.tmp 10) 1, none, [10]⟩,
  ⟨some 8, .assign (.tmp 16), none, [16]⟩,
  ⟨some 9, .assign (.tmp 17), none, [17]⟩] [0, 0, 0, 4, 15, 31, 63, 63, 127, 511]
def fS79r2 : SC := .reg [⟨some 18, .move (.tmp 9), none⟩,
  ⟨some 19, .unOp .not 4 (.tmp 18), none⟩]
def fS79r3 : SC := .reg [⟨some 6, .assign (.const (.slice none 0 0)), none⟩,
  ⟨some 7, .assign (.const (.bool false)), none⟩]
def fS79r4 : SC := .reg [⟨some 20, .move (.tmp 8), none⟩,
  ⟨some 6, .assign (.tmp 20), none⟩,
  ⟨some 7, .assign (.const (.bool true)), none⟩]
def fS79 : SC := (.seq fS79r0 (.seq fS79r1 (.seq (.seq fS79r2 (.cond (.tmp 19) (.seq fS79r3 .ret) .skip)) (.seq fS79r4 .ret))))
theorem fB79 : Tryz.f79.body.bind stripC = some fS79 := by kernel_rfl
/-! lattice_match: function 123, 59 temporaries. -/
def fS123r0 : SC := .reg [⟨some 3, .box 41 (.tmp 0), none⟩,
  ⟨some 4, .box 41 (.tmp 1), none⟩,
  ⟨some 6, .assign (.const (.slice none 0 0)), none⟩,
  ⟨some 7, .assign (.const (.bool false)), none⟩]
def fS123r1 : SC := .reg [⟨some 10, .fieldAddr 41 (.tmp 3) 0, none⟩,
  ⟨some 11, .load 3 (.tmp 10), none⟩,
  ⟨some 12, .binOp .eql 3 (.tmp 11) (.const (.int .i64 1)) 3, none⟩]
def fS123r2 : SC := .reg [⟨some 13, .move (.tmp 2), none⟩,
  ⟨some 14, .makeFunc (.func 156) #[] #[(.tmp 3)], none⟩,
  ⟨some 15, .call ⟨.value (.func 155), #[(.tmp 13), (.tmp 14)], #[49, 197]⟩, none⟩]
def fS123r3 : SC := .draw [⟨some 16, .move (.tmp 2), none, [2]⟩,
  ⟨some 17, .move (.tmp 2), none, [2]⟩,
  ⟨some 18, .load 41 (.tmp 3), none, [3]⟩,
  ⟨some 19, .call ⟨.value (.func 95), #[(.tmp 17), (.tmp 18)], #[49, 41]⟩, none, [17, 18]⟩,
  ⟨some 20, .load 41 (.tmp 4), none, [4]⟩,
  ⟨some 21, .call ⟨.value (.func 63), #[(.tmp 19), (.tmp 20)], #[41, 41]⟩, none, [19, 20]⟩,
  ⟨some 6, .assign (.tmp 16), none, [16]⟩,
  ⟨some 7, .assign (.tmp 21), none, [21]⟩] [0, 0, 0, 6, 0, 30, 63, 127]
def fS123r4 : SC := .reg [⟨some 22, .move (.tmp 2), none⟩,
  ⟨some 23, .fieldAddr 41 (.tmp 3) 2, none⟩,
  ⟨some 24, .load 3 (.tmp 23), none⟩,
  ⟨some 25, .load 41 (.tmp 4), none⟩,
  ⟨some 26, .build 65 #[(0, (.tmp 24)), (1, (.tmp 25))], none⟩,
  ⟨some 27, .buildSlice 49 1 #[(0, (.tmp 26))], none⟩,
  ⟨some 28, .call ⟨.builtin .append, #[(.tmp 22), (.tmp 27)], #[49, 49]⟩, none⟩,
  ⟨some 6, .assign (.tmp 28), none⟩,
  ⟨some 7, .assign (.const (.bool true)), none⟩]
def fS123r5 : SC := .reg [⟨some 29, .load 41 (.tmp 3), none⟩,
  ⟨some 30, .load 41 (.tmp 4), none⟩,
  ⟨some 31, .call ⟨.value (.func 119), #[(.tmp 29), (.tmp 30)], #[41, 41]⟩, none⟩,
  ⟨some 8, .assign (.tmp 31), none⟩]
def fS123r6 : SC := .reg [⟨some 9, .assign (.const (.int .i64 0)), none⟩]
def fS123r7 : SC := .reg [⟨some 32, .move (.tmp 8), none⟩,
  ⟨some 33, .move (.tmp 32), none⟩,
  ⟨some 34, .move (.tmp 9), some (33, true)⟩,
  ⟨some 35, .fieldAddr 41 (.tmp 4) 4, some (33, true)⟩,
  ⟨some 36, .load 39 (.tmp 35), some (33, true)⟩,
  ⟨some 37, .call ⟨.builtin .len, #[(.tmp 36)], #[39]⟩, some (33, true)⟩,
  ⟨some 38, .binOp .lss 3 (.tmp 34) (.tmp 37) 3, some (33, true)⟩,
  ⟨some 39, .pick (.tmp 33) (.tmp 38) (.const (.bool false)), none⟩]
def fS123r8 : SC := .draw [⟨some 43, .fieldAddr 41 (.tmp 3) 4, none, [3]⟩,
  ⟨some 44, .load 39 (.tmp 43), none, [43]⟩,
  ⟨some 45, .move (.tmp 9), none, [9]⟩,
  ⟨some 46, .indexAddr 39 (.tmp 44) (.tmp 45), none, [44, 45]⟩,
  ⟨some 47, .load 41 (.tmp 46), none, [46]⟩,
  ⟨some 48, .fieldAddr 41 (.tmp 4) 4, none, [4]⟩,
  ⟨some 49, .load 39 (.tmp 48), none, [48]⟩,
  ⟨some 50, .move (.tmp 9), none, [9]⟩,
  ⟨some 51, .indexAddr 39 (.tmp 49) (.tmp 50), none, [49, 50]⟩,
  ⟨some 52, .load 41 (.tmp 51), none, [51]⟩,
  ⟨some 53, .move (.tmp 2), none, [2]⟩,
  ⟨some 54, .call ⟨.value (.func 123), #[(.tmp 47), (.tmp 52), (.tmp 53)], #[41, 41, 49]⟩, none, [47, 52, 53]⟩,
  ⟨some 42, .move (.tmp 54), none, [54]⟩,
  ⟨some 55, .extract (.tmp 42) 0, none, [42]⟩,
  ⟨some 56, .extract (.tmp 42) 1, none, [42]⟩,
  ⟨some 2, .assign (.tmp 55), none, [55]⟩,
  ⟨some 8, .assign (.tmp 56), none, [56]⟩] [0, 1, 0, 7, 15, 0, 32, 0, 224, 480, 0, 2047, 4095, 8191, 8191, 16383, 65535]
def fS123b0 : SC := .block 1 fS123r8
def fS123r9 : SC := .reg [⟨some 40, .move (.tmp 9), none⟩,
  ⟨some 41, .binOp .add 3 (.tmp 40) (.const (.int .i64 1)) 3, none⟩,
  ⟨some 9, .assign (.tmp 41), none⟩]
def fS123l0 : SC := (.seq (.seq fS123r7 (.cond (.tmp 39) .skip (.exit 0))) (.seq fS123b0 fS123r9))
def fS123b1 : SC := .block 0 (.loop fS123l0)
def fS123r10 : SC := .reg [⟨some 57, .move (.tmp 2), none⟩,
  ⟨some 58, .move (.tmp 8), none⟩,
  ⟨some 6, .assign (.tmp 57), none⟩,
  ⟨some 7, .assign (.tmp 58), none⟩]
def fS123 : SC := (.seq fS123r0 (.seq (.seq fS123r1 (.cond (.tmp 12) (.seq (.seq fS123r2 (.cond (.tmp 15) (.seq fS123r3 .ret) .skip)) (.seq fS123r4 .ret)) .skip)) (.seq fS123r5 (.seq (.seq fS123r6 fS123b1) (.seq fS123r10 .ret)))))
theorem fB123 : Tryz.f123.body.bind stripC = some fS123 := by kernel_rfl
/-! lattice_match_1: function 156, 9 temporaries. -/
def fS156r0 : SC := .reg [⟨some 2, .box 65 (.tmp 0), none⟩,
  ⟨some 3, .assign (.const (.bool false)), none⟩]
def fS156r1 : SC := .reg [⟨some 4, .fieldAddr 65 (.tmp 2) 0, none⟩,
  ⟨some 5, .load 3 (.tmp 4), none⟩,
  ⟨some 6, .fieldAddr 41 (.tmp 1) 2, none⟩,
  ⟨some 7, .load 3 (.tmp 6), none⟩,
  ⟨some 8, .binOp .eql 3 (.tmp 5) (.tmp 7) 3, none⟩,
  ⟨some 3, .assign (.tmp 8), none⟩]
def fS156 : SC := (.seq fS156r0 (.seq fS156r1 .ret))
theorem fB156 : Tryz.f156.body.bind stripC = some fS156 := by kernel_rfl
/-! lattice_same: function 119, 40 temporaries. -/
def fS119r0 : SC := .reg [⟨some 2, .box 41 (.tmp 0), none⟩,
  ⟨some 3, .box 41 (.tmp 1), none⟩,
  ⟨some 4, .assign (.const (.bool false)), none⟩]
def fS119r1 : SC := .reg [⟨some 5, .fieldAddr 41 (.tmp 2) 0, none⟩,
  ⟨some 6, .load 3 (.tmp 5), none⟩,
  ⟨some 7, .fieldAddr 41 (.tmp 3) 0, none⟩,
  ⟨some 8, .load 3 (.tmp 7), none⟩,
  ⟨some 9, .binOp .eql 3 (.tmp 6) (.tmp 8) 3, none⟩,
  ⟨some 10, .move (.tmp 9), none⟩,
  ⟨some 11, .fieldAddr 41 (.tmp 2) 1, some (10, true)⟩,
  ⟨some 12, .load 9 (.tmp 11), some (10, true)⟩,
  ⟨some 13, .fieldAddr 41 (.tmp 3) 1, some (10, true)⟩,
  ⟨some 14, .load 9 (.tmp 13), some (10, true)⟩,
  ⟨some 15, .binOp .eql 9 (.tmp 12) (.tmp 14) 9, some (10, true)⟩,
  ⟨some 16, .pick (.tmp 10) (.tmp 15) (.const (.bool false)), none⟩,
  ⟨some 17, .move (.tmp 16), none⟩,
  ⟨some 18, .fieldAddr 41 (.tmp 2) 2, some (17, true)⟩,
  ⟨some 19, .load 3 (.tmp 18), some (17, true)⟩,
  ⟨some 20, .fieldAddr 41 (.tmp 3) 2, some (17, true)⟩,
  ⟨some 21, .load 3 (.tmp 20), some (17, true)⟩,
  ⟨some 22, .binOp .eql 3 (.tmp 19) (.tmp 21) 3, some (17, true)⟩,
  ⟨some 23, .pick (.tmp 17) (.tmp 22) (.const (.bool false)), none⟩,
  ⟨some 24, .move (.tmp 23), none⟩,
  ⟨some 25, .fieldAddr 41 (.tmp 2) 3, some (24, true)⟩,
  ⟨some 26, .load 3 (.tmp 25), some (24, true)⟩,
  ⟨some 27, .fieldAddr 41 (.tmp 3) 3, some (24, true)⟩,
  ⟨some 28, .load 3 (.tmp 27), some (24, true)⟩,
  ⟨some 29, .binOp .eql 3 (.tmp 26) (.tmp 28) 3, some (24, true)⟩,
  ⟨some 30, .pick (.tmp 24) (.tmp 29) (.const (.bool false)), none⟩,
  ⟨some 31, .move (.tmp 30), none⟩,
  ⟨some 32, .fieldAddr 41 (.tmp 2) 4, some (31, true)⟩,
  ⟨some 33, .load 39 (.tmp 32), some (31, true)⟩,
  ⟨some 34, .call ⟨.builtin .len, #[(.tmp 33)], #[39]⟩, some (31, true)⟩,
  ⟨some 35, .fieldAddr 41 (.tmp 3) 4, some (31, true)⟩,
  ⟨some 36, .load 39 (.tmp 35), some (31, true)⟩,
  ⟨some 37, .call ⟨.builtin .len, #[(.tmp 36)], #[39]⟩, some (31, true)⟩,
  ⟨some 38, .binOp .eql 3 (.tmp 34) (.tmp 37) 3, some (31, true)⟩,
  ⟨some 39, .pick (.tmp 31) (.tmp 38) (.const (.bool false)), none⟩,
  ⟨some 4, .assign (.tmp 39), none⟩]
def fS119 : SC := (.seq fS119r0 (.seq fS119r1 .ret))
theorem fB119 : Tryz.f119.body.bind stripC = some fS119 := by kernel_rfl
/-! lattice_common: function 75, 67 temporaries. -/
def fS75r0 : SC := .reg [⟨some 3, .box 41 (.tmp 0), none⟩,
  ⟨some 4, .box 41 (.tmp 1), none⟩,
  ⟨some 6, .alloc 41, none⟩,
  ⟨some 7, .assign (.const (.slice none 0 0)), none⟩]
def fS75r1 : SC := .reg [⟨some 11, .load 41 (.tmp 3), none⟩,
  ⟨some 12, .load 41 (.tmp 4), none⟩,
  ⟨some 13, .call ⟨.value (.func 119), #[(.tmp 11), (.tmp 12)], #[41, 41]⟩, none⟩,
  ⟨some 14, .move (.tmp 13), none⟩,
  ⟨some 15, .fieldAddr 41 (.tmp 3) 0, some (14, true)⟩,
  ⟨some 16, .load 3 (.tmp 15), some (14, true)⟩,
  ⟨some 17, .binOp .neq 3 (.tmp 16) (.const (.int .i64 1)) 3, some (14, true)⟩,
  ⟨some 18, .pick (.tmp 14) (.tmp 17) (.const (.bool false)), none⟩]
def fS75r2 : SC := .reg [⟨some 19, .fieldAddr 41 (.tmp 3) 4, none⟩,
  ⟨some 20, .load 39 (.tmp 19), none⟩,
  ⟨some 21, .call ⟨.builtin .len, #[(.tmp 20)], #[39]⟩, none⟩,
  ⟨some 22, .makeSlice 39 (.tmp 21) (.tmp 21), none⟩,
  ⟨some 8, .assign (.tmp 22), none⟩]
def fS75r3 : SC := .reg [⟨some 23, .move (.tmp 8), none⟩,
  ⟨some 24, .call ⟨.builtin .len, #[(.tmp 23)], #[39]⟩, none⟩,
  ⟨some 25, .move (.const (.int .i64 0)), none⟩]
def fS75r4 : SC := .reg [⟨some 26, .binOp .lss 3 (.tmp 25) (.tmp 24) 3, none⟩]
def fS75r5 : SC := .reg [⟨some 27, .move (.tmp 25), none⟩,
  ⟨some 9, .assign (.tmp 27), none⟩]
def fS75r6 : SC := .draw [⟨some 29, .move (.tmp 8), none, [8]⟩,
  ⟨some 30, .move (.tmp 9), none, [9]⟩,
  ⟨some 31, .fieldAddr 41 (.tmp 3) 4, none, [3]⟩,
  ⟨some 32, .load 39 (.tmp 31), none, [31]⟩,
  ⟨some 33, .move (.tmp 9), none, [9]⟩,
  ⟨some 34, .indexAddr 39 (.tmp 32) (.tmp 33), none, [32, 33]⟩,
  ⟨some 35, .load 41 (.tmp 34), none, [34]⟩,
  ⟨some 36, .fieldAddr 41 (.tmp 4) 4, none, [4]⟩,
  ⟨some 37, .load 39 (.tmp 36), none, [36]⟩,
  ⟨some 38, .move (.tmp 9), none, [9]⟩,
  ⟨some 39, .indexAddr 39 (.tmp 37) (.tmp 38), none, [37, 38]⟩,
  ⟨some 40, .load 41 (.tmp 39), none, [39]⟩,
  ⟨some 41, .move (.tmp 2), none, [2]⟩,
  ⟨some 42, .call ⟨.value (.func 75), #[(.tmp 35), (.tmp 40), (.tmp 41)], #[41, 41, 111]⟩, none, [35, 40, 41]⟩,
  ⟨some 28, .move (.tmp 42), none, [42]⟩,
  ⟨some 43, .extract (.tmp 28) 0, none, [28]⟩,
  ⟨some 44, .extract (.tmp 28) 1, none, [28]⟩,
  ⟨some 45, .indexAddr 39 (.tmp 29) (.tmp 30), none, [29, 30]⟩,
  ⟨none, .store 41 (.tmp 45) (.tmp 43), none, [45, 43]⟩,
  ⟨some 2, .assign (.tmp 44), none, [44]⟩] [0, 0, 0, 4, 0, 28, 60, 0, 128, 0, 896, 1920, 0, 8188, 16380, 32764, 32764, 65535, 196607, 524287]
def fS75b0 : SC := .block 1 (.seq fS75r5 fS75r6)
def fS75r7 : SC := .reg [⟨some 46, .binOp .add 3 (.tmp 25) (.const (.int .i64 1)) 3, none⟩,
  ⟨some 25, .move (.tmp 46), none⟩]
def fS75l0 : SC := (.seq fS75r4 (.seq (.cond (.tmp 26) .skip (.exit 0)) (.seq fS75b0 fS75r7)))
def fS75b1 : SC := .block 0 (.loop fS75l0)
def fS75r8 : SC := .reg [⟨some 47, .move (.tmp 8), none⟩,
  ⟨some 48, .fieldAddr 41 (.tmp 3) 4, none⟩,
  ⟨none, .store 39 (.tmp 48) (.tmp 47), none⟩]
def fS75r9 : SC := .reg [⟨some 49, .load 41 (.tmp 3), none⟩,
  ⟨some 50, .move (.tmp 2), none⟩,
  ⟨none, .store 41 (.tmp 6) (.tmp 49), none⟩,
  ⟨some 7, .assign (.tmp 50), none⟩]
def fS75r10 : SC := .reg [⟨some 51, .move (.tmp 2), none⟩,
  ⟨some 52, .makeFunc (.func 121) #[] #[(.tmp 3), (.tmp 4)], none⟩,
  ⟨some 53, .call ⟨.value (.func 120), #[(.tmp 51), (.tmp 52)], #[111, 160]⟩, none⟩,
  ⟨some 10, .assign (.tmp 53), none⟩]
def fS75r11 : SC := .reg [⟨some 54, .move (.tmp 10), none⟩,
  ⟨some 55, .binOp .lss 3 (.tmp 54) (.const (.int .i64 0)) 3, none⟩]
def fS75r12 : SC := .reg [⟨some 56, .move (.tmp 2), none⟩,
  ⟨some 57, .call ⟨.builtin .len, #[(.tmp 56)], #[111]⟩, none⟩,
  ⟨some 10, .assign (.tmp 57), none⟩]
def fS75r13 : SC := .reg [⟨some 58, .move (.tmp 2), none⟩,
  ⟨some 59, .load 41 (.tmp 3), none⟩,
  ⟨some 60, .load 41 (.tmp 4), none⟩,
  ⟨some 61, .build 115 #[(0, (.tmp 59)), (1, (.tmp 60))], none⟩,
  ⟨some 62, .buildSlice 111 1 #[(0, (.tmp 61))], none⟩,
  ⟨some 63, .call ⟨.builtin .append, #[(.tmp 58), (.tmp 62)], #[111, 111]⟩, none⟩,
  ⟨some 2, .assign (.tmp 63), none⟩]
def fS75r14 : SC := .reg [⟨some 64, .move (.tmp 10), none⟩,
  ⟨some 65, .call ⟨.value (.func 86), #[(.tmp 64)], #[3]⟩, none⟩,
  ⟨some 66, .move (.tmp 2), none⟩,
  ⟨none, .store 41 (.tmp 6) (.tmp 65), none⟩,
  ⟨some 7, .assign (.tmp 66), none⟩]
def fS75 : SC := (.seq fS75r0 (.seq (.seq fS75r1 (.cond (.tmp 18) (.seq fS75r2 (.seq (.seq fS75r3 fS75b1) (.seq fS75r8 (.seq fS75r9 .ret)))) .skip)) (.seq fS75r10 (.seq (.seq fS75r11 (.cond (.tmp 55) (.seq fS75r12 fS75r13) .skip)) (.seq fS75r14 .ret)))))
theorem fB75 : Tryz.f75.body.bind stripC = some fS75 := by kernel_rfl
/-! lattice_common_1: function 121, 9 temporaries. -/
def fS121r0 : SC := .reg [⟨some 3, .box 115 (.tmp 0), none⟩,
  ⟨some 4, .assign (.const (.bool false)), none⟩]
def fS121r1 : SC := .reg [⟨some 5, .load 115 (.tmp 3), none⟩,
  ⟨some 6, .load 41 (.tmp 1), none⟩,
  ⟨some 7, .load 41 (.tmp 2), none⟩,
  ⟨some 8, .call ⟨.value (.func 122), #[(.tmp 5), (.tmp 6), (.tmp 7)], #[115, 41, 41]⟩, none⟩,
  ⟨some 4, .assign (.tmp 8), none⟩]
def fS121 : SC := (.seq fS121r0 (.seq fS121r1 .ret))
theorem fB121 : Tryz.f121.body.bind stripC = some fS121 := by kernel_rfl
/-! lattice_Common: function 21, 44 temporaries. -/
def fS21r0 : SC := .reg [⟨some 2, .box 41 (.tmp 0), none⟩,
  ⟨some 3, .box 41 (.tmp 1), none⟩,
  ⟨some 4, .alloc 41, none⟩,
  ⟨some 5, .assign (.const (.slice none 0 0)), none⟩,
  ⟨some 6, .assign (.const (.slice none 0 0)), none⟩]
def fS21r1 : SC := .reg [⟨some 14, .load 41 (.tmp 2), none⟩,
  ⟨some 15, .load 41 (.tmp 3), none⟩,
  ⟨some 16, .call ⟨.value (.func 75), #[(.tmp 14), (.tmp 15), (.const (.slice none 0 0))], #[41, 41, 111]⟩, none⟩,
  ⟨some 13, .move (.tmp 16), none⟩,
  ⟨some 17, .extract (.tmp 13) 0, none⟩,
  ⟨some 18, .extract (.tmp 13) 1, none⟩,
  ⟨some 7, .alloc 41, none⟩,
  ⟨none, .store 41 (.tmp 7) (.tmp 17), none⟩,
  ⟨some 8, .assign (.tmp 18), none⟩]
def fS21r2 : SC := .reg [⟨some 9, .assign (.const (.slice none 0 0)), none⟩,
  ⟨some 10, .assign (.const (.slice none 0 0)), none⟩]
def fS21r3 : SC := .reg [⟨some 19, .move (.tmp 8), none⟩,
  ⟨some 20, .call ⟨.builtin .len, #[(.tmp 19)], #[111]⟩, none⟩,
  ⟨some 21, .move (.const (.int .i64 0)), none⟩]
def fS21r4 : SC := .reg [⟨some 22, .binOp .lss 3 (.tmp 21) (.tmp 20) 3, none⟩]
def fS21r5 : SC := .reg [⟨some 23, .move (.tmp 21), none⟩,
  ⟨some 24, .indexAddr 111 (.tmp 19) (.tmp 21), none⟩,
  ⟨some 25, .load 115 (.tmp 24), none⟩,
  ⟨some 12, .alloc 115, none⟩,
  ⟨some 11, .assign (.tmp 23), none⟩,
  ⟨none, .store 115 (.tmp 12) (.tmp 25), none⟩]
def fS21r6 : SC := .reg [⟨some 26, .move (.tmp 9), none⟩,
  ⟨some 27, .move (.tmp 11), none⟩,
  ⟨some 28, .fieldAddr 115 (.tmp 12) 0, none⟩,
  ⟨some 29, .load 41 (.tmp 28), none⟩,
  ⟨some 30, .build 65 #[(0, (.tmp 27)), (1, (.tmp 29))], none⟩,
  ⟨some 31, .buildSlice 49 1 #[(0, (.tmp 30))], none⟩,
  ⟨some 32, .call ⟨.builtin .append, #[(.tmp 26), (.tmp 31)], #[49, 49]⟩, none⟩,
  ⟨some 9, .assign (.tmp 32), none⟩]
def fS21r7 : SC := .reg [⟨some 33, .move (.tmp 10), none⟩,
  ⟨some 34, .move (.tmp 11), none⟩,
  ⟨some 35, .fieldAddr 115 (.tmp 12) 1, none⟩,
  ⟨some 36, .load 41 (.tmp 35), none⟩,
  ⟨some 37, .build 65 #[(0, (.tmp 34)), (1, (.tmp 36))], none⟩,
  ⟨some 38, .buildSlice 49 1 #[(0, (.tmp 37))], none⟩,
  ⟨some 39, .call ⟨.builtin .append, #[(.tmp 33), (.tmp 38)], #[49, 49]⟩, none⟩,
  ⟨some 10, .assign (.tmp 39), none⟩]
def fS21b0 : SC := .block 1 (.seq fS21r5 (.seq fS21r6 fS21r7))
def fS21r8 : SC := .reg [⟨some 40, .binOp .add 3 (.tmp 21) (.const (.int .i64 1)) 3, none⟩,
  ⟨some 21, .move (.tmp 40), none⟩]
def fS21l0 : SC := (.seq fS21r4 (.seq (.cond (.tmp 22) .skip (.exit 0)) (.seq fS21b0 fS21r8)))
def fS21b1 : SC := .block 0 (.loop fS21l0)
def fS21r9 : SC := .reg [⟨some 41, .load 41 (.tmp 7), none⟩,
  ⟨some 42, .move (.tmp 9), none⟩,
  ⟨some 43, .move (.tmp 10), none⟩,
  ⟨none, .store 41 (.tmp 4) (.tmp 41), none⟩,
  ⟨some 5, .assign (.tmp 42), none⟩,
  ⟨some 6, .assign (.tmp 43), none⟩]
def fS21 : SC := (.seq fS21r0 (.seq fS21r1 (.seq fS21r2 (.seq (.seq fS21r3 fS21b1) (.seq fS21r9 .ret)))))
theorem fB21 : Tryz.f21.body.bind stripC = some fS21 := by kernel_rfl
/-! lattice_pair_equal: function 122, 17 temporaries. -/
def fS122r0 : SC := .reg [⟨some 3, .box 115 (.tmp 0), none⟩,
  ⟨some 4, .box 41 (.tmp 1), none⟩,
  ⟨some 5, .box 41 (.tmp 2), none⟩,
  ⟨some 6, .assign (.const (.bool false)), none⟩]
def fS122r1 : SC := .reg [⟨some 7, .fieldAddr 115 (.tmp 3) 0, none⟩,
  ⟨some 8, .load 41 (.tmp 7), none⟩,
  ⟨some 9, .load 41 (.tmp 4), none⟩,
  ⟨some 10, .call ⟨.value (.func 63), #[(.tmp 8), (.tmp 9)], #[41, 41]⟩, none⟩,
  ⟨some 11, .move (.tmp 10), none⟩,
  ⟨some 12, .fieldAddr 115 (.tmp 3) 1, some (11, true)⟩,
  ⟨some 13, .load 41 (.tmp 12), some (11, true)⟩,
  ⟨some 14, .load 41 (.tmp 5), some (11, true)⟩,
  ⟨some 15, .call ⟨.value (.func 63), #[(.tmp 13), (.tmp 14)], #[41, 41]⟩, some (11, true)⟩,
  ⟨some 16, .pick (.tmp 11) (.tmp 15) (.const (.bool false)), none⟩,
  ⟨some 6, .assign (.tmp 16), none⟩]
def fS122 : SC := (.seq fS122r0 (.seq fS122r1 .ret))
theorem fB122 : Tryz.f122.body.bind stripC = some fS122 := by kernel_rfl
/-! slices_IndexFunc__lattice_pairlattice_pair: function 120, 19 temporaries. -/
def fS120r0 : SC := .reg [⟨some 4, .assign (.const (.int .i64 0)), none⟩]
def fS120r1 : SC := .reg [⟨some 6, .move (.tmp 0), none⟩,
  ⟨some 7, .call ⟨.builtin .len, #[(.tmp 6)], #[111]⟩, none⟩,
  ⟨some 8, .move (.const (.int .i64 0)), none⟩]
def fS120r2 : SC := .reg [⟨some 9, .binOp .lss 3 (.tmp 8) (.tmp 7) 3, none⟩]
def fS120r3 : SC := .reg [⟨some 10, .move (.tmp 8), none⟩,
  ⟨some 5, .assign (.tmp 10), none⟩]
def fS120r4 : SC := .reg [⟨some 11, .move (.tmp 1), none⟩,
  ⟨some 12, .move (.tmp 0), none⟩,
  ⟨some 13, .move (.tmp 5), none⟩,
  ⟨some 14, .indexAddr 111 (.tmp 12) (.tmp 13), none⟩,
  ⟨some 15, .load 115 (.tmp 14), none⟩,
  ⟨some 16, .call ⟨.value (.tmp 11), #[(.tmp 15)], #[115]⟩, none⟩]
def fS120r5 : SC := .reg [⟨some 17, .move (.tmp 5), none⟩,
  ⟨some 4, .assign (.tmp 17), none⟩]
def fS120b0 : SC := .block 1 (.seq fS120r3 (.seq fS120r4 (.cond (.tmp 16) (.seq fS120r5 .ret) .skip)))
def fS120r6 : SC := .reg [⟨some 18, .binOp .add 3 (.tmp 8) (.const (.int .i64 1)) 3, none⟩,
  ⟨some 8, .move (.tmp 18), none⟩]
def fS120l0 : SC := (.seq fS120r2 (.seq (.cond (.tmp 9) .skip (.exit 0)) (.seq fS120b0 fS120r6)))
def fS120b1 : SC := .block 0 (.loop fS120l0)
def fS120r7 : SC := .reg [⟨some 4, .assign (.const (.int .i64 (-1))), none⟩]
def fS120 : SC := (.seq fS120r0 (.seq (.seq fS120r1 fS120b1) (.seq fS120r7 .ret)))
theorem fB120 : Tryz.f120.body.bind stripC = some fS120 := by kernel_rfl
/-! slices_IndexFunc__api_Assignapi_Assign: function 185, 19 temporaries. -/
def fS185r0 : SC := .reg [⟨some 4, .assign (.const (.int .i64 0)), none⟩]
def fS185r1 : SC := .reg [⟨some 6, .move (.tmp 0), none⟩,
  ⟨some 7, .call ⟨.builtin .len, #[(.tmp 6)], #[49]⟩, none⟩,
  ⟨some 8, .move (.const (.int .i64 0)), none⟩]
def fS185r2 : SC := .reg [⟨some 9, .binOp .lss 3 (.tmp 8) (.tmp 7) 3, none⟩]
def fS185r3 : SC := .reg [⟨some 10, .move (.tmp 8), none⟩,
  ⟨some 5, .assign (.tmp 10), none⟩]
def fS185r4 : SC := .reg [⟨some 11, .move (.tmp 1), none⟩,
  ⟨some 12, .move (.tmp 0), none⟩,
  ⟨some 13, .move (.tmp 5), none⟩,
  ⟨some 14, .indexAddr 49 (.tmp 12) (.tmp 13), none⟩,
  ⟨some 15, .load 65 (.tmp 14), none⟩,
  ⟨some 16, .call ⟨.value (.tmp 11), #[(.tmp 15)], #[65]⟩, none⟩]
def fS185r5 : SC := .reg [⟨some 17, .move (.tmp 5), none⟩,
  ⟨some 4, .assign (.tmp 17), none⟩]
def fS185b0 : SC := .block 1 (.seq fS185r3 (.seq fS185r4 (.cond (.tmp 16) (.seq fS185r5 .ret) .skip)))
def fS185r6 : SC := .reg [⟨some 18, .binOp .add 3 (.tmp 8) (.const (.int .i64 1)) 3, none⟩,
  ⟨some 8, .move (.tmp 18), none⟩]
def fS185l0 : SC := (.seq fS185r2 (.seq (.cond (.tmp 9) .skip (.exit 0)) (.seq fS185b0 fS185r6)))
def fS185b1 : SC := .block 0 (.loop fS185l0)
def fS185r7 : SC := .reg [⟨some 4, .assign (.const (.int .i64 (-1))), none⟩]
def fS185 : SC := (.seq fS185r0 (.seq (.seq fS185r1 fS185b1) (.seq fS185r7 .ret)))
theorem fB185 : Tryz.f185.body.bind stripC = some fS185 := by kernel_rfl
/-! slices_ContainsFunc__api_Assignapi_Assign: function 155, 9 temporaries. -/
def fS155r0 : SC := .reg [⟨some 4, .assign (.const (.bool false)), none⟩]
def fS155r1 : SC := .reg [⟨some 5, .move (.tmp 0), none⟩,
  ⟨some 6, .move (.tmp 1), none⟩,
  ⟨some 7, .call ⟨.value (.func 185), #[(.tmp 5), (.tmp 6)], #[49, 197]⟩, none⟩,
  ⟨some 8, .binOp .geq 3 (.tmp 7) (.const (.int .i64 0)) 3, none⟩,
  ⟨some 4, .assign (.tmp 8), none⟩]
def fS155 : SC := (.seq fS155r0 (.seq fS155r1 .ret))
theorem fB155 : Tryz.f155.body.bind stripC = some fS155 := by kernel_rfl
/-! slices_Clip__api_Assignapi_Assign: function 124, 9 temporaries. -/
def fS124r0 : SC := .reg [⟨some 2, .assign (.const (.slice none 0 0)), none⟩]
def fS124r1 : SC := .reg [⟨some 3, .move (.tmp 0), none⟩,
  ⟨some 4, .move (.tmp 0), none⟩,
  ⟨some 5, .call ⟨.builtin .len, #[(.tmp 4)], #[49]⟩, none⟩,
  ⟨some 6, .move (.tmp 0), none⟩,
  ⟨some 7, .call ⟨.builtin .len, #[(.tmp 6)], #[49]⟩, none⟩,
  ⟨some 8, .slice 49 (.tmp 3) none (some (.tmp 5)) (some (.tmp 7)), none⟩,
  ⟨some 2, .assign (.tmp 8), none⟩]
def fS124 : SC := (.seq fS124r0 (.seq fS124r1 .ret))
theorem fB124 : Tryz.f124.body.bind stripC = some fS124 := by kernel_rfl
/-! subst_Apply: function 95, 8 temporaries. -/
def fS95r0 : SC := .reg [⟨some 3, .box 41 (.tmp 1), none⟩,
  ⟨some 4, .alloc 41, none⟩]
def fS95r1 : SC := .reg [⟨some 5, .load 41 (.tmp 3), none⟩,
  ⟨some 6, .move (.tmp 0), none⟩,
  ⟨some 7, .call ⟨.value (.func 130), #[(.tmp 5), (.tmp 6)], #[41, 49]⟩, none⟩,
  ⟨none, .store 41 (.tmp 4) (.tmp 7), none⟩]
def fS95 : SC := (.seq fS95r0 (.seq fS95r1 .ret))
theorem fB95 : Tryz.f95.body.bind stripC = some fS95 := by kernel_rfl
/-! types_Equal: function 63, 9 temporaries. -/
def fS63r0 : SC := .reg [⟨some 2, .box 41 (.tmp 0), none⟩,
  ⟨some 3, .box 41 (.tmp 1), none⟩,
  ⟨some 4, .assign (.const (.bool false)), none⟩]
def fS63r1 : SC := .reg [⟨some 5, .load 41 (.tmp 2), none⟩,
  ⟨some 6, .load 41 (.tmp 3), none⟩,
  ⟨some 7, .call ⟨.value (.func 107), #[(.tmp 5), (.tmp 6)], #[41, 41]⟩, none⟩,
  ⟨some 8, .binOp .eql 3 (.tmp 7) (.const (.int .i64 0)) 3, none⟩,
  ⟨some 4, .assign (.tmp 8), none⟩]
def fS63 : SC := (.seq fS63r0 (.seq fS63r1 .ret))
theorem fB63 : Tryz.f63.body.bind stripC = some fS63 := by kernel_rfl
/-! types_Compare: function 107, 43 temporaries. -/
def fS107r0 : SC := .reg [⟨some 2, .box 41 (.tmp 0), none⟩,
  ⟨some 3, .box 41 (.tmp 1), none⟩,
  ⟨some 4, .assign (.const (.int .i64 0)), none⟩]
def fS107r1 : SC := .draw [⟨some 6, .fieldAddr 41 (.tmp 2) 0, none, [2]⟩,
  ⟨some 7, .load 3 (.tmp 6), none, [6]⟩,
  ⟨some 8, .fieldAddr 41 (.tmp 3) 0, none, [3]⟩,
  ⟨some 9, .load 3 (.tmp 8), none, [8]⟩,
  ⟨some 10, .call ⟨.value (.func 146), #[(.tmp 7), (.tmp 9)], #[3, 3]⟩, none, [7, 9]⟩,
  ⟨some 11, .fieldAddr 41 (.tmp 2) 1, none, [2]⟩,
  ⟨some 12, .load 9 (.tmp 11), none, [11]⟩,
  ⟨some 13, .fieldAddr 41 (.tmp 3) 1, none, [3]⟩,
  ⟨some 14, .load 9 (.tmp 13), none, [13]⟩,
  ⟨some 15, .call ⟨.value (.func 147), #[(.tmp 12), (.tmp 14)], #[9, 9]⟩, none, [12, 14]⟩,
  ⟨some 16, .fieldAddr 41 (.tmp 2) 2, none, [2]⟩,
  ⟨some 17, .load 3 (.tmp 16), none, [16]⟩,
  ⟨some 18, .fieldAddr 41 (.tmp 3) 2, none, [3]⟩,
  ⟨some 19, .load 3 (.tmp 18), none, [18]⟩,
  ⟨some 20, .call ⟨.value (.func 146), #[(.tmp 17), (.tmp 19)], #[3, 3]⟩, none, [17, 19]⟩,
  ⟨some 21, .fieldAddr 41 (.tmp 2) 3, none, [2]⟩,
  ⟨some 22, .load 3 (.tmp 21), none, [21]⟩,
  ⟨some 23, .fieldAddr 41 (.tmp 3) 3, none, [3]⟩,
  ⟨some 24, .load 3 (.tmp 23), none, [23]⟩,
  ⟨some 25, .call ⟨.value (.func 146), #[(.tmp 22), (.tmp 24)], #[3, 3]⟩, none, [22, 24]⟩,
  ⟨some 26, .fieldAddr 41 (.tmp 2) 4, none, [2]⟩,
  ⟨some 27, .load 39 (.tmp 26), none, [26]⟩,
  ⟨some 28, .call ⟨.builtin .len, #[(.tmp 27)], #[39]⟩, none, [27]⟩,
  ⟨some 29, .fieldAddr 41 (.tmp 3) 4, none, [3]⟩,
  ⟨some 30, .load 39 (.tmp 29), none, [29]⟩,
  ⟨some 31, .call ⟨.builtin .len, #[(.tmp 30)], #[39]⟩, none, [30]⟩,
  ⟨some 32, .call ⟨.value (.func 146), #[(.tmp 28), (.tmp 31)], #[3, 3]⟩, none, [28, 31]⟩,
  ⟨some 33, .buildSlice 26 5 #[(0, (.tmp 10)), (1, (.tmp 15)), (2, (.tmp 20)), (3, (.tmp 25)), (4, (.tmp 32))], none, [10, 15, 20, 25, 32]⟩,
  ⟨some 34, .call ⟨.value (.func 145), #[(.tmp 33)], #[26]⟩, none, [33]⟩,
  ⟨some 5, .assign (.tmp 34), none, [34]⟩] [0, 1, 0, 4, 15, 0, 32, 0, 128, 511, 0, 1024, 0, 4096, 16383, 0, 32768, 0, 131072, 524287, 0, 1048576, 3145728, 0, 8388608, 25165824, 67108863, 134217727, 268435455, 536870911]
def fS107r2 : SC := .reg [⟨some 35, .move (.tmp 5), none⟩,
  ⟨some 36, .binOp .neq 3 (.tmp 35) (.const (.int .i64 0)) 3, none⟩]
def fS107r3 : SC := .reg [⟨some 37, .move (.tmp 5), none⟩,
  ⟨some 4, .assign (.tmp 37), none⟩]
def fS107r4 : SC := .reg [⟨some 38, .fieldAddr 41 (.tmp 2) 4, none⟩,
  ⟨some 39, .load 39 (.tmp 38), none⟩,
  ⟨some 40, .fieldAddr 41 (.tmp 3) 4, none⟩,
  ⟨some 41, .load 39 (.tmp 40), none⟩,
  ⟨some 42, .call ⟨.value (.func 148), #[(.tmp 39), (.tmp 41), (.func 107)], #[39, 39, 150]⟩, none⟩,
  ⟨some 4, .assign (.tmp 42), none⟩]
def fS107 : SC := (.seq fS107r0 (.seq fS107r1 (.seq (.seq fS107r2 (.cond (.tmp 36) (.seq fS107r3 .ret) .skip)) (.seq fS107r4 .ret))))
theorem fB107 : Tryz.f107.body.bind stripC = some fS107 := by kernel_rfl
/-! cmp_Or_int: function 145, 18 temporaries. -/
def fS145r0 : SC := .reg [⟨some 2, .assign (.const (.int .i64 0)), none⟩]
def fS145r1 : SC := .reg [⟨some 3, .assign (.const (.int .i64 0)), none⟩]
def fS145r2 : SC := .reg [⟨some 6, .move (.tmp 0), none⟩,
  ⟨some 7, .call ⟨.builtin .len, #[(.tmp 6)], #[26]⟩, none⟩,
  ⟨some 8, .move (.const (.int .i64 0)), none⟩]
def fS145r3 : SC := .reg [⟨some 9, .binOp .lss 3 (.tmp 8) (.tmp 7) 3, none⟩]
def fS145r4 : SC := .reg [⟨some 10, .indexAddr 26 (.tmp 6) (.tmp 8), none⟩,
  ⟨some 11, .load 3 (.tmp 10), none⟩,
  ⟨some 5, .assign (.tmp 11), none⟩]
def fS145r5 : SC := .reg [⟨some 12, .move (.tmp 5), none⟩,
  ⟨some 13, .move (.tmp 3), none⟩,
  ⟨some 14, .binOp .neq 3 (.tmp 12) (.tmp 13) 3, none⟩]
def fS145r6 : SC := .reg [⟨some 15, .move (.tmp 5), none⟩,
  ⟨some 2, .assign (.tmp 15), none⟩]
def fS145b0 : SC := .block 1 (.seq fS145r4 (.seq fS145r5 (.cond (.tmp 14) (.seq fS145r6 .ret) .skip)))
def fS145r7 : SC := .reg [⟨some 16, .binOp .add 3 (.tmp 8) (.const (.int .i64 1)) 3, none⟩,
  ⟨some 8, .move (.tmp 16), none⟩]
def fS145l0 : SC := (.seq fS145r3 (.seq (.cond (.tmp 9) .skip (.exit 0)) (.seq fS145b0 fS145r7)))
def fS145b1 : SC := .block 0 (.loop fS145l0)
def fS145r8 : SC := .reg [⟨some 17, .move (.tmp 3), none⟩,
  ⟨some 2, .assign (.tmp 17), none⟩]
def fS145 : SC := (.seq fS145r0 (.seq fS145r1 (.seq (.seq fS145r2 fS145b1) (.seq fS145r8 .ret))))
theorem fB145 : Tryz.f145.body.bind stripC = some fS145 := by kernel_rfl
/-! cmp_Compare_int: function 146, 20 temporaries. -/
def fS146r0 : SC := .reg [⟨some 4, .assign (.const (.int .i64 0)), none⟩]
def fS146r1 : SC := .reg [⟨some 7, .move (.tmp 0), none⟩,
  ⟨some 8, .call ⟨.value (.func 183), #[(.tmp 7)], #[3]⟩, none⟩,
  ⟨some 5, .assign (.tmp 8), none⟩]
def fS146r2 : SC := .reg [⟨some 9, .move (.tmp 1), none⟩,
  ⟨some 10, .call ⟨.value (.func 183), #[(.tmp 9)], #[3]⟩, none⟩,
  ⟨some 6, .assign (.tmp 10), none⟩]
def fS146r3 : SC := .reg [⟨some 11, .move (.tmp 5), none⟩]
def fS146r4 : SC := .reg [⟨some 12, .move (.tmp 6), none⟩]
def fS146r5 : SC := .reg [⟨some 4, .assign (.const (.int .i64 0)), none⟩]
def fS146r6 : SC := .reg [⟨some 4, .assign (.const (.int .i64 (-1))), none⟩]
def fS146r7 : SC := .reg [⟨some 13, .move (.tmp 6), none⟩]
def fS146r8 : SC := .reg [⟨some 4, .assign (.const (.int .i64 1)), none⟩]
def fS146r9 : SC := .reg [⟨some 14, .move (.tmp 0), none⟩,
  ⟨some 15, .move (.tmp 1), none⟩,
  ⟨some 16, .binOp .lss 3 (.tmp 14) (.tmp 15) 3, none⟩]
def fS146r10 : SC := .reg [⟨some 4, .assign (.const (.int .i64 (-1))), none⟩]
def fS146r11 : SC := .reg [⟨some 17, .move (.tmp 0), none⟩,
  ⟨some 18, .move (.tmp 1), none⟩,
  ⟨some 19, .binOp .gtr 3 (.tmp 17) (.tmp 18) 3, none⟩]
def fS146r12 : SC := .reg [⟨some 4, .assign (.const (.int .i64 1)), none⟩]
def fS146r13 : SC := .reg [⟨some 4, .assign (.const (.int .i64 0)), none⟩]
def fS146 : SC := (.seq fS146r0 (.seq fS146r1 (.seq fS146r2 (.seq (.seq fS146r3 (.cond (.tmp 11) (.seq (.seq fS146r4 (.cond (.tmp 12) (.seq fS146r5 .ret) .skip)) (.seq fS146r6 .ret)) .skip)) (.seq (.seq fS146r7 (.cond (.tmp 13) (.seq fS146r8 .ret) .skip)) (.seq (.seq fS146r9 (.cond (.tmp 16) (.seq fS146r10 .ret) .skip)) (.seq (.seq fS146r11 (.cond (.tmp 19) (.seq fS146r12 .ret) .skip)) (.seq fS146r13 .ret))))))))
theorem fB146 : Tryz.f146.body.bind stripC = some fS146 := by kernel_rfl
/-! cmp_Compare_string: function 147, 20 temporaries. -/
def fS147r0 : SC := .reg [⟨some 4, .assign (.const (.int .i64 0)), none⟩]
def fS147r1 : SC := .reg [⟨some 7, .move (.tmp 0), none⟩,
  ⟨some 8, .call ⟨.value (.func 184), #[(.tmp 7)], #[9]⟩, none⟩,
  ⟨some 5, .assign (.tmp 8), none⟩]
def fS147r2 : SC := .reg [⟨some 9, .move (.tmp 1), none⟩,
  ⟨some 10, .call ⟨.value (.func 184), #[(.tmp 9)], #[9]⟩, none⟩,
  ⟨some 6, .assign (.tmp 10), none⟩]
def fS147r3 : SC := .reg [⟨some 11, .move (.tmp 5), none⟩]
def fS147r4 : SC := .reg [⟨some 12, .move (.tmp 6), none⟩]
def fS147r5 : SC := .reg [⟨some 4, .assign (.const (.int .i64 0)), none⟩]
def fS147r6 : SC := .reg [⟨some 4, .assign (.const (.int .i64 (-1))), none⟩]
def fS147r7 : SC := .reg [⟨some 13, .move (.tmp 6), none⟩]
def fS147r8 : SC := .reg [⟨some 4, .assign (.const (.int .i64 1)), none⟩]
def fS147r9 : SC := .reg [⟨some 14, .move (.tmp 0), none⟩,
  ⟨some 15, .move (.tmp 1), none⟩,
  ⟨some 16, .binOp .lss 9 (.tmp 14) (.tmp 15) 9, none⟩]
def fS147r10 : SC := .reg [⟨some 4, .assign (.const (.int .i64 (-1))), none⟩]
def fS147r11 : SC := .reg [⟨some 17, .move (.tmp 0), none⟩,
  ⟨some 18, .move (.tmp 1), none⟩,
  ⟨some 19, .binOp .gtr 9 (.tmp 17) (.tmp 18) 9, none⟩]
def fS147r12 : SC := .reg [⟨some 4, .assign (.const (.int .i64 1)), none⟩]
def fS147r13 : SC := .reg [⟨some 4, .assign (.const (.int .i64 0)), none⟩]
def fS147 : SC := (.seq fS147r0 (.seq fS147r1 (.seq fS147r2 (.seq (.seq fS147r3 (.cond (.tmp 11) (.seq (.seq fS147r4 (.cond (.tmp 12) (.seq fS147r5 .ret) .skip)) (.seq fS147r6 .ret)) .skip)) (.seq (.seq fS147r7 (.cond (.tmp 13) (.seq fS147r8 .ret) .skip)) (.seq (.seq fS147r9 (.cond (.tmp 16) (.seq fS147r10 .ret) .skip)) (.seq (.seq fS147r11 (.cond (.tmp 19) (.seq fS147r12 .ret) .skip)) (.seq fS147r13 .ret))))))))
theorem fB147 : Tryz.f147.body.bind stripC = some fS147 := by kernel_rfl
/-! cmp_isNaN_int: function 183, 6 temporaries. -/
def fS183r0 : SC := .reg [⟨some 2, .assign (.const (.bool false)), none⟩]
def fS183r1 : SC := .reg [⟨some 3, .move (.tmp 0), none⟩,
  ⟨some 4, .move (.tmp 0), none⟩,
  ⟨some 5, .binOp .neq 3 (.tmp 3) (.tmp 4) 3, none⟩,
  ⟨some 2, .assign (.tmp 5), none⟩]
def fS183 : SC := (.seq fS183r0 (.seq fS183r1 .ret))
theorem fB183 : Tryz.f183.body.bind stripC = some fS183 := by kernel_rfl
/-! cmp_isNaN_string: function 184, 6 temporaries. -/
def fS184r0 : SC := .reg [⟨some 2, .assign (.const (.bool false)), none⟩]
def fS184r1 : SC := .reg [⟨some 3, .move (.tmp 0), none⟩,
  ⟨some 4, .move (.tmp 0), none⟩,
  ⟨some 5, .binOp .neq 9 (.tmp 3) (.tmp 4) 9, none⟩,
  ⟨some 2, .assign (.tmp 5), none⟩]
def fS184 : SC := (.seq fS184r0 (.seq fS184r1 .ret))
theorem fB184 : Tryz.f184.body.bind stripC = some fS184 := by kernel_rfl
/-! law15_LatticeCommon: function 4, 86 temporaries. -/
def fS4r0 : SC := .reg [⟨some 4, .assign (.const (.bool false)), none⟩]
def fS4r1 : SC := .reg [⟨some 15, .call ⟨.value (.func 19), #[], #[]⟩, none⟩,
  ⟨some 16, .unOp .not 4 (.tmp 15), none⟩]
def fS4r2 : SC := .reg [⟨some 4, .assign (.const (.bool false)), none⟩]
def fS4r3 : SC := .reg [⟨some 17, .move (.tmp 1), none⟩,
  ⟨some 18, .call ⟨.value (.func 10), #[(.tmp 17)], #[26]⟩, none⟩,
  ⟨some 19, .unOp .not 4 (.tmp 18), none⟩]
def fS4r4 : SC := .reg [⟨some 4, .assign (.const (.bool true)), none⟩]
def fS4r5 : SC := .reg [⟨some 21, .move (.tmp 0), none⟩,
  ⟨some 22, .move (.tmp 1), none⟩,
  ⟨some 23, .call ⟨.value (.func 20), #[(.tmp 21), (.tmp 22)], #[3, 26]⟩, none⟩,
  ⟨some 20, .move (.tmp 23), none⟩,
  ⟨some 24, .extract (.tmp 20) 0, none⟩,
  ⟨some 25, .extract (.tmp 20) 1, none⟩,
  ⟨some 26, .extract (.tmp 20) 2, none⟩,
  ⟨some 27, .extract (.tmp 20) 3, none⟩,
  ⟨some 5, .alloc 41, none⟩,
  ⟨some 6, .alloc 41, none⟩,
  ⟨some 7, .alloc 41, none⟩,
  ⟨none, .store 41 (.tmp 5) (.tmp 24), none⟩,
  ⟨none, .store 41 (.tmp 6) (.tmp 25), none⟩,
  ⟨none, .store 41 (.tmp 7) (.tmp 26), none⟩,
  ⟨some 8, .assign (.tmp 27), none⟩]
def fS4r6 : SC := .reg [⟨some 29, .load 41 (.tmp 5), none⟩,
  ⟨some 30, .load 41 (.tmp 6), none⟩,
  ⟨some 31, .call ⟨.value (.func 21), #[(.tmp 29), (.tmp 30)], #[41, 41]⟩, none⟩,
  ⟨some 28, .move (.tmp 31), none⟩,
  ⟨some 32, .extract (.tmp 28) 0, none⟩,
  ⟨some 33, .extract (.tmp 28) 1, none⟩,
  ⟨some 34, .extract (.tmp 28) 2, none⟩,
  ⟨some 9, .alloc 41, none⟩,
  ⟨none, .store 41 (.tmp 9) (.tmp 32), none⟩,
  ⟨some 10, .assign (.tmp 33), none⟩,
  ⟨some 11, .assign (.tmp 34), none⟩]
def fS4r7 : SC := .reg [⟨some 36, .load 41 (.tmp 5), none⟩,
  ⟨some 37, .load 41 (.tmp 6), none⟩,
  ⟨some 38, .call ⟨.value (.func 22), #[(.tmp 36), (.tmp 37)], #[41, 41]⟩, none⟩,
  ⟨some 35, .move (.tmp 38), none⟩,
  ⟨some 39, .extract (.tmp 35) 0, none⟩,
  ⟨some 40, .extract (.tmp 35) 1, none⟩,
  ⟨some 41, .extract (.tmp 35) 2, none⟩,
  ⟨some 12, .alloc 41, none⟩,
  ⟨none, .store 41 (.tmp 12) (.tmp 39), none⟩,
  ⟨some 13, .assign (.tmp 40), none⟩,
  ⟨some 14, .assign (.tmp 41), none⟩]
def fS4r8 : SC := .draw [⟨some 42, .load 41 (.tmp 9), none, [9]⟩,
  ⟨some 43, .load 41 (.tmp 12), none, [12]⟩,
  ⟨some 44, .call ⟨.value (.func 23), #[(.tmp 42), (.tmp 43)], #[41, 41]⟩, none, [42, 43]⟩,
  ⟨some 45, .move (.tmp 44), none, [44]⟩,
  ⟨some 46, .move (.tmp 10), some (45, true), [10, 45]⟩,
  ⟨some 47, .move (.tmp 13), some (45, true), [13, 45]⟩,
  ⟨some 48, .call ⟨.value (.func 24), #[(.tmp 46), (.tmp 47)], #[49, 49]⟩, some (45, true), [46, 47, 45]⟩,
  ⟨some 49, .pick (.tmp 45) (.tmp 48) (.const (.bool false)), none, [45, 48]⟩,
  ⟨some 50, .move (.tmp 49), none, [49]⟩,
  ⟨some 51, .move (.tmp 11), some (50, true), [11, 50]⟩,
  ⟨some 52, .move (.tmp 14), some (50, true), [14, 50]⟩,
  ⟨some 53, .call ⟨.value (.func 24), #[(.tmp 51), (.tmp 52)], #[49, 49]⟩, some (50, true), [51, 52, 50]⟩,
  ⟨some 54, .pick (.tmp 50) (.tmp 53) (.const (.bool false)), none, [50, 53]⟩,
  ⟨some 55, .move (.tmp 54), none, [54]⟩,
  ⟨some 56, .load 41 (.tmp 9), some (55, true), [9, 55]⟩,
  ⟨some 57, .move (.tmp 10), some (55, true), [10, 55]⟩,
  ⟨some 58, .call ⟨.value (.func 25), #[(.tmp 56), (.tmp 57)], #[41, 49]⟩, some (55, true), [56, 57, 55]⟩,
  ⟨some 59, .load 41 (.tmp 5), some (55, true), [5, 55]⟩,
  ⟨some 60, .call ⟨.value (.func 23), #[(.tmp 58), (.tmp 59)], #[41, 41]⟩, some (55, true), [58, 59, 55]⟩,
  ⟨some 61, .pick (.tmp 55) (.tmp 60) (.const (.bool false)), none, [55, 60]⟩,
  ⟨some 62, .move (.tmp 61), none, [61]⟩,
  ⟨some 63, .load 41 (.tmp 9), some (62, true), [9, 62]⟩,
  ⟨some 64, .move (.tmp 11), some (62, true), [11, 62]⟩,
  ⟨some 65, .call ⟨.value (.func 25), #[(.tmp 63), (.tmp 64)], #[41, 49]⟩, some (62, true), [63, 64, 62]⟩,
  ⟨some 66, .load 41 (.tmp 6), some (62, true), [6, 62]⟩,
  ⟨some 67, .call ⟨.value (.func 23), #[(.tmp 65), (.tmp 66)], #[41, 41]⟩, some (62, true), [65, 66, 62]⟩,
  ⟨some 68, .pick (.tmp 62) (.tmp 67) (.const (.bool false)), none, [62, 67]⟩,
  ⟨some 69, .move (.tmp 68), none, [68]⟩,
  ⟨some 70, .load 41 (.tmp 5), some (69, true), [5, 69]⟩,
  ⟨some 71, .load 41 (.tmp 7), some (69, true), [7, 69]⟩,
  ⟨some 72, .call ⟨.value (.func 26), #[(.tmp 70), (.tmp 71)], #[41, 41]⟩, some (69, true), [70, 71, 69]⟩,
  ⟨some 73, .unOp .not 4 (.tmp 72), some (69, true), [72, 69]⟩,
  ⟨some 74, .move (.tmp 73), some (69, true), [73, 69]⟩,
  ⟨some 75, .load 41 (.tmp 6), some (74, false), [6, 74]⟩,
  ⟨some 76, .load 41 (.tmp 7), some (74, false), [7, 74]⟩,
  ⟨some 77, .call ⟨.value (.func 26), #[(.tmp 75), (.tmp 76)], #[41, 41]⟩, some (74, false), [75, 76, 74]⟩,
  ⟨some 78, .unOp .not 4 (.tmp 77), some (74, false), [77, 74]⟩,
  ⟨some 79, .pick (.tmp 74) (.const (.bool true)) (.tmp 78), some (69, true), [74, 78, 69]⟩,
  ⟨some 80, .move (.tmp 79), some (69, true), [79, 69]⟩,
  ⟨some 81, .load 41 (.tmp 9), some (80, false), [9, 80]⟩,
  ⟨some 82, .load 41 (.tmp 7), some (80, false), [7, 80]⟩,
  ⟨some 83, .call ⟨.value (.func 27), #[(.tmp 81), (.tmp 82)], #[41, 41]⟩, some (80, false), [81, 82, 80]⟩,
  ⟨some 84, .pick (.tmp 80) (.const (.bool true)) (.tmp 83), some (69, true), [80, 83, 69]⟩,
  ⟨some 85, .pick (.tmp 69) (.tmp 84) (.const (.bool false)), none, [69, 84]⟩,
  ⟨some 4, .assign (.tmp 85), none, [85]⟩] [0, 0, 3, 7, 15, 15, 63, 127, 255, 511, 511, 2047, 4095, 8191, 16383, 16383, 65535, 16383, 262143, 524287, 1048575, 2097151, 2097151, 8388607, 2097151, 33554431, 67108863, 134217727, 268435455, 268435455, 1073741823, 2147483647, 4294967295, 8589934591, 8589934591, 34359738367, 68719476735, 137438953471, 274877906943, 549755813887, 549755813887, 2199023255551, 4398046511103, 8796093022207, 17592186044415]
def fS4 : SC := (.seq fS4r0 (.seq (.seq fS4r1 (.cond (.tmp 16) (.seq fS4r2 .ret) .skip)) (.seq (.seq fS4r3 (.cond (.tmp 19) (.seq fS4r4 .ret) .skip)) (.seq fS4r5 (.seq fS4r6 (.seq fS4r7 (.seq fS4r8 .ret)))))))
theorem fB4 : Tryz.f4.body.bind stripC = some fS4 := by kernel_rfl
/-! law15_same: function 24, 42 temporaries. -/
def fS24r0 : SC := .reg [⟨some 4, .assign (.const (.bool false)), none⟩]
def fS24r1 : SC := .reg [⟨some 6, .move (.tmp 0), none⟩,
  ⟨some 7, .call ⟨.builtin .len, #[(.tmp 6)], #[49]⟩, none⟩,
  ⟨some 8, .move (.tmp 1), none⟩,
  ⟨some 9, .call ⟨.builtin .len, #[(.tmp 8)], #[49]⟩, none⟩,
  ⟨some 10, .binOp .neq 3 (.tmp 7) (.tmp 9) 3, none⟩]
def fS24r2 : SC := .reg [⟨some 4, .assign (.const (.bool false)), none⟩]
def fS24r3 : SC := .reg [⟨some 5, .assign (.const (.int .i64 0)), none⟩]
def fS24r4 : SC := .reg [⟨some 11, .move (.tmp 5), none⟩,
  ⟨some 12, .move (.tmp 0), none⟩,
  ⟨some 13, .call ⟨.builtin .len, #[(.tmp 12)], #[49]⟩, none⟩,
  ⟨some 14, .binOp .lss 3 (.tmp 11) (.tmp 13) 3, none⟩]
def fS24r5 : SC := .draw [⟨some 17, .move (.tmp 0), none, [0]⟩,
  ⟨some 18, .move (.tmp 5), none, [5]⟩,
  ⟨some 19, .indexAddr 49 (.tmp 17) (.tmp 18), none, [17, 18]⟩,
  ⟨some 20, .fieldAddr 65 (.tmp 19) 0, none, [19]⟩,
  ⟨some 21, .load 3 (.tmp 20), none, [20]⟩,
  ⟨some 22, .move (.tmp 1), none, [1]⟩,
  ⟨some 23, .move (.tmp 5), none, [5]⟩,
  ⟨some 24, .indexAddr 49 (.tmp 22) (.tmp 23), none, [22, 23]⟩,
  ⟨some 25, .fieldAddr 65 (.tmp 24) 0, none, [24]⟩,
  ⟨some 26, .load 3 (.tmp 25), none, [25]⟩,
  ⟨some 27, .binOp .neq 3 (.tmp 21) (.tmp 26) 3, none, [21, 26]⟩,
  ⟨some 28, .move (.tmp 27), none, [27]⟩,
  ⟨some 29, .move (.tmp 0), some (28, false), [0, 28]⟩,
  ⟨some 30, .move (.tmp 5), some (28, false), [5, 28]⟩,
  ⟨some 31, .indexAddr 49 (.tmp 29) (.tmp 30), some (28, false), [29, 30, 28]⟩,
  ⟨some 32, .fieldAddr 65 (.tmp 31) 1, some (28, false), [31, 28]⟩,
  ⟨some 33, .load 41 (.tmp 32), some (28, false), [32, 28]⟩,
  ⟨some 34, .move (.tmp 1), some (28, false), [1, 28]⟩,
  ⟨some 35, .move (.tmp 5), some (28, false), [5, 28]⟩,
  ⟨some 36, .indexAddr 49 (.tmp 34) (.tmp 35), some (28, false), [34, 35, 28]⟩,
  ⟨some 37, .fieldAddr 65 (.tmp 36) 1, some (28, false), [36, 28]⟩,
  ⟨some 38, .load 41 (.tmp 37), some (28, false), [37, 28]⟩,
  ⟨some 39, .call ⟨.value (.func 23), #[(.tmp 33), (.tmp 38)], #[41, 41]⟩, some (28, false), [33, 38, 28]⟩,
  ⟨some 40, .unOp .not 4 (.tmp 39), some (28, false), [39, 28]⟩,
  ⟨some 41, .pick (.tmp 28) (.const (.bool true)) (.tmp 40), none, [28, 40]⟩] [0, 0, 3, 7, 15, 0, 0, 96, 224, 480, 1023, 2047, 4095, 4095, 16383, 32767, 65535, 4095, 4095, 397311, 921599, 1970175, 4194303, 8388607, 16777215]
def fS24r6 : SC := .reg [⟨some 4, .assign (.const (.bool false)), none⟩]
def fS24b0 : SC := .block 1 (.seq fS24r5 (.cond (.tmp 41) (.seq fS24r6 .ret) .skip))
def fS24r7 : SC := .reg [⟨some 15, .move (.tmp 5), none⟩,
  ⟨some 16, .binOp .add 3 (.tmp 15) (.const (.int .i64 1)) 3, none⟩,
  ⟨some 5, .assign (.tmp 16), none⟩]
def fS24l0 : SC := (.seq (.seq fS24r4 (.cond (.tmp 14) .skip (.exit 0))) (.seq fS24b0 fS24r7))
def fS24b1 : SC := .block 0 (.loop fS24l0)
def fS24r8 : SC := .reg [⟨some 4, .assign (.const (.bool true)), none⟩]
def fS24 : SC := (.seq fS24r0 (.seq (.seq fS24r1 (.cond (.tmp 10) (.seq fS24r2 .ret) .skip)) (.seq (.seq fS24r3 fS24b1) (.seq fS24r8 .ret))))
theorem fB24 : Tryz.f24.body.bind stripC = some fS24 := by kernel_rfl
/-! ref15_Common: function 22, 54 temporaries. -/
def fS22r0 : SC := .reg [⟨some 2, .box 41 (.tmp 0), none⟩,
  ⟨some 3, .box 41 (.tmp 1), none⟩,
  ⟨some 4, .alloc 41, none⟩,
  ⟨some 5, .assign (.const (.slice none 0 0)), none⟩,
  ⟨some 6, .assign (.const (.slice none 0 0)), none⟩]
def fS22r1 : SC := .reg [⟨some 12, .build 118 #[], none⟩,
  ⟨some 13, .box 118 (.tmp 12), none⟩,
  ⟨some 7, .assign (.tmp 13), none⟩]
def fS22r2 : SC := .reg [⟨some 14, .move (.tmp 7), none⟩,
  ⟨some 15, .load 41 (.tmp 2), none⟩,
  ⟨some 16, .load 41 (.tmp 3), none⟩,
  ⟨some 17, .call ⟨.value (.func 76), #[(.tmp 14), (.tmp 15), (.tmp 16)], #[116, 41, 41]⟩, none⟩,
  ⟨some 8, .alloc 41, none⟩,
  ⟨none, .store 41 (.tmp 8) (.tmp 17), none⟩]
def fS22r3 : SC := .reg [⟨some 9, .assign (.const (.slice none 0 0)), none⟩,
  ⟨some 10, .assign (.const (.slice none 0 0)), none⟩]
def fS22r4 : SC := .reg [⟨some 11, .assign (.const (.int .i64 0)), none⟩]
def fS22r5 : SC := .reg [⟨some 18, .move (.tmp 11), none⟩,
  ⟨some 19, .move (.tmp 7), none⟩,
  ⟨some 20, .nilCheck (.tmp 19), none⟩,
  ⟨some 21, .fieldAddr 118 (.tmp 20) 0, none⟩,
  ⟨some 22, .load 39 (.tmp 21), none⟩,
  ⟨some 23, .call ⟨.builtin .len, #[(.tmp 22)], #[39]⟩, none⟩,
  ⟨some 24, .binOp .lss 3 (.tmp 18) (.tmp 23) 3, none⟩]
def fS22r6 : SC := .draw [⟨some 27, .move (.tmp 9), none, [9]⟩,
  ⟨some 28, .move (.tmp 11), none, [11]⟩,
  ⟨some 29, .move (.tmp 7), none, [7]⟩,
  ⟨some 30, .nilCheck (.tmp 29), none, [29]⟩,
  ⟨some 31, .fieldAddr 118 (.tmp 30) 0, none, [30]⟩,
  ⟨some 32, .load 39 (.tmp 31), none, [31]⟩,
  ⟨some 33, .move (.tmp 11), none, [11]⟩,
  ⟨some 34, .indexAddr 39 (.tmp 32) (.tmp 33), none, [32, 33]⟩,
  ⟨some 35, .load 41 (.tmp 34), none, [34]⟩,
  ⟨some 36, .build 65 #[(0, (.tmp 28)), (1, (.tmp 35))], none, [28, 35]⟩,
  ⟨some 37, .buildSlice 49 1 #[(0, (.tmp 36))], none, [36]⟩,
  ⟨some 38, .call ⟨.builtin .append, #[(.tmp 27), (.tmp 37)], #[49, 49]⟩, none, [27, 37]⟩,
  ⟨some 39, .move (.tmp 10), none, [10]⟩,
  ⟨some 40, .move (.tmp 11), none, [11]⟩,
  ⟨some 41, .move (.tmp 7), none, [7]⟩,
  ⟨some 42, .nilCheck (.tmp 41), none, [41]⟩,
  ⟨some 43, .fieldAddr 118 (.tmp 42) 1, none, [42]⟩,
  ⟨some 44, .load 39 (.tmp 43), none, [43]⟩,
  ⟨some 45, .move (.tmp 11), none, [11]⟩,
  ⟨some 46, .indexAddr 39 (.tmp 44) (.tmp 45), none, [44, 45]⟩,
  ⟨some 47, .load 41 (.tmp 46), none, [46]⟩,
  ⟨some 48, .build 65 #[(0, (.tmp 40)), (1, (.tmp 47))], none, [40, 47]⟩,
  ⟨some 49, .buildSlice 49 1 #[(0, (.tmp 48))], none, [48]⟩,
  ⟨some 50, .call ⟨.builtin .append, #[(.tmp 39), (.tmp 49)], #[49, 49]⟩, none, [39, 49]⟩,
  ⟨some 9, .assign (.tmp 38), none, [38]⟩,
  ⟨some 10, .assign (.tmp 50), none, [50]⟩] [0, 0, 0, 4, 12, 28, 0, 124, 252, 510, 1022, 2047, 0, 0, 0, 16384, 49152, 114688, 0, 507904, 1032192, 2088960, 4186112, 8388607, 16777215, 33554431]
def fS22b0 : SC := .block 1 fS22r6
def fS22r7 : SC := .reg [⟨some 25, .move (.tmp 11), none⟩,
  ⟨some 26, .binOp .add 3 (.tmp 25) (.const (.int .i64 1)) 3, none⟩,
  ⟨some 11, .assign (.tmp 26), none⟩]
def fS22l0 : SC := (.seq (.seq fS22r5 (.cond (.tmp 24) .skip (.exit 0))) (.seq fS22b0 fS22r7))
def fS22b1 : SC := .block 0 (.loop fS22l0)
def fS22r8 : SC := .reg [⟨some 51, .load 41 (.tmp 8), none⟩,
  ⟨some 52, .move (.tmp 9), none⟩,
  ⟨some 53, .move (.tmp 10), none⟩,
  ⟨none, .store 41 (.tmp 4) (.tmp 51), none⟩,
  ⟨some 5, .assign (.tmp 52), none⟩,
  ⟨some 6, .assign (.tmp 53), none⟩]
def fS22 : SC := (.seq fS22r0 (.seq fS22r1 (.seq fS22r2 (.seq fS22r3 (.seq (.seq fS22r4 fS22b1) (.seq fS22r8 .ret))))))
theorem fB22 : Tryz.f22.body.bind stripC = some fS22 := by kernel_rfl
/-! ref15_pairs_common: function 76, 137 temporaries. -/
def fS76r0 : SC := .reg [⟨some 4, .box 41 (.tmp 1), none⟩,
  ⟨some 5, .box 41 (.tmp 2), none⟩,
  ⟨some 6, .alloc 41, none⟩]
def fS76r1 : SC := .reg [⟨some 11, .fieldAddr 41 (.tmp 4) 0, none⟩,
  ⟨some 12, .load 3 (.tmp 11), none⟩,
  ⟨some 13, .fieldAddr 41 (.tmp 5) 0, none⟩,
  ⟨some 14, .load 3 (.tmp 13), none⟩,
  ⟨some 15, .binOp .eql 3 (.tmp 12) (.tmp 14) 3, none⟩,
  ⟨some 16, .move (.tmp 15), none⟩,
  ⟨some 17, .fieldAddr 41 (.tmp 4) 1, some (16, true)⟩,
  ⟨some 18, .load 9 (.tmp 17), some (16, true)⟩,
  ⟨some 19, .fieldAddr 41 (.tmp 5) 1, some (16, true)⟩,
  ⟨some 20, .load 9 (.tmp 19), some (16, true)⟩,
  ⟨some 21, .binOp .eql 9 (.tmp 18) (.tmp 20) 9, some (16, true)⟩,
  ⟨some 22, .pick (.tmp 16) (.tmp 21) (.const (.bool false)), none⟩,
  ⟨some 23, .move (.tmp 22), none⟩,
  ⟨some 24, .fieldAddr 41 (.tmp 4) 2, some (23, true)⟩,
  ⟨some 25, .load 3 (.tmp 24), some (23, true)⟩,
  ⟨some 26, .fieldAddr 41 (.tmp 5) 2, some (23, true)⟩,
  ⟨some 27, .load 3 (.tmp 26), some (23, true)⟩,
  ⟨some 28, .binOp .eql 3 (.tmp 25) (.tmp 27) 3, some (23, true)⟩,
  ⟨some 29, .pick (.tmp 23) (.tmp 28) (.const (.bool false)), none⟩,
  ⟨some 30, .move (.tmp 29), none⟩,
  ⟨some 31, .fieldAddr 41 (.tmp 4) 3, some (30, true)⟩,
  ⟨some 32, .load 3 (.tmp 31), some (30, true)⟩,
  ⟨some 33, .fieldAddr 41 (.tmp 5) 3, some (30, true)⟩,
  ⟨some 34, .load 3 (.tmp 33), some (30, true)⟩,
  ⟨some 35, .binOp .eql 3 (.tmp 32) (.tmp 34) 3, some (30, true)⟩,
  ⟨some 36, .pick (.tmp 30) (.tmp 35) (.const (.bool false)), none⟩,
  ⟨some 37, .move (.tmp 36), none⟩,
  ⟨some 38, .fieldAddr 41 (.tmp 4) 4, some (37, true)⟩,
  ⟨some 39, .load 39 (.tmp 38), some (37, true)⟩,
  ⟨some 40, .call ⟨.builtin .len, #[(.tmp 39)], #[39]⟩, some (37, true)⟩,
  ⟨some 41, .fieldAddr 41 (.tmp 5) 4, some (37, true)⟩,
  ⟨some 42, .load 39 (.tmp 41), some (37, true)⟩,
  ⟨some 43, .call ⟨.builtin .len, #[(.tmp 42)], #[39]⟩, some (37, true)⟩,
  ⟨some 44, .binOp .eql 3 (.tmp 40) (.tmp 43) 3, some (37, true)⟩,
  ⟨some 45, .pick (.tmp 37) (.tmp 44) (.const (.bool false)), none⟩,
  ⟨some 7, .assign (.tmp 45), none⟩]
def fS76r2 : SC := .reg [⟨some 46, .move (.tmp 7), none⟩,
  ⟨some 47, .move (.tmp 46), none⟩,
  ⟨some 48, .fieldAddr 41 (.tmp 4) 0, some (47, true)⟩,
  ⟨some 49, .load 3 (.tmp 48), some (47, true)⟩,
  ⟨some 50, .binOp .neq 3 (.tmp 49) (.const (.int .i64 1)) 3, some (47, true)⟩,
  ⟨some 51, .pick (.tmp 47) (.tmp 50) (.const (.bool false)), none⟩]
def fS76r3 : SC := .reg [⟨some 52, .load 41 (.tmp 4), none⟩,
  ⟨some 8, .alloc 41, none⟩,
  ⟨none, .store 41 (.tmp 8) (.tmp 52), none⟩]
def fS76r4 : SC := .reg [⟨some 53, .fieldAddr 41 (.tmp 8) 4, none⟩,
  ⟨none, .store 39 (.tmp 53) (.const (.slice none 0 0)), none⟩]
def fS76r5 : SC := .reg [⟨some 9, .assign (.const (.int .i64 0)), none⟩]
def fS76r6 : SC := .reg [⟨some 54, .move (.tmp 9), none⟩,
  ⟨some 55, .fieldAddr 41 (.tmp 4) 4, none⟩,
  ⟨some 56, .load 39 (.tmp 55), none⟩,
  ⟨some 57, .call ⟨.builtin .len, #[(.tmp 56)], #[39]⟩, none⟩,
  ⟨some 58, .binOp .lss 3 (.tmp 54) (.tmp 57) 3, none⟩]
def fS76r7 : SC := .draw [⟨some 61, .fieldAddr 41 (.tmp 8) 4, none, [8]⟩,
  ⟨some 62, .load 39 (.tmp 61), none, [61]⟩,
  ⟨some 63, .move (.tmp 0), none, [0]⟩,
  ⟨some 64, .fieldAddr 41 (.tmp 4) 4, none, [4]⟩,
  ⟨some 65, .load 39 (.tmp 64), none, [64]⟩,
  ⟨some 66, .move (.tmp 9), none, [9]⟩,
  ⟨some 67, .indexAddr 39 (.tmp 65) (.tmp 66), none, [65, 66]⟩,
  ⟨some 68, .load 41 (.tmp 67), none, [67]⟩,
  ⟨some 69, .fieldAddr 41 (.tmp 5) 4, none, [5]⟩,
  ⟨some 70, .load 39 (.tmp 69), none, [69]⟩,
  ⟨some 71, .move (.tmp 9), none, [9]⟩,
  ⟨some 72, .indexAddr 39 (.tmp 70) (.tmp 71), none, [70, 71]⟩,
  ⟨some 73, .load 41 (.tmp 72), none, [72]⟩,
  ⟨some 74, .call ⟨.value (.func 76), #[(.tmp 63), (.tmp 68), (.tmp 73)], #[116, 41, 41]⟩, none, [63, 68, 73]⟩,
  ⟨some 75, .buildSlice 39 1 #[(0, (.tmp 74))], none, [74]⟩,
  ⟨some 76, .call ⟨.builtin .append, #[(.tmp 62), (.tmp 75)], #[39, 39]⟩, none, [62, 75]⟩,
  ⟨some 77, .fieldAddr 41 (.tmp 8) 4, none, [8]⟩,
  ⟨none, .store 39 (.tmp 77) (.tmp 76), none, [77, 76]⟩] [0, 1, 0, 0, 8, 0, 56, 120, 0, 256, 0, 1792, 3840, 8188, 16380, 32767, 65535, 131071]
def fS76b0 : SC := .block 1 fS76r7
def fS76r8 : SC := .reg [⟨some 59, .move (.tmp 9), none⟩,
  ⟨some 60, .binOp .add 3 (.tmp 59) (.const (.int .i64 1)) 3, none⟩,
  ⟨some 9, .assign (.tmp 60), none⟩]
def fS76l0 : SC := (.seq (.seq fS76r6 (.cond (.tmp 58) .skip (.exit 0))) (.seq fS76b0 fS76r8))
def fS76b1 : SC := .block 0 (.loop fS76l0)
def fS76r9 : SC := .reg [⟨some 78, .load 41 (.tmp 8), none⟩,
  ⟨none, .store 41 (.tmp 6) (.tmp 78), none⟩]
def fS76r10 : SC := .reg [⟨some 10, .assign (.const (.int .i64 0)), none⟩]
def fS76r11 : SC := .reg [⟨some 79, .move (.tmp 10), none⟩,
  ⟨some 80, .move (.tmp 0), none⟩,
  ⟨some 81, .nilCheck (.tmp 80), none⟩,
  ⟨some 82, .fieldAddr 118 (.tmp 81) 0, none⟩,
  ⟨some 83, .load 39 (.tmp 82), none⟩,
  ⟨some 84, .call ⟨.builtin .len, #[(.tmp 83)], #[39]⟩, none⟩,
  ⟨some 85, .binOp .lss 3 (.tmp 79) (.tmp 84) 3, none⟩]
def fS76r12 : SC := .draw [⟨some 88, .move (.tmp 0), none, [0]⟩,
  ⟨some 89, .nilCheck (.tmp 88), none, [88]⟩,
  ⟨some 90, .fieldAddr 118 (.tmp 89) 0, none, [89]⟩,
  ⟨some 91, .load 39 (.tmp 90), none, [90]⟩,
  ⟨some 92, .move (.tmp 10), none, [10]⟩,
  ⟨some 93, .indexAddr 39 (.tmp 91) (.tmp 92), none, [91, 92]⟩,
  ⟨some 94, .load 41 (.tmp 93), none, [93]⟩,
  ⟨some 95, .load 41 (.tmp 4), none, [4]⟩,
  ⟨some 96, .call ⟨.value (.func 23), #[(.tmp 94), (.tmp 95)], #[41, 41]⟩, none, [94, 95]⟩,
  ⟨some 97, .move (.tmp 96), none, [96]⟩,
  ⟨some 98, .move (.tmp 0), some (97, true), [0, 97]⟩,
  ⟨some 99, .nilCheck (.tmp 98), some (97, true), [98, 97]⟩,
  ⟨some 100, .fieldAddr 118 (.tmp 99) 1, some (97, true), [99, 97]⟩,
  ⟨some 101, .load 39 (.tmp 100), some (97, true), [100, 97]⟩,
  ⟨some 102, .move (.tmp 10), some (97, true), [10, 97]⟩,
  ⟨some 103, .indexAddr 39 (.tmp 101) (.tmp 102), some (97, true), [101, 102, 97]⟩,
  ⟨some 104, .load 41 (.tmp 103), some (97, true), [103, 97]⟩,
  ⟨some 105, .load 41 (.tmp 5), some (97, true), [5, 97]⟩,
  ⟨some 106, .call ⟨.value (.func 23), #[(.tmp 104), (.tmp 105)], #[41, 41]⟩, some (97, true), [104, 105, 97]⟩,
  ⟨some 107, .pick (.tmp 97) (.tmp 106) (.const (.bool false)), none, [97, 106]⟩] [0, 1, 3, 7, 0, 31, 63, 0, 255, 511, 1023, 2047, 4095, 8191, 1023, 32767, 65535, 1023, 262143, 524287]
def fS76r13 : SC := .reg [⟨some 108, .move (.tmp 10), none⟩,
  ⟨some 109, .call ⟨.value (.func 52), #[(.tmp 108)], #[3]⟩, none⟩,
  ⟨none, .store 41 (.tmp 6) (.tmp 109), none⟩]
def fS76b2 : SC := .block 3 (.seq fS76r12 (.cond (.tmp 107) (.seq fS76r13 .ret) .skip))
def fS76r14 : SC := .reg [⟨some 86, .move (.tmp 10), none⟩,
  ⟨some 87, .binOp .add 3 (.tmp 86) (.const (.int .i64 1)) 3, none⟩,
  ⟨some 10, .assign (.tmp 87), none⟩]
def fS76l1 : SC := (.seq (.seq fS76r11 (.cond (.tmp 85) .skip (.exit 2))) (.seq fS76b2 fS76r14))
def fS76b3 : SC := .block 2 (.loop fS76l1)
def fS76r15 : SC := .draw [⟨some 110, .move (.tmp 0), none, [0]⟩,
  ⟨some 111, .move (.tmp 0), none, [0]⟩,
  ⟨some 112, .move (.tmp 0), none, [0]⟩,
  ⟨some 113, .nilCheck (.tmp 112), none, [112]⟩,
  ⟨some 114, .fieldAddr 118 (.tmp 113) 0, none, [113]⟩,
  ⟨some 115, .load 39 (.tmp 114), none, [114]⟩,
  ⟨some 116, .load 41 (.tmp 4), none, [4]⟩,
  ⟨some 117, .buildSlice 39 1 #[(0, (.tmp 116))], none, [116]⟩,
  ⟨some 118, .call ⟨.builtin .append, #[(.tmp 115), (.tmp 117)], #[39, 39]⟩, none, [115, 117]⟩,
  ⟨some 119, .move (.tmp 0), none, [0]⟩,
  ⟨some 120, .nilCheck (.tmp 119), none, [119]⟩,
  ⟨some 121, .fieldAddr 118 (.tmp 120) 1, none, [120]⟩,
  ⟨some 122, .load 39 (.tmp 121), none, [121]⟩,
  ⟨some 123, .load 41 (.tmp 5), none, [5]⟩,
  ⟨some 124, .buildSlice 39 1 #[(0, (.tmp 123))], none, [123]⟩,
  ⟨some 125, .call ⟨.builtin .append, #[(.tmp 122), (.tmp 124)], #[39, 39]⟩, none, [122, 124]⟩,
  ⟨some 126, .nilCheck (.tmp 110), none, [110]⟩,
  ⟨some 127, .fieldAddr 118 (.tmp 126) 0, none, [126]⟩,
  ⟨none, .store 39 (.tmp 127) (.tmp 118), none, [127, 118]⟩,
  ⟨some 128, .nilCheck (.tmp 111), none, [111]⟩,
  ⟨some 129, .fieldAddr 118 (.tmp 128) 1, none, [128]⟩,
  ⟨none, .store 39 (.tmp 129) (.tmp 125), none, [129, 125]⟩] [0, 0, 0, 4, 12, 28, 0, 64, 252, 0, 512, 1536, 3584, 0, 8192, 32764, 65533, 131069, 262141, 524287, 1048575, 2097151]
def fS76r16 : SC := .reg [⟨some 130, .move (.tmp 0), none⟩,
  ⟨some 131, .nilCheck (.tmp 130), none⟩,
  ⟨some 132, .fieldAddr 118 (.tmp 131) 0, none⟩,
  ⟨some 133, .load 39 (.tmp 132), none⟩,
  ⟨some 134, .call ⟨.builtin .len, #[(.tmp 133)], #[39]⟩, none⟩,
  ⟨some 135, .binOp .sub 3 (.tmp 134) (.const (.int .i64 1)) 3, none⟩,
  ⟨some 136, .call ⟨.value (.func 52), #[(.tmp 135)], #[3]⟩, none⟩,
  ⟨none, .store 41 (.tmp 6) (.tmp 136), none⟩]
def fS76 : SC := (.seq fS76r0 (.seq fS76r1 (.seq (.seq fS76r2 (.cond (.tmp 51) (.seq fS76r3 (.seq fS76r4 (.seq (.seq fS76r5 fS76b1) (.seq fS76r9 .ret)))) .skip)) (.seq (.seq fS76r10 fS76b3) (.seq fS76r15 (.seq fS76r16 .ret))))))
theorem fB76 : Tryz.f76.body.bind stripC = some fS76 := by kernel_rfl
/-! ref15_Leq: function 26, 14 temporaries. -/
def fS26r0 : SC := .reg [⟨some 2, .box 41 (.tmp 0), none⟩,
  ⟨some 3, .box 41 (.tmp 1), none⟩,
  ⟨some 4, .assign (.const (.bool false)), none⟩]
def fS26r1 : SC := .reg [⟨some 8, .load 41 (.tmp 3), none⟩,
  ⟨some 9, .load 41 (.tmp 2), none⟩,
  ⟨some 10, .call ⟨.value (.func 78), #[(.tmp 8), (.tmp 9), (.const (.slice none 0 0))], #[41, 41, 49]⟩, none⟩,
  ⟨some 7, .move (.tmp 10), none⟩,
  ⟨some 11, .extract (.tmp 7) 0, none⟩,
  ⟨some 12, .extract (.tmp 7) 1, none⟩,
  ⟨some 5, .assign (.tmp 11), none⟩,
  ⟨some 6, .assign (.tmp 12), none⟩]
def fS26r2 : SC := .reg [⟨some 13, .move (.tmp 6), none⟩,
  ⟨some 4, .assign (.tmp 13), none⟩]
def fS26 : SC := (.seq fS26r0 (.seq fS26r1 (.seq fS26r2 .ret)))
theorem fB26 : Tryz.f26.body.bind stripC = some fS26 := by kernel_rfl
/-! ref15_Match: function 78, 14 temporaries. -/
def fS78r0 : SC := .reg [⟨some 3, .box 41 (.tmp 0), none⟩,
  ⟨some 4, .box 41 (.tmp 1), none⟩,
  ⟨some 6, .assign (.const (.slice none 0 0)), none⟩,
  ⟨some 7, .assign (.const (.bool false)), none⟩]
def fS78r1 : SC := .reg [⟨some 8, .load 41 (.tmp 3), none⟩,
  ⟨some 9, .load 41 (.tmp 4), none⟩,
  ⟨some 10, .move (.tmp 2), none⟩,
  ⟨some 11, .call ⟨.value (.func 96), #[(.tmp 8), (.tmp 9), (.tmp 10)], #[41, 41, 49]⟩, none⟩,
  ⟨some 12, .extract (.tmp 11) 0, none⟩,
  ⟨some 13, .extract (.tmp 11) 1, none⟩,
  ⟨some 6, .assign (.tmp 12), none⟩,
  ⟨some 7, .assign (.tmp 13), none⟩]
def fS78 : SC := (.seq fS78r0 (.seq fS78r1 .ret))
theorem fB78 : Tryz.f78.body.bind stripC = some fS78 := by kernel_rfl
/-! ref13_Match: function 96, 95 temporaries. -/
def fS96r0 : SC := .reg [⟨some 3, .box 41 (.tmp 0), none⟩,
  ⟨some 4, .box 41 (.tmp 1), none⟩,
  ⟨some 6, .assign (.const (.slice none 0 0)), none⟩,
  ⟨some 7, .assign (.const (.bool false)), none⟩]
def fS96r1 : SC := .reg [⟨some 10, .fieldAddr 41 (.tmp 3) 0, none⟩,
  ⟨some 11, .load 3 (.tmp 10), none⟩,
  ⟨some 12, .binOp .eql 3 (.tmp 11) (.const (.int .i64 1)) 3, none⟩]
def fS96r2 : SC := .reg [⟨some 13, .move (.tmp 2), none⟩,
  ⟨some 14, .fieldAddr 41 (.tmp 3) 2, none⟩,
  ⟨some 15, .load 3 (.tmp 14), none⟩,
  ⟨some 16, .call ⟨.value (.func 92), #[(.tmp 13), (.tmp 15)], #[49, 3]⟩, none⟩]
def fS96r3 : SC := .draw [⟨some 17, .move (.tmp 2), none, [2]⟩,
  ⟨some 18, .load 41 (.tmp 3), none, [3]⟩,
  ⟨some 19, .call ⟨.value (.func 88), #[(.tmp 17), (.tmp 18)], #[49, 41]⟩, none, [17, 18]⟩,
  ⟨some 20, .load 41 (.tmp 4), none, [4]⟩,
  ⟨some 21, .call ⟨.value (.func 23), #[(.tmp 19), (.tmp 20)], #[41, 41]⟩, none, [19, 20]⟩,
  ⟨some 22, .unOp .not 4 (.tmp 21), none, [21]⟩] [0, 0, 3, 0, 15, 31]
def fS96r4 : SC := .reg [⟨some 6, .assign (.const (.slice none 0 0)), none⟩,
  ⟨some 7, .assign (.const (.bool false)), none⟩]
def fS96r5 : SC := .reg [⟨some 23, .move (.tmp 2), none⟩,
  ⟨some 6, .assign (.tmp 23), none⟩,
  ⟨some 7, .assign (.const (.bool true)), none⟩]
def fS96r6 : SC := .draw [⟨some 24, .move (.tmp 2), none, [2]⟩,
  ⟨some 25, .call ⟨.builtin .append, #[(.const (.slice none 0 0)), (.tmp 24)], #[49, 49]⟩, none, [24]⟩,
  ⟨some 26, .fieldAddr 41 (.tmp 3) 2, none, [3]⟩,
  ⟨some 27, .load 3 (.tmp 26), none, [26]⟩,
  ⟨some 28, .load 41 (.tmp 4), none, [4]⟩,
  ⟨some 29, .build 65 #[(0, (.tmp 27)), (1, (.tmp 28))], none, [27, 28]⟩,
  ⟨some 30, .buildSlice 49 1 #[(0, (.tmp 29))], none, [29]⟩,
  ⟨some 31, .call ⟨.builtin .append, #[(.tmp 25), (.tmp 30)], #[49, 49]⟩, none, [25, 30]⟩,
  ⟨some 6, .assign (.tmp 31), none, [31]⟩,
  ⟨some 7, .assign (.const (.bool true)), none, []⟩] [0, 1, 0, 4, 0, 28, 60, 127, 255, 511]
def fS96r7 : SC := .reg [⟨some 32, .fieldAddr 41 (.tmp 3) 0, none⟩,
  ⟨some 33, .load 3 (.tmp 32), none⟩,
  ⟨some 34, .fieldAddr 41 (.tmp 4) 0, none⟩,
  ⟨some 35, .load 3 (.tmp 34), none⟩,
  ⟨some 36, .binOp .neq 3 (.tmp 33) (.tmp 35) 3, none⟩,
  ⟨some 37, .move (.tmp 36), none⟩,
  ⟨some 38, .fieldAddr 41 (.tmp 3) 1, some (37, false)⟩,
  ⟨some 39, .load 9 (.tmp 38), some (37, false)⟩,
  ⟨some 40, .fieldAddr 41 (.tmp 4) 1, some (37, false)⟩,
  ⟨some 41, .load 9 (.tmp 40), some (37, false)⟩,
  ⟨some 42, .binOp .neq 9 (.tmp 39) (.tmp 41) 9, some (37, false)⟩,
  ⟨some 43, .pick (.tmp 37) (.const (.bool true)) (.tmp 42), none⟩,
  ⟨some 44, .move (.tmp 43), none⟩,
  ⟨some 45, .fieldAddr 41 (.tmp 3) 2, some (44, false)⟩,
  ⟨some 46, .load 3 (.tmp 45), some (44, false)⟩,
  ⟨some 47, .fieldAddr 41 (.tmp 4) 2, some (44, false)⟩,
  ⟨some 48, .load 3 (.tmp 47), some (44, false)⟩,
  ⟨some 49, .binOp .neq 3 (.tmp 46) (.tmp 48) 3, some (44, false)⟩,
  ⟨some 50, .pick (.tmp 44) (.const (.bool true)) (.tmp 49), none⟩,
  ⟨some 51, .move (.tmp 50), none⟩,
  ⟨some 52, .fieldAddr 41 (.tmp 3) 3, some (51, false)⟩,
  ⟨some 53, .load 3 (.tmp 52), some (51, false)⟩,
  ⟨some 54, .fieldAddr 41 (.tmp 4) 3, some (51, false)⟩,
  ⟨some 55, .load 3 (.tmp 54), some (51, false)⟩,
  ⟨some 56, .binOp .neq 3 (.tmp 53) (.tmp 55) 3, some (51, false)⟩,
  ⟨some 57, .pick (.tmp 51) (.const (.bool true)) (.tmp 56), none⟩,
  ⟨some 58, .move (.tmp 57), none⟩,
  ⟨some 59, .fieldAddr 41 (.tmp 3) 4, some (58, false)⟩,
  ⟨some 60, .load 39 (.tmp 59), some (58, false)⟩,
  ⟨some 61, .call ⟨.builtin .len, #[(.tmp 60)], #[39]⟩, some (58, false)⟩,
  ⟨some 62, .fieldAddr 41 (.tmp 4) 4, some (58, false)⟩,
  ⟨some 63, .load 39 (.tmp 62), some (58, false)⟩,
  ⟨some 64, .call ⟨.builtin .len, #[(.tmp 63)], #[39]⟩, some (58, false)⟩,
  ⟨some 65, .binOp .neq 3 (.tmp 61) (.tmp 64) 3, some (58, false)⟩,
  ⟨some 66, .pick (.tmp 58) (.const (.bool true)) (.tmp 65), none⟩]
def fS96r8 : SC := .reg [⟨some 6, .assign (.const (.slice none 0 0)), none⟩,
  ⟨some 7, .assign (.const (.bool false)), none⟩]
def fS96r9 : SC := .reg [⟨some 8, .assign (.const (.bool true)), none⟩]
def fS96r10 : SC := .reg [⟨some 9, .assign (.const (.int .i64 0)), none⟩]
def fS96r11 : SC := .reg [⟨some 67, .move (.tmp 9), none⟩,
  ⟨some 68, .fieldAddr 41 (.tmp 3) 4, none⟩,
  ⟨some 69, .load 39 (.tmp 68), none⟩,
  ⟨some 70, .call ⟨.builtin .len, #[(.tmp 69)], #[39]⟩, none⟩,
  ⟨some 71, .binOp .lss 3 (.tmp 67) (.tmp 70) 3, none⟩,
  ⟨some 72, .move (.tmp 71), none⟩,
  ⟨some 73, .move (.tmp 8), some (72, true)⟩,
  ⟨some 74, .pick (.tmp 72) (.tmp 73) (.const (.bool false)), none⟩]
def fS96r12 : SC := .draw [⟨some 78, .fieldAddr 41 (.tmp 3) 4, none, [3]⟩,
  ⟨some 79, .load 39 (.tmp 78), none, [78]⟩,
  ⟨some 80, .move (.tmp 9), none, [9]⟩,
  ⟨some 81, .indexAddr 39 (.tmp 79) (.tmp 80), none, [79, 80]⟩,
  ⟨some 82, .load 41 (.tmp 81), none, [81]⟩,
  ⟨some 83, .fieldAddr 41 (.tmp 4) 4, none, [4]⟩,
  ⟨some 84, .load 39 (.tmp 83), none, [83]⟩,
  ⟨some 85, .move (.tmp 9), none, [9]⟩,
  ⟨some 86, .indexAddr 39 (.tmp 84) (.tmp 85), none, [84, 85]⟩,
  ⟨some 87, .load 41 (.tmp 86), none, [86]⟩,
  ⟨some 88, .move (.tmp 2), none, [2]⟩,
  ⟨some 89, .call ⟨.value (.func 96), #[(.tmp 82), (.tmp 87), (.tmp 88)], #[41, 41, 49]⟩, none, [82, 87, 88]⟩,
  ⟨some 77, .move (.tmp 89), none, [89]⟩,
  ⟨some 90, .extract (.tmp 77) 0, none, [77]⟩,
  ⟨some 91, .extract (.tmp 77) 1, none, [77]⟩,
  ⟨some 2, .assign (.tmp 90), none, [90]⟩,
  ⟨some 8, .assign (.tmp 91), none, [91]⟩] [0, 1, 0, 7, 15, 0, 32, 0, 224, 480, 0, 2047, 4095, 8191, 8191, 16383, 65535]
def fS96b0 : SC := .block 1 fS96r12
def fS96r13 : SC := .reg [⟨some 75, .move (.tmp 9), none⟩,
  ⟨some 76, .binOp .add 3 (.tmp 75) (.const (.int .i64 1)) 3, none⟩,
  ⟨some 9, .assign (.tmp 76), none⟩]
def fS96l0 : SC := (.seq (.seq fS96r11 (.cond (.tmp 74) .skip (.exit 0))) (.seq fS96b0 fS96r13))
def fS96b1 : SC := .block 0 (.loop fS96l0)
def fS96r14 : SC := .reg [⟨some 92, .move (.tmp 8), none⟩,
  ⟨some 93, .unOp .not 4 (.tmp 92), none⟩]
def fS96r15 : SC := .reg [⟨some 6, .assign (.const (.slice none 0 0)), none⟩,
  ⟨some 7, .assign (.const (.bool false)), none⟩]
def fS96r16 : SC := .reg [⟨some 94, .move (.tmp 2), none⟩,
  ⟨some 6, .assign (.tmp 94), none⟩,
  ⟨some 7, .assign (.const (.bool true)), none⟩]
def fS96 : SC := (.seq fS96r0 (.seq (.seq fS96r1 (.cond (.tmp 12) (.seq (.seq fS96r2 (.cond (.tmp 16) (.seq (.seq fS96r3 (.cond (.tmp 22) (.seq fS96r4 .ret) .skip)) (.seq fS96r5 .ret)) .skip)) (.seq fS96r6 .ret)) .skip)) (.seq (.seq fS96r7 (.cond (.tmp 66) (.seq fS96r8 .ret) .skip)) (.seq fS96r9 (.seq (.seq fS96r10 fS96b1) (.seq (.seq fS96r14 (.cond (.tmp 93) (.seq fS96r15 .ret) .skip)) (.seq fS96r16 .ret)))))))
theorem fB96 : Tryz.f96.body.bind stripC = some fS96 := by kernel_rfl
/-! ref13_Apply: function 88, 8 temporaries. -/
def fS88r0 : SC := .reg [⟨some 3, .box 41 (.tmp 1), none⟩,
  ⟨some 4, .alloc 41, none⟩]
def fS88r1 : SC := .reg [⟨some 5, .load 41 (.tmp 3), none⟩,
  ⟨some 6, .move (.tmp 0), none⟩,
  ⟨some 7, .call ⟨.value (.func 25), #[(.tmp 5), (.tmp 6)], #[41, 49]⟩, none⟩,
  ⟨none, .store 41 (.tmp 4) (.tmp 7), none⟩]
def fS88 : SC := (.seq fS88r0 (.seq fS88r1 .ret))
theorem fB88 : Tryz.f88.body.bind stripC = some fS88 := by kernel_rfl
/-! ref13_has: function 92, 19 temporaries. -/
def fS92r0 : SC := .reg [⟨some 4, .assign (.const (.bool false)), none⟩]
def fS92r1 : SC := .reg [⟨some 5, .assign (.const (.int .i64 0)), none⟩]
def fS92r2 : SC := .reg [⟨some 6, .move (.tmp 5), none⟩,
  ⟨some 7, .move (.tmp 0), none⟩,
  ⟨some 8, .call ⟨.builtin .len, #[(.tmp 7)], #[49]⟩, none⟩,
  ⟨some 9, .binOp .lss 3 (.tmp 6) (.tmp 8) 3, none⟩]
def fS92r3 : SC := .reg [⟨some 12, .move (.tmp 0), none⟩,
  ⟨some 13, .move (.tmp 5), none⟩,
  ⟨some 14, .indexAddr 49 (.tmp 12) (.tmp 13), none⟩,
  ⟨some 15, .fieldAddr 65 (.tmp 14) 0, none⟩,
  ⟨some 16, .load 3 (.tmp 15), none⟩,
  ⟨some 17, .move (.tmp 1), none⟩,
  ⟨some 18, .binOp .eql 3 (.tmp 16) (.tmp 17) 3, none⟩]
def fS92r4 : SC := .reg [⟨some 4, .assign (.const (.bool true)), none⟩]
def fS92b0 : SC := .block 1 (.seq fS92r3 (.cond (.tmp 18) (.seq fS92r4 .ret) .skip))
def fS92r5 : SC := .reg [⟨some 10, .move (.tmp 5), none⟩,
  ⟨some 11, .binOp .add 3 (.tmp 10) (.const (.int .i64 1)) 3, none⟩,
  ⟨some 5, .assign (.tmp 11), none⟩]
def fS92l0 : SC := (.seq (.seq fS92r2 (.cond (.tmp 9) .skip (.exit 0))) (.seq fS92b0 fS92r5))
def fS92b1 : SC := .block 0 (.loop fS92l0)
def fS92r6 : SC := .reg [⟨some 4, .assign (.const (.bool false)), none⟩]
def fS92 : SC := (.seq fS92r0 (.seq (.seq fS92r1 fS92b1) (.seq fS92r6 .ret)))
theorem fB92 : Tryz.f92.body.bind stripC = some fS92 := by kernel_rfl
end Go.Proofs.YthfcfmkdeheicaaGreat
