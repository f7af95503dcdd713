import Derived.Test.YthfcfmkdeheicaaRT
import Derived.Test.YthfcfmkdeheicaaJH
import Derived.Test.YthfcfmkdeheicaaRows
set_option linter.all false
namespace Go.Proofs.Ythfcfmkdeheicaa
open Go.J
/-! ref3_Equal: function 19, 36 temporaries. -/
def S_ref3_Equal_r0 : SC := .reg [⟨some 2, .box 25 (.tmp 0), none⟩,
  ⟨some 3, .box 25 (.tmp 1), none⟩,
  ⟨some 4, .assign (.const (.bool false)), none⟩]
def S_ref3_Equal_r1 : SC := .reg [⟨some 5, .fieldAddr 25 (.tmp 2) 0, none⟩,
  ⟨some 6, .load 3 (.tmp 5), none⟩,
  ⟨some 7, .fieldAddr 25 (.tmp 3) 0, none⟩,
  ⟨some 8, .load 3 (.tmp 7), none⟩,
  ⟨some 9, .binOp .neq 3 (.tmp 6) (.tmp 8) 3, none⟩,
  ⟨some 10, .move (.tmp 9), none⟩,
  ⟨some 11, .fieldAddr 25 (.tmp 2) 1, some (10, false)⟩,
  ⟨some 12, .load 9 (.tmp 11), some (10, false)⟩,
  ⟨some 13, .fieldAddr 25 (.tmp 3) 1, some (10, false)⟩,
  ⟨some 14, .load 9 (.tmp 13), some (10, false)⟩,
  ⟨some 15, .binOp .neq 9 (.tmp 12) (.tmp 14) 9, some (10, false)⟩,
  ⟨some 16, .pick (.tmp 10) (.const (.bool true)) (.tmp 15), none⟩,
  ⟨some 17, .move (.tmp 16), none⟩,
  ⟨some 18, .fieldAddr 25 (.tmp 2) 2, some (17, false)⟩,
  ⟨some 19, .load 3 (.tmp 18), some (17, false)⟩,
  ⟨some 20, .fieldAddr 25 (.tmp 3) 2, some (17, false)⟩,
  ⟨some 21, .load 3 (.tmp 20), some (17, false)⟩,
  ⟨some 22, .binOp .neq 3 (.tmp 19) (.tmp 21) 3, some (17, false)⟩,
  ⟨some 23, .pick (.tmp 17) (.const (.bool true)) (.tmp 22), none⟩,
  ⟨some 24, .move (.tmp 23), none⟩,
  ⟨some 25, .fieldAddr 25 (.tmp 2) 3, some (24, false)⟩,
  ⟨some 26, .load 3 (.tmp 25), some (24, false)⟩,
  ⟨some 27, .fieldAddr 25 (.tmp 3) 3, some (24, false)⟩,
  ⟨some 28, .load 3 (.tmp 27), some (24, false)⟩,
  ⟨some 29, .binOp .neq 3 (.tmp 26) (.tmp 28) 3, some (24, false)⟩,
  ⟨some 30, .pick (.tmp 24) (.const (.bool true)) (.tmp 29), none⟩]
def S_ref3_Equal_r2 : SC := .reg [⟨some 4, .assign (.const (.bool false)), none⟩]
def S_ref3_Equal_r3 : SC := .reg [⟨some 31, .fieldAddr 25 (.tmp 2) 4, none⟩,
  ⟨some 32, .load 23 (.tmp 31), none⟩,
  ⟨some 33, .fieldAddr 25 (.tmp 3) 4, none⟩,
  ⟨some 34, .load 23 (.tmp 33), none⟩,
  ⟨some 35, .call ⟨.value (.func 65), #[(.tmp 32), (.tmp 34)], #[23, 23]⟩, none⟩,
  ⟨some 4, .assign (.tmp 35), none⟩]
def S_ref3_Equal : SC := (.seq S_ref3_Equal_r0 (.seq (.seq S_ref3_Equal_r1 (.cond (.tmp 30) (.seq S_ref3_Equal_r2 .ret) .skip)) (.seq S_ref3_Equal_r3 .ret)))
theorem BS_ref3_Equal : Try.f19.body.bind stripC = some S_ref3_Equal := by kernel_rfl
/-! ref3_EqualAll: function 65, 27 temporaries. -/
def S_ref3_EqualAll_r0 : SC := .reg [⟨some 4, .assign (.const (.bool false)), none⟩]
def S_ref3_EqualAll_r1 : SC := .reg [⟨some 6, .move (.tmp 0), none⟩,
  ⟨some 7, .call ⟨.builtin .len, #[(.tmp 6)], #[23]⟩, none⟩,
  ⟨some 8, .move (.tmp 1), none⟩,
  ⟨some 9, .call ⟨.builtin .len, #[(.tmp 8)], #[23]⟩, none⟩,
  ⟨some 10, .binOp .neq 3 (.tmp 7) (.tmp 9) 3, none⟩]
def S_ref3_EqualAll_r2 : SC := .reg [⟨some 4, .assign (.const (.bool false)), none⟩]
def S_ref3_EqualAll_r3 : SC := .reg [⟨some 5, .assign (.const (.int .i64 0)), none⟩]
def S_ref3_EqualAll_r4 : SC := .reg [⟨some 11, .move (.tmp 5), none⟩,
  ⟨some 12, .move (.tmp 0), none⟩,
  ⟨some 13, .call ⟨.builtin .len, #[(.tmp 12)], #[23]⟩, none⟩,
  ⟨some 14, .binOp .lss 3 (.tmp 11) (.tmp 13) 3, none⟩]
def S_ref3_EqualAll_r5 : SC := .draw [⟨some 17, .move (.tmp 0), none, [0]⟩,
  ⟨some 18, .move (.tmp 5), none, [5]⟩,
  ⟨some 19, .indexAddr 23 (.tmp 17) (.tmp 18), none, [17, 18]⟩,
  ⟨some 20, .load 25 (.tmp 19), none, [19]⟩,
  ⟨some 21, .move (.tmp 1), none, [1]⟩,
  ⟨some 22, .move (.tmp 5), none, [5]⟩,
  ⟨some 23, .indexAddr 23 (.tmp 21) (.tmp 22), none, [21, 22]⟩,
  ⟨some 24, .load 25 (.tmp 23), none, [23]⟩,
  ⟨some 25, .call ⟨.value (.func 19), #[(.tmp 20), (.tmp 24)], #[25, 25]⟩, none, [20, 24]⟩,
  ⟨some 26, .unOp .not 4 (.tmp 25), none, [25]⟩] [0, 0, 3, 7, 0, 0, 48, 112, 255, 511]
def S_ref3_EqualAll_r6 : SC := .reg [⟨some 4, .assign (.const (.bool false)), none⟩]
def S_ref3_EqualAll_b0 : SC := .block 1 (.seq S_ref3_EqualAll_r5 (.cond (.tmp 26) (.seq S_ref3_EqualAll_r6 .ret) .skip))
def S_ref3_EqualAll_r7 : SC := .reg [⟨some 15, .move (.tmp 5), none⟩,
  ⟨some 16, .binOp .add 3 (.tmp 15) (.const (.int .i64 1)) 3, none⟩,
  ⟨some 5, .assign (.tmp 16), none⟩]
def S_ref3_EqualAll_l0 : SC := (.seq (.seq S_ref3_EqualAll_r4 (.cond (.tmp 14) .skip (.exit 0))) (.seq S_ref3_EqualAll_b0 S_ref3_EqualAll_r7))
def S_ref3_EqualAll_b1 : SC := .block 0 (.loop S_ref3_EqualAll_l0)
def S_ref3_EqualAll_r8 : SC := .reg [⟨some 4, .assign (.const (.bool true)), none⟩]
def S_ref3_EqualAll : SC := (.seq S_ref3_EqualAll_r0 (.seq (.seq S_ref3_EqualAll_r1 (.cond (.tmp 10) (.seq S_ref3_EqualAll_r2 .ret) .skip)) (.seq (.seq S_ref3_EqualAll_r3 S_ref3_EqualAll_b1) (.seq S_ref3_EqualAll_r8 .ret))))
theorem BS_ref3_EqualAll : Try.f65.body.bind stripC = some S_ref3_EqualAll := by kernel_rfl
/-! make_Mod: function 22, 16 temporaries. -/
def S_make_Mod_r0 : SC := .reg [⟨some 4, .assign (.const (.int .i64 0)), none⟩]
def S_make_Mod_r1 : SC := .reg [⟨some 5, .move (.tmp 1), none⟩,
  ⟨some 6, .binOp .lss 3 (.tmp 5) (.const (.int .i64 1)) 3, none⟩]
def S_make_Mod_r2 : SC := .reg [⟨some 4, .assign (.const (.int .i64 0)), none⟩]
def S_make_Mod_r3 : SC := .reg [⟨some 7, .move (.tmp 0), none⟩,
  ⟨some 8, .move (.tmp 1), none⟩,
  ⟨some 9, .binOp .rem 3 (.tmp 7) (.tmp 8) 3, none⟩,
  ⟨some 0, .assign (.tmp 9), none⟩]
def S_make_Mod_r4 : SC := .reg [⟨some 10, .move (.tmp 0), none⟩,
  ⟨some 11, .binOp .lss 3 (.tmp 10) (.const (.int .i64 0)) 3, none⟩]
def S_make_Mod_r5 : SC := .reg [⟨some 12, .move (.tmp 0), none⟩,
  ⟨some 13, .move (.tmp 1), none⟩,
  ⟨some 14, .binOp .add 3 (.tmp 12) (.tmp 13) 3, none⟩,
  ⟨some 0, .assign (.tmp 14), none⟩]
def S_make_Mod_r6 : SC := .reg [⟨some 15, .move (.tmp 0), none⟩,
  ⟨some 4, .assign (.tmp 15), none⟩]
def S_make_Mod : SC := (.seq S_make_Mod_r0 (.seq (.seq S_make_Mod_r1 (.cond (.tmp 6) (.seq S_make_Mod_r2 .ret) .skip)) (.seq S_make_Mod_r3 (.seq (.seq S_make_Mod_r4 (.cond (.tmp 11) S_make_Mod_r5 .skip)) (.seq S_make_Mod_r6 .ret)))))
theorem BS_make_Mod : Try.f22.body.bind stripC = some S_make_Mod := by kernel_rfl
/-! make_Few: function 11, 6 temporaries. -/
def S_make_Few_r0 : SC := .reg [⟨some 2, .assign (.const (.bool false)), none⟩]
def S_make_Few_r1 : SC := .reg [⟨some 3, .move (.tmp 0), none⟩,
  ⟨some 4, .call ⟨.builtin .len, #[(.tmp 3)], #[22]⟩, none⟩,
  ⟨some 5, .binOp .leq 3 (.tmp 4) (.const (.int .i64 60)) 3, none⟩,
  ⟨some 2, .assign (.tmp 5), none⟩]
def S_make_Few : SC := (.seq S_make_Few_r0 (.seq S_make_Few_r1 .ret))
theorem BS_make_Few : Try.f11.body.bind stripC = some S_make_Few := by kernel_rfl
/-! ref3_Con: function 67, 9 temporaries. -/
def S_ref3_Con_r0 : SC := .reg [⟨some 4, .alloc 25, none⟩]
def S_ref3_Con_r1 : SC := .reg [⟨some 5, .move (.tmp 0), none⟩,
  ⟨some 6, .move (.tmp 1), none⟩,
  ⟨some 7, .call ⟨.builtin .append, #[(.const (.slice none 0 0)), (.tmp 6)], #[23, 23]⟩, none⟩,
  ⟨some 8, .build 25 #[(0, (.const (.int .i64 4))), (1, (.tmp 5)), (4, (.tmp 7))], none⟩,
  ⟨none, .store 25 (.tmp 4) (.tmp 8), none⟩]
def S_ref3_Con : SC := (.seq S_ref3_Con_r0 (.seq S_ref3_Con_r1 .ret))
theorem BS_ref3_Con : Try.f67.body.bind stripC = some S_ref3_Con := by kernel_rfl
/-! ref3_Int: function 26, 2 temporaries. -/
def S_ref3_Int_r0 : SC := .reg [⟨some 0, .alloc 25, none⟩]
def S_ref3_Int_r1 : SC := .reg [⟨some 1, .call ⟨.value (.func 67), #[(.const (.string ⟨#[73, 110, 116]⟩)), (.const (.slice none 0 0))], #[9, 23]⟩, none⟩,
  ⟨none, .store 25 (.tmp 0) (.tmp 1), none⟩]
def S_ref3_Int : SC := (.seq S_ref3_Int_r0 (.seq S_ref3_Int_r1 .ret))
theorem BS_ref3_Int : Try.f26.body.bind stripC = some S_ref3_Int := by kernel_rfl
/-! ref3_Arrow: function 72, 9 temporaries. -/
def S_ref3_Arrow_r0 : SC := .reg [⟨some 2, .box 25 (.tmp 0), none⟩,
  ⟨some 3, .box 25 (.tmp 1), none⟩,
  ⟨some 4, .alloc 25, none⟩]
def S_ref3_Arrow_r1 : SC := .reg [⟨some 5, .load 25 (.tmp 2), none⟩,
  ⟨some 6, .load 25 (.tmp 3), none⟩,
  ⟨some 7, .buildSlice 23 2 #[(0, (.tmp 5)), (1, (.tmp 6))], none⟩,
  ⟨some 8, .call ⟨.value (.func 67), #[(.const (.string ⟨#[45, 62]⟩)), (.tmp 7)], #[9, 23]⟩, none⟩,
  ⟨none, .store 25 (.tmp 4) (.tmp 8), none⟩]
def S_ref3_Arrow : SC := (.seq S_ref3_Arrow_r0 (.seq S_ref3_Arrow_r1 .ret))
theorem BS_ref3_Arrow : Try.f72.body.bind stripC = some S_ref3_Arrow := by kernel_rfl
/-! ref3_Var: function 55, 5 temporaries. -/
def S_ref3_Var_r0 : SC := .reg [⟨some 2, .alloc 25, none⟩]
def S_ref3_Var_r1 : SC := .reg [⟨some 3, .move (.tmp 0), none⟩,
  ⟨some 4, .build 25 #[(0, (.const (.int .i64 1))), (2, (.tmp 3))], none⟩,
  ⟨none, .store 25 (.tmp 2) (.tmp 4), none⟩]
def S_ref3_Var : SC := (.seq S_ref3_Var_r0 (.seq S_ref3_Var_r1 .ret))
theorem BS_ref3_Var : Try.f55.body.bind stripC = some S_ref3_Var := by kernel_rfl
/-! ref3_Bound: function 33, 5 temporaries. -/
def S_ref3_Bound_r0 : SC := .reg [⟨some 2, .alloc 25, none⟩]
def S_ref3_Bound_r1 : SC := .reg [⟨some 3, .move (.tmp 0), none⟩,
  ⟨some 4, .build 25 #[(0, (.const (.int .i64 2))), (2, (.tmp 3))], none⟩,
  ⟨none, .store 25 (.tmp 2) (.tmp 4), none⟩]
def S_ref3_Bound : SC := (.seq S_ref3_Bound_r0 (.seq S_ref3_Bound_r1 .ret))
theorem BS_ref3_Bound : Try.f33.body.bind stripC = some S_ref3_Bound := by kernel_rfl
/-! ref3_Rigid: function 59, 8 temporaries. -/
def S_ref3_Rigid_r0 : SC := .reg [⟨some 4, .alloc 25, none⟩]
def S_ref3_Rigid_r1 : SC := .reg [⟨some 5, .move (.tmp 0), none⟩,
  ⟨some 6, .move (.tmp 1), none⟩,
  ⟨some 7, .build 25 #[(0, (.const (.int .i64 3))), (3, (.tmp 5)), (2, (.tmp 6))], none⟩,
  ⟨none, .store 25 (.tmp 4) (.tmp 7), none⟩]
def S_ref3_Rigid : SC := (.seq S_ref3_Rigid_r0 (.seq S_ref3_Rigid_r1 .ret))
theorem BS_ref3_Rigid : Try.f59.body.bind stripC = some S_ref3_Rigid := by kernel_rfl
/-! make_Tape_Next: function 58, 35 temporaries. -/
def S_make_Tape_Next_r0 : SC := .reg [⟨some 4, .assign (.const (.int .i64 0)), none⟩]
def S_make_Tape_Next_r1 : SC := .draw [⟨some 5, .move (.tmp 0), none, [0]⟩,
  ⟨some 6, .nilCheck (.tmp 5), none, [5]⟩,
  ⟨some 7, .fieldAddr 34 (.tmp 6) 1, none, [6]⟩,
  ⟨some 8, .load 3 (.tmp 7), none, [7]⟩,
  ⟨some 9, .move (.tmp 0), none, [0]⟩,
  ⟨some 10, .nilCheck (.tmp 9), none, [9]⟩,
  ⟨some 11, .fieldAddr 34 (.tmp 10) 0, none, [10]⟩,
  ⟨some 12, .load 22 (.tmp 11), none, [11]⟩,
  ⟨some 13, .call ⟨.builtin .len, #[(.tmp 12)], #[22]⟩, none, [12]⟩,
  ⟨some 14, .binOp .geq 3 (.tmp 8) (.tmp 13) 3, none, [8, 13]⟩] [0, 1, 3, 7, 0, 16, 48, 112, 240, 511]
def S_make_Tape_Next_r2 : SC := .reg [⟨some 4, .assign (.const (.int .i64 0)), none⟩]
def S_make_Tape_Next_r3 : SC := .reg [⟨some 15, .move (.tmp 0), none⟩,
  ⟨some 16, .nilCheck (.tmp 15), none⟩,
  ⟨some 17, .fieldAddr 34 (.tmp 16) 1, none⟩,
  ⟨some 18, .load 3 (.tmp 17), none⟩,
  ⟨some 19, .binOp .add 3 (.tmp 18) (.const (.int .i64 1)) 3, none⟩,
  ⟨some 20, .nilCheck (.tmp 15), none⟩,
  ⟨some 21, .fieldAddr 34 (.tmp 20) 1, none⟩,
  ⟨none, .store 3 (.tmp 21) (.tmp 19), none⟩]
def S_make_Tape_Next_r4 : SC := .draw [⟨some 22, .move (.tmp 0), none, [0]⟩,
  ⟨some 23, .nilCheck (.tmp 22), none, [22]⟩,
  ⟨some 24, .fieldAddr 34 (.tmp 23) 0, none, [23]⟩,
  ⟨some 25, .load 22 (.tmp 24), none, [24]⟩,
  ⟨some 26, .move (.tmp 0), none, [0]⟩,
  ⟨some 27, .nilCheck (.tmp 26), none, [26]⟩,
  ⟨some 28, .fieldAddr 34 (.tmp 27) 1, none, [27]⟩,
  ⟨some 29, .load 3 (.tmp 28), none, [28]⟩,
  ⟨some 30, .binOp .sub 3 (.tmp 29) (.const (.int .i64 1)) 3, none, [29]⟩,
  ⟨some 31, .indexAddr 22 (.tmp 25) (.tmp 30), none, [25, 30]⟩,
  ⟨some 32, .load 3 (.tmp 31), none, [31]⟩,
  ⟨some 33, .move (.tmp 1), none, [1]⟩,
  ⟨some 34, .call ⟨.value (.func 22), #[(.tmp 32), (.tmp 33)], #[3, 3]⟩, none, [32, 33]⟩,
  ⟨some 4, .assign (.tmp 34), none, [34]⟩] [0, 1, 3, 7, 0, 16, 48, 112, 240, 511, 1023, 0, 4095, 8191]
def S_make_Tape_Next : SC := (.seq S_make_Tape_Next_r0 (.seq (.seq S_make_Tape_Next_r1 (.cond (.tmp 14) (.seq S_make_Tape_Next_r2 .ret) .skip)) (.seq S_make_Tape_Next_r3 (.seq S_make_Tape_Next_r4 .ret))))
theorem BS_make_Tape_Next : Try.f58.body.bind stripC = some S_make_Tape_Next := by kernel_rfl
/-! make_Vars: function 32, 16 temporaries. -/
def S_make_Vars_r0 : SC := .reg [⟨some 2, .assign (.const (.slice none 0 0)), none⟩]
def S_make_Vars_r1 : SC := .reg [⟨some 3, .assign (.const (.slice none 0 0)), none⟩]
def S_make_Vars_r2 : SC := .reg [⟨some 4, .assign (.const (.int .i64 0)), none⟩]
def S_make_Vars_r3 : SC := .reg [⟨some 5, .move (.tmp 4), none⟩,
  ⟨some 6, .move (.tmp 0), none⟩,
  ⟨some 7, .binOp .lss 3 (.tmp 5) (.tmp 6) 3, none⟩]
def S_make_Vars_r4 : SC := .reg [⟨some 10, .move (.tmp 3), none⟩,
  ⟨some 11, .move (.tmp 4), none⟩,
  ⟨some 12, .call ⟨.value (.func 55), #[(.tmp 11)], #[3]⟩, none⟩,
  ⟨some 13, .buildSlice 23 1 #[(0, (.tmp 12))], none⟩,
  ⟨some 14, .call ⟨.builtin .append, #[(.tmp 10), (.tmp 13)], #[23, 23]⟩, none⟩,
  ⟨some 3, .assign (.tmp 14), none⟩]
def S_make_Vars_b0 : SC := .block 1 S_make_Vars_r4
def S_make_Vars_r5 : SC := .reg [⟨some 8, .move (.tmp 4), none⟩,
  ⟨some 9, .binOp .add 3 (.tmp 8) (.const (.int .i64 1)) 3, none⟩,
  ⟨some 4, .assign (.tmp 9), none⟩]
def S_make_Vars_l0 : SC := (.seq (.seq S_make_Vars_r3 (.cond (.tmp 7) .skip (.exit 0))) (.seq S_make_Vars_b0 S_make_Vars_r5))
def S_make_Vars_b1 : SC := .block 0 (.loop S_make_Vars_l0)
def S_make_Vars_r6 : SC := .reg [⟨some 15, .move (.tmp 3), none⟩,
  ⟨some 2, .assign (.tmp 15), none⟩]
def S_make_Vars : SC := (.seq S_make_Vars_r0 (.seq S_make_Vars_r1 (.seq (.seq S_make_Vars_r2 S_make_Vars_b1) (.seq S_make_Vars_r6 .ret))))
theorem BS_make_Vars : Try.f32.body.bind stripC = some S_make_Vars := by kernel_rfl
/-! make_Datas: function 15, 45 temporaries. -/
def S_make_Datas_r0 : SC := .reg [⟨some 2, .assign (.const (.slice none 0 0)), none⟩]
def S_make_Datas_r1 : SC := .reg [⟨some 6, .call ⟨.value (.func 61), #[], #[]⟩, none⟩,
  ⟨some 3, .assign (.tmp 6), none⟩]
def S_make_Datas_r2 : SC := .reg [⟨some 4, .assign (.const (.slice none 0 0)), none⟩]
def S_make_Datas_r3 : SC := .reg [⟨some 7, .move (.tmp 0), none⟩,
  ⟨some 8, .binOp .and 3 (.tmp 7) (.const (.int .i64 2)) 3, none⟩,
  ⟨some 9, .binOp .neq 3 (.tmp 8) (.const (.int .i64 0)) 3, none⟩,
  ⟨some 10, .move (.tmp 9), none⟩,
  ⟨some 11, .move (.tmp 0), some (10, false)⟩,
  ⟨some 12, .binOp .and 3 (.tmp 11) (.const (.int .i64 64)) 3, some (10, false)⟩,
  ⟨some 13, .binOp .neq 3 (.tmp 12) (.const (.int .i64 0)) 3, some (10, false)⟩,
  ⟨some 14, .pick (.tmp 10) (.const (.bool true)) (.tmp 13), none⟩]
def S_make_Datas_r4 : SC := .reg [⟨some 15, .move (.tmp 4), none⟩,
  ⟨some 16, .move (.tmp 3), none⟩,
  ⟨some 17, .indexAddr 40 (.tmp 16) (.const (.int .i64 1)), none⟩,
  ⟨some 18, .load 98 (.tmp 17), none⟩,
  ⟨some 19, .buildSlice 40 1 #[(0, (.tmp 18))], none⟩,
  ⟨some 20, .call ⟨.builtin .append, #[(.tmp 15), (.tmp 19)], #[40, 40]⟩, none⟩,
  ⟨some 4, .assign (.tmp 20), none⟩]
def S_make_Datas_r5 : SC := .reg [⟨some 5, .assign (.const (.int .i64 0)), none⟩]
def S_make_Datas_r6 : SC := .reg [⟨some 21, .move (.tmp 5), none⟩,
  ⟨some 22, .move (.tmp 3), none⟩,
  ⟨some 23, .call ⟨.builtin .len, #[(.tmp 22)], #[40]⟩, none⟩,
  ⟨some 24, .binOp .lss 3 (.tmp 21) (.tmp 23) 3, none⟩]
def S_make_Datas_r7 : SC := .reg [⟨some 27, .move (.tmp 5), none⟩,
  ⟨some 28, .binOp .neq 3 (.tmp 27) (.const (.int .i64 1)) 3, none⟩,
  ⟨some 29, .move (.tmp 28), none⟩,
  ⟨some 30, .move (.tmp 0), some (29, true)⟩,
  ⟨some 31, .move (.tmp 5), some (29, true)⟩,
  ⟨some 32, .convert 3 99 (.tmp 31), some (29, true)⟩,
  ⟨some 33, .binOp .shr 3 (.tmp 30) (.tmp 32) 99, some (29, true)⟩,
  ⟨some 34, .binOp .and 3 (.tmp 33) (.const (.int .i64 1)) 3, some (29, true)⟩,
  ⟨some 35, .binOp .eql 3 (.tmp 34) (.const (.int .i64 1)) 3, some (29, true)⟩,
  ⟨some 36, .pick (.tmp 29) (.tmp 35) (.const (.bool false)), none⟩]
def S_make_Datas_r8 : SC := .reg [⟨some 37, .move (.tmp 4), none⟩,
  ⟨some 38, .move (.tmp 3), none⟩,
  ⟨some 39, .move (.tmp 5), none⟩,
  ⟨some 40, .indexAddr 40 (.tmp 38) (.tmp 39), none⟩,
  ⟨some 41, .load 98 (.tmp 40), none⟩,
  ⟨some 42, .buildSlice 40 1 #[(0, (.tmp 41))], none⟩,
  ⟨some 43, .call ⟨.builtin .append, #[(.tmp 37), (.tmp 42)], #[40, 40]⟩, none⟩,
  ⟨some 4, .assign (.tmp 43), none⟩]
def S_make_Datas_b0 : SC := .block 1 (.seq S_make_Datas_r7 (.cond (.tmp 36) S_make_Datas_r8 .skip))
def S_make_Datas_r9 : SC := .reg [⟨some 25, .move (.tmp 5), none⟩,
  ⟨some 26, .binOp .add 3 (.tmp 25) (.const (.int .i64 1)) 3, none⟩,
  ⟨some 5, .assign (.tmp 26), none⟩]
def S_make_Datas_l0 : SC := (.seq (.seq S_make_Datas_r6 (.cond (.tmp 24) .skip (.exit 0))) (.seq S_make_Datas_b0 S_make_Datas_r9))
def S_make_Datas_b1 : SC := .block 0 (.loop S_make_Datas_l0)
def S_make_Datas_r10 : SC := .reg [⟨some 44, .move (.tmp 4), none⟩,
  ⟨some 2, .assign (.tmp 44), none⟩]
def S_make_Datas : SC := (.seq S_make_Datas_r0 (.seq S_make_Datas_r1 (.seq S_make_Datas_r2 (.seq (.seq S_make_Datas_r3 (.cond (.tmp 14) S_make_Datas_r4 .skip)) (.seq (.seq S_make_Datas_r5 S_make_Datas_b1) (.seq S_make_Datas_r10 .ret))))))
theorem BS_make_Datas : Try.f15.body.bind stripC = some S_make_Datas := by kernel_rfl
/-! make_Tape_Type: function 31, 95 temporaries. -/
def S_make_Tape_Type_r0 : SC := .reg [⟨some 8, .alloc 25, none⟩]
def S_make_Tape_Type_r1 : SC := .reg [⟨some 14, .move (.tmp 0), none⟩,
  ⟨some 15, .call ⟨.value (.func 58), #[(.tmp 14), (.const (.int .i64 7))], #[32, 3]⟩, none⟩,
  ⟨some 9, .assign (.tmp 15), none⟩]
def S_make_Tape_Type_r2 : SC := .reg [⟨some 17, .move (.tmp 9), none⟩,
  ⟨some 18, .binOp .lss 3 (.tmp 17) (.const (.int .i64 3)) 3, none⟩,
  ⟨some 19, .move (.tmp 18), none⟩,
  ⟨some 20, .move (.tmp 2), some (19, true)⟩,
  ⟨some 21, .call ⟨.builtin .len, #[(.tmp 20)], #[23]⟩, some (19, true)⟩,
  ⟨some 22, .binOp .gtr 3 (.tmp 21) (.const (.int .i64 0)) 3, some (19, true)⟩,
  ⟨some 23, .pick (.tmp 19) (.tmp 22) (.const (.bool false)), none⟩,
  ⟨some 16, .assign (.tmp 23), none⟩]
def S_make_Tape_Type_r3 : SC := .reg [⟨some 24, .move (.tmp 2), none⟩,
  ⟨some 25, .move (.tmp 0), none⟩,
  ⟨some 26, .move (.tmp 2), none⟩,
  ⟨some 27, .call ⟨.builtin .len, #[(.tmp 26)], #[23]⟩, none⟩,
  ⟨some 28, .call ⟨.value (.func 58), #[(.tmp 25), (.tmp 27)], #[32, 3]⟩, none⟩,
  ⟨some 29, .indexAddr 23 (.tmp 24) (.tmp 28), none⟩,
  ⟨some 30, .load 25 (.tmp 29), none⟩,
  ⟨none, .store 25 (.tmp 8) (.tmp 30), none⟩]
def S_make_Tape_Type_r4 : SC := .reg [⟨some 32, .move (.tmp 9), none⟩,
  ⟨some 33, .binOp .lss 3 (.tmp 32) (.const (.int .i64 4)) 3, none⟩,
  ⟨some 34, .move (.tmp 33), none⟩,
  ⟨some 35, .move (.tmp 3), some (34, false)⟩,
  ⟨some 36, .binOp .lss 3 (.tmp 35) (.const (.int .i64 1)) 3, some (34, false)⟩,
  ⟨some 37, .pick (.tmp 34) (.const (.bool true)) (.tmp 36), none⟩,
  ⟨some 31, .assign (.tmp 37), none⟩]
def S_make_Tape_Type_r5 : SC := .reg [⟨some 38, .call ⟨.value (.func 26), #[], #[]⟩, none⟩,
  ⟨none, .store 25 (.tmp 8) (.tmp 38), none⟩]
def S_make_Tape_Type_r6 : SC := .reg [⟨some 40, .move (.tmp 9), none⟩,
  ⟨some 41, .binOp .eql 3 (.tmp 40) (.const (.int .i64 4)) 3, none⟩,
  ⟨some 42, .move (.tmp 41), none⟩,
  ⟨some 43, .move (.tmp 1), some (42, true)⟩,
  ⟨some 44, .call ⟨.builtin .len, #[(.tmp 43)], #[40]⟩, some (42, true)⟩,
  ⟨some 45, .binOp .gtr 3 (.tmp 44) (.const (.int .i64 0)) 3, some (42, true)⟩,
  ⟨some 46, .pick (.tmp 42) (.tmp 45) (.const (.bool false)), none⟩,
  ⟨some 39, .assign (.tmp 46), none⟩]
def S_make_Tape_Type_r7 : SC := .reg [⟨some 47, .move (.tmp 9), none⟩,
  ⟨some 48, .binOp .eql 3 (.tmp 47) (.const (.int .i64 5)) 3, none⟩,
  ⟨some 49, .move (.tmp 48), none⟩,
  ⟨some 50, .move (.tmp 1), some (49, true)⟩,
  ⟨some 51, .call ⟨.builtin .len, #[(.tmp 50)], #[40]⟩, some (49, true)⟩,
  ⟨some 52, .binOp .gtr 3 (.tmp 51) (.const (.int .i64 0)) 3, some (49, true)⟩,
  ⟨some 53, .pick (.tmp 49) (.tmp 52) (.const (.bool false)), none⟩,
  ⟨some 39, .assign (.tmp 53), none⟩]
def S_make_Tape_Type_r8 : SC := .reg [⟨some 54, .move (.tmp 1), none⟩,
  ⟨some 55, .move (.tmp 0), none⟩,
  ⟨some 56, .move (.tmp 1), none⟩,
  ⟨some 57, .call ⟨.builtin .len, #[(.tmp 56)], #[40]⟩, none⟩,
  ⟨some 58, .call ⟨.value (.func 58), #[(.tmp 55), (.tmp 57)], #[32, 3]⟩, none⟩,
  ⟨some 59, .indexAddr 40 (.tmp 54) (.tmp 58), none⟩,
  ⟨some 60, .load 98 (.tmp 59), none⟩,
  ⟨some 10, .alloc 98, none⟩,
  ⟨none, .store 98 (.tmp 10) (.tmp 60), none⟩]
def S_make_Tape_Type_r9 : SC := .reg [⟨some 11, .assign (.const (.slice none 0 0)), none⟩]
def S_make_Tape_Type_r10 : SC := .reg [⟨some 12, .assign (.const (.int .i64 0)), none⟩]
def S_make_Tape_Type_r11 : SC := .reg [⟨some 61, .move (.tmp 12), none⟩,
  ⟨some 62, .fieldAddr 98 (.tmp 10) 2, none⟩,
  ⟨some 63, .load 95 (.tmp 62), none⟩,
  ⟨some 64, .call ⟨.builtin .len, #[(.tmp 63)], #[95]⟩, none⟩,
  ⟨some 65, .binOp .lss 3 (.tmp 61) (.tmp 64) 3, none⟩]
def S_make_Tape_Type_r12 : SC := .reg [⟨some 68, .move (.tmp 11), none⟩,
  ⟨some 69, .move (.tmp 0), none⟩,
  ⟨some 70, .move (.tmp 1), none⟩,
  ⟨some 71, .move (.tmp 2), none⟩,
  ⟨some 72, .move (.tmp 3), none⟩,
  ⟨some 73, .binOp .sub 3 (.tmp 72) (.const (.int .i64 1)) 3, none⟩,
  ⟨some 74, .call ⟨.value (.func 31), #[(.tmp 69), (.tmp 70), (.tmp 71), (.tmp 73)], #[32, 40, 23, 3]⟩, none⟩,
  ⟨some 75, .buildSlice 23 1 #[(0, (.tmp 74))], none⟩,
  ⟨some 76, .call ⟨.builtin .append, #[(.tmp 68), (.tmp 75)], #[23, 23]⟩, none⟩,
  ⟨some 11, .assign (.tmp 76), none⟩]
def S_make_Tape_Type_b0 : SC := .block 2 S_make_Tape_Type_r12
def S_make_Tape_Type_r13 : SC := .reg [⟨some 66, .move (.tmp 12), none⟩,
  ⟨some 67, .binOp .add 3 (.tmp 66) (.const (.int .i64 1)) 3, none⟩,
  ⟨some 12, .assign (.tmp 67), none⟩]
def S_make_Tape_Type_l0 : SC := (.seq (.seq S_make_Tape_Type_r11 (.cond (.tmp 65) .skip (.exit 1))) (.seq S_make_Tape_Type_b0 S_make_Tape_Type_r13))
def S_make_Tape_Type_b1 : SC := .block 1 (.loop S_make_Tape_Type_l0)
def S_make_Tape_Type_r14 : SC := .reg [⟨some 77, .fieldAddr 98 (.tmp 10) 1, none⟩,
  ⟨some 78, .load 9 (.tmp 77), none⟩,
  ⟨some 79, .move (.tmp 11), none⟩,
  ⟨some 80, .call ⟨.value (.func 67), #[(.tmp 78), (.tmp 79)], #[9, 23]⟩, none⟩,
  ⟨none, .store 25 (.tmp 8) (.tmp 80), none⟩]
def S_make_Tape_Type_b2 : SC := .block 0 (.seq S_make_Tape_Type_r2 (.cond (.tmp 16) (.seq S_make_Tape_Type_r3 .ret) (.seq S_make_Tape_Type_r4 (.cond (.tmp 31) (.seq S_make_Tape_Type_r5 .ret) (.seq (.seq S_make_Tape_Type_r6 (.cond (.tmp 39) .skip S_make_Tape_Type_r7)) (.cond (.tmp 39) (.seq S_make_Tape_Type_r8 (.seq S_make_Tape_Type_r9 (.seq (.seq S_make_Tape_Type_r10 S_make_Tape_Type_b1) (.seq S_make_Tape_Type_r14 .ret)))) .skip))))))
def S_make_Tape_Type_r15 : SC := .reg [⟨some 81, .move (.tmp 0), none⟩,
  ⟨some 82, .move (.tmp 1), none⟩,
  ⟨some 83, .move (.tmp 2), none⟩,
  ⟨some 84, .move (.tmp 3), none⟩,
  ⟨some 85, .binOp .sub 3 (.tmp 84) (.const (.int .i64 1)) 3, none⟩,
  ⟨some 86, .call ⟨.value (.func 31), #[(.tmp 81), (.tmp 82), (.tmp 83), (.tmp 85)], #[32, 40, 23, 3]⟩, none⟩,
  ⟨some 13, .alloc 25, none⟩,
  ⟨none, .store 25 (.tmp 13) (.tmp 86), none⟩]
def S_make_Tape_Type_r16 : SC := .draw [⟨some 87, .load 25 (.tmp 13), none, [13]⟩,
  ⟨some 88, .move (.tmp 0), none, [0]⟩,
  ⟨some 89, .move (.tmp 1), none, [1]⟩,
  ⟨some 90, .move (.tmp 2), none, [2]⟩,
  ⟨some 91, .move (.tmp 3), none, [3]⟩,
  ⟨some 92, .binOp .sub 3 (.tmp 91) (.const (.int .i64 1)) 3, none, [91]⟩,
  ⟨some 93, .call ⟨.value (.func 31), #[(.tmp 88), (.tmp 89), (.tmp 90), (.tmp 92)], #[32, 40, 23, 3]⟩, none, [88, 89, 90, 92]⟩,
  ⟨some 94, .call ⟨.value (.func 72), #[(.tmp 87), (.tmp 93)], #[25, 25]⟩, none, [87, 93]⟩,
  ⟨none, .store 25 (.tmp 8) (.tmp 94), none, [8, 94]⟩] [0, 0, 0, 0, 0, 16, 62, 127, 255]
def S_make_Tape_Type : SC := (.seq S_make_Tape_Type_r0 (.seq S_make_Tape_Type_r1 (.seq S_make_Tape_Type_b2 (.seq S_make_Tape_Type_r15 (.seq S_make_Tape_Type_r16 .ret)))))
theorem BS_make_Tape_Type : Try.f31.body.bind stripC = some S_make_Tape_Type := by kernel_rfl
/-! ref3_leaves: function 85, 52 temporaries. -/
def S_ref3_leaves_r0 : SC := .reg [⟨some 4, .box 25 (.tmp 1), none⟩,
  ⟨some 6, .assign (.const (.slice none 0 0)), none⟩]
def S_ref3_leaves_r1 : SC := .reg [⟨some 9, .fieldAddr 25 (.tmp 4) 0, none⟩,
  ⟨some 10, .load 3 (.tmp 9), none⟩,
  ⟨some 11, .move (.tmp 2), none⟩,
  ⟨some 12, .binOp .eql 3 (.tmp 10) (.tmp 11) 3, none⟩,
  ⟨some 13, .move (.tmp 12), none⟩,
  ⟨some 14, .fieldAddr 25 (.tmp 4) 4, some (13, true)⟩,
  ⟨some 15, .load 23 (.tmp 14), some (13, true)⟩,
  ⟨some 16, .call ⟨.builtin .len, #[(.tmp 15)], #[23]⟩, some (13, true)⟩,
  ⟨some 17, .binOp .eql 3 (.tmp 16) (.const (.int .i64 0)) 3, some (13, true)⟩,
  ⟨some 18, .pick (.tmp 13) (.tmp 17) (.const (.bool false)), none⟩]
def S_ref3_leaves_r2 : SC := .reg [⟨some 7, .assign (.const (.int .i64 0)), none⟩]
def S_ref3_leaves_r3 : SC := .reg [⟨some 19, .move (.tmp 7), none⟩,
  ⟨some 20, .move (.tmp 0), none⟩,
  ⟨some 21, .call ⟨.builtin .len, #[(.tmp 20)], #[23]⟩, none⟩,
  ⟨some 22, .binOp .lss 3 (.tmp 19) (.tmp 21) 3, none⟩]
def S_ref3_leaves_r4 : SC := .draw [⟨some 25, .move (.tmp 0), none, [0]⟩,
  ⟨some 26, .move (.tmp 7), none, [7]⟩,
  ⟨some 27, .indexAddr 23 (.tmp 25) (.tmp 26), none, [25, 26]⟩,
  ⟨some 28, .load 25 (.tmp 27), none, [27]⟩,
  ⟨some 29, .load 25 (.tmp 4), none, [4]⟩,
  ⟨some 30, .call ⟨.value (.func 19), #[(.tmp 28), (.tmp 29)], #[25, 25]⟩, none, [28, 29]⟩] [0, 0, 3, 7, 0, 31]
def S_ref3_leaves_r5 : SC := .reg [⟨some 31, .move (.tmp 0), none⟩,
  ⟨some 6, .assign (.tmp 31), none⟩]
def S_ref3_leaves_b0 : SC := .block 1 (.seq S_ref3_leaves_r4 (.cond (.tmp 30) (.seq S_ref3_leaves_r5 .ret) .skip))
def S_ref3_leaves_r6 : SC := .reg [⟨some 23, .move (.tmp 7), none⟩,
  ⟨some 24, .binOp .add 3 (.tmp 23) (.const (.int .i64 1)) 3, none⟩,
  ⟨some 7, .assign (.tmp 24), none⟩]
def S_ref3_leaves_l0 : SC := (.seq (.seq S_ref3_leaves_r3 (.cond (.tmp 22) .skip (.exit 0))) (.seq S_ref3_leaves_b0 S_ref3_leaves_r6))
def S_ref3_leaves_b1 : SC := .block 0 (.loop S_ref3_leaves_l0)
def S_ref3_leaves_r7 : SC := .reg [⟨some 32, .move (.tmp 0), none⟩,
  ⟨some 33, .load 25 (.tmp 4), none⟩,
  ⟨some 34, .buildSlice 23 1 #[(0, (.tmp 33))], none⟩,
  ⟨some 35, .call ⟨.builtin .append, #[(.tmp 32), (.tmp 34)], #[23, 23]⟩, none⟩,
  ⟨some 6, .assign (.tmp 35), none⟩]
def S_ref3_leaves_r8 : SC := .reg [⟨some 8, .assign (.const (.int .i64 0)), none⟩]
def S_ref3_leaves_r9 : SC := .reg [⟨some 36, .move (.tmp 8), none⟩,
  ⟨some 37, .fieldAddr 25 (.tmp 4) 4, none⟩,
  ⟨some 38, .load 23 (.tmp 37), none⟩,
  ⟨some 39, .call ⟨.builtin .len, #[(.tmp 38)], #[23]⟩, none⟩,
  ⟨some 40, .binOp .lss 3 (.tmp 36) (.tmp 39) 3, none⟩]
def S_ref3_leaves_r10 : SC := .reg [⟨some 43, .move (.tmp 0), none⟩,
  ⟨some 44, .fieldAddr 25 (.tmp 4) 4, none⟩,
  ⟨some 45, .load 23 (.tmp 44), none⟩,
  ⟨some 46, .move (.tmp 8), none⟩,
  ⟨some 47, .indexAddr 23 (.tmp 45) (.tmp 46), none⟩,
  ⟨some 48, .load 25 (.tmp 47), none⟩,
  ⟨some 49, .move (.tmp 2), none⟩,
  ⟨some 50, .call ⟨.value (.func 85), #[(.tmp 43), (.tmp 48), (.tmp 49)], #[23, 25, 3]⟩, none⟩,
  ⟨some 0, .assign (.tmp 50), none⟩]
def S_ref3_leaves_b2 : SC := .block 3 S_ref3_leaves_r10
def S_ref3_leaves_r11 : SC := .reg [⟨some 41, .move (.tmp 8), none⟩,
  ⟨some 42, .binOp .add 3 (.tmp 41) (.const (.int .i64 1)) 3, none⟩,
  ⟨some 8, .assign (.tmp 42), none⟩]
def S_ref3_leaves_l1 : SC := (.seq (.seq S_ref3_leaves_r9 (.cond (.tmp 40) .skip (.exit 2))) (.seq S_ref3_leaves_b2 S_ref3_leaves_r11))
def S_ref3_leaves_b3 : SC := .block 2 (.loop S_ref3_leaves_l1)
def S_ref3_leaves_r12 : SC := .reg [⟨some 51, .move (.tmp 0), none⟩,
  ⟨some 6, .assign (.tmp 51), none⟩]
def S_ref3_leaves : SC := (.seq S_ref3_leaves_r0 (.seq (.seq S_ref3_leaves_r1 (.cond (.tmp 18) (.seq (.seq S_ref3_leaves_r2 S_ref3_leaves_b1) (.seq S_ref3_leaves_r7 .ret)) .skip)) (.seq (.seq S_ref3_leaves_r8 S_ref3_leaves_b3) (.seq S_ref3_leaves_r12 .ret))))
theorem BS_ref3_leaves : Try.f85.body.bind stripC = some S_ref3_leaves := by kernel_rfl
/-! ref3_Has: function 47, 18 temporaries. -/
def S_ref3_Has_r0 : SC := .reg [⟨some 4, .assign (.const (.bool false)), none⟩]
def S_ref3_Has_r1 : SC := .reg [⟨some 5, .assign (.const (.int .i64 0)), none⟩]
def S_ref3_Has_r2 : SC := .reg [⟨some 6, .move (.tmp 5), none⟩,
  ⟨some 7, .move (.tmp 0), none⟩,
  ⟨some 8, .call ⟨.builtin .len, #[(.tmp 7)], #[22]⟩, none⟩,
  ⟨some 9, .binOp .lss 3 (.tmp 6) (.tmp 8) 3, none⟩]
def S_ref3_Has_r3 : SC := .reg [⟨some 12, .move (.tmp 0), none⟩,
  ⟨some 13, .move (.tmp 5), none⟩,
  ⟨some 14, .indexAddr 22 (.tmp 12) (.tmp 13), none⟩,
  ⟨some 15, .load 3 (.tmp 14), none⟩,
  ⟨some 16, .move (.tmp 1), none⟩,
  ⟨some 17, .binOp .eql 3 (.tmp 15) (.tmp 16) 3, none⟩]
def S_ref3_Has_r4 : SC := .reg [⟨some 4, .assign (.const (.bool true)), none⟩]
def S_ref3_Has_b0 : SC := .block 1 (.seq S_ref3_Has_r3 (.cond (.tmp 17) (.seq S_ref3_Has_r4 .ret) .skip))
def S_ref3_Has_r5 : SC := .reg [⟨some 10, .move (.tmp 5), none⟩,
  ⟨some 11, .binOp .add 3 (.tmp 10) (.const (.int .i64 1)) 3, none⟩,
  ⟨some 5, .assign (.tmp 11), none⟩]
def S_ref3_Has_l0 : SC := (.seq (.seq S_ref3_Has_r2 (.cond (.tmp 9) .skip (.exit 0))) (.seq S_ref3_Has_b0 S_ref3_Has_r5))
def S_ref3_Has_b1 : SC := .block 0 (.loop S_ref3_Has_l0)
def S_ref3_Has_r6 : SC := .reg [⟨some 4, .assign (.const (.bool false)), none⟩]
def S_ref3_Has : SC := (.seq S_ref3_Has_r0 (.seq (.seq S_ref3_Has_r1 S_ref3_Has_b1) (.seq S_ref3_Has_r6 .ret)))
theorem BS_ref3_Has : Try.f47.body.bind stripC = some S_ref3_Has := by kernel_rfl
/-! ref16_size: function 77, 40 temporaries. -/
def S_ref16_size_r0 : SC := .reg [⟨some 3, .box 38 (.tmp 0), none⟩,
  ⟨some 4, .box 25 (.tmp 1), none⟩,
  ⟨some 6, .assign (.const (.int .i64 0)), none⟩]
def S_ref16_size_r1 : SC := .reg [⟨some 9, .load 38 (.tmp 3), none⟩,
  ⟨some 10, .load 25 (.tmp 4), none⟩,
  ⟨some 11, .call ⟨.value (.func 37), #[(.tmp 9), (.tmp 10)], #[38, 25]⟩, none⟩,
  ⟨none, .store 25 (.tmp 4) (.tmp 11), none⟩]
def S_ref16_size_r2 : SC := .reg [⟨some 7, .assign (.const (.int .i64 1)), none⟩]
def S_ref16_size_r3 : SC := .reg [⟨some 8, .assign (.const (.int .i64 0)), none⟩]
def S_ref16_size_r4 : SC := .reg [⟨some 12, .move (.tmp 8), none⟩,
  ⟨some 13, .fieldAddr 25 (.tmp 4) 4, none⟩,
  ⟨some 14, .load 23 (.tmp 13), none⟩,
  ⟨some 15, .call ⟨.builtin .len, #[(.tmp 14)], #[23]⟩, none⟩,
  ⟨some 16, .binOp .lss 3 (.tmp 12) (.tmp 15) 3, none⟩,
  ⟨some 17, .move (.tmp 16), none⟩,
  ⟨some 18, .move (.tmp 7), some (17, true)⟩,
  ⟨some 19, .move (.tmp 2), some (17, true)⟩,
  ⟨some 20, .binOp .leq 3 (.tmp 18) (.tmp 19) 3, some (17, true)⟩,
  ⟨some 21, .pick (.tmp 17) (.tmp 20) (.const (.bool false)), none⟩]
def S_ref16_size_r5 : SC := .draw [⟨some 24, .move (.tmp 7), none, [7]⟩,
  ⟨some 25, .load 38 (.tmp 3), none, [3]⟩,
  ⟨some 26, .fieldAddr 25 (.tmp 4) 4, none, [4]⟩,
  ⟨some 27, .load 23 (.tmp 26), none, [26]⟩,
  ⟨some 28, .move (.tmp 8), none, [8]⟩,
  ⟨some 29, .indexAddr 23 (.tmp 27) (.tmp 28), none, [27, 28]⟩,
  ⟨some 30, .load 25 (.tmp 29), none, [29]⟩,
  ⟨some 31, .move (.tmp 2), none, [2]⟩,
  ⟨some 32, .move (.tmp 7), none, [7]⟩,
  ⟨some 33, .binOp .sub 3 (.tmp 31) (.tmp 32) 3, none, [31, 32]⟩,
  ⟨some 34, .call ⟨.value (.func 77), #[(.tmp 25), (.tmp 30), (.tmp 33)], #[38, 25, 3]⟩, none, [25, 30, 33]⟩,
  ⟨some 35, .binOp .add 3 (.tmp 24) (.tmp 34) 3, none, [24, 34]⟩,
  ⟨some 7, .assign (.tmp 35), none, [35]⟩] [0, 0, 0, 4, 0, 28, 60, 0, 0, 384, 1022, 2047, 4095]
def S_ref16_size_b0 : SC := .block 1 S_ref16_size_r5
def S_ref16_size_r6 : SC := .reg [⟨some 22, .move (.tmp 8), none⟩,
  ⟨some 23, .binOp .add 3 (.tmp 22) (.const (.int .i64 1)) 3, none⟩,
  ⟨some 8, .assign (.tmp 23), none⟩]
def S_ref16_size_l0 : SC := (.seq (.seq S_ref16_size_r4 (.cond (.tmp 21) .skip (.exit 0))) (.seq S_ref16_size_b0 S_ref16_size_r6))
def S_ref16_size_b1 : SC := .block 0 (.loop S_ref16_size_l0)
def S_ref16_size_r7 : SC := .reg [⟨some 36, .move (.tmp 7), none⟩,
  ⟨some 37, .move (.tmp 2), none⟩,
  ⟨some 38, .binOp .add 3 (.tmp 37) (.const (.int .i64 1)) 3, none⟩,
  ⟨some 39, .call ⟨.builtin .min, #[(.tmp 36), (.tmp 38)], #[3, 3]⟩, none⟩,
  ⟨some 6, .assign (.tmp 39), none⟩]
def S_ref16_size : SC := (.seq S_ref16_size_r0 (.seq S_ref16_size_r1 (.seq S_ref16_size_r2 (.seq (.seq S_ref16_size_r3 S_ref16_size_b1) (.seq S_ref16_size_r7 .ret)))))
theorem BS_ref16_size : Try.f77.body.bind stripC = some S_ref16_size := by kernel_rfl
/-! ref16_Size: function 39, 12 temporaries. -/
def S_ref16_Size_r0 : SC := .reg [⟨some 3, .box 38 (.tmp 0), none⟩,
  ⟨some 4, .box 25 (.tmp 1), none⟩,
  ⟨some 6, .assign (.const (.int .i64 0)), none⟩]
def S_ref16_Size_r1 : SC := .reg [⟨some 7, .load 38 (.tmp 3), none⟩,
  ⟨some 8, .load 25 (.tmp 4), none⟩,
  ⟨some 9, .move (.tmp 2), none⟩,
  ⟨some 10, .call ⟨.builtin .max, #[(.tmp 9), (.const (.int .i64 0))], #[3, 3]⟩, none⟩,
  ⟨some 11, .call ⟨.value (.func 77), #[(.tmp 7), (.tmp 8), (.tmp 10)], #[38, 25, 3]⟩, none⟩,
  ⟨some 6, .assign (.tmp 11), none⟩]
def S_ref16_Size : SC := (.seq S_ref16_Size_r0 (.seq S_ref16_Size_r1 .ret))
theorem BS_ref16_Size : Try.f39.body.bind stripC = some S_ref16_Size := by kernel_rfl
/-! ref16_resolve: function 74, 32 temporaries. -/
def S_ref16_resolve_r0 : SC := .reg [⟨some 2, .box 38 (.tmp 0), none⟩,
  ⟨some 3, .box 25 (.tmp 1), none⟩,
  ⟨some 4, .alloc 25, none⟩]
def S_ref16_resolve_r1 : SC := .reg [⟨some 7, .load 38 (.tmp 2), none⟩,
  ⟨some 8, .load 25 (.tmp 3), none⟩,
  ⟨some 9, .call ⟨.value (.func 37), #[(.tmp 7), (.tmp 8)], #[38, 25]⟩, none⟩,
  ⟨none, .store 25 (.tmp 3) (.tmp 9), none⟩]
def S_ref16_resolve_r2 : SC := .reg [⟨some 10, .load 25 (.tmp 3), none⟩,
  ⟨some 5, .alloc 25, none⟩,
  ⟨none, .store 25 (.tmp 5) (.tmp 10), none⟩]
def S_ref16_resolve_r3 : SC := .reg [⟨some 11, .fieldAddr 25 (.tmp 5) 4, none⟩,
  ⟨none, .store 23 (.tmp 11) (.const (.slice none 0 0)), none⟩]
def S_ref16_resolve_r4 : SC := .reg [⟨some 6, .assign (.const (.int .i64 0)), none⟩]
def S_ref16_resolve_r5 : SC := .reg [⟨some 12, .move (.tmp 6), none⟩,
  ⟨some 13, .fieldAddr 25 (.tmp 3) 4, none⟩,
  ⟨some 14, .load 23 (.tmp 13), none⟩,
  ⟨some 15, .call ⟨.builtin .len, #[(.tmp 14)], #[23]⟩, none⟩,
  ⟨some 16, .binOp .lss 3 (.tmp 12) (.tmp 15) 3, none⟩]
def S_ref16_resolve_r6 : SC := .draw [⟨some 19, .fieldAddr 25 (.tmp 5) 4, none, [5]⟩,
  ⟨some 20, .load 23 (.tmp 19), none, [19]⟩,
  ⟨some 21, .load 38 (.tmp 2), none, [2]⟩,
  ⟨some 22, .fieldAddr 25 (.tmp 3) 4, none, [3]⟩,
  ⟨some 23, .load 23 (.tmp 22), none, [22]⟩,
  ⟨some 24, .move (.tmp 6), none, [6]⟩,
  ⟨some 25, .indexAddr 23 (.tmp 23) (.tmp 24), none, [23, 24]⟩,
  ⟨some 26, .load 25 (.tmp 25), none, [25]⟩,
  ⟨some 27, .call ⟨.value (.func 74), #[(.tmp 21), (.tmp 26)], #[38, 25]⟩, none, [21, 26]⟩,
  ⟨some 28, .buildSlice 23 1 #[(0, (.tmp 27))], none, [27]⟩,
  ⟨some 29, .call ⟨.builtin .append, #[(.tmp 20), (.tmp 28)], #[23, 23]⟩, none, [20, 28]⟩,
  ⟨some 30, .fieldAddr 25 (.tmp 5) 4, none, [5]⟩,
  ⟨none, .store 23 (.tmp 30) (.tmp 29), none, [30, 29]⟩] [0, 1, 0, 0, 8, 0, 56, 120, 252, 508, 1023, 2047, 4095]
def S_ref16_resolve_b0 : SC := .block 1 S_ref16_resolve_r6
def S_ref16_resolve_r7 : SC := .reg [⟨some 17, .move (.tmp 6), none⟩,
  ⟨some 18, .binOp .add 3 (.tmp 17) (.const (.int .i64 1)) 3, none⟩,
  ⟨some 6, .assign (.tmp 18), none⟩]
def S_ref16_resolve_l0 : SC := (.seq (.seq S_ref16_resolve_r5 (.cond (.tmp 16) .skip (.exit 0))) (.seq S_ref16_resolve_b0 S_ref16_resolve_r7))
def S_ref16_resolve_b1 : SC := .block 0 (.loop S_ref16_resolve_l0)
def S_ref16_resolve_r8 : SC := .reg [⟨some 31, .load 25 (.tmp 5), none⟩,
  ⟨none, .store 25 (.tmp 4) (.tmp 31), none⟩]
def S_ref16_resolve : SC := (.seq S_ref16_resolve_r0 (.seq S_ref16_resolve_r1 (.seq S_ref16_resolve_r2 (.seq S_ref16_resolve_r3 (.seq (.seq S_ref16_resolve_r4 S_ref16_resolve_b1) (.seq S_ref16_resolve_r8 .ret))))))
theorem BS_ref16_resolve : Try.f74.body.bind stripC = some S_ref16_resolve := by kernel_rfl
/-! ref16_Resolve: function 35, 14 temporaries. -/
def S_ref16_Resolve_r0 : SC := .reg [⟨some 2, .box 38 (.tmp 0), none⟩,
  ⟨some 3, .box 25 (.tmp 1), none⟩,
  ⟨some 4, .alloc 25, none⟩,
  ⟨some 5, .assign (.const (.bool false)), none⟩]
def S_ref16_Resolve_r1 : SC := .reg [⟨some 6, .load 38 (.tmp 2), none⟩,
  ⟨some 7, .load 25 (.tmp 3), none⟩,
  ⟨some 8, .call ⟨.value (.func 39), #[(.tmp 6), (.tmp 7), (.const (.int .i64 4000))], #[38, 25, 3]⟩, none⟩,
  ⟨some 9, .binOp .gtr 3 (.tmp 8) (.const (.int .i64 4000)) 3, none⟩]
def S_ref16_Resolve_r2 : SC := .reg [⟨some 10, .build 25 #[], none⟩,
  ⟨none, .store 25 (.tmp 4) (.tmp 10), none⟩,
  ⟨some 5, .assign (.const (.bool false)), none⟩]
def S_ref16_Resolve_r3 : SC := .reg [⟨some 11, .load 38 (.tmp 2), none⟩,
  ⟨some 12, .load 25 (.tmp 3), none⟩,
  ⟨some 13, .call ⟨.value (.func 74), #[(.tmp 11), (.tmp 12)], #[38, 25]⟩, none⟩,
  ⟨none, .store 25 (.tmp 4) (.tmp 13), none⟩,
  ⟨some 5, .assign (.const (.bool true)), none⟩]
def S_ref16_Resolve : SC := (.seq S_ref16_Resolve_r0 (.seq (.seq S_ref16_Resolve_r1 (.cond (.tmp 9) (.seq S_ref16_Resolve_r2 .ret) .skip)) (.seq S_ref16_Resolve_r3 .ret)))
theorem BS_ref16_Resolve : Try.f35.body.bind stripC = some S_ref16_Resolve := by kernel_rfl
/-! store_Size: function 38, 39 temporaries. -/
def S_store_Size_r0 : SC := .reg [⟨some 3, .box 38 (.tmp 0), none⟩,
  ⟨some 4, .box 25 (.tmp 1), none⟩,
  ⟨some 6, .assign (.const (.int .i64 0)), none⟩]
def S_store_Size_r1 : SC := .reg [⟨some 10, .move (.tmp 2), none⟩,
  ⟨some 11, .call ⟨.builtin .max, #[(.tmp 10), (.const (.int .i64 0))], #[3, 3]⟩, none⟩,
  ⟨some 2, .assign (.tmp 11), none⟩]
def S_store_Size_r2 : SC := .reg [⟨some 7, .assign (.const (.int .i64 1)), none⟩]
def S_store_Size_r3 : SC := .reg [⟨some 12, .load 38 (.tmp 3), none⟩,
  ⟨some 13, .load 25 (.tmp 4), none⟩,
  ⟨some 14, .call ⟨.value (.func 36), #[(.tmp 12), (.tmp 13)], #[38, 25]⟩, none⟩,
  ⟨some 15, .field 25 (.tmp 14) 4, none⟩,
  ⟨some 16, .call ⟨.builtin .len, #[(.tmp 15)], #[23]⟩, none⟩,
  ⟨some 17, .move (.const (.int .i64 0)), none⟩]
def S_store_Size_r4 : SC := .reg [⟨some 18, .binOp .lss 3 (.tmp 17) (.tmp 16) 3, none⟩]
def S_store_Size_r5 : SC := .reg [⟨some 19, .indexAddr 23 (.tmp 15) (.tmp 17), none⟩,
  ⟨some 20, .load 25 (.tmp 19), none⟩,
  ⟨some 9, .alloc 25, none⟩,
  ⟨none, .store 25 (.tmp 9) (.tmp 20), none⟩]
def S_store_Size_r6 : SC := .reg [⟨some 21, .move (.tmp 7), none⟩,
  ⟨some 22, .move (.tmp 2), none⟩,
  ⟨some 23, .binOp .gtr 3 (.tmp 21) (.tmp 22) 3, none⟩]
def S_store_Size_r7 : SC := .reg [⟨some 24, .move (.tmp 7), none⟩,
  ⟨some 25, .load 38 (.tmp 3), none⟩,
  ⟨some 26, .load 25 (.tmp 9), none⟩,
  ⟨some 27, .move (.tmp 2), none⟩,
  ⟨some 28, .move (.tmp 7), none⟩,
  ⟨some 29, .binOp .sub 3 (.tmp 27) (.tmp 28) 3, none⟩,
  ⟨some 30, .call ⟨.value (.func 38), #[(.tmp 25), (.tmp 26), (.tmp 29)], #[38, 25, 3]⟩, none⟩,
  ⟨some 31, .binOp .add 3 (.tmp 24) (.tmp 30) 3, none⟩,
  ⟨some 7, .assign (.tmp 31), none⟩]
def S_store_Size_b0 : SC := .block 1 (.seq S_store_Size_r5 (.seq (.seq S_store_Size_r6 (.cond (.tmp 23) (.exit 0) .skip)) S_store_Size_r7))
def S_store_Size_r8 : SC := .reg [⟨some 32, .binOp .add 3 (.tmp 17) (.const (.int .i64 1)) 3, none⟩,
  ⟨some 17, .move (.tmp 32), none⟩]
def S_store_Size_l0 : SC := (.seq S_store_Size_r4 (.seq (.cond (.tmp 18) .skip (.exit 0)) (.seq S_store_Size_b0 S_store_Size_r8)))
def S_store_Size_b1 : SC := .block 0 (.loop S_store_Size_l0)
def S_store_Size_r9 : SC := .reg [⟨some 33, .move (.tmp 7), none⟩,
  ⟨some 34, .move (.tmp 2), none⟩,
  ⟨some 35, .binOp .gtr 3 (.tmp 33) (.tmp 34) 3, none⟩]
def S_store_Size_r10 : SC := .reg [⟨some 36, .move (.tmp 2), none⟩,
  ⟨some 37, .binOp .add 3 (.tmp 36) (.const (.int .i64 1)) 3, none⟩,
  ⟨some 6, .assign (.tmp 37), none⟩]
def S_store_Size_r11 : SC := .reg [⟨some 38, .move (.tmp 7), none⟩,
  ⟨some 6, .assign (.tmp 38), none⟩]
def S_store_Size : SC := (.seq S_store_Size_r0 (.seq S_store_Size_r1 (.seq S_store_Size_r2 (.seq (.seq S_store_Size_r3 S_store_Size_b1) (.seq (.seq S_store_Size_r9 (.cond (.tmp 35) (.seq S_store_Size_r10 .ret) .skip)) (.seq S_store_Size_r11 .ret))))))
theorem BS_store_Size : Try.f38.body.bind stripC = some S_store_Size := by kernel_rfl
/-! store_resolve: function 73, 37 temporaries. -/
def S_store_resolve_r0 : SC := .reg [⟨some 2, .box 38 (.tmp 0), none⟩,
  ⟨some 3, .box 25 (.tmp 1), none⟩,
  ⟨some 4, .alloc 25, none⟩]
def S_store_resolve_r1 : SC := .reg [⟨some 8, .load 38 (.tmp 2), none⟩,
  ⟨some 9, .load 25 (.tmp 3), none⟩,
  ⟨some 10, .call ⟨.value (.func 36), #[(.tmp 8), (.tmp 9)], #[38, 25]⟩, none⟩,
  ⟨none, .store 25 (.tmp 3) (.tmp 10), none⟩]
def S_store_resolve_r2 : SC := .reg [⟨some 11, .fieldAddr 25 (.tmp 3) 4, none⟩,
  ⟨some 12, .load 23 (.tmp 11), none⟩,
  ⟨some 13, .call ⟨.builtin .len, #[(.tmp 12)], #[23]⟩, none⟩,
  ⟨some 14, .binOp .gtr 3 (.tmp 13) (.const (.int .i64 0)) 3, none⟩]
def S_store_resolve_r3 : SC := .reg [⟨some 15, .fieldAddr 25 (.tmp 3) 4, none⟩,
  ⟨some 16, .load 23 (.tmp 15), none⟩,
  ⟨some 17, .call ⟨.builtin .len, #[(.tmp 16)], #[23]⟩, none⟩,
  ⟨some 18, .makeSlice 23 (.tmp 17) (.tmp 17), none⟩,
  ⟨some 5, .assign (.tmp 18), none⟩]
def S_store_resolve_r4 : SC := .reg [⟨some 19, .fieldAddr 25 (.tmp 3) 4, none⟩,
  ⟨some 20, .load 23 (.tmp 19), none⟩,
  ⟨some 21, .call ⟨.builtin .len, #[(.tmp 20)], #[23]⟩, none⟩,
  ⟨some 22, .move (.const (.int .i64 0)), none⟩]
def S_store_resolve_r5 : SC := .reg [⟨some 23, .binOp .lss 3 (.tmp 22) (.tmp 21) 3, none⟩]
def S_store_resolve_r6 : SC := .reg [⟨some 24, .move (.tmp 22), none⟩,
  ⟨some 25, .indexAddr 23 (.tmp 20) (.tmp 22), none⟩,
  ⟨some 26, .load 25 (.tmp 25), none⟩,
  ⟨some 7, .alloc 25, none⟩,
  ⟨some 6, .assign (.tmp 24), none⟩,
  ⟨none, .store 25 (.tmp 7) (.tmp 26), none⟩]
def S_store_resolve_r7 : SC := .reg [⟨some 27, .move (.tmp 5), none⟩,
  ⟨some 28, .move (.tmp 6), none⟩,
  ⟨some 29, .load 38 (.tmp 2), none⟩,
  ⟨some 30, .load 25 (.tmp 7), none⟩,
  ⟨some 31, .call ⟨.value (.func 73), #[(.tmp 29), (.tmp 30)], #[38, 25]⟩, none⟩,
  ⟨some 32, .indexAddr 23 (.tmp 27) (.tmp 28), none⟩,
  ⟨none, .store 25 (.tmp 32) (.tmp 31), none⟩]
def S_store_resolve_b0 : SC := .block 1 (.seq S_store_resolve_r6 S_store_resolve_r7)
def S_store_resolve_r8 : SC := .reg [⟨some 33, .binOp .add 3 (.tmp 22) (.const (.int .i64 1)) 3, none⟩,
  ⟨some 22, .move (.tmp 33), none⟩]
def S_store_resolve_l0 : SC := (.seq S_store_resolve_r5 (.seq (.cond (.tmp 23) .skip (.exit 0)) (.seq S_store_resolve_b0 S_store_resolve_r8)))
def S_store_resolve_b1 : SC := .block 0 (.loop S_store_resolve_l0)
def S_store_resolve_r9 : SC := .reg [⟨some 34, .move (.tmp 5), none⟩,
  ⟨some 35, .fieldAddr 25 (.tmp 3) 4, none⟩,
  ⟨none, .store 23 (.tmp 35) (.tmp 34), none⟩]
def S_store_resolve_r10 : SC := .reg [⟨some 36, .load 25 (.tmp 3), none⟩,
  ⟨none, .store 25 (.tmp 4) (.tmp 36), none⟩]
def S_store_resolve : SC := (.seq S_store_resolve_r0 (.seq S_store_resolve_r1 (.seq (.seq S_store_resolve_r2 (.cond (.tmp 14) (.seq S_store_resolve_r3 (.seq (.seq S_store_resolve_r4 S_store_resolve_b1) S_store_resolve_r9)) .skip)) (.seq S_store_resolve_r10 .ret))))
theorem BS_store_resolve : Try.f73.body.bind stripC = some S_store_resolve := by kernel_rfl
/-! store_Resolve: function 34, 14 temporaries. -/
def S_store_Resolve_r0 : SC := .reg [⟨some 2, .box 38 (.tmp 0), none⟩,
  ⟨some 3, .box 25 (.tmp 1), none⟩,
  ⟨some 4, .alloc 25, none⟩,
  ⟨some 5, .assign (.const (.bool false)), none⟩]
def S_store_Resolve_r1 : SC := .reg [⟨some 6, .load 38 (.tmp 2), none⟩,
  ⟨some 7, .load 25 (.tmp 3), none⟩,
  ⟨some 8, .call ⟨.value (.func 38), #[(.tmp 6), (.tmp 7), (.const (.int .i64 4000))], #[38, 25, 3]⟩, none⟩,
  ⟨some 9, .binOp .gtr 3 (.tmp 8) (.const (.int .i64 4000)) 3, none⟩]
def S_store_Resolve_r2 : SC := .reg [⟨some 10, .build 25 #[], none⟩,
  ⟨none, .store 25 (.tmp 4) (.tmp 10), none⟩,
  ⟨some 5, .assign (.const (.bool false)), none⟩]
def S_store_Resolve_r3 : SC := .reg [⟨some 11, .load 38 (.tmp 2), none⟩,
  ⟨some 12, .load 25 (.tmp 3), none⟩,
  ⟨some 13, .call ⟨.value (.func 73), #[(.tmp 11), (.tmp 12)], #[38, 25]⟩, none⟩,
  ⟨none, .store 25 (.tmp 4) (.tmp 13), none⟩,
  ⟨some 5, .assign (.const (.bool true)), none⟩]
def S_store_Resolve : SC := (.seq S_store_Resolve_r0 (.seq (.seq S_store_Resolve_r1 (.cond (.tmp 9) (.seq S_store_Resolve_r2 .ret) .skip)) (.seq S_store_Resolve_r3 .ret)))
theorem BS_store_Resolve : Try.f34.body.bind stripC = some S_store_Resolve := by kernel_rfl
/-! ref16_finder_visit: function 79, 78 temporaries. -/
def S_ref16_finder_visit_r0 : SC := .reg [⟨some 3, .box 25 (.tmp 1), none⟩]
def S_ref16_finder_visit_r1 : SC := .reg [⟨some 5, .fieldAddr 25 (.tmp 3) 0, none⟩,
  ⟨some 6, .load 3 (.tmp 5), none⟩,
  ⟨some 7, .binOp .eql 3 (.tmp 6) (.const (.int .i64 1)) 3, none⟩]
def S_ref16_finder_visit_r2 : SC := .draw [⟨some 9, .move (.tmp 0), none, [0]⟩,
  ⟨some 10, .nilCheck (.tmp 9), none, [9]⟩,
  ⟨some 11, .fieldAddr 119 (.tmp 10) 0, none, [10]⟩,
  ⟨some 12, .load 38 (.tmp 11), none, [11]⟩,
  ⟨some 13, .load 25 (.tmp 3), none, [3]⟩,
  ⟨some 14, .call ⟨.value (.func 76), #[(.tmp 12), (.tmp 13)], #[38, 25]⟩, none, [12, 13]⟩,
  ⟨some 15, .unOp .not 4 (.tmp 14), none, [14]⟩,
  ⟨some 8, .assign (.tmp 15), none, [15]⟩] [0, 1, 3, 7, 0, 31, 63, 127]
def S_ref16_finder_visit_r3 : SC := .draw [⟨some 16, .move (.tmp 0), none, [0]⟩,
  ⟨some 17, .nilCheck (.tmp 16), none, [16]⟩,
  ⟨some 18, .fieldAddr 119 (.tmp 17) 1, none, [17]⟩,
  ⟨some 19, .load 22 (.tmp 18), none, [18]⟩,
  ⟨some 20, .fieldAddr 25 (.tmp 3) 2, none, [3]⟩,
  ⟨some 21, .load 3 (.tmp 20), none, [20]⟩,
  ⟨some 22, .call ⟨.value (.func 47), #[(.tmp 19), (.tmp 21)], #[22, 3]⟩, none, [19, 21]⟩,
  ⟨some 23, .unOp .not 4 (.tmp 22), none, [22]⟩] [0, 1, 3, 7, 0, 16, 63, 127]
def S_ref16_finder_visit_r4 : SC := .draw [⟨some 24, .move (.tmp 0), none, [0]⟩,
  ⟨some 25, .move (.tmp 0), none, [0]⟩,
  ⟨some 26, .nilCheck (.tmp 25), none, [25]⟩,
  ⟨some 27, .fieldAddr 119 (.tmp 26) 1, none, [26]⟩,
  ⟨some 28, .load 22 (.tmp 27), none, [27]⟩,
  ⟨some 29, .fieldAddr 25 (.tmp 3) 2, none, [3]⟩,
  ⟨some 30, .load 3 (.tmp 29), none, [29]⟩,
  ⟨some 31, .buildSlice 22 1 #[(0, (.tmp 30))], none, [30]⟩,
  ⟨some 32, .call ⟨.builtin .append, #[(.tmp 28), (.tmp 31)], #[22, 22]⟩, none, [28, 31]⟩,
  ⟨some 33, .nilCheck (.tmp 24), none, [24]⟩,
  ⟨some 34, .fieldAddr 119 (.tmp 33) 1, none, [33]⟩,
  ⟨none, .store 22 (.tmp 34) (.tmp 32), none, [34, 32]⟩] [0, 0, 2, 6, 14, 0, 32, 96, 254, 511, 1023, 2047]
def S_ref16_finder_visit_r5 : SC := .draw [⟨some 36, .move (.tmp 0), none, [0]⟩,
  ⟨some 37, .nilCheck (.tmp 36), none, [36]⟩,
  ⟨some 38, .fieldAddr 119 (.tmp 37) 2, none, [37]⟩,
  ⟨some 39, .load 117 (.tmp 38), none, [38]⟩,
  ⟨some 40, .fieldAddr 25 (.tmp 3) 2, none, [3]⟩,
  ⟨some 41, .load 3 (.tmp 40), none, [40]⟩,
  ⟨some 42, .indexAddr 117 (.tmp 39) (.tmp 41), none, [39, 41]⟩,
  ⟨some 43, .load 4 (.tmp 42), none, [42]⟩,
  ⟨some 44, .unOp .not 4 (.tmp 43), none, [43]⟩,
  ⟨some 35, .assign (.tmp 44), none, [44]⟩] [0, 1, 3, 7, 0, 16, 63, 127, 255, 511]
def S_ref16_finder_visit_r6 : SC := .draw [⟨some 45, .move (.tmp 0), none, [0]⟩,
  ⟨some 46, .nilCheck (.tmp 45), none, [45]⟩,
  ⟨some 47, .fieldAddr 119 (.tmp 46) 2, none, [46]⟩,
  ⟨some 48, .load 117 (.tmp 47), none, [47]⟩,
  ⟨some 49, .fieldAddr 25 (.tmp 3) 2, none, [3]⟩,
  ⟨some 50, .load 3 (.tmp 49), none, [49]⟩,
  ⟨some 51, .indexAddr 117 (.tmp 48) (.tmp 50), none, [48, 50]⟩,
  ⟨none, .store 4 (.tmp 51) (.const (.bool true)), none, [51]⟩] [0, 1, 3, 7, 0, 16, 63, 127]
def S_ref16_finder_visit_r7 : SC := .draw [⟨some 52, .move (.tmp 0), none, [0]⟩,
  ⟨some 53, .move (.tmp 0), none, [0]⟩,
  ⟨some 54, .nilCheck (.tmp 53), none, [53]⟩,
  ⟨some 55, .fieldAddr 119 (.tmp 54) 0, none, [54]⟩,
  ⟨some 56, .fieldAddr 38 (.tmp 55) 0, none, [55]⟩,
  ⟨some 57, .load 35 (.tmp 56), none, [56]⟩,
  ⟨some 58, .fieldAddr 25 (.tmp 3) 2, none, [3]⟩,
  ⟨some 59, .load 3 (.tmp 58), none, [58]⟩,
  ⟨some 60, .indexAddr 35 (.tmp 57) (.tmp 59), none, [57, 59]⟩,
  ⟨some 61, .fieldAddr 27 (.tmp 60) 1, none, [60]⟩,
  ⟨some 62, .load 25 (.tmp 61), none, [61]⟩,
  ⟨some 63, .call ⟨.value (.func 79), #[(.tmp 52), (.tmp 62)], #[116, 25]⟩, none, [52, 62]⟩] [0, 0, 2, 6, 14, 30, 0, 64, 254, 510, 1022, 2047]
def S_ref16_finder_visit_b0 : SC := .block 0 (.seq S_ref16_finder_visit_r2 (.cond (.tmp 8) (.seq S_ref16_finder_visit_r3 (.cond (.tmp 23) S_ref16_finder_visit_r4 .skip)) (.seq S_ref16_finder_visit_r5 (.cond (.tmp 35) (.seq S_ref16_finder_visit_r6 S_ref16_finder_visit_r7) .skip))))
def S_ref16_finder_visit_r8 : SC := .reg [⟨some 4, .assign (.const (.int .i64 0)), none⟩]
def S_ref16_finder_visit_r9 : SC := .reg [⟨some 64, .move (.tmp 4), none⟩,
  ⟨some 65, .fieldAddr 25 (.tmp 3) 4, none⟩,
  ⟨some 66, .load 23 (.tmp 65), none⟩,
  ⟨some 67, .call ⟨.builtin .len, #[(.tmp 66)], #[23]⟩, none⟩,
  ⟨some 68, .binOp .lss 3 (.tmp 64) (.tmp 67) 3, none⟩]
def S_ref16_finder_visit_r10 : SC := .reg [⟨some 71, .move (.tmp 0), none⟩,
  ⟨some 72, .fieldAddr 25 (.tmp 3) 4, none⟩,
  ⟨some 73, .load 23 (.tmp 72), none⟩,
  ⟨some 74, .move (.tmp 4), none⟩,
  ⟨some 75, .indexAddr 23 (.tmp 73) (.tmp 74), none⟩,
  ⟨some 76, .load 25 (.tmp 75), none⟩,
  ⟨some 77, .call ⟨.value (.func 79), #[(.tmp 71), (.tmp 76)], #[116, 25]⟩, none⟩]
def S_ref16_finder_visit_b1 : SC := .block 2 S_ref16_finder_visit_r10
def S_ref16_finder_visit_r11 : SC := .reg [⟨some 69, .move (.tmp 4), none⟩,
  ⟨some 70, .binOp .add 3 (.tmp 69) (.const (.int .i64 1)) 3, none⟩,
  ⟨some 4, .assign (.tmp 70), none⟩]
def S_ref16_finder_visit_l0 : SC := (.seq (.seq S_ref16_finder_visit_r9 (.cond (.tmp 68) .skip (.exit 1))) (.seq S_ref16_finder_visit_b1 S_ref16_finder_visit_r11))
def S_ref16_finder_visit_b2 : SC := .block 1 (.loop S_ref16_finder_visit_l0)
def S_ref16_finder_visit : SC := (.seq S_ref16_finder_visit_r0 (.seq (.seq S_ref16_finder_visit_r1 (.cond (.tmp 7) (.seq S_ref16_finder_visit_b0 .ret) .skip)) (.seq S_ref16_finder_visit_r8 S_ref16_finder_visit_b2)))
theorem BS_ref16_finder_visit : Try.f79.body.bind stripC = some S_ref16_finder_visit := by kernel_rfl
/-! ref16_Vars: function 41, 30 temporaries. -/
def S_ref16_Vars_r0 : SC := .reg [⟨some 2, .box 38 (.tmp 0), none⟩,
  ⟨some 4, .assign (.const (.slice none 0 0)), none⟩]
def S_ref16_Vars_r1 : SC := .draw [⟨some 7, .load 38 (.tmp 2), none, [2]⟩,
  ⟨some 8, .fieldAddr 38 (.tmp 2) 0, none, [2]⟩,
  ⟨some 9, .load 35 (.tmp 8), none, [8]⟩,
  ⟨some 10, .call ⟨.builtin .len, #[(.tmp 9)], #[35]⟩, none, [9]⟩,
  ⟨some 11, .makeSlice 117 (.tmp 10) (.tmp 10), none, [10, 10]⟩,
  ⟨some 12, .build 119 #[(0, (.tmp 7)), (2, (.tmp 11))], none, [7, 11]⟩,
  ⟨some 13, .box 119 (.tmp 12), none, [12]⟩,
  ⟨some 5, .assign (.tmp 13), none, [13]⟩] [0, 0, 2, 6, 14, 31, 63, 127]
def S_ref16_Vars_r2 : SC := .reg [⟨some 6, .assign (.const (.int .i64 0)), none⟩]
def S_ref16_Vars_r3 : SC := .reg [⟨some 14, .move (.tmp 6), none⟩,
  ⟨some 15, .move (.tmp 1), none⟩,
  ⟨some 16, .call ⟨.builtin .len, #[(.tmp 15)], #[23]⟩, none⟩,
  ⟨some 17, .binOp .lss 3 (.tmp 14) (.tmp 16) 3, none⟩]
def S_ref16_Vars_r4 : SC := .reg [⟨some 20, .move (.tmp 5), none⟩,
  ⟨some 21, .move (.tmp 1), none⟩,
  ⟨some 22, .move (.tmp 6), none⟩,
  ⟨some 23, .indexAddr 23 (.tmp 21) (.tmp 22), none⟩,
  ⟨some 24, .load 25 (.tmp 23), none⟩,
  ⟨some 25, .call ⟨.value (.func 79), #[(.tmp 20), (.tmp 24)], #[116, 25]⟩, none⟩]
def S_ref16_Vars_b0 : SC := .block 1 S_ref16_Vars_r4
def S_ref16_Vars_r5 : SC := .reg [⟨some 18, .move (.tmp 6), none⟩,
  ⟨some 19, .binOp .add 3 (.tmp 18) (.const (.int .i64 1)) 3, none⟩,
  ⟨some 6, .assign (.tmp 19), none⟩]
def S_ref16_Vars_l0 : SC := (.seq (.seq S_ref16_Vars_r3 (.cond (.tmp 17) .skip (.exit 0))) (.seq S_ref16_Vars_b0 S_ref16_Vars_r5))
def S_ref16_Vars_b1 : SC := .block 0 (.loop S_ref16_Vars_l0)
def S_ref16_Vars_r6 : SC := .reg [⟨some 26, .move (.tmp 5), none⟩,
  ⟨some 27, .nilCheck (.tmp 26), none⟩,
  ⟨some 28, .fieldAddr 119 (.tmp 27) 1, none⟩,
  ⟨some 29, .load 22 (.tmp 28), none⟩,
  ⟨some 4, .assign (.tmp 29), none⟩]
def S_ref16_Vars : SC := (.seq S_ref16_Vars_r0 (.seq S_ref16_Vars_r1 (.seq (.seq S_ref16_Vars_r2 S_ref16_Vars_b1) (.seq S_ref16_Vars_r6 .ret))))
theorem BS_ref16_Vars : Try.f41.body.bind stripC = some S_ref16_Vars := by kernel_rfl
/-! ref17_slot: function 113, 21 temporaries. -/
def S_ref17_slot_r0 : SC := .reg [⟨some 2, .box 38 (.tmp 0), none⟩,
  ⟨some 3, .box 25 (.tmp 1), none⟩,
  ⟨some 4, .assign (.const (.bool false)), none⟩]
def S_ref17_slot_r1 : SC := .reg [⟨some 5, .fieldAddr 25 (.tmp 3) 0, none⟩,
  ⟨some 6, .load 3 (.tmp 5), none⟩,
  ⟨some 7, .binOp .eql 3 (.tmp 6) (.const (.int .i64 1)) 3, none⟩,
  ⟨some 8, .move (.tmp 7), none⟩,
  ⟨some 9, .fieldAddr 25 (.tmp 3) 2, some (8, true)⟩,
  ⟨some 10, .load 3 (.tmp 9), some (8, true)⟩,
  ⟨some 11, .binOp .geq 3 (.tmp 10) (.const (.int .i64 0)) 3, some (8, true)⟩,
  ⟨some 12, .pick (.tmp 8) (.tmp 11) (.const (.bool false)), none⟩,
  ⟨some 13, .move (.tmp 12), none⟩,
  ⟨some 14, .fieldAddr 25 (.tmp 3) 2, some (13, true)⟩,
  ⟨some 15, .load 3 (.tmp 14), some (13, true)⟩,
  ⟨some 16, .fieldAddr 38 (.tmp 2) 0, some (13, true)⟩,
  ⟨some 17, .load 35 (.tmp 16), some (13, true)⟩,
  ⟨some 18, .call ⟨.builtin .len, #[(.tmp 17)], #[35]⟩, some (13, true)⟩,
  ⟨some 19, .binOp .lss 3 (.tmp 15) (.tmp 18) 3, some (13, true)⟩,
  ⟨some 20, .pick (.tmp 13) (.tmp 19) (.const (.bool false)), none⟩,
  ⟨some 4, .assign (.tmp 20), none⟩]
def S_ref17_slot : SC := (.seq S_ref17_slot_r0 (.seq S_ref17_slot_r1 .ret))
theorem BS_ref17_slot : Try.f113.body.bind stripC = some S_ref17_slot := by kernel_rfl
/-! ref17_join: function 114, 69 temporaries. -/
def S_ref17_join_r0 : SC := .reg [⟨some 3, .box 38 (.tmp 0), none⟩,
  ⟨some 4, .box 25 (.tmp 1), none⟩,
  ⟨some 5, .box 25 (.tmp 2), none⟩,
  ⟨some 6, .alloc 38, none⟩]
def S_ref17_join_r1 : SC := .reg [⟨some 11, .fieldAddr 25 (.tmp 4) 2, none⟩,
  ⟨some 12, .load 3 (.tmp 11), none⟩,
  ⟨some 13, .fieldAddr 25 (.tmp 5) 2, none⟩,
  ⟨some 14, .load 3 (.tmp 13), none⟩,
  ⟨some 15, .binOp .eql 3 (.tmp 12) (.tmp 14) 3, none⟩]
def S_ref17_join_r2 : SC := .reg [⟨some 16, .load 38 (.tmp 3), none⟩,
  ⟨none, .store 38 (.tmp 6) (.tmp 16), none⟩]
def S_ref17_join_r3 : SC := .draw [⟨some 17, .fieldAddr 25 (.tmp 4) 2, none, [4]⟩,
  ⟨some 18, .load 3 (.tmp 17), none, [17]⟩,
  ⟨some 19, .fieldAddr 25 (.tmp 5) 2, none, [5]⟩,
  ⟨some 20, .load 3 (.tmp 19), none, [19]⟩,
  ⟨some 21, .call ⟨.builtin .min, #[(.tmp 18), (.tmp 20)], #[3, 3]⟩, none, [18, 20]⟩,
  ⟨some 22, .fieldAddr 25 (.tmp 4) 2, none, [4]⟩,
  ⟨some 23, .load 3 (.tmp 22), none, [22]⟩,
  ⟨some 24, .fieldAddr 25 (.tmp 5) 2, none, [5]⟩,
  ⟨some 25, .load 3 (.tmp 24), none, [24]⟩,
  ⟨some 26, .call ⟨.builtin .max, #[(.tmp 23), (.tmp 25)], #[3, 3]⟩, none, [23, 25]⟩,
  ⟨some 7, .assign (.tmp 21), none, [21]⟩,
  ⟨some 8, .assign (.tmp 26), none, [26]⟩] [0, 1, 0, 4, 15, 0, 32, 0, 128, 480, 31, 2047]
def S_ref17_join_r4 : SC := .draw [⟨some 27, .fieldAddr 38 (.tmp 3) 0, none, [3]⟩,
  ⟨some 28, .load 35 (.tmp 27), none, [27]⟩,
  ⟨some 29, .move (.tmp 7), none, [7]⟩,
  ⟨some 30, .indexAddr 35 (.tmp 28) (.tmp 29), none, [28, 29]⟩,
  ⟨some 31, .load 27 (.tmp 30), none, [30]⟩,
  ⟨some 32, .fieldAddr 38 (.tmp 3) 0, none, [3]⟩,
  ⟨some 33, .load 35 (.tmp 32), none, [32]⟩,
  ⟨some 34, .move (.tmp 8), none, [8]⟩,
  ⟨some 35, .indexAddr 35 (.tmp 33) (.tmp 34), none, [33, 34]⟩,
  ⟨some 36, .load 27 (.tmp 35), none, [35]⟩,
  ⟨some 9, .alloc 27, none, []⟩,
  ⟨some 10, .alloc 27, none, []⟩,
  ⟨none, .store 27 (.tmp 9) (.tmp 31), none, [9, 31]⟩,
  ⟨none, .store 27 (.tmp 10) (.tmp 36), none, [10, 36]⟩] [0, 1, 0, 7, 15, 0, 32, 0, 224, 480, 0, 0, 3103, 8191]
def S_ref17_join_r5 : SC := .draw [⟨some 37, .fieldAddr 27 (.tmp 9) 2, none, [9]⟩,
  ⟨some 38, .load 3 (.tmp 37), none, [37]⟩,
  ⟨some 39, .fieldAddr 27 (.tmp 10) 2, none, [10]⟩,
  ⟨some 40, .load 3 (.tmp 39), none, [39]⟩,
  ⟨some 41, .call ⟨.builtin .min, #[(.tmp 38), (.tmp 40)], #[3, 3]⟩, none, [38, 40]⟩,
  ⟨some 42, .fieldAddr 27 (.tmp 9) 3, none, [9]⟩,
  ⟨some 43, .load 4 (.tmp 42), none, [42]⟩,
  ⟨some 44, .move (.tmp 43), none, [43]⟩,
  ⟨some 45, .fieldAddr 27 (.tmp 10) 3, some (44, false), [10, 44]⟩,
  ⟨some 46, .load 4 (.tmp 45), some (44, false), [45, 44]⟩,
  ⟨some 47, .pick (.tmp 44) (.const (.bool true)) (.tmp 46), none, [44, 46]⟩,
  ⟨some 48, .fieldAddr 27 (.tmp 9) 2, none, [9]⟩,
  ⟨none, .store 3 (.tmp 48) (.tmp 41), none, [48, 41]⟩,
  ⟨some 49, .fieldAddr 27 (.tmp 9) 3, none, [9]⟩,
  ⟨none, .store 4 (.tmp 49) (.tmp 47), none, [49, 47]⟩] [0, 1, 0, 4, 15, 0, 32, 96, 224, 480, 992, 127, 2303, 8191, 16383]
def S_ref17_join_r6 : SC := .reg [⟨some 50, .move (.tmp 7), none⟩,
  ⟨some 51, .call ⟨.value (.func 55), #[(.tmp 50)], #[3]⟩, none⟩,
  ⟨some 52, .fieldAddr 27 (.tmp 10) 0, none⟩,
  ⟨none, .store 4 (.tmp 52) (.const (.bool true)), none⟩,
  ⟨some 53, .fieldAddr 27 (.tmp 10) 1, none⟩,
  ⟨none, .store 25 (.tmp 53) (.tmp 51), none⟩]
def S_ref17_join_r7 : SC := .reg [⟨some 55, .load 38 (.tmp 3), none⟩,
  ⟨some 56, .move (.tmp 7), none⟩,
  ⟨some 57, .load 27 (.tmp 9), none⟩,
  ⟨some 58, .call ⟨.value (.func 24), #[(.tmp 55), (.tmp 56), (.tmp 57)], #[38, 3, 27]⟩, none⟩,
  ⟨some 54, .move (.tmp 58), none⟩,
  ⟨some 59, .extract (.tmp 54) 0, none⟩,
  ⟨some 60, .extract (.tmp 54) 1, none⟩,
  ⟨none, .store 38 (.tmp 3) (.tmp 59), none⟩]
def S_ref17_join_r8 : SC := .reg [⟨some 62, .load 38 (.tmp 3), none⟩,
  ⟨some 63, .move (.tmp 8), none⟩,
  ⟨some 64, .load 27 (.tmp 10), none⟩,
  ⟨some 65, .call ⟨.value (.func 24), #[(.tmp 62), (.tmp 63), (.tmp 64)], #[38, 3, 27]⟩, none⟩,
  ⟨some 61, .move (.tmp 65), none⟩,
  ⟨some 66, .extract (.tmp 61) 0, none⟩,
  ⟨some 67, .extract (.tmp 61) 1, none⟩,
  ⟨none, .store 38 (.tmp 3) (.tmp 66), none⟩]
def S_ref17_join_r9 : SC := .reg [⟨some 68, .load 38 (.tmp 3), none⟩,
  ⟨none, .store 38 (.tmp 6) (.tmp 68), none⟩]
def S_ref17_join : SC := (.seq S_ref17_join_r0 (.seq (.seq S_ref17_join_r1 (.cond (.tmp 15) (.seq S_ref17_join_r2 .ret) .skip)) (.seq S_ref17_join_r3 (.seq S_ref17_join_r4 (.seq S_ref17_join_r5 (.seq S_ref17_join_r6 (.seq S_ref17_join_r7 (.seq S_ref17_join_r8 (.seq S_ref17_join_r9 .ret)))))))))
theorem BS_ref17_join : Try.f114.body.bind stripC = some S_ref17_join := by kernel_rfl
/-! ref17_bind: function 115, 149 temporaries. -/
def S_ref17_bind_r0 : SC := .reg [⟨some 3, .box 38 (.tmp 0), none⟩,
  ⟨some 5, .box 25 (.tmp 2), none⟩,
  ⟨some 6, .alloc 38, none⟩,
  ⟨some 7, .assign (.const (.int .i64 0)), none⟩]
def S_ref17_bind_r1 : SC := .reg [⟨some 20, .fieldAddr 38 (.tmp 3) 0, none⟩,
  ⟨some 21, .load 35 (.tmp 20), none⟩,
  ⟨some 22, .move (.tmp 1), none⟩,
  ⟨some 23, .indexAddr 35 (.tmp 21) (.tmp 22), none⟩,
  ⟨some 24, .load 27 (.tmp 23), none⟩,
  ⟨some 8, .alloc 27, none⟩,
  ⟨none, .store 27 (.tmp 8) (.tmp 24), none⟩]
def S_ref17_bind_r2 : SC := .reg [⟨some 25, .load 38 (.tmp 3), none⟩,
  ⟨some 26, .load 25 (.tmp 5), none⟩,
  ⟨some 27, .buildSlice 23 1 #[(0, (.tmp 26))], none⟩,
  ⟨some 28, .call ⟨.value (.func 41), #[(.tmp 25), (.tmp 27)], #[38, 23]⟩, none⟩,
  ⟨some 9, .assign (.tmp 28), none⟩]
def S_ref17_bind_r3 : SC := .reg [⟨some 29, .move (.tmp 9), none⟩,
  ⟨some 30, .move (.tmp 1), none⟩,
  ⟨some 31, .call ⟨.value (.func 47), #[(.tmp 29), (.tmp 30)], #[22, 3]⟩, none⟩]
def S_ref17_bind_r4 : SC := .reg [⟨some 32, .load 38 (.tmp 3), none⟩,
  ⟨none, .store 38 (.tmp 6) (.tmp 32), none⟩,
  ⟨some 7, .assign (.const (.int .i64 12)), none⟩]
def S_ref17_bind_r5 : SC := .reg [⟨some 34, .load 25 (.tmp 5), none⟩,
  ⟨some 35, .call ⟨.value (.func 131), #[(.tmp 34)], #[25]⟩, none⟩,
  ⟨some 33, .move (.tmp 35), none⟩,
  ⟨some 36, .extract (.tmp 33) 0, none⟩,
  ⟨some 37, .extract (.tmp 33) 1, none⟩,
  ⟨some 38, .extract (.tmp 33) 2, none⟩,
  ⟨some 10, .alloc 25, none⟩,
  ⟨some 11, .alloc 25, none⟩,
  ⟨none, .store 25 (.tmp 10) (.tmp 36), none⟩,
  ⟨none, .store 25 (.tmp 11) (.tmp 37), none⟩,
  ⟨some 12, .assign (.tmp 38), none⟩]
def S_ref17_bind_r6 : SC := .reg [⟨some 39, .move (.tmp 12), none⟩,
  ⟨some 40, .move (.tmp 39), none⟩,
  ⟨some 41, .fieldAddr 27 (.tmp 8) 3, some (40, true)⟩,
  ⟨some 42, .load 4 (.tmp 41), some (40, true)⟩,
  ⟨some 43, .pick (.tmp 40) (.tmp 42) (.const (.bool false)), none⟩]
def S_ref17_bind_r7 : SC := .reg [⟨some 44, .load 38 (.tmp 3), none⟩,
  ⟨none, .store 38 (.tmp 6) (.tmp 44), none⟩,
  ⟨some 7, .assign (.const (.int .i64 14)), none⟩]
def S_ref17_bind_r8 : SC := .reg [⟨some 46, .load 38 (.tmp 3), none⟩,
  ⟨some 47, .load 25 (.tmp 5), none⟩,
  ⟨some 48, .call ⟨.value (.func 35), #[(.tmp 46), (.tmp 47)], #[38, 25]⟩, none⟩,
  ⟨some 45, .move (.tmp 48), none⟩,
  ⟨some 49, .extract (.tmp 45) 0, none⟩,
  ⟨some 50, .extract (.tmp 45) 1, none⟩,
  ⟨some 13, .alloc 25, none⟩,
  ⟨none, .store 25 (.tmp 13) (.tmp 49), none⟩,
  ⟨some 14, .assign (.tmp 50), none⟩]
def S_ref17_bind_r9 : SC := .reg [⟨some 51, .load 25 (.tmp 13), none⟩,
  ⟨some 52, .buildSlice 23 1 #[(0, (.tmp 51))], none⟩,
  ⟨some 53, .call ⟨.value (.func 132), #[(.tmp 52)], #[23]⟩, none⟩,
  ⟨some 15, .assign (.tmp 53), none⟩]
def S_ref17_bind_r10 : SC := .reg [⟨some 16, .assign (.const (.int .i64 0)), none⟩]
def S_ref17_bind_r11 : SC := .reg [⟨some 54, .move (.tmp 16), none⟩,
  ⟨some 55, .move (.tmp 15), none⟩,
  ⟨some 56, .call ⟨.builtin .len, #[(.tmp 55)], #[23]⟩, none⟩,
  ⟨some 57, .binOp .lss 3 (.tmp 54) (.tmp 56) 3, none⟩]
def S_ref17_bind_r12 : SC := .draw [⟨some 60, .move (.tmp 15), none, [15]⟩,
  ⟨some 61, .move (.tmp 16), none, [16]⟩,
  ⟨some 62, .indexAddr 23 (.tmp 60) (.tmp 61), none, [60, 61]⟩,
  ⟨some 63, .fieldAddr 25 (.tmp 62) 3, none, [62]⟩,
  ⟨some 64, .load 3 (.tmp 63), none, [63]⟩,
  ⟨some 65, .fieldAddr 27 (.tmp 8) 2, none, [8]⟩,
  ⟨some 66, .load 3 (.tmp 65), none, [65]⟩,
  ⟨some 67, .binOp .gtr 3 (.tmp 64) (.tmp 66) 3, none, [64, 66]⟩] [0, 0, 3, 7, 15, 0, 32, 127]
def S_ref17_bind_r13 : SC := .reg [⟨some 68, .load 38 (.tmp 3), none⟩,
  ⟨none, .store 38 (.tmp 6) (.tmp 68), none⟩,
  ⟨some 7, .assign (.const (.int .i64 13)), none⟩]
def S_ref17_bind_b0 : SC := .block 1 (.seq S_ref17_bind_r12 (.cond (.tmp 67) (.seq S_ref17_bind_r13 .ret) .skip))
def S_ref17_bind_r14 : SC := .reg [⟨some 58, .move (.tmp 16), none⟩,
  ⟨some 59, .binOp .add 3 (.tmp 58) (.const (.int .i64 1)) 3, none⟩,
  ⟨some 16, .assign (.tmp 59), none⟩]
def S_ref17_bind_l0 : SC := (.seq (.seq S_ref17_bind_r11 (.cond (.tmp 57) .skip (.exit 0))) (.seq S_ref17_bind_b0 S_ref17_bind_r14))
def S_ref17_bind_b1 : SC := .block 0 (.loop S_ref17_bind_l0)
def S_ref17_bind_r15 : SC := .reg [⟨some 17, .assign (.const (.int .i64 0)), none⟩]
def S_ref17_bind_r16 : SC := .reg [⟨some 69, .move (.tmp 17), none⟩,
  ⟨some 70, .move (.tmp 9), none⟩,
  ⟨some 71, .call ⟨.builtin .len, #[(.tmp 70)], #[22]⟩, none⟩,
  ⟨some 72, .binOp .lss 3 (.tmp 69) (.tmp 71) 3, none⟩]
def S_ref17_bind_r17 : SC := .draw [⟨some 75, .move (.tmp 9), none, [9]⟩,
  ⟨some 76, .move (.tmp 17), none, [17]⟩,
  ⟨some 77, .indexAddr 22 (.tmp 75) (.tmp 76), none, [75, 76]⟩,
  ⟨some 78, .load 3 (.tmp 77), none, [77]⟩,
  ⟨some 79, .fieldAddr 38 (.tmp 3) 0, none, [3]⟩,
  ⟨some 80, .load 35 (.tmp 79), none, [79]⟩,
  ⟨some 81, .call ⟨.builtin .len, #[(.tmp 80)], #[35]⟩, none, [80]⟩,
  ⟨some 82, .binOp .geq 3 (.tmp 78) (.tmp 81) 3, none, [78, 81]⟩,
  ⟨some 83, .move (.tmp 82), none, [82]⟩,
  ⟨some 84, .fieldAddr 27 (.tmp 8) 2, some (83, true), [8, 83]⟩,
  ⟨some 85, .load 3 (.tmp 84), some (83, true), [84, 83]⟩,
  ⟨some 86, .binOp .lss 3 (.tmp 85) (.const (.int .i64 0)) 3, some (83, true), [85, 83]⟩,
  ⟨some 87, .pick (.tmp 83) (.tmp 86) (.const (.bool false)), none, [83, 86]⟩] [0, 0, 3, 7, 0, 16, 48, 127, 255, 511, 1023, 2047, 4095]
def S_ref17_bind_r18 : SC := .reg [⟨some 88, .load 38 (.tmp 3), none⟩,
  ⟨none, .store 38 (.tmp 6) (.tmp 88), none⟩,
  ⟨some 7, .assign (.const (.int .i64 13)), none⟩]
def S_ref17_bind_b2 : SC := .block 3 (.seq S_ref17_bind_r17 (.cond (.tmp 87) (.seq S_ref17_bind_r18 .ret) .skip))
def S_ref17_bind_r19 : SC := .reg [⟨some 73, .move (.tmp 17), none⟩,
  ⟨some 74, .binOp .add 3 (.tmp 73) (.const (.int .i64 1)) 3, none⟩,
  ⟨some 17, .assign (.tmp 74), none⟩]
def S_ref17_bind_l1 : SC := (.seq (.seq S_ref17_bind_r16 (.cond (.tmp 72) .skip (.exit 2))) (.seq S_ref17_bind_b2 S_ref17_bind_r19))
def S_ref17_bind_b3 : SC := .block 2 (.loop S_ref17_bind_l1)
def S_ref17_bind_r20 : SC := .reg [⟨some 18, .assign (.const (.int .i64 0)), none⟩]
def S_ref17_bind_r21 : SC := .reg [⟨some 89, .move (.tmp 18), none⟩,
  ⟨some 90, .move (.tmp 9), none⟩,
  ⟨some 91, .call ⟨.builtin .len, #[(.tmp 90)], #[22]⟩, none⟩,
  ⟨some 92, .binOp .lss 3 (.tmp 89) (.tmp 91) 3, none⟩]
def S_ref17_bind_r22 : SC := .draw [⟨some 95, .move (.tmp 9), none, [9]⟩,
  ⟨some 96, .move (.tmp 18), none, [18]⟩,
  ⟨some 97, .indexAddr 22 (.tmp 95) (.tmp 96), none, [95, 96]⟩,
  ⟨some 98, .load 3 (.tmp 97), none, [97]⟩,
  ⟨some 99, .fieldAddr 38 (.tmp 3) 0, none, [3]⟩,
  ⟨some 100, .load 35 (.tmp 99), none, [99]⟩,
  ⟨some 101, .call ⟨.builtin .len, #[(.tmp 100)], #[35]⟩, none, [100]⟩,
  ⟨some 102, .binOp .lss 3 (.tmp 98) (.tmp 101) 3, none, [98, 101]⟩,
  ⟨some 103, .move (.tmp 102), none, [102]⟩,
  ⟨some 104, .fieldAddr 38 (.tmp 3) 0, some (103, true), [3, 103]⟩,
  ⟨some 105, .load 35 (.tmp 104), some (103, true), [104, 103]⟩,
  ⟨some 106, .move (.tmp 9), some (103, true), [9, 103]⟩,
  ⟨some 107, .move (.tmp 18), some (103, true), [18, 103]⟩,
  ⟨some 108, .indexAddr 22 (.tmp 106) (.tmp 107), some (103, true), [106, 107, 103]⟩,
  ⟨some 109, .load 3 (.tmp 108), some (103, true), [108, 103]⟩,
  ⟨some 110, .indexAddr 35 (.tmp 105) (.tmp 109), some (103, true), [105, 109, 103]⟩,
  ⟨some 111, .fieldAddr 27 (.tmp 110) 2, some (103, true), [110, 103]⟩,
  ⟨some 112, .load 3 (.tmp 111), some (103, true), [111, 103]⟩,
  ⟨some 113, .fieldAddr 27 (.tmp 8) 2, some (103, true), [8, 103]⟩,
  ⟨some 114, .load 3 (.tmp 113), some (103, true), [113, 103]⟩,
  ⟨some 115, .binOp .gtr 3 (.tmp 112) (.tmp 114) 3, some (103, true), [112, 114, 103]⟩,
  ⟨some 116, .pick (.tmp 103) (.tmp 115) (.const (.bool false)), none, [103, 115]⟩] [0, 0, 3, 7, 0, 16, 48, 127, 255, 511, 1023, 511, 511, 6655, 14847, 32767, 65535, 131071, 511, 262655, 1048575, 2097151]
def S_ref17_bind_r23 : SC := .draw [⟨some 117, .fieldAddr 38 (.tmp 3) 0, none, [3]⟩,
  ⟨some 118, .load 35 (.tmp 117), none, [117]⟩,
  ⟨some 119, .move (.tmp 9), none, [9]⟩,
  ⟨some 120, .move (.tmp 18), none, [18]⟩,
  ⟨some 121, .indexAddr 22 (.tmp 119) (.tmp 120), none, [119, 120]⟩,
  ⟨some 122, .load 3 (.tmp 121), none, [121]⟩,
  ⟨some 123, .indexAddr 35 (.tmp 118) (.tmp 122), none, [118, 122]⟩,
  ⟨some 124, .load 27 (.tmp 123), none, [123]⟩,
  ⟨some 19, .alloc 27, none, []⟩,
  ⟨none, .store 27 (.tmp 19) (.tmp 124), none, [19, 124]⟩] [0, 1, 0, 0, 12, 28, 63, 127, 0, 511]
def S_ref17_bind_r24 : SC := .reg [⟨some 125, .fieldAddr 27 (.tmp 8) 2, none⟩,
  ⟨some 126, .load 3 (.tmp 125), none⟩,
  ⟨some 127, .fieldAddr 27 (.tmp 19) 2, none⟩,
  ⟨none, .store 3 (.tmp 127) (.tmp 126), none⟩]
def S_ref17_bind_r25 : SC := .draw [⟨some 129, .load 38 (.tmp 3), none, [3]⟩,
  ⟨some 130, .move (.tmp 9), none, [9]⟩,
  ⟨some 131, .move (.tmp 18), none, [18]⟩,
  ⟨some 132, .indexAddr 22 (.tmp 130) (.tmp 131), none, [130, 131]⟩,
  ⟨some 133, .load 3 (.tmp 132), none, [132]⟩,
  ⟨some 134, .load 27 (.tmp 19), none, [19]⟩,
  ⟨some 135, .call ⟨.value (.func 24), #[(.tmp 129), (.tmp 133), (.tmp 134)], #[38, 3, 27]⟩, none, [129, 133, 134]⟩,
  ⟨some 128, .move (.tmp 135), none, [135]⟩,
  ⟨some 136, .extract (.tmp 128) 0, none, [128]⟩,
  ⟨some 137, .extract (.tmp 128) 1, none, [128]⟩,
  ⟨none, .store 38 (.tmp 3) (.tmp 136), none, [3, 136]⟩] [0, 0, 0, 6, 14, 0, 63, 127, 255, 255, 511]
def S_ref17_bind_b4 : SC := .block 5 (.seq S_ref17_bind_r22 (.cond (.tmp 116) (.seq S_ref17_bind_r23 (.seq S_ref17_bind_r24 S_ref17_bind_r25)) .skip))
def S_ref17_bind_r26 : SC := .reg [⟨some 93, .move (.tmp 18), none⟩,
  ⟨some 94, .binOp .add 3 (.tmp 93) (.const (.int .i64 1)) 3, none⟩,
  ⟨some 18, .assign (.tmp 94), none⟩]
def S_ref17_bind_l2 : SC := (.seq (.seq S_ref17_bind_r21 (.cond (.tmp 92) .skip (.exit 4))) (.seq S_ref17_bind_b4 S_ref17_bind_r26))
def S_ref17_bind_b5 : SC := .block 4 (.loop S_ref17_bind_l2)
def S_ref17_bind_r27 : SC := .draw [⟨some 138, .load 25 (.tmp 5), none, [5]⟩,
  ⟨some 139, .fieldAddr 27 (.tmp 8) 0, none, [8]⟩,
  ⟨none, .store 4 (.tmp 139) (.const (.bool true)), none, [139]⟩,
  ⟨some 140, .fieldAddr 27 (.tmp 8) 1, none, [8]⟩,
  ⟨none, .store 25 (.tmp 140) (.tmp 138), none, [140, 138]⟩] [0, 0, 2, 7, 15]
def S_ref17_bind_r28 : SC := .reg [⟨some 142, .load 38 (.tmp 3), none⟩,
  ⟨some 143, .move (.tmp 1), none⟩,
  ⟨some 144, .load 27 (.tmp 8), none⟩,
  ⟨some 145, .call ⟨.value (.func 24), #[(.tmp 142), (.tmp 143), (.tmp 144)], #[38, 3, 27]⟩, none⟩,
  ⟨some 141, .move (.tmp 145), none⟩,
  ⟨some 146, .extract (.tmp 141) 0, none⟩,
  ⟨some 147, .extract (.tmp 141) 1, none⟩,
  ⟨none, .store 38 (.tmp 3) (.tmp 146), none⟩]
def S_ref17_bind_r29 : SC := .reg [⟨some 148, .load 38 (.tmp 3), none⟩,
  ⟨none, .store 38 (.tmp 6) (.tmp 148), none⟩,
  ⟨some 7, .assign (.const (.int .i64 0)), none⟩]
def S_ref17_bind : SC := (.seq S_ref17_bind_r0 (.seq S_ref17_bind_r1 (.seq S_ref17_bind_r2 (.seq (.seq S_ref17_bind_r3 (.cond (.tmp 31) (.seq S_ref17_bind_r4 .ret) .skip)) (.seq (.seq S_ref17_bind_r5 (.seq S_ref17_bind_r6 (.cond (.tmp 43) (.seq S_ref17_bind_r7 .ret) .skip))) (.seq S_ref17_bind_r8 (.seq S_ref17_bind_r9 (.seq (.seq S_ref17_bind_r10 S_ref17_bind_b1) (.seq (.seq S_ref17_bind_r15 S_ref17_bind_b3) (.seq (.seq S_ref17_bind_r20 S_ref17_bind_b5) (.seq S_ref17_bind_r27 (.seq S_ref17_bind_r28 (.seq S_ref17_bind_r29 .ret)))))))))))))
theorem BS_ref17_bind : Try.f115.body.bind stripC = some S_ref17_bind := by kernel_rfl
/-! ref17_unify: function 93, 129 temporaries. -/
def S_ref17_unify_r0 : SC := .reg [⟨some 3, .box 38 (.tmp 0), none⟩,
  ⟨some 4, .box 25 (.tmp 1), none⟩,
  ⟨some 5, .box 25 (.tmp 2), none⟩,
  ⟨some 6, .alloc 38, none⟩,
  ⟨some 7, .assign (.const (.int .i64 0)), none⟩]
def S_ref17_unify_r1 : SC := .reg [⟨some 12, .load 38 (.tmp 3), none⟩,
  ⟨some 13, .load 25 (.tmp 4), none⟩,
  ⟨some 14, .call ⟨.value (.func 39), #[(.tmp 12), (.tmp 13), (.const (.int .i64 200))], #[38, 25, 3]⟩, none⟩,
  ⟨some 15, .binOp .gtr 3 (.tmp 14) (.const (.int .i64 200)) 3, none⟩,
  ⟨some 16, .move (.tmp 15), none⟩,
  ⟨some 17, .load 38 (.tmp 3), some (16, false)⟩,
  ⟨some 18, .load 25 (.tmp 5), some (16, false)⟩,
  ⟨some 19, .call ⟨.value (.func 39), #[(.tmp 17), (.tmp 18), (.const (.int .i64 200))], #[38, 25, 3]⟩, some (16, false)⟩,
  ⟨some 20, .binOp .gtr 3 (.tmp 19) (.const (.int .i64 200)) 3, some (16, false)⟩,
  ⟨some 21, .pick (.tmp 16) (.const (.bool true)) (.tmp 20), none⟩]
def S_ref17_unify_r2 : SC := .reg [⟨some 22, .load 38 (.tmp 3), none⟩,
  ⟨none, .store 38 (.tmp 6) (.tmp 22), none⟩,
  ⟨some 7, .assign (.const (.int .i64 15)), none⟩]
def S_ref17_unify_r3 : SC := .draw [⟨some 23, .load 38 (.tmp 3), none, [3]⟩,
  ⟨some 24, .load 25 (.tmp 4), none, [4]⟩,
  ⟨some 25, .call ⟨.value (.func 37), #[(.tmp 23), (.tmp 24)], #[38, 25]⟩, none, [23, 24]⟩,
  ⟨some 26, .load 38 (.tmp 3), none, [3]⟩,
  ⟨some 27, .load 25 (.tmp 5), none, [5]⟩,
  ⟨some 28, .call ⟨.value (.func 37), #[(.tmp 26), (.tmp 27)], #[38, 25]⟩, none, [26, 27]⟩,
  ⟨some 8, .alloc 25, none, []⟩,
  ⟨some 9, .alloc 25, none, []⟩,
  ⟨none, .store 25 (.tmp 8) (.tmp 25), none, [8, 25]⟩,
  ⟨none, .store 25 (.tmp 9) (.tmp 28), none, [9, 28]⟩] [0, 0, 3, 0, 0, 31, 0, 0, 255, 511]
def S_ref17_unify_r4 : SC := .reg [⟨some 30, .load 38 (.tmp 3), none⟩,
  ⟨some 31, .load 25 (.tmp 8), none⟩,
  ⟨some 32, .call ⟨.value (.func 113), #[(.tmp 30), (.tmp 31)], #[38, 25]⟩, none⟩,
  ⟨some 33, .move (.tmp 32), none⟩,
  ⟨some 34, .load 38 (.tmp 3), some (33, true)⟩,
  ⟨some 35, .load 25 (.tmp 9), some (33, true)⟩,
  ⟨some 36, .call ⟨.value (.func 113), #[(.tmp 34), (.tmp 35)], #[38, 25]⟩, some (33, true)⟩,
  ⟨some 37, .pick (.tmp 33) (.tmp 36) (.const (.bool false)), none⟩,
  ⟨some 29, .assign (.tmp 37), none⟩]
def S_ref17_unify_r5 : SC := .reg [⟨some 38, .load 38 (.tmp 3), none⟩,
  ⟨some 39, .load 25 (.tmp 8), none⟩,
  ⟨some 40, .load 25 (.tmp 9), none⟩,
  ⟨some 41, .call ⟨.value (.func 114), #[(.tmp 38), (.tmp 39), (.tmp 40)], #[38, 25, 25]⟩, none⟩,
  ⟨none, .store 38 (.tmp 6) (.tmp 41), none⟩,
  ⟨some 7, .assign (.const (.int .i64 0)), none⟩]
def S_ref17_unify_r6 : SC := .reg [⟨some 43, .load 38 (.tmp 3), none⟩,
  ⟨some 44, .load 25 (.tmp 8), none⟩,
  ⟨some 45, .call ⟨.value (.func 113), #[(.tmp 43), (.tmp 44)], #[38, 25]⟩, none⟩,
  ⟨some 42, .assign (.tmp 45), none⟩]
def S_ref17_unify_r7 : SC := .reg [⟨some 46, .load 38 (.tmp 3), none⟩,
  ⟨some 47, .fieldAddr 25 (.tmp 8) 2, none⟩,
  ⟨some 48, .load 3 (.tmp 47), none⟩,
  ⟨some 49, .load 25 (.tmp 9), none⟩,
  ⟨some 50, .call ⟨.value (.func 115), #[(.tmp 46), (.tmp 48), (.tmp 49)], #[38, 3, 25]⟩, none⟩,
  ⟨some 51, .extract (.tmp 50) 0, none⟩,
  ⟨some 52, .extract (.tmp 50) 1, none⟩,
  ⟨none, .store 38 (.tmp 6) (.tmp 51), none⟩,
  ⟨some 7, .assign (.tmp 52), none⟩]
def S_ref17_unify_r8 : SC := .reg [⟨some 54, .load 38 (.tmp 3), none⟩,
  ⟨some 55, .load 25 (.tmp 9), none⟩,
  ⟨some 56, .call ⟨.value (.func 113), #[(.tmp 54), (.tmp 55)], #[38, 25]⟩, none⟩,
  ⟨some 53, .assign (.tmp 56), none⟩]
def S_ref17_unify_r9 : SC := .reg [⟨some 57, .load 38 (.tmp 3), none⟩,
  ⟨some 58, .fieldAddr 25 (.tmp 9) 2, none⟩,
  ⟨some 59, .load 3 (.tmp 58), none⟩,
  ⟨some 60, .load 25 (.tmp 8), none⟩,
  ⟨some 61, .call ⟨.value (.func 115), #[(.tmp 57), (.tmp 59), (.tmp 60)], #[38, 3, 25]⟩, none⟩,
  ⟨some 62, .extract (.tmp 61) 0, none⟩,
  ⟨some 63, .extract (.tmp 61) 1, none⟩,
  ⟨none, .store 38 (.tmp 6) (.tmp 62), none⟩,
  ⟨some 7, .assign (.tmp 63), none⟩]
def S_ref17_unify_r10 : SC := .reg [⟨some 65, .fieldAddr 25 (.tmp 8) 0, none⟩,
  ⟨some 66, .load 3 (.tmp 65), none⟩,
  ⟨some 67, .fieldAddr 25 (.tmp 9) 0, none⟩,
  ⟨some 68, .load 3 (.tmp 67), none⟩,
  ⟨some 69, .binOp .neq 3 (.tmp 66) (.tmp 68) 3, none⟩,
  ⟨some 70, .move (.tmp 69), none⟩,
  ⟨some 71, .fieldAddr 25 (.tmp 8) 1, some (70, false)⟩,
  ⟨some 72, .load 9 (.tmp 71), some (70, false)⟩,
  ⟨some 73, .fieldAddr 25 (.tmp 9) 1, some (70, false)⟩,
  ⟨some 74, .load 9 (.tmp 73), some (70, false)⟩,
  ⟨some 75, .binOp .neq 9 (.tmp 72) (.tmp 74) 9, some (70, false)⟩,
  ⟨some 76, .pick (.tmp 70) (.const (.bool true)) (.tmp 75), none⟩,
  ⟨some 77, .move (.tmp 76), none⟩,
  ⟨some 78, .fieldAddr 25 (.tmp 8) 2, some (77, false)⟩,
  ⟨some 79, .load 3 (.tmp 78), some (77, false)⟩,
  ⟨some 80, .fieldAddr 25 (.tmp 9) 2, some (77, false)⟩,
  ⟨some 81, .load 3 (.tmp 80), some (77, false)⟩,
  ⟨some 82, .binOp .neq 3 (.tmp 79) (.tmp 81) 3, some (77, false)⟩,
  ⟨some 83, .pick (.tmp 77) (.const (.bool true)) (.tmp 82), none⟩,
  ⟨some 84, .move (.tmp 83), none⟩,
  ⟨some 85, .fieldAddr 25 (.tmp 8) 3, some (84, false)⟩,
  ⟨some 86, .load 3 (.tmp 85), some (84, false)⟩,
  ⟨some 87, .fieldAddr 25 (.tmp 9) 3, some (84, false)⟩,
  ⟨some 88, .load 3 (.tmp 87), some (84, false)⟩,
  ⟨some 89, .binOp .neq 3 (.tmp 86) (.tmp 88) 3, some (84, false)⟩,
  ⟨some 90, .pick (.tmp 84) (.const (.bool true)) (.tmp 89), none⟩,
  ⟨some 91, .move (.tmp 90), none⟩,
  ⟨some 92, .fieldAddr 25 (.tmp 8) 4, some (91, false)⟩,
  ⟨some 93, .load 23 (.tmp 92), some (91, false)⟩,
  ⟨some 94, .call ⟨.builtin .len, #[(.tmp 93)], #[23]⟩, some (91, false)⟩,
  ⟨some 95, .fieldAddr 25 (.tmp 9) 4, some (91, false)⟩,
  ⟨some 96, .load 23 (.tmp 95), some (91, false)⟩,
  ⟨some 97, .call ⟨.builtin .len, #[(.tmp 96)], #[23]⟩, some (91, false)⟩,
  ⟨some 98, .binOp .neq 3 (.tmp 94) (.tmp 97) 3, some (91, false)⟩,
  ⟨some 99, .pick (.tmp 91) (.const (.bool true)) (.tmp 98), none⟩,
  ⟨some 64, .assign (.tmp 99), none⟩]
def S_ref17_unify_r11 : SC := .reg [⟨some 100, .load 38 (.tmp 3), none⟩,
  ⟨none, .store 38 (.tmp 6) (.tmp 100), none⟩,
  ⟨some 7, .assign (.const (.int .i64 11)), none⟩]
def S_ref17_unify_b0 : SC := .block 0 (.seq S_ref17_unify_r4 (.cond (.tmp 29) (.seq S_ref17_unify_r5 .ret) (.seq S_ref17_unify_r6 (.cond (.tmp 42) (.seq S_ref17_unify_r7 .ret) (.seq S_ref17_unify_r8 (.cond (.tmp 53) (.seq S_ref17_unify_r9 .ret) (.seq S_ref17_unify_r10 (.cond (.tmp 64) (.seq S_ref17_unify_r11 .ret) .skip))))))))
def S_ref17_unify_r12 : SC := .reg [⟨some 10, .assign (.const (.int .i64 0)), none⟩]
def S_ref17_unify_r13 : SC := .reg [⟨some 11, .assign (.const (.int .i64 0)), none⟩]
def S_ref17_unify_r14 : SC := .reg [⟨some 101, .move (.tmp 11), none⟩,
  ⟨some 102, .fieldAddr 25 (.tmp 8) 4, none⟩,
  ⟨some 103, .load 23 (.tmp 102), none⟩,
  ⟨some 104, .call ⟨.builtin .len, #[(.tmp 103)], #[23]⟩, none⟩,
  ⟨some 105, .binOp .lss 3 (.tmp 101) (.tmp 104) 3, none⟩,
  ⟨some 106, .move (.tmp 105), none⟩,
  ⟨some 107, .move (.tmp 10), some (106, true)⟩,
  ⟨some 108, .binOp .eql 70 (.tmp 107) (.const (.int .i64 0)) 70, some (106, true)⟩,
  ⟨some 109, .pick (.tmp 106) (.tmp 108) (.const (.bool false)), none⟩]
def S_ref17_unify_r15 : SC := .draw [⟨some 113, .load 38 (.tmp 3), none, [3]⟩,
  ⟨some 114, .fieldAddr 25 (.tmp 8) 4, none, [8]⟩,
  ⟨some 115, .load 23 (.tmp 114), none, [114]⟩,
  ⟨some 116, .move (.tmp 11), none, [11]⟩,
  ⟨some 117, .indexAddr 23 (.tmp 115) (.tmp 116), none, [115, 116]⟩,
  ⟨some 118, .load 25 (.tmp 117), none, [117]⟩,
  ⟨some 119, .fieldAddr 25 (.tmp 9) 4, none, [9]⟩,
  ⟨some 120, .load 23 (.tmp 119), none, [119]⟩,
  ⟨some 121, .move (.tmp 11), none, [11]⟩,
  ⟨some 122, .indexAddr 23 (.tmp 120) (.tmp 121), none, [120, 121]⟩,
  ⟨some 123, .load 25 (.tmp 122), none, [122]⟩,
  ⟨some 124, .call ⟨.value (.func 93), #[(.tmp 113), (.tmp 118), (.tmp 123)], #[38, 25, 25]⟩, none, [113, 118, 123]⟩,
  ⟨some 112, .move (.tmp 124), none, [124]⟩,
  ⟨some 125, .extract (.tmp 112) 0, none, [112]⟩,
  ⟨some 126, .extract (.tmp 112) 1, none, [112]⟩,
  ⟨none, .store 38 (.tmp 3) (.tmp 125), none, [3, 125]⟩,
  ⟨some 10, .assign (.tmp 126), none, [126]⟩] [0, 0, 2, 0, 14, 30, 0, 64, 0, 448, 960, 2047, 4095, 8191, 8191, 16383, 65535]
def S_ref17_unify_b1 : SC := .block 2 S_ref17_unify_r15
def S_ref17_unify_r16 : SC := .reg [⟨some 110, .move (.tmp 11), none⟩,
  ⟨some 111, .binOp .add 3 (.tmp 110) (.const (.int .i64 1)) 3, none⟩,
  ⟨some 11, .assign (.tmp 111), none⟩]
def S_ref17_unify_l0 : SC := (.seq (.seq S_ref17_unify_r14 (.cond (.tmp 109) .skip (.exit 1))) (.seq S_ref17_unify_b1 S_ref17_unify_r16))
def S_ref17_unify_b2 : SC := .block 1 (.loop S_ref17_unify_l0)
def S_ref17_unify_r17 : SC := .reg [⟨some 127, .load 38 (.tmp 3), none⟩,
  ⟨some 128, .move (.tmp 10), none⟩,
  ⟨none, .store 38 (.tmp 6) (.tmp 127), none⟩,
  ⟨some 7, .assign (.tmp 128), none⟩]
def S_ref17_unify : SC := (.seq S_ref17_unify_r0 (.seq (.seq S_ref17_unify_r1 (.cond (.tmp 21) (.seq S_ref17_unify_r2 .ret) .skip)) (.seq S_ref17_unify_r3 (.seq S_ref17_unify_b0 (.seq S_ref17_unify_r12 (.seq (.seq S_ref17_unify_r13 S_ref17_unify_b2) (.seq S_ref17_unify_r17 .ret)))))))
theorem BS_ref17_unify : Try.f93.body.bind stripC = some S_ref17_unify := by kernel_rfl
/-! ref17_Unify: function 60, 22 temporaries. -/
def S_ref17_Unify_r0 : SC := .reg [⟨some 3, .box 38 (.tmp 0), none⟩,
  ⟨some 4, .box 25 (.tmp 1), none⟩,
  ⟨some 5, .box 25 (.tmp 2), none⟩,
  ⟨some 6, .alloc 38, none⟩,
  ⟨some 7, .assign (.const (.int .i64 0)), none⟩]
def S_ref17_Unify_r1 : SC := .reg [⟨some 11, .load 38 (.tmp 3), none⟩,
  ⟨some 12, .load 25 (.tmp 4), none⟩,
  ⟨some 13, .load 25 (.tmp 5), none⟩,
  ⟨some 14, .call ⟨.value (.func 93), #[(.tmp 11), (.tmp 12), (.tmp 13)], #[38, 25, 25]⟩, none⟩,
  ⟨some 10, .move (.tmp 14), none⟩,
  ⟨some 15, .extract (.tmp 10) 0, none⟩,
  ⟨some 16, .extract (.tmp 10) 1, none⟩,
  ⟨some 8, .alloc 38, none⟩,
  ⟨none, .store 38 (.tmp 8) (.tmp 15), none⟩,
  ⟨some 9, .assign (.tmp 16), none⟩]
def S_ref17_Unify_r2 : SC := .reg [⟨some 17, .move (.tmp 9), none⟩,
  ⟨some 18, .binOp .neq 70 (.tmp 17) (.const (.int .i64 0)) 70, none⟩]
def S_ref17_Unify_r3 : SC := .reg [⟨some 19, .load 38 (.tmp 3), none⟩,
  ⟨some 20, .move (.tmp 9), none⟩,
  ⟨none, .store 38 (.tmp 6) (.tmp 19), none⟩,
  ⟨some 7, .assign (.tmp 20), none⟩]
def S_ref17_Unify_r4 : SC := .reg [⟨some 21, .load 38 (.tmp 8), none⟩,
  ⟨none, .store 38 (.tmp 6) (.tmp 21), none⟩,
  ⟨some 7, .assign (.const (.int .i64 0)), none⟩]
def S_ref17_Unify : SC := (.seq S_ref17_Unify_r0 (.seq S_ref17_Unify_r1 (.seq (.seq S_ref17_Unify_r2 (.cond (.tmp 18) (.seq S_ref17_Unify_r3 .ret) .skip)) (.seq S_ref17_Unify_r4 .ret))))
theorem BS_ref17_Unify : Try.f60.body.bind stripC = some S_ref17_Unify := by kernel_rfl
/-! make_Tape_Store: function 14, 59 temporaries. -/
def S_make_Tape_Store_r0 : SC := .reg [⟨some 4, .alloc 38, none⟩]
def S_make_Tape_Store_r1 : SC := .reg [⟨some 12, .call ⟨.value (.func 21), #[], #[]⟩, none⟩,
  ⟨some 5, .alloc 38, none⟩,
  ⟨none, .store 38 (.tmp 5) (.tmp 12), none⟩]
def S_make_Tape_Store_r2 : SC := .reg [⟨some 13, .move (.tmp 0), none⟩,
  ⟨some 14, .call ⟨.value (.func 58), #[(.tmp 13), (.const (.int .i64 5))], #[32, 3]⟩, none⟩,
  ⟨some 15, .binOp .add 3 (.const (.int .i64 1)) (.tmp 14) 3, none⟩,
  ⟨some 6, .assign (.tmp 15), none⟩]
def S_make_Tape_Store_r3 : SC := .reg [⟨some 7, .assign (.const (.int .i64 0)), none⟩]
def S_make_Tape_Store_r4 : SC := .reg [⟨some 16, .move (.tmp 7), none⟩,
  ⟨some 17, .move (.tmp 6), none⟩,
  ⟨some 18, .binOp .lss 3 (.tmp 16) (.tmp 17) 3, none⟩]
def S_make_Tape_Store_r5 : SC := .draw [⟨some 22, .load 38 (.tmp 5), none, [5]⟩,
  ⟨some 23, .move (.tmp 0), none, [0]⟩,
  ⟨some 24, .call ⟨.value (.func 58), #[(.tmp 23), (.const (.int .i64 3))], #[32, 3]⟩, none, [23]⟩,
  ⟨some 25, .move (.tmp 0), none, [0]⟩,
  ⟨some 26, .call ⟨.value (.func 58), #[(.tmp 25), (.const (.int .i64 5))], #[32, 3]⟩, none, [25]⟩,
  ⟨some 27, .binOp .eql 3 (.tmp 26) (.const (.int .i64 0)) 3, none, [26]⟩,
  ⟨some 28, .call ⟨.value (.func 17), #[(.tmp 22), (.tmp 24), (.tmp 27)], #[38, 3, 4]⟩, none, [22, 24, 27]⟩,
  ⟨some 21, .move (.tmp 28), none, [28]⟩,
  ⟨some 29, .extract (.tmp 21) 0, none, [21]⟩,
  ⟨some 30, .extract (.tmp 21) 1, none, [21]⟩,
  ⟨none, .store 38 (.tmp 5) (.tmp 29), none, [5, 29]⟩] [0, 0, 2, 0, 14, 30, 63, 127, 255, 255, 511]
def S_make_Tape_Store_b0 : SC := .block 1 S_make_Tape_Store_r5
def S_make_Tape_Store_r6 : SC := .reg [⟨some 19, .move (.tmp 7), none⟩,
  ⟨some 20, .binOp .add 3 (.tmp 19) (.const (.int .i64 1)) 3, none⟩,
  ⟨some 7, .assign (.tmp 20), none⟩]
def S_make_Tape_Store_l0 : SC := (.seq (.seq S_make_Tape_Store_r4 (.cond (.tmp 18) .skip (.exit 0))) (.seq S_make_Tape_Store_b0 S_make_Tape_Store_r6))
def S_make_Tape_Store_b1 : SC := .block 0 (.loop S_make_Tape_Store_l0)
def S_make_Tape_Store_r7 : SC := .reg [⟨some 31, .move (.tmp 0), none⟩,
  ⟨some 32, .call ⟨.value (.func 58), #[(.tmp 31), (.const (.int .i64 4))], #[32, 3]⟩, none⟩,
  ⟨some 8, .assign (.tmp 32), none⟩]
def S_make_Tape_Store_r8 : SC := .reg [⟨some 9, .assign (.const (.int .i64 0)), none⟩]
def S_make_Tape_Store_r9 : SC := .reg [⟨some 33, .move (.tmp 9), none⟩,
  ⟨some 34, .move (.tmp 8), none⟩,
  ⟨some 35, .binOp .lss 3 (.tmp 33) (.tmp 34) 3, none⟩]
def S_make_Tape_Store_r10 : SC := .reg [⟨some 38, .move (.tmp 0), none⟩,
  ⟨some 39, .move (.tmp 1), none⟩,
  ⟨some 40, .move (.tmp 6), none⟩,
  ⟨some 41, .call ⟨.value (.func 32), #[(.tmp 40)], #[3]⟩, none⟩,
  ⟨some 42, .call ⟨.value (.func 31), #[(.tmp 38), (.tmp 39), (.tmp 41), (.const (.int .i64 1))], #[32, 40, 23, 3]⟩, none⟩,
  ⟨some 43, .move (.tmp 0), none⟩,
  ⟨some 44, .move (.tmp 1), none⟩,
  ⟨some 45, .move (.tmp 6), none⟩,
  ⟨some 46, .call ⟨.value (.func 32), #[(.tmp 45)], #[3]⟩, none⟩,
  ⟨some 47, .call ⟨.value (.func 59), #[(.const (.int .i64 1)), (.const (.int .i64 0))], #[3, 3]⟩, none⟩,
  ⟨some 48, .buildSlice 23 1 #[(0, (.tmp 47))], none⟩,
  ⟨some 49, .call ⟨.builtin .append, #[(.tmp 46), (.tmp 48)], #[23, 23]⟩, none⟩,
  ⟨some 50, .call ⟨.value (.func 31), #[(.tmp 43), (.tmp 44), (.tmp 49), (.const (.int .i64 1))], #[32, 40, 23, 3]⟩, none⟩,
  ⟨some 10, .alloc 25, none⟩,
  ⟨some 11, .alloc 25, none⟩,
  ⟨none, .store 25 (.tmp 10) (.tmp 42), none⟩,
  ⟨none, .store 25 (.tmp 11) (.tmp 50), none⟩]
def S_make_Tape_Store_r11 : SC := .reg [⟨some 52, .load 38 (.tmp 5), none⟩,
  ⟨some 53, .load 25 (.tmp 10), none⟩,
  ⟨some 54, .load 25 (.tmp 11), none⟩,
  ⟨some 55, .call ⟨.value (.func 60), #[(.tmp 52), (.tmp 53), (.tmp 54)], #[38, 25, 25]⟩, none⟩,
  ⟨some 51, .move (.tmp 55), none⟩,
  ⟨some 56, .extract (.tmp 51) 0, none⟩,
  ⟨some 57, .extract (.tmp 51) 1, none⟩,
  ⟨none, .store 38 (.tmp 5) (.tmp 56), none⟩]
def S_make_Tape_Store_b2 : SC := .block 3 (.seq S_make_Tape_Store_r10 S_make_Tape_Store_r11)
def S_make_Tape_Store_r12 : SC := .reg [⟨some 36, .move (.tmp 9), none⟩,
  ⟨some 37, .binOp .add 3 (.tmp 36) (.const (.int .i64 1)) 3, none⟩,
  ⟨some 9, .assign (.tmp 37), none⟩]
def S_make_Tape_Store_l1 : SC := (.seq (.seq S_make_Tape_Store_r9 (.cond (.tmp 35) .skip (.exit 2))) (.seq S_make_Tape_Store_b2 S_make_Tape_Store_r12))
def S_make_Tape_Store_b3 : SC := .block 2 (.loop S_make_Tape_Store_l1)
def S_make_Tape_Store_r13 : SC := .reg [⟨some 58, .load 38 (.tmp 5), none⟩,
  ⟨none, .store 38 (.tmp 4) (.tmp 58), none⟩]
def S_make_Tape_Store : SC := (.seq S_make_Tape_Store_r0 (.seq S_make_Tape_Store_r1 (.seq S_make_Tape_Store_r2 (.seq (.seq S_make_Tape_Store_r3 S_make_Tape_Store_b1) (.seq S_make_Tape_Store_r7 (.seq (.seq S_make_Tape_Store_r8 S_make_Tape_Store_b3) (.seq S_make_Tape_Store_r13 .ret)))))))
theorem BS_make_Tape_Store : Try.f14.body.bind stripC = some S_make_Tape_Store := by kernel_rfl
/-! ref16_New: function 21, 2 temporaries. -/
def S_ref16_New_r0 : SC := .reg [⟨some 0, .alloc 38, none⟩]
def S_ref16_New_r1 : SC := .reg [⟨some 1, .build 38 #[], none⟩,
  ⟨none, .store 38 (.tmp 0) (.tmp 1), none⟩]
def S_ref16_New : SC := (.seq S_ref16_New_r0 (.seq S_ref16_New_r1 .ret))
theorem BS_ref16_New : Try.f21.body.bind stripC = some S_ref16_New := by kernel_rfl
/-! ref16_Fresh: function 17, 33 temporaries. -/
def S_ref16_Fresh_r0 : SC := .reg [⟨some 3, .box 38 (.tmp 0), none⟩,
  ⟨some 6, .alloc 38, none⟩,
  ⟨some 7, .alloc 25, none⟩]
def S_ref16_Fresh_r1 : SC := .reg [⟨some 10, .fieldAddr 38 (.tmp 3) 0, none⟩,
  ⟨some 11, .load 35 (.tmp 10), none⟩,
  ⟨some 12, .call ⟨.builtin .len, #[(.tmp 11)], #[35]⟩, none⟩,
  ⟨some 8, .assign (.tmp 12), none⟩]
def S_ref16_Fresh_r2 : SC := .reg [⟨some 13, .fieldAddr 38 (.tmp 3) 0, none⟩,
  ⟨some 14, .load 35 (.tmp 13), none⟩,
  ⟨some 15, .call ⟨.builtin .append, #[(.const (.slice none 0 0)), (.tmp 14)], #[35, 35]⟩, none⟩,
  ⟨some 16, .move (.tmp 1), none⟩,
  ⟨some 17, .move (.tmp 2), none⟩,
  ⟨some 18, .build 27 #[(2, (.tmp 16)), (3, (.tmp 17))], none⟩,
  ⟨some 19, .buildSlice 35 1 #[(0, (.tmp 18))], none⟩,
  ⟨some 20, .call ⟨.builtin .append, #[(.tmp 15), (.tmp 19)], #[35, 35]⟩, none⟩,
  ⟨some 21, .build 38 #[(0, (.tmp 20))], none⟩,
  ⟨some 9, .alloc 38, none⟩,
  ⟨none, .store 38 (.tmp 9) (.tmp 21), none⟩]
def S_ref16_Fresh_r3 : SC := .reg [⟨some 22, .fieldAddr 38 (.tmp 3) 1, none⟩,
  ⟨some 23, .load 36 (.tmp 22), none⟩,
  ⟨some 24, .call ⟨.builtin .append, #[(.const (.slice none 0 0)), (.tmp 23)], #[36, 36]⟩, none⟩,
  ⟨some 25, .move (.tmp 8), none⟩,
  ⟨some 26, .build 102 #[(0, (.tmp 25)), (2, (.const (.bool true)))], none⟩,
  ⟨some 27, .buildSlice 36 1 #[(0, (.tmp 26))], none⟩,
  ⟨some 28, .call ⟨.builtin .append, #[(.tmp 24), (.tmp 27)], #[36, 36]⟩, none⟩,
  ⟨some 29, .fieldAddr 38 (.tmp 9) 1, none⟩,
  ⟨none, .store 36 (.tmp 29) (.tmp 28), none⟩]
def S_ref16_Fresh_r4 : SC := .draw [⟨some 30, .load 38 (.tmp 9), none, [9]⟩,
  ⟨some 31, .move (.tmp 8), none, [8]⟩,
  ⟨some 32, .call ⟨.value (.func 55), #[(.tmp 31)], #[3]⟩, none, [31]⟩,
  ⟨none, .store 38 (.tmp 6) (.tmp 30), none, [6, 30]⟩,
  ⟨none, .store 25 (.tmp 7) (.tmp 32), none, [7, 32]⟩] [0, 0, 2, 7, 15]
def S_ref16_Fresh : SC := (.seq S_ref16_Fresh_r0 (.seq S_ref16_Fresh_r1 (.seq S_ref16_Fresh_r2 (.seq S_ref16_Fresh_r3 (.seq S_ref16_Fresh_r4 .ret)))))
theorem BS_ref16_Fresh : Try.f17.body.bind stripC = some S_ref16_Fresh := by kernel_rfl
/-! ref3_IsArrow: function 131, 29 temporaries. -/
def S_ref3_IsArrow_r0 : SC := .reg [⟨some 1, .box 25 (.tmp 0), none⟩,
  ⟨some 2, .alloc 25, none⟩,
  ⟨some 3, .alloc 25, none⟩,
  ⟨some 4, .assign (.const (.bool false)), none⟩]
def S_ref3_IsArrow_r1 : SC := .reg [⟨some 5, .fieldAddr 25 (.tmp 1) 0, none⟩,
  ⟨some 6, .load 3 (.tmp 5), none⟩,
  ⟨some 7, .binOp .eql 3 (.tmp 6) (.const (.int .i64 4)) 3, none⟩,
  ⟨some 8, .move (.tmp 7), none⟩,
  ⟨some 9, .fieldAddr 25 (.tmp 1) 1, some (8, true)⟩,
  ⟨some 10, .load 9 (.tmp 9), some (8, true)⟩,
  ⟨some 11, .binOp .eql 9 (.tmp 10) (.const (.string ⟨#[45, 62]⟩)) 9, some (8, true)⟩,
  ⟨some 12, .pick (.tmp 8) (.tmp 11) (.const (.bool false)), none⟩,
  ⟨some 13, .move (.tmp 12), none⟩,
  ⟨some 14, .fieldAddr 25 (.tmp 1) 4, some (13, true)⟩,
  ⟨some 15, .load 23 (.tmp 14), some (13, true)⟩,
  ⟨some 16, .call ⟨.builtin .len, #[(.tmp 15)], #[23]⟩, some (13, true)⟩,
  ⟨some 17, .binOp .eql 3 (.tmp 16) (.const (.int .i64 2)) 3, some (13, true)⟩,
  ⟨some 18, .pick (.tmp 13) (.tmp 17) (.const (.bool false)), none⟩]
def S_ref3_IsArrow_r2 : SC := .draw [⟨some 19, .fieldAddr 25 (.tmp 1) 4, none, [1]⟩,
  ⟨some 20, .load 23 (.tmp 19), none, [19]⟩,
  ⟨some 21, .indexAddr 23 (.tmp 20) (.const (.int .i64 0)), none, [20]⟩,
  ⟨some 22, .load 25 (.tmp 21), none, [21]⟩,
  ⟨some 23, .fieldAddr 25 (.tmp 1) 4, none, [1]⟩,
  ⟨some 24, .load 23 (.tmp 23), none, [23]⟩,
  ⟨some 25, .indexAddr 23 (.tmp 24) (.const (.int .i64 1)), none, [24]⟩,
  ⟨some 26, .load 25 (.tmp 25), none, [25]⟩,
  ⟨none, .store 25 (.tmp 2) (.tmp 22), none, [2, 22]⟩,
  ⟨none, .store 25 (.tmp 3) (.tmp 26), none, [3, 26]⟩,
  ⟨some 4, .assign (.const (.bool true)), none, []⟩] [0, 1, 3, 7, 0, 16, 48, 112, 15, 511, 1023]
def S_ref3_IsArrow_r3 : SC := .reg [⟨some 27, .build 25 #[], none⟩,
  ⟨some 28, .build 25 #[], none⟩,
  ⟨none, .store 25 (.tmp 2) (.tmp 27), none⟩,
  ⟨none, .store 25 (.tmp 3) (.tmp 28), none⟩,
  ⟨some 4, .assign (.const (.bool false)), none⟩]
def S_ref3_IsArrow : SC := (.seq S_ref3_IsArrow_r0 (.seq (.seq S_ref3_IsArrow_r1 (.cond (.tmp 18) (.seq S_ref3_IsArrow_r2 .ret) .skip)) (.seq S_ref3_IsArrow_r3 .ret)))
theorem BS_ref3_IsArrow : Try.f131.body.bind stripC = some S_ref3_IsArrow := by kernel_rfl
/-! store_has: function 66, 14 temporaries. -/
def S_store_has_r0 : SC := .reg [⟨some 2, .box 38 (.tmp 0), none⟩,
  ⟨some 4, .assign (.const (.bool false)), none⟩]
def S_store_has_r1 : SC := .reg [⟨some 5, .move (.tmp 1), none⟩,
  ⟨some 6, .binOp .geq 3 (.tmp 5) (.const (.int .i64 0)) 3, none⟩,
  ⟨some 7, .move (.tmp 6), none⟩,
  ⟨some 8, .move (.tmp 1), some (7, true)⟩,
  ⟨some 9, .fieldAddr 38 (.tmp 2) 0, some (7, true)⟩,
  ⟨some 10, .load 35 (.tmp 9), some (7, true)⟩,
  ⟨some 11, .call ⟨.builtin .len, #[(.tmp 10)], #[35]⟩, some (7, true)⟩,
  ⟨some 12, .binOp .lss 3 (.tmp 8) (.tmp 11) 3, some (7, true)⟩,
  ⟨some 13, .pick (.tmp 7) (.tmp 12) (.const (.bool false)), none⟩,
  ⟨some 4, .assign (.tmp 13), none⟩]
def S_store_has : SC := (.seq S_store_has_r0 (.seq S_store_has_r1 .ret))
theorem BS_store_has : Try.f66.body.bind stripC = some S_store_has := by kernel_rfl
/-! ref16_bound: function 76, 30 temporaries. -/
def S_ref16_bound_r0 : SC := .reg [⟨some 2, .box 38 (.tmp 0), none⟩,
  ⟨some 3, .box 25 (.tmp 1), none⟩,
  ⟨some 4, .assign (.const (.bool false)), none⟩]
def S_ref16_bound_r1 : SC := .reg [⟨some 5, .fieldAddr 25 (.tmp 3) 0, none⟩,
  ⟨some 6, .load 3 (.tmp 5), none⟩,
  ⟨some 7, .binOp .eql 3 (.tmp 6) (.const (.int .i64 1)) 3, none⟩,
  ⟨some 8, .move (.tmp 7), none⟩,
  ⟨some 9, .fieldAddr 25 (.tmp 3) 2, some (8, true)⟩,
  ⟨some 10, .load 3 (.tmp 9), some (8, true)⟩,
  ⟨some 11, .binOp .geq 3 (.tmp 10) (.const (.int .i64 0)) 3, some (8, true)⟩,
  ⟨some 12, .pick (.tmp 8) (.tmp 11) (.const (.bool false)), none⟩,
  ⟨some 13, .move (.tmp 12), none⟩,
  ⟨some 14, .fieldAddr 25 (.tmp 3) 2, some (13, true)⟩,
  ⟨some 15, .load 3 (.tmp 14), some (13, true)⟩,
  ⟨some 16, .fieldAddr 38 (.tmp 2) 0, some (13, true)⟩,
  ⟨some 17, .load 35 (.tmp 16), some (13, true)⟩,
  ⟨some 18, .call ⟨.builtin .len, #[(.tmp 17)], #[35]⟩, some (13, true)⟩,
  ⟨some 19, .binOp .lss 3 (.tmp 15) (.tmp 18) 3, some (13, true)⟩,
  ⟨some 20, .pick (.tmp 13) (.tmp 19) (.const (.bool false)), none⟩,
  ⟨some 21, .move (.tmp 20), none⟩,
  ⟨some 22, .fieldAddr 38 (.tmp 2) 0, some (21, true)⟩,
  ⟨some 23, .load 35 (.tmp 22), some (21, true)⟩,
  ⟨some 24, .fieldAddr 25 (.tmp 3) 2, some (21, true)⟩,
  ⟨some 25, .load 3 (.tmp 24), some (21, true)⟩,
  ⟨some 26, .indexAddr 35 (.tmp 23) (.tmp 25), some (21, true)⟩,
  ⟨some 27, .fieldAddr 27 (.tmp 26) 0, some (21, true)⟩,
  ⟨some 28, .load 4 (.tmp 27), some (21, true)⟩,
  ⟨some 29, .pick (.tmp 21) (.tmp 28) (.const (.bool false)), none⟩,
  ⟨some 4, .assign (.tmp 29), none⟩]
def S_ref16_bound : SC := (.seq S_ref16_bound_r0 (.seq S_ref16_bound_r1 .ret))
theorem BS_ref16_bound : Try.f76.body.bind stripC = some S_ref16_bound := by kernel_rfl
/-! store_bound: function 75, 23 temporaries. -/
def S_store_bound_r0 : SC := .reg [⟨some 2, .box 38 (.tmp 0), none⟩,
  ⟨some 3, .box 25 (.tmp 1), none⟩,
  ⟨some 4, .assign (.const (.bool false)), none⟩]
def S_store_bound_r1 : SC := .reg [⟨some 5, .fieldAddr 25 (.tmp 3) 0, none⟩,
  ⟨some 6, .load 3 (.tmp 5), none⟩,
  ⟨some 7, .binOp .eql 3 (.tmp 6) (.const (.int .i64 1)) 3, none⟩,
  ⟨some 8, .move (.tmp 7), none⟩,
  ⟨some 9, .load 38 (.tmp 2), some (8, true)⟩,
  ⟨some 10, .fieldAddr 25 (.tmp 3) 2, some (8, true)⟩,
  ⟨some 11, .load 3 (.tmp 10), some (8, true)⟩,
  ⟨some 12, .call ⟨.value (.func 66), #[(.tmp 9), (.tmp 11)], #[38, 3]⟩, some (8, true)⟩,
  ⟨some 13, .pick (.tmp 8) (.tmp 12) (.const (.bool false)), none⟩,
  ⟨some 14, .move (.tmp 13), none⟩,
  ⟨some 15, .fieldAddr 38 (.tmp 2) 0, some (14, true)⟩,
  ⟨some 16, .load 35 (.tmp 15), some (14, true)⟩,
  ⟨some 17, .fieldAddr 25 (.tmp 3) 2, some (14, true)⟩,
  ⟨some 18, .load 3 (.tmp 17), some (14, true)⟩,
  ⟨some 19, .indexAddr 35 (.tmp 16) (.tmp 18), some (14, true)⟩,
  ⟨some 20, .fieldAddr 27 (.tmp 19) 0, some (14, true)⟩,
  ⟨some 21, .load 4 (.tmp 20), some (14, true)⟩,
  ⟨some 22, .pick (.tmp 14) (.tmp 21) (.const (.bool false)), none⟩,
  ⟨some 4, .assign (.tmp 22), none⟩]
def S_store_bound : SC := (.seq S_store_bound_r0 (.seq S_store_bound_r1 .ret))
theorem BS_store_bound : Try.f75.body.bind stripC = some S_store_bound := by kernel_rfl
/-! ref16_Walk: function 37, 26 temporaries. -/
def S_ref16_Walk_r0 : SC := .reg [⟨some 2, .box 38 (.tmp 0), none⟩,
  ⟨some 3, .box 25 (.tmp 1), none⟩,
  ⟨some 4, .alloc 25, none⟩]
def S_ref16_Walk_r1 : SC := .reg [⟨some 5, .assign (.const (.int .i64 0)), none⟩]
def S_ref16_Walk_r2 : SC := .reg [⟨some 6, .move (.tmp 5), none⟩,
  ⟨some 7, .fieldAddr 38 (.tmp 2) 0, none⟩,
  ⟨some 8, .load 35 (.tmp 7), none⟩,
  ⟨some 9, .call ⟨.builtin .len, #[(.tmp 8)], #[35]⟩, none⟩,
  ⟨some 10, .binOp .leq 3 (.tmp 6) (.tmp 9) 3, none⟩,
  ⟨some 11, .move (.tmp 10), none⟩,
  ⟨some 12, .load 38 (.tmp 2), some (11, true)⟩,
  ⟨some 13, .load 25 (.tmp 3), some (11, true)⟩,
  ⟨some 14, .call ⟨.value (.func 76), #[(.tmp 12), (.tmp 13)], #[38, 25]⟩, some (11, true)⟩,
  ⟨some 15, .pick (.tmp 11) (.tmp 14) (.const (.bool false)), none⟩]
def S_ref16_Walk_r3 : SC := .reg [⟨some 18, .fieldAddr 38 (.tmp 2) 0, none⟩,
  ⟨some 19, .load 35 (.tmp 18), none⟩,
  ⟨some 20, .fieldAddr 25 (.tmp 3) 2, none⟩,
  ⟨some 21, .load 3 (.tmp 20), none⟩,
  ⟨some 22, .indexAddr 35 (.tmp 19) (.tmp 21), none⟩,
  ⟨some 23, .fieldAddr 27 (.tmp 22) 1, none⟩,
  ⟨some 24, .load 25 (.tmp 23), none⟩,
  ⟨none, .store 25 (.tmp 3) (.tmp 24), none⟩]
def S_ref16_Walk_b0 : SC := .block 1 S_ref16_Walk_r3
def S_ref16_Walk_r4 : SC := .reg [⟨some 16, .move (.tmp 5), none⟩,
  ⟨some 17, .binOp .add 3 (.tmp 16) (.const (.int .i64 1)) 3, none⟩,
  ⟨some 5, .assign (.tmp 17), none⟩]
def S_ref16_Walk_l0 : SC := (.seq (.seq S_ref16_Walk_r2 (.cond (.tmp 15) .skip (.exit 0))) (.seq S_ref16_Walk_b0 S_ref16_Walk_r4))
def S_ref16_Walk_b1 : SC := .block 0 (.loop S_ref16_Walk_l0)
def S_ref16_Walk_r5 : SC := .reg [⟨some 25, .load 25 (.tmp 3), none⟩,
  ⟨none, .store 25 (.tmp 4) (.tmp 25), none⟩]
def S_ref16_Walk : SC := (.seq S_ref16_Walk_r0 (.seq (.seq S_ref16_Walk_r1 S_ref16_Walk_b1) (.seq S_ref16_Walk_r5 .ret)))
theorem BS_ref16_Walk : Try.f37.body.bind stripC = some S_ref16_Walk := by kernel_rfl
/-! store_Walk: function 36, 23 temporaries. -/
def S_store_Walk_r0 : SC := .reg [⟨some 2, .box 38 (.tmp 0), none⟩,
  ⟨some 3, .box 25 (.tmp 1), none⟩,
  ⟨some 4, .alloc 25, none⟩]
def S_store_Walk_r1 : SC := .reg [⟨some 5, .fieldAddr 38 (.tmp 2) 0, none⟩,
  ⟨some 6, .load 35 (.tmp 5), none⟩,
  ⟨some 7, .call ⟨.builtin .len, #[(.tmp 6)], #[35]⟩, none⟩,
  ⟨some 8, .move (.const (.int .i64 0)), none⟩]
def S_store_Walk_r2 : SC := .reg [⟨some 9, .binOp .lss 3 (.tmp 8) (.tmp 7) 3, none⟩]
def S_store_Walk_r3 : SC := .reg [⟨some 10, .load 38 (.tmp 2), none⟩,
  ⟨some 11, .load 25 (.tmp 3), none⟩,
  ⟨some 12, .call ⟨.value (.func 75), #[(.tmp 10), (.tmp 11)], #[38, 25]⟩, none⟩,
  ⟨some 13, .unOp .not 4 (.tmp 12), none⟩]
def S_store_Walk_r4 : SC := .reg [⟨some 14, .fieldAddr 38 (.tmp 2) 0, none⟩,
  ⟨some 15, .load 35 (.tmp 14), none⟩,
  ⟨some 16, .fieldAddr 25 (.tmp 3) 2, none⟩,
  ⟨some 17, .load 3 (.tmp 16), none⟩,
  ⟨some 18, .indexAddr 35 (.tmp 15) (.tmp 17), none⟩,
  ⟨some 19, .fieldAddr 27 (.tmp 18) 1, none⟩,
  ⟨some 20, .load 25 (.tmp 19), none⟩,
  ⟨none, .store 25 (.tmp 3) (.tmp 20), none⟩]
def S_store_Walk_b0 : SC := .block 1 (.seq (.seq S_store_Walk_r3 (.cond (.tmp 13) (.exit 0) .skip)) S_store_Walk_r4)
def S_store_Walk_r5 : SC := .reg [⟨some 21, .binOp .add 3 (.tmp 8) (.const (.int .i64 1)) 3, none⟩,
  ⟨some 8, .move (.tmp 21), none⟩]
def S_store_Walk_l0 : SC := (.seq S_store_Walk_r2 (.seq (.cond (.tmp 9) .skip (.exit 0)) (.seq S_store_Walk_b0 S_store_Walk_r5)))
def S_store_Walk_b1 : SC := .block 0 (.loop S_store_Walk_l0)
def S_store_Walk_r6 : SC := .reg [⟨some 22, .load 25 (.tmp 3), none⟩,
  ⟨none, .store 25 (.tmp 4) (.tmp 22), none⟩]
def S_store_Walk : SC := (.seq S_store_Walk_r0 (.seq (.seq S_store_Walk_r1 S_store_Walk_b1) (.seq S_store_Walk_r6 .ret)))
theorem BS_store_Walk : Try.f36.body.bind stripC = some S_store_Walk := by kernel_rfl
/-! ref3_Rigids: function 132, 18 temporaries. -/
def S_ref3_Rigids_r0 : SC := .reg [⟨some 2, .assign (.const (.slice none 0 0)), none⟩]
def S_ref3_Rigids_r1 : SC := .reg [⟨some 3, .assign (.const (.slice none 0 0)), none⟩]
def S_ref3_Rigids_r2 : SC := .reg [⟨some 4, .assign (.const (.int .i64 0)), none⟩]
def S_ref3_Rigids_r3 : SC := .reg [⟨some 5, .move (.tmp 4), none⟩,
  ⟨some 6, .move (.tmp 0), none⟩,
  ⟨some 7, .call ⟨.builtin .len, #[(.tmp 6)], #[23]⟩, none⟩,
  ⟨some 8, .binOp .lss 3 (.tmp 5) (.tmp 7) 3, none⟩]
def S_ref3_Rigids_r4 : SC := .reg [⟨some 11, .move (.tmp 3), none⟩,
  ⟨some 12, .move (.tmp 0), none⟩,
  ⟨some 13, .move (.tmp 4), none⟩,
  ⟨some 14, .indexAddr 23 (.tmp 12) (.tmp 13), none⟩,
  ⟨some 15, .load 25 (.tmp 14), none⟩,
  ⟨some 16, .call ⟨.value (.func 85), #[(.tmp 11), (.tmp 15), (.const (.int .i64 3))], #[23, 25, 3]⟩, none⟩,
  ⟨some 3, .assign (.tmp 16), none⟩]
def S_ref3_Rigids_b0 : SC := .block 1 S_ref3_Rigids_r4
def S_ref3_Rigids_r5 : SC := .reg [⟨some 9, .move (.tmp 4), none⟩,
  ⟨some 10, .binOp .add 3 (.tmp 9) (.const (.int .i64 1)) 3, none⟩,
  ⟨some 4, .assign (.tmp 10), none⟩]
def S_ref3_Rigids_l0 : SC := (.seq (.seq S_ref3_Rigids_r3 (.cond (.tmp 8) .skip (.exit 0))) (.seq S_ref3_Rigids_b0 S_ref3_Rigids_r5))
def S_ref3_Rigids_b1 : SC := .block 0 (.loop S_ref3_Rigids_l0)
def S_ref3_Rigids_r6 : SC := .reg [⟨some 17, .move (.tmp 3), none⟩,
  ⟨some 2, .assign (.tmp 17), none⟩]
def S_ref3_Rigids : SC := (.seq S_ref3_Rigids_r0 (.seq S_ref3_Rigids_r1 (.seq (.seq S_ref3_Rigids_r2 S_ref3_Rigids_b1) (.seq S_ref3_Rigids_r6 .ret))))
theorem BS_ref3_Rigids : Try.f132.body.bind stripC = some S_ref3_Rigids := by kernel_rfl
/-! ref16_Set: function 24, 42 temporaries. -/
def S_ref16_Set_r0 : SC := .reg [⟨some 3, .box 38 (.tmp 0), none⟩,
  ⟨some 5, .box 27 (.tmp 2), none⟩,
  ⟨some 6, .alloc 38, none⟩,
  ⟨some 7, .assign (.const (.bool false)), none⟩]
def S_ref16_Set_r1 : SC := .reg [⟨some 9, .move (.tmp 1), none⟩,
  ⟨some 10, .binOp .lss 3 (.tmp 9) (.const (.int .i64 0)) 3, none⟩,
  ⟨some 11, .move (.tmp 10), none⟩,
  ⟨some 12, .move (.tmp 1), some (11, false)⟩,
  ⟨some 13, .fieldAddr 38 (.tmp 3) 0, some (11, false)⟩,
  ⟨some 14, .load 35 (.tmp 13), some (11, false)⟩,
  ⟨some 15, .call ⟨.builtin .len, #[(.tmp 14)], #[35]⟩, some (11, false)⟩,
  ⟨some 16, .binOp .geq 3 (.tmp 12) (.tmp 15) 3, some (11, false)⟩,
  ⟨some 17, .pick (.tmp 11) (.const (.bool true)) (.tmp 16), none⟩]
def S_ref16_Set_r2 : SC := .reg [⟨some 18, .load 38 (.tmp 3), none⟩,
  ⟨none, .store 38 (.tmp 6) (.tmp 18), none⟩,
  ⟨some 7, .assign (.const (.bool false)), none⟩]
def S_ref16_Set_r3 : SC := .reg [⟨some 19, .fieldAddr 38 (.tmp 3) 0, none⟩,
  ⟨some 20, .load 35 (.tmp 19), none⟩,
  ⟨some 21, .call ⟨.builtin .append, #[(.const (.slice none 0 0)), (.tmp 20)], #[35, 35]⟩, none⟩,
  ⟨some 22, .build 38 #[(0, (.tmp 21))], none⟩,
  ⟨some 8, .alloc 38, none⟩,
  ⟨none, .store 38 (.tmp 8) (.tmp 22), none⟩]
def S_ref16_Set_r4 : SC := .draw [⟨some 23, .fieldAddr 38 (.tmp 3) 1, none, [3]⟩,
  ⟨some 24, .load 36 (.tmp 23), none, [23]⟩,
  ⟨some 25, .call ⟨.builtin .append, #[(.const (.slice none 0 0)), (.tmp 24)], #[36, 36]⟩, none, [24]⟩,
  ⟨some 26, .move (.tmp 1), none, [1]⟩,
  ⟨some 27, .fieldAddr 38 (.tmp 3) 0, none, [3]⟩,
  ⟨some 28, .load 35 (.tmp 27), none, [27]⟩,
  ⟨some 29, .move (.tmp 1), none, [1]⟩,
  ⟨some 30, .indexAddr 35 (.tmp 28) (.tmp 29), none, [28, 29]⟩,
  ⟨some 31, .load 27 (.tmp 30), none, [30]⟩,
  ⟨some 32, .build 102 #[(0, (.tmp 26)), (1, (.tmp 31))], none, [26, 31]⟩,
  ⟨some 33, .buildSlice 36 1 #[(0, (.tmp 32))], none, [32]⟩,
  ⟨some 34, .call ⟨.builtin .append, #[(.tmp 25), (.tmp 33)], #[36, 36]⟩, none, [25, 33]⟩,
  ⟨some 35, .fieldAddr 38 (.tmp 8) 1, none, [8]⟩,
  ⟨none, .store 36 (.tmp 35) (.tmp 34), none, [35, 34]⟩] [0, 1, 3, 0, 0, 16, 0, 112, 240, 504, 1016, 2047, 4095, 8191]
def S_ref16_Set_r5 : SC := .reg [⟨some 36, .fieldAddr 38 (.tmp 8) 0, none⟩,
  ⟨some 37, .load 35 (.tmp 36), none⟩,
  ⟨some 38, .move (.tmp 1), none⟩,
  ⟨some 39, .load 27 (.tmp 5), none⟩,
  ⟨some 40, .indexAddr 35 (.tmp 37) (.tmp 38), none⟩,
  ⟨none, .store 27 (.tmp 40) (.tmp 39), none⟩]
def S_ref16_Set_r6 : SC := .reg [⟨some 41, .load 38 (.tmp 8), none⟩,
  ⟨none, .store 38 (.tmp 6) (.tmp 41), none⟩,
  ⟨some 7, .assign (.const (.bool true)), none⟩]
def S_ref16_Set : SC := (.seq S_ref16_Set_r0 (.seq (.seq S_ref16_Set_r1 (.cond (.tmp 17) (.seq S_ref16_Set_r2 .ret) .skip)) (.seq S_ref16_Set_r3 (.seq S_ref16_Set_r4 (.seq S_ref16_Set_r5 (.seq S_ref16_Set_r6 .ret))))))
theorem BS_ref16_Set : Try.f24.body.bind stripC = some S_ref16_Set := by kernel_rfl
/-! law16_StoreResolves: function 6, 176 temporaries. -/
def S_law16_StoreResolves_r0 : SC := .reg [⟨some 6, .assign (.const (.bool false)), none⟩]
def S_law16_StoreResolves_r1 : SC := .reg [⟨some 21, .call ⟨.value (.func 10), #[], #[]⟩, none⟩,
  ⟨some 22, .unOp .not 4 (.tmp 21), none⟩]
def S_law16_StoreResolves_r2 : SC := .reg [⟨some 6, .assign (.const (.bool false)), none⟩]
def S_law16_StoreResolves_r3 : SC := .reg [⟨some 23, .move (.tmp 1), none⟩,
  ⟨some 24, .call ⟨.value (.func 11), #[(.tmp 23)], #[22]⟩, none⟩,
  ⟨some 25, .unOp .not 4 (.tmp 24), none⟩]
def S_law16_StoreResolves_r4 : SC := .reg [⟨some 6, .assign (.const (.bool true)), none⟩]
def S_law16_StoreResolves_r5 : SC := .reg [⟨some 26, .move (.tmp 1), none⟩,
  ⟨some 27, .build 34 #[(0, (.tmp 26))], none⟩,
  ⟨some 28, .box 34 (.tmp 27), none⟩,
  ⟨some 7, .assign (.tmp 28), none⟩]
def S_law16_StoreResolves_r6 : SC := .reg [⟨some 29, .move (.tmp 7), none⟩,
  ⟨some 30, .move (.tmp 0), none⟩,
  ⟨some 31, .call ⟨.value (.func 15), #[(.tmp 30)], #[3]⟩, none⟩,
  ⟨some 32, .call ⟨.value (.func 14), #[(.tmp 29), (.tmp 31)], #[32, 40]⟩, none⟩,
  ⟨some 8, .alloc 38, none⟩,
  ⟨none, .store 38 (.tmp 8) (.tmp 32), none⟩]
def S_law16_StoreResolves_r7 : SC := .reg [⟨some 33, .buildSlice 23 0 #[], none⟩,
  ⟨some 9, .assign (.tmp 33), none⟩]
def S_law16_StoreResolves_r8 : SC := .reg [⟨some 10, .assign (.const (.int .i64 0)), none⟩]
def S_law16_StoreResolves_r9 : SC := .reg [⟨some 34, .move (.tmp 10), none⟩,
  ⟨some 35, .binOp .lss 3 (.tmp 34) (.const (.int .i64 3)) 3, none⟩]
def S_law16_StoreResolves_r10 : SC := .draw [⟨some 38, .move (.tmp 9), none, [9]⟩,
  ⟨some 39, .move (.tmp 7), none, [7]⟩,
  ⟨some 40, .move (.tmp 0), none, [0]⟩,
  ⟨some 41, .call ⟨.value (.func 15), #[(.tmp 40)], #[3]⟩, none, [40]⟩,
  ⟨some 42, .fieldAddr 38 (.tmp 8) 0, none, [8]⟩,
  ⟨some 43, .load 35 (.tmp 42), none, [42]⟩,
  ⟨some 44, .call ⟨.builtin .len, #[(.tmp 43)], #[35]⟩, none, [43]⟩,
  ⟨some 45, .binOp .add 3 (.tmp 44) (.const (.int .i64 1)) 3, none, [44]⟩,
  ⟨some 46, .call ⟨.value (.func 32), #[(.tmp 45)], #[3]⟩, none, [45]⟩,
  ⟨some 47, .call ⟨.value (.func 33), #[(.const (.int .i64 0))], #[3]⟩, none, []⟩,
  ⟨some 48, .buildSlice 23 1 #[(0, (.tmp 47))], none, [47]⟩,
  ⟨some 49, .call ⟨.builtin .append, #[(.tmp 46), (.tmp 48)], #[23, 23]⟩, none, [46, 48]⟩,
  ⟨some 50, .call ⟨.value (.func 31), #[(.tmp 39), (.tmp 41), (.tmp 49), (.const (.int .i64 2))], #[32, 40, 23, 3]⟩, none, [39, 41, 49]⟩,
  ⟨some 51, .buildSlice 23 1 #[(0, (.tmp 50))], none, [50]⟩,
  ⟨some 52, .call ⟨.builtin .append, #[(.tmp 38), (.tmp 51)], #[23, 23]⟩, none, [38, 51]⟩,
  ⟨some 9, .assign (.tmp 52), none, [52]⟩] [0, 0, 0, 4, 0, 16, 48, 112, 252, 508, 1020, 2044, 4094, 8190, 16383, 32767]
def S_law16_StoreResolves_b0 : SC := .block 1 S_law16_StoreResolves_r10
def S_law16_StoreResolves_r11 : SC := .reg [⟨some 36, .move (.tmp 10), none⟩,
  ⟨some 37, .binOp .add 3 (.tmp 36) (.const (.int .i64 1)) 3, none⟩,
  ⟨some 10, .assign (.tmp 37), none⟩]
def S_law16_StoreResolves_l0 : SC := (.seq (.seq S_law16_StoreResolves_r9 (.cond (.tmp 35) .skip (.exit 0))) (.seq S_law16_StoreResolves_b0 S_law16_StoreResolves_r11))
def S_law16_StoreResolves_b1 : SC := .block 0 (.loop S_law16_StoreResolves_l0)
def S_law16_StoreResolves_r12 : SC := .reg [⟨some 11, .assign (.const (.int .i64 0)), none⟩]
def S_law16_StoreResolves_r13 : SC := .reg [⟨some 53, .move (.tmp 11), none⟩,
  ⟨some 54, .move (.tmp 9), none⟩,
  ⟨some 55, .call ⟨.builtin .len, #[(.tmp 54)], #[23]⟩, none⟩,
  ⟨some 56, .binOp .lss 3 (.tmp 53) (.tmp 55) 3, none⟩]
def S_law16_StoreResolves_r14 : SC := .draw [⟨some 60, .load 38 (.tmp 8), none, [8]⟩,
  ⟨some 61, .move (.tmp 9), none, [9]⟩,
  ⟨some 62, .move (.tmp 11), none, [11]⟩,
  ⟨some 63, .indexAddr 23 (.tmp 61) (.tmp 62), none, [61, 62]⟩,
  ⟨some 64, .load 25 (.tmp 63), none, [63]⟩,
  ⟨some 65, .call ⟨.value (.func 34), #[(.tmp 60), (.tmp 64)], #[38, 25]⟩, none, [60, 64]⟩,
  ⟨some 59, .move (.tmp 65), none, [65]⟩,
  ⟨some 66, .extract (.tmp 59) 0, none, [59]⟩,
  ⟨some 67, .extract (.tmp 59) 1, none, [59]⟩,
  ⟨some 12, .alloc 25, none, []⟩,
  ⟨none, .store 25 (.tmp 12) (.tmp 66), none, [12, 66]⟩,
  ⟨some 13, .assign (.tmp 67), none, [67]⟩] [0, 0, 0, 6, 14, 31, 63, 127, 127, 0, 767, 2047]
def S_law16_StoreResolves_r15 : SC := .draw [⟨some 69, .load 38 (.tmp 8), none, [8]⟩,
  ⟨some 70, .move (.tmp 9), none, [9]⟩,
  ⟨some 71, .move (.tmp 11), none, [11]⟩,
  ⟨some 72, .indexAddr 23 (.tmp 70) (.tmp 71), none, [70, 71]⟩,
  ⟨some 73, .load 25 (.tmp 72), none, [72]⟩,
  ⟨some 74, .call ⟨.value (.func 35), #[(.tmp 69), (.tmp 73)], #[38, 25]⟩, none, [69, 73]⟩,
  ⟨some 68, .move (.tmp 74), none, [74]⟩,
  ⟨some 75, .extract (.tmp 68) 0, none, [68]⟩,
  ⟨some 76, .extract (.tmp 68) 1, none, [68]⟩,
  ⟨some 14, .alloc 25, none, []⟩,
  ⟨none, .store 25 (.tmp 14) (.tmp 75), none, [14, 75]⟩,
  ⟨some 15, .assign (.tmp 76), none, [76]⟩] [0, 0, 0, 6, 14, 31, 63, 127, 127, 0, 767, 2047]
def S_law16_StoreResolves_r16 : SC := .draw [⟨some 77, .move (.tmp 13), none, [13]⟩,
  ⟨some 78, .move (.tmp 15), none, [15]⟩,
  ⟨some 79, .binOp .neq 4 (.tmp 77) (.tmp 78) 4, none, [77, 78]⟩,
  ⟨some 80, .move (.tmp 79), none, [79]⟩,
  ⟨some 81, .load 25 (.tmp 12), some (80, false), [12, 80]⟩,
  ⟨some 82, .load 25 (.tmp 14), some (80, false), [14, 80]⟩,
  ⟨some 83, .call ⟨.value (.func 19), #[(.tmp 81), (.tmp 82)], #[25, 25]⟩, some (80, false), [81, 82, 80]⟩,
  ⟨some 84, .unOp .not 4 (.tmp 83), some (80, false), [83, 80]⟩,
  ⟨some 85, .pick (.tmp 80) (.const (.bool true)) (.tmp 84), none, [80, 84]⟩,
  ⟨some 86, .move (.tmp 85), none, [85]⟩,
  ⟨some 87, .load 38 (.tmp 8), some (86, false), [8, 86]⟩,
  ⟨some 88, .move (.tmp 9), some (86, false), [9, 86]⟩,
  ⟨some 89, .move (.tmp 11), some (86, false), [11, 86]⟩,
  ⟨some 90, .indexAddr 23 (.tmp 88) (.tmp 89), some (86, false), [88, 89, 86]⟩,
  ⟨some 91, .load 25 (.tmp 90), some (86, false), [90, 86]⟩,
  ⟨some 92, .call ⟨.value (.func 36), #[(.tmp 87), (.tmp 91)], #[38, 25]⟩, some (86, false), [87, 91, 86]⟩,
  ⟨some 93, .load 38 (.tmp 8), some (86, false), [8, 86]⟩,
  ⟨some 94, .move (.tmp 9), some (86, false), [9, 86]⟩,
  ⟨some 95, .move (.tmp 11), some (86, false), [11, 86]⟩,
  ⟨some 96, .indexAddr 23 (.tmp 94) (.tmp 95), some (86, false), [94, 95, 86]⟩,
  ⟨some 97, .load 25 (.tmp 96), some (86, false), [96, 86]⟩,
  ⟨some 98, .call ⟨.value (.func 37), #[(.tmp 93), (.tmp 97)], #[38, 25]⟩, some (86, false), [93, 97, 86]⟩,
  ⟨some 99, .call ⟨.value (.func 19), #[(.tmp 92), (.tmp 98)], #[25, 25]⟩, some (86, false), [92, 98, 86]⟩,
  ⟨some 100, .unOp .not 4 (.tmp 99), some (86, false), [99, 86]⟩,
  ⟨some 101, .pick (.tmp 86) (.const (.bool true)) (.tmp 100), none, [86, 100]⟩,
  ⟨some 102, .move (.tmp 101), none, [101]⟩,
  ⟨some 103, .load 38 (.tmp 8), some (102, false), [8, 102]⟩,
  ⟨some 104, .move (.tmp 9), some (102, false), [9, 102]⟩,
  ⟨some 105, .move (.tmp 11), some (102, false), [11, 102]⟩,
  ⟨some 106, .indexAddr 23 (.tmp 104) (.tmp 105), some (102, false), [104, 105, 102]⟩,
  ⟨some 107, .load 25 (.tmp 106), some (102, false), [106, 102]⟩,
  ⟨some 108, .move (.tmp 2), some (102, false), [2, 102]⟩,
  ⟨some 109, .call ⟨.value (.func 22), #[(.tmp 108), (.const (.int .i64 30))], #[3, 3]⟩, some (102, false), [108, 102]⟩,
  ⟨some 110, .call ⟨.value (.func 38), #[(.tmp 103), (.tmp 107), (.tmp 109)], #[38, 25, 3]⟩, some (102, false), [103, 107, 109, 102]⟩,
  ⟨some 111, .load 38 (.tmp 8), some (102, false), [8, 102]⟩,
  ⟨some 112, .move (.tmp 9), some (102, false), [9, 102]⟩,
  ⟨some 113, .move (.tmp 11), some (102, false), [11, 102]⟩,
  ⟨some 114, .indexAddr 23 (.tmp 112) (.tmp 113), some (102, false), [112, 113, 102]⟩,
  ⟨some 115, .load 25 (.tmp 114), some (102, false), [114, 102]⟩,
  ⟨some 116, .move (.tmp 2), some (102, false), [2, 102]⟩,
  ⟨some 117, .call ⟨.value (.func 22), #[(.tmp 116), (.const (.int .i64 30))], #[3, 3]⟩, some (102, false), [116, 102]⟩,
  ⟨some 118, .call ⟨.value (.func 39), #[(.tmp 111), (.tmp 115), (.tmp 117)], #[38, 25, 3]⟩, some (102, false), [111, 115, 117, 102]⟩,
  ⟨some 119, .binOp .neq 3 (.tmp 110) (.tmp 118) 3, some (102, false), [110, 118, 102]⟩,
  ⟨some 120, .pick (.tmp 102) (.const (.bool true)) (.tmp 119), none, [102, 119]⟩,
  ⟨some 121, .move (.tmp 120), none, [120]⟩,
  ⟨some 122, .load 38 (.tmp 8), some (121, false), [8, 121]⟩,
  ⟨some 123, .move (.tmp 9), some (121, false), [9, 121]⟩,
  ⟨some 124, .move (.tmp 11), some (121, false), [11, 121]⟩,
  ⟨some 125, .indexAddr 23 (.tmp 123) (.tmp 124), some (121, false), [123, 124, 121]⟩,
  ⟨some 126, .load 25 (.tmp 125), some (121, false), [125, 121]⟩,
  ⟨some 127, .move (.tmp 2), some (121, false), [2, 121]⟩,
  ⟨some 128, .call ⟨.value (.func 22), #[(.tmp 127), (.const (.int .i64 9))], #[3, 3]⟩, some (121, false), [127, 121]⟩,
  ⟨some 129, .binOp .sub 3 (.const (.int .i64 (-1))) (.tmp 128) 3, some (121, false), [128, 121]⟩,
  ⟨some 130, .call ⟨.value (.func 38), #[(.tmp 122), (.tmp 126), (.tmp 129)], #[38, 25, 3]⟩, some (121, false), [122, 126, 129, 121]⟩,
  ⟨some 131, .binOp .neq 3 (.tmp 130) (.const (.int .i64 1)) 3, some (121, false), [130, 121]⟩,
  ⟨some 132, .pick (.tmp 121) (.const (.bool true)) (.tmp 131), none, [121, 131]⟩] [0, 0, 3, 7, 15, 15, 63, 127, 255, 511, 1023, 1023, 1023, 7167, 15359, 32767, 1023, 1023, 1023, 394239, 918527, 2097151, 4194303, 8388607, 16777215, 33554431, 67108863, 67108863, 67108863, 469762047, 1006632959, 67108863, 2214592511, 8589934591, 67108863, 67108863, 67108863, 103146323967, 240585277439, 67108863, 566935683071, 2199023255551, 4398046511103, 8796093022207, 17592186044415, 35184372088831, 35184372088831, 35184372088831, 246290604621823, 527765581332479, 35184372088831, 1161084278931455, 3412884092616703, 9007199254740991, 18014398509481983, 36028797018963967]
def S_law16_StoreResolves_r17 : SC := .reg [⟨some 6, .assign (.const (.bool false)), none⟩]
def S_law16_StoreResolves_r18 : SC := .reg [⟨some 134, .load 38 (.tmp 8), none⟩,
  ⟨some 135, .load 25 (.tmp 12), none⟩,
  ⟨some 136, .call ⟨.value (.func 34), #[(.tmp 134), (.tmp 135)], #[38, 25]⟩, none⟩,
  ⟨some 133, .move (.tmp 136), none⟩,
  ⟨some 137, .extract (.tmp 133) 0, none⟩,
  ⟨some 138, .extract (.tmp 133) 1, none⟩,
  ⟨some 16, .alloc 25, none⟩,
  ⟨none, .store 25 (.tmp 16) (.tmp 137), none⟩,
  ⟨some 17, .assign (.tmp 138), none⟩]
def S_law16_StoreResolves_r19 : SC := .reg [⟨some 139, .move (.tmp 13), none⟩,
  ⟨some 140, .move (.tmp 139), none⟩,
  ⟨some 141, .move (.tmp 17), some (140, true)⟩,
  ⟨some 142, .unOp .not 4 (.tmp 141), some (140, true)⟩,
  ⟨some 143, .move (.tmp 142), some (140, true)⟩,
  ⟨some 144, .load 25 (.tmp 16), some (143, false)⟩,
  ⟨some 145, .load 25 (.tmp 12), some (143, false)⟩,
  ⟨some 146, .call ⟨.value (.func 19), #[(.tmp 144), (.tmp 145)], #[25, 25]⟩, some (143, false)⟩,
  ⟨some 147, .unOp .not 4 (.tmp 146), some (143, false)⟩,
  ⟨some 148, .pick (.tmp 143) (.const (.bool true)) (.tmp 147), some (140, true)⟩,
  ⟨some 149, .pick (.tmp 140) (.tmp 148) (.const (.bool false)), none⟩]
def S_law16_StoreResolves_r20 : SC := .reg [⟨some 6, .assign (.const (.bool false)), none⟩]
def S_law16_StoreResolves_b2 : SC := .block 3 (.seq S_law16_StoreResolves_r14 (.seq S_law16_StoreResolves_r15 (.seq (.seq S_law16_StoreResolves_r16 (.cond (.tmp 132) (.seq S_law16_StoreResolves_r17 .ret) .skip)) (.seq S_law16_StoreResolves_r18 (.seq S_law16_StoreResolves_r19 (.cond (.tmp 149) (.seq S_law16_StoreResolves_r20 .ret) .skip))))))
def S_law16_StoreResolves_r21 : SC := .reg [⟨some 57, .move (.tmp 11), none⟩,
  ⟨some 58, .binOp .add 3 (.tmp 57) (.const (.int .i64 1)) 3, none⟩,
  ⟨some 11, .assign (.tmp 58), none⟩]
def S_law16_StoreResolves_l1 : SC := (.seq (.seq S_law16_StoreResolves_r13 (.cond (.tmp 56) .skip (.exit 2))) (.seq S_law16_StoreResolves_b2 S_law16_StoreResolves_r21))
def S_law16_StoreResolves_b3 : SC := .block 2 (.loop S_law16_StoreResolves_l1)
def S_law16_StoreResolves_r22 : SC := .draw [⟨some 150, .load 38 (.tmp 8), none, [8]⟩,
  ⟨some 151, .move (.tmp 9), none, [9]⟩,
  ⟨some 152, .call ⟨.value (.func 40), #[(.tmp 150), (.tmp 151)], #[38, 23]⟩, none, [150, 151]⟩,
  ⟨some 153, .load 38 (.tmp 8), none, [8]⟩,
  ⟨some 154, .move (.tmp 9), none, [9]⟩,
  ⟨some 155, .call ⟨.value (.func 41), #[(.tmp 153), (.tmp 154)], #[38, 23]⟩, none, [153, 154]⟩,
  ⟨some 18, .assign (.tmp 152), none, [152]⟩,
  ⟨some 19, .assign (.tmp 155), none, [155]⟩] [0, 0, 3, 0, 0, 31, 63, 127]
def S_law16_StoreResolves_r23 : SC := .reg [⟨some 156, .move (.tmp 18), none⟩,
  ⟨some 157, .call ⟨.builtin .len, #[(.tmp 156)], #[22]⟩, none⟩,
  ⟨some 158, .move (.tmp 19), none⟩,
  ⟨some 159, .call ⟨.builtin .len, #[(.tmp 158)], #[22]⟩, none⟩,
  ⟨some 160, .binOp .neq 3 (.tmp 157) (.tmp 159) 3, none⟩]
def S_law16_StoreResolves_r24 : SC := .reg [⟨some 6, .assign (.const (.bool false)), none⟩]
def S_law16_StoreResolves_r25 : SC := .reg [⟨some 20, .assign (.const (.int .i64 0)), none⟩]
def S_law16_StoreResolves_r26 : SC := .reg [⟨some 161, .move (.tmp 20), none⟩,
  ⟨some 162, .move (.tmp 18), none⟩,
  ⟨some 163, .call ⟨.builtin .len, #[(.tmp 162)], #[22]⟩, none⟩,
  ⟨some 164, .binOp .lss 3 (.tmp 161) (.tmp 163) 3, none⟩]
def S_law16_StoreResolves_r27 : SC := .draw [⟨some 167, .move (.tmp 18), none, [18]⟩,
  ⟨some 168, .move (.tmp 20), none, [20]⟩,
  ⟨some 169, .indexAddr 22 (.tmp 167) (.tmp 168), none, [167, 168]⟩,
  ⟨some 170, .load 3 (.tmp 169), none, [169]⟩,
  ⟨some 171, .move (.tmp 19), none, [19]⟩,
  ⟨some 172, .move (.tmp 20), none, [20]⟩,
  ⟨some 173, .indexAddr 22 (.tmp 171) (.tmp 172), none, [171, 172]⟩,
  ⟨some 174, .load 3 (.tmp 173), none, [173]⟩,
  ⟨some 175, .binOp .neq 3 (.tmp 170) (.tmp 174) 3, none, [170, 174]⟩] [0, 0, 3, 7, 0, 0, 48, 112, 255]
def S_law16_StoreResolves_r28 : SC := .reg [⟨some 6, .assign (.const (.bool false)), none⟩]
def S_law16_StoreResolves_b4 : SC := .block 5 (.seq S_law16_StoreResolves_r27 (.cond (.tmp 175) (.seq S_law16_StoreResolves_r28 .ret) .skip))
def S_law16_StoreResolves_r29 : SC := .reg [⟨some 165, .move (.tmp 20), none⟩,
  ⟨some 166, .binOp .add 3 (.tmp 165) (.const (.int .i64 1)) 3, none⟩,
  ⟨some 20, .assign (.tmp 166), none⟩]
def S_law16_StoreResolves_l2 : SC := (.seq (.seq S_law16_StoreResolves_r26 (.cond (.tmp 164) .skip (.exit 4))) (.seq S_law16_StoreResolves_b4 S_law16_StoreResolves_r29))
def S_law16_StoreResolves_b5 : SC := .block 4 (.loop S_law16_StoreResolves_l2)
def S_law16_StoreResolves_r30 : SC := .reg [⟨some 6, .assign (.const (.bool true)), none⟩]
def S_law16_StoreResolves : SC := (.seq S_law16_StoreResolves_r0 (.seq (.seq S_law16_StoreResolves_r1 (.cond (.tmp 22) (.seq S_law16_StoreResolves_r2 .ret) .skip)) (.seq (.seq S_law16_StoreResolves_r3 (.cond (.tmp 25) (.seq S_law16_StoreResolves_r4 .ret) .skip)) (.seq S_law16_StoreResolves_r5 (.seq S_law16_StoreResolves_r6 (.seq S_law16_StoreResolves_r7 (.seq (.seq S_law16_StoreResolves_r8 S_law16_StoreResolves_b1) (.seq (.seq S_law16_StoreResolves_r12 S_law16_StoreResolves_b3) (.seq S_law16_StoreResolves_r22 (.seq (.seq S_law16_StoreResolves_r23 (.cond (.tmp 160) (.seq S_law16_StoreResolves_r24 .ret) .skip)) (.seq (.seq S_law16_StoreResolves_r25 S_law16_StoreResolves_b5) (.seq S_law16_StoreResolves_r30 .ret))))))))))))
theorem BS_law16_StoreResolves : Try.f6.body.bind stripC = some S_law16_StoreResolves := by kernel_rfl
/-! store_Vars_1: function 78, 51 temporaries. -/
def S_store_Vars_1_r0 : SC := .reg [⟨some 5, .box 25 (.tmp 0), none⟩]
def S_store_Vars_1_r1 : SC := .reg [⟨some 8, .fieldAddr 25 (.tmp 5) 0, none⟩,
  ⟨some 9, .load 3 (.tmp 8), none⟩,
  ⟨some 10, .binOp .eql 3 (.tmp 9) (.const (.int .i64 1)) 3, none⟩]
def S_store_Vars_1_r2 : SC := .reg [⟨some 11, .load 114 (.tmp 1), none⟩,
  ⟨some 12, .fieldAddr 25 (.tmp 5) 2, none⟩,
  ⟨some 13, .load 3 (.tmp 12), none⟩,
  ⟨some 14, .lookup 114 (.tmp 11) (.tmp 13) false, none⟩]
def S_store_Vars_1_r3 : SC := .reg [⟨some 15, .load 114 (.tmp 1), none⟩,
  ⟨some 16, .fieldAddr 25 (.tmp 5) 2, none⟩,
  ⟨some 17, .load 3 (.tmp 16), none⟩,
  ⟨none, .mapUpdate 114 (.tmp 15) (.tmp 17) (.const (.bool true)), none⟩]
def S_store_Vars_1_r4 : SC := .reg [⟨some 18, .load 38 (.tmp 2), none⟩,
  ⟨some 19, .load 25 (.tmp 5), none⟩,
  ⟨some 20, .call ⟨.value (.func 75), #[(.tmp 18), (.tmp 19)], #[38, 25]⟩, none⟩,
  ⟨some 21, .unOp .not 4 (.tmp 20), none⟩]
def S_store_Vars_1_r5 : SC := .reg [⟨some 22, .load 22 (.tmp 3), none⟩,
  ⟨some 23, .fieldAddr 25 (.tmp 5) 2, none⟩,
  ⟨some 24, .load 3 (.tmp 23), none⟩,
  ⟨some 25, .buildSlice 22 1 #[(0, (.tmp 24))], none⟩,
  ⟨some 26, .call ⟨.builtin .append, #[(.tmp 22), (.tmp 25)], #[22, 22]⟩, none⟩,
  ⟨none, .store 22 (.tmp 3) (.tmp 26), none⟩]
def S_store_Vars_1_r6 : SC := .reg [⟨some 27, .fieldAddr 38 (.tmp 2) 0, none⟩,
  ⟨some 28, .load 35 (.tmp 27), none⟩,
  ⟨some 29, .fieldAddr 25 (.tmp 5) 2, none⟩,
  ⟨some 30, .load 3 (.tmp 29), none⟩,
  ⟨some 31, .indexAddr 35 (.tmp 28) (.tmp 30), none⟩,
  ⟨some 32, .fieldAddr 27 (.tmp 31) 1, none⟩,
  ⟨some 33, .load 25 (.tmp 32), none⟩,
  ⟨none, .store 25 (.tmp 5) (.tmp 33), none⟩]
def S_store_Vars_1_r7 : SC := .reg [⟨some 34, .fieldAddr 25 (.tmp 5) 0, none⟩,
  ⟨some 35, .load 3 (.tmp 34), none⟩,
  ⟨some 36, .binOp .eql 3 (.tmp 35) (.const (.int .i64 1)) 3, none⟩]
def S_store_Vars_1_r8 : SC := .reg [⟨some 37, .load 115 (.tmp 4), none⟩,
  ⟨some 38, .load 25 (.tmp 5), none⟩,
  ⟨some 39, .call ⟨.value (.tmp 37), #[(.tmp 38)], #[25]⟩, none⟩]
def S_store_Vars_1_r9 : SC := .reg [⟨some 40, .fieldAddr 25 (.tmp 5) 4, none⟩,
  ⟨some 41, .load 23 (.tmp 40), none⟩,
  ⟨some 42, .call ⟨.builtin .len, #[(.tmp 41)], #[23]⟩, none⟩,
  ⟨some 43, .move (.const (.int .i64 0)), none⟩]
def S_store_Vars_1_r10 : SC := .reg [⟨some 44, .binOp .lss 3 (.tmp 43) (.tmp 42) 3, none⟩]
def S_store_Vars_1_r11 : SC := .reg [⟨some 45, .indexAddr 23 (.tmp 41) (.tmp 43), none⟩,
  ⟨some 46, .load 25 (.tmp 45), none⟩,
  ⟨some 7, .alloc 25, none⟩,
  ⟨none, .store 25 (.tmp 7) (.tmp 46), none⟩]
def S_store_Vars_1_r12 : SC := .reg [⟨some 47, .load 115 (.tmp 4), none⟩,
  ⟨some 48, .load 25 (.tmp 7), none⟩,
  ⟨some 49, .call ⟨.value (.tmp 47), #[(.tmp 48)], #[25]⟩, none⟩]
def S_store_Vars_1_b0 : SC := .block 1 (.seq S_store_Vars_1_r11 S_store_Vars_1_r12)
def S_store_Vars_1_r13 : SC := .reg [⟨some 50, .binOp .add 3 (.tmp 43) (.const (.int .i64 1)) 3, none⟩,
  ⟨some 43, .move (.tmp 50), none⟩]
def S_store_Vars_1_l0 : SC := (.seq S_store_Vars_1_r10 (.seq (.cond (.tmp 44) .skip (.exit 0)) (.seq S_store_Vars_1_b0 S_store_Vars_1_r13)))
def S_store_Vars_1_b1 : SC := .block 0 (.loop S_store_Vars_1_l0)
def S_store_Vars_1 : SC := (.seq S_store_Vars_1_r0 (.seq (.seq S_store_Vars_1_r1 (.cond (.tmp 10) (.seq (.seq S_store_Vars_1_r2 (.cond (.tmp 14) .ret .skip)) (.seq S_store_Vars_1_r3 (.seq (.seq S_store_Vars_1_r4 (.cond (.tmp 21) (.seq S_store_Vars_1_r5 .ret) .skip)) (.seq S_store_Vars_1_r6 (.seq S_store_Vars_1_r7 (.cond (.tmp 36) (.seq S_store_Vars_1_r8 .ret) .skip)))))) .skip)) (.seq S_store_Vars_1_r9 S_store_Vars_1_b1)))
theorem BS_store_Vars_1 : Try.f78.body.bind stripC = some S_store_Vars_1 := by kernel_rfl
/-! store_Vars: function 40, 23 temporaries. -/
def S_store_Vars_r0 : SC := .reg [⟨some 2, .box 38 (.tmp 0), none⟩,
  ⟨some 4, .assign (.const (.slice none 0 0)), none⟩]
def S_store_Vars_r1 : SC := .reg [⟨some 5, .alloc 22, none⟩]
def S_store_Vars_r2 : SC := .reg [⟨some 10, .makeMap 114 none, none⟩,
  ⟨some 6, .alloc 114, none⟩,
  ⟨none, .store 114 (.tmp 6) (.tmp 10), none⟩]
def S_store_Vars_r3 : SC := .reg [⟨some 7, .alloc 115, none⟩]
def S_store_Vars_r4 : SC := .reg [⟨some 11, .makeFunc (.func 78) #[] #[(.tmp 6), (.tmp 2), (.tmp 5), (.tmp 7)], none⟩,
  ⟨none, .store 115 (.tmp 7) (.tmp 11), none⟩]
def S_store_Vars_r5 : SC := .reg [⟨some 12, .move (.tmp 1), none⟩,
  ⟨some 13, .call ⟨.builtin .len, #[(.tmp 12)], #[23]⟩, none⟩,
  ⟨some 14, .move (.const (.int .i64 0)), none⟩]
def S_store_Vars_r6 : SC := .reg [⟨some 15, .binOp .lss 3 (.tmp 14) (.tmp 13) 3, none⟩]
def S_store_Vars_r7 : SC := .reg [⟨some 16, .indexAddr 23 (.tmp 12) (.tmp 14), none⟩,
  ⟨some 17, .load 25 (.tmp 16), none⟩,
  ⟨some 9, .alloc 25, none⟩,
  ⟨none, .store 25 (.tmp 9) (.tmp 17), none⟩]
def S_store_Vars_r8 : SC := .reg [⟨some 18, .load 115 (.tmp 7), none⟩,
  ⟨some 19, .load 25 (.tmp 9), none⟩,
  ⟨some 20, .call ⟨.value (.tmp 18), #[(.tmp 19)], #[25]⟩, none⟩]
def S_store_Vars_b0 : SC := .block 1 (.seq S_store_Vars_r7 S_store_Vars_r8)
def S_store_Vars_r9 : SC := .reg [⟨some 21, .binOp .add 3 (.tmp 14) (.const (.int .i64 1)) 3, none⟩,
  ⟨some 14, .move (.tmp 21), none⟩]
def S_store_Vars_l0 : SC := (.seq S_store_Vars_r6 (.seq (.cond (.tmp 15) .skip (.exit 0)) (.seq S_store_Vars_b0 S_store_Vars_r9)))
def S_store_Vars_b1 : SC := .block 0 (.loop S_store_Vars_l0)
def S_store_Vars_r10 : SC := .reg [⟨some 22, .load 22 (.tmp 5), none⟩,
  ⟨some 4, .assign (.tmp 22), none⟩]
def S_store_Vars : SC := (.seq S_store_Vars_r0 (.seq S_store_Vars_r1 (.seq S_store_Vars_r2 (.seq S_store_Vars_r3 (.seq S_store_Vars_r4 (.seq (.seq S_store_Vars_r5 S_store_Vars_b1) (.seq S_store_Vars_r10 .ret)))))))
theorem BS_store_Vars : Try.f40.body.bind stripC = some S_store_Vars := by kernel_rfl
end Go.Proofs.Ythfcfmkdeheicaa
