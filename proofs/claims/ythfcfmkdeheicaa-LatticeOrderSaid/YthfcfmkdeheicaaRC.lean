import Derived.Test.YthfcfmkdeheicaaRT
import Derived.Test.YthfcfmkdeheicaaJH
import Derived.Test.YthfcfmkdeheicaaRows
set_option linter.all false
namespace Go.Proofs.Ythfcfmkdeheicaa
open Go.J
/-! make_Mod: function 22, 16 temporaries. -/
def S_make_Mod_r0 : SC := .reg [⟨some 4, .assign (.const (.int .i64 0)), none⟩]
def S_make_Mod_r1 : SC := .reg [⟨some 5, .move (.tmp 1), none⟩,
  ⟨some 6, .binOp .lss 3 (.tmp 5) (.const (.int .i64 1)) 3, none⟩]
def S_make_Mod_r2 : SC := .reg [⟨some 4, .assign (.const (.int .i64 0)), none⟩]
def S_make_Mod_r3 : SC := .reg [⟨some 7, .move (.tmp 0), none⟩,
  ⟨some 8, .move (.tmp 1), none⟩,
  ⟨some 9, .binOp .rem 3 (.tmp 7) (.tmp 8) 3, none⟩,
  ⟨some 0, .assign (.tmp 9), none⟩]
def S_make_Mod_r4 : SC := .reg [⟨some 10, .move (.tmp 0), none⟩,
  ⟨some 11, .binOp .lss 3 (.tmp 10) (.const (.int .i64 0)) 3, none⟩]
def S_make_Mod_r5 : SC := .reg [⟨some 12, .move (.tmp 0), none⟩,
  ⟨some 13, .move (.tmp 1), none⟩,
  ⟨some 14, .binOp .add 3 (.tmp 12) (.tmp 13) 3, none⟩,
  ⟨some 0, .assign (.tmp 14), none⟩]
def S_make_Mod_r6 : SC := .reg [⟨some 15, .move (.tmp 0), none⟩,
  ⟨some 4, .assign (.tmp 15), none⟩]
def S_make_Mod : SC := (.seq S_make_Mod_r0 (.seq (.seq S_make_Mod_r1 (.cond (.tmp 6) (.seq S_make_Mod_r2 .ret) .skip)) (.seq S_make_Mod_r3 (.seq (.seq S_make_Mod_r4 (.cond (.tmp 11) S_make_Mod_r5 .skip)) (.seq S_make_Mod_r6 .ret)))))
theorem BS_make_Mod : Try.f22.body.bind stripC = some S_make_Mod := by kernel_rfl
/-! make_Few: function 11, 6 temporaries. -/
def S_make_Few_r0 : SC := .reg [⟨some 2, .assign (.const (.bool false)), none⟩]
def S_make_Few_r1 : SC := .reg [⟨some 3, .move (.tmp 0), none⟩,
  ⟨some 4, .call ⟨.builtin .len, #[(.tmp 3)], #[22]⟩, none⟩,
  ⟨some 5, .binOp .leq 3 (.tmp 4) (.const (.int .i64 60)) 3, none⟩,
  ⟨some 2, .assign (.tmp 5), none⟩]
def S_make_Few : SC := (.seq S_make_Few_r0 (.seq S_make_Few_r1 .ret))
theorem BS_make_Few : Try.f11.body.bind stripC = some S_make_Few := by kernel_rfl
/-! ref3_Con: function 67, 9 temporaries. -/
def S_ref3_Con_r0 : SC := .reg [⟨some 4, .alloc 25, none⟩]
def S_ref3_Con_r1 : SC := .reg [⟨some 5, .move (.tmp 0), none⟩,
  ⟨some 6, .move (.tmp 1), none⟩,
  ⟨some 7, .call ⟨.builtin .append, #[(.const (.slice none 0 0)), (.tmp 6)], #[23, 23]⟩, none⟩,
  ⟨some 8, .build 25 #[(0, (.const (.int .i64 4))), (1, (.tmp 5)), (4, (.tmp 7))], none⟩,
  ⟨none, .store 25 (.tmp 4) (.tmp 8), none⟩]
def S_ref3_Con : SC := (.seq S_ref3_Con_r0 (.seq S_ref3_Con_r1 .ret))
theorem BS_ref3_Con : Try.f67.body.bind stripC = some S_ref3_Con := by kernel_rfl
/-! ref3_Int: function 26, 2 temporaries. -/
def S_ref3_Int_r0 : SC := .reg [⟨some 0, .alloc 25, none⟩]
def S_ref3_Int_r1 : SC := .reg [⟨some 1, .call ⟨.value (.func 67), #[(.const (.string ⟨#[73, 110, 116]⟩)), (.const (.slice none 0 0))], #[9, 23]⟩, none⟩,
  ⟨none, .store 25 (.tmp 0) (.tmp 1), none⟩]
def S_ref3_Int : SC := (.seq S_ref3_Int_r0 (.seq S_ref3_Int_r1 .ret))
theorem BS_ref3_Int : Try.f26.body.bind stripC = some S_ref3_Int := by kernel_rfl
/-! ref3_Arrow: function 72, 9 temporaries. -/
def S_ref3_Arrow_r0 : SC := .reg [⟨some 2, .box 25 (.tmp 0), none⟩,
  ⟨some 3, .box 25 (.tmp 1), none⟩,
  ⟨some 4, .alloc 25, none⟩]
def S_ref3_Arrow_r1 : SC := .reg [⟨some 5, .load 25 (.tmp 2), none⟩,
  ⟨some 6, .load 25 (.tmp 3), none⟩,
  ⟨some 7, .buildSlice 23 2 #[(0, (.tmp 5)), (1, (.tmp 6))], none⟩,
  ⟨some 8, .call ⟨.value (.func 67), #[(.const (.string ⟨#[45, 62]⟩)), (.tmp 7)], #[9, 23]⟩, none⟩,
  ⟨none, .store 25 (.tmp 4) (.tmp 8), none⟩]
def S_ref3_Arrow : SC := (.seq S_ref3_Arrow_r0 (.seq S_ref3_Arrow_r1 .ret))
theorem BS_ref3_Arrow : Try.f72.body.bind stripC = some S_ref3_Arrow := by kernel_rfl
/-! ref3_Var: function 55, 5 temporaries. -/
def S_ref3_Var_r0 : SC := .reg [⟨some 2, .alloc 25, none⟩]
def S_ref3_Var_r1 : SC := .reg [⟨some 3, .move (.tmp 0), none⟩,
  ⟨some 4, .build 25 #[(0, (.const (.int .i64 1))), (2, (.tmp 3))], none⟩,
  ⟨none, .store 25 (.tmp 2) (.tmp 4), none⟩]
def S_ref3_Var : SC := (.seq S_ref3_Var_r0 (.seq S_ref3_Var_r1 .ret))
theorem BS_ref3_Var : Try.f55.body.bind stripC = some S_ref3_Var := by kernel_rfl
/-! ref3_Rigid: function 59, 8 temporaries. -/
def S_ref3_Rigid_r0 : SC := .reg [⟨some 4, .alloc 25, none⟩]
def S_ref3_Rigid_r1 : SC := .reg [⟨some 5, .move (.tmp 0), none⟩,
  ⟨some 6, .move (.tmp 1), none⟩,
  ⟨some 7, .build 25 #[(0, (.const (.int .i64 3))), (3, (.tmp 5)), (2, (.tmp 6))], none⟩,
  ⟨none, .store 25 (.tmp 4) (.tmp 7), none⟩]
def S_ref3_Rigid : SC := (.seq S_ref3_Rigid_r0 (.seq S_ref3_Rigid_r1 .ret))
theorem BS_ref3_Rigid : Try.f59.body.bind stripC = some S_ref3_Rigid := by kernel_rfl
/-! make_Tape_Next: function 58, 35 temporaries. -/
def S_make_Tape_Next_r0 : SC := .reg [⟨some 4, .assign (.const (.int .i64 0)), none⟩]
def S_make_Tape_Next_r1 : SC := .draw [⟨some 5, .move (.tmp 0), none, [0]⟩,
  ⟨some 6, .nilCheck (.tmp 5), none, [5]⟩,
  ⟨some 7, .fieldAddr 34 (.tmp 6) 1, none, [6]⟩,
  ⟨some 8, .load 3 (.tmp 7), none, [7]⟩,
  ⟨some 9, .move (.tmp 0), none, [0]⟩,
  ⟨some 10, .nilCheck (.tmp 9), none, [9]⟩,
  ⟨some 11, .fieldAddr 34 (.tmp 10) 0, none, [10]⟩,
  ⟨some 12, .load 22 (.tmp 11), none, [11]⟩,
  ⟨some 13, .call ⟨.builtin .len, #[(.tmp 12)], #[22]⟩, none, [12]⟩,
  ⟨some 14, .binOp .geq 3 (.tmp 8) (.tmp 13) 3, none, [8, 13]⟩] [0, 1, 3, 7, 0, 16, 48, 112, 240, 511]
def S_make_Tape_Next_r2 : SC := .reg [⟨some 4, .assign (.const (.int .i64 0)), none⟩]
def S_make_Tape_Next_r3 : SC := .reg [⟨some 15, .move (.tmp 0), none⟩,
  ⟨some 16, .nilCheck (.tmp 15), none⟩,
  ⟨some 17, .fieldAddr 34 (.tmp 16) 1, none⟩,
  ⟨some 18, .load 3 (.tmp 17), none⟩,
  ⟨some 19, .binOp .add 3 (.tmp 18) (.const (.int .i64 1)) 3, none⟩,
  ⟨some 20, .nilCheck (.tmp 15), none⟩,
  ⟨some 21, .fieldAddr 34 (.tmp 20) 1, none⟩,
  ⟨none, .store 3 (.tmp 21) (.tmp 19), none⟩]
def S_make_Tape_Next_r4 : SC := .draw [⟨some 22, .move (.tmp 0), none, [0]⟩,
  ⟨some 23, .nilCheck (.tmp 22), none, [22]⟩,
  ⟨some 24, .fieldAddr 34 (.tmp 23) 0, none, [23]⟩,
  ⟨some 25, .load 22 (.tmp 24), none, [24]⟩,
  ⟨some 26, .move (.tmp 0), none, [0]⟩,
  ⟨some 27, .nilCheck (.tmp 26), none, [26]⟩,
  ⟨some 28, .fieldAddr 34 (.tmp 27) 1, none, [27]⟩,
  ⟨some 29, .load 3 (.tmp 28), none, [28]⟩,
  ⟨some 30, .binOp .sub 3 (.tmp 29) (.const (.int .i64 1)) 3, none, [29]⟩,
  ⟨some 31, .indexAddr 22 (.tmp 25) (.tmp 30), none, [25, 30]⟩,
  ⟨some 32, .load 3 (.tmp 31), none, [31]⟩,
  ⟨some 33, .move (.tmp 1), none, [1]⟩,
  ⟨some 34, .call ⟨.value (.func 22), #[(.tmp 32), (.tmp 33)], #[3, 3]⟩, none, [32, 33]⟩,
  ⟨some 4, .assign (.tmp 34), none, [34]⟩] [0, 1, 3, 7, 0, 16, 48, 112, 240, 511, 1023, 0, 4095, 8191]
def S_make_Tape_Next : SC := (.seq S_make_Tape_Next_r0 (.seq (.seq S_make_Tape_Next_r1 (.cond (.tmp 14) (.seq S_make_Tape_Next_r2 .ret) .skip)) (.seq S_make_Tape_Next_r3 (.seq S_make_Tape_Next_r4 .ret))))
theorem BS_make_Tape_Next : Try.f58.body.bind stripC = some S_make_Tape_Next := by kernel_rfl
/-! make_Vars: function 32, 16 temporaries. -/
def S_make_Vars_r0 : SC := .reg [⟨some 2, .assign (.const (.slice none 0 0)), none⟩]
def S_make_Vars_r1 : SC := .reg [⟨some 3, .assign (.const (.slice none 0 0)), none⟩]
def S_make_Vars_r2 : SC := .reg [⟨some 4, .assign (.const (.int .i64 0)), none⟩]
def S_make_Vars_r3 : SC := .reg [⟨some 5, .move (.tmp 4), none⟩,
  ⟨some 6, .move (.tmp 0), none⟩,
  ⟨some 7, .binOp .lss 3 (.tmp 5) (.tmp 6) 3, none⟩]
def S_make_Vars_r4 : SC := .reg [⟨some 10, .move (.tmp 3), none⟩,
  ⟨some 11, .move (.tmp 4), none⟩,
  ⟨some 12, .call ⟨.value (.func 55), #[(.tmp 11)], #[3]⟩, none⟩,
  ⟨some 13, .buildSlice 23 1 #[(0, (.tmp 12))], none⟩,
  ⟨some 14, .call ⟨.builtin .append, #[(.tmp 10), (.tmp 13)], #[23, 23]⟩, none⟩,
  ⟨some 3, .assign (.tmp 14), none⟩]
def S_make_Vars_b0 : SC := .block 1 S_make_Vars_r4
def S_make_Vars_r5 : SC := .reg [⟨some 8, .move (.tmp 4), none⟩,
  ⟨some 9, .binOp .add 3 (.tmp 8) (.const (.int .i64 1)) 3, none⟩,
  ⟨some 4, .assign (.tmp 9), none⟩]
def S_make_Vars_l0 : SC := (.seq (.seq S_make_Vars_r3 (.cond (.tmp 7) .skip (.exit 0))) (.seq S_make_Vars_b0 S_make_Vars_r5))
def S_make_Vars_b1 : SC := .block 0 (.loop S_make_Vars_l0)
def S_make_Vars_r6 : SC := .reg [⟨some 15, .move (.tmp 3), none⟩,
  ⟨some 2, .assign (.tmp 15), none⟩]
def S_make_Vars : SC := (.seq S_make_Vars_r0 (.seq S_make_Vars_r1 (.seq (.seq S_make_Vars_r2 S_make_Vars_b1) (.seq S_make_Vars_r6 .ret))))
theorem BS_make_Vars : Try.f32.body.bind stripC = some S_make_Vars := by kernel_rfl
/-! make_Datas: function 15, 45 temporaries. -/
def S_make_Datas_r0 : SC := .reg [⟨some 2, .assign (.const (.slice none 0 0)), none⟩]
def S_make_Datas_r1 : SC := .reg [⟨some 6, .call ⟨.value (.func 61), #[], #[]⟩, none⟩,
  ⟨some 3, .assign (.tmp 6), none⟩]
def S_make_Datas_r2 : SC := .reg [⟨some 4, .assign (.const (.slice none 0 0)), none⟩]
def S_make_Datas_r3 : SC := .reg [⟨some 7, .move (.tmp 0), none⟩,
  ⟨some 8, .binOp .and 3 (.tmp 7) (.const (.int .i64 2)) 3, none⟩,
  ⟨some 9, .binOp .neq 3 (.tmp 8) (.const (.int .i64 0)) 3, none⟩,
  ⟨some 10, .move (.tmp 9), none⟩,
  ⟨some 11, .move (.tmp 0), some (10, false)⟩,
  ⟨some 12, .binOp .and 3 (.tmp 11) (.const (.int .i64 64)) 3, some (10, false)⟩,
  ⟨some 13, .binOp .neq 3 (.tmp 12) (.const (.int .i64 0)) 3, some (10, false)⟩,
  ⟨some 14, .pick (.tmp 10) (.const (.bool true)) (.tmp 13), none⟩]
def S_make_Datas_r4 : SC := .reg [⟨some 15, .move (.tmp 4), none⟩,
  ⟨some 16, .move (.tmp 3), none⟩,
  ⟨some 17, .indexAddr 40 (.tmp 16) (.const (.int .i64 1)), none⟩,
  ⟨some 18, .load 98 (.tmp 17), none⟩,
  ⟨some 19, .buildSlice 40 1 #[(0, (.tmp 18))], none⟩,
  ⟨some 20, .call ⟨.builtin .append, #[(.tmp 15), (.tmp 19)], #[40, 40]⟩, none⟩,
  ⟨some 4, .assign (.tmp 20), none⟩]
def S_make_Datas_r5 : SC := .reg [⟨some 5, .assign (.const (.int .i64 0)), none⟩]
def S_make_Datas_r6 : SC := .reg [⟨some 21, .move (.tmp 5), none⟩,
  ⟨some 22, .move (.tmp 3), none⟩,
  ⟨some 23, .call ⟨.builtin .len, #[(.tmp 22)], #[40]⟩, none⟩,
  ⟨some 24, .binOp .lss 3 (.tmp 21) (.tmp 23) 3, none⟩]
def S_make_Datas_r7 : SC := .reg [⟨some 27, .move (.tmp 5), none⟩,
  ⟨some 28, .binOp .neq 3 (.tmp 27) (.const (.int .i64 1)) 3, none⟩,
  ⟨some 29, .move (.tmp 28), none⟩,
  ⟨some 30, .move (.tmp 0), some (29, true)⟩,
  ⟨some 31, .move (.tmp 5), some (29, true)⟩,
  ⟨some 32, .convert 3 99 (.tmp 31), some (29, true)⟩,
  ⟨some 33, .binOp .shr 3 (.tmp 30) (.tmp 32) 99, some (29, true)⟩,
  ⟨some 34, .binOp .and 3 (.tmp 33) (.const (.int .i64 1)) 3, some (29, true)⟩,
  ⟨some 35, .binOp .eql 3 (.tmp 34) (.const (.int .i64 1)) 3, some (29, true)⟩,
  ⟨some 36, .pick (.tmp 29) (.tmp 35) (.const (.bool false)), none⟩]
def S_make_Datas_r8 : SC := .reg [⟨some 37, .move (.tmp 4), none⟩,
  ⟨some 38, .move (.tmp 3), none⟩,
  ⟨some 39, .move (.tmp 5), none⟩,
  ⟨some 40, .indexAddr 40 (.tmp 38) (.tmp 39), none⟩,
  ⟨some 41, .load 98 (.tmp 40), none⟩,
  ⟨some 42, .buildSlice 40 1 #[(0, (.tmp 41))], none⟩,
  ⟨some 43, .call ⟨.builtin .append, #[(.tmp 37), (.tmp 42)], #[40, 40]⟩, none⟩,
  ⟨some 4, .assign (.tmp 43), none⟩]
def S_make_Datas_b0 : SC := .block 1 (.seq S_make_Datas_r7 (.cond (.tmp 36) S_make_Datas_r8 .skip))
def S_make_Datas_r9 : SC := .reg [⟨some 25, .move (.tmp 5), none⟩,
  ⟨some 26, .binOp .add 3 (.tmp 25) (.const (.int .i64 1)) 3, none⟩,
  ⟨some 5, .assign (.tmp 26), none⟩]
def S_make_Datas_l0 : SC := (.seq (.seq S_make_Datas_r6 (.cond (.tmp 24) .skip (.exit 0))) (.seq S_make_Datas_b0 S_make_Datas_r9))
def S_make_Datas_b1 : SC := .block 0 (.loop S_make_Datas_l0)
def S_make_Datas_r10 : SC := .reg [⟨some 44, .move (.tmp 4), none⟩,
  ⟨some 2, .assign (.tmp 44), none⟩]
def S_make_Datas : SC := (.seq S_make_Datas_r0 (.seq S_make_Datas_r1 (.seq S_make_Datas_r2 (.seq (.seq S_make_Datas_r3 (.cond (.tmp 14) S_make_Datas_r4 .skip)) (.seq (.seq S_make_Datas_r5 S_make_Datas_b1) (.seq S_make_Datas_r10 .ret))))))
theorem BS_make_Datas : Try.f15.body.bind stripC = some S_make_Datas := by kernel_rfl
/-! make_Tape_Type: function 31, 95 temporaries. -/
def S_make_Tape_Type_r0 : SC := .reg [⟨some 8, .alloc 25, none⟩]
def S_make_Tape_Type_r1 : SC := .reg [⟨some 14, .move (.tmp 0), none⟩,
  ⟨some 15, .call ⟨.value (.func 58), #[(.tmp 14), (.const (.int .i64 7))], #[32, 3]⟩, none⟩,
  ⟨some 9, .assign (.tmp 15), none⟩]
def S_make_Tape_Type_r2 : SC := .reg [⟨some 17, .move (.tmp 9), none⟩,
  ⟨some 18, .binOp .lss 3 (.tmp 17) (.const (.int .i64 3)) 3, none⟩,
  ⟨some 19, .move (.tmp 18), none⟩,
  ⟨some 20, .move (.tmp 2), some (19, true)⟩,
  ⟨some 21, .call ⟨.builtin .len, #[(.tmp 20)], #[23]⟩, some (19, true)⟩,
  ⟨some 22, .binOp .gtr 3 (.tmp 21) (.const (.int .i64 0)) 3, some (19, true)⟩,
  ⟨some 23, .pick (.tmp 19) (.tmp 22) (.const (.bool false)), none⟩,
  ⟨some 16, .assign (.tmp 23), none⟩]
def S_make_Tape_Type_r3 : SC := .reg [⟨some 24, .move (.tmp 2), none⟩,
  ⟨some 25, .move (.tmp 0), none⟩,
  ⟨some 26, .move (.tmp 2), none⟩,
  ⟨some 27, .call ⟨.builtin .len, #[(.tmp 26)], #[23]⟩, none⟩,
  ⟨some 28, .call ⟨.value (.func 58), #[(.tmp 25), (.tmp 27)], #[32, 3]⟩, none⟩,
  ⟨some 29, .indexAddr 23 (.tmp 24) (.tmp 28), none⟩,
  ⟨some 30, .load 25 (.tmp 29), none⟩,
  ⟨none, .store 25 (.tmp 8) (.tmp 30), none⟩]
def S_make_Tape_Type_r4 : SC := .reg [⟨some 32, .move (.tmp 9), none⟩,
  ⟨some 33, .binOp .lss 3 (.tmp 32) (.const (.int .i64 4)) 3, none⟩,
  ⟨some 34, .move (.tmp 33), none⟩,
  ⟨some 35, .move (.tmp 3), some (34, false)⟩,
  ⟨some 36, .binOp .lss 3 (.tmp 35) (.const (.int .i64 1)) 3, some (34, false)⟩,
  ⟨some 37, .pick (.tmp 34) (.const (.bool true)) (.tmp 36), none⟩,
  ⟨some 31, .assign (.tmp 37), none⟩]
def S_make_Tape_Type_r5 : SC := .reg [⟨some 38, .call ⟨.value (.func 26), #[], #[]⟩, none⟩,
  ⟨none, .store 25 (.tmp 8) (.tmp 38), none⟩]
def S_make_Tape_Type_r6 : SC := .reg [⟨some 40, .move (.tmp 9), none⟩,
  ⟨some 41, .binOp .eql 3 (.tmp 40) (.const (.int .i64 4)) 3, none⟩,
  ⟨some 42, .move (.tmp 41), none⟩,
  ⟨some 43, .move (.tmp 1), some (42, true)⟩,
  ⟨some 44, .call ⟨.builtin .len, #[(.tmp 43)], #[40]⟩, some (42, true)⟩,
  ⟨some 45, .binOp .gtr 3 (.tmp 44) (.const (.int .i64 0)) 3, some (42, true)⟩,
  ⟨some 46, .pick (.tmp 42) (.tmp 45) (.const (.bool false)), none⟩,
  ⟨some 39, .assign (.tmp 46), none⟩]
def S_make_Tape_Type_r7 : SC := .reg [⟨some 47, .move (.tmp 9), none⟩,
  ⟨some 48, .binOp .eql 3 (.tmp 47) (.const (.int .i64 5)) 3, none⟩,
  ⟨some 49, .move (.tmp 48), none⟩,
  ⟨some 50, .move (.tmp 1), some (49, true)⟩,
  ⟨some 51, .call ⟨.builtin .len, #[(.tmp 50)], #[40]⟩, some (49, true)⟩,
  ⟨some 52, .binOp .gtr 3 (.tmp 51) (.const (.int .i64 0)) 3, some (49, true)⟩,
  ⟨some 53, .pick (.tmp 49) (.tmp 52) (.const (.bool false)), none⟩,
  ⟨some 39, .assign (.tmp 53), none⟩]
def S_make_Tape_Type_r8 : SC := .reg [⟨some 54, .move (.tmp 1), none⟩,
  ⟨some 55, .move (.tmp 0), none⟩,
  ⟨some 56, .move (.tmp 1), none⟩,
  ⟨some 57, .call ⟨.builtin .len, #[(.tmp 56)], #[40]⟩, none⟩,
  ⟨some 58, .call ⟨.value (.func 58), #[(.tmp 55), (.tmp 57)], #[32, 3]⟩, none⟩,
  ⟨some 59, .indexAddr 40 (.tmp 54) (.tmp 58), none⟩,
  ⟨some 60, .load 98 (.tmp 59), none⟩,
  ⟨some 10, .alloc 98, none⟩,
  ⟨none, .store 98 (.tmp 10) (.tmp 60), none⟩]
def S_make_Tape_Type_r9 : SC := .reg [⟨some 11, .assign (.const (.slice none 0 0)), none⟩]
def S_make_Tape_Type_r10 : SC := .reg [⟨some 12, .assign (.const (.int .i64 0)), none⟩]
def S_make_Tape_Type_r11 : SC := .reg [⟨some 61, .move (.tmp 12), none⟩,
  ⟨some 62, .fieldAddr 98 (.tmp 10) 2, none⟩,
  ⟨some 63, .load 95 (.tmp 62), none⟩,
  ⟨some 64, .call ⟨.builtin .len, #[(.tmp 63)], #[95]⟩, none⟩,
  ⟨some 65, .binOp .lss 3 (.tmp 61) (.tmp 64) 3, none⟩]
def S_make_Tape_Type_r12 : SC := .reg [⟨some 68, .move (.tmp 11), none⟩,
  ⟨some 69, .move (.tmp 0), none⟩,
  ⟨some 70, .move (.tmp 1), none⟩,
  ⟨some 71, .move (.tmp 2), none⟩,
  ⟨some 72, .move (.tmp 3), none⟩,
  ⟨some 73, .binOp .sub 3 (.tmp 72) (.const (.int .i64 1)) 3, none⟩,
  ⟨some 74, .call ⟨.value (.func 31), #[(.tmp 69), (.tmp 70), (.tmp 71), (.tmp 73)], #[32, 40, 23, 3]⟩, none⟩,
  ⟨some 75, .buildSlice 23 1 #[(0, (.tmp 74))], none⟩,
  ⟨some 76, .call ⟨.builtin .append, #[(.tmp 68), (.tmp 75)], #[23, 23]⟩, none⟩,
  ⟨some 11, .assign (.tmp 76), none⟩]
def S_make_Tape_Type_b0 : SC := .block 2 S_make_Tape_Type_r12
def S_make_Tape_Type_r13 : SC := .reg [⟨some 66, .move (.tmp 12), none⟩,
  ⟨some 67, .binOp .add 3 (.tmp 66) (.const (.int .i64 1)) 3, none⟩,
  ⟨some 12, .assign (.tmp 67), none⟩]
def S_make_Tape_Type_l0 : SC := (.seq (.seq S_make_Tape_Type_r11 (.cond (.tmp 65) .skip (.exit 1))) (.seq S_make_Tape_Type_b0 S_make_Tape_Type_r13))
def S_make_Tape_Type_b1 : SC := .block 1 (.loop S_make_Tape_Type_l0)
def S_make_Tape_Type_r14 : SC := .reg [⟨some 77, .fieldAddr 98 (.tmp 10) 1, none⟩,
  ⟨some 78, .load 9 (.tmp 77), none⟩,
  ⟨some 79, .move (.tmp 11), none⟩,
  ⟨some 80, .call ⟨.value (.func 67), #[(.tmp 78), (.tmp 79)], #[9, 23]⟩, none⟩,
  ⟨none, .store 25 (.tmp 8) (.tmp 80), none⟩]
def S_make_Tape_Type_b2 : SC := .block 0 (.seq S_make_Tape_Type_r2 (.cond (.tmp 16) (.seq S_make_Tape_Type_r3 .ret) (.seq S_make_Tape_Type_r4 (.cond (.tmp 31) (.seq S_make_Tape_Type_r5 .ret) (.seq (.seq S_make_Tape_Type_r6 (.cond (.tmp 39) .skip S_make_Tape_Type_r7)) (.cond (.tmp 39) (.seq S_make_Tape_Type_r8 (.seq S_make_Tape_Type_r9 (.seq (.seq S_make_Tape_Type_r10 S_make_Tape_Type_b1) (.seq S_make_Tape_Type_r14 .ret)))) .skip))))))
def S_make_Tape_Type_r15 : SC := .reg [⟨some 81, .move (.tmp 0), none⟩,
  ⟨some 82, .move (.tmp 1), none⟩,
  ⟨some 83, .move (.tmp 2), none⟩,
  ⟨some 84, .move (.tmp 3), none⟩,
  ⟨some 85, .binOp .sub 3 (.tmp 84) (.const (.int .i64 1)) 3, none⟩,
  ⟨some 86, .call ⟨.value (.func 31), #[(.tmp 81), (.tmp 82), (.tmp 83), (.tmp 85)], #[32, 40, 23, 3]⟩, none⟩,
  ⟨some 13, .alloc 25, none⟩,
  ⟨none, .store 25 (.tmp 13) (.tmp 86), none⟩]
def S_make_Tape_Type_r16 : SC := .draw [⟨some 87, .load 25 (.tmp 13), none, [13]⟩,
  ⟨some 88, .move (.tmp 0), none, [0]⟩,
  ⟨some 89, .move (.tmp 1), none, [1]⟩,
  ⟨some 90, .move (.tmp 2), none, [2]⟩,
  ⟨some 91, .move (.tmp 3), none, [3]⟩,
  ⟨some 92, .binOp .sub 3 (.tmp 91) (.const (.int .i64 1)) 3, none, [91]⟩,
  ⟨some 93, .call ⟨.value (.func 31), #[(.tmp 88), (.tmp 89), (.tmp 90), (.tmp 92)], #[32, 40, 23, 3]⟩, none, [88, 89, 90, 92]⟩,
  ⟨some 94, .call ⟨.value (.func 72), #[(.tmp 87), (.tmp 93)], #[25, 25]⟩, none, [87, 93]⟩,
  ⟨none, .store 25 (.tmp 8) (.tmp 94), none, [8, 94]⟩] [0, 0, 0, 0, 0, 16, 62, 127, 255]
def S_make_Tape_Type : SC := (.seq S_make_Tape_Type_r0 (.seq S_make_Tape_Type_r1 (.seq S_make_Tape_Type_b2 (.seq S_make_Tape_Type_r15 (.seq S_make_Tape_Type_r16 .ret)))))
theorem BS_make_Tape_Type : Try.f31.body.bind stripC = some S_make_Tape_Type := by kernel_rfl
/-! ref3_Replace: function 50, 53 temporaries. -/
def S_ref3_Replace_r0 : SC := .reg [⟨some 2, .box 25 (.tmp 0), none⟩,
  ⟨some 4, .alloc 25, none⟩]
def S_ref3_Replace_r1 : SC := .reg [⟨some 8, .fieldAddr 25 (.tmp 2) 0, none⟩,
  ⟨some 9, .load 3 (.tmp 8), none⟩,
  ⟨some 10, .binOp .eql 3 (.tmp 9) (.const (.int .i64 1)) 3, none⟩]
def S_ref3_Replace_r2 : SC := .reg [⟨some 5, .assign (.const (.int .i64 0)), none⟩]
def S_ref3_Replace_r3 : SC := .reg [⟨some 11, .move (.tmp 5), none⟩,
  ⟨some 12, .move (.tmp 1), none⟩,
  ⟨some 13, .call ⟨.builtin .len, #[(.tmp 12)], #[69]⟩, none⟩,
  ⟨some 14, .binOp .lss 3 (.tmp 11) (.tmp 13) 3, none⟩]
def S_ref3_Replace_r4 : SC := .draw [⟨some 17, .move (.tmp 1), none, [1]⟩,
  ⟨some 18, .move (.tmp 5), none, [5]⟩,
  ⟨some 19, .indexAddr 69 (.tmp 17) (.tmp 18), none, [17, 18]⟩,
  ⟨some 20, .fieldAddr 75 (.tmp 19) 0, none, [19]⟩,
  ⟨some 21, .load 3 (.tmp 20), none, [20]⟩,
  ⟨some 22, .fieldAddr 25 (.tmp 2) 2, none, [2]⟩,
  ⟨some 23, .load 3 (.tmp 22), none, [22]⟩,
  ⟨some 24, .binOp .eql 3 (.tmp 21) (.tmp 23) 3, none, [21, 23]⟩] [0, 0, 3, 7, 15, 0, 32, 127]
def S_ref3_Replace_r5 : SC := .reg [⟨some 25, .move (.tmp 1), none⟩,
  ⟨some 26, .move (.tmp 5), none⟩,
  ⟨some 27, .indexAddr 69 (.tmp 25) (.tmp 26), none⟩,
  ⟨some 28, .fieldAddr 75 (.tmp 27) 1, none⟩,
  ⟨some 29, .load 25 (.tmp 28), none⟩,
  ⟨none, .store 25 (.tmp 4) (.tmp 29), none⟩]
def S_ref3_Replace_b0 : SC := .block 1 (.seq S_ref3_Replace_r4 (.cond (.tmp 24) (.seq S_ref3_Replace_r5 .ret) .skip))
def S_ref3_Replace_r6 : SC := .reg [⟨some 15, .move (.tmp 5), none⟩,
  ⟨some 16, .binOp .add 3 (.tmp 15) (.const (.int .i64 1)) 3, none⟩,
  ⟨some 5, .assign (.tmp 16), none⟩]
def S_ref3_Replace_l0 : SC := (.seq (.seq S_ref3_Replace_r3 (.cond (.tmp 14) .skip (.exit 0))) (.seq S_ref3_Replace_b0 S_ref3_Replace_r6))
def S_ref3_Replace_b1 : SC := .block 0 (.loop S_ref3_Replace_l0)
def S_ref3_Replace_r7 : SC := .reg [⟨some 30, .load 25 (.tmp 2), none⟩,
  ⟨none, .store 25 (.tmp 4) (.tmp 30), none⟩]
def S_ref3_Replace_r8 : SC := .reg [⟨some 31, .load 25 (.tmp 2), none⟩,
  ⟨some 6, .alloc 25, none⟩,
  ⟨none, .store 25 (.tmp 6) (.tmp 31), none⟩]
def S_ref3_Replace_r9 : SC := .reg [⟨some 32, .fieldAddr 25 (.tmp 6) 4, none⟩,
  ⟨none, .store 23 (.tmp 32) (.const (.slice none 0 0)), none⟩]
def S_ref3_Replace_r10 : SC := .reg [⟨some 7, .assign (.const (.int .i64 0)), none⟩]
def S_ref3_Replace_r11 : SC := .reg [⟨some 33, .move (.tmp 7), none⟩,
  ⟨some 34, .fieldAddr 25 (.tmp 2) 4, none⟩,
  ⟨some 35, .load 23 (.tmp 34), none⟩,
  ⟨some 36, .call ⟨.builtin .len, #[(.tmp 35)], #[23]⟩, none⟩,
  ⟨some 37, .binOp .lss 3 (.tmp 33) (.tmp 36) 3, none⟩]
def S_ref3_Replace_r12 : SC := .draw [⟨some 40, .fieldAddr 25 (.tmp 6) 4, none, [6]⟩,
  ⟨some 41, .load 23 (.tmp 40), none, [40]⟩,
  ⟨some 42, .fieldAddr 25 (.tmp 2) 4, none, [2]⟩,
  ⟨some 43, .load 23 (.tmp 42), none, [42]⟩,
  ⟨some 44, .move (.tmp 7), none, [7]⟩,
  ⟨some 45, .indexAddr 23 (.tmp 43) (.tmp 44), none, [43, 44]⟩,
  ⟨some 46, .load 25 (.tmp 45), none, [45]⟩,
  ⟨some 47, .move (.tmp 1), none, [1]⟩,
  ⟨some 48, .call ⟨.value (.func 50), #[(.tmp 46), (.tmp 47)], #[25, 69]⟩, none, [46, 47]⟩,
  ⟨some 49, .buildSlice 23 1 #[(0, (.tmp 48))], none, [48]⟩,
  ⟨some 50, .call ⟨.builtin .append, #[(.tmp 41), (.tmp 49)], #[23, 23]⟩, none, [41, 49]⟩,
  ⟨some 51, .fieldAddr 25 (.tmp 6) 4, none, [6]⟩,
  ⟨none, .store 23 (.tmp 51) (.tmp 50), none, [51, 50]⟩] [0, 1, 0, 4, 0, 28, 60, 0, 252, 508, 1023, 2047, 4095]
def S_ref3_Replace_b2 : SC := .block 3 S_ref3_Replace_r12
def S_ref3_Replace_r13 : SC := .reg [⟨some 38, .move (.tmp 7), none⟩,
  ⟨some 39, .binOp .add 3 (.tmp 38) (.const (.int .i64 1)) 3, none⟩,
  ⟨some 7, .assign (.tmp 39), none⟩]
def S_ref3_Replace_l1 : SC := (.seq (.seq S_ref3_Replace_r11 (.cond (.tmp 37) .skip (.exit 2))) (.seq S_ref3_Replace_b2 S_ref3_Replace_r13))
def S_ref3_Replace_b3 : SC := .block 2 (.loop S_ref3_Replace_l1)
def S_ref3_Replace_r14 : SC := .reg [⟨some 52, .load 25 (.tmp 6), none⟩,
  ⟨none, .store 25 (.tmp 4) (.tmp 52), none⟩]
def S_ref3_Replace : SC := (.seq S_ref3_Replace_r0 (.seq (.seq S_ref3_Replace_r1 (.cond (.tmp 10) (.seq (.seq S_ref3_Replace_r2 S_ref3_Replace_b1) (.seq S_ref3_Replace_r7 .ret)) .skip)) (.seq S_ref3_Replace_r8 (.seq S_ref3_Replace_r9 (.seq (.seq S_ref3_Replace_r10 S_ref3_Replace_b3) (.seq S_ref3_Replace_r14 .ret))))))
theorem BS_ref3_Replace : Try.f50.body.bind stripC = some S_ref3_Replace := by kernel_rfl
/-! types_Var: function 63, 5 temporaries. -/
def S_types_Var_r0 : SC := .reg [⟨some 2, .alloc 25, none⟩]
def S_types_Var_r1 : SC := .reg [⟨some 3, .move (.tmp 0), none⟩,
  ⟨some 4, .build 25 #[(0, (.const (.int .i64 1))), (2, (.tmp 3))], none⟩,
  ⟨none, .store 25 (.tmp 2) (.tmp 4), none⟩]
def S_types_Var : SC := (.seq S_types_Var_r0 (.seq S_types_Var_r1 .ret))
theorem BS_types_Var : Try.f63.body.bind stripC = some S_types_Var := by kernel_rfl
/-! types_Replace_1: function 165, 24 temporaries. -/
def S_types_Replace_1_r0 : SC := .reg [⟨some 2, .box 25 (.tmp 0), none⟩,
  ⟨some 3, .alloc 25, none⟩]
def S_types_Replace_1_r1 : SC := .reg [⟨some 6, .fieldAddr 25 (.tmp 2) 0, none⟩,
  ⟨some 7, .load 3 (.tmp 6), none⟩,
  ⟨some 8, .binOp .eql 3 (.tmp 7) (.const (.int .i64 1)) 3, none⟩]
def S_types_Replace_1_r2 : SC := .reg [⟨some 9, .load 69 (.tmp 1), none⟩,
  ⟨some 10, .call ⟨.builtin .len, #[(.tmp 9)], #[69]⟩, none⟩,
  ⟨some 11, .move (.const (.int .i64 0)), none⟩]
def S_types_Replace_1_r3 : SC := .reg [⟨some 12, .binOp .lss 3 (.tmp 11) (.tmp 10) 3, none⟩]
def S_types_Replace_1_r4 : SC := .reg [⟨some 13, .indexAddr 69 (.tmp 9) (.tmp 11), none⟩,
  ⟨some 14, .load 75 (.tmp 13), none⟩,
  ⟨some 5, .alloc 75, none⟩,
  ⟨none, .store 75 (.tmp 5) (.tmp 14), none⟩]
def S_types_Replace_1_r5 : SC := .reg [⟨some 15, .fieldAddr 75 (.tmp 5) 0, none⟩,
  ⟨some 16, .load 3 (.tmp 15), none⟩,
  ⟨some 17, .fieldAddr 25 (.tmp 2) 2, none⟩,
  ⟨some 18, .load 3 (.tmp 17), none⟩,
  ⟨some 19, .binOp .eql 3 (.tmp 16) (.tmp 18) 3, none⟩]
def S_types_Replace_1_r6 : SC := .reg [⟨some 20, .fieldAddr 75 (.tmp 5) 1, none⟩,
  ⟨some 21, .load 25 (.tmp 20), none⟩,
  ⟨none, .store 25 (.tmp 3) (.tmp 21), none⟩]
def S_types_Replace_1_b0 : SC := .block 1 (.seq S_types_Replace_1_r4 (.seq S_types_Replace_1_r5 (.cond (.tmp 19) (.seq S_types_Replace_1_r6 .ret) .skip)))
def S_types_Replace_1_r7 : SC := .reg [⟨some 22, .binOp .add 3 (.tmp 11) (.const (.int .i64 1)) 3, none⟩,
  ⟨some 11, .move (.tmp 22), none⟩]
def S_types_Replace_1_l0 : SC := (.seq S_types_Replace_1_r3 (.seq (.cond (.tmp 12) .skip (.exit 0)) (.seq S_types_Replace_1_b0 S_types_Replace_1_r7)))
def S_types_Replace_1_b1 : SC := .block 0 (.loop S_types_Replace_1_l0)
def S_types_Replace_1_r8 : SC := .reg [⟨some 23, .load 25 (.tmp 2), none⟩,
  ⟨none, .store 25 (.tmp 3) (.tmp 23), none⟩]
def S_types_Replace_1 : SC := (.seq S_types_Replace_1_r0 (.seq (.seq S_types_Replace_1_r1 (.cond (.tmp 8) (.seq S_types_Replace_1_r2 S_types_Replace_1_b1) .skip)) (.seq S_types_Replace_1_r8 .ret)))
theorem BS_types_Replace_1 : Try.f165.body.bind stripC = some S_types_Replace_1 := by kernel_rfl
/-! types_rebuild: function 164, 37 temporaries. -/
def S_types_rebuild_r0 : SC := .reg [⟨some 2, .box 25 (.tmp 0), none⟩,
  ⟨some 4, .alloc 25, none⟩]
def S_types_rebuild_r1 : SC := .reg [⟨some 8, .fieldAddr 25 (.tmp 2) 4, none⟩,
  ⟨some 9, .load 23 (.tmp 8), none⟩,
  ⟨some 10, .call ⟨.builtin .len, #[(.tmp 9)], #[23]⟩, none⟩,
  ⟨some 11, .binOp .eql 3 (.tmp 10) (.const (.int .i64 0)) 3, none⟩]
def S_types_rebuild_r2 : SC := .reg [⟨some 12, .move (.tmp 1), none⟩,
  ⟨some 13, .load 25 (.tmp 2), none⟩,
  ⟨some 14, .call ⟨.value (.tmp 12), #[(.tmp 13)], #[25]⟩, none⟩,
  ⟨none, .store 25 (.tmp 4) (.tmp 14), none⟩]
def S_types_rebuild_r3 : SC := .reg [⟨some 15, .fieldAddr 25 (.tmp 2) 4, none⟩,
  ⟨some 16, .load 23 (.tmp 15), none⟩,
  ⟨some 17, .call ⟨.builtin .len, #[(.tmp 16)], #[23]⟩, none⟩,
  ⟨some 18, .makeSlice 23 (.tmp 17) (.tmp 17), none⟩,
  ⟨some 5, .assign (.tmp 18), none⟩]
def S_types_rebuild_r4 : SC := .reg [⟨some 19, .fieldAddr 25 (.tmp 2) 4, none⟩,
  ⟨some 20, .load 23 (.tmp 19), none⟩,
  ⟨some 21, .call ⟨.builtin .len, #[(.tmp 20)], #[23]⟩, none⟩,
  ⟨some 22, .move (.const (.int .i64 0)), none⟩]
def S_types_rebuild_r5 : SC := .reg [⟨some 23, .binOp .lss 3 (.tmp 22) (.tmp 21) 3, none⟩]
def S_types_rebuild_r6 : SC := .reg [⟨some 24, .move (.tmp 22), none⟩,
  ⟨some 25, .indexAddr 23 (.tmp 20) (.tmp 22), none⟩,
  ⟨some 26, .load 25 (.tmp 25), none⟩,
  ⟨some 7, .alloc 25, none⟩,
  ⟨some 6, .assign (.tmp 24), none⟩,
  ⟨none, .store 25 (.tmp 7) (.tmp 26), none⟩]
def S_types_rebuild_r7 : SC := .reg [⟨some 27, .move (.tmp 5), none⟩,
  ⟨some 28, .move (.tmp 6), none⟩,
  ⟨some 29, .load 25 (.tmp 7), none⟩,
  ⟨some 30, .move (.tmp 1), none⟩,
  ⟨some 31, .call ⟨.value (.func 164), #[(.tmp 29), (.tmp 30)], #[25, 31]⟩, none⟩,
  ⟨some 32, .indexAddr 23 (.tmp 27) (.tmp 28), none⟩,
  ⟨none, .store 25 (.tmp 32) (.tmp 31), none⟩]
def S_types_rebuild_b0 : SC := .block 1 (.seq S_types_rebuild_r6 S_types_rebuild_r7)
def S_types_rebuild_r8 : SC := .reg [⟨some 33, .binOp .add 3 (.tmp 22) (.const (.int .i64 1)) 3, none⟩,
  ⟨some 22, .move (.tmp 33), none⟩]
def S_types_rebuild_l0 : SC := (.seq S_types_rebuild_r5 (.seq (.cond (.tmp 23) .skip (.exit 0)) (.seq S_types_rebuild_b0 S_types_rebuild_r8)))
def S_types_rebuild_b1 : SC := .block 0 (.loop S_types_rebuild_l0)
def S_types_rebuild_r9 : SC := .reg [⟨some 34, .move (.tmp 5), none⟩,
  ⟨some 35, .fieldAddr 25 (.tmp 2) 4, none⟩,
  ⟨none, .store 23 (.tmp 35) (.tmp 34), none⟩]
def S_types_rebuild_r10 : SC := .reg [⟨some 36, .load 25 (.tmp 2), none⟩,
  ⟨none, .store 25 (.tmp 4) (.tmp 36), none⟩]
def S_types_rebuild : SC := (.seq S_types_rebuild_r0 (.seq (.seq S_types_rebuild_r1 (.cond (.tmp 11) (.seq S_types_rebuild_r2 .ret) .skip)) (.seq S_types_rebuild_r3 (.seq (.seq S_types_rebuild_r4 S_types_rebuild_b1) (.seq S_types_rebuild_r9 (.seq S_types_rebuild_r10 .ret))))))
theorem BS_types_rebuild : Try.f164.body.bind stripC = some S_types_rebuild := by kernel_rfl
/-! types_Replace: function 148, 8 temporaries. -/
def S_types_Replace_r0 : SC := .reg [⟨some 2, .box 25 (.tmp 0), none⟩,
  ⟨some 3, .box 69 (.tmp 1), none⟩,
  ⟨some 4, .alloc 25, none⟩]
def S_types_Replace_r1 : SC := .reg [⟨some 5, .load 25 (.tmp 2), none⟩,
  ⟨some 6, .makeFunc (.func 165) #[] #[(.tmp 3)], none⟩,
  ⟨some 7, .call ⟨.value (.func 164), #[(.tmp 5), (.tmp 6)], #[25, 31]⟩, none⟩,
  ⟨none, .store 25 (.tmp 4) (.tmp 7), none⟩]
def S_types_Replace : SC := (.seq S_types_Replace_r0 (.seq S_types_Replace_r1 .ret))
theorem BS_types_Replace : Try.f148.body.bind stripC = some S_types_Replace := by kernel_rfl
/-! slices_CompareFunc__api_Type_api_Typeapi_Typeapi_Type: function 163, 39 temporaries. -/
def S_slices_CompareFunc__api_Type_api_Typeapi_Typeapi_Type_r0 : SC := .reg [⟨some 6, .assign (.const (.int .i64 0)), none⟩]
def S_slices_CompareFunc__api_Type_api_Typeapi_Typeapi_Type_r1 : SC := .reg [⟨some 11, .move (.tmp 0), none⟩,
  ⟨some 12, .call ⟨.builtin .len, #[(.tmp 11)], #[23]⟩, none⟩,
  ⟨some 13, .move (.const (.int .i64 0)), none⟩]
def S_slices_CompareFunc__api_Type_api_Typeapi_Typeapi_Type_r2 : SC := .reg [⟨some 14, .binOp .lss 3 (.tmp 13) (.tmp 12) 3, none⟩]
def S_slices_CompareFunc__api_Type_api_Typeapi_Typeapi_Type_r3 : SC := .reg [⟨some 15, .move (.tmp 13), none⟩,
  ⟨some 16, .indexAddr 23 (.tmp 11) (.tmp 13), none⟩,
  ⟨some 17, .load 25 (.tmp 16), none⟩,
  ⟨some 8, .alloc 25, none⟩,
  ⟨some 7, .assign (.tmp 15), none⟩,
  ⟨none, .store 25 (.tmp 8) (.tmp 17), none⟩]
def S_slices_CompareFunc__api_Type_api_Typeapi_Typeapi_Type_r4 : SC := .reg [⟨some 18, .move (.tmp 7), none⟩,
  ⟨some 19, .move (.tmp 1), none⟩,
  ⟨some 20, .call ⟨.builtin .len, #[(.tmp 19)], #[23]⟩, none⟩,
  ⟨some 21, .binOp .geq 3 (.tmp 18) (.tmp 20) 3, none⟩]
def S_slices_CompareFunc__api_Type_api_Typeapi_Typeapi_Type_r5 : SC := .reg [⟨some 6, .assign (.const (.int .i64 1)), none⟩]
def S_slices_CompareFunc__api_Type_api_Typeapi_Typeapi_Type_r6 : SC := .reg [⟨some 22, .move (.tmp 1), none⟩,
  ⟨some 23, .move (.tmp 7), none⟩,
  ⟨some 24, .indexAddr 23 (.tmp 22) (.tmp 23), none⟩,
  ⟨some 25, .load 25 (.tmp 24), none⟩,
  ⟨some 9, .alloc 25, none⟩,
  ⟨none, .store 25 (.tmp 9) (.tmp 25), none⟩]
def S_slices_CompareFunc__api_Type_api_Typeapi_Typeapi_Type_r7 : SC := .reg [⟨some 26, .move (.tmp 2), none⟩,
  ⟨some 27, .load 25 (.tmp 8), none⟩,
  ⟨some 28, .load 25 (.tmp 9), none⟩,
  ⟨some 29, .call ⟨.value (.tmp 26), #[(.tmp 27), (.tmp 28)], #[25, 25]⟩, none⟩,
  ⟨some 10, .assign (.tmp 29), none⟩]
def S_slices_CompareFunc__api_Type_api_Typeapi_Typeapi_Type_r8 : SC := .reg [⟨some 30, .move (.tmp 10), none⟩,
  ⟨some 31, .binOp .neq 3 (.tmp 30) (.const (.int .i64 0)) 3, none⟩]
def S_slices_CompareFunc__api_Type_api_Typeapi_Typeapi_Type_r9 : SC := .reg [⟨some 32, .move (.tmp 10), none⟩,
  ⟨some 6, .assign (.tmp 32), none⟩]
def S_slices_CompareFunc__api_Type_api_Typeapi_Typeapi_Type_b0 : SC := .block 1 (.seq S_slices_CompareFunc__api_Type_api_Typeapi_Typeapi_Type_r3 (.seq (.seq S_slices_CompareFunc__api_Type_api_Typeapi_Typeapi_Type_r4 (.cond (.tmp 21) (.seq S_slices_CompareFunc__api_Type_api_Typeapi_Typeapi_Type_r5 .ret) .skip)) (.seq S_slices_CompareFunc__api_Type_api_Typeapi_Typeapi_Type_r6 (.seq S_slices_CompareFunc__api_Type_api_Typeapi_Typeapi_Type_r7 (.seq S_slices_CompareFunc__api_Type_api_Typeapi_Typeapi_Type_r8 (.cond (.tmp 31) (.seq S_slices_CompareFunc__api_Type_api_Typeapi_Typeapi_Type_r9 .ret) .skip))))))
def S_slices_CompareFunc__api_Type_api_Typeapi_Typeapi_Type_r10 : SC := .reg [⟨some 33, .binOp .add 3 (.tmp 13) (.const (.int .i64 1)) 3, none⟩,
  ⟨some 13, .move (.tmp 33), none⟩]
def S_slices_CompareFunc__api_Type_api_Typeapi_Typeapi_Type_l0 : SC := (.seq S_slices_CompareFunc__api_Type_api_Typeapi_Typeapi_Type_r2 (.seq (.cond (.tmp 14) .skip (.exit 0)) (.seq S_slices_CompareFunc__api_Type_api_Typeapi_Typeapi_Type_b0 S_slices_CompareFunc__api_Type_api_Typeapi_Typeapi_Type_r10)))
def S_slices_CompareFunc__api_Type_api_Typeapi_Typeapi_Type_b1 : SC := .block 0 (.loop S_slices_CompareFunc__api_Type_api_Typeapi_Typeapi_Type_l0)
def S_slices_CompareFunc__api_Type_api_Typeapi_Typeapi_Type_r11 : SC := .reg [⟨some 34, .move (.tmp 0), none⟩,
  ⟨some 35, .call ⟨.builtin .len, #[(.tmp 34)], #[23]⟩, none⟩,
  ⟨some 36, .move (.tmp 1), none⟩,
  ⟨some 37, .call ⟨.builtin .len, #[(.tmp 36)], #[23]⟩, none⟩,
  ⟨some 38, .binOp .lss 3 (.tmp 35) (.tmp 37) 3, none⟩]
def S_slices_CompareFunc__api_Type_api_Typeapi_Typeapi_Type_r12 : SC := .reg [⟨some 6, .assign (.const (.int .i64 (-1))), none⟩]
def S_slices_CompareFunc__api_Type_api_Typeapi_Typeapi_Type_r13 : SC := .reg [⟨some 6, .assign (.const (.int .i64 0)), none⟩]
def S_slices_CompareFunc__api_Type_api_Typeapi_Typeapi_Type : SC := (.seq S_slices_CompareFunc__api_Type_api_Typeapi_Typeapi_Type_r0 (.seq (.seq S_slices_CompareFunc__api_Type_api_Typeapi_Typeapi_Type_r1 S_slices_CompareFunc__api_Type_api_Typeapi_Typeapi_Type_b1) (.seq (.seq S_slices_CompareFunc__api_Type_api_Typeapi_Typeapi_Type_r11 (.cond (.tmp 38) (.seq S_slices_CompareFunc__api_Type_api_Typeapi_Typeapi_Type_r12 .ret) .skip)) (.seq S_slices_CompareFunc__api_Type_api_Typeapi_Typeapi_Type_r13 .ret))))
theorem BS_slices_CompareFunc__api_Type_api_Typeapi_Typeapi_Type : Try.f163.body.bind stripC = some S_slices_CompareFunc__api_Type_api_Typeapi_Typeapi_Type := by kernel_rfl
/-! law15_LatticeOrder: function 9, 139 temporaries. -/
def S_law15_LatticeOrder_r0 : SC := .reg [⟨some 4, .assign (.const (.bool false)), none⟩]
def S_law15_LatticeOrder_r1 : SC := .reg [⟨some 17, .call ⟨.value (.func 42), #[], #[]⟩, none⟩,
  ⟨some 18, .unOp .not 4 (.tmp 17), none⟩]
def S_law15_LatticeOrder_r2 : SC := .reg [⟨some 4, .assign (.const (.bool false)), none⟩]
def S_law15_LatticeOrder_r3 : SC := .reg [⟨some 19, .move (.tmp 1), none⟩,
  ⟨some 20, .call ⟨.value (.func 11), #[(.tmp 19)], #[22]⟩, none⟩,
  ⟨some 21, .unOp .not 4 (.tmp 20), none⟩]
def S_law15_LatticeOrder_r4 : SC := .reg [⟨some 4, .assign (.const (.bool true)), none⟩]
def S_law15_LatticeOrder_r5 : SC := .reg [⟨some 23, .move (.tmp 0), none⟩,
  ⟨some 24, .move (.tmp 1), none⟩,
  ⟨some 25, .call ⟨.value (.func 43), #[(.tmp 23), (.tmp 24)], #[3, 22]⟩, none⟩,
  ⟨some 22, .move (.tmp 25), none⟩,
  ⟨some 26, .extract (.tmp 22) 0, none⟩,
  ⟨some 27, .extract (.tmp 22) 1, none⟩,
  ⟨some 28, .extract (.tmp 22) 2, none⟩,
  ⟨some 29, .extract (.tmp 22) 3, none⟩,
  ⟨some 5, .alloc 25, none⟩,
  ⟨some 6, .alloc 25, none⟩,
  ⟨some 7, .alloc 25, none⟩,
  ⟨none, .store 25 (.tmp 5) (.tmp 26), none⟩,
  ⟨none, .store 25 (.tmp 6) (.tmp 27), none⟩,
  ⟨none, .store 25 (.tmp 7) (.tmp 28), none⟩,
  ⟨some 8, .assign (.tmp 29), none⟩]
def S_law15_LatticeOrder_r6 : SC := .reg [⟨some 30, .move (.tmp 8), none⟩,
  ⟨some 31, .move (.tmp 0), none⟩,
  ⟨some 32, .call ⟨.value (.func 15), #[(.tmp 31)], #[3]⟩, none⟩,
  ⟨some 33, .call ⟨.value (.func 32), #[(.const (.int .i64 3))], #[3]⟩, none⟩,
  ⟨some 34, .call ⟨.value (.func 31), #[(.tmp 30), (.tmp 32), (.tmp 33), (.const (.int .i64 1))], #[32, 40, 23, 3]⟩, none⟩,
  ⟨some 9, .alloc 25, none⟩,
  ⟨none, .store 25 (.tmp 9) (.tmp 34), none⟩]
def S_law15_LatticeOrder_r7 : SC := .reg [⟨some 36, .load 25 (.tmp 5), none⟩,
  ⟨some 37, .load 25 (.tmp 6), none⟩,
  ⟨some 38, .call ⟨.value (.func 53), #[(.tmp 36), (.tmp 37)], #[25, 25]⟩, none⟩,
  ⟨some 35, .move (.tmp 38), none⟩,
  ⟨some 39, .extract (.tmp 35) 0, none⟩,
  ⟨some 40, .extract (.tmp 35) 1, none⟩,
  ⟨some 41, .extract (.tmp 35) 2, none⟩,
  ⟨some 10, .alloc 25, none⟩,
  ⟨none, .store 25 (.tmp 10) (.tmp 39), none⟩,
  ⟨some 11, .assign (.tmp 40), none⟩,
  ⟨some 12, .assign (.tmp 41), none⟩]
def S_law15_LatticeOrder_r8 : SC := .reg [⟨some 42, .load 25 (.tmp 5), none⟩,
  ⟨some 43, .load 25 (.tmp 6), none⟩,
  ⟨some 44, .load 25 (.tmp 7), none⟩,
  ⟨some 45, .load 25 (.tmp 9), none⟩,
  ⟨some 46, .load 25 (.tmp 10), none⟩,
  ⟨some 47, .buildSlice 23 5 #[(0, (.tmp 42)), (1, (.tmp 43)), (2, (.tmp 44)), (3, (.tmp 45)), (4, (.tmp 46))], none⟩,
  ⟨some 13, .assign (.tmp 47), none⟩]
def S_law15_LatticeOrder_r9 : SC := .reg [⟨some 14, .assign (.const (.int .i64 0)), none⟩]
def S_law15_LatticeOrder_r10 : SC := .reg [⟨some 48, .move (.tmp 14), none⟩,
  ⟨some 49, .move (.tmp 13), none⟩,
  ⟨some 50, .call ⟨.builtin .len, #[(.tmp 49)], #[23]⟩, none⟩,
  ⟨some 51, .binOp .lss 3 (.tmp 48) (.tmp 50) 3, none⟩]
def S_law15_LatticeOrder_r11 : SC := .draw [⟨some 54, .move (.tmp 13), none, [13]⟩,
  ⟨some 55, .move (.tmp 14), none, [14]⟩,
  ⟨some 56, .indexAddr 23 (.tmp 54) (.tmp 55), none, [54, 55]⟩,
  ⟨some 57, .load 25 (.tmp 56), none, [56]⟩,
  ⟨some 58, .move (.tmp 13), none, [13]⟩,
  ⟨some 59, .move (.tmp 14), none, [14]⟩,
  ⟨some 60, .indexAddr 23 (.tmp 58) (.tmp 59), none, [58, 59]⟩,
  ⟨some 61, .load 25 (.tmp 60), none, [60]⟩,
  ⟨some 62, .call ⟨.value (.func 54), #[(.tmp 57), (.tmp 61)], #[25, 25]⟩, none, [57, 61]⟩,
  ⟨some 63, .unOp .not 4 (.tmp 62), none, [62]⟩] [0, 0, 3, 7, 0, 0, 48, 112, 255, 511]
def S_law15_LatticeOrder_r12 : SC := .reg [⟨some 4, .assign (.const (.bool false)), none⟩]
def S_law15_LatticeOrder_r13 : SC := .draw [⟨some 64, .load 25 (.tmp 5), none, [5]⟩,
  ⟨some 65, .move (.tmp 13), none, [13]⟩,
  ⟨some 66, .move (.tmp 14), none, [14]⟩,
  ⟨some 67, .indexAddr 23 (.tmp 65) (.tmp 66), none, [65, 66]⟩,
  ⟨some 68, .load 25 (.tmp 67), none, [67]⟩,
  ⟨some 69, .call ⟨.value (.func 54), #[(.tmp 64), (.tmp 68)], #[25, 25]⟩, none, [64, 68]⟩,
  ⟨some 70, .move (.tmp 69), none, [69]⟩,
  ⟨some 71, .load 25 (.tmp 6), some (70, true), [6, 70]⟩,
  ⟨some 72, .move (.tmp 13), some (70, true), [13, 70]⟩,
  ⟨some 73, .move (.tmp 14), some (70, true), [14, 70]⟩,
  ⟨some 74, .indexAddr 23 (.tmp 72) (.tmp 73), some (70, true), [72, 73, 70]⟩,
  ⟨some 75, .load 25 (.tmp 74), some (70, true), [74, 70]⟩,
  ⟨some 76, .call ⟨.value (.func 54), #[(.tmp 71), (.tmp 75)], #[25, 25]⟩, some (70, true), [71, 75, 70]⟩,
  ⟨some 77, .pick (.tmp 70) (.tmp 76) (.const (.bool false)), none, [70, 76]⟩,
  ⟨some 78, .move (.tmp 77), none, [77]⟩,
  ⟨some 79, .load 25 (.tmp 10), some (78, true), [10, 78]⟩,
  ⟨some 80, .move (.tmp 13), some (78, true), [13, 78]⟩,
  ⟨some 81, .move (.tmp 14), some (78, true), [14, 78]⟩,
  ⟨some 82, .indexAddr 23 (.tmp 80) (.tmp 81), some (78, true), [80, 81, 78]⟩,
  ⟨some 83, .load 25 (.tmp 82), some (78, true), [82, 78]⟩,
  ⟨some 84, .call ⟨.value (.func 54), #[(.tmp 79), (.tmp 83)], #[25, 25]⟩, some (78, true), [79, 83, 78]⟩,
  ⟨some 85, .unOp .not 4 (.tmp 84), some (78, true), [84, 78]⟩,
  ⟨some 86, .pick (.tmp 78) (.tmp 85) (.const (.bool false)), none, [78, 85]⟩] [0, 0, 0, 6, 14, 31, 63, 127, 127, 127, 895, 1919, 4095, 8191, 16383, 32767, 32767, 32767, 229375, 491519, 1048575, 2097151, 4194303]
def S_law15_LatticeOrder_r14 : SC := .reg [⟨some 4, .assign (.const (.bool false)), none⟩]
def S_law15_LatticeOrder_r15 : SC := .reg [⟨some 15, .assign (.const (.int .i64 0)), none⟩]
def S_law15_LatticeOrder_r16 : SC := .reg [⟨some 87, .move (.tmp 15), none⟩,
  ⟨some 88, .move (.tmp 13), none⟩,
  ⟨some 89, .call ⟨.builtin .len, #[(.tmp 88)], #[23]⟩, none⟩,
  ⟨some 90, .binOp .lss 3 (.tmp 87) (.tmp 89) 3, none⟩]
def S_law15_LatticeOrder_r17 : SC := .reg [⟨some 16, .assign (.const (.int .i64 0)), none⟩]
def S_law15_LatticeOrder_r18 : SC := .reg [⟨some 93, .move (.tmp 16), none⟩,
  ⟨some 94, .move (.tmp 13), none⟩,
  ⟨some 95, .call ⟨.builtin .len, #[(.tmp 94)], #[23]⟩, none⟩,
  ⟨some 96, .binOp .lss 3 (.tmp 93) (.tmp 95) 3, none⟩]
def S_law15_LatticeOrder_r19 : SC := .draw [⟨some 99, .move (.tmp 13), none, [13]⟩,
  ⟨some 100, .move (.tmp 14), none, [14]⟩,
  ⟨some 101, .indexAddr 23 (.tmp 99) (.tmp 100), none, [99, 100]⟩,
  ⟨some 102, .load 25 (.tmp 101), none, [101]⟩,
  ⟨some 103, .move (.tmp 13), none, [13]⟩,
  ⟨some 104, .move (.tmp 15), none, [15]⟩,
  ⟨some 105, .indexAddr 23 (.tmp 103) (.tmp 104), none, [103, 104]⟩,
  ⟨some 106, .load 25 (.tmp 105), none, [105]⟩,
  ⟨some 107, .call ⟨.value (.func 54), #[(.tmp 102), (.tmp 106)], #[25, 25]⟩, none, [102, 106]⟩,
  ⟨some 108, .move (.tmp 107), none, [107]⟩,
  ⟨some 109, .move (.tmp 13), some (108, true), [13, 108]⟩,
  ⟨some 110, .move (.tmp 15), some (108, true), [15, 108]⟩,
  ⟨some 111, .indexAddr 23 (.tmp 109) (.tmp 110), some (108, true), [109, 110, 108]⟩,
  ⟨some 112, .load 25 (.tmp 111), some (108, true), [111, 108]⟩,
  ⟨some 113, .move (.tmp 13), some (108, true), [13, 108]⟩,
  ⟨some 114, .move (.tmp 16), some (108, true), [16, 108]⟩,
  ⟨some 115, .indexAddr 23 (.tmp 113) (.tmp 114), some (108, true), [113, 114, 108]⟩,
  ⟨some 116, .load 25 (.tmp 115), some (108, true), [115, 108]⟩,
  ⟨some 117, .call ⟨.value (.func 54), #[(.tmp 112), (.tmp 116)], #[25, 25]⟩, some (108, true), [112, 116, 108]⟩,
  ⟨some 118, .pick (.tmp 108) (.tmp 117) (.const (.bool false)), none, [108, 117]⟩,
  ⟨some 119, .move (.tmp 118), none, [118]⟩,
  ⟨some 120, .move (.tmp 13), some (119, true), [13, 119]⟩,
  ⟨some 121, .move (.tmp 14), some (119, true), [14, 119]⟩,
  ⟨some 122, .indexAddr 23 (.tmp 120) (.tmp 121), some (119, true), [120, 121, 119]⟩,
  ⟨some 123, .load 25 (.tmp 122), some (119, true), [122, 119]⟩,
  ⟨some 124, .move (.tmp 13), some (119, true), [13, 119]⟩,
  ⟨some 125, .move (.tmp 16), some (119, true), [16, 119]⟩,
  ⟨some 126, .indexAddr 23 (.tmp 124) (.tmp 125), some (119, true), [124, 125, 119]⟩,
  ⟨some 127, .load 25 (.tmp 126), some (119, true), [126, 119]⟩,
  ⟨some 128, .call ⟨.value (.func 54), #[(.tmp 123), (.tmp 127)], #[25, 25]⟩, some (119, true), [123, 127, 119]⟩,
  ⟨some 129, .unOp .not 4 (.tmp 128), some (119, true), [128, 119]⟩,
  ⟨some 130, .pick (.tmp 119) (.tmp 129) (.const (.bool false)), none, [119, 129]⟩] [0, 0, 3, 7, 0, 0, 48, 112, 255, 511, 1023, 1023, 4095, 8191, 1023, 1023, 50175, 115711, 262143, 524287, 1048575, 2097151, 2097151, 8388607, 16777215, 2097151, 2097151, 102760447, 236978175, 536870911, 1073741823, 2147483647]
def S_law15_LatticeOrder_r20 : SC := .reg [⟨some 4, .assign (.const (.bool false)), none⟩]
def S_law15_LatticeOrder_b0 : SC := .block 5 (.seq S_law15_LatticeOrder_r19 (.cond (.tmp 130) (.seq S_law15_LatticeOrder_r20 .ret) .skip))
def S_law15_LatticeOrder_r21 : SC := .reg [⟨some 97, .move (.tmp 16), none⟩,
  ⟨some 98, .binOp .add 3 (.tmp 97) (.const (.int .i64 1)) 3, none⟩,
  ⟨some 16, .assign (.tmp 98), none⟩]
def S_law15_LatticeOrder_l0 : SC := (.seq (.seq S_law15_LatticeOrder_r18 (.cond (.tmp 96) .skip (.exit 4))) (.seq S_law15_LatticeOrder_b0 S_law15_LatticeOrder_r21))
def S_law15_LatticeOrder_b1 : SC := .block 4 (.loop S_law15_LatticeOrder_l0)
def S_law15_LatticeOrder_b2 : SC := .block 3 (.seq S_law15_LatticeOrder_r17 S_law15_LatticeOrder_b1)
def S_law15_LatticeOrder_r22 : SC := .reg [⟨some 91, .move (.tmp 15), none⟩,
  ⟨some 92, .binOp .add 3 (.tmp 91) (.const (.int .i64 1)) 3, none⟩,
  ⟨some 15, .assign (.tmp 92), none⟩]
def S_law15_LatticeOrder_l1 : SC := (.seq (.seq S_law15_LatticeOrder_r16 (.cond (.tmp 90) .skip (.exit 2))) (.seq S_law15_LatticeOrder_b2 S_law15_LatticeOrder_r22))
def S_law15_LatticeOrder_b3 : SC := .block 2 (.loop S_law15_LatticeOrder_l1)
def S_law15_LatticeOrder_b4 : SC := .block 1 (.seq (.seq S_law15_LatticeOrder_r11 (.cond (.tmp 63) (.seq S_law15_LatticeOrder_r12 .ret) .skip)) (.seq (.seq S_law15_LatticeOrder_r13 (.cond (.tmp 86) (.seq S_law15_LatticeOrder_r14 .ret) .skip)) (.seq S_law15_LatticeOrder_r15 S_law15_LatticeOrder_b3)))
def S_law15_LatticeOrder_r23 : SC := .reg [⟨some 52, .move (.tmp 14), none⟩,
  ⟨some 53, .binOp .add 3 (.tmp 52) (.const (.int .i64 1)) 3, none⟩,
  ⟨some 14, .assign (.tmp 53), none⟩]
def S_law15_LatticeOrder_l2 : SC := (.seq (.seq S_law15_LatticeOrder_r10 (.cond (.tmp 51) .skip (.exit 0))) (.seq S_law15_LatticeOrder_b4 S_law15_LatticeOrder_r23))
def S_law15_LatticeOrder_b5 : SC := .block 0 (.loop S_law15_LatticeOrder_l2)
def S_law15_LatticeOrder_r24 : SC := .reg [⟨some 131, .load 25 (.tmp 5), none⟩,
  ⟨some 132, .load 25 (.tmp 10), none⟩,
  ⟨some 133, .call ⟨.value (.func 54), #[(.tmp 131), (.tmp 132)], #[25, 25]⟩, none⟩,
  ⟨some 134, .move (.tmp 133), none⟩,
  ⟨some 135, .load 25 (.tmp 6), some (134, true)⟩,
  ⟨some 136, .load 25 (.tmp 10), some (134, true)⟩,
  ⟨some 137, .call ⟨.value (.func 54), #[(.tmp 135), (.tmp 136)], #[25, 25]⟩, some (134, true)⟩,
  ⟨some 138, .pick (.tmp 134) (.tmp 137) (.const (.bool false)), none⟩,
  ⟨some 4, .assign (.tmp 138), none⟩]
def S_law15_LatticeOrder : SC := (.seq S_law15_LatticeOrder_r0 (.seq (.seq S_law15_LatticeOrder_r1 (.cond (.tmp 18) (.seq S_law15_LatticeOrder_r2 .ret) .skip)) (.seq (.seq S_law15_LatticeOrder_r3 (.cond (.tmp 21) (.seq S_law15_LatticeOrder_r4 .ret) .skip)) (.seq S_law15_LatticeOrder_r5 (.seq S_law15_LatticeOrder_r6 (.seq S_law15_LatticeOrder_r7 (.seq S_law15_LatticeOrder_r8 (.seq (.seq S_law15_LatticeOrder_r9 S_law15_LatticeOrder_b5) (.seq S_law15_LatticeOrder_r24 .ret)))))))))
theorem BS_law15_LatticeOrder : Try.f9.body.bind stripC = some S_law15_LatticeOrder := by kernel_rfl
/-! law15_made: function 43, 49 temporaries. -/
def S_law15_made_r0 : SC := .reg [⟨some 4, .alloc 25, none⟩,
  ⟨some 5, .alloc 25, none⟩,
  ⟨some 6, .alloc 25, none⟩,
  ⟨some 7, .assign (.const (.pointer none)), none⟩]
def S_law15_made_r1 : SC := .reg [⟨some 13, .move (.tmp 1), none⟩,
  ⟨some 14, .build 34 #[(0, (.tmp 13))], none⟩,
  ⟨some 15, .box 34 (.tmp 14), none⟩,
  ⟨some 8, .assign (.tmp 15), none⟩]
def S_law15_made_r2 : SC := .reg [⟨some 16, .move (.tmp 0), none⟩,
  ⟨some 17, .call ⟨.value (.func 15), #[(.tmp 16)], #[3]⟩, none⟩,
  ⟨some 9, .assign (.tmp 17), none⟩]
def S_law15_made_r3 : SC := .reg [⟨some 18, .move (.tmp 8), none⟩,
  ⟨some 19, .move (.tmp 9), none⟩,
  ⟨some 20, .call ⟨.value (.func 32), #[(.const (.int .i64 3))], #[3]⟩, none⟩,
  ⟨some 21, .call ⟨.value (.func 59), #[(.const (.int .i64 0)), (.const (.int .i64 0))], #[3, 3]⟩, none⟩,
  ⟨some 22, .buildSlice 23 1 #[(0, (.tmp 21))], none⟩,
  ⟨some 23, .call ⟨.builtin .append, #[(.tmp 20), (.tmp 22)], #[23, 23]⟩, none⟩,
  ⟨some 24, .call ⟨.value (.func 31), #[(.tmp 18), (.tmp 19), (.tmp 23), (.const (.int .i64 2))], #[32, 40, 23, 3]⟩, none⟩,
  ⟨some 10, .alloc 25, none⟩,
  ⟨none, .store 25 (.tmp 10) (.tmp 24), none⟩]
def S_law15_made_r4 : SC := .draw [⟨some 25, .load 25 (.tmp 10), none, [10]⟩,
  ⟨some 26, .move (.tmp 8), none, [8]⟩,
  ⟨some 27, .move (.tmp 9), none, [9]⟩,
  ⟨some 28, .call ⟨.value (.func 51), #[(.tmp 26), (.tmp 27), (.const (.int .i64 3))], #[32, 40, 3]⟩, none, [26, 27]⟩,
  ⟨some 29, .call ⟨.value (.func 50), #[(.tmp 25), (.tmp 28)], #[25, 69]⟩, none, [25, 28]⟩,
  ⟨some 11, .alloc 25, none, []⟩,
  ⟨none, .store 25 (.tmp 11) (.tmp 29), none, [11, 29]⟩] [0, 0, 0, 6, 15, 0, 63]
def S_law15_made_r5 : SC := .draw [⟨some 30, .load 25 (.tmp 10), none, [10]⟩,
  ⟨some 31, .move (.tmp 8), none, [8]⟩,
  ⟨some 32, .move (.tmp 9), none, [9]⟩,
  ⟨some 33, .call ⟨.value (.func 51), #[(.tmp 31), (.tmp 32), (.const (.int .i64 3))], #[32, 40, 3]⟩, none, [31, 32]⟩,
  ⟨some 34, .call ⟨.value (.func 50), #[(.tmp 30), (.tmp 33)], #[25, 69]⟩, none, [30, 33]⟩,
  ⟨some 12, .alloc 25, none, []⟩,
  ⟨none, .store 25 (.tmp 12) (.tmp 34), none, [12, 34]⟩] [0, 0, 0, 6, 15, 0, 63]
def S_law15_made_r6 : SC := .reg [⟨some 35, .move (.tmp 8), none⟩,
  ⟨some 36, .call ⟨.value (.func 58), #[(.tmp 35), (.const (.int .i64 3))], #[32, 3]⟩, none⟩,
  ⟨some 37, .binOp .eql 3 (.tmp 36) (.const (.int .i64 0)) 3, none⟩]
def S_law15_made_r7 : SC := .reg [⟨some 38, .move (.tmp 8), none⟩,
  ⟨some 39, .move (.tmp 9), none⟩,
  ⟨some 40, .call ⟨.value (.func 32), #[(.const (.int .i64 3))], #[3]⟩, none⟩,
  ⟨some 41, .call ⟨.value (.func 59), #[(.const (.int .i64 0)), (.const (.int .i64 1))], #[3, 3]⟩, none⟩,
  ⟨some 42, .buildSlice 23 1 #[(0, (.tmp 41))], none⟩,
  ⟨some 43, .call ⟨.builtin .append, #[(.tmp 40), (.tmp 42)], #[23, 23]⟩, none⟩,
  ⟨some 44, .call ⟨.value (.func 31), #[(.tmp 38), (.tmp 39), (.tmp 43), (.const (.int .i64 2))], #[32, 40, 23, 3]⟩, none⟩,
  ⟨none, .store 25 (.tmp 12) (.tmp 44), none⟩]
def S_law15_made_r8 : SC := .draw [⟨some 45, .load 25 (.tmp 11), none, [11]⟩,
  ⟨some 46, .load 25 (.tmp 12), none, [12]⟩,
  ⟨some 47, .load 25 (.tmp 10), none, [10]⟩,
  ⟨some 48, .move (.tmp 8), none, [8]⟩,
  ⟨none, .store 25 (.tmp 4) (.tmp 45), none, [4, 45]⟩,
  ⟨none, .store 25 (.tmp 5) (.tmp 46), none, [5, 46]⟩,
  ⟨none, .store 25 (.tmp 6) (.tmp 47), none, [6, 47]⟩,
  ⟨some 7, .assign (.tmp 48), none, [48]⟩] [0, 0, 0, 0, 1, 19, 55, 127]
def S_law15_made : SC := (.seq S_law15_made_r0 (.seq S_law15_made_r1 (.seq S_law15_made_r2 (.seq S_law15_made_r3 (.seq S_law15_made_r4 (.seq S_law15_made_r5 (.seq (.seq S_law15_made_r6 (.cond (.tmp 37) S_law15_made_r7 .skip)) (.seq S_law15_made_r8 .ret))))))))
theorem BS_law15_made : Try.f43.body.bind stripC = some S_law15_made := by kernel_rfl
/-! make_Tape_Subst: function 51, 32 temporaries. -/
def S_make_Tape_Subst_r0 : SC := .reg [⟨some 6, .assign (.const (.slice none 0 0)), none⟩]
def S_make_Tape_Subst_r1 : SC := .reg [⟨some 7, .assign (.const (.slice none 0 0)), none⟩]
def S_make_Tape_Subst_r2 : SC := .reg [⟨some 8, .assign (.const (.int .i64 0)), none⟩]
def S_make_Tape_Subst_r3 : SC := .reg [⟨some 9, .move (.tmp 8), none⟩,
  ⟨some 10, .move (.tmp 2), none⟩,
  ⟨some 11, .binOp .lss 3 (.tmp 9) (.tmp 10) 3, none⟩]
def S_make_Tape_Subst_r4 : SC := .reg [⟨some 14, .move (.tmp 0), none⟩,
  ⟨some 15, .call ⟨.value (.func 58), #[(.tmp 14), (.const (.int .i64 3))], #[32, 3]⟩, none⟩,
  ⟨some 16, .binOp .gtr 3 (.tmp 15) (.const (.int .i64 0)) 3, none⟩]
def S_make_Tape_Subst_r5 : SC := .reg [⟨some 17, .move (.tmp 7), none⟩,
  ⟨some 18, .move (.tmp 8), none⟩,
  ⟨some 19, .move (.tmp 0), none⟩,
  ⟨some 20, .move (.tmp 1), none⟩,
  ⟨some 21, .move (.tmp 2), none⟩,
  ⟨some 22, .binOp .add 3 (.tmp 21) (.const (.int .i64 1)) 3, none⟩,
  ⟨some 23, .call ⟨.value (.func 32), #[(.tmp 22)], #[3]⟩, none⟩,
  ⟨some 24, .call ⟨.value (.func 59), #[(.const (.int .i64 (-1))), (.const (.int .i64 0))], #[3, 3]⟩, none⟩,
  ⟨some 25, .buildSlice 23 1 #[(0, (.tmp 24))], none⟩,
  ⟨some 26, .call ⟨.builtin .append, #[(.tmp 23), (.tmp 25)], #[23, 23]⟩, none⟩,
  ⟨some 27, .call ⟨.value (.func 31), #[(.tmp 19), (.tmp 20), (.tmp 26), (.const (.int .i64 1))], #[32, 40, 23, 3]⟩, none⟩,
  ⟨some 28, .build 75 #[(0, (.tmp 18)), (1, (.tmp 27))], none⟩,
  ⟨some 29, .buildSlice 69 1 #[(0, (.tmp 28))], none⟩,
  ⟨some 30, .call ⟨.builtin .append, #[(.tmp 17), (.tmp 29)], #[69, 69]⟩, none⟩,
  ⟨some 7, .assign (.tmp 30), none⟩]
def S_make_Tape_Subst_b0 : SC := .block 1 (.seq S_make_Tape_Subst_r4 (.cond (.tmp 16) S_make_Tape_Subst_r5 .skip))
def S_make_Tape_Subst_r6 : SC := .reg [⟨some 12, .move (.tmp 8), none⟩,
  ⟨some 13, .binOp .add 3 (.tmp 12) (.const (.int .i64 1)) 3, none⟩,
  ⟨some 8, .assign (.tmp 13), none⟩]
def S_make_Tape_Subst_l0 : SC := (.seq (.seq S_make_Tape_Subst_r3 (.cond (.tmp 11) .skip (.exit 0))) (.seq S_make_Tape_Subst_b0 S_make_Tape_Subst_r6))
def S_make_Tape_Subst_b1 : SC := .block 0 (.loop S_make_Tape_Subst_l0)
def S_make_Tape_Subst_r7 : SC := .reg [⟨some 31, .move (.tmp 7), none⟩,
  ⟨some 6, .assign (.tmp 31), none⟩]
def S_make_Tape_Subst : SC := (.seq S_make_Tape_Subst_r0 (.seq S_make_Tape_Subst_r1 (.seq (.seq S_make_Tape_Subst_r2 S_make_Tape_Subst_b1) (.seq S_make_Tape_Subst_r7 .ret))))
theorem BS_make_Tape_Subst : Try.f51.body.bind stripC = some S_make_Tape_Subst := by kernel_rfl
/-! lattice_Leq: function 54, 14 temporaries. -/
def S_lattice_Leq_r0 : SC := .reg [⟨some 2, .box 25 (.tmp 0), none⟩,
  ⟨some 3, .box 25 (.tmp 1), none⟩,
  ⟨some 4, .assign (.const (.bool false)), none⟩]
def S_lattice_Leq_r1 : SC := .reg [⟨some 8, .load 25 (.tmp 3), none⟩,
  ⟨some 9, .load 25 (.tmp 2), none⟩,
  ⟨some 10, .call ⟨.value (.func 90), #[(.tmp 8), (.tmp 9), (.const (.slice none 0 0))], #[25, 25, 69]⟩, none⟩,
  ⟨some 7, .move (.tmp 10), none⟩,
  ⟨some 11, .extract (.tmp 7) 0, none⟩,
  ⟨some 12, .extract (.tmp 7) 1, none⟩,
  ⟨some 5, .assign (.tmp 11), none⟩,
  ⟨some 6, .assign (.tmp 12), none⟩]
def S_lattice_Leq_r2 : SC := .reg [⟨some 13, .move (.tmp 6), none⟩,
  ⟨some 4, .assign (.tmp 13), none⟩]
def S_lattice_Leq : SC := (.seq S_lattice_Leq_r0 (.seq S_lattice_Leq_r1 (.seq S_lattice_Leq_r2 .ret)))
theorem BS_lattice_Leq : Try.f54.body.bind stripC = some S_lattice_Leq := by kernel_rfl
/-! lattice_Match: function 90, 21 temporaries. -/
def S_lattice_Match_r0 : SC := .reg [⟨some 3, .box 25 (.tmp 0), none⟩,
  ⟨some 4, .box 25 (.tmp 1), none⟩,
  ⟨some 6, .assign (.const (.slice none 0 0)), none⟩,
  ⟨some 7, .assign (.const (.bool false)), none⟩]
def S_lattice_Match_r1 : SC := .draw [⟨some 11, .load 25 (.tmp 3), none, [3]⟩,
  ⟨some 12, .load 25 (.tmp 4), none, [4]⟩,
  ⟨some 13, .move (.tmp 2), none, [2]⟩,
  ⟨some 14, .call ⟨.value (.func 108), #[(.tmp 13)], #[69]⟩, none, [13]⟩,
  ⟨some 15, .call ⟨.value (.func 107), #[(.tmp 11), (.tmp 12), (.tmp 14)], #[25, 25, 69]⟩, none, [11, 12, 14]⟩,
  ⟨some 10, .move (.tmp 15), none, [15]⟩,
  ⟨some 16, .extract (.tmp 10) 0, none, [10]⟩,
  ⟨some 17, .extract (.tmp 10) 1, none, [10]⟩,
  ⟨some 8, .assign (.tmp 16), none, [16]⟩,
  ⟨some 9, .assign (.tmp 17), none, [17]⟩] [0, 0, 0, 4, 15, 31, 63, 63, 127, 511]
def S_lattice_Match_r2 : SC := .reg [⟨some 18, .move (.tmp 9), none⟩,
  ⟨some 19, .unOp .not 4 (.tmp 18), none⟩]
def S_lattice_Match_r3 : SC := .reg [⟨some 6, .assign (.const (.slice none 0 0)), none⟩,
  ⟨some 7, .assign (.const (.bool false)), none⟩]
def S_lattice_Match_r4 : SC := .reg [⟨some 20, .move (.tmp 8), none⟩,
  ⟨some 6, .assign (.tmp 20), none⟩,
  ⟨some 7, .assign (.const (.bool true)), none⟩]
def S_lattice_Match : SC := (.seq S_lattice_Match_r0 (.seq S_lattice_Match_r1 (.seq (.seq S_lattice_Match_r2 (.cond (.tmp 19) (.seq S_lattice_Match_r3 .ret) .skip)) (.seq S_lattice_Match_r4 .ret))))
theorem BS_lattice_Match : Try.f90.body.bind stripC = some S_lattice_Match := by kernel_rfl
/-! lattice_match: function 107, 59 temporaries. -/
def S_lattice_match_r0 : SC := .reg [⟨some 3, .box 25 (.tmp 0), none⟩,
  ⟨some 4, .box 25 (.tmp 1), none⟩,
  ⟨some 6, .assign (.const (.slice none 0 0)), none⟩,
  ⟨some 7, .assign (.const (.bool false)), none⟩]
def S_lattice_match_r1 : SC := .reg [⟨some 10, .fieldAddr 25 (.tmp 3) 0, none⟩,
  ⟨some 11, .load 3 (.tmp 10), none⟩,
  ⟨some 12, .binOp .eql 3 (.tmp 11) (.const (.int .i64 1)) 3, none⟩]
def S_lattice_match_r2 : SC := .reg [⟨some 13, .move (.tmp 2), none⟩,
  ⟨some 14, .makeFunc (.func 128) #[] #[(.tmp 3)], none⟩,
  ⟨some 15, .call ⟨.value (.func 127), #[(.tmp 13), (.tmp 14)], #[69, 176]⟩, none⟩]
def S_lattice_match_r3 : SC := .draw [⟨some 16, .move (.tmp 2), none, [2]⟩,
  ⟨some 17, .move (.tmp 2), none, [2]⟩,
  ⟨some 18, .load 25 (.tmp 3), none, [3]⟩,
  ⟨some 19, .call ⟨.value (.func 129), #[(.tmp 17), (.tmp 18)], #[69, 25]⟩, none, [17, 18]⟩,
  ⟨some 20, .load 25 (.tmp 4), none, [4]⟩,
  ⟨some 21, .call ⟨.value (.func 126), #[(.tmp 19), (.tmp 20)], #[25, 25]⟩, none, [19, 20]⟩,
  ⟨some 6, .assign (.tmp 16), none, [16]⟩,
  ⟨some 7, .assign (.tmp 21), none, [21]⟩] [0, 0, 0, 6, 0, 30, 63, 127]
def S_lattice_match_r4 : SC := .reg [⟨some 22, .move (.tmp 2), none⟩,
  ⟨some 23, .fieldAddr 25 (.tmp 3) 2, none⟩,
  ⟨some 24, .load 3 (.tmp 23), none⟩,
  ⟨some 25, .load 25 (.tmp 4), none⟩,
  ⟨some 26, .build 75 #[(0, (.tmp 24)), (1, (.tmp 25))], none⟩,
  ⟨some 27, .buildSlice 69 1 #[(0, (.tmp 26))], none⟩,
  ⟨some 28, .call ⟨.builtin .append, #[(.tmp 22), (.tmp 27)], #[69, 69]⟩, none⟩,
  ⟨some 6, .assign (.tmp 28), none⟩,
  ⟨some 7, .assign (.const (.bool true)), none⟩]
def S_lattice_match_r5 : SC := .reg [⟨some 29, .load 25 (.tmp 3), none⟩,
  ⟨some 30, .load 25 (.tmp 4), none⟩,
  ⟨some 31, .call ⟨.value (.func 103), #[(.tmp 29), (.tmp 30)], #[25, 25]⟩, none⟩,
  ⟨some 8, .assign (.tmp 31), none⟩]
def S_lattice_match_r6 : SC := .reg [⟨some 9, .assign (.const (.int .i64 0)), none⟩]
def S_lattice_match_r7 : SC := .reg [⟨some 32, .move (.tmp 8), none⟩,
  ⟨some 33, .move (.tmp 32), none⟩,
  ⟨some 34, .move (.tmp 9), some (33, true)⟩,
  ⟨some 35, .fieldAddr 25 (.tmp 4) 4, some (33, true)⟩,
  ⟨some 36, .load 23 (.tmp 35), some (33, true)⟩,
  ⟨some 37, .call ⟨.builtin .len, #[(.tmp 36)], #[23]⟩, some (33, true)⟩,
  ⟨some 38, .binOp .lss 3 (.tmp 34) (.tmp 37) 3, some (33, true)⟩,
  ⟨some 39, .pick (.tmp 33) (.tmp 38) (.const (.bool false)), none⟩]
def S_lattice_match_r8 : SC := .draw [⟨some 43, .fieldAddr 25 (.tmp 3) 4, none, [3]⟩,
  ⟨some 44, .load 23 (.tmp 43), none, [43]⟩,
  ⟨some 45, .move (.tmp 9), none, [9]⟩,
  ⟨some 46, .indexAddr 23 (.tmp 44) (.tmp 45), none, [44, 45]⟩,
  ⟨some 47, .load 25 (.tmp 46), none, [46]⟩,
  ⟨some 48, .fieldAddr 25 (.tmp 4) 4, none, [4]⟩,
  ⟨some 49, .load 23 (.tmp 48), none, [48]⟩,
  ⟨some 50, .move (.tmp 9), none, [9]⟩,
  ⟨some 51, .indexAddr 23 (.tmp 49) (.tmp 50), none, [49, 50]⟩,
  ⟨some 52, .load 25 (.tmp 51), none, [51]⟩,
  ⟨some 53, .move (.tmp 2), none, [2]⟩,
  ⟨some 54, .call ⟨.value (.func 107), #[(.tmp 47), (.tmp 52), (.tmp 53)], #[25, 25, 69]⟩, none, [47, 52, 53]⟩,
  ⟨some 42, .move (.tmp 54), none, [54]⟩,
  ⟨some 55, .extract (.tmp 42) 0, none, [42]⟩,
  ⟨some 56, .extract (.tmp 42) 1, none, [42]⟩,
  ⟨some 2, .assign (.tmp 55), none, [55]⟩,
  ⟨some 8, .assign (.tmp 56), none, [56]⟩] [0, 1, 0, 7, 15, 0, 32, 0, 224, 480, 0, 2047, 4095, 8191, 8191, 16383, 65535]
def S_lattice_match_b0 : SC := .block 1 S_lattice_match_r8
def S_lattice_match_r9 : SC := .reg [⟨some 40, .move (.tmp 9), none⟩,
  ⟨some 41, .binOp .add 3 (.tmp 40) (.const (.int .i64 1)) 3, none⟩,
  ⟨some 9, .assign (.tmp 41), none⟩]
def S_lattice_match_l0 : SC := (.seq (.seq S_lattice_match_r7 (.cond (.tmp 39) .skip (.exit 0))) (.seq S_lattice_match_b0 S_lattice_match_r9))
def S_lattice_match_b1 : SC := .block 0 (.loop S_lattice_match_l0)
def S_lattice_match_r10 : SC := .reg [⟨some 57, .move (.tmp 2), none⟩,
  ⟨some 58, .move (.tmp 8), none⟩,
  ⟨some 6, .assign (.tmp 57), none⟩,
  ⟨some 7, .assign (.tmp 58), none⟩]
def S_lattice_match : SC := (.seq S_lattice_match_r0 (.seq (.seq S_lattice_match_r1 (.cond (.tmp 12) (.seq (.seq S_lattice_match_r2 (.cond (.tmp 15) (.seq S_lattice_match_r3 .ret) .skip)) (.seq S_lattice_match_r4 .ret)) .skip)) (.seq S_lattice_match_r5 (.seq (.seq S_lattice_match_r6 S_lattice_match_b1) (.seq S_lattice_match_r10 .ret)))))
theorem BS_lattice_match : Try.f107.body.bind stripC = some S_lattice_match := by kernel_rfl
/-! lattice_match_1: function 128, 9 temporaries. -/
def S_lattice_match_1_r0 : SC := .reg [⟨some 2, .box 75 (.tmp 0), none⟩,
  ⟨some 3, .assign (.const (.bool false)), none⟩]
def S_lattice_match_1_r1 : SC := .reg [⟨some 4, .fieldAddr 75 (.tmp 2) 0, none⟩,
  ⟨some 5, .load 3 (.tmp 4), none⟩,
  ⟨some 6, .fieldAddr 25 (.tmp 1) 2, none⟩,
  ⟨some 7, .load 3 (.tmp 6), none⟩,
  ⟨some 8, .binOp .eql 3 (.tmp 5) (.tmp 7) 3, none⟩,
  ⟨some 3, .assign (.tmp 8), none⟩]
def S_lattice_match_1 : SC := (.seq S_lattice_match_1_r0 (.seq S_lattice_match_1_r1 .ret))
theorem BS_lattice_match_1 : Try.f128.body.bind stripC = some S_lattice_match_1 := by kernel_rfl
/-! lattice_same: function 103, 40 temporaries. -/
def S_lattice_same_r0 : SC := .reg [⟨some 2, .box 25 (.tmp 0), none⟩,
  ⟨some 3, .box 25 (.tmp 1), none⟩,
  ⟨some 4, .assign (.const (.bool false)), none⟩]
def S_lattice_same_r1 : SC := .reg [⟨some 5, .fieldAddr 25 (.tmp 2) 0, none⟩,
  ⟨some 6, .load 3 (.tmp 5), none⟩,
  ⟨some 7, .fieldAddr 25 (.tmp 3) 0, none⟩,
  ⟨some 8, .load 3 (.tmp 7), none⟩,
  ⟨some 9, .binOp .eql 3 (.tmp 6) (.tmp 8) 3, none⟩,
  ⟨some 10, .move (.tmp 9), none⟩,
  ⟨some 11, .fieldAddr 25 (.tmp 2) 1, some (10, true)⟩,
  ⟨some 12, .load 9 (.tmp 11), some (10, true)⟩,
  ⟨some 13, .fieldAddr 25 (.tmp 3) 1, some (10, true)⟩,
  ⟨some 14, .load 9 (.tmp 13), some (10, true)⟩,
  ⟨some 15, .binOp .eql 9 (.tmp 12) (.tmp 14) 9, some (10, true)⟩,
  ⟨some 16, .pick (.tmp 10) (.tmp 15) (.const (.bool false)), none⟩,
  ⟨some 17, .move (.tmp 16), none⟩,
  ⟨some 18, .fieldAddr 25 (.tmp 2) 2, some (17, true)⟩,
  ⟨some 19, .load 3 (.tmp 18), some (17, true)⟩,
  ⟨some 20, .fieldAddr 25 (.tmp 3) 2, some (17, true)⟩,
  ⟨some 21, .load 3 (.tmp 20), some (17, true)⟩,
  ⟨some 22, .binOp .eql 3 (.tmp 19) (.tmp 21) 3, some (17, true)⟩,
  ⟨some 23, .pick (.tmp 17) (.tmp 22) (.const (.bool false)), none⟩,
  ⟨some 24, .move (.tmp 23), none⟩,
  ⟨some 25, .fieldAddr 25 (.tmp 2) 3, some (24, true)⟩,
  ⟨some 26, .load 3 (.tmp 25), some (24, true)⟩,
  ⟨some 27, .fieldAddr 25 (.tmp 3) 3, some (24, true)⟩,
  ⟨some 28, .load 3 (.tmp 27), some (24, true)⟩,
  ⟨some 29, .binOp .eql 3 (.tmp 26) (.tmp 28) 3, some (24, true)⟩,
  ⟨some 30, .pick (.tmp 24) (.tmp 29) (.const (.bool false)), none⟩,
  ⟨some 31, .move (.tmp 30), none⟩,
  ⟨some 32, .fieldAddr 25 (.tmp 2) 4, some (31, true)⟩,
  ⟨some 33, .load 23 (.tmp 32), some (31, true)⟩,
  ⟨some 34, .call ⟨.builtin .len, #[(.tmp 33)], #[23]⟩, some (31, true)⟩,
  ⟨some 35, .fieldAddr 25 (.tmp 3) 4, some (31, true)⟩,
  ⟨some 36, .load 23 (.tmp 35), some (31, true)⟩,
  ⟨some 37, .call ⟨.builtin .len, #[(.tmp 36)], #[23]⟩, some (31, true)⟩,
  ⟨some 38, .binOp .eql 3 (.tmp 34) (.tmp 37) 3, some (31, true)⟩,
  ⟨some 39, .pick (.tmp 31) (.tmp 38) (.const (.bool false)), none⟩,
  ⟨some 4, .assign (.tmp 39), none⟩]
def S_lattice_same : SC := (.seq S_lattice_same_r0 (.seq S_lattice_same_r1 .ret))
theorem BS_lattice_same : Try.f103.body.bind stripC = some S_lattice_same := by kernel_rfl
/-! lattice_common: function 89, 67 temporaries. -/
def S_lattice_common_r0 : SC := .reg [⟨some 3, .box 25 (.tmp 0), none⟩,
  ⟨some 4, .box 25 (.tmp 1), none⟩,
  ⟨some 6, .alloc 25, none⟩,
  ⟨some 7, .assign (.const (.slice none 0 0)), none⟩]
def S_lattice_common_r1 : SC := .reg [⟨some 11, .load 25 (.tmp 3), none⟩,
  ⟨some 12, .load 25 (.tmp 4), none⟩,
  ⟨some 13, .call ⟨.value (.func 103), #[(.tmp 11), (.tmp 12)], #[25, 25]⟩, none⟩,
  ⟨some 14, .move (.tmp 13), none⟩,
  ⟨some 15, .fieldAddr 25 (.tmp 3) 0, some (14, true)⟩,
  ⟨some 16, .load 3 (.tmp 15), some (14, true)⟩,
  ⟨some 17, .binOp .neq 3 (.tmp 16) (.const (.int .i64 1)) 3, some (14, true)⟩,
  ⟨some 18, .pick (.tmp 14) (.tmp 17) (.const (.bool false)), none⟩]
def S_lattice_common_r2 : SC := .reg [⟨some 19, .fieldAddr 25 (.tmp 3) 4, none⟩,
  ⟨some 20, .load 23 (.tmp 19), none⟩,
  ⟨some 21, .call ⟨.builtin .len, #[(.tmp 20)], #[23]⟩, none⟩,
  ⟨some 22, .makeSlice 23 (.tmp 21) (.tmp 21), none⟩,
  ⟨some 8, .assign (.tmp 22), none⟩]
def S_lattice_common_r3 : SC := .reg [⟨some 23, .move (.tmp 8), none⟩,
  ⟨some 24, .call ⟨.builtin .len, #[(.tmp 23)], #[23]⟩, none⟩,
  ⟨some 25, .move (.const (.int .i64 0)), none⟩]
def S_lattice_common_r4 : SC := .reg [⟨some 26, .binOp .lss 3 (.tmp 25) (.tmp 24) 3, none⟩]
def S_lattice_common_r5 : SC := .reg [⟨some 27, .move (.tmp 25), none⟩,
  ⟨some 9, .assign (.tmp 27), none⟩]
def S_lattice_common_r6 : SC := .draw [⟨some 29, .move (.tmp 8), none, [8]⟩,
  ⟨some 30, .move (.tmp 9), none, [9]⟩,
  ⟨some 31, .fieldAddr 25 (.tmp 3) 4, none, [3]⟩,
  ⟨some 32, .load 23 (.tmp 31), none, [31]⟩,
  ⟨some 33, .move (.tmp 9), none, [9]⟩,
  ⟨some 34, .indexAddr 23 (.tmp 32) (.tmp 33), none, [32, 33]⟩,
  ⟨some 35, .load 25 (.tmp 34), none, [34]⟩,
  ⟨some 36, .fieldAddr 25 (.tmp 4) 4, none, [4]⟩,
  ⟨some 37, .load 23 (.tmp 36), none, [36]⟩,
  ⟨some 38, .move (.tmp 9), none, [9]⟩,
  ⟨some 39, .indexAddr 23 (.tmp 37) (.tmp 38), none, [37, 38]⟩,
  ⟨some 40, .load 25 (.tmp 39), none, [39]⟩,
  ⟨some 41, .move (.tmp 2), none, [2]⟩,
  ⟨some 42, .call ⟨.value (.func 89), #[(.tmp 35), (.tmp 40), (.tmp 41)], #[25, 25, 129]⟩, none, [35, 40, 41]⟩,
  ⟨some 28, .move (.tmp 42), none, [42]⟩,
  ⟨some 43, .extract (.tmp 28) 0, none, [28]⟩,
  ⟨some 44, .extract (.tmp 28) 1, none, [28]⟩,
  ⟨some 45, .indexAddr 23 (.tmp 29) (.tmp 30), none, [29, 30]⟩,
  ⟨none, .store 25 (.tmp 45) (.tmp 43), none, [45, 43]⟩,
  ⟨some 2, .assign (.tmp 44), none, [44]⟩] [0, 0, 0, 4, 0, 28, 60, 0, 128, 0, 896, 1920, 0, 8188, 16380, 32764, 32764, 65535, 196607, 524287]
def S_lattice_common_b0 : SC := .block 1 (.seq S_lattice_common_r5 S_lattice_common_r6)
def S_lattice_common_r7 : SC := .reg [⟨some 46, .binOp .add 3 (.tmp 25) (.const (.int .i64 1)) 3, none⟩,
  ⟨some 25, .move (.tmp 46), none⟩]
def S_lattice_common_l0 : SC := (.seq S_lattice_common_r4 (.seq (.cond (.tmp 26) .skip (.exit 0)) (.seq S_lattice_common_b0 S_lattice_common_r7)))
def S_lattice_common_b1 : SC := .block 0 (.loop S_lattice_common_l0)
def S_lattice_common_r8 : SC := .reg [⟨some 47, .move (.tmp 8), none⟩,
  ⟨some 48, .fieldAddr 25 (.tmp 3) 4, none⟩,
  ⟨none, .store 23 (.tmp 48) (.tmp 47), none⟩]
def S_lattice_common_r9 : SC := .reg [⟨some 49, .load 25 (.tmp 3), none⟩,
  ⟨some 50, .move (.tmp 2), none⟩,
  ⟨none, .store 25 (.tmp 6) (.tmp 49), none⟩,
  ⟨some 7, .assign (.tmp 50), none⟩]
def S_lattice_common_r10 : SC := .reg [⟨some 51, .move (.tmp 2), none⟩,
  ⟨some 52, .makeFunc (.func 105) #[] #[(.tmp 3), (.tmp 4)], none⟩,
  ⟨some 53, .call ⟨.value (.func 104), #[(.tmp 51), (.tmp 52)], #[129, 150]⟩, none⟩,
  ⟨some 10, .assign (.tmp 53), none⟩]
def S_lattice_common_r11 : SC := .reg [⟨some 54, .move (.tmp 10), none⟩,
  ⟨some 55, .binOp .lss 3 (.tmp 54) (.const (.int .i64 0)) 3, none⟩]
def S_lattice_common_r12 : SC := .reg [⟨some 56, .move (.tmp 2), none⟩,
  ⟨some 57, .call ⟨.builtin .len, #[(.tmp 56)], #[129]⟩, none⟩,
  ⟨some 10, .assign (.tmp 57), none⟩]
def S_lattice_common_r13 : SC := .reg [⟨some 58, .move (.tmp 2), none⟩,
  ⟨some 59, .load 25 (.tmp 3), none⟩,
  ⟨some 60, .load 25 (.tmp 4), none⟩,
  ⟨some 61, .build 133 #[(0, (.tmp 59)), (1, (.tmp 60))], none⟩,
  ⟨some 62, .buildSlice 129 1 #[(0, (.tmp 61))], none⟩,
  ⟨some 63, .call ⟨.builtin .append, #[(.tmp 58), (.tmp 62)], #[129, 129]⟩, none⟩,
  ⟨some 2, .assign (.tmp 63), none⟩]
def S_lattice_common_r14 : SC := .reg [⟨some 64, .move (.tmp 10), none⟩,
  ⟨some 65, .call ⟨.value (.func 63), #[(.tmp 64)], #[3]⟩, none⟩,
  ⟨some 66, .move (.tmp 2), none⟩,
  ⟨none, .store 25 (.tmp 6) (.tmp 65), none⟩,
  ⟨some 7, .assign (.tmp 66), none⟩]
def S_lattice_common : SC := (.seq S_lattice_common_r0 (.seq (.seq S_lattice_common_r1 (.cond (.tmp 18) (.seq S_lattice_common_r2 (.seq (.seq S_lattice_common_r3 S_lattice_common_b1) (.seq S_lattice_common_r8 (.seq S_lattice_common_r9 .ret)))) .skip)) (.seq S_lattice_common_r10 (.seq (.seq S_lattice_common_r11 (.cond (.tmp 55) (.seq S_lattice_common_r12 S_lattice_common_r13) .skip)) (.seq S_lattice_common_r14 .ret)))))
theorem BS_lattice_common : Try.f89.body.bind stripC = some S_lattice_common := by kernel_rfl
/-! lattice_common_1: function 105, 9 temporaries. -/
def S_lattice_common_1_r0 : SC := .reg [⟨some 3, .box 133 (.tmp 0), none⟩,
  ⟨some 4, .assign (.const (.bool false)), none⟩]
def S_lattice_common_1_r1 : SC := .reg [⟨some 5, .load 133 (.tmp 3), none⟩,
  ⟨some 6, .load 25 (.tmp 1), none⟩,
  ⟨some 7, .load 25 (.tmp 2), none⟩,
  ⟨some 8, .call ⟨.value (.func 106), #[(.tmp 5), (.tmp 6), (.tmp 7)], #[133, 25, 25]⟩, none⟩,
  ⟨some 4, .assign (.tmp 8), none⟩]
def S_lattice_common_1 : SC := (.seq S_lattice_common_1_r0 (.seq S_lattice_common_1_r1 .ret))
theorem BS_lattice_common_1 : Try.f105.body.bind stripC = some S_lattice_common_1 := by kernel_rfl
/-! lattice_Common: function 53, 44 temporaries. -/
def S_lattice_Common_r0 : SC := .reg [⟨some 2, .box 25 (.tmp 0), none⟩,
  ⟨some 3, .box 25 (.tmp 1), none⟩,
  ⟨some 4, .alloc 25, none⟩,
  ⟨some 5, .assign (.const (.slice none 0 0)), none⟩,
  ⟨some 6, .assign (.const (.slice none 0 0)), none⟩]
def S_lattice_Common_r1 : SC := .reg [⟨some 14, .load 25 (.tmp 2), none⟩,
  ⟨some 15, .load 25 (.tmp 3), none⟩,
  ⟨some 16, .call ⟨.value (.func 89), #[(.tmp 14), (.tmp 15), (.const (.slice none 0 0))], #[25, 25, 129]⟩, none⟩,
  ⟨some 13, .move (.tmp 16), none⟩,
  ⟨some 17, .extract (.tmp 13) 0, none⟩,
  ⟨some 18, .extract (.tmp 13) 1, none⟩,
  ⟨some 7, .alloc 25, none⟩,
  ⟨none, .store 25 (.tmp 7) (.tmp 17), none⟩,
  ⟨some 8, .assign (.tmp 18), none⟩]
def S_lattice_Common_r2 : SC := .reg [⟨some 9, .assign (.const (.slice none 0 0)), none⟩,
  ⟨some 10, .assign (.const (.slice none 0 0)), none⟩]
def S_lattice_Common_r3 : SC := .reg [⟨some 19, .move (.tmp 8), none⟩,
  ⟨some 20, .call ⟨.builtin .len, #[(.tmp 19)], #[129]⟩, none⟩,
  ⟨some 21, .move (.const (.int .i64 0)), none⟩]
def S_lattice_Common_r4 : SC := .reg [⟨some 22, .binOp .lss 3 (.tmp 21) (.tmp 20) 3, none⟩]
def S_lattice_Common_r5 : SC := .reg [⟨some 23, .move (.tmp 21), none⟩,
  ⟨some 24, .indexAddr 129 (.tmp 19) (.tmp 21), none⟩,
  ⟨some 25, .load 133 (.tmp 24), none⟩,
  ⟨some 12, .alloc 133, none⟩,
  ⟨some 11, .assign (.tmp 23), none⟩,
  ⟨none, .store 133 (.tmp 12) (.tmp 25), none⟩]
def S_lattice_Common_r6 : SC := .reg [⟨some 26, .move (.tmp 9), none⟩,
  ⟨some 27, .move (.tmp 11), none⟩,
  ⟨some 28, .fieldAddr 133 (.tmp 12) 0, none⟩,
  ⟨some 29, .load 25 (.tmp 28), none⟩,
  ⟨some 30, .build 75 #[(0, (.tmp 27)), (1, (.tmp 29))], none⟩,
  ⟨some 31, .buildSlice 69 1 #[(0, (.tmp 30))], none⟩,
  ⟨some 32, .call ⟨.builtin .append, #[(.tmp 26), (.tmp 31)], #[69, 69]⟩, none⟩,
  ⟨some 9, .assign (.tmp 32), none⟩]
def S_lattice_Common_r7 : SC := .reg [⟨some 33, .move (.tmp 10), none⟩,
  ⟨some 34, .move (.tmp 11), none⟩,
  ⟨some 35, .fieldAddr 133 (.tmp 12) 1, none⟩,
  ⟨some 36, .load 25 (.tmp 35), none⟩,
  ⟨some 37, .build 75 #[(0, (.tmp 34)), (1, (.tmp 36))], none⟩,
  ⟨some 38, .buildSlice 69 1 #[(0, (.tmp 37))], none⟩,
  ⟨some 39, .call ⟨.builtin .append, #[(.tmp 33), (.tmp 38)], #[69, 69]⟩, none⟩,
  ⟨some 10, .assign (.tmp 39), none⟩]
def S_lattice_Common_b0 : SC := .block 1 (.seq S_lattice_Common_r5 (.seq S_lattice_Common_r6 S_lattice_Common_r7))
def S_lattice_Common_r8 : SC := .reg [⟨some 40, .binOp .add 3 (.tmp 21) (.const (.int .i64 1)) 3, none⟩,
  ⟨some 21, .move (.tmp 40), none⟩]
def S_lattice_Common_l0 : SC := (.seq S_lattice_Common_r4 (.seq (.cond (.tmp 22) .skip (.exit 0)) (.seq S_lattice_Common_b0 S_lattice_Common_r8)))
def S_lattice_Common_b1 : SC := .block 0 (.loop S_lattice_Common_l0)
def S_lattice_Common_r9 : SC := .reg [⟨some 41, .load 25 (.tmp 7), none⟩,
  ⟨some 42, .move (.tmp 9), none⟩,
  ⟨some 43, .move (.tmp 10), none⟩,
  ⟨none, .store 25 (.tmp 4) (.tmp 41), none⟩,
  ⟨some 5, .assign (.tmp 42), none⟩,
  ⟨some 6, .assign (.tmp 43), none⟩]
def S_lattice_Common : SC := (.seq S_lattice_Common_r0 (.seq S_lattice_Common_r1 (.seq S_lattice_Common_r2 (.seq (.seq S_lattice_Common_r3 S_lattice_Common_b1) (.seq S_lattice_Common_r9 .ret)))))
theorem BS_lattice_Common : Try.f53.body.bind stripC = some S_lattice_Common := by kernel_rfl
/-! lattice_pair_equal: function 106, 17 temporaries. -/
def S_lattice_pair_equal_r0 : SC := .reg [⟨some 3, .box 133 (.tmp 0), none⟩,
  ⟨some 4, .box 25 (.tmp 1), none⟩,
  ⟨some 5, .box 25 (.tmp 2), none⟩,
  ⟨some 6, .assign (.const (.bool false)), none⟩]
def S_lattice_pair_equal_r1 : SC := .reg [⟨some 7, .fieldAddr 133 (.tmp 3) 0, none⟩,
  ⟨some 8, .load 25 (.tmp 7), none⟩,
  ⟨some 9, .load 25 (.tmp 4), none⟩,
  ⟨some 10, .call ⟨.value (.func 126), #[(.tmp 8), (.tmp 9)], #[25, 25]⟩, none⟩,
  ⟨some 11, .move (.tmp 10), none⟩,
  ⟨some 12, .fieldAddr 133 (.tmp 3) 1, some (11, true)⟩,
  ⟨some 13, .load 25 (.tmp 12), some (11, true)⟩,
  ⟨some 14, .load 25 (.tmp 5), some (11, true)⟩,
  ⟨some 15, .call ⟨.value (.func 126), #[(.tmp 13), (.tmp 14)], #[25, 25]⟩, some (11, true)⟩,
  ⟨some 16, .pick (.tmp 11) (.tmp 15) (.const (.bool false)), none⟩,
  ⟨some 6, .assign (.tmp 16), none⟩]
def S_lattice_pair_equal : SC := (.seq S_lattice_pair_equal_r0 (.seq S_lattice_pair_equal_r1 .ret))
theorem BS_lattice_pair_equal : Try.f106.body.bind stripC = some S_lattice_pair_equal := by kernel_rfl
/-! slices_IndexFunc__lattice_pairlattice_pair: function 104, 19 temporaries. -/
def S_slices_IndexFunc__lattice_pairlattice_pair_r0 : SC := .reg [⟨some 4, .assign (.const (.int .i64 0)), none⟩]
def S_slices_IndexFunc__lattice_pairlattice_pair_r1 : SC := .reg [⟨some 6, .move (.tmp 0), none⟩,
  ⟨some 7, .call ⟨.builtin .len, #[(.tmp 6)], #[129]⟩, none⟩,
  ⟨some 8, .move (.const (.int .i64 0)), none⟩]
def S_slices_IndexFunc__lattice_pairlattice_pair_r2 : SC := .reg [⟨some 9, .binOp .lss 3 (.tmp 8) (.tmp 7) 3, none⟩]
def S_slices_IndexFunc__lattice_pairlattice_pair_r3 : SC := .reg [⟨some 10, .move (.tmp 8), none⟩,
  ⟨some 5, .assign (.tmp 10), none⟩]
def S_slices_IndexFunc__lattice_pairlattice_pair_r4 : SC := .reg [⟨some 11, .move (.tmp 1), none⟩,
  ⟨some 12, .move (.tmp 0), none⟩,
  ⟨some 13, .move (.tmp 5), none⟩,
  ⟨some 14, .indexAddr 129 (.tmp 12) (.tmp 13), none⟩,
  ⟨some 15, .load 133 (.tmp 14), none⟩,
  ⟨some 16, .call ⟨.value (.tmp 11), #[(.tmp 15)], #[133]⟩, none⟩]
def S_slices_IndexFunc__lattice_pairlattice_pair_r5 : SC := .reg [⟨some 17, .move (.tmp 5), none⟩,
  ⟨some 4, .assign (.tmp 17), none⟩]
def S_slices_IndexFunc__lattice_pairlattice_pair_b0 : SC := .block 1 (.seq S_slices_IndexFunc__lattice_pairlattice_pair_r3 (.seq S_slices_IndexFunc__lattice_pairlattice_pair_r4 (.cond (.tmp 16) (.seq S_slices_IndexFunc__lattice_pairlattice_pair_r5 .ret) .skip)))
def S_slices_IndexFunc__lattice_pairlattice_pair_r6 : SC := .reg [⟨some 18, .binOp .add 3 (.tmp 8) (.const (.int .i64 1)) 3, none⟩,
  ⟨some 8, .move (.tmp 18), none⟩]
def S_slices_IndexFunc__lattice_pairlattice_pair_l0 : SC := (.seq S_slices_IndexFunc__lattice_pairlattice_pair_r2 (.seq (.cond (.tmp 9) .skip (.exit 0)) (.seq S_slices_IndexFunc__lattice_pairlattice_pair_b0 S_slices_IndexFunc__lattice_pairlattice_pair_r6)))
def S_slices_IndexFunc__lattice_pairlattice_pair_b1 : SC := .block 0 (.loop S_slices_IndexFunc__lattice_pairlattice_pair_l0)
def S_slices_IndexFunc__lattice_pairlattice_pair_r7 : SC := .reg [⟨some 4, .assign (.const (.int .i64 (-1))), none⟩]
def S_slices_IndexFunc__lattice_pairlattice_pair : SC := (.seq S_slices_IndexFunc__lattice_pairlattice_pair_r0 (.seq (.seq S_slices_IndexFunc__lattice_pairlattice_pair_r1 S_slices_IndexFunc__lattice_pairlattice_pair_b1) (.seq S_slices_IndexFunc__lattice_pairlattice_pair_r7 .ret)))
theorem BS_slices_IndexFunc__lattice_pairlattice_pair : Try.f104.body.bind stripC = some S_slices_IndexFunc__lattice_pairlattice_pair := by kernel_rfl
/-! slices_IndexFunc__api_Assignapi_Assign: function 147, 19 temporaries. -/
def S_slices_IndexFunc__api_Assignapi_Assign_r0 : SC := .reg [⟨some 4, .assign (.const (.int .i64 0)), none⟩]
def S_slices_IndexFunc__api_Assignapi_Assign_r1 : SC := .reg [⟨some 6, .move (.tmp 0), none⟩,
  ⟨some 7, .call ⟨.builtin .len, #[(.tmp 6)], #[69]⟩, none⟩,
  ⟨some 8, .move (.const (.int .i64 0)), none⟩]
def S_slices_IndexFunc__api_Assignapi_Assign_r2 : SC := .reg [⟨some 9, .binOp .lss 3 (.tmp 8) (.tmp 7) 3, none⟩]
def S_slices_IndexFunc__api_Assignapi_Assign_r3 : SC := .reg [⟨some 10, .move (.tmp 8), none⟩,
  ⟨some 5, .assign (.tmp 10), none⟩]
def S_slices_IndexFunc__api_Assignapi_Assign_r4 : SC := .reg [⟨some 11, .move (.tmp 1), none⟩,
  ⟨some 12, .move (.tmp 0), none⟩,
  ⟨some 13, .move (.tmp 5), none⟩,
  ⟨some 14, .indexAddr 69 (.tmp 12) (.tmp 13), none⟩,
  ⟨some 15, .load 75 (.tmp 14), none⟩,
  ⟨some 16, .call ⟨.value (.tmp 11), #[(.tmp 15)], #[75]⟩, none⟩]
def S_slices_IndexFunc__api_Assignapi_Assign_r5 : SC := .reg [⟨some 17, .move (.tmp 5), none⟩,
  ⟨some 4, .assign (.tmp 17), none⟩]
def S_slices_IndexFunc__api_Assignapi_Assign_b0 : SC := .block 1 (.seq S_slices_IndexFunc__api_Assignapi_Assign_r3 (.seq S_slices_IndexFunc__api_Assignapi_Assign_r4 (.cond (.tmp 16) (.seq S_slices_IndexFunc__api_Assignapi_Assign_r5 .ret) .skip)))
def S_slices_IndexFunc__api_Assignapi_Assign_r6 : SC := .reg [⟨some 18, .binOp .add 3 (.tmp 8) (.const (.int .i64 1)) 3, none⟩,
  ⟨some 8, .move (.tmp 18), none⟩]
def S_slices_IndexFunc__api_Assignapi_Assign_l0 : SC := (.seq S_slices_IndexFunc__api_Assignapi_Assign_r2 (.seq (.cond (.tmp 9) .skip (.exit 0)) (.seq S_slices_IndexFunc__api_Assignapi_Assign_b0 S_slices_IndexFunc__api_Assignapi_Assign_r6)))
def S_slices_IndexFunc__api_Assignapi_Assign_b1 : SC := .block 0 (.loop S_slices_IndexFunc__api_Assignapi_Assign_l0)
def S_slices_IndexFunc__api_Assignapi_Assign_r7 : SC := .reg [⟨some 4, .assign (.const (.int .i64 (-1))), none⟩]
def S_slices_IndexFunc__api_Assignapi_Assign : SC := (.seq S_slices_IndexFunc__api_Assignapi_Assign_r0 (.seq (.seq S_slices_IndexFunc__api_Assignapi_Assign_r1 S_slices_IndexFunc__api_Assignapi_Assign_b1) (.seq S_slices_IndexFunc__api_Assignapi_Assign_r7 .ret)))
theorem BS_slices_IndexFunc__api_Assignapi_Assign : Try.f147.body.bind stripC = some S_slices_IndexFunc__api_Assignapi_Assign := by kernel_rfl
/-! slices_ContainsFunc__api_Assignapi_Assign: function 127, 9 temporaries. -/
def S_slices_ContainsFunc__api_Assignapi_Assign_r0 : SC := .reg [⟨some 4, .assign (.const (.bool false)), none⟩]
def S_slices_ContainsFunc__api_Assignapi_Assign_r1 : SC := .reg [⟨some 5, .move (.tmp 0), none⟩,
  ⟨some 6, .move (.tmp 1), none⟩,
  ⟨some 7, .call ⟨.value (.func 147), #[(.tmp 5), (.tmp 6)], #[69, 176]⟩, none⟩,
  ⟨some 8, .binOp .geq 3 (.tmp 7) (.const (.int .i64 0)) 3, none⟩,
  ⟨some 4, .assign (.tmp 8), none⟩]
def S_slices_ContainsFunc__api_Assignapi_Assign : SC := (.seq S_slices_ContainsFunc__api_Assignapi_Assign_r0 (.seq S_slices_ContainsFunc__api_Assignapi_Assign_r1 .ret))
theorem BS_slices_ContainsFunc__api_Assignapi_Assign : Try.f127.body.bind stripC = some S_slices_ContainsFunc__api_Assignapi_Assign := by kernel_rfl
/-! slices_Clip__api_Assignapi_Assign: function 108, 9 temporaries. -/
def S_slices_Clip__api_Assignapi_Assign_r0 : SC := .reg [⟨some 2, .assign (.const (.slice none 0 0)), none⟩]
def S_slices_Clip__api_Assignapi_Assign_r1 : SC := .reg [⟨some 3, .move (.tmp 0), none⟩,
  ⟨some 4, .move (.tmp 0), none⟩,
  ⟨some 5, .call ⟨.builtin .len, #[(.tmp 4)], #[69]⟩, none⟩,
  ⟨some 6, .move (.tmp 0), none⟩,
  ⟨some 7, .call ⟨.builtin .len, #[(.tmp 6)], #[69]⟩, none⟩,
  ⟨some 8, .slice 69 (.tmp 3) none (some (.tmp 5)) (some (.tmp 7)), none⟩,
  ⟨some 2, .assign (.tmp 8), none⟩]
def S_slices_Clip__api_Assignapi_Assign : SC := (.seq S_slices_Clip__api_Assignapi_Assign_r0 (.seq S_slices_Clip__api_Assignapi_Assign_r1 .ret))
theorem BS_slices_Clip__api_Assignapi_Assign : Try.f108.body.bind stripC = some S_slices_Clip__api_Assignapi_Assign := by kernel_rfl
/-! subst_Apply: function 129, 8 temporaries. -/
def S_subst_Apply_r0 : SC := .reg [⟨some 3, .box 25 (.tmp 1), none⟩,
  ⟨some 4, .alloc 25, none⟩]
def S_subst_Apply_r1 : SC := .reg [⟨some 5, .load 25 (.tmp 3), none⟩,
  ⟨some 6, .move (.tmp 0), none⟩,
  ⟨some 7, .call ⟨.value (.func 148), #[(.tmp 5), (.tmp 6)], #[25, 69]⟩, none⟩,
  ⟨none, .store 25 (.tmp 4) (.tmp 7), none⟩]
def S_subst_Apply : SC := (.seq S_subst_Apply_r0 (.seq S_subst_Apply_r1 .ret))
theorem BS_subst_Apply : Try.f129.body.bind stripC = some S_subst_Apply := by kernel_rfl
/-! types_Equal: function 126, 9 temporaries. -/
def S_types_Equal_r0 : SC := .reg [⟨some 2, .box 25 (.tmp 0), none⟩,
  ⟨some 3, .box 25 (.tmp 1), none⟩,
  ⟨some 4, .assign (.const (.bool false)), none⟩]
def S_types_Equal_r1 : SC := .reg [⟨some 5, .load 25 (.tmp 2), none⟩,
  ⟨some 6, .load 25 (.tmp 3), none⟩,
  ⟨some 7, .call ⟨.value (.func 146), #[(.tmp 5), (.tmp 6)], #[25, 25]⟩, none⟩,
  ⟨some 8, .binOp .eql 3 (.tmp 7) (.const (.int .i64 0)) 3, none⟩,
  ⟨some 4, .assign (.tmp 8), none⟩]
def S_types_Equal : SC := (.seq S_types_Equal_r0 (.seq S_types_Equal_r1 .ret))
theorem BS_types_Equal : Try.f126.body.bind stripC = some S_types_Equal := by kernel_rfl
/-! types_Compare: function 146, 43 temporaries. -/
def S_types_Compare_r0 : SC := .reg [⟨some 2, .box 25 (.tmp 0), none⟩,
  ⟨some 3, .box 25 (.tmp 1), none⟩,
  ⟨some 4, .assign (.const (.int .i64 0)), none⟩]
def S_types_Compare_r1 : SC := .draw [⟨some 6, .fieldAddr 25 (.tmp 2) 0, none, [2]⟩,
  ⟨some 7, .load 3 (.tmp 6), none, [6]⟩,
  ⟨some 8, .fieldAddr 25 (.tmp 3) 0, none, [3]⟩,
  ⟨some 9, .load 3 (.tmp 8), none, [8]⟩,
  ⟨some 10, .call ⟨.value (.func 161), #[(.tmp 7), (.tmp 9)], #[3, 3]⟩, none, [7, 9]⟩,
  ⟨some 11, .fieldAddr 25 (.tmp 2) 1, none, [2]⟩,
  ⟨some 12, .load 9 (.tmp 11), none, [11]⟩,
  ⟨some 13, .fieldAddr 25 (.tmp 3) 1, none, [3]⟩,
  ⟨some 14, .load 9 (.tmp 13), none, [13]⟩,
  ⟨some 15, .call ⟨.value (.func 162), #[(.tmp 12), (.tmp 14)], #[9, 9]⟩, none, [12, 14]⟩,
  ⟨some 16, .fieldAddr 25 (.tmp 2) 2, none, [2]⟩,
  ⟨some 17, .load 3 (.tmp 16), none, [16]⟩,
  ⟨some 18, .fieldAddr 25 (.tmp 3) 2, none, [3]⟩,
  ⟨some 19, .load 3 (.tmp 18), none, [18]⟩,
  ⟨some 20, .call ⟨.value (.func 161), #[(.tmp 17), (.tmp 19)], #[3, 3]⟩, none, [17, 19]⟩,
  ⟨some 21, .fieldAddr 25 (.tmp 2) 3, none, [2]⟩,
  ⟨some 22, .load 3 (.tmp 21), none, [21]⟩,
  ⟨some 23, .fieldAddr 25 (.tmp 3) 3, none, [3]⟩,
  ⟨some 24, .load 3 (.tmp 23), none, [23]⟩,
  ⟨some 25, .call ⟨.value (.func 161), #[(.tmp 22), (.tmp 24)], #[3, 3]⟩, none, [22, 24]⟩,
  ⟨some 26, .fieldAddr 25 (.tmp 2) 4, none, [2]⟩,
  ⟨some 27, .load 23 (.tmp 26), none, [26]⟩,
  ⟨some 28, .call ⟨.builtin .len, #[(.tmp 27)], #[23]⟩, none, [27]⟩,
  ⟨some 29, .fieldAddr 25 (.tmp 3) 4, none, [3]⟩,
  ⟨some 30, .load 23 (.tmp 29), none, [29]⟩,
  ⟨some 31, .call ⟨.builtin .len, #[(.tmp 30)], #[23]⟩, none, [30]⟩,
  ⟨some 32, .call ⟨.value (.func 161), #[(.tmp 28), (.tmp 31)], #[3, 3]⟩, none, [28, 31]⟩,
  ⟨some 33, .buildSlice 22 5 #[(0, (.tmp 10)), (1, (.tmp 15)), (2, (.tmp 20)), (3, (.tmp 25)), (4, (.tmp 32))], none, [10, 15, 20, 25, 32]⟩,
  ⟨some 34, .call ⟨.value (.func 160), #[(.tmp 33)], #[22]⟩, none, [33]⟩,
  ⟨some 5, .assign (.tmp 34), none, [34]⟩] [0, 1, 0, 4, 15, 0, 32, 0, 128, 511, 0, 1024, 0, 4096, 16383, 0, 32768, 0, 131072, 524287, 0, 1048576, 3145728, 0, 8388608, 25165824, 67108863, 134217727, 268435455, 536870911]
def S_types_Compare_r2 : SC := .reg [⟨some 35, .move (.tmp 5), none⟩,
  ⟨some 36, .binOp .neq 3 (.tmp 35) (.const (.int .i64 0)) 3, none⟩]
def S_types_Compare_r3 : SC := .reg [⟨some 37, .move (.tmp 5), none⟩,
  ⟨some 4, .assign (.tmp 37), none⟩]
def S_types_Compare_r4 : SC := .reg [⟨some 38, .fieldAddr 25 (.tmp 2) 4, none⟩,
  ⟨some 39, .load 23 (.tmp 38), none⟩,
  ⟨some 40, .fieldAddr 25 (.tmp 3) 4, none⟩,
  ⟨some 41, .load 23 (.tmp 40), none⟩,
  ⟨some 42, .call ⟨.value (.func 163), #[(.tmp 39), (.tmp 41), (.func 146)], #[23, 23, 194]⟩, none⟩,
  ⟨some 4, .assign (.tmp 42), none⟩]
def S_types_Compare : SC := (.seq S_types_Compare_r0 (.seq S_types_Compare_r1 (.seq (.seq S_types_Compare_r2 (.cond (.tmp 36) (.seq S_types_Compare_r3 .ret) .skip)) (.seq S_types_Compare_r4 .ret))))
theorem BS_types_Compare : Try.f146.body.bind stripC = some S_types_Compare := by kernel_rfl
/-! cmp_Or_int: function 160, 18 temporaries. -/
def S_cmp_Or_int_r0 : SC := .reg [⟨some 2, .assign (.const (.int .i64 0)), none⟩]
def S_cmp_Or_int_r1 : SC := .reg [⟨some 3, .assign (.const (.int .i64 0)), none⟩]
def S_cmp_Or_int_r2 : SC := .reg [⟨some 6, .move (.tmp 0), none⟩,
  ⟨some 7, .call ⟨.builtin .len, #[(.tmp 6)], #[22]⟩, none⟩,
  ⟨some 8, .move (.const (.int .i64 0)), none⟩]
def S_cmp_Or_int_r3 : SC := .reg [⟨some 9, .binOp .lss 3 (.tmp 8) (.tmp 7) 3, none⟩]
def S_cmp_Or_int_r4 : SC := .reg [⟨some 10, .indexAddr 22 (.tmp 6) (.tmp 8), none⟩,
  ⟨some 11, .load 3 (.tmp 10), none⟩,
  ⟨some 5, .assign (.tmp 11), none⟩]
def S_cmp_Or_int_r5 : SC := .reg [⟨some 12, .move (.tmp 5), none⟩,
  ⟨some 13, .move (.tmp 3), none⟩,
  ⟨some 14, .binOp .neq 3 (.tmp 12) (.tmp 13) 3, none⟩]
def S_cmp_Or_int_r6 : SC := .reg [⟨some 15, .move (.tmp 5), none⟩,
  ⟨some 2, .assign (.tmp 15), none⟩]
def S_cmp_Or_int_b0 : SC := .block 1 (.seq S_cmp_Or_int_r4 (.seq S_cmp_Or_int_r5 (.cond (.tmp 14) (.seq S_cmp_Or_int_r6 .ret) .skip)))
def S_cmp_Or_int_r7 : SC := .reg [⟨some 16, .binOp .add 3 (.tmp 8) (.const (.int .i64 1)) 3, none⟩,
  ⟨some 8, .move (.tmp 16), none⟩]
def S_cmp_Or_int_l0 : SC := (.seq S_cmp_Or_int_r3 (.seq (.cond (.tmp 9) .skip (.exit 0)) (.seq S_cmp_Or_int_b0 S_cmp_Or_int_r7)))
def S_cmp_Or_int_b1 : SC := .block 0 (.loop S_cmp_Or_int_l0)
def S_cmp_Or_int_r8 : SC := .reg [⟨some 17, .move (.tmp 3), none⟩,
  ⟨some 2, .assign (.tmp 17), none⟩]
def S_cmp_Or_int : SC := (.seq S_cmp_Or_int_r0 (.seq S_cmp_Or_int_r1 (.seq (.seq S_cmp_Or_int_r2 S_cmp_Or_int_b1) (.seq S_cmp_Or_int_r8 .ret))))
theorem BS_cmp_Or_int : Try.f160.body.bind stripC = some S_cmp_Or_int := by kernel_rfl
/-! cmp_Compare_int: function 161, 20 temporaries. -/
def S_cmp_Compare_int_r0 : SC := .reg [⟨some 4, .assign (.const (.int .i64 0)), none⟩]
def S_cmp_Compare_int_r1 : SC := .reg [⟨some 7, .move (.tmp 0), none⟩,
  ⟨some 8, .call ⟨.value (.func 167), #[(.tmp 7)], #[3]⟩, none⟩,
  ⟨some 5, .assign (.tmp 8), none⟩]
def S_cmp_Compare_int_r2 : SC := .reg [⟨some 9, .move (.tmp 1), none⟩,
  ⟨some 10, .call ⟨.value (.func 167), #[(.tmp 9)], #[3]⟩, none⟩,
  ⟨some 6, .assign (.tmp 10), none⟩]
def S_cmp_Compare_int_r3 : SC := .reg [⟨some 11, .move (.tmp 5), none⟩]
def S_cmp_Compare_int_r4 : SC := .reg [⟨some 12, .move (.tmp 6), none⟩]
def S_cmp_Compare_int_r5 : SC := .reg [⟨some 4, .assign (.const (.int .i64 0)), none⟩]
def S_cmp_Compare_int_r6 : SC := .reg [⟨some 4, .assign (.const (.int .i64 (-1))), none⟩]
def S_cmp_Compare_int_r7 : SC := .reg [⟨some 13, .move (.tmp 6), none⟩]
def S_cmp_Compare_int_r8 : SC := .reg [⟨some 4, .assign (.const (.int .i64 1)), none⟩]
def S_cmp_Compare_int_r9 : SC := .reg [⟨some 14, .move (.tmp 0), none⟩,
  ⟨some 15, .move (.tmp 1), none⟩,
  ⟨some 16, .binOp .lss 3 (.tmp 14) (.tmp 15) 3, none⟩]
def S_cmp_Compare_int_r10 : SC := .reg [⟨some 4, .assign (.const (.int .i64 (-1))), none⟩]
def S_cmp_Compare_int_r11 : SC := .reg [⟨some 17, .move (.tmp 0), none⟩,
  ⟨some 18, .move (.tmp 1), none⟩,
  ⟨some 19, .binOp .gtr 3 (.tmp 17) (.tmp 18) 3, none⟩]
def S_cmp_Compare_int_r12 : SC := .reg [⟨some 4, .assign (.const (.int .i64 1)), none⟩]
def S_cmp_Compare_int_r13 : SC := .reg [⟨some 4, .assign (.const (.int .i64 0)), none⟩]
def S_cmp_Compare_int : SC := (.seq S_cmp_Compare_int_r0 (.seq S_cmp_Compare_int_r1 (.seq S_cmp_Compare_int_r2 (.seq (.seq S_cmp_Compare_int_r3 (.cond (.tmp 11) (.seq (.seq S_cmp_Compare_int_r4 (.cond (.tmp 12) (.seq S_cmp_Compare_int_r5 .ret) .skip)) (.seq S_cmp_Compare_int_r6 .ret)) .skip)) (.seq (.seq S_cmp_Compare_int_r7 (.cond (.tmp 13) (.seq S_cmp_Compare_int_r8 .ret) .skip)) (.seq (.seq S_cmp_Compare_int_r9 (.cond (.tmp 16) (.seq S_cmp_Compare_int_r10 .ret) .skip)) (.seq (.seq S_cmp_Compare_int_r11 (.cond (.tmp 19) (.seq S_cmp_Compare_int_r12 .ret) .skip)) (.seq S_cmp_Compare_int_r13 .ret))))))))
theorem BS_cmp_Compare_int : Try.f161.body.bind stripC = some S_cmp_Compare_int := by kernel_rfl
/-! cmp_Compare_string: function 162, 20 temporaries. -/
def S_cmp_Compare_string_r0 : SC := .reg [⟨some 4, .assign (.const (.int .i64 0)), none⟩]
def S_cmp_Compare_string_r1 : SC := .reg [⟨some 7, .move (.tmp 0), none⟩,
  ⟨some 8, .call ⟨.value (.func 168), #[(.tmp 7)], #[9]⟩, none⟩,
  ⟨some 5, .assign (.tmp 8), none⟩]
def S_cmp_Compare_string_r2 : SC := .reg [⟨some 9, .move (.tmp 1), none⟩,
  ⟨some 10, .call ⟨.value (.func 168), #[(.tmp 9)], #[9]⟩, none⟩,
  ⟨some 6, .assign (.tmp 10), none⟩]
def S_cmp_Compare_string_r3 : SC := .reg [⟨some 11, .move (.tmp 5), none⟩]
def S_cmp_Compare_string_r4 : SC := .reg [⟨some 12, .move (.tmp 6), none⟩]
def S_cmp_Compare_string_r5 : SC := .reg [⟨some 4, .assign (.const (.int .i64 0)), none⟩]
def S_cmp_Compare_string_r6 : SC := .reg [⟨some 4, .assign (.const (.int .i64 (-1))), none⟩]
def S_cmp_Compare_string_r7 : SC := .reg [⟨some 13, .move (.tmp 6), none⟩]
def S_cmp_Compare_string_r8 : SC := .reg [⟨some 4, .assign (.const (.int .i64 1)), none⟩]
def S_cmp_Compare_string_r9 : SC := .reg [⟨some 14, .move (.tmp 0), none⟩,
  ⟨some 15, .move (.tmp 1), none⟩,
  ⟨some 16, .binOp .lss 9 (.tmp 14) (.tmp 15) 9, none⟩]
def S_cmp_Compare_string_r10 : SC := .reg [⟨some 4, .assign (.const (.int .i64 (-1))), none⟩]
def S_cmp_Compare_string_r11 : SC := .reg [⟨some 17, .move (.tmp 0), none⟩,
  ⟨some 18, .move (.tmp 1), none⟩,
  ⟨some 19, .binOp .gtr 9 (.tmp 17) (.tmp 18) 9, none⟩]
def S_cmp_Compare_string_r12 : SC := .reg [⟨some 4, .assign (.const (.int .i64 1)), none⟩]
def S_cmp_Compare_string_r13 : SC := .reg [⟨some 4, .assign (.const (.int .i64 0)), none⟩]
def S_cmp_Compare_string : SC := (.seq S_cmp_Compare_string_r0 (.seq S_cmp_Compare_string_r1 (.seq S_cmp_Compare_string_r2 (.seq (.seq S_cmp_Compare_string_r3 (.cond (.tmp 11) (.seq (.seq S_cmp_Compare_string_r4 (.cond (.tmp 12) (.seq S_cmp_Compare_string_r5 .ret) .skip)) (.seq S_cmp_Compare_string_r6 .ret)) .skip)) (.seq (.seq S_cmp_Compare_string_r7 (.cond (.tmp 13) (.seq S_cmp_Compare_string_r8 .ret) .skip)) (.seq (.seq S_cmp_Compare_string_r9 (.cond (.tmp 16) (.seq S_cmp_Compare_string_r10 .ret) .skip)) (.seq (.seq S_cmp_Compare_string_r11 (.cond (.tmp 19) (.seq S_cmp_Compare_string_r12 .ret) .skip)) (.seq S_cmp_Compare_string_r13 .ret))))))))
theorem BS_cmp_Compare_string : Try.f162.body.bind stripC = some S_cmp_Compare_string := by kernel_rfl
/-! cmp_isNaN_int: function 167, 6 temporaries. -/
def S_cmp_isNaN_int_r0 : SC := .reg [⟨some 2, .assign (.const (.bool false)), none⟩]
def S_cmp_isNaN_int_r1 : SC := .reg [⟨some 3, .move (.tmp 0), none⟩,
  ⟨some 4, .move (.tmp 0), none⟩,
  ⟨some 5, .binOp .neq 3 (.tmp 3) (.tmp 4) 3, none⟩,
  ⟨some 2, .assign (.tmp 5), none⟩]
def S_cmp_isNaN_int : SC := (.seq S_cmp_isNaN_int_r0 (.seq S_cmp_isNaN_int_r1 .ret))
theorem BS_cmp_isNaN_int : Try.f167.body.bind stripC = some S_cmp_isNaN_int := by kernel_rfl
/-! cmp_isNaN_string: function 168, 6 temporaries. -/
def S_cmp_isNaN_string_r0 : SC := .reg [⟨some 2, .assign (.const (.bool false)), none⟩]
def S_cmp_isNaN_string_r1 : SC := .reg [⟨some 3, .move (.tmp 0), none⟩,
  ⟨some 4, .move (.tmp 0), none⟩,
  ⟨some 5, .binOp .neq 9 (.tmp 3) (.tmp 4) 9, none⟩,
  ⟨some 2, .assign (.tmp 5), none⟩]
def S_cmp_isNaN_string : SC := (.seq S_cmp_isNaN_string_r0 (.seq S_cmp_isNaN_string_r1 .ret))
theorem BS_cmp_isNaN_string : Try.f168.body.bind stripC = some S_cmp_isNaN_string := by kernel_rfl
end Go.Proofs.Ythfcfmkdeheicaa
