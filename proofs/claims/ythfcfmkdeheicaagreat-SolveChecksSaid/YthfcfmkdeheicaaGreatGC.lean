import Derived.Test.YthfcfmkdeheicaaGreatGT
import Derived.Test.YthfcfmkdeheicaaGreatJH
import Derived.Test.YthfcfmkdeheicaaGreatRows
set_option linter.all false
noncomputable section
namespace Go.Proofs.YthfcfmkdeheicaaGreat
open Go.J
def fS23r0:SC:=.reg [⟨some 2,.box 41 (.tmp 0),none⟩,⟨some 3,.box 41 (.tmp 1),none⟩,⟨some 4,.assign (.const (.bool false)),none⟩]
def fS23r1:SC:=.reg [⟨some 5,.fieldAddr 41 (.tmp 2) 0,none⟩,⟨some 6,.load 3 (.tmp 5),none⟩,⟨some 7,.fieldAddr 41 (.tmp 3) 0,none⟩,⟨some 8,.load 3 (.tmp 7),none⟩,⟨some 9,.binOp .neq 3 (.tmp 6) (.tmp 8) 3,none⟩,⟨some 10,.move (.tmp 9),none⟩,⟨some 11,.fieldAddr 41 (.tmp 2) 1,some (10,false)⟩,⟨some 12,.load 9 (.tmp 11),some (10,false)⟩,⟨some 13,.fieldAddr 41 (.tmp 3) 1,some (10,false)⟩,⟨some 14,.load 9 (.tmp 13),some (10,false)⟩,⟨some 15,.binOp .neq 9 (.tmp 12) (.tmp 14) 9,some (10,false)⟩,⟨some 16,.pick (.tmp 10) (.const (.bool true)) (.tmp 15),none⟩,⟨some 17,.move (.tmp 16),none⟩,⟨some 18,.fieldAddr 41 (.tmp 2) 2,some (17,false)⟩,⟨some 19,.load 3 (.tmp 18),some (17,false)⟩,⟨some 20,.fieldAddr 41 (.tmp 3) 2,some (17,false)⟩,⟨some 21,.load 3 (.tmp 20),some (17,false)⟩,⟨some 22,.binOp .neq 3 (.tmp 19) (.tmp 21) 3,some (17,false)⟩,⟨some 23,.pick (.tmp 17) (.const (.bool true)) (.tmp 22),none⟩,⟨some 24,.move (.tmp 23),none⟩,⟨some 25,.fieldAddr 41 (.tmp 2) 3,some (24,false)⟩,⟨some 26,.load 3 (.tmp 25),some (24,false)⟩,⟨some 27,.fieldAddr 41 (.tmp 3) 3,some (24,false)⟩,⟨some 28,.load 3 (.tmp 27),some (24,false)⟩,⟨some 29,.binOp .neq 3 (.tmp 26) (.tmp 28) 3,some (24,false)⟩,⟨some 30,.pick (.tmp 24) (.const (.bool true)) (.tmp 29),none⟩]
def fS23r2:SC:=.reg [⟨some 4,.assign (.const (.bool false)),none⟩]
def fS23r3:SC:=.reg [⟨some 31,.fieldAddr 41 (.tmp 2) 4,none⟩,⟨some 32,.load 39 (.tmp 31),none⟩,⟨some 33,.fieldAddr 41 (.tmp 3) 4,none⟩,⟨some 34,.load 39 (.tmp 33),none⟩,⟨some 35,.call ⟨.value (.func 77),#[.tmp 32,.tmp 34],#[39,39]⟩,none⟩,⟨some 4,.assign (.tmp 35),none⟩]
def fS23:SC:=(.seq fS23r0 (.seq (.seq fS23r1 (.cond (.tmp 30) (.seq fS23r2 .ret) .skip)) (.seq fS23r3 .ret)))
theorem fB23:Tryz.f23.body.bind stripC=some fS23:=by kernel_rfl
def fS77r0:SC:=.reg [⟨some 4,.assign (.const (.bool false)),none⟩]
def fS77r1:SC:=.reg [⟨some 6,.move (.tmp 0),none⟩,⟨some 7,.call ⟨.builtin .len,#[.tmp 6],#[39]⟩,none⟩,⟨some 8,.move (.tmp 1),none⟩,⟨some 9,.call ⟨.builtin .len,#[.tmp 8],#[39]⟩,none⟩,⟨some 10,.binOp .neq 3 (.tmp 7) (.tmp 9) 3,none⟩]
def fS77r2:SC:=.reg [⟨some 4,.assign (.const (.bool false)),none⟩]
def fS77r3:SC:=.reg [⟨some 5,.assign (.const (.int .i64 0)),none⟩]
def fS77r4:SC:=.reg [⟨some 11,.move (.tmp 5),none⟩,⟨some 12,.move (.tmp 0),none⟩,⟨some 13,.call ⟨.builtin .len,#[.tmp 12],#[39]⟩,none⟩,⟨some 14,.binOp .lss 3 (.tmp 11) (.tmp 13) 3,none⟩]
def fS77r5:SC:=.draw [⟨some 17,.move (.tmp 0),none,[0]⟩,⟨some 18,.move (.tmp 5),none,[5]⟩,⟨some 19,.indexAddr 39 (.tmp 17) (.tmp 18),none,[17,18]⟩,⟨some 20,.load 41 (.tmp 19),none,[19]⟩,⟨some 21,.move (.tmp 1),none,[1]⟩,⟨some 22,.move (.tmp 5),none,[5]⟩,⟨some 23,.indexAddr 39 (.tmp 21) (.tmp 22),none,[21,22]⟩,⟨some 24,.load 41 (.tmp 23),none,[23]⟩,⟨some 25,.call ⟨.value (.func 23),#[.tmp 20,.tmp 24],#[41,41]⟩,none,[20,24]⟩,⟨some 26,.unOp .not 4 (.tmp 25),none,[25]⟩] [0,0,3,7,0,0,48,112,255,511]
def fS77r6:SC:=.reg [⟨some 4,.assign (.const (.bool false)),none⟩]
def fS77b0:SC:=.block 1 (.seq fS77r5 (.cond (.tmp 26) (.seq fS77r6 .ret) .skip))
def fS77r7:SC:=.reg [⟨some 15,.move (.tmp 5),none⟩,⟨some 16,.binOp .add 3 (.tmp 15) (.const (.int .i64 1)) 3,none⟩,⟨some 5,.assign (.tmp 16),none⟩]
def fS77l0:SC:=(.seq (.seq fS77r4 (.cond (.tmp 14) .skip (.exit 0))) (.seq fS77b0 fS77r7))
def fS77b1:SC:=.block 0 (.loop fS77l0)
def fS77r8:SC:=.reg [⟨some 4,.assign (.const (.bool true)),none⟩]
def fS77:SC:=(.seq fS77r0 (.seq (.seq fS77r1 (.cond (.tmp 10) (.seq fS77r2 .ret) .skip)) (.seq (.seq fS77r3 fS77b1) (.seq fS77r8 .ret))))
theorem fB77:Tryz.f77.body.bind stripC=some fS77:=by kernel_rfl
def fS14r0:SC:=.reg [⟨some 4,.assign (.const (.int .i64 0)),none⟩]
def fS14r1:SC:=.reg [⟨some 5,.move (.tmp 1),none⟩,⟨some 6,.binOp .lss 3 (.tmp 5) (.const (.int .i64 1)) 3,none⟩]
def fS14r2:SC:=.reg [⟨some 4,.assign (.const (.int .i64 0)),none⟩]
def fS14r3:SC:=.reg [⟨some 7,.move (.tmp 0),none⟩,⟨some 8,.move (.tmp 1),none⟩,⟨some 9,.binOp .rem 3 (.tmp 7) (.tmp 8) 3,none⟩,⟨some 0,.assign (.tmp 9),none⟩]
def fS14r4:SC:=.reg [⟨some 10,.move (.tmp 0),none⟩,⟨some 11,.binOp .lss 3 (.tmp 10) (.const (.int .i64 0)) 3,none⟩]
def fS14r5:SC:=.reg [⟨some 12,.move (.tmp 0),none⟩,⟨some 13,.move (.tmp 1),none⟩,⟨some 14,.binOp .add 3 (.tmp 12) (.tmp 13) 3,none⟩,⟨some 0,.assign (.tmp 14),none⟩]
def fS14r6:SC:=.reg [⟨some 15,.move (.tmp 0),none⟩,⟨some 4,.assign (.tmp 15),none⟩]
def fS14:SC:=(.seq fS14r0 (.seq (.seq fS14r1 (.cond (.tmp 6) (.seq fS14r2 .ret) .skip)) (.seq fS14r3 (.seq (.seq fS14r4 (.cond (.tmp 11) fS14r5 .skip)) (.seq fS14r6 .ret)))))
theorem fB14:Tryz.f14.body.bind stripC=some fS14:=by kernel_rfl
def fS10r0:SC:=.reg [⟨some 2,.assign (.const (.bool false)),none⟩]
def fS10r1:SC:=.reg [⟨some 3,.move (.tmp 0),none⟩,⟨some 4,.call ⟨.builtin .len,#[.tmp 3],#[26]⟩,none⟩,⟨some 5,.binOp .leq 3 (.tmp 4) (.const (.int .i64 60)) 3,none⟩,⟨some 2,.assign (.tmp 5),none⟩]
def fS10:SC:=(.seq fS10r0 (.seq fS10r1 .ret))
theorem fB10:Tryz.f10.body.bind stripC=some fS10:=by kernel_rfl
def fS61r0:SC:=.reg [⟨some 4,.alloc 41,none⟩]
def fS61r1:SC:=.reg [⟨some 5,.move (.tmp 0),none⟩,⟨some 6,.move (.tmp 1),none⟩,⟨some 7,.call ⟨.builtin .append,#[(.const (.slice none 0 0)),.tmp 6],#[39,39]⟩,none⟩,⟨some 8,.build 41 #[(0,(.const (.int .i64 4))),(1,(.tmp 5)),(4,(.tmp 7))],none⟩,⟨none,.store 41 (.tmp 4) (.tmp 8),none⟩]
def fS61:SC:=(.seq fS61r0 (.seq fS61r1 .ret))
theorem fB61:Tryz.f61.body.bind stripC=some fS61:=by kernel_rfl
def fS49r0:SC:=.reg [⟨some 0,.alloc 41,none⟩]
def fS49r1:SC:=.reg [⟨some 1,.call ⟨.value (.func 61),#[(.const (.string ⟨#[73,110,116]⟩)),(.const (.slice none 0 0))],#[9,39]⟩,none⟩,⟨none,.store 41 (.tmp 0) (.tmp 1),none⟩]
def fS49:SC:=(.seq fS49r0 (.seq fS49r1 .ret))
theorem fB49:Tryz.f49.body.bind stripC=some fS49:=by kernel_rfl
def fS62r0:SC:=.reg [⟨some 2,.box 41 (.tmp 0),none⟩,⟨some 3,.box 41 (.tmp 1),none⟩,⟨some 4,.alloc 41,none⟩]
def fS62r1:SC:=.reg [⟨some 5,.load 41 (.tmp 2),none⟩,⟨some 6,.load 41 (.tmp 3),none⟩,⟨some 7,.buildSlice 39 2 #[(0,(.tmp 5)),(1,(.tmp 6))],none⟩,⟨some 8,.call ⟨.value (.func 61),#[(.const (.string ⟨#[45,62]⟩)),.tmp 7],#[9,39]⟩,none⟩,⟨none,.store 41 (.tmp 4) (.tmp 8),none⟩]
def fS62:SC:=(.seq fS62r0 (.seq fS62r1 .ret))
theorem fB62:Tryz.f62.body.bind stripC=some fS62:=by kernel_rfl
def fS52r0:SC:=.reg [⟨some 2,.alloc 41,none⟩]
def fS52r1:SC:=.reg [⟨some 3,.move (.tmp 0),none⟩,⟨some 4,.build 41 #[(0,(.const (.int .i64 1))),(2,(.tmp 3))],none⟩,⟨none,.store 41 (.tmp 2) (.tmp 4),none⟩]
def fS52:SC:=(.seq fS52r0 (.seq fS52r1 .ret))
theorem fB52:Tryz.f52.body.bind stripC=some fS52:=by kernel_rfl
def fS58r0:SC:=.reg [⟨some 4,.alloc 41,none⟩]
def fS58r1:SC:=.reg [⟨some 5,.move (.tmp 0),none⟩,⟨some 6,.move (.tmp 1),none⟩,⟨some 7,.build 41 #[(0,(.const (.int .i64 3))),(3,(.tmp 5)),(2,(.tmp 6))],none⟩,⟨none,.store 41 (.tmp 4) (.tmp 7),none⟩]
def fS58:SC:=(.seq fS58r0 (.seq fS58r1 .ret))
theorem fB58:Tryz.f58.body.bind stripC=some fS58:=by kernel_rfl
def fS56r0:SC:=.reg [⟨some 4,.assign (.const (.int .i64 0)),none⟩]
def fS56r1:SC:=.draw [⟨some 5,.move (.tmp 0),none,[0]⟩,⟨some 6,.nilCheck (.tmp 5),none,[5]⟩,⟨some 7,.fieldAddr 32 (.tmp 6) 1,none,[6]⟩,⟨some 8,.load 3 (.tmp 7),none,[7]⟩,⟨some 9,.move (.tmp 0),none,[0]⟩,⟨some 10,.nilCheck (.tmp 9),none,[9]⟩,⟨some 11,.fieldAddr 32 (.tmp 10) 0,none,[10]⟩,⟨some 12,.load 26 (.tmp 11),none,[11]⟩,⟨some 13,.call ⟨.builtin .len,#[.tmp 12],#[26]⟩,none,[12]⟩,⟨some 14,.binOp .geq 3 (.tmp 8) (.tmp 13) 3,none,[8,13]⟩] [0,1,3,7,0,16,48,112,240,511]
def fS56r2:SC:=.reg [⟨some 4,.assign (.const (.int .i64 0)),none⟩]
def fS56r3:SC:=.reg [⟨some 15,.move (.tmp 0),none⟩,⟨some 16,.nilCheck (.tmp 15),none⟩,⟨some 17,.fieldAddr 32 (.tmp 16) 1,none⟩,⟨some 18,.load 3 (.tmp 17),none⟩,⟨some 19,.binOp .add 3 (.tmp 18) (.const (.int .i64 1)) 3,none⟩,⟨some 20,.nilCheck (.tmp 15),none⟩,⟨some 21,.fieldAddr 32 (.tmp 20) 1,none⟩,⟨none,.store 3 (.tmp 21) (.tmp 19),none⟩]
def fS56r4:SC:=.draw [⟨some 22,.move (.tmp 0),none,[0]⟩,⟨some 23,.nilCheck (.tmp 22),none,[22]⟩,⟨some 24,.fieldAddr 32 (.tmp 23) 0,none,[23]⟩,⟨some 25,.load 26 (.tmp 24),none,[24]⟩,⟨some 26,.move (.tmp 0),none,[0]⟩,⟨some 27,.nilCheck (.tmp 26),none,[26]⟩,⟨some 28,.fieldAddr 32 (.tmp 27) 1,none,[27]⟩,⟨some 29,.load 3 (.tmp 28),none,[28]⟩,⟨some 30,.binOp .sub 3 (.tmp 29) (.const (.int .i64 1)) 3,none,[29]⟩,⟨some 31,.indexAddr 26 (.tmp 25) (.tmp 30),none,[25,30]⟩,⟨some 32,.load 3 (.tmp 31),none,[31]⟩,⟨some 33,.move (.tmp 1),none,[1]⟩,⟨some 34,.call ⟨.value (.func 14),#[.tmp 32,.tmp 33],#[3,3]⟩,none,[32,33]⟩,⟨some 4,.assign (.tmp 34),none,[34]⟩] [0,1,3,7,0,16,48,112,240,511,1023,0,4095,8191]
def fS56:SC:=(.seq fS56r0 (.seq (.seq fS56r1 (.cond (.tmp 14) (.seq fS56r2 .ret) .skip)) (.seq fS56r3 (.seq fS56r4 .ret))))
theorem fB56:Tryz.f56.body.bind stripC=some fS56:=by kernel_rfl
def fS16r0:SC:=.reg [⟨some 2,.assign (.const (.slice none 0 0)),none⟩]
def fS16r1:SC:=.reg [⟨some 3,.assign (.const (.slice none 0 0)),none⟩]
def fS16r2:SC:=.reg [⟨some 4,.assign (.const (.int .i64 0)),none⟩]
def fS16r3:SC:=.reg [⟨some 5,.move (.tmp 4),none⟩,⟨some 6,.move (.tmp 0),none⟩,⟨some 7,.binOp .lss 3 (.tmp 5) (.tmp 6) 3,none⟩]
def fS16r4:SC:=.reg [⟨some 10,.move (.tmp 3),none⟩,⟨some 11,.move (.tmp 4),none⟩,⟨some 12,.call ⟨.value (.func 52),#[.tmp 11],#[3]⟩,none⟩,⟨some 13,.buildSlice 39 1 #[(0,(.tmp 12))],none⟩,⟨some 14,.call ⟨.builtin .append,#[.tmp 10,.tmp 13],#[39,39]⟩,none⟩,⟨some 3,.assign (.tmp 14),none⟩]
def fS16b0:SC:=.block 1 fS16r4
def fS16r5:SC:=.reg [⟨some 8,.move (.tmp 4),none⟩,⟨some 9,.binOp .add 3 (.tmp 8) (.const (.int .i64 1)) 3,none⟩,⟨some 4,.assign (.tmp 9),none⟩]
def fS16l0:SC:=(.seq (.seq fS16r3 (.cond (.tmp 7) .skip (.exit 0))) (.seq fS16b0 fS16r5))
def fS16b1:SC:=.block 0 (.loop fS16l0)
def fS16r6:SC:=.reg [⟨some 15,.move (.tmp 3),none⟩,⟨some 2,.assign (.tmp 15),none⟩]
def fS16:SC:=(.seq fS16r0 (.seq fS16r1 (.seq (.seq fS16r2 fS16b1) (.seq fS16r6 .ret))))
theorem fB16:Tryz.f16.body.bind stripC=some fS16:=by kernel_rfl
def fS12r0:SC:=.reg [⟨some 2,.assign (.const (.slice none 0 0)),none⟩]
def fS12r1:SC:=.reg [⟨some 6,.call ⟨.value (.func 60),#[],#[]⟩,none⟩,⟨some 3,.assign (.tmp 6),none⟩]
def fS12r2:SC:=.reg [⟨some 4,.assign (.const (.slice none 0 0)),none⟩]
def fS12r3:SC:=.reg [⟨some 7,.move (.tmp 0),none⟩,⟨some 8,.binOp .and 3 (.tmp 7) (.const (.int .i64 2)) 3,none⟩,⟨some 9,.binOp .neq 3 (.tmp 8) (.const (.int .i64 0)) 3,none⟩,⟨some 10,.move (.tmp 9),none⟩,⟨some 11,.move (.tmp 0),some (10,false)⟩,⟨some 12,.binOp .and 3 (.tmp 11) (.const (.int .i64 64)) 3,some (10,false)⟩,⟨some 13,.binOp .neq 3 (.tmp 12) (.const (.int .i64 0)) 3,some (10,false)⟩,⟨some 14,.pick (.tmp 10) (.const (.bool true)) (.tmp 13),none⟩]
def fS12r4:SC:=.reg [⟨some 15,.move (.tmp 4),none⟩,⟨some 16,.move (.tmp 3),none⟩,⟨some 17,.indexAddr 34 (.tmp 16) (.const (.int .i64 1)),none⟩,⟨some 18,.load 97 (.tmp 17),none⟩,⟨some 19,.buildSlice 34 1 #[(0,(.tmp 18))],none⟩,⟨some 20,.call ⟨.builtin .append,#[.tmp 15,.tmp 19],#[34,34]⟩,none⟩,⟨some 4,.assign (.tmp 20),none⟩]
def fS12r5:SC:=.reg [⟨some 5,.assign (.const (.int .i64 0)),none⟩]
def fS12r6:SC:=.reg [⟨some 21,.move (.tmp 5),none⟩,⟨some 22,.move (.tmp 3),none⟩,⟨some 23,.call ⟨.builtin .len,#[.tmp 22],#[34]⟩,none⟩,⟨some 24,.binOp .lss 3 (.tmp 21) (.tmp 23) 3,none⟩]
def fS12r7:SC:=.reg [⟨some 27,.move (.tmp 5),none⟩,⟨some 28,.binOp .neq 3 (.tmp 27) (.const (.int .i64 1)) 3,none⟩,⟨some 29,.move (.tmp 28),none⟩,⟨some 30,.move (.tmp 0),some (29,true)⟩,⟨some 31,.move (.tmp 5),some (29,true)⟩,⟨some 32,.convert 3 98 (.tmp 31),some (29,true)⟩,⟨some 33,.binOp .shr 3 (.tmp 30) (.tmp 32) 98,some (29,true)⟩,⟨some 34,.binOp .and 3 (.tmp 33) (.const (.int .i64 1)) 3,some (29,true)⟩,⟨some 35,.binOp .eql 3 (.tmp 34) (.const (.int .i64 1)) 3,some (29,true)⟩,⟨some 36,.pick (.tmp 29) (.tmp 35) (.const (.bool false)),none⟩]
def fS12r8:SC:=.reg [⟨some 37,.move (.tmp 4),none⟩,⟨some 38,.move (.tmp 3),none⟩,⟨some 39,.move (.tmp 5),none⟩,⟨some 40,.indexAddr 34 (.tmp 38) (.tmp 39),none⟩,⟨some 41,.load 97 (.tmp 40),none⟩,⟨some 42,.buildSlice 34 1 #[(0,(.tmp 41))],none⟩,⟨some 43,.call ⟨.builtin .append,#[.tmp 37,.tmp 42],#[34,34]⟩,none⟩,⟨some 4,.assign (.tmp 43),none⟩]
def fS12b0:SC:=.block 1 (.seq fS12r7 (.cond (.tmp 36) fS12r8 .skip))
def fS12r9:SC:=.reg [⟨some 25,.move (.tmp 5),none⟩,⟨some 26,.binOp .add 3 (.tmp 25) (.const (.int .i64 1)) 3,none⟩,⟨some 5,.assign (.tmp 26),none⟩]
def fS12l0:SC:=(.seq (.seq fS12r6 (.cond (.tmp 24) .skip (.exit 0))) (.seq fS12b0 fS12r9))
def fS12b1:SC:=.block 0 (.loop fS12l0)
def fS12r10:SC:=.reg [⟨some 44,.move (.tmp 4),none⟩,⟨some 2,.assign (.tmp 44),none⟩]
def fS12:SC:=(.seq fS12r0 (.seq fS12r1 (.seq fS12r2 (.seq (.seq fS12r3 (.cond (.tmp 14) fS12r4 .skip)) (.seq (.seq fS12r5 fS12b1) (.seq fS12r10 .ret))))))
theorem fB12:Tryz.f12.body.bind stripC=some fS12:=by kernel_rfl
def fS15r0:SC:=.reg [⟨some 8,.alloc 41,none⟩]
def fS15r1:SC:=.reg [⟨some 14,.move (.tmp 0),none⟩,⟨some 15,.call ⟨.value (.func 56),#[.tmp 14,(.const (.int .i64 7))],#[30,3]⟩,none⟩,⟨some 9,.assign (.tmp 15),none⟩]
def fS15r2:SC:=.reg [⟨some 17,.move (.tmp 9),none⟩,⟨some 18,.binOp .lss 3 (.tmp 17) (.const (.int .i64 3)) 3,none⟩,⟨some 19,.move (.tmp 18),none⟩,⟨some 20,.move (.tmp 2),some (19,true)⟩,⟨some 21,.call ⟨.builtin .len,#[.tmp 20],#[39]⟩,some (19,true)⟩,⟨some 22,.binOp .gtr 3 (.tmp 21) (.const (.int .i64 0)) 3,some (19,true)⟩,⟨some 23,.pick (.tmp 19) (.tmp 22) (.const (.bool false)),none⟩,⟨some 16,.assign (.tmp 23),none⟩]
def fS15r3:SC:=.reg [⟨some 24,.move (.tmp 2),none⟩,⟨some 25,.move (.tmp 0),none⟩,⟨some 26,.move (.tmp 2),none⟩,⟨some 27,.call ⟨.builtin .len,#[.tmp 26],#[39]⟩,none⟩,⟨some 28,.call ⟨.value (.func 56),#[.tmp 25,.tmp 27],#[30,3]⟩,none⟩,⟨some 29,.indexAddr 39 (.tmp 24) (.tmp 28),none⟩,⟨some 30,.load 41 (.tmp 29),none⟩,⟨none,.store 41 (.tmp 8) (.tmp 30),none⟩]
def fS15r4:SC:=.reg [⟨some 32,.move (.tmp 9),none⟩,⟨some 33,.binOp .lss 3 (.tmp 32) (.const (.int .i64 4)) 3,none⟩,⟨some 34,.move (.tmp 33),none⟩,⟨some 35,.move (.tmp 3),some (34,false)⟩,⟨some 36,.binOp .lss 3 (.tmp 35) (.const (.int .i64 1)) 3,some (34,false)⟩,⟨some 37,.pick (.tmp 34) (.const (.bool true)) (.tmp 36),none⟩,⟨some 31,.assign (.tmp 37),none⟩]
def fS15r5:SC:=.reg [⟨some 38,.call ⟨.value (.func 49),#[],#[]⟩,none⟩,⟨none,.store 41 (.tmp 8) (.tmp 38),none⟩]
def fS15r6:SC:=.reg [⟨some 40,.move (.tmp 9),none⟩,⟨some 41,.binOp .eql 3 (.tmp 40) (.const (.int .i64 4)) 3,none⟩,⟨some 42,.move (.tmp 41),none⟩,⟨some 43,.move (.tmp 1),some (42,true)⟩,⟨some 44,.call ⟨.builtin .len,#[.tmp 43],#[34]⟩,some (42,true)⟩,⟨some 45,.binOp .gtr 3 (.tmp 44) (.const (.int .i64 0)) 3,some (42,true)⟩,⟨some 46,.pick (.tmp 42) (.tmp 45) (.const (.bool false)),none⟩,⟨some 39,.assign (.tmp 46),none⟩]
def fS15r7:SC:=.reg [⟨some 47,.move (.tmp 9),none⟩,⟨some 48,.binOp .eql 3 (.tmp 47) (.const (.int .i64 5)) 3,none⟩,⟨some 49,.move (.tmp 48),none⟩,⟨some 50,.move (.tmp 1),some (49,true)⟩,⟨some 51,.call ⟨.builtin .len,#[.tmp 50],#[34]⟩,some (49,true)⟩,⟨some 52,.binOp .gtr 3 (.tmp 51) (.const (.int .i64 0)) 3,some (49,true)⟩,⟨some 53,.pick (.tmp 49) (.tmp 52) (.const (.bool false)),none⟩,⟨some 39,.assign (.tmp 53),none⟩]
def fS15r8:SC:=.reg [⟨some 54,.move (.tmp 1),none⟩,⟨some 55,.move (.tmp 0),none⟩,⟨some 56,.move (.tmp 1),none⟩,⟨some 57,.call ⟨.builtin .len,#[.tmp 56],#[34]⟩,none⟩,⟨some 58,.call ⟨.value (.func 56),#[.tmp 55,.tmp 57],#[30,3]⟩,none⟩,⟨some 59,.indexAddr 34 (.tmp 54) (.tmp 58),none⟩,⟨some 60,.load 97 (.tmp 59),none⟩,⟨some 10,.alloc 97,none⟩,⟨none,.store 97 (.tmp 10) (.tmp 60),none⟩]
def fS15r9:SC:=.reg [⟨some 11,.assign (.const (.slice none 0 0)),none⟩]
def fS15r10:SC:=.reg [⟨some 12,.assign (.const (.int .i64 0)),none⟩]
def fS15r11:SC:=.reg [⟨some 61,.move (.tmp 12),none⟩,⟨some 62,.fieldAddr 97 (.tmp 10) 2,none⟩,⟨some 63,.load 94 (.tmp 62),none⟩,⟨some 64,.call ⟨.builtin .len,#[.tmp 63],#[94]⟩,none⟩,⟨some 65,.binOp .lss 3 (.tmp 61) (.tmp 64) 3,none⟩]
def fS15r12:SC:=.reg [⟨some 68,.move (.tmp 11),none⟩,⟨some 69,.move (.tmp 0),none⟩,⟨some 70,.move (.tmp 1),none⟩,⟨some 71,.move (.tmp 2),none⟩,⟨some 72,.move (.tmp 3),none⟩,⟨some 73,.binOp .sub 3 (.tmp 72) (.const (.int .i64 1)) 3,none⟩,⟨some 74,.call ⟨.value (.func 15),#[.tmp 69,.tmp 70,.tmp 71,.tmp 73],#[30,34,39,3]⟩,none⟩,⟨some 75,.buildSlice 39 1 #[(0,(.tmp 74))],none⟩,⟨some 76,.call ⟨.builtin .append,#[.tmp 68,.tmp 75],#[39,39]⟩,none⟩,⟨some 11,.assign (.tmp 76),none⟩]
def fS15b0:SC:=.block 2 fS15r12
def fS15r13:SC:=.reg [⟨some 66,.move (.tmp 12),none⟩,⟨some 67,.binOp .add 3 (.tmp 66) (.const (.int .i64 1)) 3,none⟩,⟨some 12,.assign (.tmp 67),none⟩]
def fS15l0:SC:=(.seq (.seq fS15r11 (.cond (.tmp 65) .skip (.exit 1))) (.seq fS15b0 fS15r13))
def fS15b1:SC:=.block 1 (.loop fS15l0)
def fS15r14:SC:=.reg [⟨some 77,.fieldAddr 97 (.tmp 10) 1,none⟩,⟨some 78,.load 9 (.tmp 77),none⟩,⟨some 79,.move (.tmp 11),none⟩,⟨some 80,.call ⟨.value (.func 61),#[.tmp 78,.tmp 79],#[9,39]⟩,none⟩,⟨none,.store 41 (.tmp 8) (.tmp 80),none⟩]
def fS15b2:SC:=.block 0 (.seq fS15r2 (.cond (.tmp 16) (.seq fS15r3 .ret) (.seq fS15r4 (.cond (.tmp 31) (.seq fS15r5 .ret) (.seq (.seq fS15r6 (.cond (.tmp 39) .skip fS15r7)) (.cond (.tmp 39) (.seq fS15r8 (.seq fS15r9 (.seq (.seq fS15r10 fS15b1) (.seq fS15r14 .ret)))) .skip))))))
def fS15r15:SC:=.reg [⟨some 81,.move (.tmp 0),none⟩,⟨some 82,.move (.tmp 1),none⟩,⟨some 83,.move (.tmp 2),none⟩,⟨some 84,.move (.tmp 3),none⟩,⟨some 85,.binOp .sub 3 (.tmp 84) (.const (.int .i64 1)) 3,none⟩,⟨some 86,.call ⟨.value (.func 15),#[.tmp 81,.tmp 82,.tmp 83,.tmp 85],#[30,34,39,3]⟩,none⟩,⟨some 13,.alloc 41,none⟩,⟨none,.store 41 (.tmp 13) (.tmp 86),none⟩]
def fS15r16:SC:=.draw [⟨some 87,.load 41 (.tmp 13),none,[13]⟩,⟨some 88,.move (.tmp 0),none,[0]⟩,⟨some 89,.move (.tmp 1),none,[1]⟩,⟨some 90,.move (.tmp 2),none,[2]⟩,⟨some 91,.move (.tmp 3),none,[3]⟩,⟨some 92,.binOp .sub 3 (.tmp 91) (.const (.int .i64 1)) 3,none,[91]⟩,⟨some 93,.call ⟨.value (.func 15),#[.tmp 88,.tmp 89,.tmp 90,.tmp 92],#[30,34,39,3]⟩,none,[88,89,90,92]⟩,⟨some 94,.call ⟨.value (.func 62),#[.tmp 87,.tmp 93],#[41,41]⟩,none,[87,93]⟩,⟨none,.store 41 (.tmp 8) (.tmp 94),none,[8,94]⟩] [0,0,0,0,0,16,62,127,255]
def fS15:SC:=(.seq fS15r0 (.seq fS15r1 (.seq fS15b2 (.seq fS15r15 (.seq fS15r16 .ret)))))
theorem fB15:Tryz.f15.body.bind stripC=some fS15:=by kernel_rfl
def fS25r0:SC:=.reg [⟨some 2,.box 41 (.tmp 0),none⟩,⟨some 4,.alloc 41,none⟩]
def fS25r1:SC:=.reg [⟨some 8,.fieldAddr 41 (.tmp 2) 0,none⟩,⟨some 9,.load 3 (.tmp 8),none⟩,⟨some 10,.binOp .eql 3 (.tmp 9) (.const (.int .i64 1)) 3,none⟩]
def fS25r2:SC:=.reg [⟨some 5,.assign (.const (.int .i64 0)),none⟩]
def fS25r3:SC:=.reg [⟨some 11,.move (.tmp 5),none⟩,⟨some 12,.move (.tmp 1),none⟩,⟨some 13,.call ⟨.builtin .len,#[.tmp 12],#[49]⟩,none⟩,⟨some 14,.binOp .lss 3 (.tmp 11) (.tmp 13) 3,none⟩]
def fS25r4:SC:=.draw [⟨some 17,.move (.tmp 1),none,[1]⟩,⟨some 18,.move (.tmp 5),none,[5]⟩,⟨some 19,.indexAddr 49 (.tmp 17) (.tmp 18),none,[17,18]⟩,⟨some 20,.fieldAddr 65 (.tmp 19) 0,none,[19]⟩,⟨some 21,.load 3 (.tmp 20),none,[20]⟩,⟨some 22,.fieldAddr 41 (.tmp 2) 2,none,[2]⟩,⟨some 23,.load 3 (.tmp 22),none,[22]⟩,⟨some 24,.binOp .eql 3 (.tmp 21) (.tmp 23) 3,none,[21,23]⟩] [0,0,3,7,15,0,32,127]
def fS25r5:SC:=.reg [⟨some 25,.move (.tmp 1),none⟩,⟨some 26,.move (.tmp 5),none⟩,⟨some 27,.indexAddr 49 (.tmp 25) (.tmp 26),none⟩,⟨some 28,.fieldAddr 65 (.tmp 27) 1,none⟩,⟨some 29,.load 41 (.tmp 28),none⟩,⟨none,.store 41 (.tmp 4) (.tmp 29),none⟩]
def fS25b0:SC:=.block 1 (.seq fS25r4 (.cond (.tmp 24) (.seq fS25r5 .ret) .skip))
def fS25r6:SC:=.reg [⟨some 15,.move (.tmp 5),none⟩,⟨some 16,.binOp .add 3 (.tmp 15) (.const (.int .i64 1)) 3,none⟩,⟨some 5,.assign (.tmp 16),none⟩]
def fS25l0:SC:=(.seq (.seq fS25r3 (.cond (.tmp 14) .skip (.exit 0))) (.seq fS25b0 fS25r6))
def fS25b1:SC:=.block 0 (.loop fS25l0)
def fS25r7:SC:=.reg [⟨some 30,.load 41 (.tmp 2),none⟩,⟨none,.store 41 (.tmp 4) (.tmp 30),none⟩]
def fS25r8:SC:=.reg [⟨some 31,.load 41 (.tmp 2),none⟩,⟨some 6,.alloc 41,none⟩,⟨none,.store 41 (.tmp 6) (.tmp 31),none⟩]
def fS25r9:SC:=.reg [⟨some 32,.fieldAddr 41 (.tmp 6) 4,none⟩,⟨none,.store 39 (.tmp 32) (.const (.slice none 0 0)),none⟩]
def fS25r10:SC:=.reg [⟨some 7,.assign (.const (.int .i64 0)),none⟩]
def fS25r11:SC:=.reg [⟨some 33,.move (.tmp 7),none⟩,⟨some 34,.fieldAddr 41 (.tmp 2) 4,none⟩,⟨some 35,.load 39 (.tmp 34),none⟩,⟨some 36,.call ⟨.builtin .len,#[.tmp 35],#[39]⟩,none⟩,⟨some 37,.binOp .lss 3 (.tmp 33) (.tmp 36) 3,none⟩]
def fS25r12:SC:=.draw [⟨some 40,.fieldAddr 41 (.tmp 6) 4,none,[6]⟩,⟨some 41,.load 39 (.tmp 40),none,[40]⟩,⟨some 42,.fieldAddr 41 (.tmp 2) 4,none,[2]⟩,⟨some 43,.load 39 (.tmp 42),none,[42]⟩,⟨some 44,.move (.tmp 7),none,[7]⟩,⟨some 45,.indexAddr 39 (.tmp 43) (.tmp 44),none,[43,44]⟩,⟨some 46,.load 41 (.tmp 45),none,[45]⟩,⟨some 47,.move (.tmp 1),none,[1]⟩,⟨some 48,.call ⟨.value (.func 25),#[.tmp 46,.tmp 47],#[41,49]⟩,none,[46,47]⟩,⟨some 49,.buildSlice 39 1 #[(0,(.tmp 48))],none,[48]⟩,⟨some 50,.call ⟨.builtin .append,#[.tmp 41,.tmp 49],#[39,39]⟩,none,[41,49]⟩,⟨some 51,.fieldAddr 41 (.tmp 6) 4,none,[6]⟩,⟨none,.store 39 (.tmp 51) (.tmp 50),none,[51,50]⟩] [0,1,0,4,0,28,60,0,252,508,1023,2047,4095]
def fS25b2:SC:=.block 3 fS25r12
def fS25r13:SC:=.reg [⟨some 38,.move (.tmp 7),none⟩,⟨some 39,.binOp .add 3 (.tmp 38) (.const (.int .i64 1)) 3,none⟩,⟨some 7,.assign (.tmp 39),none⟩]
def fS25l1:SC:=(.seq (.seq fS25r11 (.cond (.tmp 37) .skip (.exit 2))) (.seq fS25b2 fS25r13))
def fS25b3:SC:=.block 2 (.loop fS25l1)
def fS25r14:SC:=.reg [⟨some 52,.load 41 (.tmp 6),none⟩,⟨none,.store 41 (.tmp 4) (.tmp 52),none⟩]
def fS25:SC:=(.seq fS25r0 (.seq (.seq fS25r1 (.cond (.tmp 10) (.seq (.seq fS25r2 fS25b1) (.seq fS25r7 .ret)) .skip)) (.seq fS25r8 (.seq fS25r9 (.seq (.seq fS25r10 fS25b3) (.seq fS25r14 .ret))))))
theorem fB25:Tryz.f25.body.bind stripC=some fS25:=by kernel_rfl
def fS91r0:SC:=.reg [⟨some 4,.box 41 (.tmp 1),none⟩,⟨some 6,.assign (.const (.slice none 0 0)),none⟩]
def fS91r1:SC:=.reg [⟨some 9,.fieldAddr 41 (.tmp 4) 0,none⟩,⟨some 10,.load 3 (.tmp 9),none⟩,⟨some 11,.move (.tmp 2),none⟩,⟨some 12,.binOp .eql 3 (.tmp 10) (.tmp 11) 3,none⟩,⟨some 13,.move (.tmp 12),none⟩,⟨some 14,.fieldAddr 41 (.tmp 4) 4,some (13,true)⟩,⟨some 15,.load 39 (.tmp 14),some (13,true)⟩,⟨some 16,.call ⟨.builtin .len,#[.tmp 15],#[39]⟩,some (13,true)⟩,⟨some 17,.binOp .eql 3 (.tmp 16) (.const (.int .i64 0)) 3,some (13,true)⟩,⟨some 18,.pick (.tmp 13) (.tmp 17) (.const (.bool false)),none⟩]
def fS91r2:SC:=.reg [⟨some 7,.assign (.const (.int .i64 0)),none⟩]
def fS91r3:SC:=.reg [⟨some 19,.move (.tmp 7),none⟩,⟨some 20,.move (.tmp 0),none⟩,⟨some 21,.call ⟨.builtin .len,#[.tmp 20],#[39]⟩,none⟩,⟨some 22,.binOp .lss 3 (.tmp 19) (.tmp 21) 3,none⟩]
def fS91r4:SC:=.draw [⟨some 25,.move (.tmp 0),none,[0]⟩,⟨some 26,.move (.tmp 7),none,[7]⟩,⟨some 27,.indexAddr 39 (.tmp 25) (.tmp 26),none,[25,26]⟩,⟨some 28,.load 41 (.tmp 27),none,[27]⟩,⟨some 29,.load 41 (.tmp 4),none,[4]⟩,⟨some 30,.call ⟨.value (.func 23),#[.tmp 28,.tmp 29],#[41,41]⟩,none,[28,29]⟩] [0,0,3,7,0,31]
def fS91r5:SC:=.reg [⟨some 31,.move (.tmp 0),none⟩,⟨some 6,.assign (.tmp 31),none⟩]
def fS91b0:SC:=.block 1 (.seq fS91r4 (.cond (.tmp 30) (.seq fS91r5 .ret) .skip))
def fS91r6:SC:=.reg [⟨some 23,.move (.tmp 7),none⟩,⟨some 24,.binOp .add 3 (.tmp 23) (.const (.int .i64 1)) 3,none⟩,⟨some 7,.assign (.tmp 24),none⟩]
def fS91l0:SC:=(.seq (.seq fS91r3 (.cond (.tmp 22) .skip (.exit 0))) (.seq fS91b0 fS91r6))
def fS91b1:SC:=.block 0 (.loop fS91l0)
def fS91r7:SC:=.reg [⟨some 32,.move (.tmp 0),none⟩,⟨some 33,.load 41 (.tmp 4),none⟩,⟨some 34,.buildSlice 39 1 #[(0,(.tmp 33))],none⟩,⟨some 35,.call ⟨.builtin .append,#[.tmp 32,.tmp 34],#[39,39]⟩,none⟩,⟨some 6,.assign (.tmp 35),none⟩]
def fS91r8:SC:=.reg [⟨some 8,.assign (.const (.int .i64 0)),none⟩]
def fS91r9:SC:=.reg [⟨some 36,.move (.tmp 8),none⟩,⟨some 37,.fieldAddr 41 (.tmp 4) 4,none⟩,⟨some 38,.load 39 (.tmp 37),none⟩,⟨some 39,.call ⟨.builtin .len,#[.tmp 38],#[39]⟩,none⟩,⟨some 40,.binOp .lss 3 (.tmp 36) (.tmp 39) 3,none⟩]
def fS91r10:SC:=.reg [⟨some 43,.move (.tmp 0),none⟩,⟨some 44,.fieldAddr 41 (.tmp 4) 4,none⟩,⟨some 45,.load 39 (.tmp 44),none⟩,⟨some 46,.move (.tmp 8),none⟩,⟨some 47,.indexAddr 39 (.tmp 45) (.tmp 46),none⟩,⟨some 48,.load 41 (.tmp 47),none⟩,⟨some 49,.move (.tmp 2),none⟩,⟨some 50,.call ⟨.value (.func 91),#[.tmp 43,.tmp 48,.tmp 49],#[39,41,3]⟩,none⟩,⟨some 0,.assign (.tmp 50),none⟩]
def fS91b2:SC:=.block 3 fS91r10
def fS91r11:SC:=.reg [⟨some 41,.move (.tmp 8),none⟩,⟨some 42,.binOp .add 3 (.tmp 41) (.const (.int .i64 1)) 3,none⟩,⟨some 8,.assign (.tmp 42),none⟩]
def fS91l1:SC:=(.seq (.seq fS91r9 (.cond (.tmp 40) .skip (.exit 2))) (.seq fS91b2 fS91r11))
def fS91b3:SC:=.block 2 (.loop fS91l1)
def fS91r12:SC:=.reg [⟨some 51,.move (.tmp 0),none⟩,⟨some 6,.assign (.tmp 51),none⟩]
def fS91:SC:=(.seq fS91r0 (.seq (.seq fS91r1 (.cond (.tmp 18) (.seq (.seq fS91r2 fS91b1) (.seq fS91r7 .ret)) .skip)) (.seq (.seq fS91r8 fS91b3) (.seq fS91r12 .ret))))
theorem fB91:Tryz.f91.body.bind stripC=some fS91:=by kernel_rfl
def fS34r0:SC:=.reg [⟨some 4,.assign (.const (.bool false)),none⟩]
def fS34r1:SC:=.reg [⟨some 5,.assign (.const (.int .i64 0)),none⟩]
def fS34r2:SC:=.reg [⟨some 6,.move (.tmp 5),none⟩,⟨some 7,.move (.tmp 0),none⟩,⟨some 8,.call ⟨.builtin .len,#[.tmp 7],#[26]⟩,none⟩,⟨some 9,.binOp .lss 3 (.tmp 6) (.tmp 8) 3,none⟩]
def fS34r3:SC:=.reg [⟨some 12,.move (.tmp 0),none⟩,⟨some 13,.move (.tmp 5),none⟩,⟨some 14,.indexAddr 26 (.tmp 12) (.tmp 13),none⟩,⟨some 15,.load 3 (.tmp 14),none⟩,⟨some 16,.move (.tmp 1),none⟩,⟨some 17,.binOp .eql 3 (.tmp 15) (.tmp 16) 3,none⟩]
def fS34r4:SC:=.reg [⟨some 4,.assign (.const (.bool true)),none⟩]
def fS34b0:SC:=.block 1 (.seq fS34r3 (.cond (.tmp 17) (.seq fS34r4 .ret) .skip))
def fS34r5:SC:=.reg [⟨some 10,.move (.tmp 5),none⟩,⟨some 11,.binOp .add 3 (.tmp 10) (.const (.int .i64 1)) 3,none⟩,⟨some 5,.assign (.tmp 11),none⟩]
def fS34l0:SC:=(.seq (.seq fS34r2 (.cond (.tmp 9) .skip (.exit 0))) (.seq fS34b0 fS34r5))
def fS34b1:SC:=.block 0 (.loop fS34l0)
def fS34r6:SC:=.reg [⟨some 4,.assign (.const (.bool false)),none⟩]
def fS34:SC:=(.seq fS34r0 (.seq (.seq fS34r1 fS34b1) (.seq fS34r6 .ret)))
theorem fB34:Tryz.f34.body.bind stripC=some fS34:=by kernel_rfl
def fS33r0:SC:=.reg [⟨some 2,.assign (.const (.slice none 0 0)),none⟩]
def fS33r1:SC:=.reg [⟨some 3,.assign (.const (.slice none 0 0)),none⟩]
def fS33r2:SC:=.reg [⟨some 4,.assign (.const (.int .i64 0)),none⟩]
def fS33r3:SC:=.reg [⟨some 7,.move (.tmp 4),none⟩,⟨some 8,.move (.tmp 0),none⟩,⟨some 9,.call ⟨.builtin .len,#[.tmp 8],#[39]⟩,none⟩,⟨some 10,.binOp .lss 3 (.tmp 7) (.tmp 9) 3,none⟩]
def fS33r4:SC:=.reg [⟨some 13,.move (.tmp 3),none⟩,⟨some 14,.move (.tmp 0),none⟩,⟨some 15,.move (.tmp 4),none⟩,⟨some 16,.indexAddr 39 (.tmp 14) (.tmp 15),none⟩,⟨some 17,.load 41 (.tmp 16),none⟩,⟨some 18,.call ⟨.value (.func 91),#[.tmp 13,.tmp 17,(.const (.int .i64 1))],#[39,41,3]⟩,none⟩,⟨some 3,.assign (.tmp 18),none⟩]
def fS33b0:SC:=.block 1 fS33r4
def fS33r5:SC:=.reg [⟨some 11,.move (.tmp 4),none⟩,⟨some 12,.binOp .add 3 (.tmp 11) (.const (.int .i64 1)) 3,none⟩,⟨some 4,.assign (.tmp 12),none⟩]
def fS33l0:SC:=(.seq (.seq fS33r3 (.cond (.tmp 10) .skip (.exit 0))) (.seq fS33b0 fS33r5))
def fS33b1:SC:=.block 0 (.loop fS33l0)
def fS33r6:SC:=.reg [⟨some 5,.assign (.const (.slice none 0 0)),none⟩]
def fS33r7:SC:=.reg [⟨some 6,.assign (.const (.int .i64 0)),none⟩]
def fS33r8:SC:=.reg [⟨some 19,.move (.tmp 6),none⟩,⟨some 20,.move (.tmp 3),none⟩,⟨some 21,.call ⟨.builtin .len,#[.tmp 20],#[39]⟩,none⟩,⟨some 22,.binOp .lss 3 (.tmp 19) (.tmp 21) 3,none⟩]
def fS33r9:SC:=.reg [⟨some 25,.move (.tmp 5),none⟩,⟨some 26,.move (.tmp 3),none⟩,⟨some 27,.move (.tmp 6),none⟩,⟨some 28,.indexAddr 39 (.tmp 26) (.tmp 27),none⟩,⟨some 29,.fieldAddr 41 (.tmp 28) 2,none⟩,⟨some 30,.load 3 (.tmp 29),none⟩,⟨some 31,.call ⟨.value (.func 34),#[.tmp 25,.tmp 30],#[26,3]⟩,none⟩,⟨some 32,.unOp .not 4 (.tmp 31),none⟩]
def fS33r10:SC:=.reg [⟨some 33,.move (.tmp 5),none⟩,⟨some 34,.move (.tmp 3),none⟩,⟨some 35,.move (.tmp 6),none⟩,⟨some 36,.indexAddr 39 (.tmp 34) (.tmp 35),none⟩,⟨some 37,.fieldAddr 41 (.tmp 36) 2,none⟩,⟨some 38,.load 3 (.tmp 37),none⟩,⟨some 39,.buildSlice 26 1 #[(0,(.tmp 38))],none⟩,⟨some 40,.call ⟨.builtin .append,#[.tmp 33,.tmp 39],#[26,26]⟩,none⟩,⟨some 5,.assign (.tmp 40),none⟩]
def fS33b2:SC:=.block 3 (.seq fS33r9 (.cond (.tmp 32) fS33r10 .skip))
def fS33r11:SC:=.reg [⟨some 23,.move (.tmp 6),none⟩,⟨some 24,.binOp .add 3 (.tmp 23) (.const (.int .i64 1)) 3,none⟩,⟨some 6,.assign (.tmp 24),none⟩]
def fS33l1:SC:=(.seq (.seq fS33r8 (.cond (.tmp 22) .skip (.exit 2))) (.seq fS33b2 fS33r11))
def fS33b3:SC:=.block 2 (.loop fS33l1)
def fS33r12:SC:=.reg [⟨some 41,.move (.tmp 5),none⟩,⟨some 2,.assign (.tmp 41),none⟩]
def fS33:SC:=(.seq fS33r0 (.seq fS33r1 (.seq (.seq fS33r2 fS33b1) (.seq fS33r6 (.seq (.seq fS33r7 fS33b3) (.seq fS33r12 .ret))))))
theorem fB33:Tryz.f33.body.bind stripC=some fS33:=by kernel_rfl
def fS86r0:SC:=.reg [⟨some 2,.alloc 41,none⟩]
def fS86r1:SC:=.reg [⟨some 3,.move (.tmp 0),none⟩,⟨some 4,.build 41 #[(0,(.const (.int .i64 1))),(2,(.tmp 3))],none⟩,⟨none,.store 41 (.tmp 2) (.tmp 4),none⟩]
def fS86:SC:=(.seq fS86r0 (.seq fS86r1 .ret))
theorem fB86:Tryz.f86.body.bind stripC=some fS86:=by kernel_rfl
def fS186r0:SC:=.reg [⟨some 3,.box 41 (.tmp 1),none⟩,⟨some 4,.assign (.const (.bool false)),none⟩]
def fS186r1:SC:=.reg [⟨some 5,.load 41 (.tmp 3),none⟩,⟨some 6,.buildSlice 39 1 #[(0,(.tmp 5))],none⟩,⟨some 7,.call ⟨.value (.func 33),#[.tmp 6],#[39]⟩,none⟩,⟨some 8,.move (.tmp 0),none⟩,⟨some 9,.call ⟨.value (.func 34),#[.tmp 7,.tmp 8],#[26,3]⟩,none⟩,⟨some 4,.assign (.tmp 9),none⟩]
def fS186:SC:=(.seq fS186r0 (.seq fS186r1 .ret))
theorem fB186:Tryz.f186.body.bind stripC=some fS186:=by kernel_rfl
def fS160r0:SC:=.reg [⟨some 2,.box 41 (.tmp 0),none⟩,⟨some 3,.alloc 41,none⟩]
def fS160r1:SC:=.reg [⟨some 6,.fieldAddr 41 (.tmp 2) 0,none⟩,⟨some 7,.load 3 (.tmp 6),none⟩,⟨some 8,.binOp .eql 3 (.tmp 7) (.const (.int .i64 1)) 3,none⟩]
def fS160r2:SC:=.reg [⟨some 9,.load 49 (.tmp 1),none⟩,⟨some 10,.call ⟨.builtin .len,#[.tmp 9],#[49]⟩,none⟩,⟨some 11,.move (.const (.int .i64 0)),none⟩]
def fS160r3:SC:=.reg [⟨some 12,.binOp .lss 3 (.tmp 11) (.tmp 10) 3,none⟩]
def fS160r4:SC:=.reg [⟨some 13,.indexAddr 49 (.tmp 9) (.tmp 11),none⟩,⟨some 14,.load 65 (.tmp 13),none⟩,⟨some 5,.alloc 65,none⟩,⟨none,.store 65 (.tmp 5) (.tmp 14),none⟩]
def fS160r5:SC:=.reg [⟨some 15,.fieldAddr 65 (.tmp 5) 0,none⟩,⟨some 16,.load 3 (.tmp 15),none⟩,⟨some 17,.fieldAddr 41 (.tmp 2) 2,none⟩,⟨some 18,.load 3 (.tmp 17),none⟩,⟨some 19,.binOp .eql 3 (.tmp 16) (.tmp 18) 3,none⟩]
def fS160r6:SC:=.reg [⟨some 20,.fieldAddr 65 (.tmp 5) 1,none⟩,⟨some 21,.load 41 (.tmp 20),none⟩,⟨none,.store 41 (.tmp 3) (.tmp 21),none⟩]
def fS160b0:SC:=.block 1 (.seq fS160r4 (.seq fS160r5 (.cond (.tmp 19) (.seq fS160r6 .ret) .skip)))
def fS160r7:SC:=.reg [⟨some 22,.binOp .add 3 (.tmp 11) (.const (.int .i64 1)) 3,none⟩,⟨some 11,.move (.tmp 22),none⟩]
def fS160l0:SC:=(.seq fS160r3 (.seq (.cond (.tmp 12) .skip (.exit 0)) (.seq fS160b0 fS160r7)))
def fS160b1:SC:=.block 0 (.loop fS160l0)
def fS160r8:SC:=.reg [⟨some 23,.load 41 (.tmp 2),none⟩,⟨none,.store 41 (.tmp 3) (.tmp 23),none⟩]
def fS160:SC:=(.seq fS160r0 (.seq (.seq fS160r1 (.cond (.tmp 8) (.seq fS160r2 fS160b1) .skip)) (.seq fS160r8 .ret)))
theorem fB160:Tryz.f160.body.bind stripC=some fS160:=by kernel_rfl
def fS159r0:SC:=.reg [⟨some 2,.box 41 (.tmp 0),none⟩,⟨some 4,.alloc 41,none⟩]
def fS159r1:SC:=.reg [⟨some 8,.fieldAddr 41 (.tmp 2) 4,none⟩,⟨some 9,.load 39 (.tmp 8),none⟩,⟨some 10,.call ⟨.builtin .len,#[.tmp 9],#[39]⟩,none⟩,⟨some 11,.binOp .eql 3 (.tmp 10) (.const (.int .i64 0)) 3,none⟩]
def fS159r2:SC:=.reg [⟨some 12,.move (.tmp 1),none⟩,⟨some 13,.load 41 (.tmp 2),none⟩,⟨some 14,.call ⟨.value (.tmp 12),#[.tmp 13],#[41]⟩,none⟩,⟨none,.store 41 (.tmp 4) (.tmp 14),none⟩]
def fS159r3:SC:=.reg [⟨some 15,.fieldAddr 41 (.tmp 2) 4,none⟩,⟨some 16,.load 39 (.tmp 15),none⟩,⟨some 17,.call ⟨.builtin .len,#[.tmp 16],#[39]⟩,none⟩,⟨some 18,.makeSlice 39 (.tmp 17) (.tmp 17),none⟩,⟨some 5,.assign (.tmp 18),none⟩]
def fS159r4:SC:=.reg [⟨some 19,.fieldAddr 41 (.tmp 2) 4,none⟩,⟨some 20,.load 39 (.tmp 19),none⟩,⟨some 21,.call ⟨.builtin .len,#[.tmp 20],#[39]⟩,none⟩,⟨some 22,.move (.const (.int .i64 0)),none⟩]
def fS159r5:SC:=.reg [⟨some 23,.binOp .lss 3 (.tmp 22) (.tmp 21) 3,none⟩]
def fS159r6:SC:=.reg [⟨some 24,.move (.tmp 22),none⟩,⟨some 25,.indexAddr 39 (.tmp 20) (.tmp 22),none⟩,⟨some 26,.load 41 (.tmp 25),none⟩,⟨some 7,.alloc 41,none⟩,⟨some 6,.assign (.tmp 24),none⟩,⟨none,.store 41 (.tmp 7) (.tmp 26),none⟩]
def fS159r7:SC:=.reg [⟨some 27,.move (.tmp 5),none⟩,⟨some 28,.move (.tmp 6),none⟩,⟨some 29,.load 41 (.tmp 7),none⟩,⟨some 30,.move (.tmp 1),none⟩,⟨some 31,.call ⟨.value (.func 159),#[.tmp 29,.tmp 30],#[41,165]⟩,none⟩,⟨some 32,.indexAddr 39 (.tmp 27) (.tmp 28),none⟩,⟨none,.store 41 (.tmp 32) (.tmp 31),none⟩]
def fS159b0:SC:=.block 1 (.seq fS159r6 fS159r7)
def fS159r8:SC:=.reg [⟨some 33,.binOp .add 3 (.tmp 22) (.const (.int .i64 1)) 3,none⟩,⟨some 22,.move (.tmp 33),none⟩]
def fS159l0:SC:=(.seq fS159r5 (.seq (.cond (.tmp 23) .skip (.exit 0)) (.seq fS159b0 fS159r8)))
def fS159b1:SC:=.block 0 (.loop fS159l0)
def fS159r9:SC:=.reg [⟨some 34,.move (.tmp 5),none⟩,⟨some 35,.fieldAddr 41 (.tmp 2) 4,none⟩,⟨none,.store 39 (.tmp 35) (.tmp 34),none⟩]
def fS159r10:SC:=.reg [⟨some 36,.load 41 (.tmp 2),none⟩,⟨none,.store 41 (.tmp 4) (.tmp 36),none⟩]
def fS159:SC:=(.seq fS159r0 (.seq (.seq fS159r1 (.cond (.tmp 11) (.seq fS159r2 .ret) .skip)) (.seq fS159r3 (.seq (.seq fS159r4 fS159b1) (.seq fS159r9 (.seq fS159r10 .ret))))))
theorem fB159:Tryz.f159.body.bind stripC=some fS159:=by kernel_rfl
def fS130r0:SC:=.reg [⟨some 2,.box 41 (.tmp 0),none⟩,⟨some 3,.box 49 (.tmp 1),none⟩,⟨some 4,.alloc 41,none⟩]
def fS130r1:SC:=.reg [⟨some 5,.load 41 (.tmp 2),none⟩,⟨some 6,.makeFunc (.func 160) #[] #[.tmp 3],none⟩,⟨some 7,.call ⟨.value (.func 159),#[.tmp 5,.tmp 6],#[41,165]⟩,none⟩,⟨none,.store 41 (.tmp 4) (.tmp 7),none⟩]
def fS130:SC:=(.seq fS130r0 (.seq fS130r1 .ret))
theorem fB130:Tryz.f130.body.bind stripC=some fS130:=by kernel_rfl
def fS148r0:SC:=.reg [⟨some 6,.assign (.const (.int .i64 0)),none⟩]
def fS148r1:SC:=.reg [⟨some 11,.move (.tmp 0),none⟩,⟨some 12,.call ⟨.builtin .len,#[.tmp 11],#[39]⟩,none⟩,⟨some 13,.move (.const (.int .i64 0)),none⟩]
def fS148r2:SC:=.reg [⟨some 14,.binOp .lss 3 (.tmp 13) (.tmp 12) 3,none⟩]
def fS148r3:SC:=.reg [⟨some 15,.move (.tmp 13),none⟩,⟨some 16,.indexAddr 39 (.tmp 11) (.tmp 13),none⟩,⟨some 17,.load 41 (.tmp 16),none⟩,⟨some 8,.alloc 41,none⟩,⟨some 7,.assign (.tmp 15),none⟩,⟨none,.store 41 (.tmp 8) (.tmp 17),none⟩]
def fS148r4:SC:=.reg [⟨some 18,.move (.tmp 7),none⟩,⟨some 19,.move (.tmp 1),none⟩,⟨some 20,.call ⟨.builtin .len,#[.tmp 19],#[39]⟩,none⟩,⟨some 21,.binOp .geq 3 (.tmp 18) (.tmp 20) 3,none⟩]
def fS148r5:SC:=.reg [⟨some 6,.assign (.const (.int .i64 1)),none⟩]
def fS148r6:SC:=.reg [⟨some 22,.move (.tmp 1),none⟩,⟨some 23,.move (.tmp 7),none⟩,⟨some 24,.indexAddr 39 (.tmp 22) (.tmp 23),none⟩,⟨some 25,.load 41 (.tmp 24),none⟩,⟨some 9,.alloc 41,none⟩,⟨none,.store 41 (.tmp 9) (.tmp 25),none⟩]
def fS148r7:SC:=.reg [⟨some 26,.move (.tmp 2),none⟩,⟨some 27,.load 41 (.tmp 8),none⟩,⟨some 28,.load 41 (.tmp 9),none⟩,⟨some 29,.call ⟨.value (.tmp 26),#[.tmp 27,.tmp 28],#[41,41]⟩,none⟩,⟨some 10,.assign (.tmp 29),none⟩]
def fS148r8:SC:=.reg [⟨some 30,.move (.tmp 10),none⟩,⟨some 31,.binOp .neq 3 (.tmp 30) (.const (.int .i64 0)) 3,none⟩]
def fS148r9:SC:=.reg [⟨some 32,.move (.tmp 10),none⟩,⟨some 6,.assign (.tmp 32),none⟩]
def fS148b0:SC:=.block 1 (.seq fS148r3 (.seq (.seq fS148r4 (.cond (.tmp 21) (.seq fS148r5 .ret) .skip)) (.seq fS148r6 (.seq fS148r7 (.seq fS148r8 (.cond (.tmp 31) (.seq fS148r9 .ret) .skip))))))
def fS148r10:SC:=.reg [⟨some 33,.binOp .add 3 (.tmp 13) (.const (.int .i64 1)) 3,none⟩,⟨some 13,.move (.tmp 33),none⟩]
def fS148l0:SC:=(.seq fS148r2 (.seq (.cond (.tmp 14) .skip (.exit 0)) (.seq fS148b0 fS148r10)))
def fS148b1:SC:=.block 0 (.loop fS148l0)
def fS148r11:SC:=.reg [⟨some 34,.move (.tmp 0),none⟩,⟨some 35,.call ⟨.builtin .len,#[.tmp 34],#[39]⟩,none⟩,⟨some 36,.move (.tmp 1),none⟩,⟨some 37,.call ⟨.builtin .len,#[.tmp 36],#[39]⟩,none⟩,⟨some 38,.binOp .lss 3 (.tmp 35) (.tmp 37) 3,none⟩]
def fS148r12:SC:=.reg [⟨some 6,.assign (.const (.int .i64 (-1))),none⟩]
def fS148r13:SC:=.reg [⟨some 6,.assign (.const (.int .i64 0)),none⟩]
def fS148:SC:=(.seq fS148r0 (.seq (.seq fS148r1 fS148b1) (.seq (.seq fS148r11 (.cond (.tmp 38) (.seq fS148r12 .ret) .skip)) (.seq fS148r13 .ret))))
theorem fB148:Tryz.f148.body.bind stripC=some fS148:=by kernel_rfl
def fS42r0:SC:=.reg [⟨some 6,.assign (.const (.slice none 0 0)),none⟩]
def fS42r1:SC:=.reg [⟨some 7,.assign (.const (.slice none 0 0)),none⟩]
def fS42r2:SC:=.reg [⟨some 8,.assign (.const (.int .i64 0)),none⟩]
def fS42r3:SC:=.reg [⟨some 9,.move (.tmp 8),none⟩,⟨some 10,.move (.tmp 2),none⟩,⟨some 11,.binOp .lss 3 (.tmp 9) (.tmp 10) 3,none⟩]
def fS42r4:SC:=.reg [⟨some 14,.move (.tmp 0),none⟩,⟨some 15,.call ⟨.value (.func 56),#[.tmp 14,(.const (.int .i64 3))],#[30,3]⟩,none⟩,⟨some 16,.binOp .gtr 3 (.tmp 15) (.const (.int .i64 0)) 3,none⟩]
def fS42r5:SC:=.reg [⟨some 17,.move (.tmp 7),none⟩,⟨some 18,.move (.tmp 8),none⟩,⟨some 19,.move (.tmp 0),none⟩,⟨some 20,.move (.tmp 1),none⟩,⟨some 21,.move (.tmp 2),none⟩,⟨some 22,.binOp .add 3 (.tmp 21) (.const (.int .i64 1)) 3,none⟩,⟨some 23,.call ⟨.value (.func 16),#[.tmp 22],#[3]⟩,none⟩,⟨some 24,.call ⟨.value (.func 58),#[(.const (.int .i64 (-1))),(.const (.int .i64 0))],#[3,3]⟩,none⟩,⟨some 25,.buildSlice 39 1 #[(0,(.tmp 24))],none⟩,⟨some 26,.call ⟨.builtin .append,#[.tmp 23,.tmp 25],#[39,39]⟩,none⟩,⟨some 27,.call ⟨.value (.func 15),#[.tmp 19,.tmp 20,.tmp 26,(.const (.int .i64 1))],#[30,34,39,3]⟩,none⟩,⟨some 28,.build 65 #[(0,(.tmp 18)),(1,(.tmp 27))],none⟩,⟨some 29,.buildSlice 49 1 #[(0,(.tmp 28))],none⟩,⟨some 30,.call ⟨.builtin .append,#[.tmp 17,.tmp 29],#[49,49]⟩,none⟩,⟨some 7,.assign (.tmp 30),none⟩]
def fS42b0:SC:=.block 1 (.seq fS42r4 (.cond (.tmp 16) fS42r5 .skip))
def fS42r6:SC:=.reg [⟨some 12,.move (.tmp 8),none⟩,⟨some 13,.binOp .add 3 (.tmp 12) (.const (.int .i64 1)) 3,none⟩,⟨some 8,.assign (.tmp 13),none⟩]
def fS42l0:SC:=(.seq (.seq fS42r3 (.cond (.tmp 11) .skip (.exit 0))) (.seq fS42b0 fS42r6))
def fS42b1:SC:=.block 0 (.loop fS42l0)
def fS42r7:SC:=.reg [⟨some 31,.move (.tmp 7),none⟩,⟨some 6,.assign (.tmp 31),none⟩]
def fS42:SC:=(.seq fS42r0 (.seq fS42r1 (.seq (.seq fS42r2 fS42b1) (.seq fS42r7 .ret))))
theorem fB42:Tryz.f42.body.bind stripC=some fS42:=by kernel_rfl
def fS185r0:SC:=.reg [⟨some 4,.assign (.const (.int .i64 0)),none⟩]
def fS185r1:SC:=.reg [⟨some 6,.move (.tmp 0),none⟩,⟨some 7,.call ⟨.builtin .len,#[.tmp 6],#[49]⟩,none⟩,⟨some 8,.move (.const (.int .i64 0)),none⟩]
def fS185r2:SC:=.reg [⟨some 9,.binOp .lss 3 (.tmp 8) (.tmp 7) 3,none⟩]
def fS185r3:SC:=.reg [⟨some 10,.move (.tmp 8),none⟩,⟨some 5,.assign (.tmp 10),none⟩]
def fS185r4:SC:=.reg [⟨some 11,.move (.tmp 1),none⟩,⟨some 12,.move (.tmp 0),none⟩,⟨some 13,.move (.tmp 5),none⟩,⟨some 14,.indexAddr 49 (.tmp 12) (.tmp 13),none⟩,⟨some 15,.load 65 (.tmp 14),none⟩,⟨some 16,.call ⟨.value (.tmp 11),#[.tmp 15],#[65]⟩,none⟩]
def fS185r5:SC:=.reg [⟨some 17,.move (.tmp 5),none⟩,⟨some 4,.assign (.tmp 17),none⟩]
def fS185b0:SC:=.block 1 (.seq fS185r3 (.seq fS185r4 (.cond (.tmp 16) (.seq fS185r5 .ret) .skip)))
def fS185r6:SC:=.reg [⟨some 18,.binOp .add 3 (.tmp 8) (.const (.int .i64 1)) 3,none⟩,⟨some 8,.move (.tmp 18),none⟩]
def fS185l0:SC:=(.seq fS185r2 (.seq (.cond (.tmp 9) .skip (.exit 0)) (.seq fS185b0 fS185r6)))
def fS185b1:SC:=.block 0 (.loop fS185l0)
def fS185r7:SC:=.reg [⟨some 4,.assign (.const (.int .i64 (-1))),none⟩]
def fS185:SC:=(.seq fS185r0 (.seq (.seq fS185r1 fS185b1) (.seq fS185r7 .ret)))
theorem fB185:Tryz.f185.body.bind stripC=some fS185:=by kernel_rfl
def fS95r0:SC:=.reg [⟨some 3,.box 41 (.tmp 1),none⟩,⟨some 4,.alloc 41,none⟩]
def fS95r1:SC:=.reg [⟨some 5,.load 41 (.tmp 3),none⟩,⟨some 6,.move (.tmp 0),none⟩,⟨some 7,.call ⟨.value (.func 130),#[.tmp 5,.tmp 6],#[41,49]⟩,none⟩,⟨none,.store 41 (.tmp 4) (.tmp 7),none⟩]
def fS95:SC:=(.seq fS95r0 (.seq fS95r1 .ret))
theorem fB95:Tryz.f95.body.bind stripC=some fS95:=by kernel_rfl
def fS63r0:SC:=.reg [⟨some 2,.box 41 (.tmp 0),none⟩,⟨some 3,.box 41 (.tmp 1),none⟩,⟨some 4,.assign (.const (.bool false)),none⟩]
def fS63r1:SC:=.reg [⟨some 5,.load 41 (.tmp 2),none⟩,⟨some 6,.load 41 (.tmp 3),none⟩,⟨some 7,.call ⟨.value (.func 107),#[.tmp 5,.tmp 6],#[41,41]⟩,none⟩,⟨some 8,.binOp .eql 3 (.tmp 7) (.const (.int .i64 0)) 3,none⟩,⟨some 4,.assign (.tmp 8),none⟩]
def fS63:SC:=(.seq fS63r0 (.seq fS63r1 .ret))
theorem fB63:Tryz.f63.body.bind stripC=some fS63:=by kernel_rfl
def fS107r0:SC:=.reg [⟨some 2,.box 41 (.tmp 0),none⟩,⟨some 3,.box 41 (.tmp 1),none⟩,⟨some 4,.assign (.const (.int .i64 0)),none⟩]
def fS107r1:SC:=.draw [⟨some 6,.fieldAddr 41 (.tmp 2) 0,none,[2]⟩,⟨some 7,.load 3 (.tmp 6),none,[6]⟩,⟨some 8,.fieldAddr 41 (.tmp 3) 0,none,[3]⟩,⟨some 9,.load 3 (.tmp 8),none,[8]⟩,⟨some 10,.call ⟨.value (.func 146),#[.tmp 7,.tmp 9],#[3,3]⟩,none,[7,9]⟩,⟨some 11,.fieldAddr 41 (.tmp 2) 1,none,[2]⟩,⟨some 12,.load 9 (.tmp 11),none,[11]⟩,⟨some 13,.fieldAddr 41 (.tmp 3) 1,none,[3]⟩,⟨some 14,.load 9 (.tmp 13),none,[13]⟩,⟨some 15,.call ⟨.value (.func 147),#[.tmp 12,.tmp 14],#[9,9]⟩,none,[12,14]⟩,⟨some 16,.fieldAddr 41 (.tmp 2) 2,none,[2]⟩,⟨some 17,.load 3 (.tmp 16),none,[16]⟩,⟨some 18,.fieldAddr 41 (.tmp 3) 2,none,[3]⟩,⟨some 19,.load 3 (.tmp 18),none,[18]⟩,⟨some 20,.call ⟨.value (.func 146),#[.tmp 17,.tmp 19],#[3,3]⟩,none,[17,19]⟩,⟨some 21,.fieldAddr 41 (.tmp 2) 3,none,[2]⟩,⟨some 22,.load 3 (.tmp 21),none,[21]⟩,⟨some 23,.fieldAddr 41 (.tmp 3) 3,none,[3]⟩,⟨some 24,.load 3 (.tmp 23),none,[23]⟩,⟨some 25,.call ⟨.value (.func 146),#[.tmp 22,.tmp 24],#[3,3]⟩,none,[22,24]⟩,⟨some 26,.fieldAddr 41 (.tmp 2) 4,none,[2]⟩,⟨some 27,.load 39 (.tmp 26),none,[26]⟩,⟨some 28,.call ⟨.builtin .len,#[.tmp 27],#[39]⟩,none,[27]⟩,⟨some 29,.fieldAddr 41 (.tmp 3) 4,none,[3]⟩,⟨some 30,.load 39 (.tmp 29),none,[29]⟩,⟨some 31,.call ⟨.builtin .len,#[.tmp 30],#[39]⟩,none,[30]⟩,⟨some 32,.call ⟨.value (.func 146),#[.tmp 28,.tmp 31],#[3,3]⟩,none,[28,31]⟩,⟨some 33,.buildSlice 26 5 #[(0,(.tmp 10)),(1,(.tmp 15)),(2,(.tmp 20)),(3,(.tmp 25)),(4,(.tmp 32))],none,[10,15,20,25,32]⟩,⟨some 34,.call ⟨.value (.func 145),#[.tmp 33],#[26]⟩,none,[33]⟩,⟨some 5,.assign (.tmp 34),none,[34]⟩] [0,1,0,4,15,0,32,0,128,511,0,1024,0,4096,16383,0,32768,0,131072,524287,0,1048576,3145728,0,8388608,25165824,67108863,134217727,268435455,536870911]
def fS107r2:SC:=.reg [⟨some 35,.move (.tmp 5),none⟩,⟨some 36,.binOp .neq 3 (.tmp 35) (.const (.int .i64 0)) 3,none⟩]
def fS107r3:SC:=.reg [⟨some 37,.move (.tmp 5),none⟩,⟨some 4,.assign (.tmp 37),none⟩]
def fS107r4:SC:=.reg [⟨some 38,.fieldAddr 41 (.tmp 2) 4,none⟩,⟨some 39,.load 39 (.tmp 38),none⟩,⟨some 40,.fieldAddr 41 (.tmp 3) 4,none⟩,⟨some 41,.load 39 (.tmp 40),none⟩,⟨some 42,.call ⟨.value (.func 148),#[.tmp 39,.tmp 41,(.func 107)],#[39,39,150]⟩,none⟩,⟨some 4,.assign (.tmp 42),none⟩]
def fS107:SC:=(.seq fS107r0 (.seq fS107r1 (.seq (.seq fS107r2 (.cond (.tmp 36) (.seq fS107r3 .ret) .skip)) (.seq fS107r4 .ret))))
theorem fB107:Tryz.f107.body.bind stripC=some fS107:=by kernel_rfl
def fS145r0:SC:=.reg [⟨some 2,.assign (.const (.int .i64 0)),none⟩]
def fS145r1:SC:=.reg [⟨some 3,.assign (.const (.int .i64 0)),none⟩]
def fS145r2:SC:=.reg [⟨some 6,.move (.tmp 0),none⟩,⟨some 7,.call ⟨.builtin .len,#[.tmp 6],#[26]⟩,none⟩,⟨some 8,.move (.const (.int .i64 0)),none⟩]
def fS145r3:SC:=.reg [⟨some 9,.binOp .lss 3 (.tmp 8) (.tmp 7) 3,none⟩]
def fS145r4:SC:=.reg [⟨some 10,.indexAddr 26 (.tmp 6) (.tmp 8),none⟩,⟨some 11,.load 3 (.tmp 10),none⟩,⟨some 5,.assign (.tmp 11),none⟩]
def fS145r5:SC:=.reg [⟨some 12,.move (.tmp 5),none⟩,⟨some 13,.move (.tmp 3),none⟩,⟨some 14,.binOp .neq 3 (.tmp 12) (.tmp 13) 3,none⟩]
def fS145r6:SC:=.reg [⟨some 15,.move (.tmp 5),none⟩,⟨some 2,.assign (.tmp 15),none⟩]
def fS145b0:SC:=.block 1 (.seq fS145r4 (.seq fS145r5 (.cond (.tmp 14) (.seq fS145r6 .ret) .skip)))
def fS145r7:SC:=.reg [⟨some 16,.binOp .add 3 (.tmp 8) (.const (.int .i64 1)) 3,none⟩,⟨some 8,.move (.tmp 16),none⟩]
def fS145l0:SC:=(.seq fS145r3 (.seq (.cond (.tmp 9) .skip (.exit 0)) (.seq fS145b0 fS145r7)))
def fS145b1:SC:=.block 0 (.loop fS145l0)
def fS145r8:SC:=.reg [⟨some 17,.move (.tmp 3),none⟩,⟨some 2,.assign (.tmp 17),none⟩]
def fS145:SC:=(.seq fS145r0 (.seq fS145r1 (.seq (.seq fS145r2 fS145b1) (.seq fS145r8 .ret))))
theorem fB145:Tryz.f145.body.bind stripC=some fS145:=by kernel_rfl
def fS146r0:SC:=.reg [⟨some 4,.assign (.const (.int .i64 0)),none⟩]
def fS146r1:SC:=.reg [⟨some 7,.move (.tmp 0),none⟩,⟨some 8,.call ⟨.value (.func 183),#[.tmp 7],#[3]⟩,none⟩,⟨some 5,.assign (.tmp 8),none⟩]
def fS146r2:SC:=.reg [⟨some 9,.move (.tmp 1),none⟩,⟨some 10,.call ⟨.value (.func 183),#[.tmp 9],#[3]⟩,none⟩,⟨some 6,.assign (.tmp 10),none⟩]
def fS146r3:SC:=.reg [⟨some 11,.move (.tmp 5),none⟩]
def fS146r4:SC:=.reg [⟨some 12,.move (.tmp 6),none⟩]
def fS146r5:SC:=.reg [⟨some 4,.assign (.const (.int .i64 0)),none⟩]
def fS146r6:SC:=.reg [⟨some 4,.assign (.const (.int .i64 (-1))),none⟩]
def fS146r7:SC:=.reg [⟨some 13,.move (.tmp 6),none⟩]
def fS146r8:SC:=.reg [⟨some 4,.assign (.const (.int .i64 1)),none⟩]
def fS146r9:SC:=.reg [⟨some 14,.move (.tmp 0),none⟩,⟨some 15,.move (.tmp 1),none⟩,⟨some 16,.binOp .lss 3 (.tmp 14) (.tmp 15) 3,none⟩]
def fS146r10:SC:=.reg [⟨some 4,.assign (.const (.int .i64 (-1))),none⟩]
def fS146r11:SC:=.reg [⟨some 17,.move (.tmp 0),none⟩,⟨some 18,.move (.tmp 1),none⟩,⟨some 19,.binOp .gtr 3 (.tmp 17) (.tmp 18) 3,none⟩]
def fS146r12:SC:=.reg [⟨some 4,.assign (.const (.int .i64 1)),none⟩]
def fS146r13:SC:=.reg [⟨some 4,.assign (.const (.int .i64 0)),none⟩]
def fS146:SC:=(.seq fS146r0 (.seq fS146r1 (.seq fS146r2 (.seq (.seq fS146r3 (.cond (.tmp 11) (.seq (.seq fS146r4 (.cond (.tmp 12) (.seq fS146r5 .ret) .skip)) (.seq fS146r6 .ret)) .skip)) (.seq (.seq fS146r7 (.cond (.tmp 13) (.seq fS146r8 .ret) .skip)) (.seq (.seq fS146r9 (.cond (.tmp 16) (.seq fS146r10 .ret) .skip)) (.seq (.seq fS146r11 (.cond (.tmp 19) (.seq fS146r12 .ret) .skip)) (.seq fS146r13 .ret))))))))
theorem fB146:Tryz.f146.body.bind stripC=some fS146:=by kernel_rfl
def fS147r0:SC:=.reg [⟨some 4,.assign (.const (.int .i64 0)),none⟩]
def fS147r1:SC:=.reg [⟨some 7,.move (.tmp 0),none⟩,⟨some 8,.call ⟨.value (.func 184),#[.tmp 7],#[9]⟩,none⟩,⟨some 5,.assign (.tmp 8),none⟩]
def fS147r2:SC:=.reg [⟨some 9,.move (.tmp 1),none⟩,⟨some 10,.call ⟨.value (.func 184),#[.tmp 9],#[9]⟩,none⟩,⟨some 6,.assign (.tmp 10),none⟩]
def fS147r3:SC:=.reg [⟨some 11,.move (.tmp 5),none⟩]
def fS147r4:SC:=.reg [⟨some 12,.move (.tmp 6),none⟩]
def fS147r5:SC:=.reg [⟨some 4,.assign (.const (.int .i64 0)),none⟩]
def fS147r6:SC:=.reg [⟨some 4,.assign (.const (.int .i64 (-1))),none⟩]
def fS147r7:SC:=.reg [⟨some 13,.move (.tmp 6),none⟩]
def fS147r8:SC:=.reg [⟨some 4,.assign (.const (.int .i64 1)),none⟩]
def fS147r9:SC:=.reg [⟨some 14,.move (.tmp 0),none⟩,⟨some 15,.move (.tmp 1),none⟩,⟨some 16,.binOp .lss 9 (.tmp 14) (.tmp 15) 9,none⟩]
def fS147r10:SC:=.reg [⟨some 4,.assign (.const (.int .i64 (-1))),none⟩]
def fS147r11:SC:=.reg [⟨some 17,.move (.tmp 0),none⟩,⟨some 18,.move (.tmp 1),none⟩,⟨some 19,.binOp .gtr 9 (.tmp 17) (.tmp 18) 9,none⟩]
def fS147r12:SC:=.reg [⟨some 4,.assign (.const (.int .i64 1)),none⟩]
def fS147r13:SC:=.reg [⟨some 4,.assign (.const (.int .i64 0)),none⟩]
def fS147:SC:=(.seq fS147r0 (.seq fS147r1 (.seq fS147r2 (.seq (.seq fS147r3 (.cond (.tmp 11) (.seq (.seq fS147r4 (.cond (.tmp 12) (.seq fS147r5 .ret) .skip)) (.seq fS147r6 .ret)) .skip)) (.seq (.seq fS147r7 (.cond (.tmp 13) (.seq fS147r8 .ret) .skip)) (.seq (.seq fS147r9 (.cond (.tmp 16) (.seq fS147r10 .ret) .skip)) (.seq (.seq fS147r11 (.cond (.tmp 19) (.seq fS147r12 .ret) .skip)) (.seq fS147r13 .ret))))))))
theorem fB147:Tryz.f147.body.bind stripC=some fS147:=by kernel_rfl
def fS183r0:SC:=.reg [⟨some 2,.assign (.const (.bool false)),none⟩]
def fS183r1:SC:=.reg [⟨some 3,.move (.tmp 0),none⟩,⟨some 4,.move (.tmp 0),none⟩,⟨some 5,.binOp .neq 3 (.tmp 3) (.tmp 4) 3,none⟩,⟨some 2,.assign (.tmp 5),none⟩]
def fS183:SC:=(.seq fS183r0 (.seq fS183r1 .ret))
theorem fB183:Tryz.f183.body.bind stripC=some fS183:=by kernel_rfl
def fS184r0:SC:=.reg [⟨some 2,.assign (.const (.bool false)),none⟩]
def fS184r1:SC:=.reg [⟨some 3,.move (.tmp 0),none⟩,⟨some 4,.move (.tmp 0),none⟩,⟨some 5,.binOp .neq 9 (.tmp 3) (.tmp 4) 9,none⟩,⟨some 2,.assign (.tmp 5),none⟩]
def fS184:SC:=(.seq fS184r0 (.seq fS184r1 .ret))
theorem fB184:Tryz.f184.body.bind stripC=some fS184:=by kernel_rfl
def fS96r0:SC:=.reg [⟨some 3,.box 41 (.tmp 0),none⟩,⟨some 4,.box 41 (.tmp 1),none⟩,⟨some 6,.assign (.const (.slice none 0 0)),none⟩,⟨some 7,.assign (.const (.bool false)),none⟩]
def fS96r1:SC:=.reg [⟨some 10,.fieldAddr 41 (.tmp 3) 0,none⟩,⟨some 11,.load 3 (.tmp 10),none⟩,⟨some 12,.binOp .eql 3 (.tmp 11) (.const (.int .i64 1)) 3,none⟩]
def fS96r2:SC:=.reg [⟨some 13,.move (.tmp 2),none⟩,⟨some 14,.fieldAddr 41 (.tmp 3) 2,none⟩,⟨some 15,.load 3 (.tmp 14),none⟩,⟨some 16,.call ⟨.value (.func 92),#[.tmp 13,.tmp 15],#[49,3]⟩,none⟩]
def fS96r3:SC:=.draw [⟨some 17,.move (.tmp 2),none,[2]⟩,⟨some 18,.load 41 (.tmp 3),none,[3]⟩,⟨some 19,.call ⟨.value (.func 88),#[.tmp 17,.tmp 18],#[49,41]⟩,none,[17,18]⟩,⟨some 20,.load 41 (.tmp 4),none,[4]⟩,⟨some 21,.call ⟨.value (.func 23),#[.tmp 19,.tmp 20],#[41,41]⟩,none,[19,20]⟩,⟨some 22,.unOp .not 4 (.tmp 21),none,[21]⟩] [0,0,3,0,15,31]
def fS96r4:SC:=.reg [⟨some 6,.assign (.const (.slice none 0 0)),none⟩,⟨some 7,.assign (.const (.bool false)),none⟩]
def fS96r5:SC:=.reg [⟨some 23,.move (.tmp 2),none⟩,⟨some 6,.assign (.tmp 23),none⟩,⟨some 7,.assign (.const (.bool true)),none⟩]
def fS96r6:SC:=.draw [⟨some 24,.move (.tmp 2),none,[2]⟩,⟨some 25,.call ⟨.builtin .append,#[(.const (.slice none 0 0)),.tmp 24],#[49,49]⟩,none,[24]⟩,⟨some 26,.fieldAddr 41 (.tmp 3) 2,none,[3]⟩,⟨some 27,.load 3 (.tmp 26),none,[26]⟩,⟨some 28,.load 41 (.tmp 4),none,[4]⟩,⟨some 29,.build 65 #[(0,(.tmp 27)),(1,(.tmp 28))],none,[27,28]⟩,⟨some 30,.buildSlice 49 1 #[(0,(.tmp 29))],none,[29]⟩,⟨some 31,.call ⟨.builtin .append,#[.tmp 25,.tmp 30],#[49,49]⟩,none,[25,30]⟩,⟨some 6,.assign (.tmp 31),none,[31]⟩,⟨some 7,.assign (.const (.bool true)),none,[]⟩] [0,1,0,4,0,28,60,127,255,511]
def fS96r7:SC:=.reg [⟨some 32,.fieldAddr 41 (.tmp 3) 0,none⟩,⟨some 33,.load 3 (.tmp 32),none⟩,⟨some 34,.fieldAddr 41 (.tmp 4) 0,none⟩,⟨some 35,.load 3 (.tmp 34),none⟩,⟨some 36,.binOp .neq 3 (.tmp 33) (.tmp 35) 3,none⟩,⟨some 37,.move (.tmp 36),none⟩,⟨some 38,.fieldAddr 41 (.tmp 3) 1,some (37,false)⟩,⟨some 39,.load 9 (.tmp 38),some (37,false)⟩,⟨some 40,.fieldAddr 41 (.tmp 4) 1,some (37,false)⟩,⟨some 41,.load 9 (.tmp 40),some (37,false)⟩,⟨some 42,.binOp .neq 9 (.tmp 39) (.tmp 41) 9,some (37,false)⟩,⟨some 43,.pick (.tmp 37) (.const (.bool true)) (.tmp 42),none⟩,⟨some 44,.move (.tmp 43),none⟩,⟨some 45,.fieldAddr 41 (.tmp 3) 2,some (44,false)⟩,⟨some 46,.load 3 (.tmp 45),some (44,false)⟩,⟨some 47,.fieldAddr 41 (.tmp 4) 2,some (44,false)⟩,⟨some 48,.load 3 (.tmp 47),some (44,false)⟩,⟨some 49,.binOp .neq 3 (.tmp 46) (.tmp 48) 3,some (44,false)⟩,⟨some 50,.pick (.tmp 44) (.const (.bool true)) (.tmp 49),none⟩,⟨some 51,.move (.tmp 50),none⟩,⟨some 52,.fieldAddr 41 (.tmp 3) 3,some (51,false)⟩,⟨some 53,.load 3 (.tmp 52),some (51,false)⟩,⟨some 54,.fieldAddr 41 (.tmp 4) 3,some (51,false)⟩,⟨some 55,.load 3 (.tmp 54),some (51,false)⟩,⟨some 56,.binOp .neq 3 (.tmp 53) (.tmp 55) 3,some (51,false)⟩,⟨some 57,.pick (.tmp 51) (.const (.bool true)) (.tmp 56),none⟩,⟨some 58,.move (.tmp 57),none⟩,⟨some 59,.fieldAddr 41 (.tmp 3) 4,some (58,false)⟩,⟨some 60,.load 39 (.tmp 59),some (58,false)⟩,⟨some 61,.call ⟨.builtin .len,#[.tmp 60],#[39]⟩,some (58,false)⟩,⟨some 62,.fieldAddr 41 (.tmp 4) 4,some (58,false)⟩,⟨some 63,.load 39 (.tmp 62),some (58,false)⟩,⟨some 64,.call ⟨.builtin .len,#[.tmp 63],#[39]⟩,some (58,false)⟩,⟨some 65,.binOp .neq 3 (.tmp 61) (.tmp 64) 3,some (58,false)⟩,⟨some 66,.pick (.tmp 58) (.const (.bool true)) (.tmp 65),none⟩]
def fS96r8:SC:=.reg [⟨some 6,.assign (.const (.slice none 0 0)),none⟩,⟨some 7,.assign (.const (.bool false)),none⟩]
def fS96r9:SC:=.reg [⟨some 8,.assign (.const (.bool true)),none⟩]
def fS96r10:SC:=.reg [⟨some 9,.assign (.const (.int .i64 0)),none⟩]
def fS96r11:SC:=.reg [⟨some 67,.move (.tmp 9),none⟩,⟨some 68,.fieldAddr 41 (.tmp 3) 4,none⟩,⟨some 69,.load 39 (.tmp 68),none⟩,⟨some 70,.call ⟨.builtin .len,#[.tmp 69],#[39]⟩,none⟩,⟨some 71,.binOp .lss 3 (.tmp 67) (.tmp 70) 3,none⟩,⟨some 72,.move (.tmp 71),none⟩,⟨some 73,.move (.tmp 8),some (72,true)⟩,⟨some 74,.pick (.tmp 72) (.tmp 73) (.const (.bool false)),none⟩]
def fS96r12:SC:=.draw [⟨some 78,.fieldAddr 41 (.tmp 3) 4,none,[3]⟩,⟨some 79,.load 39 (.tmp 78),none,[78]⟩,⟨some 80,.move (.tmp 9),none,[9]⟩,⟨some 81,.indexAddr 39 (.tmp 79) (.tmp 80),none,[79,80]⟩,⟨some 82,.load 41 (.tmp 81),none,[81]⟩,⟨some 83,.fieldAddr 41 (.tmp 4) 4,none,[4]⟩,⟨some 84,.load 39 (.tmp 83),none,[83]⟩,⟨some 85,.move (.tmp 9),none,[9]⟩,⟨some 86,.indexAddr 39 (.tmp 84) (.tmp 85),none,[84,85]⟩,⟨some 87,.load 41 (.tmp 86),none,[86]⟩,⟨some 88,.move (.tmp 2),none,[2]⟩,⟨some 89,.call ⟨.value (.func 96),#[.tmp 82,.tmp 87,.tmp 88],#[41,41,49]⟩,none,[82,87,88]⟩,⟨some 77,.move (.tmp 89),none,[89]⟩,⟨some 90,.extract (.tmp 77) 0,none,[77]⟩,⟨some 91,.extract (.tmp 77) 1,none,[77]⟩,⟨some 2,.assign (.tmp 90),none,[90]⟩,⟨some 8,.assign (.tmp 91),none,[91]⟩] [0,1,0,7,15,0,32,0,224,480,0,2047,4095,8191,8191,16383,65535]
def fS96b0:SC:=.block 1 fS96r12
def fS96r13:SC:=.reg [⟨some 75,.move (.tmp 9),none⟩,⟨some 76,.binOp .add 3 (.tmp 75) (.const (.int .i64 1)) 3,none⟩,⟨some 9,.assign (.tmp 76),none⟩]
def fS96l0:SC:=(.seq (.seq fS96r11 (.cond (.tmp 74) .skip (.exit 0))) (.seq fS96b0 fS96r13))
def fS96b1:SC:=.block 0 (.loop fS96l0)
def fS96r14:SC:=.reg [⟨some 92,.move (.tmp 8),none⟩,⟨some 93,.unOp .not 4 (.tmp 92),none⟩]
def fS96r15:SC:=.reg [⟨some 6,.assign (.const (.slice none 0 0)),none⟩,⟨some 7,.assign (.const (.bool false)),none⟩]
def fS96r16:SC:=.reg [⟨some 94,.move (.tmp 2),none⟩,⟨some 6,.assign (.tmp 94),none⟩,⟨some 7,.assign (.const (.bool true)),none⟩]
def fS96:SC:=(.seq fS96r0 (.seq (.seq fS96r1 (.cond (.tmp 12) (.seq (.seq fS96r2 (.cond (.tmp 16) (.seq (.seq fS96r3 (.cond (.tmp 22) (.seq fS96r4 .ret) .skip)) (.seq fS96r5 .ret)) .skip)) (.seq fS96r6 .ret)) .skip)) (.seq (.seq fS96r7 (.cond (.tmp 66) (.seq fS96r8 .ret) .skip)) (.seq fS96r9 (.seq (.seq fS96r10 fS96b1) (.seq (.seq fS96r14 (.cond (.tmp 93) (.seq fS96r15 .ret) .skip)) (.seq fS96r16 .ret)))))))
theorem fB96:Tryz.f96.body.bind stripC=some fS96:=by kernel_rfl
def fS88r0:SC:=.reg [⟨some 3,.box 41 (.tmp 1),none⟩,⟨some 4,.alloc 41,none⟩]
def fS88r1:SC:=.reg [⟨some 5,.load 41 (.tmp 3),none⟩,⟨some 6,.move (.tmp 0),none⟩,⟨some 7,.call ⟨.value (.func 25),#[.tmp 5,.tmp 6],#[41,49]⟩,none⟩,⟨none,.store 41 (.tmp 4) (.tmp 7),none⟩]
def fS88:SC:=(.seq fS88r0 (.seq fS88r1 .ret))
theorem fB88:Tryz.f88.body.bind stripC=some fS88:=by kernel_rfl
def fS92r0:SC:=.reg [⟨some 4,.assign (.const (.bool false)),none⟩]
def fS92r1:SC:=.reg [⟨some 5,.assign (.const (.int .i64 0)),none⟩]
def fS92r2:SC:=.reg [⟨some 6,.move (.tmp 5),none⟩,⟨some 7,.move (.tmp 0),none⟩,⟨some 8,.call ⟨.builtin .len,#[.tmp 7],#[49]⟩,none⟩,⟨some 9,.binOp .lss 3 (.tmp 6) (.tmp 8) 3,none⟩]
def fS92r3:SC:=.reg [⟨some 12,.move (.tmp 0),none⟩,⟨some 13,.move (.tmp 5),none⟩,⟨some 14,.indexAddr 49 (.tmp 12) (.tmp 13),none⟩,⟨some 15,.fieldAddr 65 (.tmp 14) 0,none⟩,⟨some 16,.load 3 (.tmp 15),none⟩,⟨some 17,.move (.tmp 1),none⟩,⟨some 18,.binOp .eql 3 (.tmp 16) (.tmp 17) 3,none⟩]
def fS92r4:SC:=.reg [⟨some 4,.assign (.const (.bool true)),none⟩]
def fS92b0:SC:=.block 1 (.seq fS92r3 (.cond (.tmp 18) (.seq fS92r4 .ret) .skip))
def fS92r5:SC:=.reg [⟨some 10,.move (.tmp 5),none⟩,⟨some 11,.binOp .add 3 (.tmp 10) (.const (.int .i64 1)) 3,none⟩,⟨some 5,.assign (.tmp 11),none⟩]
def fS92l0:SC:=(.seq (.seq fS92r2 (.cond (.tmp 9) .skip (.exit 0))) (.seq fS92b0 fS92r5))
def fS92b1:SC:=.block 0 (.loop fS92l0)
def fS92r6:SC:=.reg [⟨some 4,.assign (.const (.bool false)),none⟩]
def fS92:SC:=(.seq fS92r0 (.seq (.seq fS92r1 fS92b1) (.seq fS92r6 .ret)))
theorem fB92:Tryz.f92.body.bind stripC=some fS92:=by kernel_rfl
def fS66r0:SC:=.reg [⟨some 2,.assign (.const (.slice none 0 0)),none⟩]
def fS66r1:SC:=.reg [⟨some 3,.alloc 26,none⟩]
def fS66r2:SC:=.reg [⟨some 6,.move (.tmp 0),none⟩,⟨some 7,.call ⟨.builtin .len,#[.tmp 6],#[39]⟩,none⟩,⟨some 8,.move (.const (.int .i64 0)),none⟩]
def fS66r3:SC:=.reg [⟨some 9,.binOp .lss 3 (.tmp 8) (.tmp 7) 3,none⟩]
def fS66r4:SC:=.reg [⟨some 10,.indexAddr 39 (.tmp 6) (.tmp 8),none⟩,⟨some 11,.load 41 (.tmp 10),none⟩,⟨some 5,.alloc 41,none⟩,⟨none,.store 41 (.tmp 5) (.tmp 11),none⟩]
def fS66r5:SC:=.reg [⟨some 12,.load 41 (.tmp 5),none⟩,⟨some 13,.makeFunc (.func 114) #[] #[.tmp 3],none⟩,⟨some 14,.call ⟨.value (.func 113),#[.tmp 12,.tmp 13],#[41,156]⟩,none⟩]
def fS66b0:SC:=.block 1 (.seq fS66r4 fS66r5)
def fS66r6:SC:=.reg [⟨some 15,.binOp .add 3 (.tmp 8) (.const (.int .i64 1)) 3,none⟩,⟨some 8,.move (.tmp 15),none⟩]
def fS66l0:SC:=(.seq fS66r3 (.seq (.cond (.tmp 9) .skip (.exit 0)) (.seq fS66b0 fS66r6)))
def fS66b1:SC:=.block 0 (.loop fS66l0)
def fS66r7:SC:=.reg [⟨some 16,.load 26 (.tmp 3),none⟩,⟨some 2,.assign (.tmp 16),none⟩]
def fS66:SC:=(.seq fS66r0 (.seq fS66r1 (.seq (.seq fS66r2 fS66b1) (.seq fS66r7 .ret))))
theorem fB66:Tryz.f66.body.bind stripC=some fS66:=by kernel_rfl
def fS114r0:SC:=.reg [⟨some 2,.box 41 (.tmp 0),none⟩]
def fS114r1:SC:=.reg [⟨some 3,.fieldAddr 41 (.tmp 2) 0,none⟩,⟨some 4,.load 3 (.tmp 3),none⟩,⟨some 5,.binOp .eql 3 (.tmp 4) (.const (.int .i64 1)) 3,none⟩,⟨some 6,.move (.tmp 5),none⟩,⟨some 7,.load 26 (.tmp 1),some (6,true)⟩,⟨some 8,.fieldAddr 41 (.tmp 2) 2,some (6,true)⟩,⟨some 9,.load 3 (.tmp 8),some (6,true)⟩,⟨some 10,.call ⟨.value (.func 115),#[.tmp 7,.tmp 9],#[26,3]⟩,some (6,true)⟩,⟨some 11,.unOp .not 4 (.tmp 10),some (6,true)⟩,⟨some 12,.pick (.tmp 6) (.tmp 11) (.const (.bool false)),none⟩]
def fS114r2:SC:=.reg [⟨some 13,.load 26 (.tmp 1),none⟩,⟨some 14,.fieldAddr 41 (.tmp 2) 2,none⟩,⟨some 15,.load 3 (.tmp 14),none⟩,⟨some 16,.buildSlice 26 1 #[(0,(.tmp 15))],none⟩,⟨some 17,.call ⟨.builtin .append,#[.tmp 13,.tmp 16],#[26,26]⟩,none⟩,⟨none,.store 26 (.tmp 1) (.tmp 17),none⟩]
def fS114:SC:=(.seq fS114r0 (.seq fS114r1 (.cond (.tmp 12) fS114r2 .skip)))
theorem fB114:Tryz.f114.body.bind stripC=some fS114:=by kernel_rfl
def fS113r0:SC:=.reg [⟨some 2,.box 41 (.tmp 0),none⟩]
def fS113r1:SC:=.reg [⟨some 6,.move (.tmp 1),none⟩,⟨some 7,.load 41 (.tmp 2),none⟩,⟨some 8,.call ⟨.value (.tmp 6),#[.tmp 7],#[41]⟩,none⟩]
def fS113r2:SC:=.reg [⟨some 9,.fieldAddr 41 (.tmp 2) 4,none⟩,⟨some 10,.load 39 (.tmp 9),none⟩,⟨some 11,.call ⟨.builtin .len,#[.tmp 10],#[39]⟩,none⟩,⟨some 12,.move (.const (.int .i64 0)),none⟩]
def fS113r3:SC:=.reg [⟨some 13,.binOp .lss 3 (.tmp 12) (.tmp 11) 3,none⟩]
def fS113r4:SC:=.reg [⟨some 14,.indexAddr 39 (.tmp 10) (.tmp 12),none⟩,⟨some 15,.load 41 (.tmp 14),none⟩,⟨some 5,.alloc 41,none⟩,⟨none,.store 41 (.tmp 5) (.tmp 15),none⟩]
def fS113r5:SC:=.reg [⟨some 16,.load 41 (.tmp 5),none⟩,⟨some 17,.move (.tmp 1),none⟩,⟨some 18,.call ⟨.value (.func 113),#[.tmp 16,.tmp 17],#[41,156]⟩,none⟩]
def fS113b0:SC:=.block 1 (.seq fS113r4 fS113r5)
def fS113r6:SC:=.reg [⟨some 19,.binOp .add 3 (.tmp 12) (.const (.int .i64 1)) 3,none⟩,⟨some 12,.move (.tmp 19),none⟩]
def fS113l0:SC:=(.seq fS113r3 (.seq (.cond (.tmp 13) .skip (.exit 0)) (.seq fS113b0 fS113r6)))
def fS113b1:SC:=.block 0 (.loop fS113l0)
def fS113:SC:=(.seq fS113r0 (.seq fS113r1 (.seq fS113r2 fS113b1)))
theorem fB113:Tryz.f113.body.bind stripC=some fS113:=by kernel_rfl
def fS115r0:SC:=.reg [⟨some 4,.assign (.const (.bool false)),none⟩]
def fS115r1:SC:=.reg [⟨some 5,.move (.tmp 0),none⟩,⟨some 6,.move (.tmp 1),none⟩,⟨some 7,.call ⟨.value (.func 150),#[.tmp 5,.tmp 6],#[26,3]⟩,none⟩,⟨some 8,.binOp .geq 3 (.tmp 7) (.const (.int .i64 0)) 3,none⟩,⟨some 4,.assign (.tmp 8),none⟩]
def fS115:SC:=(.seq fS115r0 (.seq fS115r1 .ret))
theorem fB115:Tryz.f115.body.bind stripC=some fS115:=by kernel_rfl
def fS150r0:SC:=.reg [⟨some 4,.assign (.const (.int .i64 0)),none⟩]
def fS150r1:SC:=.reg [⟨some 6,.move (.tmp 0),none⟩,⟨some 7,.call ⟨.builtin .len,#[.tmp 6],#[26]⟩,none⟩,⟨some 8,.move (.const (.int .i64 0)),none⟩]
def fS150r2:SC:=.reg [⟨some 9,.binOp .lss 3 (.tmp 8) (.tmp 7) 3,none⟩]
def fS150r3:SC:=.reg [⟨some 10,.move (.tmp 8),none⟩,⟨some 5,.assign (.tmp 10),none⟩]
def fS150r4:SC:=.reg [⟨some 11,.move (.tmp 1),none⟩,⟨some 12,.move (.tmp 0),none⟩,⟨some 13,.move (.tmp 5),none⟩,⟨some 14,.indexAddr 26 (.tmp 12) (.tmp 13),none⟩,⟨some 15,.load 3 (.tmp 14),none⟩,⟨some 16,.binOp .eql 3 (.tmp 11) (.tmp 15) 3,none⟩]
def fS150r5:SC:=.reg [⟨some 17,.move (.tmp 5),none⟩,⟨some 4,.assign (.tmp 17),none⟩]
def fS150b0:SC:=.block 1 (.seq fS150r3 (.seq fS150r4 (.cond (.tmp 16) (.seq fS150r5 .ret) .skip)))
def fS150r6:SC:=.reg [⟨some 18,.binOp .add 3 (.tmp 8) (.const (.int .i64 1)) 3,none⟩,⟨some 8,.move (.tmp 18),none⟩]
def fS150l0:SC:=(.seq fS150r2 (.seq (.cond (.tmp 9) .skip (.exit 0)) (.seq fS150b0 fS150r6)))
def fS150b1:SC:=.block 0 (.loop fS150l0)
def fS150r7:SC:=.reg [⟨some 4,.assign (.const (.int .i64 (-1))),none⟩]
def fS150:SC:=(.seq fS150r0 (.seq (.seq fS150r1 fS150b1) (.seq fS150r7 .ret)))
theorem fB150:Tryz.f150.body.bind stripC=some fS150:=by kernel_rfl
def fS7r0:SC:=.reg [⟨some 6,.assign (.const (.bool false)),none⟩]
def fS7r1:SC:=.reg [⟨some 19,.call ⟨.value (.func 28),#[],#[]⟩,none⟩,⟨some 20,.unOp .not 4 (.tmp 19),none⟩]
def fS7r2:SC:=.reg [⟨some 6,.assign (.const (.bool false)),none⟩]
def fS7r3:SC:=.reg [⟨some 21,.move (.tmp 1),none⟩,⟨some 22,.call ⟨.value (.func 10),#[.tmp 21],#[26]⟩,none⟩,⟨some 23,.unOp .not 4 (.tmp 22),none⟩]
def fS7r4:SC:=.reg [⟨some 6,.assign (.const (.bool true)),none⟩]
def fS7r5:SC:=.reg [⟨some 25,.move (.tmp 0),none⟩,⟨some 26,.move (.tmp 1),none⟩,⟨some 27,.move (.tmp 2),none⟩,⟨some 28,.call ⟨.value (.func 29),#[.tmp 25,.tmp 26,.tmp 27],#[3,26,3]⟩,none⟩,⟨some 24,.move (.tmp 28),none⟩,⟨some 29,.extract (.tmp 24) 0,none⟩,⟨some 30,.extract (.tmp 24) 1,none⟩,⟨some 7,.assign (.tmp 29),none⟩,⟨some 8,.assign (.tmp 30),none⟩]
def fS7r6:SC:=.reg [⟨some 31,.move (.tmp 2),none⟩,⟨some 32,.call ⟨.value (.func 14),#[.tmp 31,(.const (.int .i64 2))],#[3,3]⟩,none⟩,⟨some 9,.assign (.tmp 32),none⟩]
def fS7r7:SC:=.reg [⟨some 33,.move (.tmp 7),none⟩,⟨some 34,.call ⟨.builtin .len,#[.tmp 33],#[56]⟩,none⟩,⟨some 35,.move (.tmp 9),none⟩,⟨some 36,.binOp .gtr 3 (.tmp 34) (.tmp 35) 3,none⟩]
def fS7r8:SC:=.reg [⟨some 37,.move (.tmp 7),none⟩,⟨some 38,.move (.tmp 9),none⟩,⟨some 39,.slice 56 (.tmp 37) none (some (.tmp 38)) none,none⟩,⟨some 7,.assign (.tmp 39),none⟩]
def fS7r9:SC:=.reg [⟨some 40,.move (.tmp 8),none⟩,⟨some 41,.move (.tmp 0),none⟩,⟨some 42,.call ⟨.value (.func 12),#[.tmp 41],#[3]⟩,none⟩,⟨some 43,.call ⟨.value (.func 42),#[.tmp 40,.tmp 42,(.const (.int .i64 4))],#[30,34,3]⟩,none⟩,⟨some 44,.move (.tmp 8),none⟩,⟨some 45,.move (.tmp 0),none⟩,⟨some 46,.call ⟨.value (.func 12),#[.tmp 45],#[3]⟩,none⟩,⟨some 47,.call ⟨.value (.func 42),#[.tmp 44,.tmp 46,(.const (.int .i64 4))],#[30,34,3]⟩,none⟩,⟨some 10,.assign (.tmp 43),none⟩,⟨some 11,.assign (.tmp 47),none⟩]
def fS7r10:SC:=.reg [⟨some 49,.move (.tmp 7),none⟩,⟨some 50,.call ⟨.value (.func 31),#[.tmp 49],#[56]⟩,none⟩,⟨some 48,.move (.tmp 50),none⟩,⟨some 51,.extract (.tmp 48) 0,none⟩,⟨some 52,.extract (.tmp 48) 1,none⟩,⟨some 53,.extract (.tmp 48) 2,none⟩,⟨some 12,.assign (.tmp 51),none⟩,⟨some 13,.assign (.tmp 52),none⟩,⟨some 14,.assign (.tmp 53),none⟩]
def fS7r11:SC:=.reg [⟨some 54,.move (.tmp 14),none⟩,⟨some 55,.binOp .neq 59 (.tmp 54) (.const (.int .i64 0)) 59,none⟩]
def fS7r12:SC:=.reg [⟨some 56,.move (.tmp 10),none⟩,⟨some 12,.assign (.tmp 56),none⟩]
def fS7r13:SC:=.reg [⟨some 57,.move (.tmp 7),none⟩,⟨some 58,.call ⟨.value (.func 43),#[.tmp 57],#[56]⟩,none⟩,⟨some 59,.move (.tmp 7),none⟩,⟨some 60,.call ⟨.value (.func 32),#[.tmp 59],#[56]⟩,none⟩,⟨some 15,.assign (.tmp 58),none⟩,⟨some 16,.assign (.tmp 60),none⟩]
def fS7r14:SC:=.reg [⟨some 61,.move (.tmp 15),none⟩,⟨some 62,.call ⟨.builtin .len,#[.tmp 61],#[26]⟩,none⟩,⟨some 63,.move (.tmp 16),none⟩,⟨some 64,.call ⟨.builtin .len,#[.tmp 63],#[26]⟩,none⟩,⟨some 65,.binOp .neq 3 (.tmp 62) (.tmp 64) 3,none⟩]
def fS7r15:SC:=.reg [⟨some 6,.assign (.const (.bool false)),none⟩]
def fS7r16:SC:=.reg [⟨some 17,.assign (.const (.int .i64 0)),none⟩]
def fS7r17:SC:=.reg [⟨some 66,.move (.tmp 17),none⟩,⟨some 67,.move (.tmp 15),none⟩,⟨some 68,.call ⟨.builtin .len,#[.tmp 67],#[26]⟩,none⟩,⟨some 69,.binOp .lss 3 (.tmp 66) (.tmp 68) 3,none⟩]
def fS7r18:SC:=.draw [⟨some 72,.move (.tmp 15),none,[15]⟩,⟨some 73,.move (.tmp 17),none,[17]⟩,⟨some 74,.indexAddr 26 (.tmp 72) (.tmp 73),none,[72,73]⟩,⟨some 75,.load 3 (.tmp 74),none,[74]⟩,⟨some 76,.move (.tmp 16),none,[16]⟩,⟨some 77,.move (.tmp 17),none,[17]⟩,⟨some 78,.indexAddr 26 (.tmp 76) (.tmp 77),none,[76,77]⟩,⟨some 79,.load 3 (.tmp 78),none,[78]⟩,⟨some 80,.binOp .neq 3 (.tmp 75) (.tmp 79) 3,none,[75,79]⟩] [0,0,3,7,0,0,48,112,255]
def fS7r19:SC:=.reg [⟨some 6,.assign (.const (.bool false)),none⟩]
def fS7b0:SC:=.block 1 (.seq fS7r18 (.cond (.tmp 80) (.seq fS7r19 .ret) .skip))
def fS7r20:SC:=.reg [⟨some 70,.move (.tmp 17),none⟩,⟨some 71,.binOp .add 3 (.tmp 70) (.const (.int .i64 1)) 3,none⟩,⟨some 17,.assign (.tmp 71),none⟩]
def fS7l0:SC:=(.seq (.seq fS7r17 (.cond (.tmp 69) .skip (.exit 0))) (.seq fS7b0 fS7r20))
def fS7b1:SC:=.block 0 (.loop fS7l0)
def fS7r21:SC:=.reg [⟨some 81,.move (.tmp 12),none⟩,⟨some 82,.move (.tmp 11),none⟩,⟨some 83,.call ⟨.value (.func 44),#[.tmp 81,.tmp 82],#[49,49]⟩,none⟩,⟨some 18,.assign (.tmp 83),none⟩]
def fS7r22:SC:=.reg [⟨some 84,.move (.tmp 10),none⟩,⟨some 85,.move (.tmp 7),none⟩,⟨some 86,.call ⟨.value (.func 38),#[.tmp 84,.tmp 85],#[49,56]⟩,none⟩,⟨some 87,.move (.tmp 10),none⟩,⟨some 88,.move (.tmp 7),none⟩,⟨some 89,.call ⟨.value (.func 37),#[.tmp 87,.tmp 88],#[49,56]⟩,none⟩,⟨some 90,.binOp .eql 4 (.tmp 86) (.tmp 89) 4,none⟩,⟨some 91,.move (.tmp 90),none⟩,⟨some 92,.move (.tmp 12),some (91,true)⟩,⟨some 93,.move (.tmp 7),some (91,true)⟩,⟨some 94,.move (.tmp 18),some (91,true)⟩,⟨some 95,.call ⟨.value (.func 41),#[.tmp 92,.tmp 93,.tmp 94],#[49,56,49]⟩,some (91,true)⟩,⟨some 96,.move (.tmp 12),some (91,true)⟩,⟨some 97,.move (.tmp 7),some (91,true)⟩,⟨some 98,.move (.tmp 18),some (91,true)⟩,⟨some 99,.call ⟨.value (.func 45),#[.tmp 96,.tmp 97,.tmp 98],#[49,56,49]⟩,some (91,true)⟩,⟨some 100,.binOp .eql 4 (.tmp 95) (.tmp 99) 4,some (91,true)⟩,⟨some 101,.pick (.tmp 91) (.tmp 100) (.const (.bool false)),none⟩,⟨some 102,.move (.tmp 101),none⟩,⟨some 103,.move (.tmp 10),some (102,true)⟩,⟨some 104,.move (.tmp 7),some (102,true)⟩,⟨some 105,.move (.tmp 11),some (102,true)⟩,⟨some 106,.call ⟨.value (.func 41),#[.tmp 103,.tmp 104,.tmp 105],#[49,56,49]⟩,some (102,true)⟩,⟨some 107,.move (.tmp 10),some (102,true)⟩,⟨some 108,.move (.tmp 7),some (102,true)⟩,⟨some 109,.move (.tmp 11),some (102,true)⟩,⟨some 110,.call ⟨.value (.func 45),#[.tmp 107,.tmp 108,.tmp 109],#[49,56,49]⟩,some (102,true)⟩,⟨some 111,.binOp .eql 4 (.tmp 106) (.tmp 110) 4,some (102,true)⟩,⟨some 112,.pick (.tmp 102) (.tmp 111) (.const (.bool false)),none⟩,⟨some 113,.move (.tmp 112),none⟩,⟨some 114,.move (.tmp 18),some (113,true)⟩,⟨some 115,.move (.tmp 7),some (113,true)⟩,⟨some 116,.move (.tmp 12),some (113,true)⟩,⟨some 117,.call ⟨.value (.func 41),#[.tmp 114,.tmp 115,.tmp 116],#[49,56,49]⟩,some (113,true)⟩,⟨some 118,.move (.tmp 18),some (113,true)⟩,⟨some 119,.move (.tmp 7),some (113,true)⟩,⟨some 120,.move (.tmp 12),some (113,true)⟩,⟨some 121,.call ⟨.value (.func 45),#[.tmp 118,.tmp 119,.tmp 120],#[49,56,49]⟩,some (113,true)⟩,⟨some 122,.binOp .eql 4 (.tmp 117) (.tmp 121) 4,some (113,true)⟩,⟨some 123,.pick (.tmp 113) (.tmp 122) (.const (.bool false)),none⟩,⟨some 6,.assign (.tmp 123),none⟩]
def fS7:SC:=(.seq fS7r0 (.seq (.seq fS7r1 (.cond (.tmp 20) (.seq fS7r2 .ret) .skip)) (.seq (.seq fS7r3 (.cond (.tmp 23) (.seq fS7r4 .ret) .skip)) (.seq fS7r5 (.seq fS7r6 (.seq (.seq fS7r7 (.cond (.tmp 36) fS7r8 .skip)) (.seq fS7r9 (.seq fS7r10 (.seq (.seq fS7r11 (.cond (.tmp 55) fS7r12 .skip)) (.seq fS7r13 (.seq (.seq fS7r14 (.cond (.tmp 65) (.seq fS7r15 .ret) .skip)) (.seq (.seq fS7r16 fS7b1) (.seq fS7r21 (.seq fS7r22 .ret))))))))))))))
theorem fB7:Tryz.f7.body.bind stripC=some fS7:=by kernel_rfl
def fS29r0:SC:=.reg [⟨some 6,.assign (.const (.slice none 0 0)),none⟩,⟨some 7,.assign (.const (.pointer none)),none⟩]
def fS29r1:SC:=.reg [⟨some 9,.move (.tmp 1),none⟩,⟨some 10,.build 32 #[(0,(.tmp 9))],none⟩,⟨some 11,.box 32 (.tmp 10),none⟩,⟨some 8,.assign (.tmp 11),none⟩]
def fS29r2:SC:=.reg [⟨some 12,.move (.tmp 8),none⟩,⟨some 13,.move (.tmp 0),none⟩,⟨some 14,.call ⟨.value (.func 12),#[.tmp 13],#[3]⟩,none⟩,⟨some 15,.move (.tmp 2),none⟩,⟨some 16,.call ⟨.value (.func 14),#[.tmp 15,(.const (.int .i64 6))],#[3,3]⟩,none⟩,⟨some 17,.call ⟨.value (.func 80),#[.tmp 12,.tmp 14,.tmp 16],#[30,34,3]⟩,none⟩,⟨some 18,.move (.tmp 8),none⟩,⟨some 6,.assign (.tmp 17),none⟩,⟨some 7,.assign (.tmp 18),none⟩]
def fS29:SC:=(.seq fS29r0 (.seq fS29r1 (.seq fS29r2 .ret)))
theorem fB29:Tryz.f29.body.bind stripC=some fS29:=by kernel_rfl
def fS43r0:SC:=.reg [⟨some 2,.assign (.const (.slice none 0 0)),none⟩]
def fS43r1:SC:=.reg [⟨some 3,.assign (.const (.slice none 0 0)),none⟩]
def fS43r2:SC:=.reg [⟨some 6,.move (.tmp 0),none⟩,⟨some 7,.call ⟨.builtin .len,#[.tmp 6],#[56]⟩,none⟩,⟨some 8,.move (.const (.int .i64 0)),none⟩]
def fS43r3:SC:=.reg [⟨some 9,.binOp .lss 3 (.tmp 8) (.tmp 7) 3,none⟩]
def fS43r4:SC:=.reg [⟨some 10,.indexAddr 56 (.tmp 6) (.tmp 8),none⟩,⟨some 11,.load 122 (.tmp 10),none⟩,⟨some 5,.alloc 122,none⟩,⟨none,.store 122 (.tmp 5) (.tmp 11),none⟩]
def fS43r5:SC:=.reg [⟨some 12,.move (.tmp 3),none⟩,⟨some 13,.fieldAddr 122 (.tmp 5) 0,none⟩,⟨some 14,.load 41 (.tmp 13),none⟩,⟨some 15,.fieldAddr 122 (.tmp 5) 1,none⟩,⟨some 16,.load 41 (.tmp 15),none⟩,⟨some 17,.buildSlice 39 2 #[(0,(.tmp 14)),(1,(.tmp 16))],none⟩,⟨some 18,.call ⟨.builtin .append,#[.tmp 12,.tmp 17],#[39,39]⟩,none⟩,⟨some 3,.assign (.tmp 18),none⟩]
def fS43b0:SC:=.block 1 (.seq fS43r4 fS43r5)
def fS43r6:SC:=.reg [⟨some 19,.binOp .add 3 (.tmp 8) (.const (.int .i64 1)) 3,none⟩,⟨some 8,.move (.tmp 19),none⟩]
def fS43l0:SC:=(.seq fS43r3 (.seq (.cond (.tmp 9) .skip (.exit 0)) (.seq fS43b0 fS43r6)))
def fS43b1:SC:=.block 0 (.loop fS43l0)
def fS43r7:SC:=.reg [⟨some 20,.move (.tmp 3),none⟩,⟨some 21,.call ⟨.value (.func 66),#[.tmp 20],#[39]⟩,none⟩,⟨some 2,.assign (.tmp 21),none⟩]
def fS43:SC:=(.seq fS43r0 (.seq fS43r1 (.seq (.seq fS43r2 fS43b1) (.seq fS43r7 .ret))))
theorem fB43:Tryz.f43.body.bind stripC=some fS43:=by kernel_rfl
def fS38r0:SC:=.reg [⟨some 2,.box 49 (.tmp 0),none⟩,⟨some 4,.assign (.const (.bool false)),none⟩]
def fS38r1:SC:=.reg [⟨some 5,.move (.tmp 1),none⟩,⟨some 6,.makeFunc (.func 94) #[] #[.tmp 2],none⟩,⟨some 7,.call ⟨.value (.func 93),#[.tmp 5,.tmp 6],#[56,134]⟩,none⟩,⟨some 8,.unOp .not 4 (.tmp 7),none⟩,⟨some 4,.assign (.tmp 8),none⟩]
def fS38:SC:=(.seq fS38r0 (.seq fS38r1 .ret))
theorem fB38:Tryz.f38.body.bind stripC=some fS38:=by kernel_rfl
def fS94r0:SC:=.reg [⟨some 2,.box 122 (.tmp 0),none⟩,⟨some 3,.assign (.const (.bool false)),none⟩]
def fS94r1:SC:=.draw [⟨some 4,.load 49 (.tmp 1),none,[1]⟩,⟨some 5,.fieldAddr 122 (.tmp 2) 0,none,[2]⟩,⟨some 6,.load 41 (.tmp 5),none,[5]⟩,⟨some 7,.call ⟨.value (.func 95),#[.tmp 4,.tmp 6],#[49,41]⟩,none,[4,6]⟩,⟨some 8,.load 49 (.tmp 1),none,[1]⟩,⟨some 9,.fieldAddr 122 (.tmp 2) 1,none,[2]⟩,⟨some 10,.load 41 (.tmp 9),none,[9]⟩,⟨some 11,.call ⟨.value (.func 95),#[.tmp 8,.tmp 10],#[49,41]⟩,none,[8,10]⟩,⟨some 12,.call ⟨.value (.func 63),#[.tmp 7,.tmp 11],#[41,41]⟩,none,[7,11]⟩,⟨some 13,.unOp .not 4 (.tmp 12),none,[12]⟩,⟨some 3,.assign (.tmp 13),none,[13]⟩] [0,0,2,7,0,0,32,127,255,511,1023]
def fS94:SC:=(.seq fS94r0 (.seq fS94r1 .ret))
theorem fB94:Tryz.f94.body.bind stripC=some fS94:=by kernel_rfl
def fS41r0:SC:=.reg [⟨some 6,.assign (.const (.bool false)),none⟩]
def fS41r1:SC:=.reg [⟨some 9,.move (.tmp 0),none⟩,⟨some 10,.move (.tmp 1),none⟩,⟨some 11,.call ⟨.value (.func 38),#[.tmp 9,.tmp 10],#[49,56]⟩,none⟩,⟨some 12,.unOp .not 4 (.tmp 11),none⟩,⟨some 13,.move (.tmp 12),none⟩,⟨some 14,.move (.tmp 2),some (13,false)⟩,⟨some 15,.move (.tmp 1),some (13,false)⟩,⟨some 16,.call ⟨.value (.func 38),#[.tmp 14,.tmp 15],#[49,56]⟩,some (13,false)⟩,⟨some 17,.unOp .not 4 (.tmp 16),some (13,false)⟩,⟨some 18,.pick (.tmp 13) (.const (.bool true)) (.tmp 17),none⟩]
def fS41r2:SC:=.reg [⟨some 6,.assign (.const (.bool false)),none⟩]
def fS41r3:SC:=.reg [⟨some 20,.move (.tmp 0),none⟩,⟨some 21,.move (.tmp 2),none⟩,⟨some 22,.move (.tmp 1),none⟩,⟨some 23,.call ⟨.value (.func 43),#[.tmp 22],#[56]⟩,none⟩,⟨some 24,.call ⟨.value (.func 97),#[.tmp 20,.tmp 21,.tmp 23],#[49,49,26]⟩,none⟩,⟨some 19,.move (.tmp 24),none⟩,⟨some 25,.extract (.tmp 19) 0,none⟩,⟨some 26,.extract (.tmp 19) 1,none⟩,⟨some 7,.assign (.tmp 25),none⟩,⟨some 8,.assign (.tmp 26),none⟩]
def fS41r4:SC:=.reg [⟨some 27,.move (.tmp 8),none⟩,⟨some 6,.assign (.tmp 27),none⟩]
def fS41:SC:=(.seq fS41r0 (.seq (.seq fS41r1 (.cond (.tmp 18) (.seq fS41r2 .ret) .skip)) (.seq fS41r3 (.seq fS41r4 .ret))))
theorem fB41:Tryz.f41.body.bind stripC=some fS41:=by kernel_rfl
def fS31r0:SC:=.reg [⟨some 2,.assign (.const (.slice none 0 0)),none⟩,⟨some 3,.assign (.const (.int .i64 0)),none⟩,⟨some 4,.assign (.const (.int .i64 0)),none⟩]
def fS31r1:SC:=.reg [⟨some 5,.assign (.const (.slice none 0 0)),none⟩]
def fS31r2:SC:=.reg [⟨some 6,.assign (.const (.int .i64 0)),none⟩]
def fS31r3:SC:=.reg [⟨some 13,.move (.tmp 6),none⟩,⟨some 14,.move (.tmp 0),none⟩,⟨some 15,.call ⟨.builtin .len,#[.tmp 14],#[56]⟩,none⟩,⟨some 16,.binOp .lss 3 (.tmp 13) (.tmp 15) 3,none⟩]
def fS31r4:SC:=.draw [⟨some 19,.move (.tmp 5),none,[5]⟩,⟨some 20,.move (.tmp 0),none,[0]⟩,⟨some 21,.move (.tmp 6),none,[6]⟩,⟨some 22,.indexAddr 56 (.tmp 20) (.tmp 21),none,[20,21]⟩,⟨some 23,.fieldAddr 122 (.tmp 22) 0,none,[22]⟩,⟨some 24,.load 41 (.tmp 23),none,[23]⟩,⟨some 25,.call ⟨.value (.func 88),#[.tmp 19,.tmp 24],#[49,41]⟩,none,[19,24]⟩,⟨some 26,.move (.tmp 5),none,[5]⟩,⟨some 27,.move (.tmp 0),none,[0]⟩,⟨some 28,.move (.tmp 6),none,[6]⟩,⟨some 29,.indexAddr 56 (.tmp 27) (.tmp 28),none,[27,28]⟩,⟨some 30,.fieldAddr 122 (.tmp 29) 1,none,[29]⟩,⟨some 31,.load 41 (.tmp 30),none,[30]⟩,⟨some 32,.call ⟨.value (.func 88),#[.tmp 26,.tmp 31],#[49,41]⟩,none,[26,31]⟩,⟨some 7,.alloc 41,none,[]⟩,⟨some 8,.alloc 41,none,[]⟩,⟨none,.store 41 (.tmp 7) (.tmp 25),none,[7,25]⟩,⟨none,.store 41 (.tmp 8) (.tmp 32),none,[8,32]⟩] [0,0,0,6,14,30,63,0,0,0,768,1792,3840,8191,0,0,65535,131071]
def fS31r5:SC:=.reg [⟨some 33,.load 41 (.tmp 7),none⟩,⟨some 34,.call ⟨.value (.func 89),#[.tmp 33],#[41]⟩,none⟩,⟨some 35,.binOp .gtr 3 (.tmp 34) (.const (.int .i64 200)) 3,none⟩,⟨some 36,.move (.tmp 35),none⟩,⟨some 37,.load 41 (.tmp 8),some (36,false)⟩,⟨some 38,.call ⟨.value (.func 89),#[.tmp 37],#[41]⟩,some (36,false)⟩,⟨some 39,.binOp .gtr 3 (.tmp 38) (.const (.int .i64 200)) 3,some (36,false)⟩,⟨some 40,.pick (.tmp 36) (.const (.bool true)) (.tmp 39),none⟩]
def fS31r6:SC:=.reg [⟨some 41,.move (.tmp 6),none⟩,⟨some 2,.assign (.const (.slice none 0 0)),none⟩,⟨some 3,.assign (.tmp 41),none⟩,⟨some 4,.assign (.const (.int .i64 15)),none⟩]
def fS31r7:SC:=.reg [⟨some 43,.load 41 (.tmp 7),none⟩,⟨some 44,.load 41 (.tmp 8),none⟩,⟨some 45,.call ⟨.value (.func 90),#[.tmp 43,.tmp 44],#[41,41]⟩,none⟩,⟨some 42,.move (.tmp 45),none⟩,⟨some 46,.extract (.tmp 42) 0,none⟩,⟨some 47,.extract (.tmp 42) 1,none⟩,⟨some 9,.assign (.tmp 46),none⟩,⟨some 10,.assign (.tmp 47),none⟩]
def fS31r8:SC:=.reg [⟨some 48,.move (.tmp 10),none⟩,⟨some 49,.binOp .neq 59 (.tmp 48) (.const (.int .i64 0)) 59,none⟩]
def fS31r9:SC:=.reg [⟨some 50,.move (.tmp 6),none⟩,⟨some 51,.move (.tmp 10),none⟩,⟨some 2,.assign (.const (.slice none 0 0)),none⟩,⟨some 3,.assign (.tmp 50),none⟩,⟨some 4,.assign (.tmp 51),none⟩]
def fS31r10:SC:=.reg [⟨some 52,.move (.tmp 5),none⟩,⟨some 53,.move (.tmp 9),none⟩,⟨some 54,.call ⟨.value (.func 44),#[.tmp 52,.tmp 53],#[49,49]⟩,none⟩,⟨some 5,.assign (.tmp 54),none⟩]
def fS31r11:SC:=.reg [⟨some 55,.move (.tmp 0),none⟩,⟨some 56,.call ⟨.value (.func 32),#[.tmp 55],#[56]⟩,none⟩,⟨some 11,.assign (.tmp 56),none⟩]
def fS31r12:SC:=.reg [⟨some 12,.assign (.const (.int .i64 0)),none⟩]
def fS31r13:SC:=.reg [⟨some 57,.move (.tmp 12),none⟩,⟨some 58,.move (.tmp 11),none⟩,⟨some 59,.call ⟨.builtin .len,#[.tmp 58],#[26]⟩,none⟩,⟨some 60,.binOp .lss 3 (.tmp 57) (.tmp 59) 3,none⟩]
def fS31r14:SC:=.reg [⟨some 63,.move (.tmp 5),none⟩,⟨some 64,.move (.tmp 11),none⟩,⟨some 65,.move (.tmp 12),none⟩,⟨some 66,.indexAddr 26 (.tmp 64) (.tmp 65),none⟩,⟨some 67,.load 3 (.tmp 66),none⟩,⟨some 68,.call ⟨.value (.func 52),#[.tmp 67],#[3]⟩,none⟩,⟨some 69,.call ⟨.value (.func 88),#[.tmp 63,.tmp 68],#[49,41]⟩,none⟩,⟨some 70,.call ⟨.value (.func 89),#[.tmp 69],#[41]⟩,none⟩,⟨some 71,.binOp .gtr 3 (.tmp 70) (.const (.int .i64 200)) 3,none⟩]
def fS31r15:SC:=.reg [⟨some 72,.move (.tmp 6),none⟩,⟨some 2,.assign (.const (.slice none 0 0)),none⟩,⟨some 3,.assign (.tmp 72),none⟩,⟨some 4,.assign (.const (.int .i64 15)),none⟩]
def fS31b0:SC:=.block 3 (.seq fS31r14 (.cond (.tmp 71) (.seq fS31r15 .ret) .skip))
def fS31r16:SC:=.reg [⟨some 61,.move (.tmp 12),none⟩,⟨some 62,.binOp .add 3 (.tmp 61) (.const (.int .i64 1)) 3,none⟩,⟨some 12,.assign (.tmp 62),none⟩]
def fS31l0:SC:=(.seq (.seq fS31r13 (.cond (.tmp 60) .skip (.exit 2))) (.seq fS31b0 fS31r16))
def fS31b1:SC:=.block 2 (.loop fS31l0)
def fS31b2:SC:=.block 1 (.seq fS31r4 (.seq (.seq fS31r5 (.cond (.tmp 40) (.seq fS31r6 .ret) .skip)) (.seq fS31r7 (.seq (.seq fS31r8 (.cond (.tmp 49) (.seq fS31r9 .ret) .skip)) (.seq fS31r10 (.seq fS31r11 (.seq fS31r12 fS31b1)))))))
def fS31r17:SC:=.reg [⟨some 17,.move (.tmp 6),none⟩,⟨some 18,.binOp .add 3 (.tmp 17) (.const (.int .i64 1)) 3,none⟩,⟨some 6,.assign (.tmp 18),none⟩]
def fS31l1:SC:=(.seq (.seq fS31r3 (.cond (.tmp 16) .skip (.exit 0))) (.seq fS31b2 fS31r17))
def fS31b3:SC:=.block 0 (.loop fS31l1)
def fS31r18:SC:=.reg [⟨some 73,.move (.tmp 5),none⟩,⟨some 74,.move (.tmp 0),none⟩,⟨some 75,.call ⟨.builtin .len,#[.tmp 74],#[56]⟩,none⟩,⟨some 2,.assign (.tmp 73),none⟩,⟨some 3,.assign (.tmp 75),none⟩,⟨some 4,.assign (.const (.int .i64 0)),none⟩]
def fS31:SC:=(.seq fS31r0 (.seq fS31r1 (.seq (.seq fS31r2 fS31b3) (.seq fS31r18 .ret))))
theorem fB31:Tryz.f31.body.bind stripC=some fS31:=by kernel_rfl
def fS32r0:SC:=.reg [⟨some 2,.assign (.const (.slice none 0 0)),none⟩]
def fS32r1:SC:=.reg [⟨some 3,.assign (.const (.slice none 0 0)),none⟩]
def fS32r2:SC:=.reg [⟨some 4,.assign (.const (.int .i64 0)),none⟩]
def fS32r3:SC:=.reg [⟨some 5,.move (.tmp 4),none⟩,⟨some 6,.move (.tmp 0),none⟩,⟨some 7,.call ⟨.builtin .len,#[.tmp 6],#[56]⟩,none⟩,⟨some 8,.binOp .lss 3 (.tmp 5) (.tmp 7) 3,none⟩]
def fS32r4:SC:=.draw [⟨some 11,.move (.tmp 3),none,[3]⟩,⟨some 12,.move (.tmp 0),none,[0]⟩,⟨some 13,.move (.tmp 4),none,[4]⟩,⟨some 14,.indexAddr 56 (.tmp 12) (.tmp 13),none,[12,13]⟩,⟨some 15,.fieldAddr 122 (.tmp 14) 0,none,[14]⟩,⟨some 16,.load 41 (.tmp 15),none,[15]⟩,⟨some 17,.move (.tmp 0),none,[0]⟩,⟨some 18,.move (.tmp 4),none,[4]⟩,⟨some 19,.indexAddr 56 (.tmp 17) (.tmp 18),none,[17,18]⟩,⟨some 20,.fieldAddr 122 (.tmp 19) 1,none,[19]⟩,⟨some 21,.load 41 (.tmp 20),none,[20]⟩,⟨some 22,.buildSlice 39 2 #[(0,(.tmp 16)),(1,(.tmp 21))],none,[16,21]⟩,⟨some 23,.call ⟨.builtin .append,#[.tmp 11,.tmp 22],#[39,39]⟩,none,[11,22]⟩,⟨some 3,.assign (.tmp 23),none,[23]⟩] [0,0,0,6,14,30,0,0,192,448,960,2046,4095,8191]
def fS32b0:SC:=.block 1 fS32r4
def fS32r5:SC:=.reg [⟨some 9,.move (.tmp 4),none⟩,⟨some 10,.binOp .add 3 (.tmp 9) (.const (.int .i64 1)) 3,none⟩,⟨some 4,.assign (.tmp 10),none⟩]
def fS32l0:SC:=(.seq (.seq fS32r3 (.cond (.tmp 8) .skip (.exit 0))) (.seq fS32b0 fS32r5))
def fS32b1:SC:=.block 0 (.loop fS32l0)
def fS32r6:SC:=.reg [⟨some 24,.move (.tmp 3),none⟩,⟨some 25,.call ⟨.value (.func 33),#[.tmp 24],#[39]⟩,none⟩,⟨some 2,.assign (.tmp 25),none⟩]
def fS32:SC:=(.seq fS32r0 (.seq fS32r1 (.seq (.seq fS32r2 fS32b1) (.seq fS32r6 .ret))))
theorem fB32:Tryz.f32.body.bind stripC=some fS32:=by kernel_rfl
def fS37r0:SC:=.reg [⟨some 4,.assign (.const (.bool false)),none⟩]
def fS37r1:SC:=.reg [⟨some 5,.assign (.const (.int .i64 0)),none⟩]
def fS37r2:SC:=.reg [⟨some 6,.move (.tmp 5),none⟩,⟨some 7,.move (.tmp 1),none⟩,⟨some 8,.call ⟨.builtin .len,#[.tmp 7],#[56]⟩,none⟩,⟨some 9,.binOp .lss 3 (.tmp 6) (.tmp 8) 3,none⟩]
def fS37r3:SC:=.draw [⟨some 12,.move (.tmp 0),none,[0]⟩,⟨some 13,.move (.tmp 1),none,[1]⟩,⟨some 14,.move (.tmp 5),none,[5]⟩,⟨some 15,.indexAddr 56 (.tmp 13) (.tmp 14),none,[13,14]⟩,⟨some 16,.fieldAddr 122 (.tmp 15) 0,none,[15]⟩,⟨some 17,.load 41 (.tmp 16),none,[16]⟩,⟨some 18,.call ⟨.value (.func 88),#[.tmp 12,.tmp 17],#[49,41]⟩,none,[12,17]⟩,⟨some 19,.move (.tmp 0),none,[0]⟩,⟨some 20,.move (.tmp 1),none,[1]⟩,⟨some 21,.move (.tmp 5),none,[5]⟩,⟨some 22,.indexAddr 56 (.tmp 20) (.tmp 21),none,[20,21]⟩,⟨some 23,.fieldAddr 122 (.tmp 22) 1,none,[22]⟩,⟨some 24,.load 41 (.tmp 23),none,[23]⟩,⟨some 25,.call ⟨.value (.func 88),#[.tmp 19,.tmp 24],#[49,41]⟩,none,[19,24]⟩,⟨some 26,.call ⟨.value (.func 23),#[.tmp 18,.tmp 25],#[41,41]⟩,none,[18,25]⟩,⟨some 27,.unOp .not 4 (.tmp 26),none,[26]⟩] [0,0,0,6,14,30,63,0,0,0,768,1792,3840,8191,16383,32767]
def fS37r4:SC:=.reg [⟨some 4,.assign (.const (.bool false)),none⟩]
def fS37b0:SC:=.block 1 (.seq fS37r3 (.cond (.tmp 27) (.seq fS37r4 .ret) .skip))
def fS37r5:SC:=.reg [⟨some 10,.move (.tmp 5),none⟩,⟨some 11,.binOp .add 3 (.tmp 10) (.const (.int .i64 1)) 3,none⟩,⟨some 5,.assign (.tmp 11),none⟩]
def fS37l0:SC:=(.seq (.seq fS37r2 (.cond (.tmp 9) .skip (.exit 0))) (.seq fS37b0 fS37r5))
def fS37b1:SC:=.block 0 (.loop fS37l0)
def fS37r6:SC:=.reg [⟨some 4,.assign (.const (.bool true)),none⟩]
def fS37:SC:=(.seq fS37r0 (.seq (.seq fS37r1 fS37b1) (.seq fS37r6 .ret)))
theorem fB37:Tryz.f37.body.bind stripC=some fS37:=by kernel_rfl
def fS45r0:SC:=.reg [⟨some 6,.assign (.const (.bool false)),none⟩]
def fS45r1:SC:=.reg [⟨some 9,.move (.tmp 0),none⟩,⟨some 10,.move (.tmp 1),none⟩,⟨some 11,.call ⟨.value (.func 37),#[.tmp 9,.tmp 10],#[49,56]⟩,none⟩,⟨some 12,.unOp .not 4 (.tmp 11),none⟩,⟨some 13,.move (.tmp 12),none⟩,⟨some 14,.move (.tmp 2),some (13,false)⟩,⟨some 15,.move (.tmp 1),some (13,false)⟩,⟨some 16,.call ⟨.value (.func 37),#[.tmp 14,.tmp 15],#[49,56]⟩,some (13,false)⟩,⟨some 17,.unOp .not 4 (.tmp 16),some (13,false)⟩,⟨some 18,.pick (.tmp 13) (.const (.bool true)) (.tmp 17),none⟩]
def fS45r2:SC:=.reg [⟨some 6,.assign (.const (.bool false)),none⟩]
def fS45r3:SC:=.reg [⟨some 20,.move (.tmp 0),none⟩,⟨some 21,.move (.tmp 2),none⟩,⟨some 22,.move (.tmp 1),none⟩,⟨some 23,.call ⟨.value (.func 32),#[.tmp 22],#[56]⟩,none⟩,⟨some 24,.call ⟨.value (.func 40),#[.tmp 20,.tmp 21,.tmp 23],#[49,49,26]⟩,none⟩,⟨some 19,.move (.tmp 24),none⟩,⟨some 25,.extract (.tmp 19) 0,none⟩,⟨some 26,.extract (.tmp 19) 1,none⟩,⟨some 7,.assign (.tmp 25),none⟩,⟨some 8,.assign (.tmp 26),none⟩]
def fS45r4:SC:=.reg [⟨some 27,.move (.tmp 8),none⟩,⟨some 6,.assign (.tmp 27),none⟩]
def fS45:SC:=(.seq fS45r0 (.seq (.seq fS45r1 (.cond (.tmp 18) (.seq fS45r2 .ret) .skip)) (.seq fS45r3 (.seq fS45r4 .ret))))
theorem fB45:Tryz.f45.body.bind stripC=some fS45:=by kernel_rfl
def fS89r0:SC:=.reg [⟨some 1,.box 41 (.tmp 0),none⟩,⟨some 2,.assign (.const (.int .i64 0)),none⟩]
def fS89r1:SC:=.reg [⟨some 3,.assign (.const (.int .i64 1)),none⟩]
def fS89r2:SC:=.reg [⟨some 4,.assign (.const (.int .i64 0)),none⟩]
def fS89r3:SC:=.reg [⟨some 5,.move (.tmp 4),none⟩,⟨some 6,.fieldAddr 41 (.tmp 1) 4,none⟩,⟨some 7,.load 39 (.tmp 6),none⟩,⟨some 8,.call ⟨.builtin .len,#[.tmp 7],#[39]⟩,none⟩,⟨some 9,.binOp .lss 3 (.tmp 5) (.tmp 8) 3,none⟩]
def fS89r4:SC:=.reg [⟨some 12,.move (.tmp 3),none⟩,⟨some 13,.fieldAddr 41 (.tmp 1) 4,none⟩,⟨some 14,.load 39 (.tmp 13),none⟩,⟨some 15,.move (.tmp 4),none⟩,⟨some 16,.indexAddr 39 (.tmp 14) (.tmp 15),none⟩,⟨some 17,.load 41 (.tmp 16),none⟩,⟨some 18,.call ⟨.value (.func 89),#[.tmp 17],#[41]⟩,none⟩,⟨some 19,.binOp .add 3 (.tmp 12) (.tmp 18) 3,none⟩,⟨some 3,.assign (.tmp 19),none⟩]
def fS89b0:SC:=.block 1 fS89r4
def fS89r5:SC:=.reg [⟨some 10,.move (.tmp 4),none⟩,⟨some 11,.binOp .add 3 (.tmp 10) (.const (.int .i64 1)) 3,none⟩,⟨some 4,.assign (.tmp 11),none⟩]
def fS89l0:SC:=(.seq (.seq fS89r3 (.cond (.tmp 9) .skip (.exit 0))) (.seq fS89b0 fS89r5))
def fS89b1:SC:=.block 0 (.loop fS89l0)
def fS89r6:SC:=.reg [⟨some 20,.move (.tmp 3),none⟩,⟨some 2,.assign (.tmp 20),none⟩]
def fS89:SC:=(.seq fS89r0 (.seq fS89r1 (.seq (.seq fS89r2 fS89b1) (.seq fS89r6 .ret))))
theorem fB89:Tryz.f89.body.bind stripC=some fS89:=by kernel_rfl
def fS80r0:SC:=.reg [⟨some 6,.assign (.const (.slice none 0 0)),none⟩]
def fS80r1:SC:=.reg [⟨some 7,.assign (.const (.slice none 0 0)),none⟩]
def fS80r2:SC:=.reg [⟨some 8,.assign (.const (.int .i64 0)),none⟩]
def fS80r3:SC:=.reg [⟨some 10,.move (.tmp 8),none⟩,⟨some 11,.move (.tmp 2),none⟩,⟨some 12,.binOp .lss 3 (.tmp 10) (.tmp 11) 3,none⟩]
def fS80r4:SC:=.reg [⟨some 15,.move (.tmp 0),none⟩,⟨some 16,.move (.tmp 1),none⟩,⟨some 17,.call ⟨.value (.func 16),#[(.const (.int .i64 4))],#[3]⟩,none⟩,⟨some 18,.call ⟨.value (.func 15),#[.tmp 15,.tmp 16,.tmp 17,(.const (.int .i64 2))],#[30,34,39,3]⟩,none⟩,⟨some 9,.alloc 41,none⟩,⟨none,.store 41 (.tmp 9) (.tmp 18),none⟩]
def fS80r5:SC:=.draw [⟨some 19,.move (.tmp 7),none,[7]⟩,⟨some 20,.load 41 (.tmp 9),none,[9]⟩,⟨some 21,.move (.tmp 0),none,[0]⟩,⟨some 22,.move (.tmp 1),none,[1]⟩,⟨some 23,.call ⟨.value (.func 16),#[(.const (.int .i64 4))],#[3]⟩,none,[]⟩,⟨some 24,.call ⟨.value (.func 58),#[(.const (.int .i64 0)),(.const (.int .i64 0))],#[3,3]⟩,none,[]⟩,⟨some 25,.buildSlice 39 1 #[(0,(.tmp 24))],none,[24]⟩,⟨some 26,.call ⟨.builtin .append,#[.tmp 23,.tmp 25],#[39,39]⟩,none,[23,25]⟩,⟨some 27,.call ⟨.value (.func 15),#[.tmp 21,.tmp 22,.tmp 26,(.const (.int .i64 2))],#[30,34,39,3]⟩,none,[21,22,26]⟩,⟨some 28,.build 122 #[(0,(.tmp 20)),(1,(.tmp 27))],none,[20,27]⟩,⟨some 29,.buildSlice 56 1 #[(0,(.tmp 28))],none,[28]⟩,⟨some 30,.call ⟨.builtin .append,#[.tmp 19,.tmp 29],#[56,56]⟩,none,[19,29]⟩,⟨some 7,.assign (.tmp 30),none,[30]⟩] [0,0,0,0,0,16,48,112,252,510,1022,2047,4095]
def fS80b0:SC:=.block 1 (.seq fS80r4 fS80r5)
def fS80r6:SC:=.reg [⟨some 13,.move (.tmp 8),none⟩,⟨some 14,.binOp .add 3 (.tmp 13) (.const (.int .i64 1)) 3,none⟩,⟨some 8,.assign (.tmp 14),none⟩]
def fS80l0:SC:=(.seq (.seq fS80r3 (.cond (.tmp 12) .skip (.exit 0))) (.seq fS80b0 fS80r6))
def fS80b1:SC:=.block 0 (.loop fS80l0)
def fS80r7:SC:=.reg [⟨some 31,.move (.tmp 7),none⟩,⟨some 6,.assign (.tmp 31),none⟩]
def fS80:SC:=(.seq fS80r0 (.seq fS80r1 (.seq (.seq fS80r2 fS80b1) (.seq fS80r7 .ret))))
theorem fB80:Tryz.f80.body.bind stripC=some fS80:=by kernel_rfl
def fS40r0:SC:=.reg [⟨some 6,.assign (.const (.slice none 0 0)),none⟩,⟨some 7,.assign (.const (.bool false)),none⟩]
def fS40r1:SC:=.reg [⟨some 8,.assign (.const (.slice none 0 0)),none⟩]
def fS40r2:SC:=.reg [⟨some 9,.assign (.const (.bool true)),none⟩]
def fS40r3:SC:=.reg [⟨some 10,.assign (.const (.int .i64 0)),none⟩]
def fS40r4:SC:=.reg [⟨some 11,.move (.tmp 10),none⟩,⟨some 12,.move (.tmp 2),none⟩,⟨some 13,.call ⟨.builtin .len,#[.tmp 12],#[26]⟩,none⟩,⟨some 14,.binOp .lss 3 (.tmp 11) (.tmp 13) 3,none⟩,⟨some 15,.move (.tmp 14),none⟩,⟨some 16,.move (.tmp 9),some (15,true)⟩,⟨some 17,.pick (.tmp 15) (.tmp 16) (.const (.bool false)),none⟩]
def fS40r5:SC:=.draw [⟨some 21,.move (.tmp 0),none,[0]⟩,⟨some 22,.move (.tmp 2),none,[2]⟩,⟨some 23,.move (.tmp 10),none,[10]⟩,⟨some 24,.indexAddr 26 (.tmp 22) (.tmp 23),none,[22,23]⟩,⟨some 25,.load 3 (.tmp 24),none,[24]⟩,⟨some 26,.call ⟨.value (.func 52),#[.tmp 25],#[3]⟩,none,[25]⟩,⟨some 27,.call ⟨.value (.func 88),#[.tmp 21,.tmp 26],#[49,41]⟩,none,[21,26]⟩,⟨some 28,.move (.tmp 1),none,[1]⟩,⟨some 29,.move (.tmp 2),none,[2]⟩,⟨some 30,.move (.tmp 10),none,[10]⟩,⟨some 31,.indexAddr 26 (.tmp 29) (.tmp 30),none,[29,30]⟩,⟨some 32,.load 3 (.tmp 31),none,[31]⟩,⟨some 33,.call ⟨.value (.func 52),#[.tmp 32],#[3]⟩,none,[32]⟩,⟨some 34,.call ⟨.value (.func 88),#[.tmp 28,.tmp 33],#[49,41]⟩,none,[28,33]⟩,⟨some 35,.move (.tmp 8),none,[8]⟩,⟨some 36,.call ⟨.value (.func 96),#[.tmp 27,.tmp 34,.tmp 35],#[41,41,49]⟩,none,[27,34,35]⟩,⟨some 20,.move (.tmp 36),none,[36]⟩,⟨some 37,.extract (.tmp 20) 0,none,[20]⟩,⟨some 38,.extract (.tmp 20) 1,none,[20]⟩,⟨some 8,.assign (.tmp 37),none,[37]⟩,⟨some 9,.assign (.tmp 38),none,[38]⟩] [0,0,0,6,14,30,63,0,0,0,768,1792,3967,8191,0,32767,65535,131071,131071,262143,1048575]
def fS40b0:SC:=.block 1 fS40r5
def fS40r6:SC:=.reg [⟨some 18,.move (.tmp 10),none⟩,⟨some 19,.binOp .add 3 (.tmp 18) (.const (.int .i64 1)) 3,none⟩,⟨some 10,.assign (.tmp 19),none⟩]
def fS40l0:SC:=(.seq (.seq fS40r4 (.cond (.tmp 17) .skip (.exit 0))) (.seq fS40b0 fS40r6))
def fS40b1:SC:=.block 0 (.loop fS40l0)
def fS40r7:SC:=.reg [⟨some 39,.move (.tmp 9),none⟩,⟨some 40,.unOp .not 4 (.tmp 39),none⟩]
def fS40r8:SC:=.reg [⟨some 6,.assign (.const (.slice none 0 0)),none⟩,⟨some 7,.assign (.const (.bool false)),none⟩]
def fS40r9:SC:=.reg [⟨some 41,.move (.tmp 8),none⟩,⟨some 6,.assign (.tmp 41),none⟩,⟨some 7,.assign (.const (.bool true)),none⟩]
def fS40:SC:=(.seq fS40r0 (.seq fS40r1 (.seq fS40r2 (.seq (.seq fS40r3 fS40b1) (.seq (.seq fS40r7 (.cond (.tmp 40) (.seq fS40r8 .ret) .skip)) (.seq fS40r9 .ret))))))
theorem fB40:Tryz.f40.body.bind stripC=some fS40:=by kernel_rfl
def fS44r0:SC:=.reg [⟨some 4,.assign (.const (.slice none 0 0)),none⟩]
def fS44r1:SC:=.reg [⟨some 5,.assign (.const (.slice none 0 0)),none⟩]
def fS44r2:SC:=.reg [⟨some 6,.assign (.const (.int .i64 0)),none⟩]
def fS44r3:SC:=.reg [⟨some 8,.move (.tmp 6),none⟩,⟨some 9,.move (.tmp 0),none⟩,⟨some 10,.call ⟨.builtin .len,#[.tmp 9],#[49]⟩,none⟩,⟨some 11,.binOp .lss 3 (.tmp 8) (.tmp 10) 3,none⟩]
def fS44r4:SC:=.draw [⟨some 14,.move (.tmp 5),none,[5]⟩,⟨some 15,.move (.tmp 0),none,[0]⟩,⟨some 16,.move (.tmp 6),none,[6]⟩,⟨some 17,.indexAddr 49 (.tmp 15) (.tmp 16),none,[15,16]⟩,⟨some 18,.fieldAddr 65 (.tmp 17) 0,none,[17]⟩,⟨some 19,.load 3 (.tmp 18),none,[18]⟩,⟨some 20,.move (.tmp 1),none,[1]⟩,⟨some 21,.move (.tmp 0),none,[0]⟩,⟨some 22,.move (.tmp 6),none,[6]⟩,⟨some 23,.indexAddr 49 (.tmp 21) (.tmp 22),none,[21,22]⟩,⟨some 24,.fieldAddr 65 (.tmp 23) 1,none,[23]⟩,⟨some 25,.load 41 (.tmp 24),none,[24]⟩,⟨some 26,.call ⟨.value (.func 88),#[.tmp 20,.tmp 25],#[49,41]⟩,none,[20,25]⟩,⟨some 27,.build 65 #[(0,(.tmp 19)),(1,(.tmp 26))],none,[19,26]⟩,⟨some 28,.buildSlice 49 1 #[(0,(.tmp 27))],none,[27]⟩,⟨some 29,.call ⟨.builtin .append,#[.tmp 14,.tmp 28],#[49,49]⟩,none,[14,28]⟩,⟨some 5,.assign (.tmp 29),none,[29]⟩] [0,0,0,6,14,30,0,0,0,384,896,1920,4032,8190,16382,32767,65535]
def fS44b0:SC:=.block 1 fS44r4
def fS44r5:SC:=.reg [⟨some 12,.move (.tmp 6),none⟩,⟨some 13,.binOp .add 3 (.tmp 12) (.const (.int .i64 1)) 3,none⟩,⟨some 6,.assign (.tmp 13),none⟩]
def fS44l0:SC:=(.seq (.seq fS44r3 (.cond (.tmp 11) .skip (.exit 0))) (.seq fS44b0 fS44r5))
def fS44b1:SC:=.block 0 (.loop fS44l0)
def fS44r6:SC:=.reg [⟨some 7,.assign (.const (.int .i64 0)),none⟩]
def fS44r7:SC:=.reg [⟨some 30,.move (.tmp 7),none⟩,⟨some 31,.move (.tmp 1),none⟩,⟨some 32,.call ⟨.builtin .len,#[.tmp 31],#[49]⟩,none⟩,⟨some 33,.binOp .lss 3 (.tmp 30) (.tmp 32) 3,none⟩]
def fS44r8:SC:=.reg [⟨some 36,.move (.tmp 0),none⟩,⟨some 37,.move (.tmp 1),none⟩,⟨some 38,.move (.tmp 7),none⟩,⟨some 39,.indexAddr 49 (.tmp 37) (.tmp 38),none⟩,⟨some 40,.fieldAddr 65 (.tmp 39) 0,none⟩,⟨some 41,.load 3 (.tmp 40),none⟩,⟨some 42,.call ⟨.value (.func 92),#[.tmp 36,.tmp 41],#[49,3]⟩,none⟩,⟨some 43,.unOp .not 4 (.tmp 42),none⟩]
def fS44r9:SC:=.reg [⟨some 44,.move (.tmp 5),none⟩,⟨some 45,.move (.tmp 1),none⟩,⟨some 46,.move (.tmp 7),none⟩,⟨some 47,.indexAddr 49 (.tmp 45) (.tmp 46),none⟩,⟨some 48,.load 65 (.tmp 47),none⟩,⟨some 49,.buildSlice 49 1 #[(0,(.tmp 48))],none⟩,⟨some 50,.call ⟨.builtin .append,#[.tmp 44,.tmp 49],#[49,49]⟩,none⟩,⟨some 5,.assign (.tmp 50),none⟩]
def fS44b2:SC:=.block 3 (.seq fS44r8 (.cond (.tmp 43) fS44r9 .skip))
def fS44r10:SC:=.reg [⟨some 34,.move (.tmp 7),none⟩,⟨some 35,.binOp .add 3 (.tmp 34) (.const (.int .i64 1)) 3,none⟩,⟨some 7,.assign (.tmp 35),none⟩]
def fS44l1:SC:=(.seq (.seq fS44r7 (.cond (.tmp 33) .skip (.exit 2))) (.seq fS44b2 fS44r10))
def fS44b3:SC:=.block 2 (.loop fS44l1)
def fS44r11:SC:=.reg [⟨some 51,.move (.tmp 5),none⟩,⟨some 4,.assign (.tmp 51),none⟩]
def fS44:SC:=(.seq fS44r0 (.seq fS44r1 (.seq (.seq fS44r2 fS44b1) (.seq (.seq fS44r6 fS44b3) (.seq fS44r11 .ret)))))
theorem fB44:Tryz.f44.body.bind stripC=some fS44:=by kernel_rfl
def fS90r0:SC:=.reg [⟨some 2,.box 41 (.tmp 0),none⟩,⟨some 3,.box 41 (.tmp 1),none⟩,⟨some 4,.assign (.const (.slice none 0 0)),none⟩,⟨some 5,.assign (.const (.int .i64 0)),none⟩]
def fS90r1:SC:=.reg [⟨some 6,.load 41 (.tmp 2),none⟩,⟨some 7,.load 41 (.tmp 3),none⟩,⟨some 8,.call ⟨.value (.func 128),#[.tmp 6,.tmp 7,(.const (.slice none 0 0))],#[41,41,49]⟩,none⟩,⟨some 9,.extract (.tmp 8) 0,none⟩,⟨some 10,.extract (.tmp 8) 1,none⟩,⟨some 4,.assign (.tmp 9),none⟩,⟨some 5,.assign (.tmp 10),none⟩]
def fS90:SC:=(.seq fS90r0 (.seq fS90r1 .ret))
theorem fB90:Tryz.f90.body.bind stripC=some fS90:=by kernel_rfl
def fS128r0:SC:=.reg [⟨some 3,.box 41 (.tmp 0),none⟩,⟨some 4,.box 41 (.tmp 1),none⟩,⟨some 6,.assign (.const (.slice none 0 0)),none⟩,⟨some 7,.assign (.const (.int .i64 0)),none⟩]
def fS128r1:SC:=.draw [⟨some 10,.load 41 (.tmp 3),none,[3]⟩,⟨some 11,.move (.tmp 2),none,[2]⟩,⟨some 12,.call ⟨.value (.func 25),#[.tmp 10,.tmp 11],#[41,49]⟩,none,[10,11]⟩,⟨some 13,.load 41 (.tmp 4),none,[4]⟩,⟨some 14,.move (.tmp 2),none,[2]⟩,⟨some 15,.call ⟨.value (.func 25),#[.tmp 13,.tmp 14],#[41,49]⟩,none,[13,14]⟩,⟨none,.store 41 (.tmp 3) (.tmp 12),none,[3,12]⟩,⟨none,.store 41 (.tmp 4) (.tmp 15),none,[4,15]⟩] [0,0,3,0,0,31,63,127]
def fS128r2:SC:=.reg [⟨some 17,.load 41 (.tmp 3),none⟩,⟨some 18,.load 41 (.tmp 4),none⟩,⟨some 19,.call ⟨.value (.func 23),#[.tmp 17,.tmp 18],#[41,41]⟩,none⟩,⟨some 16,.assign (.tmp 19),none⟩]
def fS128r3:SC:=.reg [⟨some 20,.move (.tmp 2),none⟩,⟨some 6,.assign (.tmp 20),none⟩,⟨some 7,.assign (.const (.int .i64 0)),none⟩]
def fS128r4:SC:=.reg [⟨some 22,.fieldAddr 41 (.tmp 3) 0,none⟩,⟨some 23,.load 3 (.tmp 22),none⟩,⟨some 24,.binOp .eql 3 (.tmp 23) (.const (.int .i64 1)) 3,none⟩,⟨some 21,.assign (.tmp 24),none⟩]
def fS128r5:SC:=.reg [⟨some 25,.fieldAddr 41 (.tmp 3) 2,none⟩,⟨some 26,.load 3 (.tmp 25),none⟩,⟨some 27,.load 41 (.tmp 4),none⟩,⟨some 28,.move (.tmp 2),none⟩,⟨some 29,.call ⟨.value (.func 158),#[.tmp 26,.tmp 27,.tmp 28],#[3,41,49]⟩,none⟩,⟨some 30,.extract (.tmp 29) 0,none⟩,⟨some 31,.extract (.tmp 29) 1,none⟩,⟨some 6,.assign (.tmp 30),none⟩,⟨some 7,.assign (.tmp 31),none⟩]
def fS128r6:SC:=.reg [⟨some 33,.fieldAddr 41 (.tmp 4) 0,none⟩,⟨some 34,.load 3 (.tmp 33),none⟩,⟨some 35,.binOp .eql 3 (.tmp 34) (.const (.int .i64 1)) 3,none⟩,⟨some 32,.assign (.tmp 35),none⟩]
def fS128r7:SC:=.reg [⟨some 36,.fieldAddr 41 (.tmp 4) 2,none⟩,⟨some 37,.load 3 (.tmp 36),none⟩,⟨some 38,.load 41 (.tmp 3),none⟩,⟨some 39,.move (.tmp 2),none⟩,⟨some 40,.call ⟨.value (.func 158),#[.tmp 37,.tmp 38,.tmp 39],#[3,41,49]⟩,none⟩,⟨some 41,.extract (.tmp 40) 0,none⟩,⟨some 42,.extract (.tmp 40) 1,none⟩,⟨some 6,.assign (.tmp 41),none⟩,⟨some 7,.assign (.tmp 42),none⟩]
def fS128r8:SC:=.reg [⟨some 44,.fieldAddr 41 (.tmp 3) 0,none⟩,⟨some 45,.load 3 (.tmp 44),none⟩,⟨some 46,.fieldAddr 41 (.tmp 4) 0,none⟩,⟨some 47,.load 3 (.tmp 46),none⟩,⟨some 48,.binOp .neq 3 (.tmp 45) (.tmp 47) 3,none⟩,⟨some 49,.move (.tmp 48),none⟩,⟨some 50,.fieldAddr 41 (.tmp 3) 1,some (49,false)⟩,⟨some 51,.load 9 (.tmp 50),some (49,false)⟩,⟨some 52,.fieldAddr 41 (.tmp 4) 1,some (49,false)⟩,⟨some 53,.load 9 (.tmp 52),some (49,false)⟩,⟨some 54,.binOp .neq 9 (.tmp 51) (.tmp 53) 9,some (49,false)⟩,⟨some 55,.pick (.tmp 49) (.const (.bool true)) (.tmp 54),none⟩,⟨some 56,.move (.tmp 55),none⟩,⟨some 57,.fieldAddr 41 (.tmp 3) 2,some (56,false)⟩,⟨some 58,.load 3 (.tmp 57),some (56,false)⟩,⟨some 59,.fieldAddr 41 (.tmp 4) 2,some (56,false)⟩,⟨some 60,.load 3 (.tmp 59),some (56,false)⟩,⟨some 61,.binOp .neq 3 (.tmp 58) (.tmp 60) 3,some (56,false)⟩,⟨some 62,.pick (.tmp 56) (.const (.bool true)) (.tmp 61),none⟩,⟨some 63,.move (.tmp 62),none⟩,⟨some 64,.fieldAddr 41 (.tmp 3) 3,some (63,false)⟩,⟨some 65,.load 3 (.tmp 64),some (63,false)⟩,⟨some 66,.fieldAddr 41 (.tmp 4) 3,some (63,false)⟩,⟨some 67,.load 3 (.tmp 66),some (63,false)⟩,⟨some 68,.binOp .neq 3 (.tmp 65) (.tmp 67) 3,some (63,false)⟩,⟨some 69,.pick (.tmp 63) (.const (.bool true)) (.tmp 68),none⟩,⟨some 70,.move (.tmp 69),none⟩,⟨some 71,.fieldAddr 41 (.tmp 3) 4,some (70,false)⟩,⟨some 72,.load 39 (.tmp 71),some (70,false)⟩,⟨some 73,.call ⟨.builtin .len,#[.tmp 72],#[39]⟩,some (70,false)⟩,⟨some 74,.fieldAddr 41 (.tmp 4) 4,some (70,false)⟩,⟨some 75,.load 39 (.tmp 74),some (70,false)⟩,⟨some 76,.call ⟨.builtin .len,#[.tmp 75],#[39]⟩,some (70,false)⟩,⟨some 77,.binOp .neq 3 (.tmp 73) (.tmp 76) 3,some (70,false)⟩,⟨some 78,.pick (.tmp 70) (.const (.bool true)) (.tmp 77),none⟩,⟨some 43,.assign (.tmp 78),none⟩]
def fS128r9:SC:=.reg [⟨some 6,.assign (.const (.slice none 0 0)),none⟩,⟨some 7,.assign (.const (.int .i64 11)),none⟩]
def fS128b0:SC:=.block 0 (.seq fS128r2 (.cond (.tmp 16) (.seq fS128r3 .ret) (.seq fS128r4 (.cond (.tmp 21) (.seq fS128r5 .ret) (.seq fS128r6 (.cond (.tmp 32) (.seq fS128r7 .ret) (.seq fS128r8 (.cond (.tmp 43) (.seq fS128r9 .ret) .skip))))))))
def fS128r10:SC:=.reg [⟨some 8,.assign (.const (.int .i64 0)),none⟩]
def fS128r11:SC:=.reg [⟨some 79,.move (.tmp 8),none⟩,⟨some 80,.fieldAddr 41 (.tmp 3) 4,none⟩,⟨some 81,.load 39 (.tmp 80),none⟩,⟨some 82,.call ⟨.builtin .len,#[.tmp 81],#[39]⟩,none⟩,⟨some 83,.binOp .lss 3 (.tmp 79) (.tmp 82) 3,none⟩]
def fS128r12:SC:=.reg [⟨some 9,.assign (.const (.int .i64 0)),none⟩]
def fS128r13:SC:=.draw [⟨some 87,.fieldAddr 41 (.tmp 3) 4,none,[3]⟩,⟨some 88,.load 39 (.tmp 87),none,[87]⟩,⟨some 89,.move (.tmp 8),none,[8]⟩,⟨some 90,.indexAddr 39 (.tmp 88) (.tmp 89),none,[88,89]⟩,⟨some 91,.load 41 (.tmp 90),none,[90]⟩,⟨some 92,.fieldAddr 41 (.tmp 4) 4,none,[4]⟩,⟨some 93,.load 39 (.tmp 92),none,[92]⟩,⟨some 94,.move (.tmp 8),none,[8]⟩,⟨some 95,.indexAddr 39 (.tmp 93) (.tmp 94),none,[93,94]⟩,⟨some 96,.load 41 (.tmp 95),none,[95]⟩,⟨some 97,.move (.tmp 2),none,[2]⟩,⟨some 98,.call ⟨.value (.func 128),#[.tmp 91,.tmp 96,.tmp 97],#[41,41,49]⟩,none,[91,96,97]⟩,⟨some 86,.move (.tmp 98),none,[98]⟩,⟨some 99,.extract (.tmp 86) 0,none,[86]⟩,⟨some 100,.extract (.tmp 86) 1,none,[86]⟩,⟨some 2,.assign (.tmp 99),none,[99]⟩,⟨some 9,.assign (.tmp 100),none,[100]⟩] [0,1,0,7,15,0,32,0,224,480,0,2047,4095,8191,8191,16383,65535]
def fS128r14:SC:=.reg [⟨some 101,.move (.tmp 9),none⟩,⟨some 102,.binOp .neq 59 (.tmp 101) (.const (.int .i64 0)) 59,none⟩]
def fS128r15:SC:=.reg [⟨some 103,.move (.tmp 9),none⟩,⟨some 6,.assign (.const (.slice none 0 0)),none⟩,⟨some 7,.assign (.tmp 103),none⟩]
def fS128b1:SC:=.block 2 (.seq fS128r12 (.seq fS128r13 (.seq fS128r14 (.cond (.tmp 102) (.seq fS128r15 .ret) .skip))))
def fS128r16:SC:=.reg [⟨some 84,.move (.tmp 8),none⟩,⟨some 85,.binOp .add 3 (.tmp 84) (.const (.int .i64 1)) 3,none⟩,⟨some 8,.assign (.tmp 85),none⟩]
def fS128l0:SC:=(.seq (.seq fS128r11 (.cond (.tmp 83) .skip (.exit 1))) (.seq fS128b1 fS128r16))
def fS128b2:SC:=.block 1 (.loop fS128l0)
def fS128r17:SC:=.reg [⟨some 104,.move (.tmp 2),none⟩,⟨some 6,.assign (.tmp 104),none⟩,⟨some 7,.assign (.const (.int .i64 0)),none⟩]
def fS128:SC:=(.seq fS128r0 (.seq fS128r1 (.seq fS128b0 (.seq (.seq fS128r10 fS128b2) (.seq fS128r17 .ret)))))
theorem fB128:Tryz.f128.body.bind stripC=some fS128:=by kernel_rfl
def fS158r0:SC:=.reg [⟨some 4,.box 41 (.tmp 1),none⟩,⟨some 6,.assign (.const (.slice none 0 0)),none⟩,⟨some 7,.assign (.const (.int .i64 0)),none⟩]
def fS158r1:SC:=.reg [⟨some 9,.move (.tmp 0),none⟩,⟨some 10,.load 41 (.tmp 4),none⟩,⟨some 11,.call ⟨.value (.func 186),#[.tmp 9,.tmp 10],#[3,41]⟩,none⟩]
def fS158r2:SC:=.reg [⟨some 6,.assign (.const (.slice none 0 0)),none⟩,⟨some 7,.assign (.const (.int .i64 12)),none⟩]
def fS158r3:SC:=.reg [⟨some 12,.move (.tmp 0),none⟩,⟨some 13,.load 41 (.tmp 4),none⟩,⟨some 14,.build 65 #[(0,(.tmp 12)),(1,(.tmp 13))],none⟩,⟨some 15,.buildSlice 49 1 #[(0,(.tmp 14))],none⟩,⟨some 8,.assign (.tmp 15),none⟩]
def fS158r4:SC:=.reg [⟨some 16,.move (.tmp 2),none⟩,⟨some 17,.move (.tmp 8),none⟩,⟨some 18,.call ⟨.value (.func 44),#[.tmp 16,.tmp 17],#[49,49]⟩,none⟩,⟨some 6,.assign (.tmp 18),none⟩,⟨some 7,.assign (.const (.int .i64 0)),none⟩]
def fS158:SC:=(.seq fS158r0 (.seq (.seq fS158r1 (.cond (.tmp 11) (.seq fS158r2 .ret) .skip)) (.seq fS158r3 (.seq fS158r4 .ret))))
theorem fB158:Tryz.f158.body.bind stripC=some fS158:=by kernel_rfl
def fS97r0:SC:=.reg [⟨some 6,.assign (.const (.slice none 0 0)),none⟩,⟨some 7,.assign (.const (.bool false)),none⟩]
def fS97r1:SC:=.reg [⟨some 8,.assign (.const (.slice none 0 0)),none⟩]
def fS97r2:SC:=.reg [⟨some 12,.move (.tmp 2),none⟩,⟨some 13,.call ⟨.builtin .len,#[.tmp 12],#[26]⟩,none⟩,⟨some 14,.move (.const (.int .i64 0)),none⟩]
def fS97r3:SC:=.reg [⟨some 15,.binOp .lss 3 (.tmp 14) (.tmp 13) 3,none⟩]
def fS97r4:SC:=.reg [⟨some 16,.indexAddr 26 (.tmp 12) (.tmp 14),none⟩,⟨some 17,.load 3 (.tmp 16),none⟩,⟨some 10,.assign (.tmp 17),none⟩]
def fS97r5:SC:=.reg [⟨some 11,.assign (.const (.bool false)),none⟩]
def fS97r6:SC:=.reg [⟨some 19,.move (.tmp 8),none⟩,⟨some 20,.move (.tmp 0),none⟩,⟨some 21,.move (.tmp 10),none⟩,⟨some 22,.call ⟨.value (.func 86),#[.tmp 21],#[3]⟩,none⟩,⟨some 23,.call ⟨.value (.func 95),#[.tmp 20,.tmp 22],#[49,41]⟩,none⟩,⟨some 24,.move (.tmp 1),none⟩,⟨some 25,.move (.tmp 10),none⟩,⟨some 26,.call ⟨.value (.func 86),#[.tmp 25],#[3]⟩,none⟩,⟨some 27,.call ⟨.value (.func 95),#[.tmp 24,.tmp 26],#[49,41]⟩,none⟩,⟨some 28,.call ⟨.value (.func 131),#[.tmp 19,.tmp 23,.tmp 27],#[49,41,41]⟩,none⟩,⟨some 18,.move (.tmp 28),none⟩,⟨some 29,.extract (.tmp 18) 0,none⟩,⟨some 30,.extract (.tmp 18) 1,none⟩,⟨some 8,.assign (.tmp 29),none⟩,⟨some 11,.assign (.tmp 30),none⟩]
def fS97r7:SC:=.reg [⟨some 31,.move (.tmp 11),none⟩,⟨some 32,.unOp .not 4 (.tmp 31),none⟩]
def fS97r8:SC:=.reg [⟨some 6,.assign (.const (.slice none 0 0)),none⟩,⟨some 7,.assign (.const (.bool false)),none⟩]
def fS97b0:SC:=.block 1 (.seq fS97r4 (.seq fS97r5 (.seq fS97r6 (.seq fS97r7 (.cond (.tmp 32) (.seq fS97r8 .ret) .skip)))))
def fS97r9:SC:=.reg [⟨some 33,.binOp .add 3 (.tmp 14) (.const (.int .i64 1)) 3,none⟩,⟨some 14,.move (.tmp 33),none⟩]
def fS97l0:SC:=(.seq fS97r3 (.seq (.cond (.tmp 15) .skip (.exit 0)) (.seq fS97b0 fS97r9)))
def fS97b1:SC:=.block 0 (.loop fS97l0)
def fS97r10:SC:=.reg [⟨some 34,.move (.tmp 8),none⟩,⟨some 6,.assign (.tmp 34),none⟩,⟨some 7,.assign (.const (.bool true)),none⟩]
def fS97:SC:=(.seq fS97r0 (.seq fS97r1 (.seq (.seq fS97r2 fS97b1) (.seq fS97r10 .ret))))
theorem fB97:Tryz.f97.body.bind stripC=some fS97:=by kernel_rfl
def fS131r0:SC:=.reg [⟨some 4,.box 41 (.tmp 1),none⟩,⟨some 5,.box 41 (.tmp 2),none⟩,⟨some 6,.assign (.const (.slice none 0 0)),none⟩,⟨some 7,.assign (.const (.bool false)),none⟩]
def fS131r1:SC:=.reg [⟨some 14,.fieldAddr 41 (.tmp 4) 0,none⟩,⟨some 15,.load 3 (.tmp 14),none⟩,⟨some 16,.binOp .eql 3 (.tmp 15) (.const (.int .i64 1)) 3,none⟩]
def fS131r2:SC:=.reg [⟨some 18,.move (.tmp 0),none⟩,⟨some 19,.fieldAddr 41 (.tmp 4) 2,none⟩,⟨some 20,.load 3 (.tmp 19),none⟩,⟨some 21,.call ⟨.value (.func 161),#[.tmp 18,.tmp 20],#[49,3]⟩,none⟩,⟨some 17,.move (.tmp 21),none⟩,⟨some 22,.extract (.tmp 17) 0,none⟩,⟨some 23,.extract (.tmp 17) 1,none⟩,⟨some 8,.alloc 41,none⟩,⟨none,.store 41 (.tmp 8) (.tmp 22),none⟩,⟨some 9,.assign (.tmp 23),none⟩]
def fS131r3:SC:=.reg [⟨some 24,.move (.tmp 9),none⟩]
def fS131r4:SC:=.reg [⟨some 25,.move (.tmp 0),none⟩,⟨some 26,.load 41 (.tmp 8),none⟩,⟨some 27,.load 41 (.tmp 5),none⟩,⟨some 28,.call ⟨.value (.func 63),#[.tmp 26,.tmp 27],#[41,41]⟩,none⟩,⟨some 6,.assign (.tmp 25),none⟩,⟨some 7,.assign (.tmp 28),none⟩]
def fS131r5:SC:=.reg [⟨some 29,.move (.tmp 0),none⟩,⟨some 30,.fieldAddr 41 (.tmp 4) 2,none⟩,⟨some 31,.load 3 (.tmp 30),none⟩,⟨some 32,.load 41 (.tmp 5),none⟩,⟨some 33,.build 65 #[(0,(.tmp 31)),(1,(.tmp 32))],none⟩,⟨some 34,.buildSlice 49 1 #[(0,(.tmp 33))],none⟩,⟨some 35,.call ⟨.builtin .append,#[.tmp 29,.tmp 34],#[49,49]⟩,none⟩,⟨some 6,.assign (.tmp 35),none⟩,⟨some 7,.assign (.const (.bool true)),none⟩]
def fS131r6:SC:=.reg [⟨some 36,.fieldAddr 41 (.tmp 4) 4,none⟩,⟨some 37,.load 39 (.tmp 36),none⟩,⟨some 38,.call ⟨.builtin .len,#[.tmp 37],#[39]⟩,none⟩,⟨some 39,.fieldAddr 41 (.tmp 5) 4,none⟩,⟨some 40,.load 39 (.tmp 39),none⟩,⟨some 41,.call ⟨.builtin .len,#[.tmp 40],#[39]⟩,none⟩,⟨some 42,.binOp .neq 3 (.tmp 38) (.tmp 41) 3,none⟩]
def fS131r7:SC:=.reg [⟨some 43,.move (.tmp 0),none⟩,⟨some 6,.assign (.tmp 43),none⟩,⟨some 7,.assign (.const (.bool false)),none⟩]
def fS131r8:SC:=.draw [⟨some 44,.fieldAddr 41 (.tmp 4) 4,none,[4]⟩,⟨some 45,.load 39 (.tmp 44),none,[44]⟩,⟨some 46,.fieldAddr 41 (.tmp 5) 4,none,[5]⟩,⟨some 47,.load 39 (.tmp 46),none,[46]⟩,⟨some 10,.assign (.tmp 45),none,[45]⟩,⟨some 11,.assign (.tmp 47),none,[47]⟩] [0,1,0,4,3,31]
def fS131r9:SC:=.reg [⟨some 48,.fieldAddr 41 (.tmp 4) 4,none⟩,⟨none,.store 39 (.tmp 48) (.const (.slice none 0 0)),none⟩,⟨some 49,.fieldAddr 41 (.tmp 5) 4,none⟩,⟨none,.store 39 (.tmp 49) (.const (.slice none 0 0)),none⟩]
def fS131r10:SC:=.reg [⟨some 50,.load 41 (.tmp 4),none⟩,⟨some 51,.load 41 (.tmp 5),none⟩,⟨some 52,.call ⟨.value (.func 63),#[.tmp 50,.tmp 51],#[41,41]⟩,none⟩,⟨some 12,.assign (.tmp 52),none⟩]
def fS131r11:SC:=.reg [⟨some 13,.assign (.const (.int .i64 0)),none⟩]
def fS131r12:SC:=.reg [⟨some 53,.move (.tmp 12),none⟩,⟨some 54,.move (.tmp 53),none⟩,⟨some 55,.move (.tmp 13),some (54,true)⟩,⟨some 56,.move (.tmp 10),some (54,true)⟩,⟨some 57,.call ⟨.builtin .len,#[.tmp 56],#[39]⟩,some (54,true)⟩,⟨some 58,.binOp .lss 3 (.tmp 55) (.tmp 57) 3,some (54,true)⟩,⟨some 59,.pick (.tmp 54) (.tmp 58) (.const (.bool false)),none⟩]
def fS131r13:SC:=.draw [⟨some 63,.move (.tmp 0),none,[0]⟩,⟨some 64,.move (.tmp 10),none,[10]⟩,⟨some 65,.move (.tmp 13),none,[13]⟩,⟨some 66,.indexAddr 39 (.tmp 64) (.tmp 65),none,[64,65]⟩,⟨some 67,.load 41 (.tmp 66),none,[66]⟩,⟨some 68,.move (.tmp 11),none,[11]⟩,⟨some 69,.move (.tmp 13),none,[13]⟩,⟨some 70,.indexAddr 39 (.tmp 68) (.tmp 69),none,[68,69]⟩,⟨some 71,.load 41 (.tmp 70),none,[70]⟩,⟨some 72,.call ⟨.value (.func 131),#[.tmp 63,.tmp 67,.tmp 71],#[49,41,41]⟩,none,[63,67,71]⟩,⟨some 62,.move (.tmp 72),none,[72]⟩,⟨some 73,.extract (.tmp 62) 0,none,[62]⟩,⟨some 74,.extract (.tmp 62) 1,none,[62]⟩,⟨some 0,.assign (.tmp 73),none,[73]⟩,⟨some 12,.assign (.tmp 74),none,[74]⟩] [0,0,0,6,14,0,0,96,224,511,1023,2047,2047,4095,16383]
def fS131b0:SC:=.block 1 fS131r13
def fS131r14:SC:=.reg [⟨some 60,.move (.tmp 13),none⟩,⟨some 61,.binOp .add 3 (.tmp 60) (.const (.int .i64 1)) 3,none⟩,⟨some 13,.assign (.tmp 61),none⟩]
def fS131l0:SC:=(.seq (.seq fS131r12 (.cond (.tmp 59) .skip (.exit 0))) (.seq fS131b0 fS131r14))
def fS131b1:SC:=.block 0 (.loop fS131l0)
def fS131r15:SC:=.reg [⟨some 75,.move (.tmp 0),none⟩,⟨some 76,.move (.tmp 12),none⟩,⟨some 6,.assign (.tmp 75),none⟩,⟨some 7,.assign (.tmp 76),none⟩]
def fS131:SC:=(.seq fS131r0 (.seq (.seq fS131r1 (.cond (.tmp 16) (.seq fS131r2 (.seq (.seq fS131r3 (.cond (.tmp 24) (.seq fS131r4 .ret) .skip)) (.seq fS131r5 .ret))) .skip)) (.seq (.seq fS131r6 (.cond (.tmp 42) (.seq fS131r7 .ret) .skip)) (.seq fS131r8 (.seq fS131r9 (.seq fS131r10 (.seq (.seq fS131r11 fS131b1) (.seq fS131r15 .ret))))))))
theorem fB131:Tryz.f131.body.bind stripC=some fS131:=by kernel_rfl
def fS161r0:SC:=.reg [⟨some 3,.box 3 (.tmp 1),none⟩,⟨some 4,.alloc 41,none⟩,⟨some 5,.assign (.const (.bool false)),none⟩]
def fS161r1:SC:=.reg [⟨some 7,.move (.tmp 0),none⟩,⟨some 8,.makeFunc (.func 187) #[] #[.tmp 3],none⟩,⟨some 9,.call ⟨.value (.func 185),#[.tmp 7,.tmp 8],#[49,197]⟩,none⟩,⟨some 6,.assign (.tmp 9),none⟩]
def fS161r2:SC:=.reg [⟨some 10,.move (.tmp 6),none⟩,⟨some 11,.binOp .lss 3 (.tmp 10) (.const (.int .i64 0)) 3,none⟩]
def fS161r3:SC:=.reg [⟨some 12,.build 41 #[],none⟩,⟨none,.store 41 (.tmp 4) (.tmp 12),none⟩,⟨some 5,.assign (.const (.bool false)),none⟩]
def fS161r4:SC:=.reg [⟨some 13,.move (.tmp 0),none⟩,⟨some 14,.move (.tmp 6),none⟩,⟨some 15,.indexAddr 49 (.tmp 13) (.tmp 14),none⟩,⟨some 16,.fieldAddr 65 (.tmp 15) 1,none⟩,⟨some 17,.load 41 (.tmp 16),none⟩,⟨none,.store 41 (.tmp 4) (.tmp 17),none⟩,⟨some 5,.assign (.const (.bool true)),none⟩]
def fS161:SC:=(.seq fS161r0 (.seq fS161r1 (.seq (.seq fS161r2 (.cond (.tmp 11) (.seq fS161r3 .ret) .skip)) (.seq fS161r4 .ret))))
theorem fB161:Tryz.f161.body.bind stripC=some fS161:=by kernel_rfl
def fS187r0:SC:=.reg [⟨some 2,.box 65 (.tmp 0),none⟩,⟨some 3,.assign (.const (.bool false)),none⟩]
def fS187r1:SC:=.reg [⟨some 4,.fieldAddr 65 (.tmp 2) 0,none⟩,⟨some 5,.load 3 (.tmp 4),none⟩,⟨some 6,.load 3 (.tmp 1),none⟩,⟨some 7,.binOp .eql 3 (.tmp 5) (.tmp 6) 3,none⟩,⟨some 3,.assign (.tmp 7),none⟩]
def fS187:SC:=(.seq fS187r0 (.seq fS187r1 .ret))
theorem fB187:Tryz.f187.body.bind stripC=some fS187:=by kernel_rfl
def fS93r0:SC:=.reg [⟨some 4,.assign (.const (.bool false)),none⟩]
def fS93r1:SC:=.reg [⟨some 5,.move (.tmp 0),none⟩,⟨some 6,.move (.tmp 1),none⟩,⟨some 7,.call ⟨.value (.func 129),#[.tmp 5,.tmp 6],#[56,134]⟩,none⟩,⟨some 8,.binOp .geq 3 (.tmp 7) (.const (.int .i64 0)) 3,none⟩,⟨some 4,.assign (.tmp 8),none⟩]
def fS93:SC:=(.seq fS93r0 (.seq fS93r1 .ret))
theorem fB93:Tryz.f93.body.bind stripC=some fS93:=by kernel_rfl
def fS129r0:SC:=.reg [⟨some 4,.assign (.const (.int .i64 0)),none⟩]
def fS129r1:SC:=.reg [⟨some 6,.move (.tmp 0),none⟩,⟨some 7,.call ⟨.builtin .len,#[.tmp 6],#[56]⟩,none⟩,⟨some 8,.move (.const (.int .i64 0)),none⟩]
def fS129r2:SC:=.reg [⟨some 9,.binOp .lss 3 (.tmp 8) (.tmp 7) 3,none⟩]
def fS129r3:SC:=.reg [⟨some 10,.move (.tmp 8),none⟩,⟨some 5,.assign (.tmp 10),none⟩]
def fS129r4:SC:=.reg [⟨some 11,.move (.tmp 1),none⟩,⟨some 12,.move (.tmp 0),none⟩,⟨some 13,.move (.tmp 5),none⟩,⟨some 14,.indexAddr 56 (.tmp 12) (.tmp 13),none⟩,⟨some 15,.load 122 (.tmp 14),none⟩,⟨some 16,.call ⟨.value (.tmp 11),#[.tmp 15],#[122]⟩,none⟩]
def fS129r5:SC:=.reg [⟨some 17,.move (.tmp 5),none⟩,⟨some 4,.assign (.tmp 17),none⟩]
def fS129b0:SC:=.block 1 (.seq fS129r3 (.seq fS129r4 (.cond (.tmp 16) (.seq fS129r5 .ret) .skip)))
def fS129r6:SC:=.reg [⟨some 18,.binOp .add 3 (.tmp 8) (.const (.int .i64 1)) 3,none⟩,⟨some 8,.move (.tmp 18),none⟩]
def fS129l0:SC:=(.seq fS129r2 (.seq (.cond (.tmp 9) .skip (.exit 0)) (.seq fS129b0 fS129r6)))
def fS129b1:SC:=.block 0 (.loop fS129l0)
def fS129r7:SC:=.reg [⟨some 4,.assign (.const (.int .i64 (-1))),none⟩]
def fS129:SC:=(.seq fS129r0 (.seq (.seq fS129r1 fS129b1) (.seq fS129r7 .ret)))
theorem fB129:Tryz.f129.body.bind stripC=some fS129:=by kernel_rfl
end Go.Proofs.YthfcfmkdeheicaaGreat
