import Derived.Test.YthfcfmkdeheicaaRT
import Derived.Test.YthfcfmkdeheicaaJH
import Derived.Test.YthfcfmkdeheicaaRows
set_option linter.all false
noncomputable section
namespace Go.Proofs.Ythfcfmkdeheicaa
open Go.J
def fS19r0:SC:=.reg [⟨some 2,.box 25 (.tmp 0),none⟩,⟨some 3,.box 25 (.tmp 1),none⟩,⟨some 4,.assign (.const (.bool false)),none⟩]
def fS19r1:SC:=.reg [⟨some 5,.fieldAddr 25 (.tmp 2) 0,none⟩,⟨some 6,.load 3 (.tmp 5),none⟩,⟨some 7,.fieldAddr 25 (.tmp 3) 0,none⟩,⟨some 8,.load 3 (.tmp 7),none⟩,⟨some 9,.binOp .neq 3 (.tmp 6) (.tmp 8) 3,none⟩,⟨some 10,.move (.tmp 9),none⟩,⟨some 11,.fieldAddr 25 (.tmp 2) 1,some (10,false)⟩,⟨some 12,.load 9 (.tmp 11),some (10,false)⟩,⟨some 13,.fieldAddr 25 (.tmp 3) 1,some (10,false)⟩,⟨some 14,.load 9 (.tmp 13),some (10,false)⟩,⟨some 15,.binOp .neq 9 (.tmp 12) (.tmp 14) 9,some (10,false)⟩,⟨some 16,.pick (.tmp 10) (.const (.bool true)) (.tmp 15),none⟩,⟨some 17,.move (.tmp 16),none⟩,⟨some 18,.fieldAddr 25 (.tmp 2) 2,some (17,false)⟩,⟨some 19,.load 3 (.tmp 18),some (17,false)⟩,⟨some 20,.fieldAddr 25 (.tmp 3) 2,some (17,false)⟩,⟨some 21,.load 3 (.tmp 20),some (17,false)⟩,⟨some 22,.binOp .neq 3 (.tmp 19) (.tmp 21) 3,some (17,false)⟩,⟨some 23,.pick (.tmp 17) (.const (.bool true)) (.tmp 22),none⟩,⟨some 24,.move (.tmp 23),none⟩,⟨some 25,.fieldAddr 25 (.tmp 2) 3,some (24,false)⟩,⟨some 26,.load 3 (.tmp 25),some (24,false)⟩,⟨some 27,.fieldAddr 25 (.tmp 3) 3,some (24,false)⟩,⟨some 28,.load 3 (.tmp 27),some (24,false)⟩,⟨some 29,.binOp .neq 3 (.tmp 26) (.tmp 28) 3,some (24,false)⟩,⟨some 30,.pick (.tmp 24) (.const (.bool true)) (.tmp 29),none⟩]
def fS19r2:SC:=.reg [⟨some 4,.assign (.const (.bool false)),none⟩]
def fS19r3:SC:=.reg [⟨some 31,.fieldAddr 25 (.tmp 2) 4,none⟩,⟨some 32,.load 23 (.tmp 31),none⟩,⟨some 33,.fieldAddr 25 (.tmp 3) 4,none⟩,⟨some 34,.load 23 (.tmp 33),none⟩,⟨some 35,.call ⟨.value (.func 65),#[(.tmp 32),(.tmp 34)],#[23,23]⟩,none⟩,⟨some 4,.assign (.tmp 35),none⟩]
def fS19:SC:=(.seq fS19r0 (.seq (.seq fS19r1 (.cond (.tmp 30) (.seq fS19r2 .ret) .skip)) (.seq fS19r3 .ret)))
theorem fB19:Try.f19.body.bind stripC=some fS19:=by kernel_rfl
def fS65r0:SC:=.reg [⟨some 4,.assign (.const (.bool false)),none⟩]
def fS65r1:SC:=.reg [⟨some 6,.move (.tmp 0),none⟩,⟨some 7,.call ⟨.builtin .len,#[(.tmp 6)],#[23]⟩,none⟩,⟨some 8,.move (.tmp 1),none⟩,⟨some 9,.call ⟨.builtin .len,#[(.tmp 8)],#[23]⟩,none⟩,⟨some 10,.binOp .neq 3 (.tmp 7) (.tmp 9) 3,none⟩]
def fS65r2:SC:=.reg [⟨some 4,.assign (.const (.bool false)),none⟩]
def fS65r3:SC:=.reg [⟨some 5,.assign (.const (.int .i64 0)),none⟩]
def fS65r4:SC:=.reg [⟨some 11,.move (.tmp 5),none⟩,⟨some 12,.move (.tmp 0),none⟩,⟨some 13,.call ⟨.builtin .len,#[(.tmp 12)],#[23]⟩,none⟩,⟨some 14,.binOp .lss 3 (.tmp 11) (.tmp 13) 3,none⟩]
def fS65r5:SC:=.draw [⟨some 17,.move (.tmp 0),none,[0]⟩,⟨some 18,.move (.tmp 5),none,[5]⟩,⟨some 19,.indexAddr 23 (.tmp 17) (.tmp 18),none,[17,18]⟩,⟨some 20,.load 25 (.tmp 19),none,[19]⟩,⟨some 21,.move (.tmp 1),none,[1]⟩,⟨some 22,.move (.tmp 5),none,[5]⟩,⟨some 23,.indexAddr 23 (.tmp 21) (.tmp 22),none,[21,22]⟩,⟨some 24,.load 25 (.tmp 23),none,[23]⟩,⟨some 25,.call ⟨.value (.func 19),#[(.tmp 20),(.tmp 24)],#[25,25]⟩,none,[20,24]⟩,⟨some 26,.unOp .not 4 (.tmp 25),none,[25]⟩] [0,0,3,7,0,0,48,112,255,511]
def fS65r6:SC:=.reg [⟨some 4,.assign (.const (.bool false)),none⟩]
def fS65b0:SC:=.block 1 (.seq fS65r5 (.cond (.tmp 26) (.seq fS65r6 .ret) .skip))
def fS65r7:SC:=.reg [⟨some 15,.move (.tmp 5),none⟩,⟨some 16,.binOp .add 3 (.tmp 15) (.const (.int .i64 1)) 3,none⟩,⟨some 5,.assign (.tmp 16),none⟩]
def fS65l0:SC:=(.seq (.seq fS65r4 (.cond (.tmp 14) .skip (.exit 0))) (.seq fS65b0 fS65r7))
def fS65b1:SC:=.block 0 (.loop fS65l0)
def fS65r8:SC:=.reg [⟨some 4,.assign (.const (.bool true)),none⟩]
def fS65:SC:=(.seq fS65r0 (.seq (.seq fS65r1 (.cond (.tmp 10) (.seq fS65r2 .ret) .skip)) (.seq (.seq fS65r3 fS65b1) (.seq fS65r8 .ret))))
theorem fB65:Try.f65.body.bind stripC=some fS65:=by kernel_rfl
def fS22r0:SC:=.reg [⟨some 4,.assign (.const (.int .i64 0)),none⟩]
def fS22r1:SC:=.reg [⟨some 5,.move (.tmp 1),none⟩,⟨some 6,.binOp .lss 3 (.tmp 5) (.const (.int .i64 1)) 3,none⟩]
def fS22r2:SC:=.reg [⟨some 4,.assign (.const (.int .i64 0)),none⟩]
def fS22r3:SC:=.reg [⟨some 7,.move (.tmp 0),none⟩,⟨some 8,.move (.tmp 1),none⟩,⟨some 9,.binOp .rem 3 (.tmp 7) (.tmp 8) 3,none⟩,⟨some 0,.assign (.tmp 9),none⟩]
def fS22r4:SC:=.reg [⟨some 10,.move (.tmp 0),none⟩,⟨some 11,.binOp .lss 3 (.tmp 10) (.const (.int .i64 0)) 3,none⟩]
def fS22r5:SC:=.reg [⟨some 12,.move (.tmp 0),none⟩,⟨some 13,.move (.tmp 1),none⟩,⟨some 14,.binOp .add 3 (.tmp 12) (.tmp 13) 3,none⟩,⟨some 0,.assign (.tmp 14),none⟩]
def fS22r6:SC:=.reg [⟨some 15,.move (.tmp 0),none⟩,⟨some 4,.assign (.tmp 15),none⟩]
def fS22:SC:=(.seq fS22r0 (.seq (.seq fS22r1 (.cond (.tmp 6) (.seq fS22r2 .ret) .skip)) (.seq fS22r3 (.seq (.seq fS22r4 (.cond (.tmp 11) fS22r5 .skip)) (.seq fS22r6 .ret)))))
theorem fB22:Try.f22.body.bind stripC=some fS22:=by kernel_rfl
def fS11r0:SC:=.reg [⟨some 2,.assign (.const (.bool false)),none⟩]
def fS11r1:SC:=.reg [⟨some 3,.move (.tmp 0),none⟩,⟨some 4,.call ⟨.builtin .len,#[(.tmp 3)],#[22]⟩,none⟩,⟨some 5,.binOp .leq 3 (.tmp 4) (.const (.int .i64 60)) 3,none⟩,⟨some 2,.assign (.tmp 5),none⟩]
def fS11:SC:=(.seq fS11r0 (.seq fS11r1 .ret))
theorem fB11:Try.f11.body.bind stripC=some fS11:=by kernel_rfl
def fS67r0:SC:=.reg [⟨some 4,.alloc 25,none⟩]
def fS67r1:SC:=.reg [⟨some 5,.move (.tmp 0),none⟩,⟨some 6,.move (.tmp 1),none⟩,⟨some 7,.call ⟨.builtin .append,#[(.const (.slice none 0 0)),(.tmp 6)],#[23,23]⟩,none⟩,⟨some 8,.build 25 #[(0,(.const (.int .i64 4))),(1,(.tmp 5)),(4,(.tmp 7))],none⟩,⟨none,.store 25 (.tmp 4) (.tmp 8),none⟩]
def fS67:SC:=(.seq fS67r0 (.seq fS67r1 .ret))
theorem fB67:Try.f67.body.bind stripC=some fS67:=by kernel_rfl
def fS26r0:SC:=.reg [⟨some 0,.alloc 25,none⟩]
def fS26r1:SC:=.reg [⟨some 1,.call ⟨.value (.func 67),#[(.const (.string ⟨#[73,110,116]⟩)),(.const (.slice none 0 0))],#[9,23]⟩,none⟩,⟨none,.store 25 (.tmp 0) (.tmp 1),none⟩]
def fS26:SC:=(.seq fS26r0 (.seq fS26r1 .ret))
theorem fB26:Try.f26.body.bind stripC=some fS26:=by kernel_rfl
def fS72r0:SC:=.reg [⟨some 2,.box 25 (.tmp 0),none⟩,⟨some 3,.box 25 (.tmp 1),none⟩,⟨some 4,.alloc 25,none⟩]
def fS72r1:SC:=.reg [⟨some 5,.load 25 (.tmp 2),none⟩,⟨some 6,.load 25 (.tmp 3),none⟩,⟨some 7,.buildSlice 23 2 #[(0,(.tmp 5)),(1,(.tmp 6))],none⟩,⟨some 8,.call ⟨.value (.func 67),#[(.const (.string ⟨#[45,62]⟩)),(.tmp 7)],#[9,23]⟩,none⟩,⟨none,.store 25 (.tmp 4) (.tmp 8),none⟩]
def fS72:SC:=(.seq fS72r0 (.seq fS72r1 .ret))
theorem fB72:Try.f72.body.bind stripC=some fS72:=by kernel_rfl
def fS55r0:SC:=.reg [⟨some 2,.alloc 25,none⟩]
def fS55r1:SC:=.reg [⟨some 3,.move (.tmp 0),none⟩,⟨some 4,.build 25 #[(0,(.const (.int .i64 1))),(2,(.tmp 3))],none⟩,⟨none,.store 25 (.tmp 2) (.tmp 4),none⟩]
def fS55:SC:=(.seq fS55r0 (.seq fS55r1 .ret))
theorem fB55:Try.f55.body.bind stripC=some fS55:=by kernel_rfl
def fS59r0:SC:=.reg [⟨some 4,.alloc 25,none⟩]
def fS59r1:SC:=.reg [⟨some 5,.move (.tmp 0),none⟩,⟨some 6,.move (.tmp 1),none⟩,⟨some 7,.build 25 #[(0,(.const (.int .i64 3))),(3,(.tmp 5)),(2,(.tmp 6))],none⟩,⟨none,.store 25 (.tmp 4) (.tmp 7),none⟩]
def fS59:SC:=(.seq fS59r0 (.seq fS59r1 .ret))
theorem fB59:Try.f59.body.bind stripC=some fS59:=by kernel_rfl
def fS58r0:SC:=.reg [⟨some 4,.assign (.const (.int .i64 0)),none⟩]
def fS58r1:SC:=.draw [⟨some 5,.move (.tmp 0),none,[0]⟩,⟨some 6,.nilCheck (.tmp 5),none,[5]⟩,⟨some 7,.fieldAddr 34 (.tmp 6) 1,none,[6]⟩,⟨some 8,.load 3 (.tmp 7),none,[7]⟩,⟨some 9,.move (.tmp 0),none,[0]⟩,⟨some 10,.nilCheck (.tmp 9),none,[9]⟩,⟨some 11,.fieldAddr 34 (.tmp 10) 0,none,[10]⟩,⟨some 12,.load 22 (.tmp 11),none,[11]⟩,⟨some 13,.call ⟨.builtin .len,#[(.tmp 12)],#[22]⟩,none,[12]⟩,⟨some 14,.binOp .geq 3 (.tmp 8) (.tmp 13) 3,none,[8,13]⟩] [0,1,3,7,0,16,48,112,240,511]
def fS58r2:SC:=.reg [⟨some 4,.assign (.const (.int .i64 0)),none⟩]
def fS58r3:SC:=.reg [⟨some 15,.move (.tmp 0),none⟩,⟨some 16,.nilCheck (.tmp 15),none⟩,⟨some 17,.fieldAddr 34 (.tmp 16) 1,none⟩,⟨some 18,.load 3 (.tmp 17),none⟩,⟨some 19,.binOp .add 3 (.tmp 18) (.const (.int .i64 1)) 3,none⟩,⟨some 20,.nilCheck (.tmp 15),none⟩,⟨some 21,.fieldAddr 34 (.tmp 20) 1,none⟩,⟨none,.store 3 (.tmp 21) (.tmp 19),none⟩]
def fS58r4:SC:=.draw [⟨some 22,.move (.tmp 0),none,[0]⟩,⟨some 23,.nilCheck (.tmp 22),none,[22]⟩,⟨some 24,.fieldAddr 34 (.tmp 23) 0,none,[23]⟩,⟨some 25,.load 22 (.tmp 24),none,[24]⟩,⟨some 26,.move (.tmp 0),none,[0]⟩,⟨some 27,.nilCheck (.tmp 26),none,[26]⟩,⟨some 28,.fieldAddr 34 (.tmp 27) 1,none,[27]⟩,⟨some 29,.load 3 (.tmp 28),none,[28]⟩,⟨some 30,.binOp .sub 3 (.tmp 29) (.const (.int .i64 1)) 3,none,[29]⟩,⟨some 31,.indexAddr 22 (.tmp 25) (.tmp 30),none,[25,30]⟩,⟨some 32,.load 3 (.tmp 31),none,[31]⟩,⟨some 33,.move (.tmp 1),none,[1]⟩,⟨some 34,.call ⟨.value (.func 22),#[(.tmp 32),(.tmp 33)],#[3,3]⟩,none,[32,33]⟩,⟨some 4,.assign (.tmp 34),none,[34]⟩] [0,1,3,7,0,16,48,112,240,511,1023,0,4095,8191]
def fS58:SC:=(.seq fS58r0 (.seq (.seq fS58r1 (.cond (.tmp 14) (.seq fS58r2 .ret) .skip)) (.seq fS58r3 (.seq fS58r4 .ret))))
theorem fB58:Try.f58.body.bind stripC=some fS58:=by kernel_rfl
def fS32r0:SC:=.reg [⟨some 2,.assign (.const (.slice none 0 0)),none⟩]
def fS32r1:SC:=.reg [⟨some 3,.assign (.const (.slice none 0 0)),none⟩]
def fS32r2:SC:=.reg [⟨some 4,.assign (.const (.int .i64 0)),none⟩]
def fS32r3:SC:=.reg [⟨some 5,.move (.tmp 4),none⟩,⟨some 6,.move (.tmp 0),none⟩,⟨some 7,.binOp .lss 3 (.tmp 5) (.tmp 6) 3,none⟩]
def fS32r4:SC:=.reg [⟨some 10,.move (.tmp 3),none⟩,⟨some 11,.move (.tmp 4),none⟩,⟨some 12,.call ⟨.value (.func 55),#[(.tmp 11)],#[3]⟩,none⟩,⟨some 13,.buildSlice 23 1 #[(0,(.tmp 12))],none⟩,⟨some 14,.call ⟨.builtin .append,#[(.tmp 10),(.tmp 13)],#[23,23]⟩,none⟩,⟨some 3,.assign (.tmp 14),none⟩]
def fS32b0:SC:=.block 1 fS32r4
def fS32r5:SC:=.reg [⟨some 8,.move (.tmp 4),none⟩,⟨some 9,.binOp .add 3 (.tmp 8) (.const (.int .i64 1)) 3,none⟩,⟨some 4,.assign (.tmp 9),none⟩]
def fS32l0:SC:=(.seq (.seq fS32r3 (.cond (.tmp 7) .skip (.exit 0))) (.seq fS32b0 fS32r5))
def fS32b1:SC:=.block 0 (.loop fS32l0)
def fS32r6:SC:=.reg [⟨some 15,.move (.tmp 3),none⟩,⟨some 2,.assign (.tmp 15),none⟩]
def fS32:SC:=(.seq fS32r0 (.seq fS32r1 (.seq (.seq fS32r2 fS32b1) (.seq fS32r6 .ret))))
theorem fB32:Try.f32.body.bind stripC=some fS32:=by kernel_rfl
def fS15r0:SC:=.reg [⟨some 2,.assign (.const (.slice none 0 0)),none⟩]
def fS15r1:SC:=.reg [⟨some 6,.call ⟨.value (.func 61),#[],#[]⟩,none⟩,⟨some 3,.assign (.tmp 6),none⟩]
def fS15r2:SC:=.reg [⟨some 4,.assign (.const (.slice none 0 0)),none⟩]
def fS15r3:SC:=.reg [⟨some 7,.move (.tmp 0),none⟩,⟨some 8,.binOp .and 3 (.tmp 7) (.const (.int .i64 2)) 3,none⟩,⟨some 9,.binOp .neq 3 (.tmp 8) (.const (.int .i64 0)) 3,none⟩,⟨some 10,.move (.tmp 9),none⟩,⟨some 11,.move (.tmp 0),some (10,false)⟩,⟨some 12,.binOp .and 3 (.tmp 11) (.const (.int .i64 64)) 3,some (10,false)⟩,⟨some 13,.binOp .neq 3 (.tmp 12) (.const (.int .i64 0)) 3,some (10,false)⟩,⟨some 14,.pick (.tmp 10) (.const (.bool true)) (.tmp 13),none⟩]
def fS15r4:SC:=.reg [⟨some 15,.move (.tmp 4),none⟩,⟨some 16,.move (.tmp 3),none⟩,⟨some 17,.indexAddr 40 (.tmp 16) (.const (.int .i64 1)),none⟩,⟨some 18,.load 98 (.tmp 17),none⟩,⟨some 19,.buildSlice 40 1 #[(0,(.tmp 18))],none⟩,⟨some 20,.call ⟨.builtin .append,#[(.tmp 15),(.tmp 19)],#[40,40]⟩,none⟩,⟨some 4,.assign (.tmp 20),none⟩]
def fS15r5:SC:=.reg [⟨some 5,.assign (.const (.int .i64 0)),none⟩]
def fS15r6:SC:=.reg [⟨some 21,.move (.tmp 5),none⟩,⟨some 22,.move (.tmp 3),none⟩,⟨some 23,.call ⟨.builtin .len,#[(.tmp 22)],#[40]⟩,none⟩,⟨some 24,.binOp .lss 3 (.tmp 21) (.tmp 23) 3,none⟩]
def fS15r7:SC:=.reg [⟨some 27,.move (.tmp 5),none⟩,⟨some 28,.binOp .neq 3 (.tmp 27) (.const (.int .i64 1)) 3,none⟩,⟨some 29,.move (.tmp 28),none⟩,⟨some 30,.move (.tmp 0),some (29,true)⟩,⟨some 31,.move (.tmp 5),some (29,true)⟩,⟨some 32,.convert 3 99 (.tmp 31),some (29,true)⟩,⟨some 33,.binOp .shr 3 (.tmp 30) (.tmp 32) 99,some (29,true)⟩,⟨some 34,.binOp .and 3 (.tmp 33) (.const (.int .i64 1)) 3,some (29,true)⟩,⟨some 35,.binOp .eql 3 (.tmp 34) (.const (.int .i64 1)) 3,some (29,true)⟩,⟨some 36,.pick (.tmp 29) (.tmp 35) (.const (.bool false)),none⟩]
def fS15r8:SC:=.reg [⟨some 37,.move (.tmp 4),none⟩,⟨some 38,.move (.tmp 3),none⟩,⟨some 39,.move (.tmp 5),none⟩,⟨some 40,.indexAddr 40 (.tmp 38) (.tmp 39),none⟩,⟨some 41,.load 98 (.tmp 40),none⟩,⟨some 42,.buildSlice 40 1 #[(0,(.tmp 41))],none⟩,⟨some 43,.call ⟨.builtin .append,#[(.tmp 37),(.tmp 42)],#[40,40]⟩,none⟩,⟨some 4,.assign (.tmp 43),none⟩]
def fS15b0:SC:=.block 1 (.seq fS15r7 (.cond (.tmp 36) fS15r8 .skip))
def fS15r9:SC:=.reg [⟨some 25,.move (.tmp 5),none⟩,⟨some 26,.binOp .add 3 (.tmp 25) (.const (.int .i64 1)) 3,none⟩,⟨some 5,.assign (.tmp 26),none⟩]
def fS15l0:SC:=(.seq (.seq fS15r6 (.cond (.tmp 24) .skip (.exit 0))) (.seq fS15b0 fS15r9))
def fS15b1:SC:=.block 0 (.loop fS15l0)
def fS15r10:SC:=.reg [⟨some 44,.move (.tmp 4),none⟩,⟨some 2,.assign (.tmp 44),none⟩]
def fS15:SC:=(.seq fS15r0 (.seq fS15r1 (.seq fS15r2 (.seq (.seq fS15r3 (.cond (.tmp 14) fS15r4 .skip)) (.seq (.seq fS15r5 fS15b1) (.seq fS15r10 .ret))))))
theorem fB15:Try.f15.body.bind stripC=some fS15:=by kernel_rfl
def fS31r0:SC:=.reg [⟨some 8,.alloc 25,none⟩]
def fS31r1:SC:=.reg [⟨some 14,.move (.tmp 0),none⟩,⟨some 15,.call ⟨.value (.func 58),#[(.tmp 14),(.const (.int .i64 7))],#[32,3]⟩,none⟩,⟨some 9,.assign (.tmp 15),none⟩]
def fS31r2:SC:=.reg [⟨some 17,.move (.tmp 9),none⟩,⟨some 18,.binOp .lss 3 (.tmp 17) (.const (.int .i64 3)) 3,none⟩,⟨some 19,.move (.tmp 18),none⟩,⟨some 20,.move (.tmp 2),some (19,true)⟩,⟨some 21,.call ⟨.builtin .len,#[(.tmp 20)],#[23]⟩,some (19,true)⟩,⟨some 22,.binOp .gtr 3 (.tmp 21) (.const (.int .i64 0)) 3,some (19,true)⟩,⟨some 23,.pick (.tmp 19) (.tmp 22) (.const (.bool false)),none⟩,⟨some 16,.assign (.tmp 23),none⟩]
def fS31r3:SC:=.reg [⟨some 24,.move (.tmp 2),none⟩,⟨some 25,.move (.tmp 0),none⟩,⟨some 26,.move (.tmp 2),none⟩,⟨some 27,.call ⟨.builtin .len,#[(.tmp 26)],#[23]⟩,none⟩,⟨some 28,.call ⟨.value (.func 58),#[(.tmp 25),(.tmp 27)],#[32,3]⟩,none⟩,⟨some 29,.indexAddr 23 (.tmp 24) (.tmp 28),none⟩,⟨some 30,.load 25 (.tmp 29),none⟩,⟨none,.store 25 (.tmp 8) (.tmp 30),none⟩]
def fS31r4:SC:=.reg [⟨some 32,.move (.tmp 9),none⟩,⟨some 33,.binOp .lss 3 (.tmp 32) (.const (.int .i64 4)) 3,none⟩,⟨some 34,.move (.tmp 33),none⟩,⟨some 35,.move (.tmp 3),some (34,false)⟩,⟨some 36,.binOp .lss 3 (.tmp 35) (.const (.int .i64 1)) 3,some (34,false)⟩,⟨some 37,.pick (.tmp 34) (.const (.bool true)) (.tmp 36),none⟩,⟨some 31,.assign (.tmp 37),none⟩]
def fS31r5:SC:=.reg [⟨some 38,.call ⟨.value (.func 26),#[],#[]⟩,none⟩,⟨none,.store 25 (.tmp 8) (.tmp 38),none⟩]
def fS31r6:SC:=.reg [⟨some 40,.move (.tmp 9),none⟩,⟨some 41,.binOp .eql 3 (.tmp 40) (.const (.int .i64 4)) 3,none⟩,⟨some 42,.move (.tmp 41),none⟩,⟨some 43,.move (.tmp 1),some (42,true)⟩,⟨some 44,.call ⟨.builtin .len,#[(.tmp 43)],#[40]⟩,some (42,true)⟩,⟨some 45,.binOp .gtr 3 (.tmp 44) (.const (.int .i64 0)) 3,some (42,true)⟩,⟨some 46,.pick (.tmp 42) (.tmp 45) (.const (.bool false)),none⟩,⟨some 39,.assign (.tmp 46),none⟩]
def fS31r7:SC:=.reg [⟨some 47,.move (.tmp 9),none⟩,⟨some 48,.binOp .eql 3 (.tmp 47) (.const (.int .i64 5)) 3,none⟩,⟨some 49,.move (.tmp 48),none⟩,⟨some 50,.move (.tmp 1),some (49,true)⟩,⟨some 51,.call ⟨.builtin .len,#[(.tmp 50)],#[40]⟩,some (49,true)⟩,⟨some 52,.binOp .gtr 3 (.tmp 51) (.const (.int .i64 0)) 3,some (49,true)⟩,⟨some 53,.pick (.tmp 49) (.tmp 52) (.const (.bool false)),none⟩,⟨some 39,.assign (.tmp 53),none⟩]
def fS31r8:SC:=.reg [⟨some 54,.move (.tmp 1),none⟩,⟨some 55,.move (.tmp 0),none⟩,⟨some 56,.move (.tmp 1),none⟩,⟨some 57,.call ⟨.builtin .len,#[(.tmp 56)],#[40]⟩,none⟩,⟨some 58,.call ⟨.value (.func 58),#[(.tmp 55),(.tmp 57)],#[32,3]⟩,none⟩,⟨some 59,.indexAddr 40 (.tmp 54) (.tmp 58),none⟩,⟨some 60,.load 98 (.tmp 59),none⟩,⟨some 10,.alloc 98,none⟩,⟨none,.store 98 (.tmp 10) (.tmp 60),none⟩]
def fS31r9:SC:=.reg [⟨some 11,.assign (.const (.slice none 0 0)),none⟩]
def fS31r10:SC:=.reg [⟨some 12,.assign (.const (.int .i64 0)),none⟩]
def fS31r11:SC:=.reg [⟨some 61,.move (.tmp 12),none⟩,⟨some 62,.fieldAddr 98 (.tmp 10) 2,none⟩,⟨some 63,.load 95 (.tmp 62),none⟩,⟨some 64,.call ⟨.builtin .len,#[(.tmp 63)],#[95]⟩,none⟩,⟨some 65,.binOp .lss 3 (.tmp 61) (.tmp 64) 3,none⟩]
def fS31r12:SC:=.reg [⟨some 68,.move (.tmp 11),none⟩,⟨some 69,.move (.tmp 0),none⟩,⟨some 70,.move (.tmp 1),none⟩,⟨some 71,.move (.tmp 2),none⟩,⟨some 72,.move (.tmp 3),none⟩,⟨some 73,.binOp .sub 3 (.tmp 72) (.const (.int .i64 1)) 3,none⟩,⟨some 74,.call ⟨.value (.func 31),#[(.tmp 69),(.tmp 70),(.tmp 71),(.tmp 73)],#[32,40,23,3]⟩,none⟩,⟨some 75,.buildSlice 23 1 #[(0,(.tmp 74))],none⟩,⟨some 76,.call ⟨.builtin .append,#[(.tmp 68),(.tmp 75)],#[23,23]⟩,none⟩,⟨some 11,.assign (.tmp 76),none⟩]
def fS31b0:SC:=.block 2 fS31r12
def fS31r13:SC:=.reg [⟨some 66,.move (.tmp 12),none⟩,⟨some 67,.binOp .add 3 (.tmp 66) (.const (.int .i64 1)) 3,none⟩,⟨some 12,.assign (.tmp 67),none⟩]
def fS31l0:SC:=(.seq (.seq fS31r11 (.cond (.tmp 65) .skip (.exit 1))) (.seq fS31b0 fS31r13))
def fS31b1:SC:=.block 1 (.loop fS31l0)
def fS31r14:SC:=.reg [⟨some 77,.fieldAddr 98 (.tmp 10) 1,none⟩,⟨some 78,.load 9 (.tmp 77),none⟩,⟨some 79,.move (.tmp 11),none⟩,⟨some 80,.call ⟨.value (.func 67),#[(.tmp 78),(.tmp 79)],#[9,23]⟩,none⟩,⟨none,.store 25 (.tmp 8) (.tmp 80),none⟩]
def fS31b2:SC:=.block 0 (.seq fS31r2 (.cond (.tmp 16) (.seq fS31r3 .ret) (.seq fS31r4 (.cond (.tmp 31) (.seq fS31r5 .ret) (.seq (.seq fS31r6 (.cond (.tmp 39) .skip fS31r7)) (.cond (.tmp 39) (.seq fS31r8 (.seq fS31r9 (.seq (.seq fS31r10 fS31b1) (.seq fS31r14 .ret)))) .skip))))))
def fS31r15:SC:=.reg [⟨some 81,.move (.tmp 0),none⟩,⟨some 82,.move (.tmp 1),none⟩,⟨some 83,.move (.tmp 2),none⟩,⟨some 84,.move (.tmp 3),none⟩,⟨some 85,.binOp .sub 3 (.tmp 84) (.const (.int .i64 1)) 3,none⟩,⟨some 86,.call ⟨.value (.func 31),#[(.tmp 81),(.tmp 82),(.tmp 83),(.tmp 85)],#[32,40,23,3]⟩,none⟩,⟨some 13,.alloc 25,none⟩,⟨none,.store 25 (.tmp 13) (.tmp 86),none⟩]
def fS31r16:SC:=.draw [⟨some 87,.load 25 (.tmp 13),none,[13]⟩,⟨some 88,.move (.tmp 0),none,[0]⟩,⟨some 89,.move (.tmp 1),none,[1]⟩,⟨some 90,.move (.tmp 2),none,[2]⟩,⟨some 91,.move (.tmp 3),none,[3]⟩,⟨some 92,.binOp .sub 3 (.tmp 91) (.const (.int .i64 1)) 3,none,[91]⟩,⟨some 93,.call ⟨.value (.func 31),#[(.tmp 88),(.tmp 89),(.tmp 90),(.tmp 92)],#[32,40,23,3]⟩,none,[88,89,90,92]⟩,⟨some 94,.call ⟨.value (.func 72),#[(.tmp 87),(.tmp 93)],#[25,25]⟩,none,[87,93]⟩,⟨none,.store 25 (.tmp 8) (.tmp 94),none,[8,94]⟩] [0,0,0,0,0,16,62,127,255]
def fS31:SC:=(.seq fS31r0 (.seq fS31r1 (.seq fS31b2 (.seq fS31r15 (.seq fS31r16 .ret)))))
theorem fB31:Try.f31.body.bind stripC=some fS31:=by kernel_rfl
def fS50r0:SC:=.reg [⟨some 2,.box 25 (.tmp 0),none⟩,⟨some 4,.alloc 25,none⟩]
def fS50r1:SC:=.reg [⟨some 8,.fieldAddr 25 (.tmp 2) 0,none⟩,⟨some 9,.load 3 (.tmp 8),none⟩,⟨some 10,.binOp .eql 3 (.tmp 9) (.const (.int .i64 1)) 3,none⟩]
def fS50r2:SC:=.reg [⟨some 5,.assign (.const (.int .i64 0)),none⟩]
def fS50r3:SC:=.reg [⟨some 11,.move (.tmp 5),none⟩,⟨some 12,.move (.tmp 1),none⟩,⟨some 13,.call ⟨.builtin .len,#[(.tmp 12)],#[69]⟩,none⟩,⟨some 14,.binOp .lss 3 (.tmp 11) (.tmp 13) 3,none⟩]
def fS50r4:SC:=.draw [⟨some 17,.move (.tmp 1),none,[1]⟩,⟨some 18,.move (.tmp 5),none,[5]⟩,⟨some 19,.indexAddr 69 (.tmp 17) (.tmp 18),none,[17,18]⟩,⟨some 20,.fieldAddr 75 (.tmp 19) 0,none,[19]⟩,⟨some 21,.load 3 (.tmp 20),none,[20]⟩,⟨some 22,.fieldAddr 25 (.tmp 2) 2,none,[2]⟩,⟨some 23,.load 3 (.tmp 22),none,[22]⟩,⟨some 24,.binOp .eql 3 (.tmp 21) (.tmp 23) 3,none,[21,23]⟩] [0,0,3,7,15,0,32,127]
def fS50r5:SC:=.reg [⟨some 25,.move (.tmp 1),none⟩,⟨some 26,.move (.tmp 5),none⟩,⟨some 27,.indexAddr 69 (.tmp 25) (.tmp 26),none⟩,⟨some 28,.fieldAddr 75 (.tmp 27) 1,none⟩,⟨some 29,.load 25 (.tmp 28),none⟩,⟨none,.store 25 (.tmp 4) (.tmp 29),none⟩]
def fS50b0:SC:=.block 1 (.seq fS50r4 (.cond (.tmp 24) (.seq fS50r5 .ret) .skip))
def fS50r6:SC:=.reg [⟨some 15,.move (.tmp 5),none⟩,⟨some 16,.binOp .add 3 (.tmp 15) (.const (.int .i64 1)) 3,none⟩,⟨some 5,.assign (.tmp 16),none⟩]
def fS50l0:SC:=(.seq (.seq fS50r3 (.cond (.tmp 14) .skip (.exit 0))) (.seq fS50b0 fS50r6))
def fS50b1:SC:=.block 0 (.loop fS50l0)
def fS50r7:SC:=.reg [⟨some 30,.load 25 (.tmp 2),none⟩,⟨none,.store 25 (.tmp 4) (.tmp 30),none⟩]
def fS50r8:SC:=.reg [⟨some 31,.load 25 (.tmp 2),none⟩,⟨some 6,.alloc 25,none⟩,⟨none,.store 25 (.tmp 6) (.tmp 31),none⟩]
def fS50r9:SC:=.reg [⟨some 32,.fieldAddr 25 (.tmp 6) 4,none⟩,⟨none,.store 23 (.tmp 32) (.const (.slice none 0 0)),none⟩]
def fS50r10:SC:=.reg [⟨some 7,.assign (.const (.int .i64 0)),none⟩]
def fS50r11:SC:=.reg [⟨some 33,.move (.tmp 7),none⟩,⟨some 34,.fieldAddr 25 (.tmp 2) 4,none⟩,⟨some 35,.load 23 (.tmp 34),none⟩,⟨some 36,.call ⟨.builtin .len,#[(.tmp 35)],#[23]⟩,none⟩,⟨some 37,.binOp .lss 3 (.tmp 33) (.tmp 36) 3,none⟩]
def fS50r12:SC:=.draw [⟨some 40,.fieldAddr 25 (.tmp 6) 4,none,[6]⟩,⟨some 41,.load 23 (.tmp 40),none,[40]⟩,⟨some 42,.fieldAddr 25 (.tmp 2) 4,none,[2]⟩,⟨some 43,.load 23 (.tmp 42),none,[42]⟩,⟨some 44,.move (.tmp 7),none,[7]⟩,⟨some 45,.indexAddr 23 (.tmp 43) (.tmp 44),none,[43,44]⟩,⟨some 46,.load 25 (.tmp 45),none,[45]⟩,⟨some 47,.move (.tmp 1),none,[1]⟩,⟨some 48,.call ⟨.value (.func 50),#[(.tmp 46),(.tmp 47)],#[25,69]⟩,none,[46,47]⟩,⟨some 49,.buildSlice 23 1 #[(0,(.tmp 48))],none,[48]⟩,⟨some 50,.call ⟨.builtin .append,#[(.tmp 41),(.tmp 49)],#[23,23]⟩,none,[41,49]⟩,⟨some 51,.fieldAddr 25 (.tmp 6) 4,none,[6]⟩,⟨none,.store 23 (.tmp 51) (.tmp 50),none,[51,50]⟩] [0,1,0,4,0,28,60,0,252,508,1023,2047,4095]
def fS50b2:SC:=.block 3 fS50r12
def fS50r13:SC:=.reg [⟨some 38,.move (.tmp 7),none⟩,⟨some 39,.binOp .add 3 (.tmp 38) (.const (.int .i64 1)) 3,none⟩,⟨some 7,.assign (.tmp 39),none⟩]
def fS50l1:SC:=(.seq (.seq fS50r11 (.cond (.tmp 37) .skip (.exit 2))) (.seq fS50b2 fS50r13))
def fS50b3:SC:=.block 2 (.loop fS50l1)
def fS50r14:SC:=.reg [⟨some 52,.load 25 (.tmp 6),none⟩,⟨none,.store 25 (.tmp 4) (.tmp 52),none⟩]
def fS50:SC:=(.seq fS50r0 (.seq (.seq fS50r1 (.cond (.tmp 10) (.seq (.seq fS50r2 fS50b1) (.seq fS50r7 .ret)) .skip)) (.seq fS50r8 (.seq fS50r9 (.seq (.seq fS50r10 fS50b3) (.seq fS50r14 .ret))))))
theorem fB50:Try.f50.body.bind stripC=some fS50:=by kernel_rfl
def fS85r0:SC:=.reg [⟨some 4,.box 25 (.tmp 1),none⟩,⟨some 6,.assign (.const (.slice none 0 0)),none⟩]
def fS85r1:SC:=.reg [⟨some 9,.fieldAddr 25 (.tmp 4) 0,none⟩,⟨some 10,.load 3 (.tmp 9),none⟩,⟨some 11,.move (.tmp 2),none⟩,⟨some 12,.binOp .eql 3 (.tmp 10) (.tmp 11) 3,none⟩,⟨some 13,.move (.tmp 12),none⟩,⟨some 14,.fieldAddr 25 (.tmp 4) 4,some (13,true)⟩,⟨some 15,.load 23 (.tmp 14),some (13,true)⟩,⟨some 16,.call ⟨.builtin .len,#[(.tmp 15)],#[23]⟩,some (13,true)⟩,⟨some 17,.binOp .eql 3 (.tmp 16) (.const (.int .i64 0)) 3,some (13,true)⟩,⟨some 18,.pick (.tmp 13) (.tmp 17) (.const (.bool false)),none⟩]
def fS85r2:SC:=.reg [⟨some 7,.assign (.const (.int .i64 0)),none⟩]
def fS85r3:SC:=.reg [⟨some 19,.move (.tmp 7),none⟩,⟨some 20,.move (.tmp 0),none⟩,⟨some 21,.call ⟨.builtin .len,#[(.tmp 20)],#[23]⟩,none⟩,⟨some 22,.binOp .lss 3 (.tmp 19) (.tmp 21) 3,none⟩]
def fS85r4:SC:=.draw [⟨some 25,.move (.tmp 0),none,[0]⟩,⟨some 26,.move (.tmp 7),none,[7]⟩,⟨some 27,.indexAddr 23 (.tmp 25) (.tmp 26),none,[25,26]⟩,⟨some 28,.load 25 (.tmp 27),none,[27]⟩,⟨some 29,.load 25 (.tmp 4),none,[4]⟩,⟨some 30,.call ⟨.value (.func 19),#[(.tmp 28),(.tmp 29)],#[25,25]⟩,none,[28,29]⟩] [0,0,3,7,0,31]
def fS85r5:SC:=.reg [⟨some 31,.move (.tmp 0),none⟩,⟨some 6,.assign (.tmp 31),none⟩]
def fS85b0:SC:=.block 1 (.seq fS85r4 (.cond (.tmp 30) (.seq fS85r5 .ret) .skip))
def fS85r6:SC:=.reg [⟨some 23,.move (.tmp 7),none⟩,⟨some 24,.binOp .add 3 (.tmp 23) (.const (.int .i64 1)) 3,none⟩,⟨some 7,.assign (.tmp 24),none⟩]
def fS85l0:SC:=(.seq (.seq fS85r3 (.cond (.tmp 22) .skip (.exit 0))) (.seq fS85b0 fS85r6))
def fS85b1:SC:=.block 0 (.loop fS85l0)
def fS85r7:SC:=.reg [⟨some 32,.move (.tmp 0),none⟩,⟨some 33,.load 25 (.tmp 4),none⟩,⟨some 34,.buildSlice 23 1 #[(0,(.tmp 33))],none⟩,⟨some 35,.call ⟨.builtin .append,#[(.tmp 32),(.tmp 34)],#[23,23]⟩,none⟩,⟨some 6,.assign (.tmp 35),none⟩]
def fS85r8:SC:=.reg [⟨some 8,.assign (.const (.int .i64 0)),none⟩]
def fS85r9:SC:=.reg [⟨some 36,.move (.tmp 8),none⟩,⟨some 37,.fieldAddr 25 (.tmp 4) 4,none⟩,⟨some 38,.load 23 (.tmp 37),none⟩,⟨some 39,.call ⟨.builtin .len,#[(.tmp 38)],#[23]⟩,none⟩,⟨some 40,.binOp .lss 3 (.tmp 36) (.tmp 39) 3,none⟩]
def fS85r10:SC:=.reg [⟨some 43,.move (.tmp 0),none⟩,⟨some 44,.fieldAddr 25 (.tmp 4) 4,none⟩,⟨some 45,.load 23 (.tmp 44),none⟩,⟨some 46,.move (.tmp 8),none⟩,⟨some 47,.indexAddr 23 (.tmp 45) (.tmp 46),none⟩,⟨some 48,.load 25 (.tmp 47),none⟩,⟨some 49,.move (.tmp 2),none⟩,⟨some 50,.call ⟨.value (.func 85),#[(.tmp 43),(.tmp 48),(.tmp 49)],#[23,25,3]⟩,none⟩,⟨some 0,.assign (.tmp 50),none⟩]
def fS85b2:SC:=.block 3 fS85r10
def fS85r11:SC:=.reg [⟨some 41,.move (.tmp 8),none⟩,⟨some 42,.binOp .add 3 (.tmp 41) (.const (.int .i64 1)) 3,none⟩,⟨some 8,.assign (.tmp 42),none⟩]
def fS85l1:SC:=(.seq (.seq fS85r9 (.cond (.tmp 40) .skip (.exit 2))) (.seq fS85b2 fS85r11))
def fS85b3:SC:=.block 2 (.loop fS85l1)
def fS85r12:SC:=.reg [⟨some 51,.move (.tmp 0),none⟩,⟨some 6,.assign (.tmp 51),none⟩]
def fS85:SC:=(.seq fS85r0 (.seq (.seq fS85r1 (.cond (.tmp 18) (.seq (.seq fS85r2 fS85b1) (.seq fS85r7 .ret)) .skip)) (.seq (.seq fS85r8 fS85b3) (.seq fS85r12 .ret))))
theorem fB85:Try.f85.body.bind stripC=some fS85:=by kernel_rfl
def fS47r0:SC:=.reg [⟨some 4,.assign (.const (.bool false)),none⟩]
def fS47r1:SC:=.reg [⟨some 5,.assign (.const (.int .i64 0)),none⟩]
def fS47r2:SC:=.reg [⟨some 6,.move (.tmp 5),none⟩,⟨some 7,.move (.tmp 0),none⟩,⟨some 8,.call ⟨.builtin .len,#[(.tmp 7)],#[22]⟩,none⟩,⟨some 9,.binOp .lss 3 (.tmp 6) (.tmp 8) 3,none⟩]
def fS47r3:SC:=.reg [⟨some 12,.move (.tmp 0),none⟩,⟨some 13,.move (.tmp 5),none⟩,⟨some 14,.indexAddr 22 (.tmp 12) (.tmp 13),none⟩,⟨some 15,.load 3 (.tmp 14),none⟩,⟨some 16,.move (.tmp 1),none⟩,⟨some 17,.binOp .eql 3 (.tmp 15) (.tmp 16) 3,none⟩]
def fS47r4:SC:=.reg [⟨some 4,.assign (.const (.bool true)),none⟩]
def fS47b0:SC:=.block 1 (.seq fS47r3 (.cond (.tmp 17) (.seq fS47r4 .ret) .skip))
def fS47r5:SC:=.reg [⟨some 10,.move (.tmp 5),none⟩,⟨some 11,.binOp .add 3 (.tmp 10) (.const (.int .i64 1)) 3,none⟩,⟨some 5,.assign (.tmp 11),none⟩]
def fS47l0:SC:=(.seq (.seq fS47r2 (.cond (.tmp 9) .skip (.exit 0))) (.seq fS47b0 fS47r5))
def fS47b1:SC:=.block 0 (.loop fS47l0)
def fS47r6:SC:=.reg [⟨some 4,.assign (.const (.bool false)),none⟩]
def fS47:SC:=(.seq fS47r0 (.seq (.seq fS47r1 fS47b1) (.seq fS47r6 .ret)))
theorem fB47:Try.f47.body.bind stripC=some fS47:=by kernel_rfl
def fS46r0:SC:=.reg [⟨some 2,.assign (.const (.slice none 0 0)),none⟩]
def fS46r1:SC:=.reg [⟨some 3,.assign (.const (.slice none 0 0)),none⟩]
def fS46r2:SC:=.reg [⟨some 4,.assign (.const (.int .i64 0)),none⟩]
def fS46r3:SC:=.reg [⟨some 7,.move (.tmp 4),none⟩,⟨some 8,.move (.tmp 0),none⟩,⟨some 9,.call ⟨.builtin .len,#[(.tmp 8)],#[23]⟩,none⟩,⟨some 10,.binOp .lss 3 (.tmp 7) (.tmp 9) 3,none⟩]
def fS46r4:SC:=.reg [⟨some 13,.move (.tmp 3),none⟩,⟨some 14,.move (.tmp 0),none⟩,⟨some 15,.move (.tmp 4),none⟩,⟨some 16,.indexAddr 23 (.tmp 14) (.tmp 15),none⟩,⟨some 17,.load 25 (.tmp 16),none⟩,⟨some 18,.call ⟨.value (.func 85),#[(.tmp 13),(.tmp 17),(.const (.int .i64 1))],#[23,25,3]⟩,none⟩,⟨some 3,.assign (.tmp 18),none⟩]
def fS46b0:SC:=.block 1 fS46r4
def fS46r5:SC:=.reg [⟨some 11,.move (.tmp 4),none⟩,⟨some 12,.binOp .add 3 (.tmp 11) (.const (.int .i64 1)) 3,none⟩,⟨some 4,.assign (.tmp 12),none⟩]
def fS46l0:SC:=(.seq (.seq fS46r3 (.cond (.tmp 10) .skip (.exit 0))) (.seq fS46b0 fS46r5))
def fS46b1:SC:=.block 0 (.loop fS46l0)
def fS46r6:SC:=.reg [⟨some 5,.assign (.const (.slice none 0 0)),none⟩]
def fS46r7:SC:=.reg [⟨some 6,.assign (.const (.int .i64 0)),none⟩]
def fS46r8:SC:=.reg [⟨some 19,.move (.tmp 6),none⟩,⟨some 20,.move (.tmp 3),none⟩,⟨some 21,.call ⟨.builtin .len,#[(.tmp 20)],#[23]⟩,none⟩,⟨some 22,.binOp .lss 3 (.tmp 19) (.tmp 21) 3,none⟩]
def fS46r9:SC:=.reg [⟨some 25,.move (.tmp 5),none⟩,⟨some 26,.move (.tmp 3),none⟩,⟨some 27,.move (.tmp 6),none⟩,⟨some 28,.indexAddr 23 (.tmp 26) (.tmp 27),none⟩,⟨some 29,.fieldAddr 25 (.tmp 28) 2,none⟩,⟨some 30,.load 3 (.tmp 29),none⟩,⟨some 31,.call ⟨.value (.func 47),#[(.tmp 25),(.tmp 30)],#[22,3]⟩,none⟩,⟨some 32,.unOp .not 4 (.tmp 31),none⟩]
def fS46r10:SC:=.reg [⟨some 33,.move (.tmp 5),none⟩,⟨some 34,.move (.tmp 3),none⟩,⟨some 35,.move (.tmp 6),none⟩,⟨some 36,.indexAddr 23 (.tmp 34) (.tmp 35),none⟩,⟨some 37,.fieldAddr 25 (.tmp 36) 2,none⟩,⟨some 38,.load 3 (.tmp 37),none⟩,⟨some 39,.buildSlice 22 1 #[(0,(.tmp 38))],none⟩,⟨some 40,.call ⟨.builtin .append,#[(.tmp 33),(.tmp 39)],#[22,22]⟩,none⟩,⟨some 5,.assign (.tmp 40),none⟩]
def fS46b2:SC:=.block 3 (.seq fS46r9 (.cond (.tmp 32) fS46r10 .skip))
def fS46r11:SC:=.reg [⟨some 23,.move (.tmp 6),none⟩,⟨some 24,.binOp .add 3 (.tmp 23) (.const (.int .i64 1)) 3,none⟩,⟨some 6,.assign (.tmp 24),none⟩]
def fS46l1:SC:=(.seq (.seq fS46r8 (.cond (.tmp 22) .skip (.exit 2))) (.seq fS46b2 fS46r11))
def fS46b3:SC:=.block 2 (.loop fS46l1)
def fS46r12:SC:=.reg [⟨some 41,.move (.tmp 5),none⟩,⟨some 2,.assign (.tmp 41),none⟩]
def fS46:SC:=(.seq fS46r0 (.seq fS46r1 (.seq (.seq fS46r2 fS46b1) (.seq fS46r6 (.seq (.seq fS46r7 fS46b3) (.seq fS46r12 .ret))))))
theorem fB46:Try.f46.body.bind stripC=some fS46:=by kernel_rfl
def fS91r0:SC:=.reg [⟨some 2,.assign (.const (.bool false)),none⟩]
def fS91r1:SC:=.reg [⟨some 3,.move (.tmp 0),none⟩,⟨some 4,.call ⟨.value (.func 109),#[(.tmp 3)],#[9]⟩,none⟩,⟨some 5,.move (.tmp 4),none⟩,⟨some 6,.move (.tmp 0),some (5,true)⟩,⟨some 7,.index 9 (.tmp 6) (.const (.int .i64 0)),some (5,true)⟩,⟨some 8,.call ⟨.value (.func 110),#[(.tmp 7)],#[5]⟩,some (5,true)⟩,⟨some 9,.pick (.tmp 5) (.tmp 8) (.const (.bool false)),none⟩,⟨some 10,.move (.tmp 9),none⟩,⟨some 11,.move (.tmp 0),some (10,true)⟩,⟨some 12,.call ⟨.builtin .len,#[(.tmp 11)],#[9]⟩,some (10,true)⟩,⟨some 13,.binOp .leq 3 (.tmp 12) (.const (.int .i64 12)) 3,some (10,true)⟩,⟨some 14,.pick (.tmp 10) (.tmp 13) (.const (.bool false)),none⟩,⟨some 15,.move (.tmp 14),none⟩,⟨some 16,.move (.tmp 0),some (15,true)⟩,⟨some 17,.call ⟨.value (.func 111),#[(.tmp 16)],#[9]⟩,some (15,true)⟩,⟨some 18,.unOp .not 4 (.tmp 17),some (15,true)⟩,⟨some 19,.pick (.tmp 15) (.tmp 18) (.const (.bool false)),none⟩,⟨some 2,.assign (.tmp 19),none⟩]
def fS91:SC:=(.seq fS91r0 (.seq fS91r1 .ret))
theorem fB91:Try.f91.body.bind stripC=some fS91:=by kernel_rfl
def fS92r0:SC:=.reg [⟨some 2,.assign (.const (.bool false)),none⟩]
def fS92r1:SC:=.reg [⟨some 3,.move (.tmp 0),none⟩,⟨some 4,.call ⟨.value (.func 109),#[(.tmp 3)],#[9]⟩,none⟩,⟨some 5,.move (.tmp 4),none⟩,⟨some 6,.move (.tmp 0),some (5,true)⟩,⟨some 7,.index 9 (.tmp 6) (.const (.int .i64 0)),some (5,true)⟩,⟨some 8,.call ⟨.value (.func 112),#[(.tmp 7)],#[5]⟩,some (5,true)⟩,⟨some 9,.pick (.tmp 5) (.tmp 8) (.const (.bool false)),none⟩,⟨some 10,.move (.tmp 9),none⟩,⟨some 11,.move (.tmp 0),some (10,true)⟩,⟨some 12,.call ⟨.builtin .len,#[(.tmp 11)],#[9]⟩,some (10,true)⟩,⟨some 13,.binOp .leq 3 (.tmp 12) (.const (.int .i64 12)) 3,some (10,true)⟩,⟨some 14,.pick (.tmp 10) (.tmp 13) (.const (.bool false)),none⟩,⟨some 2,.assign (.tmp 14),none⟩]
def fS92:SC:=(.seq fS92r0 (.seq fS92r1 .ret))
theorem fB92:Try.f92.body.bind stripC=some fS92:=by kernel_rfl
def fS57r0:SC:=.reg [⟨some 1,.box 25 (.tmp 0),none⟩,⟨some 2,.assign (.const (.bool false)),none⟩]
def fS57r1:SC:=.reg [⟨some 4,.fieldAddr 25 (.tmp 1) 0,none⟩,⟨some 5,.load 3 (.tmp 4),none⟩]
def fS57r2:SC:=.reg [⟨some 7,.binOp .eql 3 (.tmp 5) (.const (.int .i64 1)) 3,none⟩,⟨some 6,.assign (.tmp 7),none⟩]
def fS57r3:SC:=.reg [⟨some 8,.binOp .eql 3 (.tmp 5) (.const (.int .i64 2)) 3,none⟩,⟨some 6,.assign (.tmp 8),none⟩]
def fS57r4:SC:=.reg [⟨some 9,.fieldAddr 25 (.tmp 1) 2,none⟩,⟨some 10,.load 3 (.tmp 9),none⟩,⟨some 11,.binOp .geq 3 (.tmp 10) (.const (.int .i64 0)) 3,none⟩,⟨some 12,.move (.tmp 11),none⟩,⟨some 13,.fieldAddr 25 (.tmp 1) 2,some (12,true)⟩,⟨some 14,.load 3 (.tmp 13),some (12,true)⟩,⟨some 15,.binOp .leq 3 (.tmp 14) (.const (.int .i64 1000000)) 3,some (12,true)⟩,⟨some 16,.pick (.tmp 12) (.tmp 15) (.const (.bool false)),none⟩,⟨some 17,.move (.tmp 16),none⟩,⟨some 18,.fieldAddr 25 (.tmp 1) 1,some (17,true)⟩,⟨some 19,.load 9 (.tmp 18),some (17,true)⟩,⟨some 20,.binOp .eql 9 (.tmp 19) (.const (.string ⟨#[]⟩)) 9,some (17,true)⟩,⟨some 21,.pick (.tmp 17) (.tmp 20) (.const (.bool false)),none⟩,⟨some 22,.move (.tmp 21),none⟩,⟨some 23,.fieldAddr 25 (.tmp 1) 3,some (22,true)⟩,⟨some 24,.load 3 (.tmp 23),some (22,true)⟩,⟨some 25,.binOp .eql 3 (.tmp 24) (.const (.int .i64 0)) 3,some (22,true)⟩,⟨some 26,.pick (.tmp 22) (.tmp 25) (.const (.bool false)),none⟩,⟨some 27,.move (.tmp 26),none⟩,⟨some 28,.fieldAddr 25 (.tmp 1) 4,some (27,true)⟩,⟨some 29,.load 23 (.tmp 28),some (27,true)⟩,⟨some 30,.call ⟨.builtin .len,#[(.tmp 29)],#[23]⟩,some (27,true)⟩,⟨some 31,.binOp .eql 3 (.tmp 30) (.const (.int .i64 0)) 3,some (27,true)⟩,⟨some 32,.pick (.tmp 27) (.tmp 31) (.const (.bool false)),none⟩,⟨some 2,.assign (.tmp 32),none⟩]
def fS57r5:SC:=.reg [⟨some 34,.binOp .eql 3 (.tmp 5) (.const (.int .i64 3)) 3,none⟩,⟨some 33,.assign (.tmp 34),none⟩]
def fS57r6:SC:=.reg [⟨some 35,.fieldAddr 25 (.tmp 1) 2,none⟩,⟨some 36,.load 3 (.tmp 35),none⟩,⟨some 37,.binOp .geq 3 (.tmp 36) (.const (.int .i64 0)) 3,none⟩,⟨some 38,.move (.tmp 37),none⟩,⟨some 39,.fieldAddr 25 (.tmp 1) 2,some (38,true)⟩,⟨some 40,.load 3 (.tmp 39),some (38,true)⟩,⟨some 41,.binOp .leq 3 (.tmp 40) (.const (.int .i64 1000000)) 3,some (38,true)⟩,⟨some 42,.pick (.tmp 38) (.tmp 41) (.const (.bool false)),none⟩,⟨some 43,.move (.tmp 42),none⟩,⟨some 44,.fieldAddr 25 (.tmp 1) 3,some (43,true)⟩,⟨some 45,.load 3 (.tmp 44),some (43,true)⟩,⟨some 46,.binOp .geq 3 (.tmp 45) (.const (.int .i64 (-1))) 3,some (43,true)⟩,⟨some 47,.pick (.tmp 43) (.tmp 46) (.const (.bool false)),none⟩,⟨some 48,.move (.tmp 47),none⟩,⟨some 49,.fieldAddr 25 (.tmp 1) 3,some (48,true)⟩,⟨some 50,.load 3 (.tmp 49),some (48,true)⟩,⟨some 51,.binOp .leq 3 (.tmp 50) (.const (.int .i64 1000000)) 3,some (48,true)⟩,⟨some 52,.pick (.tmp 48) (.tmp 51) (.const (.bool false)),none⟩,⟨some 53,.move (.tmp 52),none⟩,⟨some 54,.fieldAddr 25 (.tmp 1) 1,some (53,true)⟩,⟨some 55,.load 9 (.tmp 54),some (53,true)⟩,⟨some 56,.binOp .eql 9 (.tmp 55) (.const (.string ⟨#[]⟩)) 9,some (53,true)⟩,⟨some 57,.pick (.tmp 53) (.tmp 56) (.const (.bool false)),none⟩,⟨some 58,.move (.tmp 57),none⟩,⟨some 59,.fieldAddr 25 (.tmp 1) 4,some (58,true)⟩,⟨some 60,.load 23 (.tmp 59),some (58,true)⟩,⟨some 61,.call ⟨.builtin .len,#[(.tmp 60)],#[23]⟩,some (58,true)⟩,⟨some 62,.binOp .eql 3 (.tmp 61) (.const (.int .i64 0)) 3,some (58,true)⟩,⟨some 63,.pick (.tmp 58) (.tmp 62) (.const (.bool false)),none⟩,⟨some 2,.assign (.tmp 63),none⟩]
def fS57r7:SC:=.reg [⟨some 65,.binOp .eql 3 (.tmp 5) (.const (.int .i64 5)) 3,none⟩,⟨some 64,.assign (.tmp 65),none⟩]
def fS57r8:SC:=.reg [⟨some 66,.fieldAddr 25 (.tmp 1) 2,none⟩,⟨some 67,.load 3 (.tmp 66),none⟩,⟨some 68,.binOp .eql 3 (.tmp 67) (.const (.int .i64 0)) 3,none⟩,⟨some 69,.move (.tmp 68),none⟩,⟨some 70,.fieldAddr 25 (.tmp 1) 3,some (69,true)⟩,⟨some 71,.load 3 (.tmp 70),some (69,true)⟩,⟨some 72,.binOp .eql 3 (.tmp 71) (.const (.int .i64 0)) 3,some (69,true)⟩,⟨some 73,.pick (.tmp 69) (.tmp 72) (.const (.bool false)),none⟩,⟨some 74,.move (.tmp 73),none⟩,⟨some 75,.fieldAddr 25 (.tmp 1) 4,some (74,true)⟩,⟨some 76,.load 23 (.tmp 75),some (74,true)⟩,⟨some 77,.call ⟨.builtin .len,#[(.tmp 76)],#[23]⟩,some (74,true)⟩,⟨some 78,.binOp .eql 3 (.tmp 77) (.const (.int .i64 0)) 3,some (74,true)⟩,⟨some 79,.pick (.tmp 74) (.tmp 78) (.const (.bool false)),none⟩,⟨some 80,.move (.tmp 79),none⟩,⟨some 81,.fieldAddr 25 (.tmp 1) 1,some (80,true)⟩,⟨some 82,.load 9 (.tmp 81),some (80,true)⟩,⟨some 83,.call ⟨.value (.func 91),#[(.tmp 82)],#[9]⟩,some (80,true)⟩,⟨some 84,.pick (.tmp 80) (.tmp 83) (.const (.bool false)),none⟩,⟨some 2,.assign (.tmp 84),none⟩]
def fS57r9:SC:=.reg [⟨some 86,.binOp .eql 3 (.tmp 5) (.const (.int .i64 4)) 3,none⟩,⟨some 85,.assign (.tmp 86),none⟩]
def fS57r10:SC:=.reg [⟨some 87,.fieldAddr 25 (.tmp 1) 2,none⟩,⟨some 88,.load 3 (.tmp 87),none⟩,⟨some 89,.binOp .neq 3 (.tmp 88) (.const (.int .i64 0)) 3,none⟩,⟨some 90,.move (.tmp 89),none⟩,⟨some 91,.fieldAddr 25 (.tmp 1) 3,some (90,false)⟩,⟨some 92,.load 3 (.tmp 91),some (90,false)⟩,⟨some 93,.binOp .neq 3 (.tmp 92) (.const (.int .i64 0)) 3,some (90,false)⟩,⟨some 94,.pick (.tmp 90) (.const (.bool true)) (.tmp 93),none⟩]
def fS57r11:SC:=.reg [⟨some 2,.assign (.const (.bool false)),none⟩]
def fS57r12:SC:=.reg [⟨some 3,.assign (.const (.int .i64 0)),none⟩]
def fS57r13:SC:=.reg [⟨some 95,.move (.tmp 3),none⟩,⟨some 96,.fieldAddr 25 (.tmp 1) 4,none⟩,⟨some 97,.load 23 (.tmp 96),none⟩,⟨some 98,.call ⟨.builtin .len,#[(.tmp 97)],#[23]⟩,none⟩,⟨some 99,.binOp .lss 3 (.tmp 95) (.tmp 98) 3,none⟩]
def fS57r14:SC:=.reg [⟨some 102,.fieldAddr 25 (.tmp 1) 4,none⟩,⟨some 103,.load 23 (.tmp 102),none⟩,⟨some 104,.move (.tmp 3),none⟩,⟨some 105,.indexAddr 23 (.tmp 103) (.tmp 104),none⟩,⟨some 106,.load 25 (.tmp 105),none⟩,⟨some 107,.call ⟨.value (.func 57),#[(.tmp 106)],#[25]⟩,none⟩,⟨some 108,.unOp .not 4 (.tmp 107),none⟩]
def fS57r15:SC:=.reg [⟨some 2,.assign (.const (.bool false)),none⟩]
def fS57b0:SC:=.block 2 (.seq fS57r14 (.cond (.tmp 108) (.seq fS57r15 .ret) .skip))
def fS57r16:SC:=.reg [⟨some 100,.move (.tmp 3),none⟩,⟨some 101,.binOp .add 3 (.tmp 100) (.const (.int .i64 1)) 3,none⟩,⟨some 3,.assign (.tmp 101),none⟩]
def fS57l0:SC:=(.seq (.seq fS57r13 (.cond (.tmp 99) .skip (.exit 1))) (.seq fS57b0 fS57r16))
def fS57b1:SC:=.block 1 (.loop fS57l0)
def fS57r17:SC:=.reg [⟨some 109,.fieldAddr 25 (.tmp 1) 1,none⟩,⟨some 110,.load 9 (.tmp 109),none⟩]
def fS57r18:SC:=.reg [⟨some 112,.binOp .eql 9 (.tmp 110) (.const (.string ⟨#[45,62]⟩)) 9,none⟩,⟨some 111,.assign (.tmp 112),none⟩]
def fS57r19:SC:=.reg [⟨some 113,.fieldAddr 25 (.tmp 1) 4,none⟩,⟨some 114,.load 23 (.tmp 113),none⟩,⟨some 115,.call ⟨.builtin .len,#[(.tmp 114)],#[23]⟩,none⟩,⟨some 116,.binOp .eql 3 (.tmp 115) (.const (.int .i64 2)) 3,none⟩,⟨some 2,.assign (.tmp 116),none⟩]
def fS57r20:SC:=.reg [⟨some 118,.binOp .eql 9 (.tmp 110) (.const (.string ⟨#[73,110,116]⟩)) 9,none⟩,⟨some 117,.assign (.tmp 118),none⟩]
def fS57r21:SC:=.reg [⟨some 119,.fieldAddr 25 (.tmp 1) 4,none⟩,⟨some 120,.load 23 (.tmp 119),none⟩,⟨some 121,.call ⟨.builtin .len,#[(.tmp 120)],#[23]⟩,none⟩,⟨some 122,.binOp .eql 3 (.tmp 121) (.const (.int .i64 0)) 3,none⟩,⟨some 2,.assign (.tmp 122),none⟩]
def fS57b2:SC:=.block 3 (.seq fS57r18 (.cond (.tmp 111) (.seq fS57r19 .ret) (.seq fS57r20 (.cond (.tmp 117) (.seq fS57r21 .ret) .skip))))
def fS57r22:SC:=.reg [⟨some 123,.fieldAddr 25 (.tmp 1) 1,none⟩,⟨some 124,.load 9 (.tmp 123),none⟩,⟨some 125,.call ⟨.value (.func 92),#[(.tmp 124)],#[9]⟩,none⟩,⟨some 126,.move (.tmp 125),none⟩,⟨some 127,.fieldAddr 25 (.tmp 1) 4,some (126,true)⟩,⟨some 128,.load 23 (.tmp 127),some (126,true)⟩,⟨some 129,.call ⟨.builtin .len,#[(.tmp 128)],#[23]⟩,some (126,true)⟩,⟨some 130,.binOp .leq 3 (.tmp 129) (.const (.int .i64 4)) 3,some (126,true)⟩,⟨some 131,.pick (.tmp 126) (.tmp 130) (.const (.bool false)),none⟩,⟨some 2,.assign (.tmp 131),none⟩]
def fS57b3:SC:=.block 0 (.seq (.seq fS57r2 (.cond (.tmp 6) .skip fS57r3)) (.cond (.tmp 6) (.seq fS57r4 .ret) (.seq fS57r5 (.cond (.tmp 33) (.seq fS57r6 .ret) (.seq fS57r7 (.cond (.tmp 64) (.seq fS57r8 .ret) (.seq fS57r9 (.cond (.tmp 85) (.seq (.seq fS57r10 (.cond (.tmp 94) (.seq fS57r11 .ret) .skip)) (.seq (.seq fS57r12 fS57b1) (.seq (.seq fS57r17 fS57b2) (.seq fS57r22 .ret)))) .skip))))))))
def fS57r23:SC:=.reg [⟨some 2,.assign (.const (.bool false)),none⟩]
def fS57:SC:=(.seq fS57r0 (.seq (.seq fS57r1 fS57b3) (.seq fS57r23 .ret)))
theorem fB57:Try.f57.body.bind stripC=some fS57:=by kernel_rfl
def fS63r0:SC:=.reg [⟨some 2,.alloc 25,none⟩]
def fS63r1:SC:=.reg [⟨some 3,.move (.tmp 0),none⟩,⟨some 4,.build 25 #[(0,(.const (.int .i64 1))),(2,(.tmp 3))],none⟩,⟨none,.store 25 (.tmp 2) (.tmp 4),none⟩]
def fS63:SC:=(.seq fS63r0 (.seq fS63r1 .ret))
theorem fB63:Try.f63.body.bind stripC=some fS63:=by kernel_rfl
def fS124r0:SC:=.reg [⟨some 3,.box 25 (.tmp 1),none⟩,⟨some 4,.assign (.const (.bool false)),none⟩]
def fS124r1:SC:=.reg [⟨some 5,.load 25 (.tmp 3),none⟩,⟨some 6,.buildSlice 23 1 #[(0,(.tmp 5))],none⟩,⟨some 7,.call ⟨.value (.func 46),#[(.tmp 6)],#[23]⟩,none⟩,⟨some 8,.move (.tmp 0),none⟩,⟨some 9,.call ⟨.value (.func 47),#[(.tmp 7),(.tmp 8)],#[22,3]⟩,none⟩,⟨some 4,.assign (.tmp 9),none⟩]
def fS124:SC:=(.seq fS124r0 (.seq fS124r1 .ret))
theorem fB124:Try.f124.body.bind stripC=some fS124:=by kernel_rfl
def fS110r0:SC:=.reg [⟨some 2,.assign (.const (.bool false)),none⟩]
def fS110r1:SC:=.reg [⟨some 3,.move (.tmp 0),none⟩,⟨some 4,.binOp .geq 5 (.tmp 3) (.const (.int .u8 97)) 5,none⟩,⟨some 5,.move (.tmp 4),none⟩,⟨some 6,.move (.tmp 0),some (5,true)⟩,⟨some 7,.binOp .leq 5 (.tmp 6) (.const (.int .u8 122)) 5,some (5,true)⟩,⟨some 8,.pick (.tmp 5) (.tmp 7) (.const (.bool false)),none⟩,⟨some 2,.assign (.tmp 8),none⟩]
def fS110:SC:=(.seq fS110r0 (.seq fS110r1 .ret))
theorem fB110:Try.f110.body.bind stripC=some fS110:=by kernel_rfl
def fS112r0:SC:=.reg [⟨some 2,.assign (.const (.bool false)),none⟩]
def fS112r1:SC:=.reg [⟨some 3,.move (.tmp 0),none⟩,⟨some 4,.binOp .geq 5 (.tmp 3) (.const (.int .u8 65)) 5,none⟩,⟨some 5,.move (.tmp 4),none⟩,⟨some 6,.move (.tmp 0),some (5,true)⟩,⟨some 7,.binOp .leq 5 (.tmp 6) (.const (.int .u8 90)) 5,some (5,true)⟩,⟨some 8,.pick (.tmp 5) (.tmp 7) (.const (.bool false)),none⟩,⟨some 2,.assign (.tmp 8),none⟩]
def fS112:SC:=(.seq fS112r0 (.seq fS112r1 .ret))
theorem fB112:Try.f112.body.bind stripC=some fS112:=by kernel_rfl
def fS149r0:SC:=.reg [⟨some 2,.assign (.const (.bool false)),none⟩]
def fS149r1:SC:=.reg [⟨some 3,.move (.tmp 0),none⟩,⟨some 4,.binOp .geq 5 (.tmp 3) (.const (.int .u8 48)) 5,none⟩,⟨some 5,.move (.tmp 4),none⟩,⟨some 6,.move (.tmp 0),some (5,true)⟩,⟨some 7,.binOp .leq 5 (.tmp 6) (.const (.int .u8 57)) 5,some (5,true)⟩,⟨some 8,.pick (.tmp 5) (.tmp 7) (.const (.bool false)),none⟩,⟨some 2,.assign (.tmp 8),none⟩]
def fS149:SC:=(.seq fS149r0 (.seq fS149r1 .ret))
theorem fB149:Try.f149.body.bind stripC=some fS149:=by kernel_rfl
def fS130r0:SC:=.reg [⟨some 2,.assign (.const (.bool false)),none⟩]
def fS130r1:SC:=.reg [⟨some 3,.move (.tmp 0),none⟩,⟨some 4,.call ⟨.value (.func 110),#[(.tmp 3)],#[5]⟩,none⟩,⟨some 5,.move (.tmp 4),none⟩,⟨some 6,.move (.tmp 0),some (5,false)⟩,⟨some 7,.call ⟨.value (.func 112),#[(.tmp 6)],#[5]⟩,some (5,false)⟩,⟨some 8,.pick (.tmp 5) (.const (.bool true)) (.tmp 7),none⟩,⟨some 9,.move (.tmp 8),none⟩,⟨some 10,.move (.tmp 0),some (9,false)⟩,⟨some 11,.call ⟨.value (.func 149),#[(.tmp 10)],#[5]⟩,some (9,false)⟩,⟨some 12,.pick (.tmp 9) (.const (.bool true)) (.tmp 11),none⟩,⟨some 13,.move (.tmp 12),none⟩,⟨some 14,.move (.tmp 0),some (13,false)⟩,⟨some 15,.binOp .eql 5 (.tmp 14) (.const (.int .u8 95)) 5,some (13,false)⟩,⟨some 16,.pick (.tmp 13) (.const (.bool true)) (.tmp 15),none⟩,⟨some 2,.assign (.tmp 16),none⟩]
def fS130:SC:=(.seq fS130r0 (.seq fS130r1 .ret))
theorem fB130:Try.f130.body.bind stripC=some fS130:=by kernel_rfl
def fS109r0:SC:=.reg [⟨some 2,.assign (.const (.bool false)),none⟩]
def fS109r1:SC:=.reg [⟨some 3,.assign (.const (.int .i64 0)),none⟩]
def fS109r2:SC:=.reg [⟨some 4,.move (.tmp 3),none⟩,⟨some 5,.move (.tmp 0),none⟩,⟨some 6,.call ⟨.builtin .len,#[(.tmp 5)],#[9]⟩,none⟩,⟨some 7,.binOp .lss 3 (.tmp 4) (.tmp 6) 3,none⟩]
def fS109r3:SC:=.reg [⟨some 10,.move (.tmp 0),none⟩,⟨some 11,.move (.tmp 3),none⟩,⟨some 12,.index 9 (.tmp 10) (.tmp 11),none⟩,⟨some 13,.call ⟨.value (.func 130),#[(.tmp 12)],#[5]⟩,none⟩,⟨some 14,.unOp .not 4 (.tmp 13),none⟩]
def fS109r4:SC:=.reg [⟨some 2,.assign (.const (.bool false)),none⟩]
def fS109b0:SC:=.block 1 (.seq fS109r3 (.cond (.tmp 14) (.seq fS109r4 .ret) .skip))
def fS109r5:SC:=.reg [⟨some 8,.move (.tmp 3),none⟩,⟨some 9,.binOp .add 3 (.tmp 8) (.const (.int .i64 1)) 3,none⟩,⟨some 3,.assign (.tmp 9),none⟩]
def fS109l0:SC:=(.seq (.seq fS109r2 (.cond (.tmp 7) .skip (.exit 0))) (.seq fS109b0 fS109r5))
def fS109b1:SC:=.block 0 (.loop fS109l0)
def fS109r6:SC:=.reg [⟨some 15,.move (.tmp 0),none⟩,⟨some 16,.binOp .neq 9 (.tmp 15) (.const (.string ⟨#[]⟩)) 9,none⟩,⟨some 2,.assign (.tmp 16),none⟩]
def fS109:SC:=(.seq fS109r0 (.seq (.seq fS109r1 fS109b1) (.seq fS109r6 .ret)))
theorem fB109:Try.f109.body.bind stripC=some fS109:=by kernel_rfl
def fS111r0:SC:=.reg [⟨some 2,.assign (.const (.bool false)),none⟩]
def fS111r1:SC:=.reg [⟨some 5,.buildSlice 95 7 #[(0,(.const (.string ⟨#[100,97,116,97]⟩))),(1,(.const (.string ⟨#[108,101,116]⟩))),(2,(.const (.string ⟨#[114,101,99]⟩))),(3,(.const (.string ⟨#[105,110]⟩))),(4,(.const (.string ⟨#[99,97,115,101]⟩))),(5,(.const (.string ⟨#[111,102]⟩))),(6,(.const (.string ⟨#[101,110,100]⟩)))],none⟩,⟨some 3,.assign (.tmp 5),none⟩]
def fS111r2:SC:=.reg [⟨some 4,.assign (.const (.int .i64 0)),none⟩]
def fS111r3:SC:=.reg [⟨some 6,.move (.tmp 4),none⟩,⟨some 7,.move (.tmp 3),none⟩,⟨some 8,.call ⟨.builtin .len,#[(.tmp 7)],#[95]⟩,none⟩,⟨some 9,.binOp .lss 3 (.tmp 6) (.tmp 8) 3,none⟩]
def fS111r4:SC:=.reg [⟨some 12,.move (.tmp 3),none⟩,⟨some 13,.move (.tmp 4),none⟩,⟨some 14,.indexAddr 95 (.tmp 12) (.tmp 13),none⟩,⟨some 15,.load 9 (.tmp 14),none⟩,⟨some 16,.move (.tmp 0),none⟩,⟨some 17,.binOp .eql 9 (.tmp 15) (.tmp 16) 9,none⟩]
def fS111r5:SC:=.reg [⟨some 2,.assign (.const (.bool true)),none⟩]
def fS111b0:SC:=.block 1 (.seq fS111r4 (.cond (.tmp 17) (.seq fS111r5 .ret) .skip))
def fS111r6:SC:=.reg [⟨some 10,.move (.tmp 4),none⟩,⟨some 11,.binOp .add 3 (.tmp 10) (.const (.int .i64 1)) 3,none⟩,⟨some 4,.assign (.tmp 11),none⟩]
def fS111l0:SC:=(.seq (.seq fS111r3 (.cond (.tmp 9) .skip (.exit 0))) (.seq fS111b0 fS111r6))
def fS111b1:SC:=.block 0 (.loop fS111l0)
def fS111r7:SC:=.reg [⟨some 2,.assign (.const (.bool false)),none⟩]
def fS111:SC:=(.seq fS111r0 (.seq fS111r1 (.seq (.seq fS111r2 fS111b1) (.seq fS111r7 .ret))))
theorem fB111:Try.f111.body.bind stripC=some fS111:=by kernel_rfl
def fS43r0:SC:=.reg [⟨some 4,.alloc 25,none⟩,⟨some 5,.alloc 25,none⟩,⟨some 6,.alloc 25,none⟩,⟨some 7,.assign (.const (.pointer none)),none⟩]
def fS43r1:SC:=.reg [⟨some 13,.move (.tmp 1),none⟩,⟨some 14,.build 34 #[(0,(.tmp 13))],none⟩,⟨some 15,.box 34 (.tmp 14),none⟩,⟨some 8,.assign (.tmp 15),none⟩]
def fS43r2:SC:=.reg [⟨some 16,.move (.tmp 0),none⟩,⟨some 17,.call ⟨.value (.func 15),#[(.tmp 16)],#[3]⟩,none⟩,⟨some 9,.assign (.tmp 17),none⟩]
def fS43r3:SC:=.reg [⟨some 18,.move (.tmp 8),none⟩,⟨some 19,.move (.tmp 9),none⟩,⟨some 20,.call ⟨.value (.func 32),#[(.const (.int .i64 3))],#[3]⟩,none⟩,⟨some 21,.call ⟨.value (.func 59),#[(.const (.int .i64 0)),(.const (.int .i64 0))],#[3,3]⟩,none⟩,⟨some 22,.buildSlice 23 1 #[(0,(.tmp 21))],none⟩,⟨some 23,.call ⟨.builtin .append,#[(.tmp 20),(.tmp 22)],#[23,23]⟩,none⟩,⟨some 24,.call ⟨.value (.func 31),#[(.tmp 18),(.tmp 19),(.tmp 23),(.const (.int .i64 2))],#[32,40,23,3]⟩,none⟩,⟨some 10,.alloc 25,none⟩,⟨none,.store 25 (.tmp 10) (.tmp 24),none⟩]
def fS43r4:SC:=.draw [⟨some 25,.load 25 (.tmp 10),none,[10]⟩,⟨some 26,.move (.tmp 8),none,[8]⟩,⟨some 27,.move (.tmp 9),none,[9]⟩,⟨some 28,.call ⟨.value (.func 51),#[(.tmp 26),(.tmp 27),(.const (.int .i64 3))],#[32,40,3]⟩,none,[26,27]⟩,⟨some 29,.call ⟨.value (.func 50),#[(.tmp 25),(.tmp 28)],#[25,69]⟩,none,[25,28]⟩,⟨some 11,.alloc 25,none,[]⟩,⟨none,.store 25 (.tmp 11) (.tmp 29),none,[11,29]⟩] [0,0,0,6,15,0,63]
def fS43r5:SC:=.draw [⟨some 30,.load 25 (.tmp 10),none,[10]⟩,⟨some 31,.move (.tmp 8),none,[8]⟩,⟨some 32,.move (.tmp 9),none,[9]⟩,⟨some 33,.call ⟨.value (.func 51),#[(.tmp 31),(.tmp 32),(.const (.int .i64 3))],#[32,40,3]⟩,none,[31,32]⟩,⟨some 34,.call ⟨.value (.func 50),#[(.tmp 30),(.tmp 33)],#[25,69]⟩,none,[30,33]⟩,⟨some 12,.alloc 25,none,[]⟩,⟨none,.store 25 (.tmp 12) (.tmp 34),none,[12,34]⟩] [0,0,0,6,15,0,63]
def fS43r6:SC:=.reg [⟨some 35,.move (.tmp 8),none⟩,⟨some 36,.call ⟨.value (.func 58),#[(.tmp 35),(.const (.int .i64 3))],#[32,3]⟩,none⟩,⟨some 37,.binOp .eql 3 (.tmp 36) (.const (.int .i64 0)) 3,none⟩]
def fS43r7:SC:=.reg [⟨some 38,.move (.tmp 8),none⟩,⟨some 39,.move (.tmp 9),none⟩,⟨some 40,.call ⟨.value (.func 32),#[(.const (.int .i64 3))],#[3]⟩,none⟩,⟨some 41,.call ⟨.value (.func 59),#[(.const (.int .i64 0)),(.const (.int .i64 1))],#[3,3]⟩,none⟩,⟨some 42,.buildSlice 23 1 #[(0,(.tmp 41))],none⟩,⟨some 43,.call ⟨.builtin .append,#[(.tmp 40),(.tmp 42)],#[23,23]⟩,none⟩,⟨some 44,.call ⟨.value (.func 31),#[(.tmp 38),(.tmp 39),(.tmp 43),(.const (.int .i64 2))],#[32,40,23,3]⟩,none⟩,⟨none,.store 25 (.tmp 12) (.tmp 44),none⟩]
def fS43r8:SC:=.draw [⟨some 45,.load 25 (.tmp 11),none,[11]⟩,⟨some 46,.load 25 (.tmp 12),none,[12]⟩,⟨some 47,.load 25 (.tmp 10),none,[10]⟩,⟨some 48,.move (.tmp 8),none,[8]⟩,⟨none,.store 25 (.tmp 4) (.tmp 45),none,[4,45]⟩,⟨none,.store 25 (.tmp 5) (.tmp 46),none,[5,46]⟩,⟨none,.store 25 (.tmp 6) (.tmp 47),none,[6,47]⟩,⟨some 7,.assign (.tmp 48),none,[48]⟩] [0,0,0,0,1,19,55,127]
def fS43:SC:=(.seq fS43r0 (.seq fS43r1 (.seq fS43r2 (.seq fS43r3 (.seq fS43r4 (.seq fS43r5 (.seq (.seq fS43r6 (.cond (.tmp 37) fS43r7 .skip)) (.seq fS43r8 .ret))))))))
theorem fB43:Try.f43.body.bind stripC=some fS43:=by kernel_rfl
def fS51r0:SC:=.reg [⟨some 6,.assign (.const (.slice none 0 0)),none⟩]
def fS51r1:SC:=.reg [⟨some 7,.assign (.const (.slice none 0 0)),none⟩]
def fS51r2:SC:=.reg [⟨some 8,.assign (.const (.int .i64 0)),none⟩]
def fS51r3:SC:=.reg [⟨some 9,.move (.tmp 8),none⟩,⟨some 10,.move (.tmp 2),none⟩,⟨some 11,.binOp .lss 3 (.tmp 9) (.tmp 10) 3,none⟩]
def fS51r4:SC:=.reg [⟨some 14,.move (.tmp 0),none⟩,⟨some 15,.call ⟨.value (.func 58),#[(.tmp 14),(.const (.int .i64 3))],#[32,3]⟩,none⟩,⟨some 16,.binOp .gtr 3 (.tmp 15) (.const (.int .i64 0)) 3,none⟩]
def fS51r5:SC:=.reg [⟨some 17,.move (.tmp 7),none⟩,⟨some 18,.move (.tmp 8),none⟩,⟨some 19,.move (.tmp 0),none⟩,⟨some 20,.move (.tmp 1),none⟩,⟨some 21,.move (.tmp 2),none⟩,⟨some 22,.binOp .add 3 (.tmp 21) (.const (.int .i64 1)) 3,none⟩,⟨some 23,.call ⟨.value (.func 32),#[(.tmp 22)],#[3]⟩,none⟩,⟨some 24,.call ⟨.value (.func 59),#[(.const (.int .i64 (-1))),(.const (.int .i64 0))],#[3,3]⟩,none⟩,⟨some 25,.buildSlice 23 1 #[(0,(.tmp 24))],none⟩,⟨some 26,.call ⟨.builtin .append,#[(.tmp 23),(.tmp 25)],#[23,23]⟩,none⟩,⟨some 27,.call ⟨.value (.func 31),#[(.tmp 19),(.tmp 20),(.tmp 26),(.const (.int .i64 1))],#[32,40,23,3]⟩,none⟩,⟨some 28,.build 75 #[(0,(.tmp 18)),(1,(.tmp 27))],none⟩,⟨some 29,.buildSlice 69 1 #[(0,(.tmp 28))],none⟩,⟨some 30,.call ⟨.builtin .append,#[(.tmp 17),(.tmp 29)],#[69,69]⟩,none⟩,⟨some 7,.assign (.tmp 30),none⟩]
def fS51b0:SC:=.block 1 (.seq fS51r4 (.cond (.tmp 16) fS51r5 .skip))
def fS51r6:SC:=.reg [⟨some 12,.move (.tmp 8),none⟩,⟨some 13,.binOp .add 3 (.tmp 12) (.const (.int .i64 1)) 3,none⟩,⟨some 8,.assign (.tmp 13),none⟩]
def fS51l0:SC:=(.seq (.seq fS51r3 (.cond (.tmp 11) .skip (.exit 0))) (.seq fS51b0 fS51r6))
def fS51b1:SC:=.block 0 (.loop fS51l0)
def fS51r7:SC:=.reg [⟨some 31,.move (.tmp 7),none⟩,⟨some 6,.assign (.tmp 31),none⟩]
def fS51:SC:=(.seq fS51r0 (.seq fS51r1 (.seq (.seq fS51r2 fS51b1) (.seq fS51r7 .ret))))
theorem fB51:Try.f51.body.bind stripC=some fS51:=by kernel_rfl
def fS7r0:SC:=.reg [⟨some 4,.assign (.const (.bool false)),none⟩]
def fS7r1:SC:=.reg [⟨some 17,.call ⟨.value (.func 42),#[],#[]⟩,none⟩,⟨some 18,.unOp .not 4 (.tmp 17),none⟩]
def fS7r2:SC:=.reg [⟨some 4,.assign (.const (.bool false)),none⟩]
def fS7r3:SC:=.reg [⟨some 19,.move (.tmp 1),none⟩,⟨some 20,.call ⟨.value (.func 11),#[(.tmp 19)],#[22]⟩,none⟩,⟨some 21,.unOp .not 4 (.tmp 20),none⟩]
def fS7r4:SC:=.reg [⟨some 4,.assign (.const (.bool true)),none⟩]
def fS7r5:SC:=.reg [⟨some 23,.move (.tmp 0),none⟩,⟨some 24,.move (.tmp 1),none⟩,⟨some 25,.call ⟨.value (.func 43),#[(.tmp 23),(.tmp 24)],#[3,22]⟩,none⟩,⟨some 22,.move (.tmp 25),none⟩,⟨some 26,.extract (.tmp 22) 0,none⟩,⟨some 27,.extract (.tmp 22) 1,none⟩,⟨some 28,.extract (.tmp 22) 2,none⟩,⟨some 29,.extract (.tmp 22) 3,none⟩,⟨some 5,.alloc 25,none⟩,⟨some 6,.alloc 25,none⟩,⟨some 7,.alloc 25,none⟩,⟨none,.store 25 (.tmp 5) (.tmp 26),none⟩,⟨none,.store 25 (.tmp 6) (.tmp 27),none⟩,⟨none,.store 25 (.tmp 7) (.tmp 28),none⟩,⟨some 8,.assign (.tmp 29),none⟩]
def fS7r6:SC:=.reg [⟨some 31,.load 25 (.tmp 5),none⟩,⟨some 32,.load 25 (.tmp 6),none⟩,⟨some 33,.call ⟨.value (.func 44),#[(.tmp 31),(.tmp 32)],#[25,25]⟩,none⟩,⟨some 30,.move (.tmp 33),none⟩,⟨some 34,.extract (.tmp 30) 0,none⟩,⟨some 35,.extract (.tmp 30) 1,none⟩,⟨some 9,.assign (.tmp 34),none⟩,⟨some 10,.assign (.tmp 35),none⟩]
def fS7r7:SC:=.reg [⟨some 37,.load 25 (.tmp 5),none⟩,⟨some 38,.load 25 (.tmp 6),none⟩,⟨some 39,.call ⟨.value (.func 45),#[(.tmp 37),(.tmp 38)],#[25,25]⟩,none⟩,⟨some 36,.move (.tmp 39),none⟩,⟨some 40,.extract (.tmp 36) 0,none⟩,⟨some 41,.extract (.tmp 36) 1,none⟩,⟨some 11,.assign (.tmp 40),none⟩,⟨some 12,.assign (.tmp 41),none⟩]
def fS7r8:SC:=.reg [⟨some 42,.move (.tmp 10),none⟩,⟨some 43,.move (.tmp 12),none⟩,⟨some 44,.binOp .neq 70 (.tmp 42) (.tmp 43) 70,none⟩]
def fS7r9:SC:=.reg [⟨some 4,.assign (.const (.bool false)),none⟩]
def fS7r10:SC:=.reg [⟨some 45,.move (.tmp 10),none⟩,⟨some 46,.binOp .neq 70 (.tmp 45) (.const (.int .i64 0)) 70,none⟩]
def fS7r11:SC:=.reg [⟨some 47,.move (.tmp 9),none⟩,⟨some 48,.call ⟨.builtin .len,#[(.tmp 47)],#[69]⟩,none⟩,⟨some 49,.binOp .eql 3 (.tmp 48) (.const (.int .i64 0)) 3,none⟩,⟨some 4,.assign (.tmp 49),none⟩]
def fS7r12:SC:=.reg [⟨some 50,.load 25 (.tmp 5),none⟩,⟨some 51,.load 25 (.tmp 6),none⟩,⟨some 52,.buildSlice 23 2 #[(0,(.tmp 50)),(1,(.tmp 51))],none⟩,⟨some 53,.call ⟨.value (.func 46),#[(.tmp 52)],#[23]⟩,none⟩,⟨some 13,.assign (.tmp 53),none⟩]
def fS7r13:SC:=.reg [⟨some 14,.assign (.const (.int .i64 0)),none⟩]
def fS7r14:SC:=.reg [⟨some 54,.move (.tmp 14),none⟩,⟨some 55,.move (.tmp 9),none⟩,⟨some 56,.call ⟨.builtin .len,#[(.tmp 55)],#[69]⟩,none⟩,⟨some 57,.binOp .lss 3 (.tmp 54) (.tmp 56) 3,none⟩]
def fS7r15:SC:=.reg [⟨some 60,.move (.tmp 9),none⟩,⟨some 61,.move (.tmp 14),none⟩,⟨some 62,.indexAddr 69 (.tmp 60) (.tmp 61),none⟩,⟨some 63,.fieldAddr 75 (.tmp 62) 1,none⟩,⟨some 64,.load 25 (.tmp 63),none⟩,⟨some 65,.buildSlice 23 1 #[(0,(.tmp 64))],none⟩,⟨some 66,.call ⟨.value (.func 46),#[(.tmp 65)],#[23]⟩,none⟩,⟨some 15,.assign (.tmp 66),none⟩]
def fS7r16:SC:=.reg [⟨some 67,.move (.tmp 13),none⟩,⟨some 68,.move (.tmp 9),none⟩,⟨some 69,.move (.tmp 14),none⟩,⟨some 70,.indexAddr 69 (.tmp 68) (.tmp 69),none⟩,⟨some 71,.fieldAddr 75 (.tmp 70) 0,none⟩,⟨some 72,.load 3 (.tmp 71),none⟩,⟨some 73,.call ⟨.value (.func 47),#[(.tmp 67),(.tmp 72)],#[22,3]⟩,none⟩,⟨some 74,.unOp .not 4 (.tmp 73),none⟩]
def fS7r17:SC:=.reg [⟨some 4,.assign (.const (.bool false)),none⟩]
def fS7r18:SC:=.reg [⟨some 16,.assign (.const (.int .i64 0)),none⟩]
def fS7r19:SC:=.reg [⟨some 75,.move (.tmp 16),none⟩,⟨some 76,.move (.tmp 15),none⟩,⟨some 77,.call ⟨.builtin .len,#[(.tmp 76)],#[22]⟩,none⟩,⟨some 78,.binOp .lss 3 (.tmp 75) (.tmp 77) 3,none⟩]
def fS7r20:SC:=.reg [⟨some 81,.move (.tmp 13),none⟩,⟨some 82,.move (.tmp 15),none⟩,⟨some 83,.move (.tmp 16),none⟩,⟨some 84,.indexAddr 22 (.tmp 82) (.tmp 83),none⟩,⟨some 85,.load 3 (.tmp 84),none⟩,⟨some 86,.call ⟨.value (.func 47),#[(.tmp 81),(.tmp 85)],#[22,3]⟩,none⟩,⟨some 87,.unOp .not 4 (.tmp 86),none⟩]
def fS7r21:SC:=.reg [⟨some 4,.assign (.const (.bool false)),none⟩]
def fS7b0:SC:=.block 3 (.seq fS7r20 (.cond (.tmp 87) (.seq fS7r21 .ret) .skip))
def fS7r22:SC:=.reg [⟨some 79,.move (.tmp 16),none⟩,⟨some 80,.binOp .add 3 (.tmp 79) (.const (.int .i64 1)) 3,none⟩,⟨some 16,.assign (.tmp 80),none⟩]
def fS7l0:SC:=(.seq (.seq fS7r19 (.cond (.tmp 78) .skip (.exit 2))) (.seq fS7b0 fS7r22))
def fS7b1:SC:=.block 2 (.loop fS7l0)
def fS7b2:SC:=.block 1 (.seq fS7r15 (.seq (.seq fS7r16 (.cond (.tmp 74) (.seq fS7r17 .ret) .skip)) (.seq fS7r18 fS7b1)))
def fS7r23:SC:=.reg [⟨some 58,.move (.tmp 14),none⟩,⟨some 59,.binOp .add 3 (.tmp 58) (.const (.int .i64 1)) 3,none⟩,⟨some 14,.assign (.tmp 59),none⟩]
def fS7l1:SC:=(.seq (.seq fS7r14 (.cond (.tmp 57) .skip (.exit 0))) (.seq fS7b2 fS7r23))
def fS7b3:SC:=.block 0 (.loop fS7l1)
def fS7r24:SC:=.draw [⟨some 88,.move (.tmp 9),none,[9]⟩,⟨some 89,.call ⟨.value (.func 48),#[(.tmp 88)],#[69]⟩,none,[88]⟩,⟨some 90,.move (.tmp 89),none,[89]⟩,⟨some 91,.move (.tmp 9),some (90,true),[9,90]⟩,⟨some 92,.call ⟨.value (.func 49),#[(.tmp 91)],#[69]⟩,some (90,true),[91,90]⟩,⟨some 93,.pick (.tmp 90) (.tmp 92) (.const (.bool false)),none,[90,92]⟩,⟨some 94,.move (.tmp 93),none,[93]⟩,⟨some 95,.load 25 (.tmp 5),some (94,true),[5,94]⟩,⟨some 96,.move (.tmp 9),some (94,true),[9,94]⟩,⟨some 97,.call ⟨.value (.func 50),#[(.tmp 95),(.tmp 96)],#[25,69]⟩,some (94,true),[95,96,94]⟩,⟨some 98,.load 25 (.tmp 6),some (94,true),[6,94]⟩,⟨some 99,.move (.tmp 9),some (94,true),[9,94]⟩,⟨some 100,.call ⟨.value (.func 50),#[(.tmp 98),(.tmp 99)],#[25,69]⟩,some (94,true),[98,99,94]⟩,⟨some 101,.call ⟨.value (.func 19),#[(.tmp 97),(.tmp 100)],#[25,25]⟩,some (94,true),[97,100,94]⟩,⟨some 102,.pick (.tmp 94) (.tmp 101) (.const (.bool false)),none,[94,101]⟩,⟨some 4,.assign (.tmp 102),none,[102]⟩] [0,1,3,7,15,31,63,127,127,511,127,127,4095,8191,16383,32767]
def fS7:SC:=(.seq fS7r0 (.seq (.seq fS7r1 (.cond (.tmp 18) (.seq fS7r2 .ret) .skip)) (.seq (.seq fS7r3 (.cond (.tmp 21) (.seq fS7r4 .ret) .skip)) (.seq fS7r5 (.seq fS7r6 (.seq fS7r7 (.seq (.seq fS7r8 (.cond (.tmp 44) (.seq fS7r9 .ret) .skip)) (.seq (.seq fS7r10 (.cond (.tmp 46) (.seq fS7r11 .ret) .skip)) (.seq fS7r12 (.seq (.seq fS7r13 fS7b3) (.seq fS7r24 .ret)))))))))))
theorem fB7:Try.f7.body.bind stripC=some fS7:=by kernel_rfl
def fS44r0:SC:=.reg [⟨some 2,.box 25 (.tmp 0),none⟩,⟨some 3,.box 25 (.tmp 1),none⟩,⟨some 4,.assign (.const (.slice none 0 0)),none⟩,⟨some 5,.assign (.const (.int .i64 0)),none⟩]
def fS44r1:SC:=.reg [⟨some 8,.call ⟨.value (.func 80),#[],#[]⟩,none⟩,⟨some 6,.assign (.tmp 8),none⟩]
def fS44r2:SC:=.reg [⟨some 9,.move (.tmp 6),none⟩,⟨some 10,.load 25 (.tmp 2),none⟩,⟨some 11,.load 25 (.tmp 3),none⟩,⟨some 12,.call ⟨.value (.func 81),#[(.tmp 9),(.tmp 10),(.tmp 11)],#[120,25,25]⟩,none⟩,⟨some 7,.assign (.tmp 12),none⟩]
def fS44r3:SC:=.reg [⟨some 13,.move (.tmp 7),none⟩,⟨some 14,.binOp .neq 70 (.tmp 13) (.const (.int .i64 0)) 70,none⟩]
def fS44r4:SC:=.reg [⟨some 15,.move (.tmp 7),none⟩,⟨some 4,.assign (.const (.slice none 0 0)),none⟩,⟨some 5,.assign (.tmp 15),none⟩]
def fS44r5:SC:=.reg [⟨some 16,.move (.tmp 6),none⟩,⟨some 17,.load 25 (.tmp 2),none⟩,⟨some 18,.load 25 (.tmp 3),none⟩,⟨some 19,.buildSlice 23 2 #[(0,(.tmp 17)),(1,(.tmp 18))],none⟩,⟨some 20,.call ⟨.value (.func 83),#[(.tmp 19)],#[23]⟩,none⟩,⟨some 21,.call ⟨.value (.func 82),#[(.tmp 16),(.tmp 20)],#[120,22]⟩,none⟩,⟨some 4,.assign (.tmp 21),none⟩,⟨some 5,.assign (.const (.int .i64 0)),none⟩]
def fS44:SC:=(.seq fS44r0 (.seq fS44r1 (.seq (.seq fS44r2 (.seq fS44r3 (.cond (.tmp 14) (.seq fS44r4 .ret) .skip))) (.seq fS44r5 .ret))))
theorem fB44:Try.f44.body.bind stripC=some fS44:=by kernel_rfl
def fS45r0:SC:=.reg [⟨some 2,.box 25 (.tmp 0),none⟩,⟨some 3,.box 25 (.tmp 1),none⟩,⟨some 4,.assign (.const (.slice none 0 0)),none⟩,⟨some 5,.assign (.const (.int .i64 0)),none⟩]
def fS45r1:SC:=.reg [⟨some 6,.load 25 (.tmp 2),none⟩,⟨some 7,.load 25 (.tmp 3),none⟩,⟨some 8,.call ⟨.value (.func 84),#[(.tmp 6),(.tmp 7),(.const (.slice none 0 0))],#[25,25,69]⟩,none⟩,⟨some 9,.extract (.tmp 8) 0,none⟩,⟨some 10,.extract (.tmp 8) 1,none⟩,⟨some 4,.assign (.tmp 9),none⟩,⟨some 5,.assign (.tmp 10),none⟩]
def fS45:SC:=(.seq fS45r0 (.seq fS45r1 .ret))
theorem fB45:Try.f45.body.bind stripC=some fS45:=by kernel_rfl
def fS84r0:SC:=.reg [⟨some 3,.box 25 (.tmp 0),none⟩,⟨some 4,.box 25 (.tmp 1),none⟩,⟨some 6,.assign (.const (.slice none 0 0)),none⟩,⟨some 7,.assign (.const (.int .i64 0)),none⟩]
def fS84r1:SC:=.draw [⟨some 10,.load 25 (.tmp 3),none,[3]⟩,⟨some 11,.move (.tmp 2),none,[2]⟩,⟨some 12,.call ⟨.value (.func 50),#[(.tmp 10),(.tmp 11)],#[25,69]⟩,none,[10,11]⟩,⟨some 13,.load 25 (.tmp 4),none,[4]⟩,⟨some 14,.move (.tmp 2),none,[2]⟩,⟨some 15,.call ⟨.value (.func 50),#[(.tmp 13),(.tmp 14)],#[25,69]⟩,none,[13,14]⟩,⟨none,.store 25 (.tmp 3) (.tmp 12),none,[3,12]⟩,⟨none,.store 25 (.tmp 4) (.tmp 15),none,[4,15]⟩] [0,0,3,0,0,31,63,127]
def fS84r2:SC:=.reg [⟨some 17,.load 25 (.tmp 3),none⟩,⟨some 18,.load 25 (.tmp 4),none⟩,⟨some 19,.call ⟨.value (.func 19),#[(.tmp 17),(.tmp 18)],#[25,25]⟩,none⟩,⟨some 16,.assign (.tmp 19),none⟩]
def fS84r3:SC:=.reg [⟨some 20,.move (.tmp 2),none⟩,⟨some 6,.assign (.tmp 20),none⟩,⟨some 7,.assign (.const (.int .i64 0)),none⟩]
def fS84r4:SC:=.reg [⟨some 22,.fieldAddr 25 (.tmp 3) 0,none⟩,⟨some 23,.load 3 (.tmp 22),none⟩,⟨some 24,.binOp .eql 3 (.tmp 23) (.const (.int .i64 1)) 3,none⟩,⟨some 21,.assign (.tmp 24),none⟩]
def fS84r5:SC:=.reg [⟨some 25,.fieldAddr 25 (.tmp 3) 2,none⟩,⟨some 26,.load 3 (.tmp 25),none⟩,⟨some 27,.load 25 (.tmp 4),none⟩,⟨some 28,.move (.tmp 2),none⟩,⟨some 29,.call ⟨.value (.func 102),#[(.tmp 26),(.tmp 27),(.tmp 28)],#[3,25,69]⟩,none⟩,⟨some 30,.extract (.tmp 29) 0,none⟩,⟨some 31,.extract (.tmp 29) 1,none⟩,⟨some 6,.assign (.tmp 30),none⟩,⟨some 7,.assign (.tmp 31),none⟩]
def fS84r6:SC:=.reg [⟨some 33,.fieldAddr 25 (.tmp 4) 0,none⟩,⟨some 34,.load 3 (.tmp 33),none⟩,⟨some 35,.binOp .eql 3 (.tmp 34) (.const (.int .i64 1)) 3,none⟩,⟨some 32,.assign (.tmp 35),none⟩]
def fS84r7:SC:=.reg [⟨some 36,.fieldAddr 25 (.tmp 4) 2,none⟩,⟨some 37,.load 3 (.tmp 36),none⟩,⟨some 38,.load 25 (.tmp 3),none⟩,⟨some 39,.move (.tmp 2),none⟩,⟨some 40,.call ⟨.value (.func 102),#[(.tmp 37),(.tmp 38),(.tmp 39)],#[3,25,69]⟩,none⟩,⟨some 41,.extract (.tmp 40) 0,none⟩,⟨some 42,.extract (.tmp 40) 1,none⟩,⟨some 6,.assign (.tmp 41),none⟩,⟨some 7,.assign (.tmp 42),none⟩]
def fS84r8:SC:=.reg [⟨some 44,.fieldAddr 25 (.tmp 3) 0,none⟩,⟨some 45,.load 3 (.tmp 44),none⟩,⟨some 46,.fieldAddr 25 (.tmp 4) 0,none⟩,⟨some 47,.load 3 (.tmp 46),none⟩,⟨some 48,.binOp .neq 3 (.tmp 45) (.tmp 47) 3,none⟩,⟨some 49,.move (.tmp 48),none⟩,⟨some 50,.fieldAddr 25 (.tmp 3) 1,some (49,false)⟩,⟨some 51,.load 9 (.tmp 50),some (49,false)⟩,⟨some 52,.fieldAddr 25 (.tmp 4) 1,some (49,false)⟩,⟨some 53,.load 9 (.tmp 52),some (49,false)⟩,⟨some 54,.binOp .neq 9 (.tmp 51) (.tmp 53) 9,some (49,false)⟩,⟨some 55,.pick (.tmp 49) (.const (.bool true)) (.tmp 54),none⟩,⟨some 56,.move (.tmp 55),none⟩,⟨some 57,.fieldAddr 25 (.tmp 3) 2,some (56,false)⟩,⟨some 58,.load 3 (.tmp 57),some (56,false)⟩,⟨some 59,.fieldAddr 25 (.tmp 4) 2,some (56,false)⟩,⟨some 60,.load 3 (.tmp 59),some (56,false)⟩,⟨some 61,.binOp .neq 3 (.tmp 58) (.tmp 60) 3,some (56,false)⟩,⟨some 62,.pick (.tmp 56) (.const (.bool true)) (.tmp 61),none⟩,⟨some 63,.move (.tmp 62),none⟩,⟨some 64,.fieldAddr 25 (.tmp 3) 3,some (63,false)⟩,⟨some 65,.load 3 (.tmp 64),some (63,false)⟩,⟨some 66,.fieldAddr 25 (.tmp 4) 3,some (63,false)⟩,⟨some 67,.load 3 (.tmp 66),some (63,false)⟩,⟨some 68,.binOp .neq 3 (.tmp 65) (.tmp 67) 3,some (63,false)⟩,⟨some 69,.pick (.tmp 63) (.const (.bool true)) (.tmp 68),none⟩,⟨some 70,.move (.tmp 69),none⟩,⟨some 71,.fieldAddr 25 (.tmp 3) 4,some (70,false)⟩,⟨some 72,.load 23 (.tmp 71),some (70,false)⟩,⟨some 73,.call ⟨.builtin .len,#[(.tmp 72)],#[23]⟩,some (70,false)⟩,⟨some 74,.fieldAddr 25 (.tmp 4) 4,some (70,false)⟩,⟨some 75,.load 23 (.tmp 74),some (70,false)⟩,⟨some 76,.call ⟨.builtin .len,#[(.tmp 75)],#[23]⟩,some (70,false)⟩,⟨some 77,.binOp .neq 3 (.tmp 73) (.tmp 76) 3,some (70,false)⟩,⟨some 78,.pick (.tmp 70) (.const (.bool true)) (.tmp 77),none⟩,⟨some 43,.assign (.tmp 78),none⟩]
def fS84r9:SC:=.reg [⟨some 6,.assign (.const (.slice none 0 0)),none⟩,⟨some 7,.assign (.const (.int .i64 11)),none⟩]
def fS84b0:SC:=.block 0 (.seq fS84r2 (.cond (.tmp 16) (.seq fS84r3 .ret) (.seq fS84r4 (.cond (.tmp 21) (.seq fS84r5 .ret) (.seq fS84r6 (.cond (.tmp 32) (.seq fS84r7 .ret) (.seq fS84r8 (.cond (.tmp 43) (.seq fS84r9 .ret) .skip))))))))
def fS84r10:SC:=.reg [⟨some 8,.assign (.const (.int .i64 0)),none⟩]
def fS84r11:SC:=.reg [⟨some 79,.move (.tmp 8),none⟩,⟨some 80,.fieldAddr 25 (.tmp 3) 4,none⟩,⟨some 81,.load 23 (.tmp 80),none⟩,⟨some 82,.call ⟨.builtin .len,#[(.tmp 81)],#[23]⟩,none⟩,⟨some 83,.binOp .lss 3 (.tmp 79) (.tmp 82) 3,none⟩]
def fS84r12:SC:=.reg [⟨some 9,.assign (.const (.int .i64 0)),none⟩]
def fS84r13:SC:=.draw [⟨some 87,.fieldAddr 25 (.tmp 3) 4,none,[3]⟩,⟨some 88,.load 23 (.tmp 87),none,[87]⟩,⟨some 89,.move (.tmp 8),none,[8]⟩,⟨some 90,.indexAddr 23 (.tmp 88) (.tmp 89),none,[88,89]⟩,⟨some 91,.load 25 (.tmp 90),none,[90]⟩,⟨some 92,.fieldAddr 25 (.tmp 4) 4,none,[4]⟩,⟨some 93,.load 23 (.tmp 92),none,[92]⟩,⟨some 94,.move (.tmp 8),none,[8]⟩,⟨some 95,.indexAddr 23 (.tmp 93) (.tmp 94),none,[93,94]⟩,⟨some 96,.load 25 (.tmp 95),none,[95]⟩,⟨some 97,.move (.tmp 2),none,[2]⟩,⟨some 98,.call ⟨.value (.func 84),#[(.tmp 91),(.tmp 96),(.tmp 97)],#[25,25,69]⟩,none,[91,96,97]⟩,⟨some 86,.move (.tmp 98),none,[98]⟩,⟨some 99,.extract (.tmp 86) 0,none,[86]⟩,⟨some 100,.extract (.tmp 86) 1,none,[86]⟩,⟨some 2,.assign (.tmp 99),none,[99]⟩,⟨some 9,.assign (.tmp 100),none,[100]⟩] [0,1,0,7,15,0,32,0,224,480,0,2047,4095,8191,8191,16383,65535]
def fS84r14:SC:=.reg [⟨some 101,.move (.tmp 9),none⟩,⟨some 102,.binOp .neq 70 (.tmp 101) (.const (.int .i64 0)) 70,none⟩]
def fS84r15:SC:=.reg [⟨some 103,.move (.tmp 9),none⟩,⟨some 6,.assign (.const (.slice none 0 0)),none⟩,⟨some 7,.assign (.tmp 103),none⟩]
def fS84b1:SC:=.block 2 (.seq fS84r12 (.seq fS84r13 (.seq fS84r14 (.cond (.tmp 102) (.seq fS84r15 .ret) .skip))))
def fS84r16:SC:=.reg [⟨some 84,.move (.tmp 8),none⟩,⟨some 85,.binOp .add 3 (.tmp 84) (.const (.int .i64 1)) 3,none⟩,⟨some 8,.assign (.tmp 85),none⟩]
def fS84l0:SC:=(.seq (.seq fS84r11 (.cond (.tmp 83) .skip (.exit 1))) (.seq fS84b1 fS84r16))
def fS84b2:SC:=.block 1 (.loop fS84l0)
def fS84r17:SC:=.reg [⟨some 104,.move (.tmp 2),none⟩,⟨some 6,.assign (.tmp 104),none⟩,⟨some 7,.assign (.const (.int .i64 0)),none⟩]
def fS84:SC:=(.seq fS84r0 (.seq fS84r1 (.seq fS84b0 (.seq (.seq fS84r10 fS84b2) (.seq fS84r17 .ret)))))
theorem fB84:Try.f84.body.bind stripC=some fS84:=by kernel_rfl
def fS102r0:SC:=.reg [⟨some 4,.box 25 (.tmp 1),none⟩,⟨some 6,.assign (.const (.slice none 0 0)),none⟩,⟨some 7,.assign (.const (.int .i64 0)),none⟩]
def fS102r1:SC:=.reg [⟨some 9,.move (.tmp 0),none⟩,⟨some 10,.load 25 (.tmp 4),none⟩,⟨some 11,.call ⟨.value (.func 124),#[(.tmp 9),(.tmp 10)],#[3,25]⟩,none⟩]
def fS102r2:SC:=.reg [⟨some 6,.assign (.const (.slice none 0 0)),none⟩,⟨some 7,.assign (.const (.int .i64 12)),none⟩]
def fS102r3:SC:=.reg [⟨some 12,.move (.tmp 0),none⟩,⟨some 13,.load 25 (.tmp 4),none⟩,⟨some 14,.build 75 #[(0,(.tmp 12)),(1,(.tmp 13))],none⟩,⟨some 15,.buildSlice 69 1 #[(0,(.tmp 14))],none⟩,⟨some 8,.assign (.tmp 15),none⟩]
def fS102r4:SC:=.reg [⟨some 16,.move (.tmp 2),none⟩,⟨some 17,.move (.tmp 8),none⟩,⟨some 18,.call ⟨.value (.func 125),#[(.tmp 16),(.tmp 17)],#[69,69]⟩,none⟩,⟨some 6,.assign (.tmp 18),none⟩,⟨some 7,.assign (.const (.int .i64 0)),none⟩]
def fS102:SC:=(.seq fS102r0 (.seq (.seq fS102r1 (.cond (.tmp 11) (.seq fS102r2 .ret) .skip)) (.seq fS102r3 (.seq fS102r4 .ret))))
theorem fB102:Try.f102.body.bind stripC=some fS102:=by kernel_rfl
def fS48r0:SC:=.reg [⟨some 2,.assign (.const (.bool false)),none⟩]
def fS48r1:SC:=.reg [⟨some 3,.assign (.const (.int .i64 0)),none⟩]
def fS48r2:SC:=.reg [⟨some 4,.move (.tmp 3),none⟩,⟨some 5,.move (.tmp 0),none⟩,⟨some 6,.call ⟨.builtin .len,#[(.tmp 5)],#[69]⟩,none⟩,⟨some 7,.binOp .lss 3 (.tmp 4) (.tmp 6) 3,none⟩]
def fS48r3:SC:=.draw [⟨some 10,.move (.tmp 0),none,[0]⟩,⟨some 11,.move (.tmp 3),none,[3]⟩,⟨some 12,.slice 69 (.tmp 10) none (some (.tmp 11)) none,none,[10,11]⟩,⟨some 13,.move (.tmp 0),none,[0]⟩,⟨some 14,.move (.tmp 3),none,[3]⟩,⟨some 15,.indexAddr 69 (.tmp 13) (.tmp 14),none,[13,14]⟩,⟨some 16,.fieldAddr 75 (.tmp 15) 0,none,[15]⟩,⟨some 17,.load 3 (.tmp 16),none,[16]⟩,⟨some 18,.call ⟨.value (.func 86),#[(.tmp 12),(.tmp 17)],#[69,3]⟩,none,[12,17]⟩,⟨some 19,.move (.tmp 18),none,[18]⟩,⟨some 20,.move (.tmp 0),some (19,false),[0,19]⟩,⟨some 21,.move (.tmp 3),some (19,false),[3,19]⟩,⟨some 22,.indexAddr 69 (.tmp 20) (.tmp 21),some (19,false),[20,21,19]⟩,⟨some 23,.fieldAddr 75 (.tmp 22) 0,some (19,false),[22,19]⟩,⟨some 24,.load 3 (.tmp 23),some (19,false),[23,19]⟩,⟨some 25,.call ⟨.value (.func 55),#[(.tmp 24)],#[3]⟩,some (19,false),[24,19]⟩,⟨some 26,.call ⟨.value (.func 57),#[(.tmp 25)],#[25]⟩,some (19,false),[25,19]⟩,⟨some 27,.unOp .not 4 (.tmp 26),some (19,false),[26,19]⟩,⟨some 28,.pick (.tmp 19) (.const (.bool true)) (.tmp 27),none,[19,27]⟩,⟨some 29,.move (.tmp 28),none,[28]⟩,⟨some 30,.move (.tmp 0),some (29,false),[0,29]⟩,⟨some 31,.move (.tmp 3),some (29,false),[3,29]⟩,⟨some 32,.indexAddr 69 (.tmp 30) (.tmp 31),some (29,false),[30,31,29]⟩,⟨some 33,.fieldAddr 75 (.tmp 32) 1,some (29,false),[32,29]⟩,⟨some 34,.load 25 (.tmp 33),some (29,false),[33,29]⟩,⟨some 35,.call ⟨.value (.func 57),#[(.tmp 34)],#[25]⟩,some (29,false),[34,29]⟩,⟨some 36,.unOp .not 4 (.tmp 35),some (29,false),[35,29]⟩,⟨some 37,.pick (.tmp 29) (.const (.bool true)) (.tmp 36),none,[29,36]⟩] [0,0,3,0,0,24,56,120,255,511,1023,1023,4095,8191,16383,32767,65535,131071,262143,524287,1048575,1048575,4194303,8388607,16777215,33554431,67108863,134217727]
def fS48r4:SC:=.reg [⟨some 2,.assign (.const (.bool false)),none⟩]
def fS48b0:SC:=.block 1 (.seq fS48r3 (.cond (.tmp 37) (.seq fS48r4 .ret) .skip))
def fS48r5:SC:=.reg [⟨some 8,.move (.tmp 3),none⟩,⟨some 9,.binOp .add 3 (.tmp 8) (.const (.int .i64 1)) 3,none⟩,⟨some 3,.assign (.tmp 9),none⟩]
def fS48l0:SC:=(.seq (.seq fS48r2 (.cond (.tmp 7) .skip (.exit 0))) (.seq fS48b0 fS48r5))
def fS48b1:SC:=.block 0 (.loop fS48l0)
def fS48r6:SC:=.reg [⟨some 2,.assign (.const (.bool true)),none⟩]
def fS48:SC:=(.seq fS48r0 (.seq (.seq fS48r1 fS48b1) (.seq fS48r6 .ret)))
theorem fB48:Try.f48.body.bind stripC=some fS48:=by kernel_rfl
def fS49r0:SC:=.reg [⟨some 2,.assign (.const (.bool false)),none⟩]
def fS49r1:SC:=.reg [⟨some 3,.assign (.const (.int .i64 0)),none⟩]
def fS49r2:SC:=.reg [⟨some 4,.move (.tmp 3),none⟩,⟨some 5,.move (.tmp 0),none⟩,⟨some 6,.call ⟨.builtin .len,#[(.tmp 5)],#[69]⟩,none⟩,⟨some 7,.binOp .lss 3 (.tmp 4) (.tmp 6) 3,none⟩]
def fS49r3:SC:=.draw [⟨some 10,.move (.tmp 0),none,[0]⟩,⟨some 11,.move (.tmp 3),none,[3]⟩,⟨some 12,.slice 69 (.tmp 10) none (some (.tmp 11)) none,none,[10,11]⟩,⟨some 13,.move (.tmp 0),none,[0]⟩,⟨some 14,.move (.tmp 3),none,[3]⟩,⟨some 15,.indexAddr 69 (.tmp 13) (.tmp 14),none,[13,14]⟩,⟨some 16,.fieldAddr 75 (.tmp 15) 0,none,[15]⟩,⟨some 17,.load 3 (.tmp 16),none,[16]⟩,⟨some 18,.call ⟨.value (.func 86),#[(.tmp 12),(.tmp 17)],#[69,3]⟩,none,[12,17]⟩,⟨some 19,.unOp .not 4 (.tmp 18),none,[18]⟩,⟨some 20,.move (.tmp 19),none,[19]⟩,⟨some 21,.move (.tmp 0),some (20,true),[0,20]⟩,⟨some 22,.move (.tmp 0),some (20,true),[0,20]⟩,⟨some 23,.move (.tmp 3),some (20,true),[3,20]⟩,⟨some 24,.indexAddr 69 (.tmp 22) (.tmp 23),some (20,true),[22,23,20]⟩,⟨some 25,.fieldAddr 75 (.tmp 24) 1,some (20,true),[24,20]⟩,⟨some 26,.load 25 (.tmp 25),some (20,true),[25,20]⟩,⟨some 27,.call ⟨.value (.func 87),#[(.tmp 21),(.tmp 26)],#[69,25]⟩,some (20,true),[21,26,20]⟩,⟨some 28,.move (.tmp 0),some (20,true),[0,20]⟩,⟨some 29,.move (.tmp 3),some (20,true),[3,20]⟩,⟨some 30,.indexAddr 69 (.tmp 28) (.tmp 29),some (20,true),[28,29,20]⟩,⟨some 31,.fieldAddr 75 (.tmp 30) 1,some (20,true),[30,20]⟩,⟨some 32,.load 25 (.tmp 31),some (20,true),[31,20]⟩,⟨some 33,.call ⟨.value (.func 19),#[(.tmp 27),(.tmp 32)],#[25,25]⟩,some (20,true),[27,32,20]⟩,⟨some 34,.unOp .not 4 (.tmp 33),some (20,true),[33,20]⟩,⟨some 35,.pick (.tmp 20) (.tmp 34) (.const (.bool false)),none,[20,34]⟩] [0,0,3,0,0,24,56,120,255,511,1023,2047,2047,2047,14335,30719,63487,131071,2047,2047,788479,1837055,3934207,8388607,16777215,33554431]
def fS49r4:SC:=.reg [⟨some 2,.assign (.const (.bool false)),none⟩]
def fS49b0:SC:=.block 1 (.seq fS49r3 (.cond (.tmp 35) (.seq fS49r4 .ret) .skip))
def fS49r5:SC:=.reg [⟨some 8,.move (.tmp 3),none⟩,⟨some 9,.binOp .add 3 (.tmp 8) (.const (.int .i64 1)) 3,none⟩,⟨some 3,.assign (.tmp 9),none⟩]
def fS49l0:SC:=(.seq (.seq fS49r2 (.cond (.tmp 7) .skip (.exit 0))) (.seq fS49b0 fS49r5))
def fS49b1:SC:=.block 0 (.loop fS49l0)
def fS49r6:SC:=.reg [⟨some 2,.assign (.const (.bool true)),none⟩]
def fS49:SC:=(.seq fS49r0 (.seq (.seq fS49r1 fS49b1) (.seq fS49r6 .ret)))
theorem fB49:Try.f49.body.bind stripC=some fS49:=by kernel_rfl
def fS86r0:SC:=.reg [⟨some 4,.assign (.const (.bool false)),none⟩]
def fS86r1:SC:=.reg [⟨some 5,.assign (.const (.int .i64 0)),none⟩]
def fS86r2:SC:=.reg [⟨some 6,.move (.tmp 5),none⟩,⟨some 7,.move (.tmp 0),none⟩,⟨some 8,.call ⟨.builtin .len,#[(.tmp 7)],#[69]⟩,none⟩,⟨some 9,.binOp .lss 3 (.tmp 6) (.tmp 8) 3,none⟩]
def fS86r3:SC:=.reg [⟨some 12,.move (.tmp 0),none⟩,⟨some 13,.move (.tmp 5),none⟩,⟨some 14,.indexAddr 69 (.tmp 12) (.tmp 13),none⟩,⟨some 15,.fieldAddr 75 (.tmp 14) 0,none⟩,⟨some 16,.load 3 (.tmp 15),none⟩,⟨some 17,.move (.tmp 1),none⟩,⟨some 18,.binOp .eql 3 (.tmp 16) (.tmp 17) 3,none⟩]
def fS86r4:SC:=.reg [⟨some 4,.assign (.const (.bool true)),none⟩]
def fS86b0:SC:=.block 1 (.seq fS86r3 (.cond (.tmp 18) (.seq fS86r4 .ret) .skip))
def fS86r5:SC:=.reg [⟨some 10,.move (.tmp 5),none⟩,⟨some 11,.binOp .add 3 (.tmp 10) (.const (.int .i64 1)) 3,none⟩,⟨some 5,.assign (.tmp 11),none⟩]
def fS86l0:SC:=(.seq (.seq fS86r2 (.cond (.tmp 9) .skip (.exit 0))) (.seq fS86b0 fS86r5))
def fS86b1:SC:=.block 0 (.loop fS86l0)
def fS86r6:SC:=.reg [⟨some 4,.assign (.const (.bool false)),none⟩]
def fS86:SC:=(.seq fS86r0 (.seq (.seq fS86r1 fS86b1) (.seq fS86r6 .ret)))
theorem fB86:Try.f86.body.bind stripC=some fS86:=by kernel_rfl
def fS87r0:SC:=.reg [⟨some 3,.box 25 (.tmp 1),none⟩,⟨some 4,.alloc 25,none⟩]
def fS87r1:SC:=.reg [⟨some 5,.load 25 (.tmp 3),none⟩,⟨some 6,.move (.tmp 0),none⟩,⟨some 7,.call ⟨.value (.func 50),#[(.tmp 5),(.tmp 6)],#[25,69]⟩,none⟩,⟨none,.store 25 (.tmp 4) (.tmp 7),none⟩]
def fS87:SC:=(.seq fS87r0 (.seq fS87r1 .ret))
theorem fB87:Try.f87.body.bind stripC=some fS87:=by kernel_rfl
def fS125r0:SC:=.reg [⟨some 4,.assign (.const (.slice none 0 0)),none⟩]
def fS125r1:SC:=.reg [⟨some 5,.assign (.const (.slice none 0 0)),none⟩]
def fS125r2:SC:=.reg [⟨some 6,.assign (.const (.int .i64 0)),none⟩]
def fS125r3:SC:=.reg [⟨some 8,.move (.tmp 6),none⟩,⟨some 9,.move (.tmp 0),none⟩,⟨some 10,.call ⟨.builtin .len,#[(.tmp 9)],#[69]⟩,none⟩,⟨some 11,.binOp .lss 3 (.tmp 8) (.tmp 10) 3,none⟩]
def fS125r4:SC:=.draw [⟨some 14,.move (.tmp 5),none,[5]⟩,⟨some 15,.move (.tmp 0),none,[0]⟩,⟨some 16,.move (.tmp 6),none,[6]⟩,⟨some 17,.indexAddr 69 (.tmp 15) (.tmp 16),none,[15,16]⟩,⟨some 18,.fieldAddr 75 (.tmp 17) 0,none,[17]⟩,⟨some 19,.load 3 (.tmp 18),none,[18]⟩,⟨some 20,.move (.tmp 1),none,[1]⟩,⟨some 21,.move (.tmp 0),none,[0]⟩,⟨some 22,.move (.tmp 6),none,[6]⟩,⟨some 23,.indexAddr 69 (.tmp 21) (.tmp 22),none,[21,22]⟩,⟨some 24,.fieldAddr 75 (.tmp 23) 1,none,[23]⟩,⟨some 25,.load 25 (.tmp 24),none,[24]⟩,⟨some 26,.call ⟨.value (.func 87),#[(.tmp 20),(.tmp 25)],#[69,25]⟩,none,[20,25]⟩,⟨some 27,.build 75 #[(0,(.tmp 19)),(1,(.tmp 26))],none,[19,26]⟩,⟨some 28,.buildSlice 69 1 #[(0,(.tmp 27))],none,[27]⟩,⟨some 29,.call ⟨.builtin .append,#[(.tmp 14),(.tmp 28)],#[69,69]⟩,none,[14,28]⟩,⟨some 5,.assign (.tmp 29),none,[29]⟩] [0,0,0,6,14,30,0,0,0,384,896,1920,4032,8190,16382,32767,65535]
def fS125b0:SC:=.block 1 fS125r4
def fS125r5:SC:=.reg [⟨some 12,.move (.tmp 6),none⟩,⟨some 13,.binOp .add 3 (.tmp 12) (.const (.int .i64 1)) 3,none⟩,⟨some 6,.assign (.tmp 13),none⟩]
def fS125l0:SC:=(.seq (.seq fS125r3 (.cond (.tmp 11) .skip (.exit 0))) (.seq fS125b0 fS125r5))
def fS125b1:SC:=.block 0 (.loop fS125l0)
def fS125r6:SC:=.reg [⟨some 7,.assign (.const (.int .i64 0)),none⟩]
def fS125r7:SC:=.reg [⟨some 30,.move (.tmp 7),none⟩,⟨some 31,.move (.tmp 1),none⟩,⟨some 32,.call ⟨.builtin .len,#[(.tmp 31)],#[69]⟩,none⟩,⟨some 33,.binOp .lss 3 (.tmp 30) (.tmp 32) 3,none⟩]
def fS125r8:SC:=.reg [⟨some 36,.move (.tmp 0),none⟩,⟨some 37,.move (.tmp 1),none⟩,⟨some 38,.move (.tmp 7),none⟩,⟨some 39,.indexAddr 69 (.tmp 37) (.tmp 38),none⟩,⟨some 40,.fieldAddr 75 (.tmp 39) 0,none⟩,⟨some 41,.load 3 (.tmp 40),none⟩,⟨some 42,.call ⟨.value (.func 86),#[(.tmp 36),(.tmp 41)],#[69,3]⟩,none⟩,⟨some 43,.unOp .not 4 (.tmp 42),none⟩]
def fS125r9:SC:=.reg [⟨some 44,.move (.tmp 5),none⟩,⟨some 45,.move (.tmp 1),none⟩,⟨some 46,.move (.tmp 7),none⟩,⟨some 47,.indexAddr 69 (.tmp 45) (.tmp 46),none⟩,⟨some 48,.load 75 (.tmp 47),none⟩,⟨some 49,.buildSlice 69 1 #[(0,(.tmp 48))],none⟩,⟨some 50,.call ⟨.builtin .append,#[(.tmp 44),(.tmp 49)],#[69,69]⟩,none⟩,⟨some 5,.assign (.tmp 50),none⟩]
def fS125b2:SC:=.block 3 (.seq fS125r8 (.cond (.tmp 43) fS125r9 .skip))
def fS125r10:SC:=.reg [⟨some 34,.move (.tmp 7),none⟩,⟨some 35,.binOp .add 3 (.tmp 34) (.const (.int .i64 1)) 3,none⟩,⟨some 7,.assign (.tmp 35),none⟩]
def fS125l1:SC:=(.seq (.seq fS125r7 (.cond (.tmp 33) .skip (.exit 2))) (.seq fS125b2 fS125r10))
def fS125b3:SC:=.block 2 (.loop fS125l1)
def fS125r11:SC:=.reg [⟨some 51,.move (.tmp 5),none⟩,⟨some 4,.assign (.tmp 51),none⟩]
def fS125:SC:=(.seq fS125r0 (.seq fS125r1 (.seq (.seq fS125r2 fS125b1) (.seq (.seq fS125r6 fS125b3) (.seq fS125r11 .ret)))))
theorem fB125:Try.f125.body.bind stripC=some fS125:=by kernel_rfl
def fS80r0:SC:=.reg [⟨some 0,.assign (.const (.pointer none)),none⟩]
def fS80r1:SC:=.reg [⟨some 1,.makeMap 143 none,none⟩,⟨some 2,.build 145 #[(0,(.tmp 1))],none⟩,⟨some 3,.box 145 (.tmp 2),none⟩,⟨some 0,.assign (.tmp 3),none⟩]
def fS80:SC:=(.seq fS80r0 (.seq fS80r1 .ret))
theorem fB80:Try.f80.body.bind stripC=some fS80:=by kernel_rfl
def fS81r0:SC:=.reg [⟨some 4,.box 25 (.tmp 1),none⟩,⟨some 5,.box 25 (.tmp 2),none⟩,⟨some 6,.assign (.const (.int .i64 0)),none⟩]
def fS81r1:SC:=.reg [⟨some 9,.move (.tmp 0),none⟩,⟨some 10,.nilCheck (.tmp 9),none⟩,⟨some 11,.fieldAddr 145 (.tmp 10) 1,none⟩,⟨none,.store 143 (.tmp 11) (.const (.map none)),none⟩]
def fS81r2:SC:=.draw [⟨some 12,.move (.tmp 0),none,[0]⟩,⟨some 13,.load 25 (.tmp 4),none,[4]⟩,⟨some 14,.call ⟨.value (.func 96),#[(.tmp 12),(.tmp 13)],#[120,25]⟩,none,[12,13]⟩,⟨some 15,.move (.tmp 0),none,[0]⟩,⟨some 16,.load 25 (.tmp 5),none,[5]⟩,⟨some 17,.call ⟨.value (.func 96),#[(.tmp 15),(.tmp 16)],#[120,25]⟩,none,[15,16]⟩,⟨none,.store 25 (.tmp 4) (.tmp 14),none,[4,14]⟩,⟨none,.store 25 (.tmp 5) (.tmp 17),none,[5,17]⟩] [0,0,3,0,0,31,63,127]
def fS81r3:SC:=.reg [⟨some 19,.fieldAddr 25 (.tmp 4) 0,none⟩,⟨some 20,.load 3 (.tmp 19),none⟩,⟨some 21,.binOp .eql 3 (.tmp 20) (.const (.int .i64 1)) 3,none⟩,⟨some 22,.move (.tmp 21),none⟩,⟨some 23,.fieldAddr 25 (.tmp 5) 0,some (22,true)⟩,⟨some 24,.load 3 (.tmp 23),some (22,true)⟩,⟨some 25,.binOp .eql 3 (.tmp 24) (.const (.int .i64 1)) 3,some (22,true)⟩,⟨some 26,.pick (.tmp 22) (.tmp 25) (.const (.bool false)),none⟩,⟨some 27,.move (.tmp 26),none⟩,⟨some 28,.fieldAddr 25 (.tmp 4) 2,some (27,true)⟩,⟨some 29,.load 3 (.tmp 28),some (27,true)⟩,⟨some 30,.fieldAddr 25 (.tmp 5) 2,some (27,true)⟩,⟨some 31,.load 3 (.tmp 30),some (27,true)⟩,⟨some 32,.binOp .eql 3 (.tmp 29) (.tmp 31) 3,some (27,true)⟩,⟨some 33,.pick (.tmp 27) (.tmp 32) (.const (.bool false)),none⟩,⟨some 18,.assign (.tmp 33),none⟩]
def fS81r4:SC:=.reg [⟨some 6,.assign (.const (.int .i64 0)),none⟩]
def fS81r5:SC:=.reg [⟨some 35,.fieldAddr 25 (.tmp 4) 0,none⟩,⟨some 36,.load 3 (.tmp 35),none⟩,⟨some 37,.binOp .eql 3 (.tmp 36) (.const (.int .i64 1)) 3,none⟩,⟨some 34,.assign (.tmp 37),none⟩]
def fS81r6:SC:=.reg [⟨some 38,.move (.tmp 0),none⟩,⟨some 39,.fieldAddr 25 (.tmp 4) 2,none⟩,⟨some 40,.load 3 (.tmp 39),none⟩,⟨some 41,.load 25 (.tmp 5),none⟩,⟨some 42,.call ⟨.value (.func 97),#[(.tmp 38),(.tmp 40),(.tmp 41)],#[120,3,25]⟩,none⟩,⟨some 6,.assign (.tmp 42),none⟩]
def fS81r7:SC:=.reg [⟨some 44,.fieldAddr 25 (.tmp 5) 0,none⟩,⟨some 45,.load 3 (.tmp 44),none⟩,⟨some 46,.binOp .eql 3 (.tmp 45) (.const (.int .i64 1)) 3,none⟩,⟨some 43,.assign (.tmp 46),none⟩]
def fS81r8:SC:=.reg [⟨some 47,.move (.tmp 0),none⟩,⟨some 48,.fieldAddr 25 (.tmp 5) 2,none⟩,⟨some 49,.load 3 (.tmp 48),none⟩,⟨some 50,.load 25 (.tmp 4),none⟩,⟨some 51,.call ⟨.value (.func 97),#[(.tmp 47),(.tmp 49),(.tmp 50)],#[120,3,25]⟩,none⟩,⟨some 6,.assign (.tmp 51),none⟩]
def fS81r9:SC:=.reg [⟨some 53,.fieldAddr 25 (.tmp 4) 0,none⟩,⟨some 54,.load 3 (.tmp 53),none⟩,⟨some 55,.fieldAddr 25 (.tmp 5) 0,none⟩,⟨some 56,.load 3 (.tmp 55),none⟩,⟨some 57,.binOp .neq 3 (.tmp 54) (.tmp 56) 3,none⟩,⟨some 58,.move (.tmp 57),none⟩,⟨some 59,.fieldAddr 25 (.tmp 4) 1,some (58,false)⟩,⟨some 60,.load 9 (.tmp 59),some (58,false)⟩,⟨some 61,.fieldAddr 25 (.tmp 5) 1,some (58,false)⟩,⟨some 62,.load 9 (.tmp 61),some (58,false)⟩,⟨some 63,.binOp .neq 9 (.tmp 60) (.tmp 62) 9,some (58,false)⟩,⟨some 64,.pick (.tmp 58) (.const (.bool true)) (.tmp 63),none⟩,⟨some 65,.move (.tmp 64),none⟩,⟨some 66,.fieldAddr 25 (.tmp 4) 2,some (65,false)⟩,⟨some 67,.load 3 (.tmp 66),some (65,false)⟩,⟨some 68,.fieldAddr 25 (.tmp 5) 2,some (65,false)⟩,⟨some 69,.load 3 (.tmp 68),some (65,false)⟩,⟨some 70,.binOp .neq 3 (.tmp 67) (.tmp 69) 3,some (65,false)⟩,⟨some 71,.pick (.tmp 65) (.const (.bool true)) (.tmp 70),none⟩,⟨some 72,.move (.tmp 71),none⟩,⟨some 73,.fieldAddr 25 (.tmp 4) 3,some (72,false)⟩,⟨some 74,.load 3 (.tmp 73),some (72,false)⟩,⟨some 75,.fieldAddr 25 (.tmp 5) 3,some (72,false)⟩,⟨some 76,.load 3 (.tmp 75),some (72,false)⟩,⟨some 77,.binOp .neq 3 (.tmp 74) (.tmp 76) 3,some (72,false)⟩,⟨some 78,.pick (.tmp 72) (.const (.bool true)) (.tmp 77),none⟩,⟨some 79,.move (.tmp 78),none⟩,⟨some 80,.fieldAddr 25 (.tmp 4) 4,some (79,false)⟩,⟨some 81,.load 23 (.tmp 80),some (79,false)⟩,⟨some 82,.call ⟨.builtin .len,#[(.tmp 81)],#[23]⟩,some (79,false)⟩,⟨some 83,.fieldAddr 25 (.tmp 5) 4,some (79,false)⟩,⟨some 84,.load 23 (.tmp 83),some (79,false)⟩,⟨some 85,.call ⟨.builtin .len,#[(.tmp 84)],#[23]⟩,some (79,false)⟩,⟨some 86,.binOp .neq 3 (.tmp 82) (.tmp 85) 3,some (79,false)⟩,⟨some 87,.pick (.tmp 79) (.const (.bool true)) (.tmp 86),none⟩,⟨some 52,.assign (.tmp 87),none⟩]
def fS81r10:SC:=.reg [⟨some 6,.assign (.const (.int .i64 11)),none⟩]
def fS81b0:SC:=.block 0 (.seq fS81r3 (.cond (.tmp 18) (.seq fS81r4 .ret) (.seq fS81r5 (.cond (.tmp 34) (.seq fS81r6 .ret) (.seq fS81r7 (.cond (.tmp 43) (.seq fS81r8 .ret) (.seq fS81r9 (.cond (.tmp 52) (.seq fS81r10 .ret) .skip))))))))
def fS81r11:SC:=.reg [⟨some 88,.fieldAddr 25 (.tmp 4) 4,none⟩,⟨some 89,.load 23 (.tmp 88),none⟩,⟨some 90,.call ⟨.builtin .len,#[(.tmp 89)],#[23]⟩,none⟩,⟨some 91,.move (.const (.int .i64 0)),none⟩]
def fS81r12:SC:=.reg [⟨some 92,.binOp .lss 3 (.tmp 91) (.tmp 90) 3,none⟩]
def fS81r13:SC:=.reg [⟨some 93,.move (.tmp 91),none⟩,⟨some 7,.assign (.tmp 93),none⟩]
def fS81r14:SC:=.draw [⟨some 94,.move (.tmp 0),none,[0]⟩,⟨some 95,.fieldAddr 25 (.tmp 4) 4,none,[4]⟩,⟨some 96,.load 23 (.tmp 95),none,[95]⟩,⟨some 97,.move (.tmp 7),none,[7]⟩,⟨some 98,.indexAddr 23 (.tmp 96) (.tmp 97),none,[96,97]⟩,⟨some 99,.load 25 (.tmp 98),none,[98]⟩,⟨some 100,.fieldAddr 25 (.tmp 5) 4,none,[5]⟩,⟨some 101,.load 23 (.tmp 100),none,[100]⟩,⟨some 102,.move (.tmp 7),none,[7]⟩,⟨some 103,.indexAddr 23 (.tmp 101) (.tmp 102),none,[101,102]⟩,⟨some 104,.load 25 (.tmp 103),none,[103]⟩,⟨some 105,.call ⟨.value (.func 81),#[(.tmp 94),(.tmp 99),(.tmp 104)],#[120,25,25]⟩,none,[94,99,104]⟩,⟨some 8,.assign (.tmp 105),none,[105]⟩] [0,0,2,0,14,30,0,64,0,448,960,2047,4095]
def fS81r15:SC:=.reg [⟨some 106,.move (.tmp 8),none⟩,⟨some 107,.binOp .neq 70 (.tmp 106) (.const (.int .i64 0)) 70,none⟩]
def fS81r16:SC:=.reg [⟨some 108,.move (.tmp 8),none⟩,⟨some 6,.assign (.tmp 108),none⟩]
def fS81b1:SC:=.block 2 (.seq fS81r13 (.seq fS81r14 (.seq fS81r15 (.cond (.tmp 107) (.seq fS81r16 .ret) .skip))))
def fS81r17:SC:=.reg [⟨some 109,.binOp .add 3 (.tmp 91) (.const (.int .i64 1)) 3,none⟩,⟨some 91,.move (.tmp 109),none⟩]
def fS81l0:SC:=(.seq fS81r12 (.seq (.cond (.tmp 92) .skip (.exit 1)) (.seq fS81b1 fS81r17)))
def fS81b2:SC:=.block 1 (.loop fS81l0)
def fS81r18:SC:=.reg [⟨some 6,.assign (.const (.int .i64 0)),none⟩]
def fS81:SC:=(.seq fS81r0 (.seq fS81r1 (.seq fS81r2 (.seq fS81b0 (.seq (.seq fS81r11 fS81b2) (.seq fS81r18 .ret))))))
theorem fB81:Try.f81.body.bind stripC=some fS81:=by kernel_rfl
def fS82r0:SC:=.reg [⟨some 4,.assign (.const (.slice none 0 0)),none⟩]
def fS82r1:SC:=.reg [⟨some 5,.assign (.const (.slice none 0 0)),none⟩]
def fS82r2:SC:=.reg [⟨some 10,.move (.tmp 1),none⟩,⟨some 11,.call ⟨.builtin .len,#[(.tmp 10)],#[22]⟩,none⟩,⟨some 12,.move (.const (.int .i64 0)),none⟩]
def fS82r3:SC:=.reg [⟨some 13,.binOp .lss 3 (.tmp 12) (.tmp 11) 3,none⟩]
def fS82r4:SC:=.reg [⟨some 14,.indexAddr 22 (.tmp 10) (.tmp 12),none⟩,⟨some 15,.load 3 (.tmp 14),none⟩,⟨some 7,.assign (.tmp 15),none⟩]
def fS82r5:SC:=.reg [⟨some 17,.move (.tmp 0),none⟩,⟨some 18,.nilCheck (.tmp 17),none⟩,⟨some 19,.fieldAddr 145 (.tmp 18) 0,none⟩,⟨some 20,.load 143 (.tmp 19),none⟩,⟨some 21,.move (.tmp 7),none⟩,⟨some 22,.lookup 143 (.tmp 20) (.tmp 21) true,none⟩,⟨some 16,.move (.tmp 22),none⟩,⟨some 23,.extract (.tmp 16) 0,none⟩,⟨some 24,.extract (.tmp 16) 1,none⟩,⟨some 8,.alloc 25,none⟩,⟨none,.store 25 (.tmp 8) (.tmp 23),none⟩,⟨some 9,.assign (.tmp 24),none⟩]
def fS82r6:SC:=.reg [⟨some 25,.move (.tmp 9),none⟩]
def fS82r7:SC:=.reg [⟨some 26,.move (.tmp 5),none⟩,⟨some 27,.move (.tmp 7),none⟩,⟨some 28,.move (.tmp 0),none⟩,⟨some 29,.move (.tmp 7),none⟩,⟨some 30,.call ⟨.value (.func 63),#[(.tmp 29)],#[3]⟩,none⟩,⟨some 31,.call ⟨.value (.func 98),#[(.tmp 28),(.tmp 30)],#[120,25]⟩,none⟩,⟨some 32,.build 75 #[(0,(.tmp 27)),(1,(.tmp 31))],none⟩,⟨some 33,.buildSlice 69 1 #[(0,(.tmp 32))],none⟩,⟨some 34,.call ⟨.builtin .append,#[(.tmp 26),(.tmp 33)],#[69,69]⟩,none⟩,⟨some 5,.assign (.tmp 34),none⟩]
def fS82b0:SC:=.block 1 (.seq fS82r4 (.seq fS82r5 (.seq fS82r6 (.cond (.tmp 25) fS82r7 .skip))))
def fS82r8:SC:=.reg [⟨some 35,.binOp .add 3 (.tmp 12) (.const (.int .i64 1)) 3,none⟩,⟨some 12,.move (.tmp 35),none⟩]
def fS82l0:SC:=(.seq fS82r3 (.seq (.cond (.tmp 13) .skip (.exit 0)) (.seq fS82b0 fS82r8)))
def fS82b1:SC:=.block 0 (.loop fS82l0)
def fS82r9:SC:=.reg [⟨some 36,.move (.tmp 5),none⟩,⟨some 4,.assign (.tmp 36),none⟩]
def fS82:SC:=(.seq fS82r0 (.seq fS82r1 (.seq (.seq fS82r2 fS82b1) (.seq fS82r9 .ret))))
theorem fB82:Try.f82.body.bind stripC=some fS82:=by kernel_rfl
def fS96r0:SC:=.reg [⟨some 3,.box 25 (.tmp 1),none⟩,⟨some 4,.alloc 25,none⟩]
def fS96r1:SC:=.reg [⟨some 7,.fieldAddr 25 (.tmp 3) 0,none⟩,⟨some 8,.load 3 (.tmp 7),none⟩,⟨some 9,.binOp .eql 3 (.tmp 8) (.const (.int .i64 1)) 3,none⟩]
def fS96r2:SC:=.draw [⟨some 11,.move (.tmp 0),none,[0]⟩,⟨some 12,.nilCheck (.tmp 11),none,[11]⟩,⟨some 13,.fieldAddr 145 (.tmp 12) 0,none,[12]⟩,⟨some 14,.load 143 (.tmp 13),none,[13]⟩,⟨some 15,.fieldAddr 25 (.tmp 3) 2,none,[3]⟩,⟨some 16,.load 3 (.tmp 15),none,[15]⟩,⟨some 17,.lookup 143 (.tmp 14) (.tmp 16) true,none,[14,16]⟩,⟨some 10,.move (.tmp 17),none,[17]⟩,⟨some 18,.extract (.tmp 10) 0,none,[10]⟩,⟨some 19,.extract (.tmp 10) 1,none,[10]⟩,⟨some 5,.alloc 25,none,[]⟩,⟨none,.store 25 (.tmp 5) (.tmp 18),none,[5,18]⟩,⟨some 6,.assign (.tmp 19),none,[19]⟩] [0,1,3,7,0,16,63,127,255,255,0,1535,4095]
def fS96r3:SC:=.reg [⟨some 20,.move (.tmp 6),none⟩,⟨some 21,.unOp .not 4 (.tmp 20),none⟩]
def fS96r4:SC:=.reg [⟨some 22,.load 25 (.tmp 5),none⟩,⟨none,.store 25 (.tmp 3) (.tmp 22),none⟩]
def fS96b0:SC:=.block 1 (.seq fS96r2 (.seq (.seq fS96r3 (.cond (.tmp 21) (.exit 0) .skip)) fS96r4))
def fS96l0:SC:=(.seq (.seq fS96r1 (.cond (.tmp 9) .skip (.exit 0))) fS96b0)
def fS96b1:SC:=.block 0 (.loop fS96l0)
def fS96r5:SC:=.reg [⟨some 23,.load 25 (.tmp 3),none⟩,⟨none,.store 25 (.tmp 4) (.tmp 23),none⟩]
def fS96:SC:=(.seq fS96r0 (.seq fS96b1 (.seq fS96r5 .ret)))
theorem fB96:Try.f96.body.bind stripC=some fS96:=by kernel_rfl
def fS97r0:SC:=.reg [⟨some 5,.box 25 (.tmp 2),none⟩,⟨some 6,.assign (.const (.int .i64 0)),none⟩]
def fS97r1:SC:=.reg [⟨some 7,.move (.tmp 0),none⟩,⟨some 8,.move (.tmp 1),none⟩,⟨some 9,.load 25 (.tmp 5),none⟩,⟨some 10,.makeMap 114 none,none⟩,⟨some 11,.call ⟨.value (.func 122),#[(.tmp 7),(.tmp 8),(.tmp 9),(.tmp 10)],#[120,3,25,114]⟩,none⟩]
def fS97r2:SC:=.reg [⟨some 6,.assign (.const (.int .i64 12)),none⟩]
def fS97r3:SC:=.draw [⟨some 12,.move (.tmp 0),none,[0]⟩,⟨some 13,.nilCheck (.tmp 12),none,[12]⟩,⟨some 14,.fieldAddr 145 (.tmp 13) 0,none,[13]⟩,⟨some 15,.load 143 (.tmp 14),none,[14]⟩,⟨some 16,.move (.tmp 1),none,[1]⟩,⟨some 17,.load 25 (.tmp 5),none,[5]⟩,⟨none,.mapUpdate 143 (.tmp 15) (.tmp 16) (.tmp 17),none,[15,16,17]⟩] [0,1,3,7,0,0,63]
def fS97r4:SC:=.reg [⟨some 6,.assign (.const (.int .i64 0)),none⟩]
def fS97:SC:=(.seq fS97r0 (.seq (.seq fS97r1 (.cond (.tmp 11) (.seq fS97r2 .ret) .skip)) (.seq fS97r3 (.seq fS97r4 .ret))))
theorem fB97:Try.f97.body.bind stripC=some fS97:=by kernel_rfl
def fS98r0:SC:=.reg [⟨some 3,.box 25 (.tmp 1),none⟩,⟨some 4,.alloc 25,none⟩]
def fS98r1:SC:=.reg [⟨some 13,.move (.tmp 0),none⟩,⟨some 14,.nilCheck (.tmp 13),none⟩,⟨some 15,.fieldAddr 145 (.tmp 14) 1,none⟩,⟨some 16,.load 143 (.tmp 15),none⟩,⟨some 17,.binOp .eql 143 (.tmp 16) (.const (.map none)) 143,none⟩]
def fS98r2:SC:=.reg [⟨some 18,.move (.tmp 0),none⟩,⟨some 19,.makeMap 143 none,none⟩,⟨some 20,.nilCheck (.tmp 18),none⟩,⟨some 21,.fieldAddr 145 (.tmp 20) 1,none⟩,⟨none,.store 143 (.tmp 21) (.tmp 19),none⟩]
def fS98r3:SC:=.reg [⟨some 22,.fieldAddr 25 (.tmp 3) 0,none⟩,⟨some 23,.load 3 (.tmp 22),none⟩,⟨some 24,.binOp .eql 3 (.tmp 23) (.const (.int .i64 1)) 3,none⟩]
def fS98r4:SC:=.draw [⟨some 26,.move (.tmp 0),none,[0]⟩,⟨some 27,.nilCheck (.tmp 26),none,[26]⟩,⟨some 28,.fieldAddr 145 (.tmp 27) 0,none,[27]⟩,⟨some 29,.load 143 (.tmp 28),none,[28]⟩,⟨some 30,.fieldAddr 25 (.tmp 3) 2,none,[3]⟩,⟨some 31,.load 3 (.tmp 30),none,[30]⟩,⟨some 32,.lookup 143 (.tmp 29) (.tmp 31) true,none,[29,31]⟩,⟨some 25,.move (.tmp 32),none,[32]⟩,⟨some 33,.extract (.tmp 25) 0,none,[25]⟩,⟨some 34,.extract (.tmp 25) 1,none,[25]⟩,⟨some 5,.alloc 25,none,[]⟩,⟨none,.store 25 (.tmp 5) (.tmp 33),none,[5,33]⟩,⟨some 6,.assign (.tmp 34),none,[34]⟩] [0,1,3,7,0,16,63,127,255,255,0,1535,4095]
def fS98r5:SC:=.reg [⟨some 35,.move (.tmp 6),none⟩,⟨some 36,.unOp .not 4 (.tmp 35),none⟩]
def fS98r6:SC:=.reg [⟨some 37,.load 25 (.tmp 3),none⟩,⟨none,.store 25 (.tmp 4) (.tmp 37),none⟩]
def fS98r7:SC:=.draw [⟨some 39,.move (.tmp 0),none,[0]⟩,⟨some 40,.nilCheck (.tmp 39),none,[39]⟩,⟨some 41,.fieldAddr 145 (.tmp 40) 1,none,[40]⟩,⟨some 42,.load 143 (.tmp 41),none,[41]⟩,⟨some 43,.fieldAddr 25 (.tmp 3) 2,none,[3]⟩,⟨some 44,.load 3 (.tmp 43),none,[43]⟩,⟨some 45,.lookup 143 (.tmp 42) (.tmp 44) true,none,[42,44]⟩,⟨some 38,.move (.tmp 45),none,[45]⟩,⟨some 46,.extract (.tmp 38) 0,none,[38]⟩,⟨some 47,.extract (.tmp 38) 1,none,[38]⟩,⟨some 7,.alloc 25,none,[]⟩,⟨none,.store 25 (.tmp 7) (.tmp 46),none,[7,46]⟩,⟨some 8,.assign (.tmp 47),none,[47]⟩] [0,1,3,7,0,16,63,127,255,255,0,1535,4095]
def fS98r8:SC:=.reg [⟨some 48,.move (.tmp 8),none⟩]
def fS98r9:SC:=.reg [⟨some 49,.load 25 (.tmp 7),none⟩,⟨none,.store 25 (.tmp 4) (.tmp 49),none⟩]
def fS98r10:SC:=.reg [⟨some 50,.move (.tmp 0),none⟩,⟨some 51,.load 25 (.tmp 5),none⟩,⟨some 52,.call ⟨.value (.func 98),#[(.tmp 50),(.tmp 51)],#[120,25]⟩,none⟩,⟨some 9,.alloc 25,none⟩,⟨none,.store 25 (.tmp 9) (.tmp 52),none⟩]
def fS98r11:SC:=.draw [⟨some 53,.move (.tmp 0),none,[0]⟩,⟨some 54,.nilCheck (.tmp 53),none,[53]⟩,⟨some 55,.fieldAddr 145 (.tmp 54) 1,none,[54]⟩,⟨some 56,.load 143 (.tmp 55),none,[55]⟩,⟨some 57,.fieldAddr 25 (.tmp 3) 2,none,[3]⟩,⟨some 58,.load 3 (.tmp 57),none,[57]⟩,⟨some 59,.load 25 (.tmp 9),none,[9]⟩,⟨none,.mapUpdate 143 (.tmp 56) (.tmp 58) (.tmp 59),none,[56,58,59]⟩] [0,1,3,7,0,16,0,127]
def fS98r12:SC:=.reg [⟨some 60,.load 25 (.tmp 9),none⟩,⟨none,.store 25 (.tmp 4) (.tmp 60),none⟩]
def fS98r13:SC:=.reg [⟨some 61,.fieldAddr 25 (.tmp 3) 4,none⟩,⟨some 62,.load 23 (.tmp 61),none⟩,⟨some 63,.call ⟨.builtin .len,#[(.tmp 62)],#[23]⟩,none⟩,⟨some 64,.binOp .gtr 3 (.tmp 63) (.const (.int .i64 0)) 3,none⟩]
def fS98r14:SC:=.reg [⟨some 65,.fieldAddr 25 (.tmp 3) 4,none⟩,⟨some 66,.load 23 (.tmp 65),none⟩,⟨some 67,.call ⟨.builtin .len,#[(.tmp 66)],#[23]⟩,none⟩,⟨some 68,.makeSlice 23 (.tmp 67) (.tmp 67),none⟩,⟨some 10,.assign (.tmp 68),none⟩]
def fS98r15:SC:=.reg [⟨some 69,.fieldAddr 25 (.tmp 3) 4,none⟩,⟨some 70,.load 23 (.tmp 69),none⟩,⟨some 71,.call ⟨.builtin .len,#[(.tmp 70)],#[23]⟩,none⟩,⟨some 72,.move (.const (.int .i64 0)),none⟩]
def fS98r16:SC:=.reg [⟨some 73,.binOp .lss 3 (.tmp 72) (.tmp 71) 3,none⟩]
def fS98r17:SC:=.reg [⟨some 74,.move (.tmp 72),none⟩,⟨some 75,.indexAddr 23 (.tmp 70) (.tmp 72),none⟩,⟨some 76,.load 25 (.tmp 75),none⟩,⟨some 12,.alloc 25,none⟩,⟨some 11,.assign (.tmp 74),none⟩,⟨none,.store 25 (.tmp 12) (.tmp 76),none⟩]
def fS98r18:SC:=.reg [⟨some 77,.move (.tmp 10),none⟩,⟨some 78,.move (.tmp 11),none⟩,⟨some 79,.move (.tmp 0),none⟩,⟨some 80,.load 25 (.tmp 12),none⟩,⟨some 81,.call ⟨.value (.func 98),#[(.tmp 79),(.tmp 80)],#[120,25]⟩,none⟩,⟨some 82,.indexAddr 23 (.tmp 77) (.tmp 78),none⟩,⟨none,.store 25 (.tmp 82) (.tmp 81),none⟩]
def fS98b0:SC:=.block 1 (.seq fS98r17 fS98r18)
def fS98r19:SC:=.reg [⟨some 83,.binOp .add 3 (.tmp 72) (.const (.int .i64 1)) 3,none⟩,⟨some 72,.move (.tmp 83),none⟩]
def fS98l0:SC:=(.seq fS98r16 (.seq (.cond (.tmp 73) .skip (.exit 0)) (.seq fS98b0 fS98r19)))
def fS98b1:SC:=.block 0 (.loop fS98l0)
def fS98r20:SC:=.reg [⟨some 84,.move (.tmp 10),none⟩,⟨some 85,.fieldAddr 25 (.tmp 3) 4,none⟩,⟨none,.store 23 (.tmp 85) (.tmp 84),none⟩]
def fS98r21:SC:=.reg [⟨some 86,.load 25 (.tmp 3),none⟩,⟨none,.store 25 (.tmp 4) (.tmp 86),none⟩]
def fS98:SC:=(.seq fS98r0 (.seq (.seq fS98r1 (.cond (.tmp 17) fS98r2 .skip)) (.seq (.seq fS98r3 (.cond (.tmp 24) (.seq fS98r4 (.seq (.seq fS98r5 (.cond (.tmp 36) (.seq fS98r6 .ret) .skip)) (.seq (.seq fS98r7 (.seq fS98r8 (.cond (.tmp 48) (.seq fS98r9 .ret) .skip))) (.seq fS98r10 (.seq fS98r11 (.seq fS98r12 .ret)))))) .skip)) (.seq (.seq fS98r13 (.cond (.tmp 64) (.seq fS98r14 (.seq (.seq fS98r15 fS98b1) fS98r20)) .skip)) (.seq fS98r21 .ret)))))
theorem fB98:Try.f98.body.bind stripC=some fS98:=by kernel_rfl
def fS122r0:SC:=.reg [⟨some 6,.box 25 (.tmp 2),none⟩,⟨some 8,.assign (.const (.bool false)),none⟩]
def fS122r1:SC:=.reg [⟨some 13,.fieldAddr 25 (.tmp 6) 0,none⟩,⟨some 14,.load 3 (.tmp 13),none⟩,⟨some 15,.binOp .eql 3 (.tmp 14) (.const (.int .i64 1)) 3,none⟩]
def fS122r2:SC:=.reg [⟨some 16,.fieldAddr 25 (.tmp 6) 2,none⟩,⟨some 17,.load 3 (.tmp 16),none⟩,⟨some 18,.move (.tmp 1),none⟩,⟨some 19,.binOp .eql 3 (.tmp 17) (.tmp 18) 3,none⟩]
def fS122r3:SC:=.reg [⟨some 8,.assign (.const (.bool true)),none⟩]
def fS122r4:SC:=.draw [⟨some 21,.move (.tmp 0),none,[0]⟩,⟨some 22,.nilCheck (.tmp 21),none,[21]⟩,⟨some 23,.fieldAddr 145 (.tmp 22) 0,none,[22]⟩,⟨some 24,.load 143 (.tmp 23),none,[23]⟩,⟨some 25,.fieldAddr 25 (.tmp 6) 2,none,[6]⟩,⟨some 26,.load 3 (.tmp 25),none,[25]⟩,⟨some 27,.lookup 143 (.tmp 24) (.tmp 26) true,none,[24,26]⟩,⟨some 20,.move (.tmp 27),none,[27]⟩,⟨some 28,.extract (.tmp 20) 0,none,[20]⟩,⟨some 29,.extract (.tmp 20) 1,none,[20]⟩,⟨some 9,.alloc 25,none,[]⟩,⟨none,.store 25 (.tmp 9) (.tmp 28),none,[9,28]⟩,⟨some 10,.assign (.tmp 29),none,[29]⟩] [0,1,3,7,0,16,63,127,255,255,0,1535,4095]
def fS122r5:SC:=.reg [⟨some 30,.move (.tmp 10),none⟩,⟨some 31,.unOp .not 4 (.tmp 30),none⟩,⟨some 32,.move (.tmp 31),none⟩,⟨some 33,.move (.tmp 3),some (32,false)⟩,⟨some 34,.fieldAddr 25 (.tmp 6) 2,some (32,false)⟩,⟨some 35,.load 3 (.tmp 34),some (32,false)⟩,⟨some 36,.lookup 114 (.tmp 33) (.tmp 35) false,some (32,false)⟩,⟨some 37,.pick (.tmp 32) (.const (.bool true)) (.tmp 36),none⟩]
def fS122r6:SC:=.reg [⟨some 8,.assign (.const (.bool false)),none⟩]
def fS122r7:SC:=.reg [⟨some 38,.move (.tmp 3),none⟩,⟨some 39,.fieldAddr 25 (.tmp 6) 2,none⟩,⟨some 40,.load 3 (.tmp 39),none⟩,⟨none,.mapUpdate 114 (.tmp 38) (.tmp 40) (.const (.bool true)),none⟩]
def fS122r8:SC:=.reg [⟨some 41,.move (.tmp 0),none⟩,⟨some 42,.move (.tmp 1),none⟩,⟨some 43,.load 25 (.tmp 9),none⟩,⟨some 44,.move (.tmp 3),none⟩,⟨some 45,.call ⟨.value (.func 122),#[(.tmp 41),(.tmp 42),(.tmp 43),(.tmp 44)],#[120,3,25,114]⟩,none⟩,⟨some 8,.assign (.tmp 45),none⟩]
def fS122r9:SC:=.reg [⟨some 46,.fieldAddr 25 (.tmp 6) 4,none⟩,⟨some 47,.load 23 (.tmp 46),none⟩,⟨some 48,.call ⟨.builtin .len,#[(.tmp 47)],#[23]⟩,none⟩,⟨some 49,.move (.const (.int .i64 0)),none⟩]
def fS122r10:SC:=.reg [⟨some 50,.binOp .lss 3 (.tmp 49) (.tmp 48) 3,none⟩]
def fS122r11:SC:=.reg [⟨some 51,.indexAddr 23 (.tmp 47) (.tmp 49),none⟩,⟨some 52,.load 25 (.tmp 51),none⟩,⟨some 12,.alloc 25,none⟩,⟨none,.store 25 (.tmp 12) (.tmp 52),none⟩]
def fS122r12:SC:=.reg [⟨some 53,.move (.tmp 0),none⟩,⟨some 54,.move (.tmp 1),none⟩,⟨some 55,.load 25 (.tmp 12),none⟩,⟨some 56,.move (.tmp 3),none⟩,⟨some 57,.call ⟨.value (.func 122),#[(.tmp 53),(.tmp 54),(.tmp 55),(.tmp 56)],#[120,3,25,114]⟩,none⟩]
def fS122r13:SC:=.reg [⟨some 8,.assign (.const (.bool true)),none⟩]
def fS122b0:SC:=.block 1 (.seq fS122r11 (.seq fS122r12 (.cond (.tmp 57) (.seq fS122r13 .ret) .skip)))
def fS122r14:SC:=.reg [⟨some 58,.binOp .add 3 (.tmp 49) (.const (.int .i64 1)) 3,none⟩,⟨some 49,.move (.tmp 58),none⟩]
def fS122l0:SC:=(.seq fS122r10 (.seq (.cond (.tmp 50) .skip (.exit 0)) (.seq fS122b0 fS122r14)))
def fS122b1:SC:=.block 0 (.loop fS122l0)
def fS122r15:SC:=.reg [⟨some 8,.assign (.const (.bool false)),none⟩]
def fS122:SC:=(.seq fS122r0 (.seq (.seq fS122r1 (.cond (.tmp 15) (.seq (.seq fS122r2 (.cond (.tmp 19) (.seq fS122r3 .ret) .skip)) (.seq fS122r4 (.seq (.seq fS122r5 (.cond (.tmp 37) (.seq fS122r6 .ret) .skip)) (.seq fS122r7 (.seq fS122r8 .ret))))) .skip)) (.seq (.seq fS122r9 fS122b1) (.seq fS122r15 .ret))))
theorem fB122:Try.f122.body.bind stripC=some fS122:=by kernel_rfl
def fS83r0:SC:=.reg [⟨some 2,.assign (.const (.slice none 0 0)),none⟩]
def fS83r1:SC:=.reg [⟨some 3,.alloc 22,none⟩]
def fS83r2:SC:=.reg [⟨some 6,.move (.tmp 0),none⟩,⟨some 7,.call ⟨.builtin .len,#[(.tmp 6)],#[23]⟩,none⟩,⟨some 8,.move (.const (.int .i64 0)),none⟩]
def fS83r3:SC:=.reg [⟨some 9,.binOp .lss 3 (.tmp 8) (.tmp 7) 3,none⟩]
def fS83r4:SC:=.reg [⟨some 10,.indexAddr 23 (.tmp 6) (.tmp 8),none⟩,⟨some 11,.load 25 (.tmp 10),none⟩,⟨some 5,.alloc 25,none⟩,⟨none,.store 25 (.tmp 5) (.tmp 11),none⟩]
def fS83r5:SC:=.reg [⟨some 12,.load 25 (.tmp 5),none⟩,⟨some 13,.makeFunc (.func 100) #[] #[(.tmp 3)],none⟩,⟨some 14,.call ⟨.value (.func 99),#[(.tmp 12),(.tmp 13)],#[25,115]⟩,none⟩]
def fS83b0:SC:=.block 1 (.seq fS83r4 fS83r5)
def fS83r6:SC:=.reg [⟨some 15,.binOp .add 3 (.tmp 8) (.const (.int .i64 1)) 3,none⟩,⟨some 8,.move (.tmp 15),none⟩]
def fS83l0:SC:=(.seq fS83r3 (.seq (.cond (.tmp 9) .skip (.exit 0)) (.seq fS83b0 fS83r6)))
def fS83b1:SC:=.block 0 (.loop fS83l0)
def fS83r7:SC:=.reg [⟨some 16,.load 22 (.tmp 3),none⟩,⟨some 2,.assign (.tmp 16),none⟩]
def fS83:SC:=(.seq fS83r0 (.seq fS83r1 (.seq (.seq fS83r2 fS83b1) (.seq fS83r7 .ret))))
theorem fB83:Try.f83.body.bind stripC=some fS83:=by kernel_rfl
def fS100r0:SC:=.reg [⟨some 2,.box 25 (.tmp 0),none⟩]
def fS100r1:SC:=.reg [⟨some 3,.fieldAddr 25 (.tmp 2) 0,none⟩,⟨some 4,.load 3 (.tmp 3),none⟩,⟨some 5,.binOp .eql 3 (.tmp 4) (.const (.int .i64 1)) 3,none⟩,⟨some 6,.move (.tmp 5),none⟩,⟨some 7,.load 22 (.tmp 1),some (6,true)⟩,⟨some 8,.fieldAddr 25 (.tmp 2) 2,some (6,true)⟩,⟨some 9,.load 3 (.tmp 8),some (6,true)⟩,⟨some 10,.call ⟨.value (.func 101),#[(.tmp 7),(.tmp 9)],#[22,3]⟩,some (6,true)⟩,⟨some 11,.unOp .not 4 (.tmp 10),some (6,true)⟩,⟨some 12,.pick (.tmp 6) (.tmp 11) (.const (.bool false)),none⟩]
def fS100r2:SC:=.reg [⟨some 13,.load 22 (.tmp 1),none⟩,⟨some 14,.fieldAddr 25 (.tmp 2) 2,none⟩,⟨some 15,.load 3 (.tmp 14),none⟩,⟨some 16,.buildSlice 22 1 #[(0,(.tmp 15))],none⟩,⟨some 17,.call ⟨.builtin .append,#[(.tmp 13),(.tmp 16)],#[22,22]⟩,none⟩,⟨none,.store 22 (.tmp 1) (.tmp 17),none⟩]
def fS100:SC:=(.seq fS100r0 (.seq fS100r1 (.cond (.tmp 12) fS100r2 .skip)))
theorem fB100:Try.f100.body.bind stripC=some fS100:=by kernel_rfl
def fS99r0:SC:=.reg [⟨some 2,.box 25 (.tmp 0),none⟩]
def fS99r1:SC:=.reg [⟨some 6,.move (.tmp 1),none⟩,⟨some 7,.load 25 (.tmp 2),none⟩,⟨some 8,.call ⟨.value (.tmp 6),#[(.tmp 7)],#[25]⟩,none⟩]
def fS99r2:SC:=.reg [⟨some 9,.fieldAddr 25 (.tmp 2) 4,none⟩,⟨some 10,.load 23 (.tmp 9),none⟩,⟨some 11,.call ⟨.builtin .len,#[(.tmp 10)],#[23]⟩,none⟩,⟨some 12,.move (.const (.int .i64 0)),none⟩]
def fS99r3:SC:=.reg [⟨some 13,.binOp .lss 3 (.tmp 12) (.tmp 11) 3,none⟩]
def fS99r4:SC:=.reg [⟨some 14,.indexAddr 23 (.tmp 10) (.tmp 12),none⟩,⟨some 15,.load 25 (.tmp 14),none⟩,⟨some 5,.alloc 25,none⟩,⟨none,.store 25 (.tmp 5) (.tmp 15),none⟩]
def fS99r5:SC:=.reg [⟨some 16,.load 25 (.tmp 5),none⟩,⟨some 17,.move (.tmp 1),none⟩,⟨some 18,.call ⟨.value (.func 99),#[(.tmp 16),(.tmp 17)],#[25,115]⟩,none⟩]
def fS99b0:SC:=.block 1 (.seq fS99r4 fS99r5)
def fS99r6:SC:=.reg [⟨some 19,.binOp .add 3 (.tmp 12) (.const (.int .i64 1)) 3,none⟩,⟨some 12,.move (.tmp 19),none⟩]
def fS99l0:SC:=(.seq fS99r3 (.seq (.cond (.tmp 13) .skip (.exit 0)) (.seq fS99b0 fS99r6)))
def fS99b1:SC:=.block 0 (.loop fS99l0)
def fS99:SC:=(.seq fS99r0 (.seq fS99r1 (.seq fS99r2 fS99b1)))
theorem fB99:Try.f99.body.bind stripC=some fS99:=by kernel_rfl
def fS101r0:SC:=.reg [⟨some 4,.assign (.const (.bool false)),none⟩]
def fS101r1:SC:=.reg [⟨some 5,.move (.tmp 0),none⟩,⟨some 6,.move (.tmp 1),none⟩,⟨some 7,.call ⟨.value (.func 123),#[(.tmp 5),(.tmp 6)],#[22,3]⟩,none⟩,⟨some 8,.binOp .geq 3 (.tmp 7) (.const (.int .i64 0)) 3,none⟩,⟨some 4,.assign (.tmp 8),none⟩]
def fS101:SC:=(.seq fS101r0 (.seq fS101r1 .ret))
theorem fB101:Try.f101.body.bind stripC=some fS101:=by kernel_rfl
def fS123r0:SC:=.reg [⟨some 4,.assign (.const (.int .i64 0)),none⟩]
def fS123r1:SC:=.reg [⟨some 6,.move (.tmp 0),none⟩,⟨some 7,.call ⟨.builtin .len,#[(.tmp 6)],#[22]⟩,none⟩,⟨some 8,.move (.const (.int .i64 0)),none⟩]
def fS123r2:SC:=.reg [⟨some 9,.binOp .lss 3 (.tmp 8) (.tmp 7) 3,none⟩]
def fS123r3:SC:=.reg [⟨some 10,.move (.tmp 8),none⟩,⟨some 5,.assign (.tmp 10),none⟩]
def fS123r4:SC:=.reg [⟨some 11,.move (.tmp 1),none⟩,⟨some 12,.move (.tmp 0),none⟩,⟨some 13,.move (.tmp 5),none⟩,⟨some 14,.indexAddr 22 (.tmp 12) (.tmp 13),none⟩,⟨some 15,.load 3 (.tmp 14),none⟩,⟨some 16,.binOp .eql 3 (.tmp 11) (.tmp 15) 3,none⟩]
def fS123r5:SC:=.reg [⟨some 17,.move (.tmp 5),none⟩,⟨some 4,.assign (.tmp 17),none⟩]
def fS123b0:SC:=.block 1 (.seq fS123r3 (.seq fS123r4 (.cond (.tmp 16) (.seq fS123r5 .ret) .skip)))
def fS123r6:SC:=.reg [⟨some 18,.binOp .add 3 (.tmp 8) (.const (.int .i64 1)) 3,none⟩,⟨some 8,.move (.tmp 18),none⟩]
def fS123l0:SC:=(.seq fS123r2 (.seq (.cond (.tmp 9) .skip (.exit 0)) (.seq fS123b0 fS123r6)))
def fS123b1:SC:=.block 0 (.loop fS123l0)
def fS123r7:SC:=.reg [⟨some 4,.assign (.const (.int .i64 (-1))),none⟩]
def fS123:SC:=(.seq fS123r0 (.seq (.seq fS123r1 fS123b1) (.seq fS123r7 .ret)))
theorem fB123:Try.f123.body.bind stripC=some fS123:=by kernel_rfl
end Go.Proofs.Ythfcfmkdeheicaa
