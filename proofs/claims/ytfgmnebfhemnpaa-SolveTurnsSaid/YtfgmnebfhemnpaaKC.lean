import Derived.Test.YtfgmnebfhemnpaaKT
import Derived.Test.YtfgmnebfhemnpaaJH
import Derived.Test.YtfgmnebfhemnpaaRows
set_option linter.all false
noncomputable section
namespace Go.Proofs.Ytfgmnebfhemnpaa
open Go.J
def fS23r0:SC:=.reg [⟨some 4,.assign (.const (.slice none 0 0)),none⟩]
def fS23r1:SC:=.reg [⟨some 5,.assign (.const (.slice none 0 0)),none⟩]
def fS23r2:SC:=.reg [⟨some 10,.move (.tmp 1),none⟩,⟨some 11,.call ⟨.builtin .len,#[.tmp 10],#[22]⟩,none⟩,⟨some 12,.move (.const (.int .i64 0)),none⟩]
def fS23r3:SC:=.reg [⟨some 13,.binOp .lss 3 (.tmp 12) (.tmp 11) 3,none⟩]
def fS23r4:SC:=.reg [⟨some 14,.indexAddr 22 (.tmp 10) (.tmp 12),none⟩,⟨some 15,.load 3 (.tmp 14),none⟩,⟨some 7,.assign (.tmp 15),none⟩]
def fS23r5:SC:=.reg [⟨some 17,.move (.tmp 0),none⟩,⟨some 18,.nilCheck (.tmp 17),none⟩,⟨some 19,.fieldAddr 76 (.tmp 18) 0,none⟩,⟨some 20,.load 74 (.tmp 19),none⟩,⟨some 21,.move (.tmp 7),none⟩,⟨some 22,.lookup 74 (.tmp 20) (.tmp 21) true,none⟩,⟨some 16,.move (.tmp 22),none⟩,⟨some 23,.extract (.tmp 16) 0,none⟩,⟨some 24,.extract (.tmp 16) 1,none⟩,⟨some 8,.alloc 31,none⟩,⟨none,.store 31 (.tmp 8) (.tmp 23),none⟩,⟨some 9,.assign (.tmp 24),none⟩]
def fS23r6:SC:=.reg [⟨some 25,.move (.tmp 9),none⟩]
def fS23r7:SC:=.reg [⟨some 26,.move (.tmp 5),none⟩,⟨some 27,.move (.tmp 7),none⟩,⟨some 28,.move (.tmp 0),none⟩,⟨some 29,.move (.tmp 7),none⟩,⟨some 30,.call ⟨.value (.func 22),#[.tmp 29],#[3]⟩,none⟩,⟨some 31,.call ⟨.value (.func 37),#[.tmp 28,.tmp 30],#[50,31]⟩,none⟩,⟨some 32,.build 82 #[(0,(.tmp 27)),(1,(.tmp 31))],none⟩,⟨some 33,.buildSlice 34 1 #[(0,(.tmp 32))],none⟩,⟨some 34,.call ⟨.builtin .append,#[.tmp 26,.tmp 33],#[34,34]⟩,none⟩,⟨some 5,.assign (.tmp 34),none⟩]
def fS23b0:SC:=.block 1 (.seq fS23r4 (.seq fS23r5 (.seq fS23r6 (.cond (.tmp 25) fS23r7 .skip))))
def fS23r8:SC:=.reg [⟨some 35,.binOp .add 3 (.tmp 12) (.const (.int .i64 1)) 3,none⟩,⟨some 12,.move (.tmp 35),none⟩]
def fS23l0:SC:=(.seq fS23r3 (.seq (.cond (.tmp 13) .skip (.exit 0)) (.seq fS23b0 fS23r8)))
def fS23b1:SC:=.block 0 (.loop fS23l0)
def fS23r9:SC:=.reg [⟨some 36,.move (.tmp 5),none⟩,⟨some 4,.assign (.tmp 36),none⟩]
def fS23:SC:=(.seq fS23r0 (.seq fS23r1 (.seq (.seq fS23r2 fS23b1) (.seq fS23r9 .ret))))
theorem fB23:Try.f23.body.bind stripC=some fS23:=by kernel_rfl
def fS37r0:SC:=.reg [⟨some 3,.box 31 (.tmp 1),none⟩,⟨some 4,.alloc 31,none⟩]
def fS37r1:SC:=.reg [⟨some 13,.move (.tmp 0),none⟩,⟨some 14,.nilCheck (.tmp 13),none⟩,⟨some 15,.fieldAddr 76 (.tmp 14) 1,none⟩,⟨some 16,.load 74 (.tmp 15),none⟩,⟨some 17,.binOp .eql 74 (.tmp 16) (.const (.map none)) 74,none⟩]
def fS37r2:SC:=.reg [⟨some 18,.move (.tmp 0),none⟩,⟨some 19,.makeMap 74 none,none⟩,⟨some 20,.nilCheck (.tmp 18),none⟩,⟨some 21,.fieldAddr 76 (.tmp 20) 1,none⟩,⟨none,.store 74 (.tmp 21) (.tmp 19),none⟩]
def fS37r3:SC:=.reg [⟨some 22,.fieldAddr 31 (.tmp 3) 0,none⟩,⟨some 23,.load 3 (.tmp 22),none⟩,⟨some 24,.binOp .eql 3 (.tmp 23) (.const (.int .i64 1)) 3,none⟩]
def fS37r4:SC:=.draw [⟨some 26,.move (.tmp 0),none,[0]⟩,⟨some 27,.nilCheck (.tmp 26),none,[26]⟩,⟨some 28,.fieldAddr 76 (.tmp 27) 0,none,[27]⟩,⟨some 29,.load 74 (.tmp 28),none,[28]⟩,⟨some 30,.fieldAddr 31 (.tmp 3) 2,none,[3]⟩,⟨some 31,.load 3 (.tmp 30),none,[30]⟩,⟨some 32,.lookup 74 (.tmp 29) (.tmp 31) true,none,[29,31]⟩,⟨some 25,.move (.tmp 32),none,[32]⟩,⟨some 33,.extract (.tmp 25) 0,none,[25]⟩,⟨some 34,.extract (.tmp 25) 1,none,[25]⟩,⟨some 5,.alloc 31,none,[]⟩,⟨none,.store 31 (.tmp 5) (.tmp 33),none,[5,33]⟩,⟨some 6,.assign (.tmp 34),none,[34]⟩] [0,1,3,7,0,16,63,127,255,255,0,1535,4095]
def fS37r5:SC:=.reg [⟨some 35,.move (.tmp 6),none⟩,⟨some 36,.unOp .not 4 (.tmp 35),none⟩]
def fS37r6:SC:=.reg [⟨some 37,.load 31 (.tmp 3),none⟩,⟨none,.store 31 (.tmp 4) (.tmp 37),none⟩]
def fS37r7:SC:=.draw [⟨some 39,.move (.tmp 0),none,[0]⟩,⟨some 40,.nilCheck (.tmp 39),none,[39]⟩,⟨some 41,.fieldAddr 76 (.tmp 40) 1,none,[40]⟩,⟨some 42,.load 74 (.tmp 41),none,[41]⟩,⟨some 43,.fieldAddr 31 (.tmp 3) 2,none,[3]⟩,⟨some 44,.load 3 (.tmp 43),none,[43]⟩,⟨some 45,.lookup 74 (.tmp 42) (.tmp 44) true,none,[42,44]⟩,⟨some 38,.move (.tmp 45),none,[45]⟩,⟨some 46,.extract (.tmp 38) 0,none,[38]⟩,⟨some 47,.extract (.tmp 38) 1,none,[38]⟩,⟨some 7,.alloc 31,none,[]⟩,⟨none,.store 31 (.tmp 7) (.tmp 46),none,[7,46]⟩,⟨some 8,.assign (.tmp 47),none,[47]⟩] [0,1,3,7,0,16,63,127,255,255,0,1535,4095]
def fS37r8:SC:=.reg [⟨some 48,.move (.tmp 8),none⟩]
def fS37r9:SC:=.reg [⟨some 49,.load 31 (.tmp 7),none⟩,⟨none,.store 31 (.tmp 4) (.tmp 49),none⟩]
def fS37r10:SC:=.reg [⟨some 50,.move (.tmp 0),none⟩,⟨some 51,.load 31 (.tmp 5),none⟩,⟨some 52,.call ⟨.value (.func 37),#[.tmp 50,.tmp 51],#[50,31]⟩,none⟩,⟨some 9,.alloc 31,none⟩,⟨none,.store 31 (.tmp 9) (.tmp 52),none⟩]
def fS37r11:SC:=.draw [⟨some 53,.move (.tmp 0),none,[0]⟩,⟨some 54,.nilCheck (.tmp 53),none,[53]⟩,⟨some 55,.fieldAddr 76 (.tmp 54) 1,none,[54]⟩,⟨some 56,.load 74 (.tmp 55),none,[55]⟩,⟨some 57,.fieldAddr 31 (.tmp 3) 2,none,[3]⟩,⟨some 58,.load 3 (.tmp 57),none,[57]⟩,⟨some 59,.load 31 (.tmp 9),none,[9]⟩,⟨none,.mapUpdate 74 (.tmp 56) (.tmp 58) (.tmp 59),none,[56,58,59]⟩] [0,1,3,7,0,16,0,127]
def fS37r12:SC:=.reg [⟨some 60,.load 31 (.tmp 9),none⟩,⟨none,.store 31 (.tmp 4) (.tmp 60),none⟩]
def fS37r13:SC:=.reg [⟨some 61,.fieldAddr 31 (.tmp 3) 4,none⟩,⟨some 62,.load 29 (.tmp 61),none⟩,⟨some 63,.call ⟨.builtin .len,#[.tmp 62],#[29]⟩,none⟩,⟨some 64,.binOp .gtr 3 (.tmp 63) (.const (.int .i64 0)) 3,none⟩]
def fS37r14:SC:=.reg [⟨some 65,.fieldAddr 31 (.tmp 3) 4,none⟩,⟨some 66,.load 29 (.tmp 65),none⟩,⟨some 67,.call ⟨.builtin .len,#[.tmp 66],#[29]⟩,none⟩,⟨some 68,.makeSlice 29 (.tmp 67) (.tmp 67),none⟩,⟨some 10,.assign (.tmp 68),none⟩]
def fS37r15:SC:=.reg [⟨some 69,.fieldAddr 31 (.tmp 3) 4,none⟩,⟨some 70,.load 29 (.tmp 69),none⟩,⟨some 71,.call ⟨.builtin .len,#[.tmp 70],#[29]⟩,none⟩,⟨some 72,.move (.const (.int .i64 0)),none⟩]
def fS37r16:SC:=.reg [⟨some 73,.binOp .lss 3 (.tmp 72) (.tmp 71) 3,none⟩]
def fS37r17:SC:=.reg [⟨some 74,.move (.tmp 72),none⟩,⟨some 75,.indexAddr 29 (.tmp 70) (.tmp 72),none⟩,⟨some 76,.load 31 (.tmp 75),none⟩,⟨some 12,.alloc 31,none⟩,⟨some 11,.assign (.tmp 74),none⟩,⟨none,.store 31 (.tmp 12) (.tmp 76),none⟩]
def fS37r18:SC:=.reg [⟨some 77,.move (.tmp 10),none⟩,⟨some 78,.move (.tmp 11),none⟩,⟨some 79,.move (.tmp 0),none⟩,⟨some 80,.load 31 (.tmp 12),none⟩,⟨some 81,.call ⟨.value (.func 37),#[.tmp 79,.tmp 80],#[50,31]⟩,none⟩,⟨some 82,.indexAddr 29 (.tmp 77) (.tmp 78),none⟩,⟨none,.store 31 (.tmp 82) (.tmp 81),none⟩]
def fS37b0:SC:=.block 1 (.seq fS37r17 fS37r18)
def fS37r19:SC:=.reg [⟨some 83,.binOp .add 3 (.tmp 72) (.const (.int .i64 1)) 3,none⟩,⟨some 72,.move (.tmp 83),none⟩]
def fS37l0:SC:=(.seq fS37r16 (.seq (.cond (.tmp 73) .skip (.exit 0)) (.seq fS37b0 fS37r19)))
def fS37b1:SC:=.block 0 (.loop fS37l0)
def fS37r20:SC:=.reg [⟨some 84,.move (.tmp 10),none⟩,⟨some 85,.fieldAddr 31 (.tmp 3) 4,none⟩,⟨none,.store 29 (.tmp 85) (.tmp 84),none⟩]
def fS37r21:SC:=.reg [⟨some 86,.load 31 (.tmp 3),none⟩,⟨none,.store 31 (.tmp 4) (.tmp 86),none⟩]
def fS37:SC:=(.seq fS37r0 (.seq (.seq fS37r1 (.cond (.tmp 17) fS37r2 .skip)) (.seq (.seq fS37r3 (.cond (.tmp 24) (.seq fS37r4 (.seq (.seq fS37r5 (.cond (.tmp 36) (.seq fS37r6 .ret) .skip)) (.seq (.seq fS37r7 (.seq fS37r8 (.cond (.tmp 48) (.seq fS37r9 .ret) .skip))) (.seq fS37r10 (.seq fS37r11 (.seq fS37r12 .ret)))))) .skip)) (.seq (.seq fS37r13 (.cond (.tmp 64) (.seq fS37r14 (.seq (.seq fS37r15 fS37b1) fS37r20)) .skip)) (.seq fS37r21 .ret)))))
theorem fB37:Try.f37.body.bind stripC=some fS37:=by kernel_rfl
def fS18r0:SC:=.reg [⟨some 4,.box 31 (.tmp 1),none⟩,⟨some 6,.assign (.const (.int .i64 0)),none⟩]
def fS18r1:SC:=.reg [⟨some 10,.move (.tmp 0),none⟩,⟨some 11,.load 31 (.tmp 4),none⟩,⟨some 12,.call ⟨.value (.func 34),#[.tmp 10,.tmp 11],#[50,31]⟩,none⟩,⟨none,.store 31 (.tmp 4) (.tmp 12),none⟩]
def fS18r2:SC:=.reg [⟨some 7,.assign (.const (.int .i64 1)),none⟩]
def fS18r3:SC:=.reg [⟨some 13,.fieldAddr 31 (.tmp 4) 4,none⟩,⟨some 14,.load 29 (.tmp 13),none⟩,⟨some 15,.call ⟨.builtin .len,#[.tmp 14],#[29]⟩,none⟩,⟨some 16,.move (.const (.int .i64 0)),none⟩]
def fS18r4:SC:=.reg [⟨some 17,.binOp .lss 3 (.tmp 16) (.tmp 15) 3,none⟩]
def fS18r5:SC:=.reg [⟨some 18,.indexAddr 29 (.tmp 14) (.tmp 16),none⟩,⟨some 19,.load 31 (.tmp 18),none⟩,⟨some 9,.alloc 31,none⟩,⟨none,.store 31 (.tmp 9) (.tmp 19),none⟩]
def fS18r6:SC:=.reg [⟨some 20,.move (.tmp 7),none⟩,⟨some 21,.move (.tmp 2),none⟩,⟨some 22,.binOp .gtr 3 (.tmp 20) (.tmp 21) 3,none⟩]
def fS18r7:SC:=.reg [⟨some 23,.move (.tmp 7),none⟩,⟨some 24,.move (.tmp 0),none⟩,⟨some 25,.load 31 (.tmp 9),none⟩,⟨some 26,.move (.tmp 2),none⟩,⟨some 27,.move (.tmp 7),none⟩,⟨some 28,.binOp .sub 3 (.tmp 26) (.tmp 27) 3,none⟩,⟨some 29,.call ⟨.value (.func 18),#[.tmp 24,.tmp 25,.tmp 28],#[50,31,3]⟩,none⟩,⟨some 30,.binOp .add 3 (.tmp 23) (.tmp 29) 3,none⟩,⟨some 7,.assign (.tmp 30),none⟩]
def fS18b0:SC:=.block 1 (.seq fS18r5 (.seq (.seq fS18r6 (.cond (.tmp 22) (.exit 0) .skip)) fS18r7))
def fS18r8:SC:=.reg [⟨some 31,.binOp .add 3 (.tmp 16) (.const (.int .i64 1)) 3,none⟩,⟨some 16,.move (.tmp 31),none⟩]
def fS18l0:SC:=(.seq fS18r4 (.seq (.cond (.tmp 17) .skip (.exit 0)) (.seq fS18b0 fS18r8)))
def fS18b1:SC:=.block 0 (.loop fS18l0)
def fS18r9:SC:=.reg [⟨some 32,.move (.tmp 7),none⟩,⟨some 33,.move (.tmp 2),none⟩,⟨some 34,.binOp .add 3 (.tmp 33) (.const (.int .i64 1)) 3,none⟩,⟨some 35,.call ⟨.builtin .min,#[.tmp 32,.tmp 34],#[3,3]⟩,none⟩,⟨some 6,.assign (.tmp 35),none⟩]
def fS18:SC:=(.seq fS18r0 (.seq fS18r1 (.seq fS18r2 (.seq (.seq fS18r3 fS18b1) (.seq fS18r9 .ret)))))
theorem fB18:Try.f18.body.bind stripC=some fS18:=by kernel_rfl
def fS19r0:SC:=.reg [⟨some 4,.box 31 (.tmp 1),none⟩,⟨some 5,.box 31 (.tmp 2),none⟩,⟨some 6,.assign (.const (.int .i64 0)),none⟩]
def fS19r1:SC:=.reg [⟨some 9,.move (.tmp 0),none⟩,⟨some 10,.nilCheck (.tmp 9),none⟩,⟨some 11,.fieldAddr 76 (.tmp 10) 1,none⟩,⟨none,.store 74 (.tmp 11) (.const (.map none)),none⟩]
def fS19r2:SC:=.draw [⟨some 12,.move (.tmp 0),none,[0]⟩,⟨some 13,.load 31 (.tmp 4),none,[4]⟩,⟨some 14,.call ⟨.value (.func 34),#[.tmp 12,.tmp 13],#[50,31]⟩,none,[12,13]⟩,⟨some 15,.move (.tmp 0),none,[0]⟩,⟨some 16,.load 31 (.tmp 5),none,[5]⟩,⟨some 17,.call ⟨.value (.func 34),#[.tmp 15,.tmp 16],#[50,31]⟩,none,[15,16]⟩,⟨none,.store 31 (.tmp 4) (.tmp 14),none,[4,14]⟩,⟨none,.store 31 (.tmp 5) (.tmp 17),none,[5,17]⟩] [0,0,3,0,0,31,63,127]
def fS19r3:SC:=.reg [⟨some 19,.fieldAddr 31 (.tmp 4) 0,none⟩,⟨some 20,.load 3 (.tmp 19),none⟩,⟨some 21,.binOp .eql 3 (.tmp 20) (.const (.int .i64 1)) 3,none⟩,⟨some 22,.move (.tmp 21),none⟩,⟨some 23,.fieldAddr 31 (.tmp 5) 0,some (22,true)⟩,⟨some 24,.load 3 (.tmp 23),some (22,true)⟩,⟨some 25,.binOp .eql 3 (.tmp 24) (.const (.int .i64 1)) 3,some (22,true)⟩,⟨some 26,.pick (.tmp 22) (.tmp 25) (.const (.bool false)),none⟩,⟨some 27,.move (.tmp 26),none⟩,⟨some 28,.fieldAddr 31 (.tmp 4) 2,some (27,true)⟩,⟨some 29,.load 3 (.tmp 28),some (27,true)⟩,⟨some 30,.fieldAddr 31 (.tmp 5) 2,some (27,true)⟩,⟨some 31,.load 3 (.tmp 30),some (27,true)⟩,⟨some 32,.binOp .eql 3 (.tmp 29) (.tmp 31) 3,some (27,true)⟩,⟨some 33,.pick (.tmp 27) (.tmp 32) (.const (.bool false)),none⟩,⟨some 18,.assign (.tmp 33),none⟩]
def fS19r4:SC:=.reg [⟨some 6,.assign (.const (.int .i64 0)),none⟩]
def fS19r5:SC:=.reg [⟨some 35,.fieldAddr 31 (.tmp 4) 0,none⟩,⟨some 36,.load 3 (.tmp 35),none⟩,⟨some 37,.binOp .eql 3 (.tmp 36) (.const (.int .i64 1)) 3,none⟩,⟨some 34,.assign (.tmp 37),none⟩]
def fS19r6:SC:=.reg [⟨some 38,.move (.tmp 0),none⟩,⟨some 39,.fieldAddr 31 (.tmp 4) 2,none⟩,⟨some 40,.load 3 (.tmp 39),none⟩,⟨some 41,.load 31 (.tmp 5),none⟩,⟨some 42,.call ⟨.value (.func 35),#[.tmp 38,.tmp 40,.tmp 41],#[50,3,31]⟩,none⟩,⟨some 6,.assign (.tmp 42),none⟩]
def fS19r7:SC:=.reg [⟨some 44,.fieldAddr 31 (.tmp 5) 0,none⟩,⟨some 45,.load 3 (.tmp 44),none⟩,⟨some 46,.binOp .eql 3 (.tmp 45) (.const (.int .i64 1)) 3,none⟩,⟨some 43,.assign (.tmp 46),none⟩]
def fS19r8:SC:=.reg [⟨some 47,.move (.tmp 0),none⟩,⟨some 48,.fieldAddr 31 (.tmp 5) 2,none⟩,⟨some 49,.load 3 (.tmp 48),none⟩,⟨some 50,.load 31 (.tmp 4),none⟩,⟨some 51,.call ⟨.value (.func 35),#[.tmp 47,.tmp 49,.tmp 50],#[50,3,31]⟩,none⟩,⟨some 6,.assign (.tmp 51),none⟩]
def fS19r9:SC:=.reg [⟨some 53,.fieldAddr 31 (.tmp 4) 0,none⟩,⟨some 54,.load 3 (.tmp 53),none⟩,⟨some 55,.fieldAddr 31 (.tmp 5) 0,none⟩,⟨some 56,.load 3 (.tmp 55),none⟩,⟨some 57,.binOp .neq 3 (.tmp 54) (.tmp 56) 3,none⟩,⟨some 58,.move (.tmp 57),none⟩,⟨some 59,.fieldAddr 31 (.tmp 4) 1,some (58,false)⟩,⟨some 60,.load 9 (.tmp 59),some (58,false)⟩,⟨some 61,.fieldAddr 31 (.tmp 5) 1,some (58,false)⟩,⟨some 62,.load 9 (.tmp 61),some (58,false)⟩,⟨some 63,.binOp .neq 9 (.tmp 60) (.tmp 62) 9,some (58,false)⟩,⟨some 64,.pick (.tmp 58) (.const (.bool true)) (.tmp 63),none⟩,⟨some 65,.move (.tmp 64),none⟩,⟨some 66,.fieldAddr 31 (.tmp 4) 2,some (65,false)⟩,⟨some 67,.load 3 (.tmp 66),some (65,false)⟩,⟨some 68,.fieldAddr 31 (.tmp 5) 2,some (65,false)⟩,⟨some 69,.load 3 (.tmp 68),some (65,false)⟩,⟨some 70,.binOp .neq 3 (.tmp 67) (.tmp 69) 3,some (65,false)⟩,⟨some 71,.pick (.tmp 65) (.const (.bool true)) (.tmp 70),none⟩,⟨some 72,.move (.tmp 71),none⟩,⟨some 73,.fieldAddr 31 (.tmp 4) 3,some (72,false)⟩,⟨some 74,.load 3 (.tmp 73),some (72,false)⟩,⟨some 75,.fieldAddr 31 (.tmp 5) 3,some (72,false)⟩,⟨some 76,.load 3 (.tmp 75),some (72,false)⟩,⟨some 77,.binOp .neq 3 (.tmp 74) (.tmp 76) 3,some (72,false)⟩,⟨some 78,.pick (.tmp 72) (.const (.bool true)) (.tmp 77),none⟩,⟨some 79,.move (.tmp 78),none⟩,⟨some 80,.fieldAddr 31 (.tmp 4) 4,some (79,false)⟩,⟨some 81,.load 29 (.tmp 80),some (79,false)⟩,⟨some 82,.call ⟨.builtin .len,#[.tmp 81],#[29]⟩,some (79,false)⟩,⟨some 83,.fieldAddr 31 (.tmp 5) 4,some (79,false)⟩,⟨some 84,.load 29 (.tmp 83),some (79,false)⟩,⟨some 85,.call ⟨.builtin .len,#[.tmp 84],#[29]⟩,some (79,false)⟩,⟨some 86,.binOp .neq 3 (.tmp 82) (.tmp 85) 3,some (79,false)⟩,⟨some 87,.pick (.tmp 79) (.const (.bool true)) (.tmp 86),none⟩,⟨some 52,.assign (.tmp 87),none⟩]
def fS19r10:SC:=.reg [⟨some 6,.assign (.const (.int .i64 11)),none⟩]
def fS19b0:SC:=.block 0 (.seq fS19r3 (.cond (.tmp 18) (.seq fS19r4 .ret) (.seq fS19r5 (.cond (.tmp 34) (.seq fS19r6 .ret) (.seq fS19r7 (.cond (.tmp 43) (.seq fS19r8 .ret) (.seq fS19r9 (.cond (.tmp 52) (.seq fS19r10 .ret) .skip))))))))
def fS19r11:SC:=.reg [⟨some 88,.fieldAddr 31 (.tmp 4) 4,none⟩,⟨some 89,.load 29 (.tmp 88),none⟩,⟨some 90,.call ⟨.builtin .len,#[.tmp 89],#[29]⟩,none⟩,⟨some 91,.move (.const (.int .i64 0)),none⟩]
def fS19r12:SC:=.reg [⟨some 92,.binOp .lss 3 (.tmp 91) (.tmp 90) 3,none⟩]
def fS19r13:SC:=.reg [⟨some 93,.move (.tmp 91),none⟩,⟨some 7,.assign (.tmp 93),none⟩]
def fS19r14:SC:=.draw [⟨some 94,.move (.tmp 0),none,[0]⟩,⟨some 95,.fieldAddr 31 (.tmp 4) 4,none,[4]⟩,⟨some 96,.load 29 (.tmp 95),none,[95]⟩,⟨some 97,.move (.tmp 7),none,[7]⟩,⟨some 98,.indexAddr 29 (.tmp 96) (.tmp 97),none,[96,97]⟩,⟨some 99,.load 31 (.tmp 98),none,[98]⟩,⟨some 100,.fieldAddr 31 (.tmp 5) 4,none,[5]⟩,⟨some 101,.load 29 (.tmp 100),none,[100]⟩,⟨some 102,.move (.tmp 7),none,[7]⟩,⟨some 103,.indexAddr 29 (.tmp 101) (.tmp 102),none,[101,102]⟩,⟨some 104,.load 31 (.tmp 103),none,[103]⟩,⟨some 105,.call ⟨.value (.func 19),#[.tmp 94,.tmp 99,.tmp 104],#[50,31,31]⟩,none,[94,99,104]⟩,⟨some 8,.assign (.tmp 105),none,[105]⟩] [0,0,2,0,14,30,0,64,0,448,960,2047,4095]
def fS19r15:SC:=.reg [⟨some 106,.move (.tmp 8),none⟩,⟨some 107,.binOp .neq 35 (.tmp 106) (.const (.int .i64 0)) 35,none⟩]
def fS19r16:SC:=.reg [⟨some 108,.move (.tmp 8),none⟩,⟨some 6,.assign (.tmp 108),none⟩]
def fS19b1:SC:=.block 2 (.seq fS19r13 (.seq fS19r14 (.seq fS19r15 (.cond (.tmp 107) (.seq fS19r16 .ret) .skip))))
def fS19r17:SC:=.reg [⟨some 109,.binOp .add 3 (.tmp 91) (.const (.int .i64 1)) 3,none⟩,⟨some 91,.move (.tmp 109),none⟩]
def fS19l0:SC:=(.seq fS19r12 (.seq (.cond (.tmp 92) .skip (.exit 1)) (.seq fS19b1 fS19r17)))
def fS19b2:SC:=.block 1 (.loop fS19l0)
def fS19r18:SC:=.reg [⟨some 6,.assign (.const (.int .i64 0)),none⟩]
def fS19:SC:=(.seq fS19r0 (.seq fS19r1 (.seq fS19r2 (.seq fS19b0 (.seq (.seq fS19r11 fS19b2) (.seq fS19r18 .ret))))))
theorem fB19:Try.f19.body.bind stripC=some fS19:=by kernel_rfl
def fS34r0:SC:=.reg [⟨some 3,.box 31 (.tmp 1),none⟩,⟨some 4,.alloc 31,none⟩]
def fS34r1:SC:=.reg [⟨some 7,.fieldAddr 31 (.tmp 3) 0,none⟩,⟨some 8,.load 3 (.tmp 7),none⟩,⟨some 9,.binOp .eql 3 (.tmp 8) (.const (.int .i64 1)) 3,none⟩]
def fS34r2:SC:=.draw [⟨some 11,.move (.tmp 0),none,[0]⟩,⟨some 12,.nilCheck (.tmp 11),none,[11]⟩,⟨some 13,.fieldAddr 76 (.tmp 12) 0,none,[12]⟩,⟨some 14,.load 74 (.tmp 13),none,[13]⟩,⟨some 15,.fieldAddr 31 (.tmp 3) 2,none,[3]⟩,⟨some 16,.load 3 (.tmp 15),none,[15]⟩,⟨some 17,.lookup 74 (.tmp 14) (.tmp 16) true,none,[14,16]⟩,⟨some 10,.move (.tmp 17),none,[17]⟩,⟨some 18,.extract (.tmp 10) 0,none,[10]⟩,⟨some 19,.extract (.tmp 10) 1,none,[10]⟩,⟨some 5,.alloc 31,none,[]⟩,⟨none,.store 31 (.tmp 5) (.tmp 18),none,[5,18]⟩,⟨some 6,.assign (.tmp 19),none,[19]⟩] [0,1,3,7,0,16,63,127,255,255,0,1535,4095]
def fS34r3:SC:=.reg [⟨some 20,.move (.tmp 6),none⟩,⟨some 21,.unOp .not 4 (.tmp 20),none⟩]
def fS34r4:SC:=.reg [⟨some 22,.load 31 (.tmp 5),none⟩,⟨none,.store 31 (.tmp 3) (.tmp 22),none⟩]
def fS34b0:SC:=.block 1 (.seq fS34r2 (.seq (.seq fS34r3 (.cond (.tmp 21) (.exit 0) .skip)) fS34r4))
def fS34l0:SC:=(.seq (.seq fS34r1 (.cond (.tmp 9) .skip (.exit 0))) fS34b0)
def fS34b1:SC:=.block 0 (.loop fS34l0)
def fS34r5:SC:=.reg [⟨some 23,.load 31 (.tmp 3),none⟩,⟨none,.store 31 (.tmp 4) (.tmp 23),none⟩]
def fS34:SC:=(.seq fS34r0 (.seq fS34b1 (.seq fS34r5 .ret)))
theorem fB34:Try.f34.body.bind stripC=some fS34:=by kernel_rfl
def fS35r0:SC:=.reg [⟨some 5,.box 31 (.tmp 2),none⟩,⟨some 6,.assign (.const (.int .i64 0)),none⟩]
def fS35r1:SC:=.reg [⟨some 7,.move (.tmp 0),none⟩,⟨some 8,.move (.tmp 1),none⟩,⟨some 9,.load 31 (.tmp 5),none⟩,⟨some 10,.makeMap 101 none,none⟩,⟨some 11,.call ⟨.value (.func 49),#[.tmp 7,.tmp 8,.tmp 9,.tmp 10],#[50,3,31,101]⟩,none⟩]
def fS35r2:SC:=.reg [⟨some 6,.assign (.const (.int .i64 12)),none⟩]
def fS35r3:SC:=.draw [⟨some 12,.move (.tmp 0),none,[0]⟩,⟨some 13,.nilCheck (.tmp 12),none,[12]⟩,⟨some 14,.fieldAddr 76 (.tmp 13) 0,none,[13]⟩,⟨some 15,.load 74 (.tmp 14),none,[14]⟩,⟨some 16,.move (.tmp 1),none,[1]⟩,⟨some 17,.load 31 (.tmp 5),none,[5]⟩,⟨none,.mapUpdate 74 (.tmp 15) (.tmp 16) (.tmp 17),none,[15,16,17]⟩] [0,1,3,7,0,0,63]
def fS35r4:SC:=.reg [⟨some 6,.assign (.const (.int .i64 0)),none⟩]
def fS35:SC:=(.seq fS35r0 (.seq (.seq fS35r1 (.cond (.tmp 11) (.seq fS35r2 .ret) .skip)) (.seq fS35r3 (.seq fS35r4 .ret))))
theorem fB35:Try.f35.body.bind stripC=some fS35:=by kernel_rfl
def fS49r0:SC:=.reg [⟨some 6,.box 31 (.tmp 2),none⟩,⟨some 8,.assign (.const (.bool false)),none⟩]
def fS49r1:SC:=.reg [⟨some 13,.fieldAddr 31 (.tmp 6) 0,none⟩,⟨some 14,.load 3 (.tmp 13),none⟩,⟨some 15,.binOp .eql 3 (.tmp 14) (.const (.int .i64 1)) 3,none⟩]
def fS49r2:SC:=.reg [⟨some 16,.fieldAddr 31 (.tmp 6) 2,none⟩,⟨some 17,.load 3 (.tmp 16),none⟩,⟨some 18,.move (.tmp 1),none⟩,⟨some 19,.binOp .eql 3 (.tmp 17) (.tmp 18) 3,none⟩]
def fS49r3:SC:=.reg [⟨some 8,.assign (.const (.bool true)),none⟩]
def fS49r4:SC:=.draw [⟨some 21,.move (.tmp 0),none,[0]⟩,⟨some 22,.nilCheck (.tmp 21),none,[21]⟩,⟨some 23,.fieldAddr 76 (.tmp 22) 0,none,[22]⟩,⟨some 24,.load 74 (.tmp 23),none,[23]⟩,⟨some 25,.fieldAddr 31 (.tmp 6) 2,none,[6]⟩,⟨some 26,.load 3 (.tmp 25),none,[25]⟩,⟨some 27,.lookup 74 (.tmp 24) (.tmp 26) true,none,[24,26]⟩,⟨some 20,.move (.tmp 27),none,[27]⟩,⟨some 28,.extract (.tmp 20) 0,none,[20]⟩,⟨some 29,.extract (.tmp 20) 1,none,[20]⟩,⟨some 9,.alloc 31,none,[]⟩,⟨none,.store 31 (.tmp 9) (.tmp 28),none,[9,28]⟩,⟨some 10,.assign (.tmp 29),none,[29]⟩] [0,1,3,7,0,16,63,127,255,255,0,1535,4095]
def fS49r5:SC:=.reg [⟨some 30,.move (.tmp 10),none⟩,⟨some 31,.unOp .not 4 (.tmp 30),none⟩,⟨some 32,.move (.tmp 31),none⟩,⟨some 33,.move (.tmp 3),some (32,false)⟩,⟨some 34,.fieldAddr 31 (.tmp 6) 2,some (32,false)⟩,⟨some 35,.load 3 (.tmp 34),some (32,false)⟩,⟨some 36,.lookup 101 (.tmp 33) (.tmp 35) false,some (32,false)⟩,⟨some 37,.pick (.tmp 32) (.const (.bool true)) (.tmp 36),none⟩]
def fS49r6:SC:=.reg [⟨some 8,.assign (.const (.bool false)),none⟩]
def fS49r7:SC:=.reg [⟨some 38,.move (.tmp 3),none⟩,⟨some 39,.fieldAddr 31 (.tmp 6) 2,none⟩,⟨some 40,.load 3 (.tmp 39),none⟩,⟨none,.mapUpdate 101 (.tmp 38) (.tmp 40) (.const (.bool true)),none⟩]
def fS49r8:SC:=.reg [⟨some 41,.move (.tmp 0),none⟩,⟨some 42,.move (.tmp 1),none⟩,⟨some 43,.load 31 (.tmp 9),none⟩,⟨some 44,.move (.tmp 3),none⟩,⟨some 45,.call ⟨.value (.func 49),#[.tmp 41,.tmp 42,.tmp 43,.tmp 44],#[50,3,31,101]⟩,none⟩,⟨some 8,.assign (.tmp 45),none⟩]
def fS49r9:SC:=.reg [⟨some 46,.fieldAddr 31 (.tmp 6) 4,none⟩,⟨some 47,.load 29 (.tmp 46),none⟩,⟨some 48,.call ⟨.builtin .len,#[.tmp 47],#[29]⟩,none⟩,⟨some 49,.move (.const (.int .i64 0)),none⟩]
def fS49r10:SC:=.reg [⟨some 50,.binOp .lss 3 (.tmp 49) (.tmp 48) 3,none⟩]
def fS49r11:SC:=.reg [⟨some 51,.indexAddr 29 (.tmp 47) (.tmp 49),none⟩,⟨some 52,.load 31 (.tmp 51),none⟩,⟨some 12,.alloc 31,none⟩,⟨none,.store 31 (.tmp 12) (.tmp 52),none⟩]
def fS49r12:SC:=.reg [⟨some 53,.move (.tmp 0),none⟩,⟨some 54,.move (.tmp 1),none⟩,⟨some 55,.load 31 (.tmp 12),none⟩,⟨some 56,.move (.tmp 3),none⟩,⟨some 57,.call ⟨.value (.func 49),#[.tmp 53,.tmp 54,.tmp 55,.tmp 56],#[50,3,31,101]⟩,none⟩]
def fS49r13:SC:=.reg [⟨some 8,.assign (.const (.bool true)),none⟩]
def fS49b0:SC:=.block 1 (.seq fS49r11 (.seq fS49r12 (.cond (.tmp 57) (.seq fS49r13 .ret) .skip)))
def fS49r14:SC:=.reg [⟨some 58,.binOp .add 3 (.tmp 49) (.const (.int .i64 1)) 3,none⟩,⟨some 49,.move (.tmp 58),none⟩]
def fS49l0:SC:=(.seq fS49r10 (.seq (.cond (.tmp 50) .skip (.exit 0)) (.seq fS49b0 fS49r14)))
def fS49b1:SC:=.block 0 (.loop fS49l0)
def fS49r15:SC:=.reg [⟨some 8,.assign (.const (.bool false)),none⟩]
def fS49:SC:=(.seq fS49r0 (.seq (.seq fS49r1 (.cond (.tmp 15) (.seq (.seq fS49r2 (.cond (.tmp 19) (.seq fS49r3 .ret) .skip)) (.seq fS49r4 (.seq (.seq fS49r5 (.cond (.tmp 37) (.seq fS49r6 .ret) .skip)) (.seq fS49r7 (.seq fS49r8 .ret))))) .skip)) (.seq (.seq fS49r9 fS49b1) (.seq fS49r15 .ret))))
theorem fB49:Try.f49.body.bind stripC=some fS49:=by kernel_rfl
def fS13r0:SC:=.reg [⟨some 6,.assign (.const (.slice none 0 0)),none⟩]
def fS13r1:SC:=.reg [⟨some 7,.assign (.const (.slice none 0 0)),none⟩]
def fS13r2:SC:=.reg [⟨some 8,.assign (.const (.int .i64 0)),none⟩]
def fS13r3:SC:=.reg [⟨some 10,.move (.tmp 8),none⟩,⟨some 11,.move (.tmp 2),none⟩,⟨some 12,.binOp .lss 3 (.tmp 10) (.tmp 11) 3,none⟩]
def fS13r4:SC:=.reg [⟨some 15,.move (.tmp 0),none⟩,⟨some 16,.move (.tmp 1),none⟩,⟨some 17,.call ⟨.value (.func 31),#[(.const (.int .i64 4))],#[3]⟩,none⟩,⟨some 18,.call ⟨.value (.func 30),#[.tmp 15,.tmp 16,.tmp 17,(.const (.int .i64 2))],#[26,47,29,3]⟩,none⟩,⟨some 9,.alloc 31,none⟩,⟨none,.store 31 (.tmp 9) (.tmp 18),none⟩]
def fS13r5:SC:=.draw [⟨some 19,.move (.tmp 7),none,[7]⟩,⟨some 20,.load 31 (.tmp 9),none,[9]⟩,⟨some 21,.move (.tmp 0),none,[0]⟩,⟨some 22,.move (.tmp 1),none,[1]⟩,⟨some 23,.call ⟨.value (.func 31),#[(.const (.int .i64 4))],#[3]⟩,none,[]⟩,⟨some 24,.call ⟨.value (.func 32),#[(.const (.int .i64 0)),(.const (.int .i64 0))],#[3,3]⟩,none,[]⟩,⟨some 25,.buildSlice 29 1 #[(0,(.tmp 24))],none,[24]⟩,⟨some 26,.call ⟨.builtin .append,#[.tmp 23,.tmp 25],#[29,29]⟩,none,[23,25]⟩,⟨some 27,.call ⟨.value (.func 30),#[.tmp 21,.tmp 22,.tmp 26,(.const (.int .i64 2))],#[26,47,29,3]⟩,none,[21,22,26]⟩,⟨some 28,.build 33 #[(0,(.tmp 20)),(1,(.tmp 27))],none,[20,27]⟩,⟨some 29,.buildSlice 25 1 #[(0,(.tmp 28))],none,[28]⟩,⟨some 30,.call ⟨.builtin .append,#[.tmp 19,.tmp 29],#[25,25]⟩,none,[19,29]⟩,⟨some 7,.assign (.tmp 30),none,[30]⟩] [0,0,0,0,0,16,48,112,252,510,1022,2047,4095]
def fS13b0:SC:=.block 1 (.seq fS13r4 fS13r5)
def fS13r6:SC:=.reg [⟨some 13,.move (.tmp 8),none⟩,⟨some 14,.binOp .add 3 (.tmp 13) (.const (.int .i64 1)) 3,none⟩,⟨some 8,.assign (.tmp 14),none⟩]
def fS13l0:SC:=(.seq (.seq fS13r3 (.cond (.tmp 12) .skip (.exit 0))) (.seq fS13b0 fS13r6))
def fS13b1:SC:=.block 0 (.loop fS13l0)
def fS13r7:SC:=.reg [⟨some 31,.move (.tmp 7),none⟩,⟨some 6,.assign (.tmp 31),none⟩]
def fS13:SC:=(.seq fS13r0 (.seq fS13r1 (.seq (.seq fS13r2 fS13b1) (.seq fS13r7 .ret))))
theorem fB13:Try.f13.body.bind stripC=some fS13:=by kernel_rfl
def fS45r0:SC:=.reg [⟨some 4,.assign (.const (.int .i64 0)),none⟩]
def fS45r1:SC:=.draw [⟨some 5,.move (.tmp 0),none,[0]⟩,⟨some 6,.nilCheck (.tmp 5),none,[5]⟩,⟨some 7,.fieldAddr 45 (.tmp 6) 1,none,[6]⟩,⟨some 8,.load 3 (.tmp 7),none,[7]⟩,⟨some 9,.move (.tmp 0),none,[0]⟩,⟨some 10,.nilCheck (.tmp 9),none,[9]⟩,⟨some 11,.fieldAddr 45 (.tmp 10) 0,none,[10]⟩,⟨some 12,.load 22 (.tmp 11),none,[11]⟩,⟨some 13,.call ⟨.builtin .len,#[.tmp 12],#[22]⟩,none,[12]⟩,⟨some 14,.binOp .geq 3 (.tmp 8) (.tmp 13) 3,none,[8,13]⟩] [0,1,3,7,0,16,48,112,240,511]
def fS45r2:SC:=.reg [⟨some 4,.assign (.const (.int .i64 0)),none⟩]
def fS45r3:SC:=.reg [⟨some 15,.move (.tmp 0),none⟩,⟨some 16,.nilCheck (.tmp 15),none⟩,⟨some 17,.fieldAddr 45 (.tmp 16) 1,none⟩,⟨some 18,.load 3 (.tmp 17),none⟩,⟨some 19,.binOp .add 3 (.tmp 18) (.const (.int .i64 1)) 3,none⟩,⟨some 20,.nilCheck (.tmp 15),none⟩,⟨some 21,.fieldAddr 45 (.tmp 20) 1,none⟩,⟨none,.store 3 (.tmp 21) (.tmp 19),none⟩]
def fS45r4:SC:=.draw [⟨some 22,.move (.tmp 0),none,[0]⟩,⟨some 23,.nilCheck (.tmp 22),none,[22]⟩,⟨some 24,.fieldAddr 45 (.tmp 23) 0,none,[23]⟩,⟨some 25,.load 22 (.tmp 24),none,[24]⟩,⟨some 26,.move (.tmp 0),none,[0]⟩,⟨some 27,.nilCheck (.tmp 26),none,[26]⟩,⟨some 28,.fieldAddr 45 (.tmp 27) 1,none,[27]⟩,⟨some 29,.load 3 (.tmp 28),none,[28]⟩,⟨some 30,.binOp .sub 3 (.tmp 29) (.const (.int .i64 1)) 3,none,[29]⟩,⟨some 31,.indexAddr 22 (.tmp 25) (.tmp 30),none,[25,30]⟩,⟨some 32,.load 3 (.tmp 31),none,[31]⟩,⟨some 33,.move (.tmp 1),none,[1]⟩,⟨some 34,.call ⟨.value (.func 15),#[.tmp 32,.tmp 33],#[3,3]⟩,none,[32,33]⟩,⟨some 4,.assign (.tmp 34),none,[34]⟩] [0,1,3,7,0,16,48,112,240,511,1023,0,4095,8191]
def fS45:SC:=(.seq fS45r0 (.seq (.seq fS45r1 (.cond (.tmp 14) (.seq fS45r2 .ret) .skip)) (.seq fS45r3 (.seq fS45r4 .ret))))
theorem fB45:Try.f45.body.bind stripC=some fS45:=by kernel_rfl
def fS30r0:SC:=.reg [⟨some 8,.alloc 31,none⟩]
def fS30r1:SC:=.reg [⟨some 14,.move (.tmp 0),none⟩,⟨some 15,.call ⟨.value (.func 45),#[.tmp 14,(.const (.int .i64 7))],#[26,3]⟩,none⟩,⟨some 9,.assign (.tmp 15),none⟩]
def fS30r2:SC:=.reg [⟨some 17,.move (.tmp 9),none⟩,⟨some 18,.binOp .lss 3 (.tmp 17) (.const (.int .i64 3)) 3,none⟩,⟨some 19,.move (.tmp 18),none⟩,⟨some 20,.move (.tmp 2),some (19,true)⟩,⟨some 21,.call ⟨.builtin .len,#[.tmp 20],#[29]⟩,some (19,true)⟩,⟨some 22,.binOp .gtr 3 (.tmp 21) (.const (.int .i64 0)) 3,some (19,true)⟩,⟨some 23,.pick (.tmp 19) (.tmp 22) (.const (.bool false)),none⟩,⟨some 16,.assign (.tmp 23),none⟩]
def fS30r3:SC:=.reg [⟨some 24,.move (.tmp 2),none⟩,⟨some 25,.move (.tmp 0),none⟩,⟨some 26,.move (.tmp 2),none⟩,⟨some 27,.call ⟨.builtin .len,#[.tmp 26],#[29]⟩,none⟩,⟨some 28,.call ⟨.value (.func 45),#[.tmp 25,.tmp 27],#[26,3]⟩,none⟩,⟨some 29,.indexAddr 29 (.tmp 24) (.tmp 28),none⟩,⟨some 30,.load 31 (.tmp 29),none⟩,⟨none,.store 31 (.tmp 8) (.tmp 30),none⟩]
def fS30r4:SC:=.reg [⟨some 32,.move (.tmp 9),none⟩,⟨some 33,.binOp .lss 3 (.tmp 32) (.const (.int .i64 4)) 3,none⟩,⟨some 34,.move (.tmp 33),none⟩,⟨some 35,.move (.tmp 3),some (34,false)⟩,⟨some 36,.binOp .lss 3 (.tmp 35) (.const (.int .i64 1)) 3,some (34,false)⟩,⟨some 37,.pick (.tmp 34) (.const (.bool true)) (.tmp 36),none⟩,⟨some 31,.assign (.tmp 37),none⟩]
def fS30r5:SC:=.reg [⟨some 38,.call ⟨.value (.func 46),#[],#[]⟩,none⟩,⟨none,.store 31 (.tmp 8) (.tmp 38),none⟩]
def fS30r6:SC:=.reg [⟨some 40,.move (.tmp 9),none⟩,⟨some 41,.binOp .eql 3 (.tmp 40) (.const (.int .i64 4)) 3,none⟩,⟨some 42,.move (.tmp 41),none⟩,⟨some 43,.move (.tmp 1),some (42,true)⟩,⟨some 44,.call ⟨.builtin .len,#[.tmp 43],#[47]⟩,some (42,true)⟩,⟨some 45,.binOp .gtr 3 (.tmp 44) (.const (.int .i64 0)) 3,some (42,true)⟩,⟨some 46,.pick (.tmp 42) (.tmp 45) (.const (.bool false)),none⟩,⟨some 39,.assign (.tmp 46),none⟩]
def fS30r7:SC:=.reg [⟨some 47,.move (.tmp 9),none⟩,⟨some 48,.binOp .eql 3 (.tmp 47) (.const (.int .i64 5)) 3,none⟩,⟨some 49,.move (.tmp 48),none⟩,⟨some 50,.move (.tmp 1),some (49,true)⟩,⟨some 51,.call ⟨.builtin .len,#[.tmp 50],#[47]⟩,some (49,true)⟩,⟨some 52,.binOp .gtr 3 (.tmp 51) (.const (.int .i64 0)) 3,some (49,true)⟩,⟨some 53,.pick (.tmp 49) (.tmp 52) (.const (.bool false)),none⟩,⟨some 39,.assign (.tmp 53),none⟩]
def fS30r8:SC:=.reg [⟨some 54,.move (.tmp 1),none⟩,⟨some 55,.move (.tmp 0),none⟩,⟨some 56,.move (.tmp 1),none⟩,⟨some 57,.call ⟨.builtin .len,#[.tmp 56],#[47]⟩,none⟩,⟨some 58,.call ⟨.value (.func 45),#[.tmp 55,.tmp 57],#[26,3]⟩,none⟩,⟨some 59,.indexAddr 47 (.tmp 54) (.tmp 58),none⟩,⟨some 60,.load 72 (.tmp 59),none⟩,⟨some 10,.alloc 72,none⟩,⟨none,.store 72 (.tmp 10) (.tmp 60),none⟩]
def fS30r9:SC:=.reg [⟨some 11,.assign (.const (.slice none 0 0)),none⟩]
def fS30r10:SC:=.reg [⟨some 12,.assign (.const (.int .i64 0)),none⟩]
def fS30r11:SC:=.reg [⟨some 61,.move (.tmp 12),none⟩,⟨some 62,.fieldAddr 72 (.tmp 10) 2,none⟩,⟨some 63,.load 69 (.tmp 62),none⟩,⟨some 64,.call ⟨.builtin .len,#[.tmp 63],#[69]⟩,none⟩,⟨some 65,.binOp .lss 3 (.tmp 61) (.tmp 64) 3,none⟩]
def fS30r12:SC:=.reg [⟨some 68,.move (.tmp 11),none⟩,⟨some 69,.move (.tmp 0),none⟩,⟨some 70,.move (.tmp 1),none⟩,⟨some 71,.move (.tmp 2),none⟩,⟨some 72,.move (.tmp 3),none⟩,⟨some 73,.binOp .sub 3 (.tmp 72) (.const (.int .i64 1)) 3,none⟩,⟨some 74,.call ⟨.value (.func 30),#[.tmp 69,.tmp 70,.tmp 71,.tmp 73],#[26,47,29,3]⟩,none⟩,⟨some 75,.buildSlice 29 1 #[(0,(.tmp 74))],none⟩,⟨some 76,.call ⟨.builtin .append,#[.tmp 68,.tmp 75],#[29,29]⟩,none⟩,⟨some 11,.assign (.tmp 76),none⟩]
def fS30b0:SC:=.block 2 fS30r12
def fS30r13:SC:=.reg [⟨some 66,.move (.tmp 12),none⟩,⟨some 67,.binOp .add 3 (.tmp 66) (.const (.int .i64 1)) 3,none⟩,⟨some 12,.assign (.tmp 67),none⟩]
def fS30l0:SC:=(.seq (.seq fS30r11 (.cond (.tmp 65) .skip (.exit 1))) (.seq fS30b0 fS30r13))
def fS30b1:SC:=.block 1 (.loop fS30l0)
def fS30r14:SC:=.reg [⟨some 77,.fieldAddr 72 (.tmp 10) 1,none⟩,⟨some 78,.load 9 (.tmp 77),none⟩,⟨some 79,.move (.tmp 11),none⟩,⟨some 80,.call ⟨.value (.func 10),#[.tmp 78,.tmp 79],#[9,29]⟩,none⟩,⟨none,.store 31 (.tmp 8) (.tmp 80),none⟩]
def fS30b2:SC:=.block 0 (.seq fS30r2 (.cond (.tmp 16) (.seq fS30r3 .ret) (.seq fS30r4 (.cond (.tmp 31) (.seq fS30r5 .ret) (.seq (.seq fS30r6 (.cond (.tmp 39) .skip fS30r7)) (.cond (.tmp 39) (.seq fS30r8 (.seq fS30r9 (.seq (.seq fS30r10 fS30b1) (.seq fS30r14 .ret)))) .skip))))))
def fS30r15:SC:=.reg [⟨some 81,.move (.tmp 0),none⟩,⟨some 82,.move (.tmp 1),none⟩,⟨some 83,.move (.tmp 2),none⟩,⟨some 84,.move (.tmp 3),none⟩,⟨some 85,.binOp .sub 3 (.tmp 84) (.const (.int .i64 1)) 3,none⟩,⟨some 86,.call ⟨.value (.func 30),#[.tmp 81,.tmp 82,.tmp 83,.tmp 85],#[26,47,29,3]⟩,none⟩,⟨some 13,.alloc 31,none⟩,⟨none,.store 31 (.tmp 13) (.tmp 86),none⟩]
def fS30r16:SC:=.draw [⟨some 87,.load 31 (.tmp 13),none,[13]⟩,⟨some 88,.move (.tmp 0),none,[0]⟩,⟨some 89,.move (.tmp 1),none,[1]⟩,⟨some 90,.move (.tmp 2),none,[2]⟩,⟨some 91,.move (.tmp 3),none,[3]⟩,⟨some 92,.binOp .sub 3 (.tmp 91) (.const (.int .i64 1)) 3,none,[91]⟩,⟨some 93,.call ⟨.value (.func 30),#[.tmp 88,.tmp 89,.tmp 90,.tmp 92],#[26,47,29,3]⟩,none,[88,89,90,92]⟩,⟨some 94,.call ⟨.value (.func 47),#[.tmp 87,.tmp 93],#[31,31]⟩,none,[87,93]⟩,⟨none,.store 31 (.tmp 8) (.tmp 94),none,[8,94]⟩] [0,0,0,0,0,16,62,127,255]
def fS30:SC:=(.seq fS30r0 (.seq fS30r1 (.seq fS30b2 (.seq fS30r15 (.seq fS30r16 .ret)))))
theorem fB30:Try.f30.body.bind stripC=some fS30:=by kernel_rfl
def fS53r0:SC:=.reg [⟨some 4,.assign (.const (.int .i64 0)),none⟩]
def fS53r1:SC:=.reg [⟨some 7,.move (.tmp 0),none⟩,⟨some 8,.call ⟨.value (.func 66),#[.tmp 7],#[3]⟩,none⟩,⟨some 5,.assign (.tmp 8),none⟩]
def fS53r2:SC:=.reg [⟨some 9,.move (.tmp 1),none⟩,⟨some 10,.call ⟨.value (.func 66),#[.tmp 9],#[3]⟩,none⟩,⟨some 6,.assign (.tmp 10),none⟩]
def fS53r3:SC:=.reg [⟨some 11,.move (.tmp 5),none⟩]
def fS53r4:SC:=.reg [⟨some 12,.move (.tmp 6),none⟩]
def fS53r5:SC:=.reg [⟨some 4,.assign (.const (.int .i64 0)),none⟩]
def fS53r6:SC:=.reg [⟨some 4,.assign (.const (.int .i64 (-1))),none⟩]
def fS53r7:SC:=.reg [⟨some 13,.move (.tmp 6),none⟩]
def fS53r8:SC:=.reg [⟨some 4,.assign (.const (.int .i64 1)),none⟩]
def fS53r9:SC:=.reg [⟨some 14,.move (.tmp 0),none⟩,⟨some 15,.move (.tmp 1),none⟩,⟨some 16,.binOp .lss 3 (.tmp 14) (.tmp 15) 3,none⟩]
def fS53r10:SC:=.reg [⟨some 4,.assign (.const (.int .i64 (-1))),none⟩]
def fS53r11:SC:=.reg [⟨some 17,.move (.tmp 0),none⟩,⟨some 18,.move (.tmp 1),none⟩,⟨some 19,.binOp .gtr 3 (.tmp 17) (.tmp 18) 3,none⟩]
def fS53r12:SC:=.reg [⟨some 4,.assign (.const (.int .i64 1)),none⟩]
def fS53r13:SC:=.reg [⟨some 4,.assign (.const (.int .i64 0)),none⟩]
def fS53:SC:=(.seq fS53r0 (.seq fS53r1 (.seq fS53r2 (.seq (.seq fS53r3 (.cond (.tmp 11) (.seq (.seq fS53r4 (.cond (.tmp 12) (.seq fS53r5 .ret) .skip)) (.seq fS53r6 .ret)) .skip)) (.seq (.seq fS53r7 (.cond (.tmp 13) (.seq fS53r8 .ret) .skip)) (.seq (.seq fS53r9 (.cond (.tmp 16) (.seq fS53r10 .ret) .skip)) (.seq (.seq fS53r11 (.cond (.tmp 19) (.seq fS53r12 .ret) .skip)) (.seq fS53r13 .ret))))))))
theorem fB53:Try.f53.body.bind stripC=some fS53:=by kernel_rfl
def fS54r0:SC:=.reg [⟨some 4,.assign (.const (.int .i64 0)),none⟩]
def fS54r1:SC:=.reg [⟨some 7,.move (.tmp 0),none⟩,⟨some 8,.call ⟨.value (.func 67),#[.tmp 7],#[9]⟩,none⟩,⟨some 5,.assign (.tmp 8),none⟩]
def fS54r2:SC:=.reg [⟨some 9,.move (.tmp 1),none⟩,⟨some 10,.call ⟨.value (.func 67),#[.tmp 9],#[9]⟩,none⟩,⟨some 6,.assign (.tmp 10),none⟩]
def fS54r3:SC:=.reg [⟨some 11,.move (.tmp 5),none⟩]
def fS54r4:SC:=.reg [⟨some 12,.move (.tmp 6),none⟩]
def fS54r5:SC:=.reg [⟨some 4,.assign (.const (.int .i64 0)),none⟩]
def fS54r6:SC:=.reg [⟨some 4,.assign (.const (.int .i64 (-1))),none⟩]
def fS54r7:SC:=.reg [⟨some 13,.move (.tmp 6),none⟩]
def fS54r8:SC:=.reg [⟨some 4,.assign (.const (.int .i64 1)),none⟩]
def fS54r9:SC:=.reg [⟨some 14,.move (.tmp 0),none⟩,⟨some 15,.move (.tmp 1),none⟩,⟨some 16,.binOp .lss 9 (.tmp 14) (.tmp 15) 9,none⟩]
def fS54r10:SC:=.reg [⟨some 4,.assign (.const (.int .i64 (-1))),none⟩]
def fS54r11:SC:=.reg [⟨some 17,.move (.tmp 0),none⟩,⟨some 18,.move (.tmp 1),none⟩,⟨some 19,.binOp .gtr 9 (.tmp 17) (.tmp 18) 9,none⟩]
def fS54r12:SC:=.reg [⟨some 4,.assign (.const (.int .i64 1)),none⟩]
def fS54r13:SC:=.reg [⟨some 4,.assign (.const (.int .i64 0)),none⟩]
def fS54:SC:=(.seq fS54r0 (.seq fS54r1 (.seq fS54r2 (.seq (.seq fS54r3 (.cond (.tmp 11) (.seq (.seq fS54r4 (.cond (.tmp 12) (.seq fS54r5 .ret) .skip)) (.seq fS54r6 .ret)) .skip)) (.seq (.seq fS54r7 (.cond (.tmp 13) (.seq fS54r8 .ret) .skip)) (.seq (.seq fS54r9 (.cond (.tmp 16) (.seq fS54r10 .ret) .skip)) (.seq (.seq fS54r11 (.cond (.tmp 19) (.seq fS54r12 .ret) .skip)) (.seq fS54r13 .ret))))))))
theorem fB54:Try.f54.body.bind stripC=some fS54:=by kernel_rfl
def fS52r0:SC:=.reg [⟨some 2,.assign (.const (.int .i64 0)),none⟩]
def fS52r1:SC:=.reg [⟨some 3,.assign (.const (.int .i64 0)),none⟩]
def fS52r2:SC:=.reg [⟨some 6,.move (.tmp 0),none⟩,⟨some 7,.call ⟨.builtin .len,#[.tmp 6],#[22]⟩,none⟩,⟨some 8,.move (.const (.int .i64 0)),none⟩]
def fS52r3:SC:=.reg [⟨some 9,.binOp .lss 3 (.tmp 8) (.tmp 7) 3,none⟩]
def fS52r4:SC:=.reg [⟨some 10,.indexAddr 22 (.tmp 6) (.tmp 8),none⟩,⟨some 11,.load 3 (.tmp 10),none⟩,⟨some 5,.assign (.tmp 11),none⟩]
def fS52r5:SC:=.reg [⟨some 12,.move (.tmp 5),none⟩,⟨some 13,.move (.tmp 3),none⟩,⟨some 14,.binOp .neq 3 (.tmp 12) (.tmp 13) 3,none⟩]
def fS52r6:SC:=.reg [⟨some 15,.move (.tmp 5),none⟩,⟨some 2,.assign (.tmp 15),none⟩]
def fS52b0:SC:=.block 1 (.seq fS52r4 (.seq fS52r5 (.cond (.tmp 14) (.seq fS52r6 .ret) .skip)))
def fS52r7:SC:=.reg [⟨some 16,.binOp .add 3 (.tmp 8) (.const (.int .i64 1)) 3,none⟩,⟨some 8,.move (.tmp 16),none⟩]
def fS52l0:SC:=(.seq fS52r3 (.seq (.cond (.tmp 9) .skip (.exit 0)) (.seq fS52b0 fS52r7)))
def fS52b1:SC:=.block 0 (.loop fS52l0)
def fS52r8:SC:=.reg [⟨some 17,.move (.tmp 3),none⟩,⟨some 2,.assign (.tmp 17),none⟩]
def fS52:SC:=(.seq fS52r0 (.seq fS52r1 (.seq (.seq fS52r2 fS52b1) (.seq fS52r8 .ret))))
theorem fB52:Try.f52.body.bind stripC=some fS52:=by kernel_rfl
def fS66r0:SC:=.reg [⟨some 2,.assign (.const (.bool false)),none⟩]
def fS66r1:SC:=.reg [⟨some 3,.move (.tmp 0),none⟩,⟨some 4,.move (.tmp 0),none⟩,⟨some 5,.binOp .neq 3 (.tmp 3) (.tmp 4) 3,none⟩,⟨some 2,.assign (.tmp 5),none⟩]
def fS66:SC:=(.seq fS66r0 (.seq fS66r1 .ret))
theorem fB66:Try.f66.body.bind stripC=some fS66:=by kernel_rfl
def fS67r0:SC:=.reg [⟨some 2,.assign (.const (.bool false)),none⟩]
def fS67r1:SC:=.reg [⟨some 3,.move (.tmp 0),none⟩,⟨some 4,.move (.tmp 0),none⟩,⟨some 5,.binOp .neq 9 (.tmp 3) (.tmp 4) 9,none⟩,⟨some 2,.assign (.tmp 5),none⟩]
def fS67:SC:=(.seq fS67r0 (.seq fS67r1 .ret))
theorem fB67:Try.f67.body.bind stripC=some fS67:=by kernel_rfl
def fS55r0:SC:=.reg [⟨some 6,.assign (.const (.int .i64 0)),none⟩]
def fS55r1:SC:=.reg [⟨some 11,.move (.tmp 0),none⟩,⟨some 12,.call ⟨.builtin .len,#[.tmp 11],#[29]⟩,none⟩,⟨some 13,.move (.const (.int .i64 0)),none⟩]
def fS55r2:SC:=.reg [⟨some 14,.binOp .lss 3 (.tmp 13) (.tmp 12) 3,none⟩]
def fS55r3:SC:=.reg [⟨some 15,.move (.tmp 13),none⟩,⟨some 16,.indexAddr 29 (.tmp 11) (.tmp 13),none⟩,⟨some 17,.load 31 (.tmp 16),none⟩,⟨some 8,.alloc 31,none⟩,⟨some 7,.assign (.tmp 15),none⟩,⟨none,.store 31 (.tmp 8) (.tmp 17),none⟩]
def fS55r4:SC:=.reg [⟨some 18,.move (.tmp 7),none⟩,⟨some 19,.move (.tmp 1),none⟩,⟨some 20,.call ⟨.builtin .len,#[.tmp 19],#[29]⟩,none⟩,⟨some 21,.binOp .geq 3 (.tmp 18) (.tmp 20) 3,none⟩]
def fS55r5:SC:=.reg [⟨some 6,.assign (.const (.int .i64 1)),none⟩]
def fS55r6:SC:=.reg [⟨some 22,.move (.tmp 1),none⟩,⟨some 23,.move (.tmp 7),none⟩,⟨some 24,.indexAddr 29 (.tmp 22) (.tmp 23),none⟩,⟨some 25,.load 31 (.tmp 24),none⟩,⟨some 9,.alloc 31,none⟩,⟨none,.store 31 (.tmp 9) (.tmp 25),none⟩]
def fS55r7:SC:=.reg [⟨some 26,.move (.tmp 2),none⟩,⟨some 27,.load 31 (.tmp 8),none⟩,⟨some 28,.load 31 (.tmp 9),none⟩,⟨some 29,.call ⟨.value (.tmp 26),#[.tmp 27,.tmp 28],#[31,31]⟩,none⟩,⟨some 10,.assign (.tmp 29),none⟩]
def fS55r8:SC:=.reg [⟨some 30,.move (.tmp 10),none⟩,⟨some 31,.binOp .neq 3 (.tmp 30) (.const (.int .i64 0)) 3,none⟩]
def fS55r9:SC:=.reg [⟨some 32,.move (.tmp 10),none⟩,⟨some 6,.assign (.tmp 32),none⟩]
def fS55b0:SC:=.block 1 (.seq fS55r3 (.seq (.seq fS55r4 (.cond (.tmp 21) (.seq fS55r5 .ret) .skip)) (.seq fS55r6 (.seq fS55r7 (.seq fS55r8 (.cond (.tmp 31) (.seq fS55r9 .ret) .skip))))))
def fS55r10:SC:=.reg [⟨some 33,.binOp .add 3 (.tmp 13) (.const (.int .i64 1)) 3,none⟩,⟨some 13,.move (.tmp 33),none⟩]
def fS55l0:SC:=(.seq fS55r2 (.seq (.cond (.tmp 14) .skip (.exit 0)) (.seq fS55b0 fS55r10)))
def fS55b1:SC:=.block 0 (.loop fS55l0)
def fS55r11:SC:=.reg [⟨some 34,.move (.tmp 0),none⟩,⟨some 35,.call ⟨.builtin .len,#[.tmp 34],#[29]⟩,none⟩,⟨some 36,.move (.tmp 1),none⟩,⟨some 37,.call ⟨.builtin .len,#[.tmp 36],#[29]⟩,none⟩,⟨some 38,.binOp .lss 3 (.tmp 35) (.tmp 37) 3,none⟩]
def fS55r12:SC:=.reg [⟨some 6,.assign (.const (.int .i64 (-1))),none⟩]
def fS55r13:SC:=.reg [⟨some 6,.assign (.const (.int .i64 0)),none⟩]
def fS55:SC:=(.seq fS55r0 (.seq (.seq fS55r1 fS55b1) (.seq (.seq fS55r11 (.cond (.tmp 38) (.seq fS55r12 .ret) .skip)) (.seq fS55r13 .ret))))
theorem fB55:Try.f55.body.bind stripC=some fS55:=by kernel_rfl
def fS20r0:SC:=.reg [⟨some 4,.assign (.const (.bool false)),none⟩]
def fS20r1:SC:=.reg [⟨some 5,.move (.tmp 0),none⟩,⟨some 6,.move (.tmp 1),none⟩,⟨some 7,.call ⟨.value (.func 36),#[.tmp 5,.tmp 6],#[22,56]⟩,none⟩,⟨some 8,.binOp .geq 3 (.tmp 7) (.const (.int .i64 0)) 3,none⟩,⟨some 4,.assign (.tmp 8),none⟩]
def fS20:SC:=(.seq fS20r0 (.seq fS20r1 .ret))
theorem fB20:Try.f20.body.bind stripC=some fS20:=by kernel_rfl
def fS26r0:SC:=.reg [⟨some 4,.assign (.const (.bool false)),none⟩]
def fS26r1:SC:=.reg [⟨some 5,.move (.tmp 0),none⟩,⟨some 6,.move (.tmp 1),none⟩,⟨some 7,.call ⟨.value (.func 42),#[.tmp 5,.tmp 6],#[25,64]⟩,none⟩,⟨some 8,.binOp .geq 3 (.tmp 7) (.const (.int .i64 0)) 3,none⟩,⟨some 4,.assign (.tmp 8),none⟩]
def fS26:SC:=(.seq fS26r0 (.seq fS26r1 .ret))
theorem fB26:Try.f26.body.bind stripC=some fS26:=by kernel_rfl
def fS41r0:SC:=.reg [⟨some 4,.assign (.const (.bool false)),none⟩]
def fS41r1:SC:=.reg [⟨some 5,.move (.tmp 0),none⟩,⟨some 6,.move (.tmp 1),none⟩,⟨some 7,.call ⟨.value (.func 51),#[.tmp 5,.tmp 6],#[22,3]⟩,none⟩,⟨some 8,.binOp .geq 3 (.tmp 7) (.const (.int .i64 0)) 3,none⟩,⟨some 4,.assign (.tmp 8),none⟩]
def fS41:SC:=(.seq fS41r0 (.seq fS41r1 .ret))
theorem fB41:Try.f41.body.bind stripC=some fS41:=by kernel_rfl
def fS36r0:SC:=.reg [⟨some 4,.assign (.const (.int .i64 0)),none⟩]
def fS36r1:SC:=.reg [⟨some 6,.move (.tmp 0),none⟩,⟨some 7,.call ⟨.builtin .len,#[.tmp 6],#[22]⟩,none⟩,⟨some 8,.move (.const (.int .i64 0)),none⟩]
def fS36r2:SC:=.reg [⟨some 9,.binOp .lss 3 (.tmp 8) (.tmp 7) 3,none⟩]
def fS36r3:SC:=.reg [⟨some 10,.move (.tmp 8),none⟩,⟨some 5,.assign (.tmp 10),none⟩]
def fS36r4:SC:=.reg [⟨some 11,.move (.tmp 1),none⟩,⟨some 12,.move (.tmp 0),none⟩,⟨some 13,.move (.tmp 5),none⟩,⟨some 14,.indexAddr 22 (.tmp 12) (.tmp 13),none⟩,⟨some 15,.load 3 (.tmp 14),none⟩,⟨some 16,.call ⟨.value (.tmp 11),#[.tmp 15],#[3]⟩,none⟩]
def fS36r5:SC:=.reg [⟨some 17,.move (.tmp 5),none⟩,⟨some 4,.assign (.tmp 17),none⟩]
def fS36b0:SC:=.block 1 (.seq fS36r3 (.seq fS36r4 (.cond (.tmp 16) (.seq fS36r5 .ret) .skip)))
def fS36r6:SC:=.reg [⟨some 18,.binOp .add 3 (.tmp 8) (.const (.int .i64 1)) 3,none⟩,⟨some 8,.move (.tmp 18),none⟩]
def fS36l0:SC:=(.seq fS36r2 (.seq (.cond (.tmp 9) .skip (.exit 0)) (.seq fS36b0 fS36r6)))
def fS36b1:SC:=.block 0 (.loop fS36l0)
def fS36r7:SC:=.reg [⟨some 4,.assign (.const (.int .i64 (-1))),none⟩]
def fS36:SC:=(.seq fS36r0 (.seq (.seq fS36r1 fS36b1) (.seq fS36r7 .ret)))
theorem fB36:Try.f36.body.bind stripC=some fS36:=by kernel_rfl
def fS64r0:SC:=.reg [⟨some 4,.assign (.const (.int .i64 0)),none⟩]
def fS64r1:SC:=.reg [⟨some 6,.move (.tmp 0),none⟩,⟨some 7,.call ⟨.builtin .len,#[.tmp 6],#[34]⟩,none⟩,⟨some 8,.move (.const (.int .i64 0)),none⟩]
def fS64r2:SC:=.reg [⟨some 9,.binOp .lss 3 (.tmp 8) (.tmp 7) 3,none⟩]
def fS64r3:SC:=.reg [⟨some 10,.move (.tmp 8),none⟩,⟨some 5,.assign (.tmp 10),none⟩]
def fS64r4:SC:=.reg [⟨some 11,.move (.tmp 1),none⟩,⟨some 12,.move (.tmp 0),none⟩,⟨some 13,.move (.tmp 5),none⟩,⟨some 14,.indexAddr 34 (.tmp 12) (.tmp 13),none⟩,⟨some 15,.load 82 (.tmp 14),none⟩,⟨some 16,.call ⟨.value (.tmp 11),#[.tmp 15],#[82]⟩,none⟩]
def fS64r5:SC:=.reg [⟨some 17,.move (.tmp 5),none⟩,⟨some 4,.assign (.tmp 17),none⟩]
def fS64b0:SC:=.block 1 (.seq fS64r3 (.seq fS64r4 (.cond (.tmp 16) (.seq fS64r5 .ret) .skip)))
def fS64r6:SC:=.reg [⟨some 18,.binOp .add 3 (.tmp 8) (.const (.int .i64 1)) 3,none⟩,⟨some 8,.move (.tmp 18),none⟩]
def fS64l0:SC:=(.seq fS64r2 (.seq (.cond (.tmp 9) .skip (.exit 0)) (.seq fS64b0 fS64r6)))
def fS64b1:SC:=.block 0 (.loop fS64l0)
def fS64r7:SC:=.reg [⟨some 4,.assign (.const (.int .i64 (-1))),none⟩]
def fS64:SC:=(.seq fS64r0 (.seq (.seq fS64r1 fS64b1) (.seq fS64r7 .ret)))
theorem fB64:Try.f64.body.bind stripC=some fS64:=by kernel_rfl
def fS42r0:SC:=.reg [⟨some 4,.assign (.const (.int .i64 0)),none⟩]
def fS42r1:SC:=.reg [⟨some 6,.move (.tmp 0),none⟩,⟨some 7,.call ⟨.builtin .len,#[.tmp 6],#[25]⟩,none⟩,⟨some 8,.move (.const (.int .i64 0)),none⟩]
def fS42r2:SC:=.reg [⟨some 9,.binOp .lss 3 (.tmp 8) (.tmp 7) 3,none⟩]
def fS42r3:SC:=.reg [⟨some 10,.move (.tmp 8),none⟩,⟨some 5,.assign (.tmp 10),none⟩]
def fS42r4:SC:=.reg [⟨some 11,.move (.tmp 1),none⟩,⟨some 12,.move (.tmp 0),none⟩,⟨some 13,.move (.tmp 5),none⟩,⟨some 14,.indexAddr 25 (.tmp 12) (.tmp 13),none⟩,⟨some 15,.load 33 (.tmp 14),none⟩,⟨some 16,.call ⟨.value (.tmp 11),#[.tmp 15],#[33]⟩,none⟩]
def fS42r5:SC:=.reg [⟨some 17,.move (.tmp 5),none⟩,⟨some 4,.assign (.tmp 17),none⟩]
def fS42b0:SC:=.block 1 (.seq fS42r3 (.seq fS42r4 (.cond (.tmp 16) (.seq fS42r5 .ret) .skip)))
def fS42r6:SC:=.reg [⟨some 18,.binOp .add 3 (.tmp 8) (.const (.int .i64 1)) 3,none⟩,⟨some 8,.move (.tmp 18),none⟩]
def fS42l0:SC:=(.seq fS42r2 (.seq (.cond (.tmp 9) .skip (.exit 0)) (.seq fS42b0 fS42r6)))
def fS42b1:SC:=.block 0 (.loop fS42l0)
def fS42r7:SC:=.reg [⟨some 4,.assign (.const (.int .i64 (-1))),none⟩]
def fS42:SC:=(.seq fS42r0 (.seq (.seq fS42r1 fS42b1) (.seq fS42r7 .ret)))
theorem fB42:Try.f42.body.bind stripC=some fS42:=by kernel_rfl
def fS51r0:SC:=.reg [⟨some 4,.assign (.const (.int .i64 0)),none⟩]
def fS51r1:SC:=.reg [⟨some 6,.move (.tmp 0),none⟩,⟨some 7,.call ⟨.builtin .len,#[.tmp 6],#[22]⟩,none⟩,⟨some 8,.move (.const (.int .i64 0)),none⟩]
def fS51r2:SC:=.reg [⟨some 9,.binOp .lss 3 (.tmp 8) (.tmp 7) 3,none⟩]
def fS51r3:SC:=.reg [⟨some 10,.move (.tmp 8),none⟩,⟨some 5,.assign (.tmp 10),none⟩]
def fS51r4:SC:=.reg [⟨some 11,.move (.tmp 1),none⟩,⟨some 12,.move (.tmp 0),none⟩,⟨some 13,.move (.tmp 5),none⟩,⟨some 14,.indexAddr 22 (.tmp 12) (.tmp 13),none⟩,⟨some 15,.load 3 (.tmp 14),none⟩,⟨some 16,.binOp .eql 3 (.tmp 11) (.tmp 15) 3,none⟩]
def fS51r5:SC:=.reg [⟨some 17,.move (.tmp 5),none⟩,⟨some 4,.assign (.tmp 17),none⟩]
def fS51b0:SC:=.block 1 (.seq fS51r3 (.seq fS51r4 (.cond (.tmp 16) (.seq fS51r5 .ret) .skip)))
def fS51r6:SC:=.reg [⟨some 18,.binOp .add 3 (.tmp 8) (.const (.int .i64 1)) 3,none⟩,⟨some 8,.move (.tmp 18),none⟩]
def fS51l0:SC:=(.seq fS51r2 (.seq (.cond (.tmp 9) .skip (.exit 0)) (.seq fS51b0 fS51r6)))
def fS51b1:SC:=.block 0 (.loop fS51l0)
def fS51r7:SC:=.reg [⟨some 4,.assign (.const (.int .i64 (-1))),none⟩]
def fS51:SC:=(.seq fS51r0 (.seq (.seq fS51r1 fS51b1) (.seq fS51r7 .ret)))
theorem fB51:Try.f51.body.bind stripC=some fS51:=by kernel_rfl
def fS8r0:SC:=.reg [⟨some 6,.assign (.const (.bool false)),none⟩]
def fS8r1:SC:=.reg [⟨some 9,.move (.tmp 0),none⟩,⟨some 10,.move (.tmp 1),none⟩,⟨some 11,.call ⟨.value (.func 12),#[.tmp 9,.tmp 10],#[34,25]⟩,none⟩,⟨some 12,.unOp .not 4 (.tmp 11),none⟩,⟨some 13,.move (.tmp 12),none⟩,⟨some 14,.move (.tmp 2),some (13,false)⟩,⟨some 15,.move (.tmp 1),some (13,false)⟩,⟨some 16,.call ⟨.value (.func 12),#[.tmp 14,.tmp 15],#[34,25]⟩,some (13,false)⟩,⟨some 17,.unOp .not 4 (.tmp 16),some (13,false)⟩,⟨some 18,.pick (.tmp 13) (.const (.bool true)) (.tmp 17),none⟩]
def fS8r2:SC:=.reg [⟨some 6,.assign (.const (.bool false)),none⟩]
def fS8r3:SC:=.reg [⟨some 20,.move (.tmp 0),none⟩,⟨some 21,.move (.tmp 2),none⟩,⟨some 22,.move (.tmp 1),none⟩,⟨some 23,.call ⟨.value (.func 11),#[.tmp 22],#[25]⟩,none⟩,⟨some 24,.call ⟨.value (.func 24),#[.tmp 20,.tmp 21,.tmp 23],#[34,34,22]⟩,none⟩,⟨some 19,.move (.tmp 24),none⟩,⟨some 25,.extract (.tmp 19) 0,none⟩,⟨some 26,.extract (.tmp 19) 1,none⟩,⟨some 7,.assign (.tmp 25),none⟩,⟨some 8,.assign (.tmp 26),none⟩]
def fS8r4:SC:=.reg [⟨some 27,.move (.tmp 8),none⟩,⟨some 6,.assign (.tmp 27),none⟩]
def fS8:SC:=(.seq fS8r0 (.seq (.seq fS8r1 (.cond (.tmp 18) (.seq fS8r2 .ret) .skip)) (.seq fS8r3 (.seq fS8r4 .ret))))
theorem fB8:Try.f8.body.bind stripC=some fS8:=by kernel_rfl
def fS7r0:SC:=.reg [⟨some 2,.assign (.const (.slice none 0 0)),none⟩,⟨some 3,.assign (.const (.int .i64 0)),none⟩,⟨some 4,.assign (.const (.int .i64 0)),none⟩]
def fS7r1:SC:=.reg [⟨some 11,.move (.tmp 0),none⟩,⟨some 12,.call ⟨.value (.func 11),#[.tmp 11],#[25]⟩,none⟩,⟨some 5,.assign (.tmp 12),none⟩]
def fS7r2:SC:=.reg [⟨some 13,.call ⟨.value (.func 16),#[],#[]⟩,none⟩,⟨some 6,.alloc 50,none⟩,⟨none,.store 50 (.tmp 6) (.tmp 13),none⟩]
def fS7r3:SC:=.reg [⟨some 14,.makeFunc (.func 17) #[] #[.tmp 6],none⟩,⟨some 7,.alloc 53,none⟩,⟨none,.store 53 (.tmp 7) (.tmp 14),none⟩]
def fS7r4:SC:=.reg [⟨some 15,.move (.tmp 0),none⟩,⟨some 16,.call ⟨.builtin .len,#[.tmp 15],#[25]⟩,none⟩,⟨some 17,.move (.const (.int .i64 0)),none⟩]
def fS7r5:SC:=.reg [⟨some 18,.binOp .lss 3 (.tmp 17) (.tmp 16) 3,none⟩]
def fS7r6:SC:=.reg [⟨some 19,.move (.tmp 17),none⟩,⟨some 20,.indexAddr 25 (.tmp 15) (.tmp 17),none⟩,⟨some 21,.load 33 (.tmp 20),none⟩,⟨some 9,.alloc 33,none⟩,⟨some 8,.assign (.tmp 19),none⟩,⟨none,.store 33 (.tmp 9) (.tmp 21),none⟩]
def fS7r7:SC:=.reg [⟨some 22,.load 53 (.tmp 7),none⟩,⟨some 23,.fieldAddr 33 (.tmp 9) 0,none⟩,⟨some 24,.load 31 (.tmp 23),none⟩,⟨some 25,.call ⟨.value (.tmp 22),#[.tmp 24],#[31]⟩,none⟩,⟨some 26,.move (.tmp 25),none⟩,⟨some 27,.load 53 (.tmp 7),some (26,false)⟩,⟨some 28,.fieldAddr 33 (.tmp 9) 1,some (26,false)⟩,⟨some 29,.load 31 (.tmp 28),some (26,false)⟩,⟨some 30,.call ⟨.value (.tmp 27),#[.tmp 29],#[31]⟩,some (26,false)⟩,⟨some 31,.pick (.tmp 26) (.const (.bool true)) (.tmp 30),none⟩]
def fS7r8:SC:=.reg [⟨some 32,.move (.tmp 8),none⟩,⟨some 2,.assign (.const (.slice none 0 0)),none⟩,⟨some 3,.assign (.tmp 32),none⟩,⟨some 4,.assign (.const (.int .i64 15)),none⟩]
def fS7r9:SC:=.reg [⟨some 33,.load 50 (.tmp 6),none⟩,⟨some 34,.fieldAddr 33 (.tmp 9) 0,none⟩,⟨some 35,.load 31 (.tmp 34),none⟩,⟨some 36,.fieldAddr 33 (.tmp 9) 1,none⟩,⟨some 37,.load 31 (.tmp 36),none⟩,⟨some 38,.call ⟨.value (.func 19),#[.tmp 33,.tmp 35,.tmp 37],#[50,31,31]⟩,none⟩,⟨some 10,.assign (.tmp 38),none⟩]
def fS7r10:SC:=.reg [⟨some 39,.move (.tmp 10),none⟩,⟨some 40,.binOp .neq 35 (.tmp 39) (.const (.int .i64 0)) 35,none⟩]
def fS7r11:SC:=.reg [⟨some 41,.move (.tmp 8),none⟩,⟨some 42,.move (.tmp 10),none⟩,⟨some 2,.assign (.const (.slice none 0 0)),none⟩,⟨some 3,.assign (.tmp 41),none⟩,⟨some 4,.assign (.tmp 42),none⟩]
def fS7r12:SC:=.reg [⟨some 43,.move (.tmp 5),none⟩,⟨some 44,.makeFunc (.func 21) #[] #[.tmp 7],none⟩,⟨some 45,.call ⟨.value (.func 20),#[.tmp 43,.tmp 44],#[22,56]⟩,none⟩]
def fS7r13:SC:=.reg [⟨some 46,.move (.tmp 8),none⟩,⟨some 2,.assign (.const (.slice none 0 0)),none⟩,⟨some 3,.assign (.tmp 46),none⟩,⟨some 4,.assign (.const (.int .i64 15)),none⟩]
def fS7b0:SC:=.block 1 (.seq fS7r6 (.seq (.seq fS7r7 (.cond (.tmp 31) (.seq fS7r8 .ret) .skip)) (.seq (.seq fS7r9 (.seq fS7r10 (.cond (.tmp 40) (.seq fS7r11 .ret) .skip))) (.seq fS7r12 (.cond (.tmp 45) (.seq fS7r13 .ret) .skip)))))
def fS7r14:SC:=.reg [⟨some 47,.binOp .add 3 (.tmp 17) (.const (.int .i64 1)) 3,none⟩,⟨some 17,.move (.tmp 47),none⟩]
def fS7l0:SC:=(.seq fS7r5 (.seq (.cond (.tmp 18) .skip (.exit 0)) (.seq fS7b0 fS7r14)))
def fS7b1:SC:=.block 0 (.loop fS7l0)
def fS7r15:SC:=.reg [⟨some 48,.load 50 (.tmp 6),none⟩,⟨some 49,.move (.tmp 5),none⟩,⟨some 50,.call ⟨.value (.func 23),#[.tmp 48,.tmp 49],#[50,22]⟩,none⟩,⟨some 51,.move (.tmp 0),none⟩,⟨some 52,.call ⟨.builtin .len,#[.tmp 51],#[25]⟩,none⟩,⟨some 2,.assign (.tmp 50),none⟩,⟨some 3,.assign (.tmp 52),none⟩,⟨some 4,.assign (.const (.int .i64 0)),none⟩]
def fS7:SC:=(.seq fS7r0 (.seq fS7r1 (.seq fS7r2 (.seq fS7r3 (.seq (.seq fS7r4 fS7b1) (.seq fS7r15 .ret))))))
theorem fB7:Try.f7.body.bind stripC=some fS7:=by kernel_rfl
def fS17r0:SC:=.reg [⟨some 2,.box 31 (.tmp 0),none⟩,⟨some 3,.assign (.const (.bool false)),none⟩]
def fS17r1:SC:=.reg [⟨some 4,.load 50 (.tmp 1),none⟩,⟨some 5,.load 31 (.tmp 2),none⟩,⟨some 6,.call ⟨.value (.func 18),#[.tmp 4,.tmp 5,(.const (.int .i64 200))],#[50,31,3]⟩,none⟩,⟨some 7,.binOp .gtr 3 (.tmp 6) (.const (.int .i64 200)) 3,none⟩,⟨some 3,.assign (.tmp 7),none⟩]
def fS17:SC:=(.seq fS17r0 (.seq fS17r1 .ret))
theorem fB17:Try.f17.body.bind stripC=some fS17:=by kernel_rfl
def fS21r0:SC:=.reg [⟨some 3,.assign (.const (.bool false)),none⟩]
def fS21r1:SC:=.draw [⟨some 4,.load 53 (.tmp 1),none,[1]⟩,⟨some 5,.move (.tmp 0),none,[0]⟩,⟨some 6,.call ⟨.value (.func 22),#[.tmp 5],#[3]⟩,none,[5]⟩,⟨some 7,.call ⟨.value (.tmp 4),#[.tmp 6],#[31]⟩,none,[4,6]⟩,⟨some 3,.assign (.tmp 7),none,[7]⟩] [0,0,2,7,15]
def fS21:SC:=(.seq fS21r0 (.seq fS21r1 .ret))
theorem fB21:Try.f21.body.bind stripC=some fS21:=by kernel_rfl
def fS12r0:SC:=.reg [⟨some 2,.box 34 (.tmp 0),none⟩,⟨some 4,.assign (.const (.bool false)),none⟩]
def fS12r1:SC:=.reg [⟨some 5,.move (.tmp 1),none⟩,⟨some 6,.makeFunc (.func 27) #[] #[.tmp 2],none⟩,⟨some 7,.call ⟨.value (.func 26),#[.tmp 5,.tmp 6],#[25,64]⟩,none⟩,⟨some 8,.unOp .not 4 (.tmp 7),none⟩,⟨some 4,.assign (.tmp 8),none⟩]
def fS12:SC:=(.seq fS12r0 (.seq fS12r1 .ret))
theorem fB12:Try.f12.body.bind stripC=some fS12:=by kernel_rfl
def fS27r0:SC:=.reg [⟨some 2,.box 33 (.tmp 0),none⟩,⟨some 3,.assign (.const (.bool false)),none⟩]
def fS27r1:SC:=.draw [⟨some 4,.load 34 (.tmp 1),none,[1]⟩,⟨some 5,.fieldAddr 33 (.tmp 2) 0,none,[2]⟩,⟨some 6,.load 31 (.tmp 5),none,[5]⟩,⟨some 7,.call ⟨.value (.func 29),#[.tmp 4,.tmp 6],#[34,31]⟩,none,[4,6]⟩,⟨some 8,.load 34 (.tmp 1),none,[1]⟩,⟨some 9,.fieldAddr 33 (.tmp 2) 1,none,[2]⟩,⟨some 10,.load 31 (.tmp 9),none,[9]⟩,⟨some 11,.call ⟨.value (.func 29),#[.tmp 8,.tmp 10],#[34,31]⟩,none,[8,10]⟩,⟨some 12,.call ⟨.value (.func 28),#[.tmp 7,.tmp 11],#[31,31]⟩,none,[7,11]⟩,⟨some 13,.unOp .not 4 (.tmp 12),none,[12]⟩,⟨some 3,.assign (.tmp 13),none,[13]⟩] [0,0,2,7,0,0,32,127,255,511,1023]
def fS27:SC:=(.seq fS27r0 (.seq fS27r1 .ret))
theorem fB27:Try.f27.body.bind stripC=some fS27:=by kernel_rfl
def fS11r0:SC:=.reg [⟨some 2,.assign (.const (.slice none 0 0)),none⟩]
def fS11r1:SC:=.reg [⟨some 3,.assign (.const (.slice none 0 0)),none⟩]
def fS11r2:SC:=.reg [⟨some 6,.move (.tmp 0),none⟩,⟨some 7,.call ⟨.builtin .len,#[.tmp 6],#[25]⟩,none⟩,⟨some 8,.move (.const (.int .i64 0)),none⟩]
def fS11r3:SC:=.reg [⟨some 9,.binOp .lss 3 (.tmp 8) (.tmp 7) 3,none⟩]
def fS11r4:SC:=.reg [⟨some 10,.indexAddr 25 (.tmp 6) (.tmp 8),none⟩,⟨some 11,.load 33 (.tmp 10),none⟩,⟨some 5,.alloc 33,none⟩,⟨none,.store 33 (.tmp 5) (.tmp 11),none⟩]
def fS11r5:SC:=.reg [⟨some 12,.move (.tmp 3),none⟩,⟨some 13,.fieldAddr 33 (.tmp 5) 0,none⟩,⟨some 14,.load 31 (.tmp 13),none⟩,⟨some 15,.fieldAddr 33 (.tmp 5) 1,none⟩,⟨some 16,.load 31 (.tmp 15),none⟩,⟨some 17,.buildSlice 29 2 #[(0,(.tmp 14)),(1,(.tmp 16))],none⟩,⟨some 18,.call ⟨.builtin .append,#[.tmp 12,.tmp 17],#[29,29]⟩,none⟩,⟨some 3,.assign (.tmp 18),none⟩]
def fS11b0:SC:=.block 1 (.seq fS11r4 fS11r5)
def fS11r6:SC:=.reg [⟨some 19,.binOp .add 3 (.tmp 8) (.const (.int .i64 1)) 3,none⟩,⟨some 8,.move (.tmp 19),none⟩]
def fS11l0:SC:=(.seq fS11r3 (.seq (.cond (.tmp 9) .skip (.exit 0)) (.seq fS11b0 fS11r6)))
def fS11b1:SC:=.block 0 (.loop fS11l0)
def fS11r7:SC:=.reg [⟨some 20,.move (.tmp 3),none⟩,⟨some 21,.call ⟨.value (.func 25),#[.tmp 20],#[29]⟩,none⟩,⟨some 2,.assign (.tmp 21),none⟩]
def fS11:SC:=(.seq fS11r0 (.seq fS11r1 (.seq (.seq fS11r2 fS11b1) (.seq fS11r7 .ret))))
theorem fB11:Try.f11.body.bind stripC=some fS11:=by kernel_rfl
def fS29r0:SC:=.reg [⟨some 3,.box 31 (.tmp 1),none⟩,⟨some 4,.alloc 31,none⟩]
def fS29r1:SC:=.reg [⟨some 5,.load 31 (.tmp 3),none⟩,⟨some 6,.move (.tmp 0),none⟩,⟨some 7,.call ⟨.value (.func 44),#[.tmp 5,.tmp 6],#[31,34]⟩,none⟩,⟨none,.store 31 (.tmp 4) (.tmp 7),none⟩]
def fS29:SC:=(.seq fS29r0 (.seq fS29r1 .ret))
theorem fB29:Try.f29.body.bind stripC=some fS29:=by kernel_rfl
def fS24r0:SC:=.reg [⟨some 6,.assign (.const (.slice none 0 0)),none⟩,⟨some 7,.assign (.const (.bool false)),none⟩]
def fS24r1:SC:=.reg [⟨some 8,.assign (.const (.slice none 0 0)),none⟩]
def fS24r2:SC:=.reg [⟨some 12,.move (.tmp 2),none⟩,⟨some 13,.call ⟨.builtin .len,#[.tmp 12],#[22]⟩,none⟩,⟨some 14,.move (.const (.int .i64 0)),none⟩]
def fS24r3:SC:=.reg [⟨some 15,.binOp .lss 3 (.tmp 14) (.tmp 13) 3,none⟩]
def fS24r4:SC:=.reg [⟨some 16,.indexAddr 22 (.tmp 12) (.tmp 14),none⟩,⟨some 17,.load 3 (.tmp 16),none⟩,⟨some 10,.assign (.tmp 17),none⟩]
def fS24r5:SC:=.reg [⟨some 11,.assign (.const (.bool false)),none⟩]
def fS24r6:SC:=.reg [⟨some 19,.move (.tmp 8),none⟩,⟨some 20,.move (.tmp 0),none⟩,⟨some 21,.move (.tmp 10),none⟩,⟨some 22,.call ⟨.value (.func 22),#[.tmp 21],#[3]⟩,none⟩,⟨some 23,.call ⟨.value (.func 29),#[.tmp 20,.tmp 22],#[34,31]⟩,none⟩,⟨some 24,.move (.tmp 1),none⟩,⟨some 25,.move (.tmp 10),none⟩,⟨some 26,.call ⟨.value (.func 22),#[.tmp 25],#[3]⟩,none⟩,⟨some 27,.call ⟨.value (.func 29),#[.tmp 24,.tmp 26],#[34,31]⟩,none⟩,⟨some 28,.call ⟨.value (.func 38),#[.tmp 19,.tmp 23,.tmp 27],#[34,31,31]⟩,none⟩,⟨some 18,.move (.tmp 28),none⟩,⟨some 29,.extract (.tmp 18) 0,none⟩,⟨some 30,.extract (.tmp 18) 1,none⟩,⟨some 8,.assign (.tmp 29),none⟩,⟨some 11,.assign (.tmp 30),none⟩]
def fS24r7:SC:=.reg [⟨some 31,.move (.tmp 11),none⟩,⟨some 32,.unOp .not 4 (.tmp 31),none⟩]
def fS24r8:SC:=.reg [⟨some 6,.assign (.const (.slice none 0 0)),none⟩,⟨some 7,.assign (.const (.bool false)),none⟩]
def fS24b0:SC:=.block 1 (.seq fS24r4 (.seq fS24r5 (.seq fS24r6 (.seq fS24r7 (.cond (.tmp 32) (.seq fS24r8 .ret) .skip)))))
def fS24r9:SC:=.reg [⟨some 33,.binOp .add 3 (.tmp 14) (.const (.int .i64 1)) 3,none⟩,⟨some 14,.move (.tmp 33),none⟩]
def fS24l0:SC:=(.seq fS24r3 (.seq (.cond (.tmp 15) .skip (.exit 0)) (.seq fS24b0 fS24r9)))
def fS24b1:SC:=.block 0 (.loop fS24l0)
def fS24r10:SC:=.reg [⟨some 34,.move (.tmp 8),none⟩,⟨some 6,.assign (.tmp 34),none⟩,⟨some 7,.assign (.const (.bool true)),none⟩]
def fS24:SC:=(.seq fS24r0 (.seq fS24r1 (.seq (.seq fS24r2 fS24b1) (.seq fS24r10 .ret))))
theorem fB24:Try.f24.body.bind stripC=some fS24:=by kernel_rfl
def fS50r0:SC:=.reg [⟨some 3,.box 3 (.tmp 1),none⟩,⟨some 4,.alloc 31,none⟩,⟨some 5,.assign (.const (.bool false)),none⟩]
def fS50r1:SC:=.reg [⟨some 7,.move (.tmp 0),none⟩,⟨some 8,.makeFunc (.func 65) #[] #[.tmp 3],none⟩,⟨some 9,.call ⟨.value (.func 64),#[.tmp 7,.tmp 8],#[34,126]⟩,none⟩,⟨some 6,.assign (.tmp 9),none⟩]
def fS50r2:SC:=.reg [⟨some 10,.move (.tmp 6),none⟩,⟨some 11,.binOp .lss 3 (.tmp 10) (.const (.int .i64 0)) 3,none⟩]
def fS50r3:SC:=.reg [⟨some 12,.build 31 #[],none⟩,⟨none,.store 31 (.tmp 4) (.tmp 12),none⟩,⟨some 5,.assign (.const (.bool false)),none⟩]
def fS50r4:SC:=.reg [⟨some 13,.move (.tmp 0),none⟩,⟨some 14,.move (.tmp 6),none⟩,⟨some 15,.indexAddr 34 (.tmp 13) (.tmp 14),none⟩,⟨some 16,.fieldAddr 82 (.tmp 15) 1,none⟩,⟨some 17,.load 31 (.tmp 16),none⟩,⟨none,.store 31 (.tmp 4) (.tmp 17),none⟩,⟨some 5,.assign (.const (.bool true)),none⟩]
def fS50:SC:=(.seq fS50r0 (.seq fS50r1 (.seq (.seq fS50r2 (.cond (.tmp 11) (.seq fS50r3 .ret) .skip)) (.seq fS50r4 .ret))))
theorem fB50:Try.f50.body.bind stripC=some fS50:=by kernel_rfl
def fS65r0:SC:=.reg [⟨some 2,.box 82 (.tmp 0),none⟩,⟨some 3,.assign (.const (.bool false)),none⟩]
def fS65r1:SC:=.reg [⟨some 4,.fieldAddr 82 (.tmp 2) 0,none⟩,⟨some 5,.load 3 (.tmp 4),none⟩,⟨some 6,.load 3 (.tmp 1),none⟩,⟨some 7,.binOp .eql 3 (.tmp 5) (.tmp 6) 3,none⟩,⟨some 3,.assign (.tmp 7),none⟩]
def fS65:SC:=(.seq fS65r0 (.seq fS65r1 .ret))
theorem fB65:Try.f65.body.bind stripC=some fS65:=by kernel_rfl
def fS38r0:SC:=.reg [⟨some 4,.box 31 (.tmp 1),none⟩,⟨some 5,.box 31 (.tmp 2),none⟩,⟨some 6,.assign (.const (.slice none 0 0)),none⟩,⟨some 7,.assign (.const (.bool false)),none⟩]
def fS38r1:SC:=.reg [⟨some 14,.fieldAddr 31 (.tmp 4) 0,none⟩,⟨some 15,.load 3 (.tmp 14),none⟩,⟨some 16,.binOp .eql 3 (.tmp 15) (.const (.int .i64 1)) 3,none⟩]
def fS38r2:SC:=.reg [⟨some 18,.move (.tmp 0),none⟩,⟨some 19,.fieldAddr 31 (.tmp 4) 2,none⟩,⟨some 20,.load 3 (.tmp 19),none⟩,⟨some 21,.call ⟨.value (.func 50),#[.tmp 18,.tmp 20],#[34,3]⟩,none⟩,⟨some 17,.move (.tmp 21),none⟩,⟨some 22,.extract (.tmp 17) 0,none⟩,⟨some 23,.extract (.tmp 17) 1,none⟩,⟨some 8,.alloc 31,none⟩,⟨none,.store 31 (.tmp 8) (.tmp 22),none⟩,⟨some 9,.assign (.tmp 23),none⟩]
def fS38r3:SC:=.reg [⟨some 24,.move (.tmp 9),none⟩]
def fS38r4:SC:=.reg [⟨some 25,.move (.tmp 0),none⟩,⟨some 26,.load 31 (.tmp 8),none⟩,⟨some 27,.load 31 (.tmp 5),none⟩,⟨some 28,.call ⟨.value (.func 28),#[.tmp 26,.tmp 27],#[31,31]⟩,none⟩,⟨some 6,.assign (.tmp 25),none⟩,⟨some 7,.assign (.tmp 28),none⟩]
def fS38r5:SC:=.reg [⟨some 29,.move (.tmp 0),none⟩,⟨some 30,.fieldAddr 31 (.tmp 4) 2,none⟩,⟨some 31,.load 3 (.tmp 30),none⟩,⟨some 32,.load 31 (.tmp 5),none⟩,⟨some 33,.build 82 #[(0,(.tmp 31)),(1,(.tmp 32))],none⟩,⟨some 34,.buildSlice 34 1 #[(0,(.tmp 33))],none⟩,⟨some 35,.call ⟨.builtin .append,#[.tmp 29,.tmp 34],#[34,34]⟩,none⟩,⟨some 6,.assign (.tmp 35),none⟩,⟨some 7,.assign (.const (.bool true)),none⟩]
def fS38r6:SC:=.reg [⟨some 36,.fieldAddr 31 (.tmp 4) 4,none⟩,⟨some 37,.load 29 (.tmp 36),none⟩,⟨some 38,.call ⟨.builtin .len,#[.tmp 37],#[29]⟩,none⟩,⟨some 39,.fieldAddr 31 (.tmp 5) 4,none⟩,⟨some 40,.load 29 (.tmp 39),none⟩,⟨some 41,.call ⟨.builtin .len,#[.tmp 40],#[29]⟩,none⟩,⟨some 42,.binOp .neq 3 (.tmp 38) (.tmp 41) 3,none⟩]
def fS38r7:SC:=.reg [⟨some 43,.move (.tmp 0),none⟩,⟨some 6,.assign (.tmp 43),none⟩,⟨some 7,.assign (.const (.bool false)),none⟩]
def fS38r8:SC:=.draw [⟨some 44,.fieldAddr 31 (.tmp 4) 4,none,[4]⟩,⟨some 45,.load 29 (.tmp 44),none,[44]⟩,⟨some 46,.fieldAddr 31 (.tmp 5) 4,none,[5]⟩,⟨some 47,.load 29 (.tmp 46),none,[46]⟩,⟨some 10,.assign (.tmp 45),none,[45]⟩,⟨some 11,.assign (.tmp 47),none,[47]⟩] [0,1,0,4,3,31]
def fS38r9:SC:=.reg [⟨some 48,.fieldAddr 31 (.tmp 4) 4,none⟩,⟨none,.store 29 (.tmp 48) (.const (.slice none 0 0)),none⟩,⟨some 49,.fieldAddr 31 (.tmp 5) 4,none⟩,⟨none,.store 29 (.tmp 49) (.const (.slice none 0 0)),none⟩]
def fS38r10:SC:=.reg [⟨some 50,.load 31 (.tmp 4),none⟩,⟨some 51,.load 31 (.tmp 5),none⟩,⟨some 52,.call ⟨.value (.func 28),#[.tmp 50,.tmp 51],#[31,31]⟩,none⟩,⟨some 12,.assign (.tmp 52),none⟩]
def fS38r11:SC:=.reg [⟨some 13,.assign (.const (.int .i64 0)),none⟩]
def fS38r12:SC:=.reg [⟨some 53,.move (.tmp 12),none⟩,⟨some 54,.move (.tmp 53),none⟩,⟨some 55,.move (.tmp 13),some (54,true)⟩,⟨some 56,.move (.tmp 10),some (54,true)⟩,⟨some 57,.call ⟨.builtin .len,#[.tmp 56],#[29]⟩,some (54,true)⟩,⟨some 58,.binOp .lss 3 (.tmp 55) (.tmp 57) 3,some (54,true)⟩,⟨some 59,.pick (.tmp 54) (.tmp 58) (.const (.bool false)),none⟩]
def fS38r13:SC:=.draw [⟨some 63,.move (.tmp 0),none,[0]⟩,⟨some 64,.move (.tmp 10),none,[10]⟩,⟨some 65,.move (.tmp 13),none,[13]⟩,⟨some 66,.indexAddr 29 (.tmp 64) (.tmp 65),none,[64,65]⟩,⟨some 67,.load 31 (.tmp 66),none,[66]⟩,⟨some 68,.move (.tmp 11),none,[11]⟩,⟨some 69,.move (.tmp 13),none,[13]⟩,⟨some 70,.indexAddr 29 (.tmp 68) (.tmp 69),none,[68,69]⟩,⟨some 71,.load 31 (.tmp 70),none,[70]⟩,⟨some 72,.call ⟨.value (.func 38),#[.tmp 63,.tmp 67,.tmp 71],#[34,31,31]⟩,none,[63,67,71]⟩,⟨some 62,.move (.tmp 72),none,[72]⟩,⟨some 73,.extract (.tmp 62) 0,none,[62]⟩,⟨some 74,.extract (.tmp 62) 1,none,[62]⟩,⟨some 0,.assign (.tmp 73),none,[73]⟩,⟨some 12,.assign (.tmp 74),none,[74]⟩] [0,0,0,6,14,0,0,96,224,511,1023,2047,2047,4095,16383]
def fS38b0:SC:=.block 1 fS38r13
def fS38r14:SC:=.reg [⟨some 60,.move (.tmp 13),none⟩,⟨some 61,.binOp .add 3 (.tmp 60) (.const (.int .i64 1)) 3,none⟩,⟨some 13,.assign (.tmp 61),none⟩]
def fS38l0:SC:=(.seq (.seq fS38r12 (.cond (.tmp 59) .skip (.exit 0))) (.seq fS38b0 fS38r14))
def fS38b1:SC:=.block 0 (.loop fS38l0)
def fS38r15:SC:=.reg [⟨some 75,.move (.tmp 0),none⟩,⟨some 76,.move (.tmp 12),none⟩,⟨some 6,.assign (.tmp 75),none⟩,⟨some 7,.assign (.tmp 76),none⟩]
def fS38:SC:=(.seq fS38r0 (.seq (.seq fS38r1 (.cond (.tmp 16) (.seq fS38r2 (.seq (.seq fS38r3 (.cond (.tmp 24) (.seq fS38r4 .ret) .skip)) (.seq fS38r5 .ret))) .skip)) (.seq (.seq fS38r6 (.cond (.tmp 42) (.seq fS38r7 .ret) .skip)) (.seq fS38r8 (.seq fS38r9 (.seq fS38r10 (.seq (.seq fS38r11 fS38b1) (.seq fS38r15 .ret))))))))
theorem fB38:Try.f38.body.bind stripC=some fS38:=by kernel_rfl
def fS16r0:SC:=.reg [⟨some 0,.assign (.const (.pointer none)),none⟩]
def fS16r1:SC:=.reg [⟨some 1,.makeMap 74 none,none⟩,⟨some 2,.build 76 #[(0,(.tmp 1))],none⟩,⟨some 3,.box 76 (.tmp 2),none⟩,⟨some 0,.assign (.tmp 3),none⟩]
def fS16:SC:=(.seq fS16r0 (.seq fS16r1 .ret))
theorem fB16:Try.f16.body.bind stripC=some fS16:=by kernel_rfl
def fS3r0:SC:=.reg [⟨some 6,.assign (.const (.bool false)),none⟩]
def fS3r1:SC:=.reg [⟨some 17,.call ⟨.value (.func 4),#[],#[]⟩,none⟩,⟨some 18,.unOp .not 4 (.tmp 17),none⟩]
def fS3r2:SC:=.reg [⟨some 6,.assign (.const (.bool false)),none⟩]
def fS3r3:SC:=.reg [⟨some 19,.move (.tmp 1),none⟩,⟨some 20,.call ⟨.value (.func 5),#[.tmp 19],#[22]⟩,none⟩,⟨some 21,.unOp .not 4 (.tmp 20),none⟩]
def fS3r4:SC:=.reg [⟨some 6,.assign (.const (.bool true)),none⟩]
def fS3r5:SC:=.reg [⟨some 23,.move (.tmp 0),none⟩,⟨some 24,.move (.tmp 1),none⟩,⟨some 25,.move (.tmp 2),none⟩,⟨some 26,.call ⟨.value (.func 6),#[.tmp 23,.tmp 24,.tmp 25],#[3,22,3]⟩,none⟩,⟨some 22,.move (.tmp 26),none⟩,⟨some 27,.extract (.tmp 22) 0,none⟩,⟨some 28,.extract (.tmp 22) 1,none⟩,⟨some 7,.assign (.tmp 27),none⟩,⟨some 8,.assign (.tmp 28),none⟩]
def fS3r6:SC:=.reg [⟨some 9,.assign (.const (.slice none 0 0)),none⟩]
def fS3r7:SC:=.reg [⟨some 29,.move (.tmp 7),none⟩,⟨some 30,.call ⟨.builtin .len,#[.tmp 29],#[25]⟩,none⟩,⟨some 31,.binOp .sub 3 (.tmp 30) (.const (.int .i64 1)) 3,none⟩,⟨some 10,.assign (.tmp 31),none⟩]
def fS3r8:SC:=.reg [⟨some 32,.move (.tmp 10),none⟩,⟨some 33,.binOp .geq 3 (.tmp 32) (.const (.int .i64 0)) 3,none⟩]
def fS3r9:SC:=.draw [⟨some 36,.move (.tmp 9),none,[9]⟩,⟨some 37,.move (.tmp 7),none,[7]⟩,⟨some 38,.move (.tmp 10),none,[10]⟩,⟨some 39,.indexAddr 25 (.tmp 37) (.tmp 38),none,[37,38]⟩,⟨some 40,.fieldAddr 33 (.tmp 39) 1,none,[39]⟩,⟨some 41,.load 31 (.tmp 40),none,[40]⟩,⟨some 42,.move (.tmp 7),none,[7]⟩,⟨some 43,.move (.tmp 10),none,[10]⟩,⟨some 44,.indexAddr 25 (.tmp 42) (.tmp 43),none,[42,43]⟩,⟨some 45,.fieldAddr 33 (.tmp 44) 0,none,[44]⟩,⟨some 46,.load 31 (.tmp 45),none,[45]⟩,⟨some 47,.build 33 #[(0,(.tmp 41)),(1,(.tmp 46))],none,[41,46]⟩,⟨some 48,.buildSlice 25 1 #[(0,(.tmp 47))],none,[47]⟩,⟨some 49,.call ⟨.builtin .append,#[.tmp 36,.tmp 48],#[25,25]⟩,none,[36,48]⟩,⟨some 9,.assign (.tmp 49),none,[49]⟩] [0,0,0,6,14,30,0,0,192,448,960,2046,4094,8191,16383]
def fS3b0:SC:=.block 1 fS3r9
def fS3r10:SC:=.reg [⟨some 34,.move (.tmp 10),none⟩,⟨some 35,.binOp .sub 3 (.tmp 34) (.const (.int .i64 1)) 3,none⟩,⟨some 10,.assign (.tmp 35),none⟩]
def fS3l0:SC:=(.seq (.seq fS3r8 (.cond (.tmp 33) .skip (.exit 0))) (.seq fS3b0 fS3r10))
def fS3b1:SC:=.block 0 (.loop fS3l0)
def fS3r11:SC:=.reg [⟨some 51,.move (.tmp 7),none⟩,⟨some 52,.call ⟨.value (.func 7),#[.tmp 51],#[25]⟩,none⟩,⟨some 50,.move (.tmp 52),none⟩,⟨some 53,.extract (.tmp 50) 0,none⟩,⟨some 54,.extract (.tmp 50) 1,none⟩,⟨some 55,.extract (.tmp 50) 2,none⟩,⟨some 11,.assign (.tmp 53),none⟩,⟨some 12,.assign (.tmp 54),none⟩,⟨some 13,.assign (.tmp 55),none⟩]
def fS3r12:SC:=.reg [⟨some 57,.move (.tmp 9),none⟩,⟨some 58,.call ⟨.value (.func 7),#[.tmp 57],#[25]⟩,none⟩,⟨some 56,.move (.tmp 58),none⟩,⟨some 59,.extract (.tmp 56) 0,none⟩,⟨some 60,.extract (.tmp 56) 1,none⟩,⟨some 61,.extract (.tmp 56) 2,none⟩,⟨some 14,.assign (.tmp 59),none⟩,⟨some 15,.assign (.tmp 60),none⟩,⟨some 16,.assign (.tmp 61),none⟩]
def fS3r13:SC:=.reg [⟨some 62,.move (.tmp 13),none⟩,⟨some 63,.binOp .eql 35 (.tmp 62) (.const (.int .i64 15)) 35,none⟩,⟨some 64,.move (.tmp 63),none⟩,⟨some 65,.move (.tmp 16),some (64,false)⟩,⟨some 66,.binOp .eql 35 (.tmp 65) (.const (.int .i64 15)) 35,some (64,false)⟩,⟨some 67,.pick (.tmp 64) (.const (.bool true)) (.tmp 66),none⟩]
def fS3r14:SC:=.reg [⟨some 6,.assign (.const (.bool true)),none⟩]
def fS3r15:SC:=.reg [⟨some 68,.move (.tmp 13),none⟩,⟨some 69,.binOp .neq 35 (.tmp 68) (.const (.int .i64 0)) 35,none⟩,⟨some 70,.move (.tmp 69),none⟩,⟨some 71,.move (.tmp 16),some (70,false)⟩,⟨some 72,.binOp .neq 35 (.tmp 71) (.const (.int .i64 0)) 35,some (70,false)⟩,⟨some 73,.pick (.tmp 70) (.const (.bool true)) (.tmp 72),none⟩]
def fS3r16:SC:=.reg [⟨some 74,.move (.tmp 13),none⟩,⟨some 75,.binOp .eql 35 (.tmp 74) (.const (.int .i64 0)) 35,none⟩,⟨some 76,.move (.tmp 16),none⟩,⟨some 77,.binOp .eql 35 (.tmp 76) (.const (.int .i64 0)) 35,none⟩,⟨some 78,.binOp .eql 4 (.tmp 75) (.tmp 77) 4,none⟩,⟨some 6,.assign (.tmp 78),none⟩]
def fS3r17:SC:=.reg [⟨some 79,.move (.tmp 11),none⟩,⟨some 80,.move (.tmp 7),none⟩,⟨some 81,.move (.tmp 14),none⟩,⟨some 82,.call ⟨.value (.func 8),#[.tmp 79,.tmp 80,.tmp 81],#[34,25,34]⟩,none⟩,⟨some 83,.move (.tmp 82),none⟩,⟨some 84,.move (.tmp 14),some (83,true)⟩,⟨some 85,.move (.tmp 7),some (83,true)⟩,⟨some 86,.move (.tmp 11),some (83,true)⟩,⟨some 87,.call ⟨.value (.func 8),#[.tmp 84,.tmp 85,.tmp 86],#[34,25,34]⟩,some (83,true)⟩,⟨some 88,.pick (.tmp 83) (.tmp 87) (.const (.bool false)),none⟩,⟨some 6,.assign (.tmp 88),none⟩]
def fS3:SC:=(.seq fS3r0 (.seq (.seq fS3r1 (.cond (.tmp 18) (.seq fS3r2 .ret) .skip)) (.seq (.seq fS3r3 (.cond (.tmp 21) (.seq fS3r4 .ret) .skip)) (.seq fS3r5 (.seq fS3r6 (.seq (.seq fS3r7 fS3b1) (.seq fS3r11 (.seq fS3r12 (.seq (.seq fS3r13 (.cond (.tmp 67) (.seq fS3r14 .ret) .skip)) (.seq (.seq fS3r15 (.cond (.tmp 73) (.seq fS3r16 .ret) .skip)) (.seq fS3r17 .ret)))))))))))
theorem fB3:Try.f3.body.bind stripC=some fS3:=by kernel_rfl
def fS6r0:SC:=.reg [⟨some 6,.assign (.const (.slice none 0 0)),none⟩,⟨some 7,.assign (.const (.pointer none)),none⟩]
def fS6r1:SC:=.reg [⟨some 9,.move (.tmp 1),none⟩,⟨some 10,.build 45 #[(0,(.tmp 9))],none⟩,⟨some 11,.box 45 (.tmp 10),none⟩,⟨some 8,.assign (.tmp 11),none⟩]
def fS6r2:SC:=.reg [⟨some 12,.move (.tmp 8),none⟩,⟨some 13,.move (.tmp 0),none⟩,⟨some 14,.call ⟨.value (.func 14),#[.tmp 13],#[3]⟩,none⟩,⟨some 15,.move (.tmp 2),none⟩,⟨some 16,.call ⟨.value (.func 15),#[.tmp 15,(.const (.int .i64 6))],#[3,3]⟩,none⟩,⟨some 17,.call ⟨.value (.func 13),#[.tmp 12,.tmp 14,.tmp 16],#[26,47,3]⟩,none⟩,⟨some 18,.move (.tmp 8),none⟩,⟨some 6,.assign (.tmp 17),none⟩,⟨some 7,.assign (.tmp 18),none⟩]
def fS6:SC:=(.seq fS6r0 (.seq fS6r1 (.seq fS6r2 .ret)))
theorem fB6:Try.f6.body.bind stripC=some fS6:=by kernel_rfl
def fS14r0:SC:=.reg [⟨some 2,.assign (.const (.slice none 0 0)),none⟩]
def fS14r1:SC:=.reg [⟨some 6,.call ⟨.value (.func 33),#[],#[]⟩,none⟩,⟨some 3,.assign (.tmp 6),none⟩]
def fS14r2:SC:=.reg [⟨some 4,.assign (.const (.slice none 0 0)),none⟩]
def fS14r3:SC:=.reg [⟨some 7,.move (.tmp 0),none⟩,⟨some 8,.binOp .and 3 (.tmp 7) (.const (.int .i64 2)) 3,none⟩,⟨some 9,.binOp .neq 3 (.tmp 8) (.const (.int .i64 0)) 3,none⟩,⟨some 10,.move (.tmp 9),none⟩,⟨some 11,.move (.tmp 0),some (10,false)⟩,⟨some 12,.binOp .and 3 (.tmp 11) (.const (.int .i64 64)) 3,some (10,false)⟩,⟨some 13,.binOp .neq 3 (.tmp 12) (.const (.int .i64 0)) 3,some (10,false)⟩,⟨some 14,.pick (.tmp 10) (.const (.bool true)) (.tmp 13),none⟩]
def fS14r4:SC:=.reg [⟨some 15,.move (.tmp 4),none⟩,⟨some 16,.move (.tmp 3),none⟩,⟨some 17,.indexAddr 47 (.tmp 16) (.const (.int .i64 1)),none⟩,⟨some 18,.load 72 (.tmp 17),none⟩,⟨some 19,.buildSlice 47 1 #[(0,(.tmp 18))],none⟩,⟨some 20,.call ⟨.builtin .append,#[.tmp 15,.tmp 19],#[47,47]⟩,none⟩,⟨some 4,.assign (.tmp 20),none⟩]
def fS14r5:SC:=.reg [⟨some 5,.assign (.const (.int .i64 0)),none⟩]
def fS14r6:SC:=.reg [⟨some 21,.move (.tmp 5),none⟩,⟨some 22,.move (.tmp 3),none⟩,⟨some 23,.call ⟨.builtin .len,#[.tmp 22],#[47]⟩,none⟩,⟨some 24,.binOp .lss 3 (.tmp 21) (.tmp 23) 3,none⟩]
def fS14r7:SC:=.reg [⟨some 27,.move (.tmp 5),none⟩,⟨some 28,.binOp .neq 3 (.tmp 27) (.const (.int .i64 1)) 3,none⟩,⟨some 29,.move (.tmp 28),none⟩,⟨some 30,.move (.tmp 0),some (29,true)⟩,⟨some 31,.move (.tmp 5),some (29,true)⟩,⟨some 32,.convert 3 73 (.tmp 31),some (29,true)⟩,⟨some 33,.binOp .shr 3 (.tmp 30) (.tmp 32) 73,some (29,true)⟩,⟨some 34,.binOp .and 3 (.tmp 33) (.const (.int .i64 1)) 3,some (29,true)⟩,⟨some 35,.binOp .eql 3 (.tmp 34) (.const (.int .i64 1)) 3,some (29,true)⟩,⟨some 36,.pick (.tmp 29) (.tmp 35) (.const (.bool false)),none⟩]
def fS14r8:SC:=.reg [⟨some 37,.move (.tmp 4),none⟩,⟨some 38,.move (.tmp 3),none⟩,⟨some 39,.move (.tmp 5),none⟩,⟨some 40,.indexAddr 47 (.tmp 38) (.tmp 39),none⟩,⟨some 41,.load 72 (.tmp 40),none⟩,⟨some 42,.buildSlice 47 1 #[(0,(.tmp 41))],none⟩,⟨some 43,.call ⟨.builtin .append,#[.tmp 37,.tmp 42],#[47,47]⟩,none⟩,⟨some 4,.assign (.tmp 43),none⟩]
def fS14b0:SC:=.block 1 (.seq fS14r7 (.cond (.tmp 36) fS14r8 .skip))
def fS14r9:SC:=.reg [⟨some 25,.move (.tmp 5),none⟩,⟨some 26,.binOp .add 3 (.tmp 25) (.const (.int .i64 1)) 3,none⟩,⟨some 5,.assign (.tmp 26),none⟩]
def fS14l0:SC:=(.seq (.seq fS14r6 (.cond (.tmp 24) .skip (.exit 0))) (.seq fS14b0 fS14r9))
def fS14b1:SC:=.block 0 (.loop fS14l0)
def fS14r10:SC:=.reg [⟨some 44,.move (.tmp 4),none⟩,⟨some 2,.assign (.tmp 44),none⟩]
def fS14:SC:=(.seq fS14r0 (.seq fS14r1 (.seq fS14r2 (.seq (.seq fS14r3 (.cond (.tmp 14) fS14r4 .skip)) (.seq (.seq fS14r5 fS14b1) (.seq fS14r10 .ret))))))
theorem fB14:Try.f14.body.bind stripC=some fS14:=by kernel_rfl
def fS5r0:SC:=.reg [⟨some 2,.assign (.const (.bool false)),none⟩]
def fS5r1:SC:=.reg [⟨some 3,.move (.tmp 0),none⟩,⟨some 4,.call ⟨.builtin .len,#[.tmp 3],#[22]⟩,none⟩,⟨some 5,.binOp .leq 3 (.tmp 4) (.const (.int .i64 60)) 3,none⟩,⟨some 2,.assign (.tmp 5),none⟩]
def fS5:SC:=(.seq fS5r0 (.seq fS5r1 .ret))
theorem fB5:Try.f5.body.bind stripC=some fS5:=by kernel_rfl
def fS15r0:SC:=.reg [⟨some 4,.assign (.const (.int .i64 0)),none⟩]
def fS15r1:SC:=.reg [⟨some 5,.move (.tmp 1),none⟩,⟨some 6,.binOp .lss 3 (.tmp 5) (.const (.int .i64 1)) 3,none⟩]
def fS15r2:SC:=.reg [⟨some 4,.assign (.const (.int .i64 0)),none⟩]
def fS15r3:SC:=.reg [⟨some 7,.move (.tmp 0),none⟩,⟨some 8,.move (.tmp 1),none⟩,⟨some 9,.binOp .rem 3 (.tmp 7) (.tmp 8) 3,none⟩,⟨some 0,.assign (.tmp 9),none⟩]
def fS15r4:SC:=.reg [⟨some 10,.move (.tmp 0),none⟩,⟨some 11,.binOp .lss 3 (.tmp 10) (.const (.int .i64 0)) 3,none⟩]
def fS15r5:SC:=.reg [⟨some 12,.move (.tmp 0),none⟩,⟨some 13,.move (.tmp 1),none⟩,⟨some 14,.binOp .add 3 (.tmp 12) (.tmp 13) 3,none⟩,⟨some 0,.assign (.tmp 14),none⟩]
def fS15r6:SC:=.reg [⟨some 15,.move (.tmp 0),none⟩,⟨some 4,.assign (.tmp 15),none⟩]
def fS15:SC:=(.seq fS15r0 (.seq (.seq fS15r1 (.cond (.tmp 6) (.seq fS15r2 .ret) .skip)) (.seq fS15r3 (.seq (.seq fS15r4 (.cond (.tmp 11) fS15r5 .skip)) (.seq fS15r6 .ret)))))
theorem fB15:Try.f15.body.bind stripC=some fS15:=by kernel_rfl
def fS31r0:SC:=.reg [⟨some 2,.assign (.const (.slice none 0 0)),none⟩]
def fS31r1:SC:=.reg [⟨some 3,.assign (.const (.slice none 0 0)),none⟩]
def fS31r2:SC:=.reg [⟨some 4,.assign (.const (.int .i64 0)),none⟩]
def fS31r3:SC:=.reg [⟨some 5,.move (.tmp 4),none⟩,⟨some 6,.move (.tmp 0),none⟩,⟨some 7,.binOp .lss 3 (.tmp 5) (.tmp 6) 3,none⟩]
def fS31r4:SC:=.reg [⟨some 10,.move (.tmp 3),none⟩,⟨some 11,.move (.tmp 4),none⟩,⟨some 12,.call ⟨.value (.func 9),#[.tmp 11],#[3]⟩,none⟩,⟨some 13,.buildSlice 29 1 #[(0,(.tmp 12))],none⟩,⟨some 14,.call ⟨.builtin .append,#[.tmp 10,.tmp 13],#[29,29]⟩,none⟩,⟨some 3,.assign (.tmp 14),none⟩]
def fS31b0:SC:=.block 1 fS31r4
def fS31r5:SC:=.reg [⟨some 8,.move (.tmp 4),none⟩,⟨some 9,.binOp .add 3 (.tmp 8) (.const (.int .i64 1)) 3,none⟩,⟨some 4,.assign (.tmp 9),none⟩]
def fS31l0:SC:=(.seq (.seq fS31r3 (.cond (.tmp 7) .skip (.exit 0))) (.seq fS31b0 fS31r5))
def fS31b1:SC:=.block 0 (.loop fS31l0)
def fS31r6:SC:=.reg [⟨some 15,.move (.tmp 3),none⟩,⟨some 2,.assign (.tmp 15),none⟩]
def fS31:SC:=(.seq fS31r0 (.seq fS31r1 (.seq (.seq fS31r2 fS31b1) (.seq fS31r6 .ret))))
theorem fB31:Try.f31.body.bind stripC=some fS31:=by kernel_rfl
def fS47r0:SC:=.reg [⟨some 2,.box 31 (.tmp 0),none⟩,⟨some 3,.box 31 (.tmp 1),none⟩,⟨some 4,.alloc 31,none⟩]
def fS47r1:SC:=.reg [⟨some 5,.load 31 (.tmp 2),none⟩,⟨some 6,.load 31 (.tmp 3),none⟩,⟨some 7,.buildSlice 29 2 #[(0,(.tmp 5)),(1,(.tmp 6))],none⟩,⟨some 8,.call ⟨.value (.func 10),#[(.const (.string ⟨#[45,62]⟩)),.tmp 7],#[9,29]⟩,none⟩,⟨none,.store 31 (.tmp 4) (.tmp 8),none⟩]
def fS47:SC:=(.seq fS47r0 (.seq fS47r1 .ret))
theorem fB47:Try.f47.body.bind stripC=some fS47:=by kernel_rfl
def fS10r0:SC:=.reg [⟨some 4,.alloc 31,none⟩]
def fS10r1:SC:=.reg [⟨some 5,.move (.tmp 0),none⟩,⟨some 6,.move (.tmp 1),none⟩,⟨some 7,.call ⟨.builtin .append,#[(.const (.slice none 0 0)),.tmp 6],#[29,29]⟩,none⟩,⟨some 8,.build 31 #[(0,(.const (.int .i64 4))),(1,(.tmp 5)),(4,(.tmp 7))],none⟩,⟨none,.store 31 (.tmp 4) (.tmp 8),none⟩]
def fS10:SC:=(.seq fS10r0 (.seq fS10r1 .ret))
theorem fB10:Try.f10.body.bind stripC=some fS10:=by kernel_rfl
def fS46r0:SC:=.reg [⟨some 0,.alloc 31,none⟩]
def fS46r1:SC:=.reg [⟨some 1,.call ⟨.value (.func 10),#[(.const (.string ⟨#[73,110,116]⟩)),(.const (.slice none 0 0))],#[9,29]⟩,none⟩,⟨none,.store 31 (.tmp 0) (.tmp 1),none⟩]
def fS46:SC:=(.seq fS46r0 (.seq fS46r1 .ret))
theorem fB46:Try.f46.body.bind stripC=some fS46:=by kernel_rfl
def fS32r0:SC:=.reg [⟨some 4,.alloc 31,none⟩]
def fS32r1:SC:=.reg [⟨some 5,.move (.tmp 0),none⟩,⟨some 6,.move (.tmp 1),none⟩,⟨some 7,.build 31 #[(0,(.const (.int .i64 3))),(3,(.tmp 5)),(2,(.tmp 6))],none⟩,⟨none,.store 31 (.tmp 4) (.tmp 7),none⟩]
def fS32:SC:=(.seq fS32r0 (.seq fS32r1 .ret))
theorem fB32:Try.f32.body.bind stripC=some fS32:=by kernel_rfl
def fS9r0:SC:=.reg [⟨some 2,.alloc 31,none⟩]
def fS9r1:SC:=.reg [⟨some 3,.move (.tmp 0),none⟩,⟨some 4,.build 31 #[(0,(.const (.int .i64 1))),(2,(.tmp 3))],none⟩,⟨none,.store 31 (.tmp 2) (.tmp 4),none⟩]
def fS9:SC:=(.seq fS9r0 (.seq fS9r1 .ret))
theorem fB9:Try.f9.body.bind stripC=some fS9:=by kernel_rfl
def fS43r0:SC:=.reg [⟨some 2,.box 31 (.tmp 0),none⟩,⟨some 3,.box 31 (.tmp 1),none⟩,⟨some 4,.assign (.const (.int .i64 0)),none⟩]
def fS43r1:SC:=.draw [⟨some 6,.fieldAddr 31 (.tmp 2) 0,none,[2]⟩,⟨some 7,.load 3 (.tmp 6),none,[6]⟩,⟨some 8,.fieldAddr 31 (.tmp 3) 0,none,[3]⟩,⟨some 9,.load 3 (.tmp 8),none,[8]⟩,⟨some 10,.call ⟨.value (.func 53),#[.tmp 7,.tmp 9],#[3,3]⟩,none,[7,9]⟩,⟨some 11,.fieldAddr 31 (.tmp 2) 1,none,[2]⟩,⟨some 12,.load 9 (.tmp 11),none,[11]⟩,⟨some 13,.fieldAddr 31 (.tmp 3) 1,none,[3]⟩,⟨some 14,.load 9 (.tmp 13),none,[13]⟩,⟨some 15,.call ⟨.value (.func 54),#[.tmp 12,.tmp 14],#[9,9]⟩,none,[12,14]⟩,⟨some 16,.fieldAddr 31 (.tmp 2) 2,none,[2]⟩,⟨some 17,.load 3 (.tmp 16),none,[16]⟩,⟨some 18,.fieldAddr 31 (.tmp 3) 2,none,[3]⟩,⟨some 19,.load 3 (.tmp 18),none,[18]⟩,⟨some 20,.call ⟨.value (.func 53),#[.tmp 17,.tmp 19],#[3,3]⟩,none,[17,19]⟩,⟨some 21,.fieldAddr 31 (.tmp 2) 3,none,[2]⟩,⟨some 22,.load 3 (.tmp 21),none,[21]⟩,⟨some 23,.fieldAddr 31 (.tmp 3) 3,none,[3]⟩,⟨some 24,.load 3 (.tmp 23),none,[23]⟩,⟨some 25,.call ⟨.value (.func 53),#[.tmp 22,.tmp 24],#[3,3]⟩,none,[22,24]⟩,⟨some 26,.fieldAddr 31 (.tmp 2) 4,none,[2]⟩,⟨some 27,.load 29 (.tmp 26),none,[26]⟩,⟨some 28,.call ⟨.builtin .len,#[.tmp 27],#[29]⟩,none,[27]⟩,⟨some 29,.fieldAddr 31 (.tmp 3) 4,none,[3]⟩,⟨some 30,.load 29 (.tmp 29),none,[29]⟩,⟨some 31,.call ⟨.builtin .len,#[.tmp 30],#[29]⟩,none,[30]⟩,⟨some 32,.call ⟨.value (.func 53),#[.tmp 28,.tmp 31],#[3,3]⟩,none,[28,31]⟩,⟨some 33,.buildSlice 22 5 #[(0,(.tmp 10)),(1,(.tmp 15)),(2,(.tmp 20)),(3,(.tmp 25)),(4,(.tmp 32))],none,[10,15,20,25,32]⟩,⟨some 34,.call ⟨.value (.func 52),#[.tmp 33],#[22]⟩,none,[33]⟩,⟨some 5,.assign (.tmp 34),none,[34]⟩] [0,1,0,4,15,0,32,0,128,511,0,1024,0,4096,16383,0,32768,0,131072,524287,0,1048576,3145728,0,8388608,25165824,67108863,134217727,268435455,536870911]
def fS43r2:SC:=.reg [⟨some 35,.move (.tmp 5),none⟩,⟨some 36,.binOp .neq 3 (.tmp 35) (.const (.int .i64 0)) 3,none⟩]
def fS43r3:SC:=.reg [⟨some 37,.move (.tmp 5),none⟩,⟨some 4,.assign (.tmp 37),none⟩]
def fS43r4:SC:=.reg [⟨some 38,.fieldAddr 31 (.tmp 2) 4,none⟩,⟨some 39,.load 29 (.tmp 38),none⟩,⟨some 40,.fieldAddr 31 (.tmp 3) 4,none⟩,⟨some 41,.load 29 (.tmp 40),none⟩,⟨some 42,.call ⟨.value (.func 55),#[.tmp 39,.tmp 41,(.func 43)],#[29,29,88]⟩,none⟩,⟨some 4,.assign (.tmp 42),none⟩]
def fS43:SC:=(.seq fS43r0 (.seq fS43r1 (.seq (.seq fS43r2 (.cond (.tmp 36) (.seq fS43r3 .ret) .skip)) (.seq fS43r4 .ret))))
theorem fB43:Try.f43.body.bind stripC=some fS43:=by kernel_rfl
def fS28r0:SC:=.reg [⟨some 2,.box 31 (.tmp 0),none⟩,⟨some 3,.box 31 (.tmp 1),none⟩,⟨some 4,.assign (.const (.bool false)),none⟩]
def fS28r1:SC:=.reg [⟨some 5,.load 31 (.tmp 2),none⟩,⟨some 6,.load 31 (.tmp 3),none⟩,⟨some 7,.call ⟨.value (.func 43),#[.tmp 5,.tmp 6],#[31,31]⟩,none⟩,⟨some 8,.binOp .eql 3 (.tmp 7) (.const (.int .i64 0)) 3,none⟩,⟨some 4,.assign (.tmp 8),none⟩]
def fS28:SC:=(.seq fS28r0 (.seq fS28r1 .ret))
theorem fB28:Try.f28.body.bind stripC=some fS28:=by kernel_rfl
def fS44r0:SC:=.reg [⟨some 2,.box 31 (.tmp 0),none⟩,⟨some 3,.box 34 (.tmp 1),none⟩,⟨some 4,.alloc 31,none⟩]
def fS44r1:SC:=.reg [⟨some 5,.load 31 (.tmp 2),none⟩,⟨some 6,.makeFunc (.func 57) #[] #[.tmp 3],none⟩,⟨some 7,.call ⟨.value (.func 56),#[.tmp 5,.tmp 6],#[31,77]⟩,none⟩,⟨none,.store 31 (.tmp 4) (.tmp 7),none⟩]
def fS44:SC:=(.seq fS44r0 (.seq fS44r1 .ret))
theorem fB44:Try.f44.body.bind stripC=some fS44:=by kernel_rfl
def fS57r0:SC:=.reg [⟨some 2,.box 31 (.tmp 0),none⟩,⟨some 3,.alloc 31,none⟩]
def fS57r1:SC:=.reg [⟨some 6,.fieldAddr 31 (.tmp 2) 0,none⟩,⟨some 7,.load 3 (.tmp 6),none⟩,⟨some 8,.binOp .eql 3 (.tmp 7) (.const (.int .i64 1)) 3,none⟩]
def fS57r2:SC:=.reg [⟨some 9,.load 34 (.tmp 1),none⟩,⟨some 10,.call ⟨.builtin .len,#[.tmp 9],#[34]⟩,none⟩,⟨some 11,.move (.const (.int .i64 0)),none⟩]
def fS57r3:SC:=.reg [⟨some 12,.binOp .lss 3 (.tmp 11) (.tmp 10) 3,none⟩]
def fS57r4:SC:=.reg [⟨some 13,.indexAddr 34 (.tmp 9) (.tmp 11),none⟩,⟨some 14,.load 82 (.tmp 13),none⟩,⟨some 5,.alloc 82,none⟩,⟨none,.store 82 (.tmp 5) (.tmp 14),none⟩]
def fS57r5:SC:=.reg [⟨some 15,.fieldAddr 82 (.tmp 5) 0,none⟩,⟨some 16,.load 3 (.tmp 15),none⟩,⟨some 17,.fieldAddr 31 (.tmp 2) 2,none⟩,⟨some 18,.load 3 (.tmp 17),none⟩,⟨some 19,.binOp .eql 3 (.tmp 16) (.tmp 18) 3,none⟩]
def fS57r6:SC:=.reg [⟨some 20,.fieldAddr 82 (.tmp 5) 1,none⟩,⟨some 21,.load 31 (.tmp 20),none⟩,⟨none,.store 31 (.tmp 3) (.tmp 21),none⟩]
def fS57b0:SC:=.block 1 (.seq fS57r4 (.seq fS57r5 (.cond (.tmp 19) (.seq fS57r6 .ret) .skip)))
def fS57r7:SC:=.reg [⟨some 22,.binOp .add 3 (.tmp 11) (.const (.int .i64 1)) 3,none⟩,⟨some 11,.move (.tmp 22),none⟩]
def fS57l0:SC:=(.seq fS57r3 (.seq (.cond (.tmp 12) .skip (.exit 0)) (.seq fS57b0 fS57r7)))
def fS57b1:SC:=.block 0 (.loop fS57l0)
def fS57r8:SC:=.reg [⟨some 23,.load 31 (.tmp 2),none⟩,⟨none,.store 31 (.tmp 3) (.tmp 23),none⟩]
def fS57:SC:=(.seq fS57r0 (.seq (.seq fS57r1 (.cond (.tmp 8) (.seq fS57r2 fS57b1) .skip)) (.seq fS57r8 .ret)))
theorem fB57:Try.f57.body.bind stripC=some fS57:=by kernel_rfl
def fS22r0:SC:=.reg [⟨some 2,.alloc 31,none⟩]
def fS22r1:SC:=.reg [⟨some 3,.move (.tmp 0),none⟩,⟨some 4,.build 31 #[(0,(.const (.int .i64 1))),(2,(.tmp 3))],none⟩,⟨none,.store 31 (.tmp 2) (.tmp 4),none⟩]
def fS22:SC:=(.seq fS22r0 (.seq fS22r1 .ret))
theorem fB22:Try.f22.body.bind stripC=some fS22:=by kernel_rfl
def fS25r0:SC:=.reg [⟨some 2,.assign (.const (.slice none 0 0)),none⟩]
def fS25r1:SC:=.reg [⟨some 3,.alloc 22,none⟩]
def fS25r2:SC:=.reg [⟨some 6,.move (.tmp 0),none⟩,⟨some 7,.call ⟨.builtin .len,#[.tmp 6],#[29]⟩,none⟩,⟨some 8,.move (.const (.int .i64 0)),none⟩]
def fS25r3:SC:=.reg [⟨some 9,.binOp .lss 3 (.tmp 8) (.tmp 7) 3,none⟩]
def fS25r4:SC:=.reg [⟨some 10,.indexAddr 29 (.tmp 6) (.tmp 8),none⟩,⟨some 11,.load 31 (.tmp 10),none⟩,⟨some 5,.alloc 31,none⟩,⟨none,.store 31 (.tmp 5) (.tmp 11),none⟩]
def fS25r5:SC:=.reg [⟨some 12,.load 31 (.tmp 5),none⟩,⟨some 13,.makeFunc (.func 40) #[] #[.tmp 3],none⟩,⟨some 14,.call ⟨.value (.func 39),#[.tmp 12,.tmp 13],#[31,86]⟩,none⟩]
def fS25b0:SC:=.block 1 (.seq fS25r4 fS25r5)
def fS25r6:SC:=.reg [⟨some 15,.binOp .add 3 (.tmp 8) (.const (.int .i64 1)) 3,none⟩,⟨some 8,.move (.tmp 15),none⟩]
def fS25l0:SC:=(.seq fS25r3 (.seq (.cond (.tmp 9) .skip (.exit 0)) (.seq fS25b0 fS25r6)))
def fS25b1:SC:=.block 0 (.loop fS25l0)
def fS25r7:SC:=.reg [⟨some 16,.load 22 (.tmp 3),none⟩,⟨some 2,.assign (.tmp 16),none⟩]
def fS25:SC:=(.seq fS25r0 (.seq fS25r1 (.seq (.seq fS25r2 fS25b1) (.seq fS25r7 .ret))))
theorem fB25:Try.f25.body.bind stripC=some fS25:=by kernel_rfl
def fS40r0:SC:=.reg [⟨some 2,.box 31 (.tmp 0),none⟩]
def fS40r1:SC:=.reg [⟨some 3,.fieldAddr 31 (.tmp 2) 0,none⟩,⟨some 4,.load 3 (.tmp 3),none⟩,⟨some 5,.binOp .eql 3 (.tmp 4) (.const (.int .i64 1)) 3,none⟩,⟨some 6,.move (.tmp 5),none⟩,⟨some 7,.load 22 (.tmp 1),some (6,true)⟩,⟨some 8,.fieldAddr 31 (.tmp 2) 2,some (6,true)⟩,⟨some 9,.load 3 (.tmp 8),some (6,true)⟩,⟨some 10,.call ⟨.value (.func 41),#[.tmp 7,.tmp 9],#[22,3]⟩,some (6,true)⟩,⟨some 11,.unOp .not 4 (.tmp 10),some (6,true)⟩,⟨some 12,.pick (.tmp 6) (.tmp 11) (.const (.bool false)),none⟩]
def fS40r2:SC:=.reg [⟨some 13,.load 22 (.tmp 1),none⟩,⟨some 14,.fieldAddr 31 (.tmp 2) 2,none⟩,⟨some 15,.load 3 (.tmp 14),none⟩,⟨some 16,.buildSlice 22 1 #[(0,(.tmp 15))],none⟩,⟨some 17,.call ⟨.builtin .append,#[.tmp 13,.tmp 16],#[22,22]⟩,none⟩,⟨none,.store 22 (.tmp 1) (.tmp 17),none⟩]
def fS40:SC:=(.seq fS40r0 (.seq fS40r1 (.cond (.tmp 12) fS40r2 .skip)))
theorem fB40:Try.f40.body.bind stripC=some fS40:=by kernel_rfl
def fS56r0:SC:=.reg [⟨some 2,.box 31 (.tmp 0),none⟩,⟨some 4,.alloc 31,none⟩]
def fS56r1:SC:=.reg [⟨some 8,.fieldAddr 31 (.tmp 2) 4,none⟩,⟨some 9,.load 29 (.tmp 8),none⟩,⟨some 10,.call ⟨.builtin .len,#[.tmp 9],#[29]⟩,none⟩,⟨some 11,.binOp .eql 3 (.tmp 10) (.const (.int .i64 0)) 3,none⟩]
def fS56r2:SC:=.reg [⟨some 12,.move (.tmp 1),none⟩,⟨some 13,.load 31 (.tmp 2),none⟩,⟨some 14,.call ⟨.value (.tmp 12),#[.tmp 13],#[31]⟩,none⟩,⟨none,.store 31 (.tmp 4) (.tmp 14),none⟩]
def fS56r3:SC:=.reg [⟨some 15,.fieldAddr 31 (.tmp 2) 4,none⟩,⟨some 16,.load 29 (.tmp 15),none⟩,⟨some 17,.call ⟨.builtin .len,#[.tmp 16],#[29]⟩,none⟩,⟨some 18,.makeSlice 29 (.tmp 17) (.tmp 17),none⟩,⟨some 5,.assign (.tmp 18),none⟩]
def fS56r4:SC:=.reg [⟨some 19,.fieldAddr 31 (.tmp 2) 4,none⟩,⟨some 20,.load 29 (.tmp 19),none⟩,⟨some 21,.call ⟨.builtin .len,#[.tmp 20],#[29]⟩,none⟩,⟨some 22,.move (.const (.int .i64 0)),none⟩]
def fS56r5:SC:=.reg [⟨some 23,.binOp .lss 3 (.tmp 22) (.tmp 21) 3,none⟩]
def fS56r6:SC:=.reg [⟨some 24,.move (.tmp 22),none⟩,⟨some 25,.indexAddr 29 (.tmp 20) (.tmp 22),none⟩,⟨some 26,.load 31 (.tmp 25),none⟩,⟨some 7,.alloc 31,none⟩,⟨some 6,.assign (.tmp 24),none⟩,⟨none,.store 31 (.tmp 7) (.tmp 26),none⟩]
def fS56r7:SC:=.reg [⟨some 27,.move (.tmp 5),none⟩,⟨some 28,.move (.tmp 6),none⟩,⟨some 29,.load 31 (.tmp 7),none⟩,⟨some 30,.move (.tmp 1),none⟩,⟨some 31,.call ⟨.value (.func 56),#[.tmp 29,.tmp 30],#[31,77]⟩,none⟩,⟨some 32,.indexAddr 29 (.tmp 27) (.tmp 28),none⟩,⟨none,.store 31 (.tmp 32) (.tmp 31),none⟩]
def fS56b0:SC:=.block 1 (.seq fS56r6 fS56r7)
def fS56r8:SC:=.reg [⟨some 33,.binOp .add 3 (.tmp 22) (.const (.int .i64 1)) 3,none⟩,⟨some 22,.move (.tmp 33),none⟩]
def fS56l0:SC:=(.seq fS56r5 (.seq (.cond (.tmp 23) .skip (.exit 0)) (.seq fS56b0 fS56r8)))
def fS56b1:SC:=.block 0 (.loop fS56l0)
def fS56r9:SC:=.reg [⟨some 34,.move (.tmp 5),none⟩,⟨some 35,.fieldAddr 31 (.tmp 2) 4,none⟩,⟨none,.store 29 (.tmp 35) (.tmp 34),none⟩]
def fS56r10:SC:=.reg [⟨some 36,.load 31 (.tmp 2),none⟩,⟨none,.store 31 (.tmp 4) (.tmp 36),none⟩]
def fS56:SC:=(.seq fS56r0 (.seq (.seq fS56r1 (.cond (.tmp 11) (.seq fS56r2 .ret) .skip)) (.seq fS56r3 (.seq (.seq fS56r4 fS56b1) (.seq fS56r9 (.seq fS56r10 .ret))))))
theorem fB56:Try.f56.body.bind stripC=some fS56:=by kernel_rfl
def fS39r0:SC:=.reg [⟨some 2,.box 31 (.tmp 0),none⟩]
def fS39r1:SC:=.reg [⟨some 6,.move (.tmp 1),none⟩,⟨some 7,.load 31 (.tmp 2),none⟩,⟨some 8,.call ⟨.value (.tmp 6),#[.tmp 7],#[31]⟩,none⟩]
def fS39r2:SC:=.reg [⟨some 9,.fieldAddr 31 (.tmp 2) 4,none⟩,⟨some 10,.load 29 (.tmp 9),none⟩,⟨some 11,.call ⟨.builtin .len,#[.tmp 10],#[29]⟩,none⟩,⟨some 12,.move (.const (.int .i64 0)),none⟩]
def fS39r3:SC:=.reg [⟨some 13,.binOp .lss 3 (.tmp 12) (.tmp 11) 3,none⟩]
def fS39r4:SC:=.reg [⟨some 14,.indexAddr 29 (.tmp 10) (.tmp 12),none⟩,⟨some 15,.load 31 (.tmp 14),none⟩,⟨some 5,.alloc 31,none⟩,⟨none,.store 31 (.tmp 5) (.tmp 15),none⟩]
def fS39r5:SC:=.reg [⟨some 16,.load 31 (.tmp 5),none⟩,⟨some 17,.move (.tmp 1),none⟩,⟨some 18,.call ⟨.value (.func 39),#[.tmp 16,.tmp 17],#[31,86]⟩,none⟩]
def fS39b0:SC:=.block 1 (.seq fS39r4 fS39r5)
def fS39r6:SC:=.reg [⟨some 19,.binOp .add 3 (.tmp 12) (.const (.int .i64 1)) 3,none⟩,⟨some 12,.move (.tmp 19),none⟩]
def fS39l0:SC:=(.seq fS39r3 (.seq (.cond (.tmp 13) .skip (.exit 0)) (.seq fS39b0 fS39r6)))
def fS39b1:SC:=.block 0 (.loop fS39l0)
def fS39:SC:=(.seq fS39r0 (.seq fS39r1 (.seq fS39r2 fS39b1)))
theorem fB39:Try.f39.body.bind stripC=some fS39:=by kernel_rfl
end Go.Proofs.Ytfgmnebfhemnpaa
