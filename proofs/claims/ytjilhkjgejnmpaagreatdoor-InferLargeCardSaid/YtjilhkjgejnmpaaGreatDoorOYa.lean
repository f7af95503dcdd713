import Derived.Test.YtjilhkjgejnmpaaGreatDoorJX1
import Derived.Test.YtjilhkjgejnmpaaGreatDoorRows
import Derived.Test.YtjilhkjgejnmpaaGreatDoorOSa
set_option linter.all false
noncomputable section
namespace Go.Proofs.YtjilhkjgejnmpaaGreatDoor
open Go.J
def I3:TI:=(ti Tryz.prog 3).getD ⟨.bool,0,0,[],false⟩
@[simp] theorem ti3:ti Tryz.prog 3=some I3:=by kernel_rfl
@[simp] theorem si3:I3.size=1:=by kernel_rfl
@[simp] theorem by3:I3.bytes=8:=by kernel_rfl
@[simp] theorem ze3:I3.zero=[.int .i64 0]:=by kernel_rfl
@[simp] theorem za3:I3.zagg=false:=by kernel_rfl
@[simp] theorem de3:I3.desc=.int .i64:=by kernel_rfl
def I4:TI:=(ti Tryz.prog 4).getD ⟨.bool,0,0,[],false⟩
@[simp] theorem ti4:ti Tryz.prog 4=some I4:=by kernel_rfl
@[simp] theorem si4:I4.size=1:=by kernel_rfl
@[simp] theorem by4:I4.bytes=1:=by kernel_rfl
@[simp] theorem ze4:I4.zero=[.bool false]:=by kernel_rfl
@[simp] theorem za4:I4.zagg=false:=by kernel_rfl
@[simp] theorem de4:I4.desc=.bool:=by kernel_rfl
def I9:TI:=(ti Tryz.prog 9).getD ⟨.bool,0,0,[],false⟩
@[simp] theorem ti9:ti Tryz.prog 9=some I9:=by kernel_rfl
@[simp] theorem si9:I9.size=1:=by kernel_rfl
@[simp] theorem by9:I9.bytes=16:=by kernel_rfl
@[simp] theorem ze9:I9.zero=[.str []]:=by kernel_rfl
@[simp] theorem za9:I9.zagg=false:=by kernel_rfl
@[simp] theorem de9:I9.desc=.string:=by kernel_rfl
def I24:TI:=(ti Tryz.prog 24).getD ⟨.bool,0,0,[],false⟩
@[simp] theorem ti24:ti Tryz.prog 24=some I24:=by kernel_rfl
@[simp] theorem si24:I24.size=1:=by kernel_rfl
@[simp] theorem by24:I24.bytes=24:=by kernel_rfl
@[simp] theorem ze24:I24.zero=[.snil]:=by kernel_rfl
@[simp] theorem za24:I24.zagg=false:=by kernel_rfl
@[simp] theorem de24:I24.desc=.slice 26:=by kernel_rfl
def I26:TI:=(ti Tryz.prog 26).getD ⟨.bool,0,0,[],false⟩
@[simp] theorem ti26:ti Tryz.prog 26=some I26:=by kernel_rfl
@[simp] theorem si26:I26.size=5:=by kernel_rfl
@[simp] theorem by26:I26.bytes=64:=by kernel_rfl
@[simp] theorem ze26:I26.zero=[.int .i64 0,.str [],.int .i64 0,.int .i64 0,.snil]:=by kernel_rfl
@[simp] theorem za26:I26.zagg=true:=by kernel_rfl
@[simp] theorem ag26:isAggD I26.desc=true:=by kernel_rfl
@[simp] theorem st26:isStructD I26.desc=true:=by kernel_rfl
@[simp] theorem fk26:fieldsOk Tryz.prog (fieldsOf I26.desc)=true:=by kernel_rfl
def F26x0:Field:=(fieldOf I26 0).getD default
@[simp] theorem fi26x0:fieldOf I26 0=some F26x0:=by kernel_rfl
@[simp] theorem ft26x0:F26x0.type=3:=by kernel_rfl
@[simp] theorem fo26x0:F26x0.offset=0:=by kernel_rfl
def F26x1:Field:=(fieldOf I26 1).getD default
@[simp] theorem fi26x1:fieldOf I26 1=some F26x1:=by kernel_rfl
@[simp] theorem ft26x1:F26x1.type=9:=by kernel_rfl
@[simp] theorem fo26x1:F26x1.offset=1:=by kernel_rfl
def F26x2:Field:=(fieldOf I26 2).getD default
@[simp] theorem fi26x2:fieldOf I26 2=some F26x2:=by kernel_rfl
@[simp] theorem ft26x2:F26x2.type=3:=by kernel_rfl
@[simp] theorem fo26x2:F26x2.offset=2:=by kernel_rfl
def F26x3:Field:=(fieldOf I26 3).getD default
@[simp] theorem fi26x3:fieldOf I26 3=some F26x3:=by kernel_rfl
@[simp] theorem ft26x3:F26x3.type=3:=by kernel_rfl
@[simp] theorem fo26x3:F26x3.offset=3:=by kernel_rfl
def F26x4:Field:=(fieldOf I26 4).getD default
@[simp] theorem fi26x4:fieldOf I26 4=some F26x4:=by kernel_rfl
@[simp] theorem ft26x4:F26x4.type=24:=by kernel_rfl
@[simp] theorem fo26x4:F26x4.offset=4:=by kernel_rfl
def I98:TI:=(ti Tryz.prog 98).getD ⟨.bool,0,0,[],false⟩
@[simp] theorem ti98:ti Tryz.prog 98=some I98:=by kernel_rfl
@[simp] theorem si98:I98.size=1:=by kernel_rfl
@[simp] theorem by98:I98.bytes=24:=by kernel_rfl
@[simp] theorem ze98:I98.zero=[.snil]:=by kernel_rfl
@[simp] theorem za98:I98.zagg=false:=by kernel_rfl
@[simp] theorem de98:I98.desc=.slice 125:=by kernel_rfl
def I99:TI:=(ti Tryz.prog 99).getD ⟨.bool,0,0,[],false⟩
@[simp] theorem ti99:ti Tryz.prog 99=some I99:=by kernel_rfl
@[simp] theorem si99:I99.size=1:=by kernel_rfl
@[simp] theorem by99:I99.bytes=24:=by kernel_rfl
@[simp] theorem ze99:I99.zero=[.snil]:=by kernel_rfl
@[simp] theorem za99:I99.zagg=false:=by kernel_rfl
@[simp] theorem de99:I99.desc=.slice 262:=by kernel_rfl
def I101:TI:=(ti Tryz.prog 101).getD ⟨.bool,0,0,[],false⟩
@[simp] theorem ti101:ti Tryz.prog 101=some I101:=by kernel_rfl
@[simp] theorem si101:I101.size=2:=by kernel_rfl
@[simp] theorem by101:I101.bytes=48:=by kernel_rfl
@[simp] theorem ze101:I101.zero=[.snil,.snil]:=by kernel_rfl
@[simp] theorem za101:I101.zagg=true:=by kernel_rfl
@[simp] theorem ag101:isAggD I101.desc=true:=by kernel_rfl
@[simp] theorem st101:isStructD I101.desc=true:=by kernel_rfl
@[simp] theorem fk101:fieldsOk Tryz.prog (fieldsOf I101.desc)=true:=by kernel_rfl
def F101x0:Field:=(fieldOf I101 0).getD default
@[simp] theorem fi101x0:fieldOf I101 0=some F101x0:=by kernel_rfl
@[simp] theorem ft101x0:F101x0.type=98:=by kernel_rfl
@[simp] theorem fo101x0:F101x0.offset=0:=by kernel_rfl
def F101x1:Field:=(fieldOf I101 1).getD default
@[simp] theorem fi101x1:fieldOf I101 1=some F101x1:=by kernel_rfl
@[simp] theorem ft101x1:F101x1.type=99:=by kernel_rfl
@[simp] theorem fo101x1:F101x1.offset=1:=by kernel_rfl
def I125:TI:=(ti Tryz.prog 125).getD ⟨.bool,0,0,[],false⟩
@[simp] theorem ti125:ti Tryz.prog 125=some I125:=by kernel_rfl
@[simp] theorem si125:I125.size=8:=by kernel_rfl
@[simp] theorem by125:I125.bytes=88:=by kernel_rfl
@[simp] theorem ze125:I125.zero=[.bool false,.int .i64 0,.str [],.int .i64 0,.int .i64 0,.snil,.int .i64 0,.bool false]:=by kernel_rfl
@[simp] theorem za125:I125.zagg=true:=by kernel_rfl
@[simp] theorem ag125:isAggD I125.desc=true:=by kernel_rfl
@[simp] theorem st125:isStructD I125.desc=true:=by kernel_rfl
@[simp] theorem fk125:fieldsOk Tryz.prog (fieldsOf I125.desc)=true:=by kernel_rfl
def F125x0:Field:=(fieldOf I125 0).getD default
@[simp] theorem fi125x0:fieldOf I125 0=some F125x0:=by kernel_rfl
@[simp] theorem ft125x0:F125x0.type=4:=by kernel_rfl
@[simp] theorem fo125x0:F125x0.offset=0:=by kernel_rfl
def F125x1:Field:=(fieldOf I125 1).getD default
@[simp] theorem fi125x1:fieldOf I125 1=some F125x1:=by kernel_rfl
@[simp] theorem ft125x1:F125x1.type=26:=by kernel_rfl
@[simp] theorem fo125x1:F125x1.offset=1:=by kernel_rfl
def F125x2:Field:=(fieldOf I125 2).getD default
@[simp] theorem fi125x2:fieldOf I125 2=some F125x2:=by kernel_rfl
@[simp] theorem ft125x2:F125x2.type=3:=by kernel_rfl
@[simp] theorem fo125x2:F125x2.offset=6:=by kernel_rfl
def F125x3:Field:=(fieldOf I125 3).getD default
@[simp] theorem fi125x3:fieldOf I125 3=some F125x3:=by kernel_rfl
@[simp] theorem ft125x3:F125x3.type=4:=by kernel_rfl
@[simp] theorem fo125x3:F125x3.offset=7:=by kernel_rfl
def I262:TI:=(ti Tryz.prog 262).getD ⟨.bool,0,0,[],false⟩
@[simp] theorem ti262:ti Tryz.prog 262=some I262:=by kernel_rfl
@[simp] theorem si262:I262.size=10:=by kernel_rfl
@[simp] theorem by262:I262.bytes=104:=by kernel_rfl
@[simp] theorem ze262:I262.zero=[.int .i64 0,.bool false,.int .i64 0,.str [],.int .i64 0,.int .i64 0,.snil,.int .i64 0,.bool false,.bool false]:=by kernel_rfl
@[simp] theorem za262:I262.zagg=true:=by kernel_rfl
@[simp] theorem ag262:isAggD I262.desc=true:=by kernel_rfl
@[simp] theorem st262:isStructD I262.desc=true:=by kernel_rfl
@[simp] theorem fk262:fieldsOk Tryz.prog (fieldsOf I262.desc)=true:=by kernel_rfl
def F262x0:Field:=(fieldOf I262 0).getD default
@[simp] theorem fi262x0:fieldOf I262 0=some F262x0:=by kernel_rfl
@[simp] theorem ft262x0:F262x0.type=3:=by kernel_rfl
@[simp] theorem fo262x0:F262x0.offset=0:=by kernel_rfl
def F262x1:Field:=(fieldOf I262 1).getD default
@[simp] theorem fi262x1:fieldOf I262 1=some F262x1:=by kernel_rfl
@[simp] theorem ft262x1:F262x1.type=125:=by kernel_rfl
@[simp] theorem fo262x1:F262x1.offset=1:=by kernel_rfl
def F262x2:Field:=(fieldOf I262 2).getD default
@[simp] theorem fi262x2:fieldOf I262 2=some F262x2:=by kernel_rfl
@[simp] theorem ft262x2:F262x2.type=4:=by kernel_rfl
@[simp] theorem fo262x2:F262x2.offset=9:=by kernel_rfl
end Go.Proofs.YtjilhkjgejnmpaaGreatDoor
namespace Go.Proofs.YtjilhkjgejnmpaaGreatDoor
open Go.J
def fS258r0:SC:=.reg [⟨some 2,.box 101 (.tmp 0),none⟩,⟨some 4,.assign (.const (.bool false)),none⟩]
def fS258r1:SC:=.reg [⟨some 5,.move (.tmp 1),none⟩,⟨some 6,.binOp .geq 3 (.tmp 5) (.const (.int .i64 0)) 3,none⟩,⟨some 7,.move (.tmp 6),none⟩,⟨some 8,.move (.tmp 1),some (7,true)⟩,⟨some 9,.fieldAddr 101 (.tmp 2) 0,some (7,true)⟩,⟨some 10,.load 98 (.tmp 9),some (7,true)⟩,⟨some 11,.call ⟨.builtin .len,#[.tmp 10],#[98]⟩,some (7,true)⟩,⟨some 12,.binOp .lss 3 (.tmp 8) (.tmp 11) 3,some (7,true)⟩,⟨some 13,.pick (.tmp 7) (.tmp 12) (.const (.bool false)),none⟩,⟨some 4,.assign (.tmp 13),none⟩]
def fS258:SC:=(.seq fS258r0 (.seq fS258r1 .ret))
theorem fB258:Tryz.f258.body.bind stripC=some fS258:=by kernel_rfl
def fS227r0:SC:=.reg [⟨some 2,.box 101 (.tmp 0),none⟩,⟨some 3,.box 26 (.tmp 1),none⟩,⟨some 4,.assign (.const (.bool false)),none⟩]
def fS227r1:SC:=.reg [⟨some 5,.fieldAddr 26 (.tmp 3) 0,none⟩,⟨some 6,.load 3 (.tmp 5),none⟩,⟨some 7,.binOp .eql 3 (.tmp 6) (.const (.int .i64 1)) 3,none⟩,⟨some 8,.move (.tmp 7),none⟩,⟨some 9,.load 101 (.tmp 2),some (8,true)⟩,⟨some 10,.fieldAddr 26 (.tmp 3) 2,some (8,true)⟩,⟨some 11,.load 3 (.tmp 10),some (8,true)⟩,⟨some 12,.call ⟨.value (.func 258),#[.tmp 9,.tmp 11],#[101,3]⟩,some (8,true)⟩,⟨some 13,.pick (.tmp 8) (.tmp 12) (.const (.bool false)),none⟩,⟨some 14,.move (.tmp 13),none⟩,⟨some 15,.fieldAddr 101 (.tmp 2) 0,some (14,true)⟩,⟨some 16,.load 98 (.tmp 15),some (14,true)⟩,⟨some 17,.fieldAddr 26 (.tmp 3) 2,some (14,true)⟩,⟨some 18,.load 3 (.tmp 17),some (14,true)⟩,⟨some 19,.indexAddr 98 (.tmp 16) (.tmp 18),some (14,true)⟩,⟨some 20,.fieldAddr 125 (.tmp 19) 0,some (14,true)⟩,⟨some 21,.load 4 (.tmp 20),some (14,true)⟩,⟨some 22,.pick (.tmp 14) (.tmp 21) (.const (.bool false)),none⟩,⟨some 4,.assign (.tmp 22),none⟩]
def fS227:SC:=(.seq fS227r0 (.seq fS227r1 .ret))
theorem fB227:Tryz.f227.body.bind stripC=some fS227:=by kernel_rfl
def fS225r0:SC:=.reg [⟨some 2,.box 101 (.tmp 0),none⟩,⟨some 3,.box 26 (.tmp 1),none⟩,⟨some 4,.alloc 26,none⟩]
def fS225r1:SC:=.reg [⟨some 5,.fieldAddr 101 (.tmp 2) 0,none⟩,⟨some 6,.load 98 (.tmp 5),none⟩,⟨some 7,.call ⟨.builtin .len,#[.tmp 6],#[98]⟩,none⟩,⟨some 8,.move (.const (.int .i64 0)),none⟩]
def fS225r2:SC:=.reg [⟨some 9,.binOp .lss 3 (.tmp 8) (.tmp 7) 3,none⟩]
def fS225r3:SC:=.reg [⟨some 10,.load 101 (.tmp 2),none⟩,⟨some 11,.load 26 (.tmp 3),none⟩,⟨some 12,.call ⟨.value (.func 227),#[.tmp 10,.tmp 11],#[101,26]⟩,none⟩,⟨some 13,.unOp .not 4 (.tmp 12),none⟩]
def fS225r4:SC:=.reg [⟨some 14,.fieldAddr 101 (.tmp 2) 0,none⟩,⟨some 15,.load 98 (.tmp 14),none⟩,⟨some 16,.fieldAddr 26 (.tmp 3) 2,none⟩,⟨some 17,.load 3 (.tmp 16),none⟩,⟨some 18,.indexAddr 98 (.tmp 15) (.tmp 17),none⟩,⟨some 19,.fieldAddr 125 (.tmp 18) 1,none⟩,⟨some 20,.load 26 (.tmp 19),none⟩,⟨none,.store 26 (.tmp 3) (.tmp 20),none⟩]
def fS225b0:SC:=.block 1 (.seq (.seq fS225r3 (.cond (.tmp 13) (.exit 0) .skip)) fS225r4)
def fS225r5:SC:=.reg [⟨some 21,.binOp .add 3 (.tmp 8) (.const (.int .i64 1)) 3,none⟩,⟨some 8,.move (.tmp 21),none⟩]
def fS225l0:SC:=(.seq fS225r2 (.seq (.cond (.tmp 9) .skip (.exit 0)) (.seq fS225b0 fS225r5)))
def fS225b1:SC:=.block 0 (.loop fS225l0)
def fS225r6:SC:=.reg [⟨some 22,.load 26 (.tmp 3),none⟩,⟨none,.store 26 (.tmp 4) (.tmp 22),none⟩]
def fS225:SC:=(.seq fS225r0 (.seq (.seq fS225r1 fS225b1) (.seq fS225r6 .ret)))
theorem fB225:Tryz.f225.body.bind stripC=some fS225:=by kernel_rfl
def fS149r0:SC:=.reg [⟨some 3,.box 101 (.tmp 0),none⟩,⟨some 4,.box 26 (.tmp 1),none⟩,⟨some 6,.assign (.const (.int .i64 0)),none⟩]
def fS149r1:SC:=.reg [⟨some 10,.move (.tmp 2),none⟩,⟨some 11,.call ⟨.builtin .max,#[.tmp 10,(.const (.int .i64 0))],#[3,3]⟩,none⟩,⟨some 2,.assign (.tmp 11),none⟩]
def fS149r2:SC:=.reg [⟨some 7,.assign (.const (.int .i64 1)),none⟩]
def fS149r3:SC:=.reg [⟨some 12,.load 101 (.tmp 3),none⟩,⟨some 13,.load 26 (.tmp 4),none⟩,⟨some 14,.call ⟨.value (.func 225),#[.tmp 12,.tmp 13],#[101,26]⟩,none⟩,⟨some 15,.field 26 (.tmp 14) 4,none⟩,⟨some 16,.call ⟨.builtin .len,#[.tmp 15],#[24]⟩,none⟩,⟨some 17,.move (.const (.int .i64 0)),none⟩]
def fS149r4:SC:=.reg [⟨some 18,.binOp .lss 3 (.tmp 17) (.tmp 16) 3,none⟩]
def fS149r5:SC:=.reg [⟨some 19,.indexAddr 24 (.tmp 15) (.tmp 17),none⟩,⟨some 20,.load 26 (.tmp 19),none⟩,⟨some 9,.alloc 26,none⟩,⟨none,.store 26 (.tmp 9) (.tmp 20),none⟩]
def fS149r6:SC:=.reg [⟨some 21,.move (.tmp 7),none⟩,⟨some 22,.move (.tmp 2),none⟩,⟨some 23,.binOp .gtr 3 (.tmp 21) (.tmp 22) 3,none⟩]
def fS149r7:SC:=.reg [⟨some 24,.move (.tmp 7),none⟩,⟨some 25,.load 101 (.tmp 3),none⟩,⟨some 26,.load 26 (.tmp 9),none⟩,⟨some 27,.move (.tmp 2),none⟩,⟨some 28,.move (.tmp 7),none⟩,⟨some 29,.binOp .sub 3 (.tmp 27) (.tmp 28) 3,none⟩,⟨some 30,.call ⟨.value (.func 149),#[.tmp 25,.tmp 26,.tmp 29],#[101,26,3]⟩,none⟩,⟨some 31,.binOp .add 3 (.tmp 24) (.tmp 30) 3,none⟩,⟨some 7,.assign (.tmp 31),none⟩]
def fS149b0:SC:=.block 1 (.seq fS149r5 (.seq (.seq fS149r6 (.cond (.tmp 23) (.exit 0) .skip)) fS149r7))
def fS149r8:SC:=.reg [⟨some 32,.binOp .add 3 (.tmp 17) (.const (.int .i64 1)) 3,none⟩,⟨some 17,.move (.tmp 32),none⟩]
def fS149l0:SC:=(.seq fS149r4 (.seq (.cond (.tmp 18) .skip (.exit 0)) (.seq fS149b0 fS149r8)))
def fS149b1:SC:=.block 0 (.loop fS149l0)
def fS149r9:SC:=.reg [⟨some 33,.move (.tmp 7),none⟩,⟨some 34,.move (.tmp 2),none⟩,⟨some 35,.binOp .gtr 3 (.tmp 33) (.tmp 34) 3,none⟩]
def fS149r10:SC:=.reg [⟨some 36,.move (.tmp 2),none⟩,⟨some 37,.binOp .add 3 (.tmp 36) (.const (.int .i64 1)) 3,none⟩,⟨some 6,.assign (.tmp 37),none⟩]
def fS149r11:SC:=.reg [⟨some 38,.move (.tmp 7),none⟩,⟨some 6,.assign (.tmp 38),none⟩]
def fS149:SC:=(.seq fS149r0 (.seq fS149r1 (.seq fS149r2 (.seq (.seq fS149r3 fS149b1) (.seq (.seq fS149r9 (.cond (.tmp 35) (.seq fS149r10 .ret) .skip)) (.seq fS149r11 .ret))))))
theorem fB149:Tryz.f149.body.bind stripC=some fS149:=by kernel_rfl
def fS233r0:SC:=.reg [⟨some 2,.box 101 (.tmp 0),none⟩,⟨some 3,.box 26 (.tmp 1),none⟩,⟨some 4,.assign (.const (.bool false)),none⟩]
def fS233r1:SC:=.reg [⟨some 5,.fieldAddr 26 (.tmp 3) 0,none⟩,⟨some 6,.load 3 (.tmp 5),none⟩,⟨some 7,.binOp .eql 3 (.tmp 6) (.const (.int .i64 1)) 3,none⟩,⟨some 8,.move (.tmp 7),none⟩,⟨some 9,.fieldAddr 26 (.tmp 3) 2,some (8,true)⟩,⟨some 10,.load 3 (.tmp 9),some (8,true)⟩,⟨some 11,.binOp .geq 3 (.tmp 10) (.const (.int .i64 0)) 3,some (8,true)⟩,⟨some 12,.pick (.tmp 8) (.tmp 11) (.const (.bool false)),none⟩,⟨some 13,.move (.tmp 12),none⟩,⟨some 14,.fieldAddr 26 (.tmp 3) 2,some (13,true)⟩,⟨some 15,.load 3 (.tmp 14),some (13,true)⟩,⟨some 16,.fieldAddr 101 (.tmp 2) 0,some (13,true)⟩,⟨some 17,.load 98 (.tmp 16),some (13,true)⟩,⟨some 18,.call ⟨.builtin .len,#[.tmp 17],#[98]⟩,some (13,true)⟩,⟨some 19,.binOp .lss 3 (.tmp 15) (.tmp 18) 3,some (13,true)⟩,⟨some 20,.pick (.tmp 13) (.tmp 19) (.const (.bool false)),none⟩,⟨some 21,.move (.tmp 20),none⟩,⟨some 22,.fieldAddr 101 (.tmp 2) 0,some (21,true)⟩,⟨some 23,.load 98 (.tmp 22),some (21,true)⟩,⟨some 24,.fieldAddr 26 (.tmp 3) 2,some (21,true)⟩,⟨some 25,.load 3 (.tmp 24),some (21,true)⟩,⟨some 26,.indexAddr 98 (.tmp 23) (.tmp 25),some (21,true)⟩,⟨some 27,.fieldAddr 125 (.tmp 26) 0,some (21,true)⟩,⟨some 28,.load 4 (.tmp 27),some (21,true)⟩,⟨some 29,.pick (.tmp 21) (.tmp 28) (.const (.bool false)),none⟩,⟨some 4,.assign (.tmp 29),none⟩]
def fS233:SC:=(.seq fS233r0 (.seq fS233r1 .ret))
theorem fB233:Tryz.f233.body.bind stripC=some fS233:=by kernel_rfl
def fS232r0:SC:=.reg [⟨some 2,.box 101 (.tmp 0),none⟩,⟨some 3,.box 26 (.tmp 1),none⟩,⟨some 4,.alloc 26,none⟩]
def fS232r1:SC:=.reg [⟨some 5,.assign (.const (.int .i64 0)),none⟩]
def fS232r2:SC:=.reg [⟨some 6,.move (.tmp 5),none⟩,⟨some 7,.fieldAddr 101 (.tmp 2) 0,none⟩,⟨some 8,.load 98 (.tmp 7),none⟩,⟨some 9,.call ⟨.builtin .len,#[.tmp 8],#[98]⟩,none⟩,⟨some 10,.binOp .leq 3 (.tmp 6) (.tmp 9) 3,none⟩,⟨some 11,.move (.tmp 10),none⟩,⟨some 12,.load 101 (.tmp 2),some (11,true)⟩,⟨some 13,.load 26 (.tmp 3),some (11,true)⟩,⟨some 14,.call ⟨.value (.func 233),#[.tmp 12,.tmp 13],#[101,26]⟩,some (11,true)⟩,⟨some 15,.pick (.tmp 11) (.tmp 14) (.const (.bool false)),none⟩]
def fS232r3:SC:=.reg [⟨some 18,.fieldAddr 101 (.tmp 2) 0,none⟩,⟨some 19,.load 98 (.tmp 18),none⟩,⟨some 20,.fieldAddr 26 (.tmp 3) 2,none⟩,⟨some 21,.load 3 (.tmp 20),none⟩,⟨some 22,.indexAddr 98 (.tmp 19) (.tmp 21),none⟩,⟨some 23,.fieldAddr 125 (.tmp 22) 1,none⟩,⟨some 24,.load 26 (.tmp 23),none⟩,⟨none,.store 26 (.tmp 3) (.tmp 24),none⟩]
def fS232b0:SC:=.block 1 fS232r3
def fS232r4:SC:=.reg [⟨some 16,.move (.tmp 5),none⟩,⟨some 17,.binOp .add 3 (.tmp 16) (.const (.int .i64 1)) 3,none⟩,⟨some 5,.assign (.tmp 17),none⟩]
def fS232l0:SC:=(.seq (.seq fS232r2 (.cond (.tmp 15) .skip (.exit 0))) (.seq fS232b0 fS232r4))
def fS232b1:SC:=.block 0 (.loop fS232l0)
def fS232r5:SC:=.reg [⟨some 25,.load 26 (.tmp 3),none⟩,⟨none,.store 26 (.tmp 4) (.tmp 25),none⟩]
def fS232:SC:=(.seq fS232r0 (.seq (.seq fS232r1 fS232b1) (.seq fS232r5 .ret)))
theorem fB232:Tryz.f232.body.bind stripC=some fS232:=by kernel_rfl
def fS173r0:SC:=.reg [⟨some 3,.box 101 (.tmp 0),none⟩,⟨some 4,.box 26 (.tmp 1),none⟩,⟨some 6,.assign (.const (.int .i64 0)),none⟩]
def fS173r1:SC:=.reg [⟨some 9,.load 101 (.tmp 3),none⟩,⟨some 10,.load 26 (.tmp 4),none⟩,⟨some 11,.call ⟨.value (.func 232),#[.tmp 9,.tmp 10],#[101,26]⟩,none⟩,⟨none,.store 26 (.tmp 4) (.tmp 11),none⟩]
def fS173r2:SC:=.reg [⟨some 7,.assign (.const (.int .i64 1)),none⟩]
def fS173r3:SC:=.reg [⟨some 8,.assign (.const (.int .i64 0)),none⟩]
def fS173r4:SC:=.reg [⟨some 12,.move (.tmp 8),none⟩,⟨some 13,.fieldAddr 26 (.tmp 4) 4,none⟩,⟨some 14,.load 24 (.tmp 13),none⟩,⟨some 15,.call ⟨.builtin .len,#[.tmp 14],#[24]⟩,none⟩,⟨some 16,.binOp .lss 3 (.tmp 12) (.tmp 15) 3,none⟩,⟨some 17,.move (.tmp 16),none⟩,⟨some 18,.move (.tmp 7),some (17,true)⟩,⟨some 19,.move (.tmp 2),some (17,true)⟩,⟨some 20,.binOp .leq 3 (.tmp 18) (.tmp 19) 3,some (17,true)⟩,⟨some 21,.pick (.tmp 17) (.tmp 20) (.const (.bool false)),none⟩]
def fS173r5:SC:=.draw [⟨some 24,.move (.tmp 7),none,[7]⟩,⟨some 25,.load 101 (.tmp 3),none,[3]⟩,⟨some 26,.fieldAddr 26 (.tmp 4) 4,none,[4]⟩,⟨some 27,.load 24 (.tmp 26),none,[26]⟩,⟨some 28,.move (.tmp 8),none,[8]⟩,⟨some 29,.indexAddr 24 (.tmp 27) (.tmp 28),none,[27,28]⟩,⟨some 30,.load 26 (.tmp 29),none,[29]⟩,⟨some 31,.move (.tmp 2),none,[2]⟩,⟨some 32,.move (.tmp 7),none,[7]⟩,⟨some 33,.binOp .sub 3 (.tmp 31) (.tmp 32) 3,none,[31,32]⟩,⟨some 34,.call ⟨.value (.func 173),#[.tmp 25,.tmp 30,.tmp 33],#[101,26,3]⟩,none,[25,30,33]⟩,⟨some 35,.binOp .add 3 (.tmp 24) (.tmp 34) 3,none,[24,34]⟩,⟨some 7,.assign (.tmp 35),none,[35]⟩] [0,0,0,4,0,28,60,0,0,384,1022,2047,4095]
def fS173b0:SC:=.block 1 fS173r5
def fS173r6:SC:=.reg [⟨some 22,.move (.tmp 8),none⟩,⟨some 23,.binOp .add 3 (.tmp 22) (.const (.int .i64 1)) 3,none⟩,⟨some 8,.assign (.tmp 23),none⟩]
def fS173l0:SC:=(.seq (.seq fS173r4 (.cond (.tmp 21) .skip (.exit 0))) (.seq fS173b0 fS173r6))
def fS173b1:SC:=.block 0 (.loop fS173l0)
def fS173r7:SC:=.reg [⟨some 36,.move (.tmp 7),none⟩,⟨some 37,.move (.tmp 2),none⟩,⟨some 38,.binOp .add 3 (.tmp 37) (.const (.int .i64 1)) 3,none⟩,⟨some 39,.call ⟨.builtin .min,#[.tmp 36,.tmp 38],#[3,3]⟩,none⟩,⟨some 6,.assign (.tmp 39),none⟩]
def fS173:SC:=(.seq fS173r0 (.seq fS173r1 (.seq fS173r2 (.seq (.seq fS173r3 fS173b1) (.seq fS173r7 .ret)))))
theorem fB173:Tryz.f173.body.bind stripC=some fS173:=by kernel_rfl
end Go.Proofs.YtjilhkjgejnmpaaGreatDoor
namespace Go.Proofs.YtjilhkjgejnmpaaGreatDoor
open Go.J
def elemsV:V→Option (List (List V))
 |.snil=>some []
 |.sl es _=>some es
 |_=>none
def Sl(v:V)(es:List (List V)):Prop:=elemsV v=some es
theorem Sl.or{v:V}{es:List (List V)}(h:Sl v es):(v=.snil∧es=[])∨∃ b,v=.sl es b:=by
 cases v<;>first|(cases h;done)|skip
 · cases h;exact .inl ⟨rfl,rfl⟩
 · cases h;exact .inr ⟨_,rfl⟩
theorem Sl.len{v:V}{es:List (List V)}(h:Sl v es)(hs:HS)(e:TypeId):lenJ hs (.slice e) v=some es.length:=by
 rcases h.or with⟨rfl,rfl⟩|⟨b,rfl⟩
 · rfl
 · show some (lenL es)=_;rw[lenL_eq]
theorem Sl.cell{v:V}{es:List (List V)}(h:Sl v es):v.isCell=true:=by
 rcases h.or with⟨rfl,rfl⟩|⟨b,rfl⟩<;>rfl
theorem Sl.pure{v:V}{es:List (List V)}(h:Sl v es):v.pure1=true:=by
 rcases h.or with⟨rfl,rfl⟩|⟨b,rfl⟩<;>rfl
theorem Sl.pure2{v:V}{es:List (List V)}(h:Sl v es):v.pure2=true:=by
 rcases h.or with⟨rfl,rfl⟩|⟨b,rfl⟩<;>rfl
theorem Sl.ix{v:V}{es:List (List V)}(h:Sl v es){e:TI}(hz:∀ x∈es,x.length=e.size)(n:Nat):indexAddrV e n v=ob (es[n]?) fun c=>some (V.ref c):=by
 rcases h.or with⟨rfl,rfl⟩|⟨b,rfl⟩
 · rfl
 · show gd (sizes e.size es) (ob (nthL es n) fun c=>some (V.ref c))=_
   rw[sizes_eq.2 hz,gd_true,nthL_eq]
def hasV(vs:List V):Option V :=
 match vs with
 | [.agg [sl,_],.int .i64 i]=>(elemsV sl).map fun es=>.bool (decide (0≤i)&&decide (i<es.length))
 |_=>none
theorem has_run{E:Env}(hE:E.P=Tryz.prog){sl tr:V}{es:List (List V)}(hs:Sl sl es)(i:Int) :
 ∃ n,runJ E n 258 [.agg [sl,tr],.int .i64 i]=some (.bool (decide (0≤i)&&decide (i<es.length))):=by
 have hl:=hs.len
 refine run_gives (by rw[hE];exact Tryz.func258) fB258 rfl ?_
 refine Js_seq (Js_reg ?_)
 simp[hE]
 refine Js_seq (Js_reg ?_)
 by_cases h:0≤i
 · simp[hE,h,hl]
   exact Js_ret (by simp)
 · simp[hE,h]
   exact Js_ret (by simp)
def bdV (es:List (List V)) (t:List V):Option Bool :=
 match t with
 | [.int .i64 k,.str _,.int .i64 id,.int .i64 _,_]=>if k=1∧0≤id∧id<es.length then match es[id.toNat]? with
   |some (.bool b::_)=>some b
   |_=>none
   else some false
 |_=>none
theorem bound_run {E:Env} (hE:E.P=Tryz.prog) (hc:E.con 258=pureS hasV) {sl tr:V} (htr:tr.pure2=true) {es:List (List V)} (hs:Sl sl es) (hz:∀ x∈es,x.length=8) {t:List V} {b:Bool} (hb:bdV es t=some b) (ht:∀ x∈t,x.isCell=true) :
 ∃ n,runJ E n 227 [.agg [sl,tr],.agg t]=some (.bool b):=by
 unfold bdV at hb
 split at hb
 · rename_i k nm id hm av
   have hsl:elemsV sl=some es:=hs
   have hps:=hs.pure2
   refine run_gives (by rw[hE];exact Tryz.func227) fB227 rfl ?_
   refine Js_seq (Js_reg ?_)
   simp[hE]
   refine Js_seq (Js_reg ?_)
   by_cases hk:k=1
   · by_cases h:0≤id∧id<es.length
     · rw[if_pos ⟨hk,h⟩]at hb
       obtain⟨j,rfl⟩:=Int.eq_ofNat_of_zero_le h.1
       have hj:j<es.length:=by omega
       have hi:=hs.ix (e:=I125) (by rw[si125];exact hz)
       simp[hj]at hb
       split at hb
       · rename_i c b' r hc2
         cases hb
         simp[hE,hk,hc,hasV,hsl,hj,hi,hc2,hps,htr]
         exact Js_ret (by simp)
       · cases hb
     · rw[if_neg (fun hh=>h hh.2)]at hb
       cases hb
       have hf:(decide (0≤id)&&decide (id<es.length))=false:=by
        rw[Bool.and_eq_false_iff];simp only[decide_eq_false_iff_not];omega
       simp[hE,hk,hc,hasV,hsl,hps,htr,-decide_eq_true_eq,hf]
       exact Js_ret (by simp)
   · rw[if_neg (fun hh=>hk hh.1)]at hb
     cases hb
     simp[hE,hk]
     exact Js_ret (by simp)
 · cases hb
end Go.Proofs.YtjilhkjgejnmpaaGreatDoor
namespace Go.Proofs.YtjilhkjgejnmpaaGreatDoor
open Go.J
def wfS(es:List (List V)):Bool:=es.all fun c=>decide (c.length=8)&&c.all V.pure2
theorem wfS_len{es:List (List V)}(h:wfS es=true):∀ x∈es,x.length=8:=by
 intro x hx
 have:=List.all_eq_true.1 h x hx
 simp at this;exact this.1
theorem wfS_pure{es:List (List V)}(h:wfS es=true):∀ x∈es,∀ y∈x,y.pure2=true:=by
 intro x hx y hy
 have:=List.all_eq_true.1 h x hx
 simp at this;exact this.2 y hy
theorem wfS_cell{es:List (List V)}(h:wfS es=true):∀ x∈es,∀ y∈x,y.isCell=true:=fun x hx y hy=>pure2_cell (wfS_pure h x hx y hy)
def nextV (es:List (List V)) (t:List V):Option (List V) :=
 match t with
 | [_,_,.int .i64 id,_,_]=>match es[id.toNat]? with
   |some c=>some ((c.drop 1).take 5)
   |none=>none
 |_=>none
def wk (es:List (List V)):Nat→List V→Option (List V)
 | 0,t=>some t
 | m + 1,t=>match bdV es t with
   | some true=>match nextV es t with
     |some t'=>wk es m t'
     |none=>none
   |some false=>some t
   |none=>none
def boundV (vs:List V):Option V :=
 match vs with
 | [.agg [sl,_],.agg t]=>match elemsV sl with
   |some es=>if wfS es then (bdV es t).map fun b=>.bool b else none
   |none=>none
 |_=>none
theorem bd_true{es:List (List V)}{t:List V}(h:bdV es t=some true):∃ nm j hm av c,t=[.int .i64 1,.str nm,.int .i64 (j:Nat),.int .i64 hm,av]∧es[j]?=some c:=by
 unfold bdV at h
 split at h
 · rename_i k nm id hm av
   split at h
   · rename_i hk
     obtain⟨rfl,h1,h2⟩:=hk
     obtain⟨j,rfl⟩:=Int.eq_ofNat_of_zero_le h1
     have hj:j<es.length:=by omega
     exact⟨nm,j,hm,av,es[j],rfl,List.getElem?_eq_getElem hj⟩
   · cases h
 · cases h
theorem eight{c:List V}(h:c.length=8):∃ a0 a1 a2 a3 a4 a5 a6 a7,c=[a0,a1,a2,a3,a4,a5,a6,a7]:=by
 match c,h with
 | [a0,a1,a2,a3,a4,a5,a6,a7],_=>exact⟨_,_,_,_,_,_,_,_,rfl⟩
theorem five{c:List V}(h:c.length=5):∃ a0 a1 a2 a3 a4,c=[a0,a1,a2,a3,a4]:=by
 match c,h with
 | [a0,a1,a2,a3,a4],_=>exact⟨_,_,_,_,_,rfl⟩
theorem wrap_in{n:Int}(h1:-9223372036854775808≤n)(h2:n≤9223372036854775807):IntKind.i64.wrap n=n:=IntWalk.i64_in n ⟨h1,h2⟩
theorem walk_loop {E:Env} (hE:E.P=Tryz.prog) (hc:E.con 227=pureS boundV) {sl tr:V} (htr:tr.pure2=true) {es:List (List V)} (hs:Sl sl es) (hw:wfS es=true) (hbig:es.length≤1099511627776) {r:List V} {z:List V} {Q:Ex→PT V→HS→Prop}
 (hQ:∀ T H n log,T.get 3=some (.ptr 1 0 0)→T.get 4=some (.ptr 2 0 0)→H.get 1=some (J.Obj.arr 5 0 [r] true false false)→H.get 2=some (J.Obj.arr 5 0 [z] true false false)→(∀ k,3≤k→H.get k=none)→3≤n →
   r.length=5→(∀ x∈r,x.pure2=true)→Q (.exit 0) T { H:=H,n:=n,log:=log }):∀ (m i:Nat) (t:List V) (T:PT V) (H:PT J.Obj) (n:Nat) (log:List Nat),i+m=es.length→wk es m t=some r→t.length=5→(∀ x∈t,x.pure2=true) →
 T.get 2=some (.ptr 0 0 0)→T.get 3=some (.ptr 1 0 0)→T.get 4=some (.ptr 2 0 0)→T.get 7=some (.int .i64 es.length)→T.get 8=some (.int .i64 i) →
 H.get 0=some (J.Obj.arr 2 0 [[sl,tr]] true false false)→H.get 1=some (J.Obj.arr 5 0 [t] true false false)→H.get 2=some (J.Obj.arr 5 0 [z] true false false)→(∀ k,3≤k→H.get k=none)→3≤n →
 Js E false 23 (.loop fS225l0) T { H:=H,n:=n,log:=log } Q:=by
 intro m
 induction m with
 | zero =>
   intro i t T H n log hi hr ht5 htc h2 h3 h4 h7 h8 g0 g1 g2 gv hn
   cases hr
   refine Js_loop (Js_seq (Js_reg ?_))
   have hlt:¬ (i:Int)<es.length:=by omega
   simp[hE,h7,h8,hlt]
   refine Js_seq (Js_cond (t:=false) (by simp) (fun h=>by cases h) fun _=>Js_exit ?_)
   simp
   exact hQ _ _ _ _ (by simp[h3]) (by simp[h4]) g1 g2 gv (by omega) ht5 htc
 | succ m ih =>
   intro i t T H n log hi hr ht5 htc h2 h3 h4 h7 h8 g0 g1 g2 gv hn
   refine Js_loop (Js_seq (Js_reg ?_))
   have hlt:(i:Int)<es.length:=by omega
   simp[hE,h7,h8,hlt]
   refine Js_seq (Js_cond (t:=true) (by simp) (fun _=>Js_skip ?_) fun h=>by cases h)
   have hsl:elemsV sl=some es:=hs
   have hall:allP t=true:=allP_eq.2 htc
   have hps:=hs.pure2
   obtain⟨a0,a1,a2,a3,a4,rfl⟩:=five ht5
   simp
   refine Js_seq (Js_block (Js_seq (Js_seq (Js_reg ?_))))
   unfold wk at hr
   split at hr
   · rename_i hb
     split at hr
     · rename_i t' hn'
       obtain⟨nm,j,hm,av,c,he,hcj⟩:=bd_true hb
       have hmem:=List.mem_of_getElem? hcj
       have hjl:j<es.length:=(List.getElem?_eq_some_iff.1 hcj).1
       have hc8:=wfS_len hw c hmem
       have hcc:=wfS_cell hw c hmem
       have hix:=hs.ix (e:=I125) (by rw[si125];exact wfS_len hw) j
       obtain⟨c0,c1,c2,c3,c4,c5,c6,c7,rfl⟩:=eight hc8
       cases he
       simp[nextV,hcj]at hn'
       subst hn'
       have hcp:=wfS_pure hw _ hmem
       simp at hcc hcp
       simp at hall
       simp[hE,h2,h3,g0,g1,hc,boundV,hsl,hw,hall,hb,gv,hps,htr]
       refine Js_cond (t:=false) (by simp) (fun h=>by cases h) fun _=>Js_skip ?_
       simp
       refine Js_reg ?_
       simp[hE,h2,h3,g0,g1,hix,hcj,gv,hcc]
       refine Js_reg ?_
       have hwr:IntKind.i64.wrap ((i:Int)+1)=((i+1:Nat):Int):=by rw[wrap_in (by omega) (by omega)];omega
       simp only[↓Rs_cons,↓Rs_nil]
       simp[h8,hE,hwr,-Int.natCast_add]
       refine ih (i+1) _ _ _ _ _ (by omega) hr rfl (by simpa using⟨hcp.2.1,hcp.2.2.1,hcp.2.2.2.1,hcp.2.2.2.2.1,hcp.2.2.2.2.2.1⟩) (by simp[h2]) (by simp[h3]) (by simp[h4]) (by simp[h7]) (by simp) (by simp[g0]) (by simp) (by simp[g2]) ?_ (by omega)
       intro k hk
       rw[PT.set_get,if_neg (by omega)];exact gv k hk
     · cases hr
   · rename_i hb
     cases hr
     simp at hall
     simp[hE,h2,h3,g0,g1,hc,boundV,hsl,hw,hall,hb,gv,hps,htr]
     refine Js_cond (t:=true) (by simp) (fun _=>Js_exit ?_) fun h=>by cases h
     simp
     exact hQ _ _ _ _ (by simp[h3]) (by simp[h4]) g1 g2 gv (by omega) ht5 htc
   · cases hr
def walkV (vs:List V):Option V :=
 match vs with
 | [.agg [sl,_],.agg t]=>match elemsV sl with
   |some es=>if wfS es&&decide (t.length=5)&&decide (es.length≤1099511627776)then (wk es es.length t).map fun r=>.agg r else none
   |none=>none
 |_=>none
theorem walk_run{E:Env}(hE:E.P=Tryz.prog)(hc:E.con 227=pureS boundV){sl tr:V}(htr:tr.pure2=true){es:List (List V)}(hs:Sl sl es)(hw:wfS es=true)(hbig:es.length≤1099511627776){t r:List V}(ht:t.length=5)(htc:∀ x∈t,x.pure2=true)
 (hr:wk es es.length t=some r):∃ n,runJ E n 225 [.agg [sl,tr],.agg t]=some (.agg r):=by
 refine run_gives (by rw[hE];exact Tryz.func225) fB225 rfl ?_
 refine Js_seq (Js_reg ?_)
 have hl:=hs.len
 simp[hE,ht]
 refine Js_seq (Js_seq (Js_reg ?_))
 simp[hE,hl]
 refine Js_block ?_
 refine walk_loop hE hc htr (z:=[.int .i64 0,.str [],.int .i64 0,.int .i64 0,.snil]) hs hw hbig (r:=r) ?_ es.length 0 t _ _ _ _ (by omega) hr ht htc (by simp) (by simp) (by simp) (by simp) (by simp) (by simp) (by simp) (by simp) ?_ (by omega)
 · intro T H n log h3 h4 g1 g2 gv hn hr5 hrc
   obtain⟨a0,a1,a2,a3,a4,rfl⟩:=five hr5
   have hst:=fun hs=>still_agg (hs:=hs) hrc
   have hrc2:=fun x hx=>pure2_cell (hrc x hx)
   simp at hrc2
   simp
   refine Js_seq (Js_reg ?_)
   simp[hE,h3,h4,g1,g2,hrc2]
   refine⟨gv _ (by omega),Js_ret ?_⟩
   simp[h4,hE]
   exact hst _
 · intro k hk
   rw[PT.set_get,if_neg (by omega),PT.set_get,if_neg (by omega),PT.set_get,if_neg (by omega)];rfl
end Go.Proofs.YtjilhkjgejnmpaaGreatDoor
namespace Go.Proofs.YtjilhkjgejnmpaaGreatDoor
open Go.J
def wfT(l:List (List V)):Bool:=decide (l.length≤1099511627776)&&l.all fun c=>decide (c.length=5)&&c.all V.pure2
theorem wfT_all{l:List (List V)}(h:wfT l=true):∀ c∈l,c.length=5∧∀ x∈c,x.pure2=true:=by
 unfold wfT at h
 rw[Bool.and_eq_true]at h
 intro c hc
 have:=List.all_eq_true.1 h.2 c hc
 simp at this;exact this
theorem wfT_le{l:List (List V)}(h:wfT l=true):l.length≤1099511627776:=by
 unfold wfT at h
 rw[Bool.and_eq_true]at h
 simpa using h.1
def szL (f:List V→Nat→Option Nat) (most:Nat):List (List V)→Nat→Option Nat
 | [],acc=>some (if most<acc then most+1 else acc)
 | x::l,acc=>if most<acc then some (most+1)else match f x (most-acc)with
   |some r=>szL f most l (acc+r)
   |none=>none
def szV (es:List (List V)):Nat→List V→Nat→Option Nat
 | 0,_,_=>none
 | n + 1,t,most=>match wk es es.length t with
   | some [_,_,_,_,av]=>match elemsV av with
     |some l=>if wfT l then szL (fun x m=>szV es n x m) most l 1 else none
     |none=>none
   |_=>none
theorem szL_le{f:List V→Nat→Option Nat}{most:Nat}:∀ {l:List (List V)} {acc r:Nat},szL f most l acc=some r→r≤most+1:=by
 intro l
 induction l with
 |nil=>intro acc r h;simp[szL]at h;subst h;split<;>omega
 | cons x l ih =>
   intro acc r h
   simp only[szL]at h
   split at h
   · cases h;omega
   · split at h
     · exact ih h
     · cases h
theorem szV_le {es:List (List V)} {n:Nat} {t:List V} {most r:Nat} (h:szV es n t most=some r):r≤most+1:=by
 cases n with
 |zero=>cases h
 | succ n =>
   unfold szV at h
   split at h
   · split at h
     · split at h
       · exact szL_le h
       · cases h
     · cases h
   · cases h
def sizeV (n:Nat) (vs:List V):Option V :=
 match vs with
 | [.agg [sl,_],.agg t,.int .i64 (.ofNat m)]=>match elemsV sl with
   |some es=>if wfS es&&decide (t.length=5)&&decide (es.length≤1099511627776)&&decide (m≤1099511627776)then (szV es n t m).map fun r=>.int .i64 (Int.ofNat r)else none
   |none=>none
 |_=>none
theorem size_loop {E:Env} (hE:E.P=Tryz.prog) {d:Nat} (hc:E.con 149=pureS (sizeV d)) {sl tr av:V} (htr:tr.pure2=true) {es l:List (List V)} (hs:Sl sl es) (hw:wfS es=true) (hbig:es.length≤1099511627776) (ha:Sl av l) (hl:wfT l=true)
 {most r:Nat} (hm:most≤1099511627776) {Q:Ex→PT V→HS→Prop}
 (hQ:∀ T H n log acc,T.get 2=some (.int .i64 (Int.ofNat most))→T.get 7=some (.int .i64 (Int.ofNat acc))→(∀ k,n≤k→H.get k=none)→r=(if most<acc then most+1 else acc)→Q (.exit 0) T { H:=H,n:=n,log:=log }) :
 ∀ (rest:List (List V)) (i acc:Nat) (T:PT V) (H:PT J.Obj) (n:Nat) (log:List Nat),l.drop i=rest→i≤l.length→acc≤most+1→szL (fun x m=>szV es d x m) most rest acc=some r →
 T.get 2=some (.int .i64 (Int.ofNat most))→T.get 3=some (.ptr 0 0 0)→T.get 7=some (.int .i64 (Int.ofNat acc))→T.get 15=some av→T.get 16=some (.int .i64 (Int.ofNat l.length))→T.get 17=some (.int .i64 (Int.ofNat i)) →
 H.get 0=some (J.Obj.arr 2 0 [[sl,tr]] true false false)→1≤n→(∀ k,n≤k→H.get k=none) →
 Js E false 39 (.loop fS149l0) T { H:=H,n:=n,log:=log } Q:=by
 intro rest
 induction rest with
 | nil =>
   intro i acc T H n log hd hi hacc hr h2 h3 h7 h15 h16 h17 g0 hn gv
   have hil:i=l.length:=by
    have:=List.drop_eq_nil_iff.1 hd;omega
   refine Js_loop (Js_seq (Js_reg ?_))
   simp[hE,h16,h17,hil]
   refine Js_seq (Js_cond (t:=false) (by simp) (fun h=>by cases h) fun _=>Js_exit ?_)
   simp
   refine hQ _ _ _ _ acc (by simp[h2]) (by simp[h7]) (fun k hk=>gv k (by omega)) ?_
   simp[szL]at hr;exact hr.symm
 | cons x rest ih =>
   intro i acc T H n log hd hi hacc hr h2 h3 h7 h15 h16 h17 g0 hn gv
   have hlb:=wfT_le hl
   have hx:l[i]?=some x:=by
    have:(l.drop i)[0]?=some x:=by rw[hd];rfl
    simpa using this
   have hil:i<l.length:=(List.getElem?_eq_some_iff.1 hx).1
   have hxm:=List.mem_of_getElem? hx
   obtain⟨hx5,hxc⟩:=wfT_all hl x hxm
   obtain⟨x0,x1,x2,x3,x4,rfl⟩:=five hx5
   have hix:=ha.ix (e:=I26) (by rw[si26];intro y hy;exact(wfT_all hl y hy).1) i
   have hsl:elemsV sl=some es:=hs
   refine Js_loop (Js_seq (Js_reg ?_))
   simp[hE,h16,h17,hil]
   refine Js_seq (Js_cond (t:=true) (by simp) (fun _=>Js_skip ?_) fun h=>by cases h)
   simp
   refine Js_seq (Js_block (Js_seq (Js_reg ?_)))
   have hxp:=hxc
   have hxc:=fun x hx=>pure2_cell (hxp x hx)
   simp at hxc hxp
   have hps:=hs.pure2
   have gv':∀ j,H.get (n+j)=none:=fun j=>gv _ (by omega)
   have hn0:∀ j,(0=n+j)=False:=fun j=>by simp;omega
   simp[hE,h15,h17,hix,hx,gv',Nat.add_assoc,hxc]
   refine Js_seq (Js_seq (Js_reg ?_))
   simp[hE,h2,h7]
   by_cases hlt:most<acc
   · refine Js_cond (t:=true) (by simp[hlt]) (fun _=>Js_exit ?_) (fun h=>by cases h)
     simp
     refine hQ _ _ _ _ acc (by simp[h2]) (by simp[h7]) (fun k hk=>?_) ?_
     · simp[show ¬ k=n+3 by omega];exact gv k (by omega)
     · simp[szL,hlt]at hr;rw[if_pos hlt];exact hr.symm
   · refine Js_cond (t:=false) (by simp;omega) (fun h=>by cases h) (fun _=>Js_skip ?_)
     simp[szL,hlt]at hr
     split at hr
     · rename_i q hq
       have hqle:=szV_le hq
       simp
       refine Js_reg ?_
       have hsub:IntKind.i64.wrap ((most:Int)-(acc:Int))=Int.ofNat (most-acc):=by
        rw[wrap_in (by omega) (by omega)];simp;omega
       have hadd:IntKind.i64.wrap ((acc:Int)+(q:Int))=((acc+q:Nat):Int):=by
        rw[wrap_in (by omega) (by omega)];omega
       have hmm:most-acc≤1099511627776:=by omega
       simp[hE,h2,h3,h7,g0,gv',Nat.add_assoc,hc,sizeV,hsl,hw,hbig,hsub,hmm,hq,hadd,hps,htr,hxp,-Int.natCast_add]
       refine Js_reg ?_
       have hwr:IntKind.i64.wrap ((i:Int)+1)=((i+1:Nat):Int):=by rw[wrap_in (by omega) (by omega)];omega
       simp[hE,h17,hwr,-Int.natCast_add]
       refine ih (i+1) (acc+q) _ _ _ _ ?_ (by omega) (by omega) hr (by simp[h2]) (by simp[h3]) (by simp) (by simp[h15]) (by simp[h16]) (by simp) ?_ (by omega) ?_
       · rw[← List.drop_drop,hd];rfl
       · simp[g0,show ¬ 0=n+3 by omega]
       · intro k hk
         simp[show ¬ k=n+3 by omega];exact gv k (by omega)
     · cases hr
theorem size_run {E:Env} (hE:E.P=Tryz.prog) {d:Nat} (hc:E.con 149=pureS (sizeV d)) (hc34:E.con 225=pureS walkV) {sl tr:V} (htr:tr.pure2=true) {es:List (List V)} (hs:Sl sl es) (hw:wfS es=true) (hbig:es.length≤1099511627776) {t:List V} (ht:t.length=5) (htc:∀ x∈t,x.pure2=true)
 {most r:Nat} (hm:most≤1099511627776) (hr:szV es (d+1) t most=some r):∃ n,runJ E n 149 [.agg [sl,tr],.agg t,.int .i64 (Int.ofNat most)]=some (.int .i64 (Int.ofNat r)):=by
 have hsl:elemsV sl=some es:=hs
 obtain⟨t0,t1,t2,t3,t4,rfl⟩:=five ht
 unfold szV at hr
 split at hr
 · rename_i a0 a1 a2 a3 av hwk
   split at hr
   · rename_i l hav
     split at hr
     · rename_i hl
       refine run_gives (by rw[hE];exact Tryz.func149) fB149 rfl ?_
       refine Js_seq (Js_reg ?_)
       simp[hE]
       refine Js_seq (Js_reg ?_)
       simp[hE]
       refine Js_seq (Js_reg ?_)
       simp[hE]
       refine Js_seq (Js_seq (Js_reg ?_))
       have hall:allP [t0,t1,t2,t3,t4]=true:=allP_eq.2 htc
       simp at hall
       have hps:=hs.pure2
       have hmax:¬ (most:Int)<0:=by omega
       have hlen:=Sl.len (v:=av) hav
       simp[hE,hc34,walkV,hsl,hw,hall,hbig,hwk,hmax,hlen,hps,htr]
       refine Js_block ?_
       refine size_loop hE hc htr hs hw hbig (l:=l) hav hl (r:=r) hm ?_ l 0 1 _ _ _ _ rfl (Nat.zero_le _) (by omega) hr (by simp) (by simp) (by simp) (by simp) (by simp) (by simp) (by simp) (by omega) ?_
       · intro T H n log acc h2 h7 gv hra
         simp
         refine Js_seq (Js_seq (Js_reg ?_))
         simp[hE,h2,h7]
         by_cases hlt:most<acc
         · rw[if_pos hlt]at hra
           have hwr:IntKind.i64.wrap ((most:Int)+1)=((most+1:Nat):Int):=by rw[wrap_in (by omega) (by omega)];omega
           refine Js_cond (t:=true) (by simp[hlt]) (fun _=>Js_seq (Js_reg ?_)) (fun h=>by cases h)
           simp[hE,h2,hwr,-Int.natCast_add]
           refine Js_ret ?_
           simp[hra]
         · rw[if_neg hlt]at hra
           refine Js_cond (t:=false) (by simp;omega) (fun h=>by cases h) (fun _=>Js_skip ?_)
           simp
           refine Js_seq (Js_reg ?_)
           simp[hE,h7]
           refine Js_ret ?_
           simp[hra]
       · intro k hk
         simp[show ¬ k=1 by omega,show ¬ k=0 by omega]
     · cases hr
   · cases hr
 · cases hr
end Go.Proofs.YtjilhkjgejnmpaaGreatDoor
namespace Go.Proofs.YtjilhkjgejnmpaaGreatDoor
open Go.J
theorem bound16_run {E:Env} (hE:E.P=Tryz.prog) {sl tr:V} (htr:tr.pure2=true) {es:List (List V)} (hs:Sl sl es) (hz:∀ x∈es,x.length=8) {t:List V} {b:Bool} (hb:bdV es t=some b) (ht:∀ x∈t,x.isCell=true) :
 ∃ n,runJ E n 233 [.agg [sl,tr],.agg t]=some (.bool b):=by
 unfold bdV at hb
 split at hb
 · rename_i k nm id hm av
   have hl:=hs.len
   refine run_gives (by rw[hE];exact Tryz.func233) fB233 rfl ?_
   refine Js_seq (Js_reg ?_)
   simp[hE]
   refine Js_seq (Js_reg ?_)
   by_cases hk:k=1
   · by_cases h0:0≤id
     · by_cases h:id<es.length
       · rw[if_pos ⟨hk,h0,h⟩]at hb
         obtain⟨j,rfl⟩:=Int.eq_ofNat_of_zero_le h0
         have hj:j<es.length:=by omega
         have hi:=hs.ix (e:=I125) (by rw[si125];exact hz)
         simp[hj]at hb
         split at hb
         · rename_i c b' r hc2
           cases hb
           simp[hE,hk,hj,hl,hi,hc2]
           exact Js_ret (by simp)
         · cases hb
       · rw[if_neg (fun hh=>h hh.2.2)]at hb
         cases hb
         simp[hE,hk,h0,h,hl]
         exact Js_ret (by simp)
     · rw[if_neg (fun hh=>h0 hh.2.1)]at hb
       cases hb
       simp[hE,hk,h0]
       exact Js_ret (by simp)
   · rw[if_neg (fun hh=>hk hh.1)]at hb
     cases hb
     simp[hE,hk]
     exact Js_ret (by simp)
 · cases hb
theorem walk16_loop {E:Env} (hE:E.P=Tryz.prog) (hc:E.con 233=pureS boundV) {sl tr:V} (htr:tr.pure2=true) {es:List (List V)} (hs:Sl sl es) (hw:wfS es=true) (hbig:es.length≤1099511627776) {r:List V} {z:List V} {Q:Ex→PT V→HS→Prop}
 (hQ:∀ T H n log,T.get 3=some (.ptr 1 0 0)→T.get 4=some (.ptr 2 0 0)→H.get 1=some (J.Obj.arr 5 0 [r] true false false)→H.get 2=some (J.Obj.arr 5 0 [z] true false false)→(∀ k,3≤k→H.get k=none)→3≤n →
   r.length=5→(∀ x∈r,x.pure2=true)→Q (.exit 0) T { H:=H,n:=n,log:=log }):∀ (m i:Nat) (t:List V) (T:PT V) (H:PT J.Obj) (n:Nat) (log:List Nat),i+m=es.length+1→wk es m t=some r→t.length=5→(∀ x∈t,x.pure2=true) →
 T.get 2=some (.ptr 0 0 0)→T.get 3=some (.ptr 1 0 0)→T.get 4=some (.ptr 2 0 0)→T.get 5=some (.int .i64 i) →
 H.get 0=some (J.Obj.arr 2 0 [[sl,tr]] true false false)→H.get 1=some (J.Obj.arr 5 0 [t] true false false)→H.get 2=some (J.Obj.arr 5 0 [z] true false false)→(∀ k,3≤k→H.get k=none)→3≤n →
 Js E false 26 (.loop fS232l0) T { H:=H,n:=n,log:=log } Q:=by
 have hl:=hs.len
 intro m
 induction m with
 | zero =>
   intro i t T H n log hi hr ht5 htc h2 h3 h4 h5 g0 g1 g2 gv hn
   cases hr
   refine Js_loop (Js_seq (Js_seq (Js_reg ?_)))
   have hlt:¬ (i:Int)≤es.length:=by omega
   simp[hE,h2,h5,g0,hl,hlt]
   refine Js_cond (t:=false) (by simp) (fun h=>by cases h) fun _=>Js_exit ?_
   simp
   exact hQ _ _ _ _ (by simp[h3]) (by simp[h4]) g1 g2 gv (by omega) ht5 htc
 | succ m ih =>
   intro i t T H n log hi hr ht5 htc h2 h3 h4 h5 g0 g1 g2 gv hn
   refine Js_loop (Js_seq (Js_seq (Js_reg ?_)))
   have hlt:(i:Int)≤es.length:=by omega
   have hsl:elemsV sl=some es:=hs
   have hall:allP t=true:=allP_eq.2 htc
   have hps:=hs.pure2
   obtain⟨a0,a1,a2,a3,a4,rfl⟩:=five ht5
   unfold wk at hr
   split at hr
   · rename_i hb
     split at hr
     · rename_i t' hn'
       obtain⟨nm,j,hm,av,c,he,hcj⟩:=bd_true hb
       have hmem:=List.mem_of_getElem? hcj
       have hjl:j<es.length:=(List.getElem?_eq_some_iff.1 hcj).1
       have hc8:=wfS_len hw c hmem
       have hcc:=wfS_cell hw c hmem
       have hix:=hs.ix (e:=I125) (by rw[si125];exact wfS_len hw) j
       obtain⟨c0,c1,c2,c3,c4,c5,c6,c7,rfl⟩:=eight hc8
       cases he
       simp[nextV,hcj]at hn'
       subst hn'
       have hcp:=wfS_pure hw _ hmem
       simp at hcc hcp
       simp at hall
       simp[hE,h2,h3,h5,g0,g1,hl,hlt,hc,boundV,hsl,hw,hall,hb,gv,hps,htr]
       refine Js_cond (t:=true) (by simp) (fun _=>Js_skip ?_) fun h=>by cases h
       simp
       refine Js_seq (Js_block (Js_reg ?_))
       simp[hE,h2,h3,g0,g1,hix,hcj,gv,hcc]
       refine Js_reg ?_
       have hwr:IntKind.i64.wrap ((i:Int)+1)=((i+1:Nat):Int):=by rw[wrap_in (by omega) (by omega)];omega
       simp only[↓Rs_cons,↓Rs_nil]
       simp[h5,hE,hwr,-Int.natCast_add]
       refine ih (i+1) _ _ _ _ _ (by omega) hr rfl (by simpa using⟨hcp.2.1,hcp.2.2.1,hcp.2.2.2.1,hcp.2.2.2.2.1,hcp.2.2.2.2.2.1⟩) (by simp[h2]) (by simp[h3]) (by simp[h4]) (by simp) (by simp[g0]) (by simp) (by simp[g2]) ?_ (by omega)
       intro k hk
       rw[PT.set_get,if_neg (by omega)];exact gv k hk
     · cases hr
   · rename_i hb
     cases hr
     simp at hall
     simp[hE,h2,h3,h5,g0,g1,hl,hlt,hc,boundV,hsl,hw,hall,hb,gv,hps,htr]
     refine Js_cond (t:=false) (by simp) (fun h=>by cases h) fun _=>Js_exit ?_
     simp
     exact hQ _ _ _ _ (by simp[h3]) (by simp[h4]) g1 g2 gv (by omega) ht5 htc
   · cases hr
def walk16V (vs:List V):Option V :=
 match vs with
 | [.agg [sl,_],.agg t]=>match elemsV sl with
   |some es=>if wfS es&&decide (t.length=5)&&decide (es.length≤1099511627776)then (wk es (es.length+1) t).map fun r=>.agg r else none
   |none=>none
 |_=>none
theorem walk16_run{E:Env}(hE:E.P=Tryz.prog)(hc:E.con 233=pureS boundV){sl tr:V}(htr:tr.pure2=true){es:List (List V)}(hs:Sl sl es)(hw:wfS es=true)(hbig:es.length≤1099511627776){t r:List V}(ht:t.length=5)(htc:∀ x∈t,x.pure2=true)
 (hr:wk es (es.length+1) t=some r):∃ n,runJ E n 232 [.agg [sl,tr],.agg t]=some (.agg r):=by
 refine run_gives (by rw[hE];exact Tryz.func232) fB232 rfl ?_
 refine Js_seq (Js_reg ?_)
 have hl:=hs.len
 simp[hE,ht]
 refine Js_seq (Js_seq (Js_reg ?_))
 simp[hE,hl]
 refine Js_block ?_
 refine walk16_loop hE hc htr (z:=[.int .i64 0,.str [],.int .i64 0,.int .i64 0,.snil]) hs hw hbig (r:=r) ?_ (es.length+1) 0 t _ _ _ _ (by omega) hr ht htc (by simp) (by simp) (by simp) (by simp) (by simp) (by simp) (by simp) ?_ (by omega)
 · intro T H n log h3 h4 g1 g2 gv hn hr5 hrc
   obtain⟨a0,a1,a2,a3,a4,rfl⟩:=five hr5
   have hst:=fun hs=>still_agg (hs:=hs) hrc
   have hrc2:=fun x hx=>pure2_cell (hrc x hx)
   simp at hrc2
   simp
   refine Js_seq (Js_reg ?_)
   simp[hE,h3,h4,g1,g2,hrc2]
   refine⟨gv _ (by omega),Js_ret ?_⟩
   simp[h4,hE]
   exact hst _
 · intro k hk
   rw[PT.set_get,if_neg (by omega),PT.set_get,if_neg (by omega),PT.set_get,if_neg (by omega)];rfl
end Go.Proofs.YtjilhkjgejnmpaaGreatDoor
namespace Go.Proofs.YtjilhkjgejnmpaaGreatDoor
open Go.J
def sz16 (es:List (List V)):Nat→List V→Nat→Option Nat
 | 0,_,_=>none
 | n + 1,t,most=>match wk es (es.length+1) t with
   | some [_,_,_,_,av]=>match elemsV av with
     |some l=>if wfT l then szL (fun x m=>sz16 es n x m) most l 1 else none
     |none=>none
   |_=>none
theorem sz16_le {es:List (List V)} {n:Nat} {t:List V} {most r:Nat} (h:sz16 es n t most=some r):r≤most+1:=by
 cases n with
 |zero=>cases h
 | succ n =>
   unfold sz16 at h
   split at h
   · split at h
     · split at h
       · exact szL_le h
       · cases h
     · cases h
   · cases h
def size16V (n:Nat) (vs:List V):Option V :=
 match vs with
 | [.agg [sl,_],.agg t,.int .i64 (.ofNat m)]=>match elemsV sl with
   |some es=>if wfS es&&decide (t.length=5)&&decide (es.length≤1099511627776)&&decide (m≤1099511627776)then (sz16 es n t m).map fun r=>.int .i64 (Int.ofNat r)else none
   |none=>none
 |_=>none
theorem size16_loop {E:Env} (hE:E.P=Tryz.prog) {d:Nat} (hc:E.con 173=pureS (size16V d)) {sl tr a0 a1 a2 a3 av:V} (htr:tr.pure2=true) {es l:List (List V)} (hs:Sl sl es) (hw:wfS es=true) (hbig:es.length≤1099511627776) (ha:Sl av l) (hl:wfT l=true)
 {most r:Nat} (hm:most≤1099511627776) {Q:Ex→PT V→HS→Prop}
 (hQ:∀ T H n log acc,T.get 2=some (.int .i64 (Int.ofNat most))→T.get 7=some (.int .i64 (Int.ofNat acc))→acc≤most+1→(∀ k,n≤k→H.get k=none)→r=(if most<acc then most+1 else acc)→Q (.exit 0) T { H:=H,n:=n,log:=log }) :
 ∀ (rest:List (List V)) (i acc:Nat) (T:PT V) (H:PT J.Obj) (n:Nat) (log:List Nat),l.drop i=rest→i≤l.length→acc≤most+1→szL (fun x m=>sz16 es d x m) most rest acc=some r →
 T.get 2=some (.int .i64 (Int.ofNat most))→T.get 3=some (.ptr 0 0 0)→T.get 4=some (.ptr 1 0 0)→T.get 7=some (.int .i64 (Int.ofNat acc))→T.get 8=some (.int .i64 (Int.ofNat i)) →
 H.get 0=some (J.Obj.arr 2 0 [[sl,tr]] true false false)→H.get 1=some (J.Obj.arr 5 0 [[a0,a1,a2,a3,av]] true false false)→2≤n→(∀ k,n≤k→H.get k=none) →
 Js E false 40 (.loop fS173l0) T { H:=H,n:=n,log:=log } Q:=by
 intro rest
 have hal:=ha.len
 induction rest with
 | nil =>
   intro i acc T H n log hd hi hacc hr h2 h3 h4 h7 h8 g0 g1 hn gv
   have hil:i=l.length:=by
    have:=List.drop_eq_nil_iff.1 hd;omega
   refine Js_loop (Js_seq (Js_seq (Js_reg ?_)))
   simp[hE,h2,h3,h4,h7,h8,g0,g1,hal,hil]
   refine Js_cond (t:=false) (by simp) (fun h=>by cases h) fun _=>Js_exit ?_
   simp
   refine hQ _ _ _ _ acc (by simp[h2]) (by simp[h7]) hacc (fun k hk=>gv k (by omega)) ?_
   simp[szL]at hr;exact hr.symm
 | cons x rest ih =>
   intro i acc T H n log hd hi hacc hr h2 h3 h4 h7 h8 g0 g1 hn gv
   have hlb:=wfT_le hl
   have hx:l[i]?=some x:=by
    have:(l.drop i)[0]?=some x:=by rw[hd];rfl
    simpa using this
   have hil:i<l.length:=(List.getElem?_eq_some_iff.1 hx).1
   have hxm:=List.mem_of_getElem? hx
   obtain⟨hx5,hxc⟩:=wfT_all hl x hxm
   obtain⟨x0,x1,x2,x3,x4,rfl⟩:=five hx5
   have hix:=ha.ix (e:=I26) (by rw[si26];intro y hy;exact(wfT_all hl y hy).1) i
   have hsl:elemsV sl=some es:=hs
   have hxp:=hxc
   have hxc:=fun x hx=>pure2_cell (hxp x hx)
   simp at hxc hxp
   have hps:=hs.pure2
   refine Js_loop (Js_seq (Js_seq (Js_reg ?_)))
   by_cases hlt:most<acc
   · have hle:¬ (acc:Int)≤most:=by omega
     simp[hE,h2,h3,h4,h7,h8,g0,g1,hal,hil,hle]
     refine Js_cond (t:=false) (by simp) (fun h=>by cases h) fun _=>Js_exit ?_
     simp
     refine hQ _ _ _ _ acc (by simp[h2]) (by simp[h7]) hacc (fun k hk=>gv k (by omega)) ?_
     simp[szL,hlt]at hr;rw[if_pos hlt];exact hr.symm
   · have hle:(acc:Int)≤most:=by omega
     simp[hE,h2,h3,h4,h7,h8,g0,g1,hal,hil,hle]
     refine Js_cond (t:=true) (by simp) (fun _=>Js_skip ?_) (fun h=>by cases h)
     simp
     refine Js_seq (Js_block (Js_draw ?_))
     simp[szL,hlt]at hr
     split at hr
     · rename_i q hq
       have hqle:=sz16_le hq
       have hsub:IntKind.i64.wrap ((most:Int)-(acc:Int))=Int.ofNat (most-acc):=by
        rw[wrap_in (by omega) (by omega)];simp;omega
       have hadd:IntKind.i64.wrap ((acc:Int)+(q:Int))=((acc+q:Nat):Int):=by
        rw[wrap_in (by omega) (by omega)];omega
       have hmm:most-acc≤1099511627776:=by omega
       simp[hE,h2,h3,h4,h7,h8,g0,g1,hal,hix,hx,hxc,hc,size16V,hsl,hw,hbig,hsub,hmm,hq,hadd,hps,htr,hxp,-Int.natCast_add]
       refine⟨gv _ (by omega),Js_reg ?_⟩
       have hwr:IntKind.i64.wrap ((i:Int)+1)=((i+1:Nat):Int):=by rw[wrap_in (by omega) (by omega)];omega
       simp[hE,h8,hwr,-Int.natCast_add]
       refine ih (i+1) (acc+q) _ _ _ _ ?_ (by omega) (by omega) hr (by simp[h2]) (by simp[h3]) (by simp[h4]) (by simp) (by simp) g0 g1 (by omega) ?_
       · rw[← List.drop_drop,hd];rfl
       · intro k hk
         exact gv k (by omega)
     · cases hr
theorem wk_pure {es:List (List V)} (hw:wfS es=true):∀ {m:Nat} {t r:List V},wk es m t=some r→t.length=5→(∀ x∈t,x.pure2=true)→r.length=5∧∀ x∈r,x.pure2=true:=by
 intro m
 induction m with
 |zero=>intro t r h h5 hp;cases h;exact⟨h5,hp⟩
 | succ m ih =>
   intro t r h h5 hp
   unfold wk at h
   split at h
   · rename_i hb
     split at h
     · rename_i t' hn
       obtain⟨nm,j,hm,av,c,rfl,hc⟩:=bd_true hb
       simp[nextV,hc]at hn
       subst hn
       have hmem:=List.mem_of_getElem? hc
       obtain⟨c0,c1,c2,c3,c4,c5,c6,c7,rfl⟩:=eight (wfS_len hw _ hmem)
       have hcp:=wfS_pure hw _ hmem
       simp at hcp
       exact ih h rfl (by simp[hcp])
     · cases h
   · cases h;exact⟨h5,hp⟩
   · cases h
theorem size16_run {E:Env} (hE:E.P=Tryz.prog) {d:Nat} (hc:E.con 173=pureS (size16V d)) (hc34:E.con 232=pureS walk16V) {sl tr:V} (htr:tr.pure2=true) {es:List (List V)} (hs:Sl sl es) (hw:wfS es=true) (hbig:es.length≤1099511627776) {t:List V} (ht:t.length=5) (htc:∀ x∈t,x.pure2=true)
 {most r:Nat} (hm:most≤1099511627776) (hr:sz16 es (d+1) t most=some r):∃ n,runJ E n 173 [.agg [sl,tr],.agg t,.int .i64 (Int.ofNat most)]=some (.int .i64 (Int.ofNat r)):=by
 have hsl:elemsV sl=some es:=hs
 obtain⟨t0,t1,t2,t3,t4,rfl⟩:=five ht
 unfold sz16 at hr
 split at hr
 · rename_i a0 a1 a2 a3 av hwk
   split at hr
   · rename_i l hav
     split at hr
     · rename_i hl
       have hall:allP [t0,t1,t2,t3,t4]=true:=allP_eq.2 htc
       simp at hall
       have hps:=hs.pure2
       have hrp:=(wk_pure hw hwk rfl htc).2
       have hr5:=fun x hx=>pure2_cell (hrp x hx)
       simp at hr5
       refine run_gives (by rw[hE];exact Tryz.func173) fB173 rfl ?_
       refine Js_seq (Js_reg ?_)
       simp[hE]
       refine Js_seq (Js_reg ?_)
       simp[hE,hc34,walk16V,hsl,hw,hall,hbig,hwk,hps,htr,hr5]
       refine Js_seq (Js_reg ?_)
       simp[hE]
       refine Js_seq (Js_seq (Js_reg ?_))
       simp[hE]
       refine Js_block ?_
       refine size16_loop hE hc htr hs hw hbig (l:=l) (a0:=a0) (a1:=a1) (a2:=a2) (a3:=a3) (av:=av) hav hl (r:=r) hm ?_ l 0 1 _ _ _ _ rfl (Nat.zero_le _) (by omega) hr (by simp) (by simp) (by simp) (by simp) (by simp) (by simp) (by simp) (by omega) ?_
       · intro T H n log acc h2 h7 hle gv hra
         simp
         have hwr:IntKind.i64.wrap ((most:Int)+1)=((most+1:Nat):Int):=by rw[wrap_in (by omega) (by omega)];omega
         refine Js_seq (Js_reg ?_)
         by_cases hlt:most<acc
         · rw[if_pos hlt]at hra
           have h1:(((most+1:Nat):Int)<(acc:Int))=False:=by simp;omega
           have h1':((acc:Int)≤((most+1:Nat):Int))=True:=by simp;omega
           have e:acc=most+1:=by omega
           subst e
           simp[hE,h2,h7,hwr,minmaxJ,h1,h1',-Int.natCast_add]
           refine Js_ret ?_
           simp[hra]
         · rw[if_neg hlt]at hra
           have h1:(((most+1:Nat):Int)<(acc:Int))=False:=by simp;omega
           have h2':((acc:Int)<((most+1:Nat):Int))=True:=by simp;omega
           have h1':((acc:Int)≤((most+1:Nat):Int))=True:=by simp;omega
           simp[hE,h2,h7,hwr,minmaxJ,h1,h2',h1',-Int.natCast_add]
           refine Js_ret ?_
           simp[hra]
       · intro k hk
         simp[show ¬ k=1 by omega,show ¬ k=0 by omega]
     · cases hr
   · cases hr
 · cases hr
end Go.Proofs.YtjilhkjgejnmpaaGreatDoor
namespace Go.Proofs.YtjilhkjgejnmpaaGreatDoor
open Go.J
section
variable {ρ:Nat→Value}(hρ:J.Good ρ)
include hρ
theorem has_valid:Valid ρ Tryz.prog 258 (pureS hasV):=by
 refine Valid.pure hρ follows named (fnOk Tryz.func258 (by kernel_rfl)) fun vs v hp hv=>?_
 unfold hasV at hv
 split at hv
 · rename_i sl tr i
   cases hs:elemsV sl with
   |none=>rw[hs]at hv;cases hv
   | some es =>
     rw[hs]at hv;cases hv
     obtain⟨n,hn⟩:=has_run (E:=envL Tryz.prog pol []) rfl (sl:=sl) (tr:=tr) hs i
     exact⟨_,n,consOk_list valid_nil,rfl,hn⟩
 · cases hv
theorem bound_valid:Valid ρ Tryz.prog 227 (pureS boundV):=by
 refine Valid.pure hρ follows named (fnOk Tryz.func227 (by kernel_rfl)) fun vs v hp hv=>?_
 unfold boundV at hv
 split at hv
 · rename_i sl tr t
   split at hv
   · rename_i es hs
     split at hv
     · rename_i hw
       cases hb:bdV es t with
       |none=>rw[hb]at hv;cases hv
       | some b =>
         rw[hb]at hv;cases hv
         simp at hp
         obtain⟨n,hn⟩:=bound_run (E:=envL Tryz.prog pol [(258,pureS hasV)]) rfl rfl hp.1.2 hs (wfS_len hw) hb (fun x hx=>pure2_cell (allP_eq.1 hp.2 x hx))
         exact⟨_,n,consOk_list (valid_cons (has_valid hρ) valid_nil),rfl,hn⟩
     · cases hv
   · cases hv
 · cases hv
theorem walk_valid:Valid ρ Tryz.prog 225 (pureS walkV):=by
 refine Valid.pure hρ follows named (fnOk Tryz.func225 (by kernel_rfl)) fun vs v hp hv=>?_
 unfold walkV at hv
 split at hv
 · rename_i sl tr t
   split at hv
   · rename_i es hs
     split at hv
     · rename_i hw
       simp at hw hp
       cases hb:wk es es.length t with
       |none=>rw[hb]at hv;cases hv
       | some b =>
         rw[hb]at hv;cases hv
         obtain⟨n,hn⟩:=walk_run (E:=envL Tryz.prog pol [(227,pureS boundV)]) rfl rfl hp.1.2 hs hw.1.1 hw.2 hw.1.2 (allP_eq.1 hp.2) hb
         exact⟨_,n,consOk_list (valid_cons (bound_valid hρ) valid_nil),rfl,hn⟩
     · cases hv
   · cases hv
 · cases hv
theorem size_runs:∀ d vs v,allPure vs=true→sizeV d vs=some v→∃ E n,ConsOk ρ E∧E.P=Tryz.prog∧runJ E n 149 vs=some v:=by
 intro d
 induction d with
 | zero =>
   intro vs v hp hv
   unfold sizeV at hv
   split at hv
   · split at hv
     · split at hv
       · simp[szV]at hv
       · cases hv
     · cases hv
   · cases hv
 | succ d ih =>
   intro vs v hp hv
   unfold sizeV at hv
   split at hv
   · rename_i sl tr t m
     split at hv
     · rename_i es hs
       split at hv
       · rename_i hw
         simp at hw hp
         cases hb:szV es (d+1) t m with
         |none=>rw[hb]at hv;cases hv
         | some b =>
           rw[hb]at hv;cases hv
           obtain⟨n,hn⟩:=size_run (E:=envL Tryz.prog pol [(149,pureS (sizeV d)),(225,pureS walkV)]) rfl rfl rfl hp.1.2 hs hw.1.1.1 hw.1.2 hw.1.1.2 (allP_eq.1 hp.2) hw.2 hb
           exact⟨_,n,consOk_list (valid_cons (Valid.pure hρ follows named (fnOk Tryz.func149 (by kernel_rfl)) ih) (valid_cons (walk_valid hρ) valid_nil)),rfl,hn⟩
       · cases hv
     · cases hv
   · cases hv
theorem size_valid(d:Nat):Valid ρ Tryz.prog 149 (scalS (sizeV d)):=Valid.scal hρ follows named (fnOk Tryz.func149 (by kernel_rfl)) (size_runs hρ d)
end
end Go.Proofs.YtjilhkjgejnmpaaGreatDoor
namespace Go.Proofs.YtjilhkjgejnmpaaGreatDoor
open Go.J
section
variable {ρ:Nat→Value}(hρ:J.Good ρ)
include hρ
theorem bound16_valid:Valid ρ Tryz.prog 233 (pureS boundV):=by
 refine Valid.pure hρ follows named (fnOk Tryz.func233 (by kernel_rfl)) fun vs v hp hv=>?_
 unfold boundV at hv
 split at hv
 · rename_i sl tr t
   split at hv
   · rename_i es hs
     split at hv
     · rename_i hw
       cases hb:bdV es t with
       |none=>rw[hb]at hv;cases hv
       | some b =>
         rw[hb]at hv;cases hv
         simp at hp
         obtain⟨n,hn⟩:=bound16_run (E:=envL Tryz.prog pol []) rfl hp.1.2 hs (wfS_len hw) hb (fun x hx=>pure2_cell (allP_eq.1 hp.2 x hx))
         exact⟨_,n,consOk_list valid_nil,rfl,hn⟩
     · cases hv
   · cases hv
 · cases hv
theorem walk16_valid:Valid ρ Tryz.prog 232 (pureS walk16V):=by
 refine Valid.pure hρ follows named (fnOk Tryz.func232 (by kernel_rfl)) fun vs v hp hv=>?_
 unfold walk16V at hv
 split at hv
 · rename_i sl tr t
   split at hv
   · rename_i es hs
     split at hv
     · rename_i hw
       simp at hw hp
       cases hb:wk es (es.length+1) t with
       |none=>rw[hb]at hv;cases hv
       | some b =>
         rw[hb]at hv;cases hv
         obtain⟨n,hn⟩:=walk16_run (E:=envL Tryz.prog pol [(233,pureS boundV)]) rfl rfl hp.1.2 hs hw.1.1 hw.2 hw.1.2 (allP_eq.1 hp.2) hb
         exact⟨_,n,consOk_list (valid_cons (bound16_valid hρ) valid_nil),rfl,hn⟩
     · cases hv
   · cases hv
 · cases hv
theorem size16_runs:∀ d vs v,allPure vs=true→size16V d vs=some v→∃ E n,ConsOk ρ E∧E.P=Tryz.prog∧runJ E n 173 vs=some v:=by
 intro d
 induction d with
 | zero =>
   intro vs v hp hv
   unfold size16V at hv
   split at hv
   · split at hv
     · split at hv
       · simp[sz16]at hv
       · cases hv
     · cases hv
   · cases hv
 | succ d ih =>
   intro vs v hp hv
   unfold size16V at hv
   split at hv
   · rename_i sl tr t m
     split at hv
     · rename_i es hs
       split at hv
       · rename_i hw
         simp at hw hp
         cases hb:sz16 es (d+1) t m with
         |none=>rw[hb]at hv;cases hv
         | some b =>
           rw[hb]at hv;cases hv
           obtain⟨n,hn⟩:=size16_run (E:=envL Tryz.prog pol [(173,pureS (size16V d)),(232,pureS walk16V)]) rfl rfl rfl hp.1.2 hs hw.1.1.1 hw.1.2 hw.1.1.2 (allP_eq.1 hp.2) hw.2 hb
           exact⟨_,n,consOk_list (valid_cons (Valid.pure hρ follows named (fnOk Tryz.func173 (by kernel_rfl)) ih) (valid_cons (walk16_valid hρ) valid_nil)),rfl,hn⟩
       · cases hv
     · cases hv
   · cases hv
theorem size16_valid(d:Nat):Valid ρ Tryz.prog 173 (scalS (size16V d)):=Valid.scal hρ follows named (fnOk Tryz.func173 (by kernel_rfl)) (size16_runs hρ d)
end
end Go.Proofs.YtjilhkjgejnmpaaGreatDoor
