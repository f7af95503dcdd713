import Derived.Test.YtpcmebclpindjaaGreatZT
import Derived.Test.YtpcmebclpindjaaGreatJH
import Derived.Test.YtpcmebclpindjaaGreatRows
set_option linter.all false
noncomputable section
namespace Go.Proofs.YtpcmebclpindjaaGreat
open Go.J
abbrev ozm (d x:Tmp):SOp:=⟨some d,.move (.tmp x),none⟩
abbrev ozl (d:Tmp) (t:TypeId) (x:Tmp):SOp:=⟨some d,.load t (.tmp x),none⟩
abbrev ozf (d:Tmp) (t:TypeId) (x:Tmp) (n:Nat):SOp:=⟨some d,.fieldAddr t (.tmp x) n,none⟩
abbrev ozs (t:TypeId) (x y:Tmp):SOp:=⟨none,.store t (.tmp x) (.tmp y),none⟩
abbrev oza (d x:Tmp):SOp:=⟨some d,.assign (.tmp x),none⟩
abbrev ozb (d:Tmp) (t:TypeId) (x:Tmp):SOp:=⟨some d,.box t (.tmp x),none⟩
abbrev ozn (d x:Tmp):SOp:=⟨some d,.nilCheck (.tmp x),none⟩
abbrev ozL (d:Tmp) (t:TypeId) (x:Tmp):SD:=⟨some d,.load t (.tmp x),none,[x]⟩
abbrev ozF (d:Tmp) (t:TypeId) (x:Tmp) (n:Nat):SD:=⟨some d,.fieldAddr t (.tmp x) n,none,[x]⟩
abbrev ozM (d x:Tmp):SD:=⟨some d,.move (.tmp x),none,[x]⟩
abbrev ozN (d x:Tmp):SD:=⟨some d,.nilCheck (.tmp x),none,[x]⟩
abbrev ozI (d:Tmp) (t:TypeId) (x y:Tmp):SD:=⟨some d,.indexAddr t (.tmp x) (.tmp y),none,[x,y]⟩
abbrev ozS (t:TypeId) (x y:Tmp):SD:=⟨none,.store t (.tmp x) (.tmp y),none,[x,y]⟩
abbrev ozp (d:Tmp) (t:TypeId) (x g:Tmp):SOp:=⟨some d,.load t (.tmp x),some (g,true)⟩
abbrev ozq (d:Tmp) (t:TypeId) (x g:Tmp):SOp:=⟨some d,.load t (.tmp x),some (g,false)⟩
abbrev ozu (d:Tmp) (t:TypeId) (x:Tmp) (n:Nat) (g:Tmp):SOp:=⟨some d,.fieldAddr t (.tmp x) n,some (g,true)⟩
abbrev ozv (d:Tmp) (t:TypeId) (x:Tmp) (n:Nat) (g:Tmp):SOp:=⟨some d,.fieldAddr t (.tmp x) n,some (g,false)⟩
abbrev oze (d:Tmp) (t:TypeId):SOp:=⟨some d,.alloc t,none⟩
abbrev ozk (d:Tmp) (n:Int):SOp:=⟨some d,.assign (.const (.int .i64 n)),none⟩
abbrev ozh (d x:Tmp) (t:TypeId):SOp:=⟨some d,.call ⟨.builtin .len,#[.tmp x],#[t]⟩,none⟩
abbrev ozg (d:Tmp) (b:Bool):SOp:=⟨some d,.assign (.const (.bool b)),none⟩
abbrev ozd (d:Tmp) (t:TypeId) (x:Tmp) (n:Int) (u:TypeId):SOp:=⟨some d,.binOp .add t (.tmp x) (.const (.int .i64 n)) u,none⟩
abbrev ozr (d x y:Tmp):SOp:=⟨some d,.pick (.tmp x) (.tmp y) (.const (.bool false)),none⟩
abbrev ozy (d x y:Tmp):SOp:=⟨some d,.pick (.tmp x) (.const (.bool true)) (.tmp y),none⟩
abbrev ozo (d:Tmp) (t:TypeId) (x y:Tmp) (u:TypeId):SOp:=⟨some d,.binOp .lss t (.tmp x) (.tmp y) u,none⟩
abbrev ozC (d:Tmp) (f:Nat) (x:Tmp) (t:TypeId):SOp:=⟨some d,.call ⟨.value (.func f),#[.tmp x],#[t]⟩,none⟩
abbrev ozD (d:Tmp) (f:Nat) (x y:Tmp) (t u:TypeId):SOp:=⟨some d,.call ⟨.value (.func f),#[.tmp x,.tmp y],#[t,u]⟩,none⟩
abbrev ozE (d:Tmp) (f:Nat) (x y z:Tmp) (t u v:TypeId):SOp:=⟨some d,.call ⟨.value (.func f),#[.tmp x,.tmp y,.tmp z],#[t,u,v]⟩,none⟩
abbrev ozi (d:Tmp) (t:TypeId) (x y:Tmp):SOp:=⟨some d,.indexAddr t (.tmp x) (.tmp y),none⟩
abbrev ozG (d:Tmp) (t:TypeId) (x g:Tmp) (b:Bool):SD:=⟨some d,.load t (.tmp x),some (g,b),[x,g]⟩
abbrev ozH (d:Tmp) (t:TypeId) (x:Tmp) (n:Nat) (g:Tmp) (b:Bool):SD:=⟨some d,.fieldAddr t (.tmp x) n,some (g,b),[x,g]⟩
abbrev ozO (d:Tmp) (a b:Nat):SOp:=⟨some d,.assign (.const (.slice none a b)),none⟩
abbrev ozP (d:Tmp) (f:Nat) (x y:Tmp) (t u:TypeId):SD:=⟨some d,.call ⟨.value (.func f),#[.tmp x,.tmp y],#[t,u]⟩,none,[x,y]⟩
abbrev ozQ (d x y:Tmp) (t u:TypeId):SOp:=⟨some d,.call ⟨.builtin .append,#[.tmp x,.tmp y],#[t,u]⟩,none⟩
abbrev ozR (d:Tmp) (t:TypeId) (x y:Tmp) (u:TypeId) (g:Tmp):SOp:=⟨some d,.binOp .neq t (.tmp x) (.tmp y) u,some (g,false)⟩
abbrev ozU (d x g:Tmp):SOp:=⟨some d,.move (.tmp x),some (g,true)⟩
abbrev ozV (d:Tmp) (t:TypeId) (n k:Nat) (x:Tmp):SOp:=⟨some d,.buildSlice t n #[(k,.tmp x)],none⟩
abbrev ozW (d x:Tmp) (t:TypeId) (g:Tmp) (b:Bool):SOp:=⟨some d,.call ⟨.builtin .len,#[.tmp x],#[t]⟩,some (g,b)⟩
abbrev ozX (d x y:Tmp):SD:=⟨some d,.pick (.tmp x) (.const (.bool true)) (.tmp y),none,[x,y]⟩
abbrev ozY (d:Tmp) (t:TypeId) (x:Tmp) (n:Int) (u:TypeId):SOp:=⟨some d,.binOp .eql t (.tmp x) (.const (.int .i64 n)) u,none⟩
abbrev ozT (x:Tmp):Operand:=.tmp x
abbrev ozK (n:Int):Operand:=.const (.int .i64 n)
def ztl:SC:=.reg [ozb 2 30 0,ozb 3 30 1,ozg 4 false]
def ztk:SC:=.reg [ozf 5 30 2 0,ozl 6 3 5,ozf 7 30 3 0,ozl 8 3 7,⟨some 9,.binOp .neq 3 (ozT 6) (ozT 8) 3,none⟩,ozm 10 9,ozv 11 30 2 1 10,ozq 12 9 11 10,ozv 13 30 3 1 10,ozq 14 9 13 10,ozR 15 9 12 14 9 10,ozy 16 10 15,ozm 17 16,ozv 18 30 2 2 17,ozq 19 3 18 17,ozv 20 30 3 2 17,ozq 21 3 20 17,ozR 22 3 19 21 3 17,ozy 23 17 22,ozm 24 23,ozv 25 30 2 3 24,ozq 26 3 25 24,ozv 27 30 3 3 24,ozq 28 3 27 24,ozR 29 3 26 28 3 24,ozy 30 24 29]
def ztj:SC:=.reg [ozg 4 false]
def zti:SC:=.reg [ozf 31 30 2 4,ozl 32 28 31,ozf 33 30 3 4,ozl 34 28 33,ozD 35 18 32 34 28 28,oza 4 35]
def zCs:SC:=(.seq ztl (.seq (.seq ztk (.cond (ozT 30) (.seq ztj .ret) .skip)) (.seq zti .ret)))
theorem z6c:Tryz.f54.body.bind zo=some zCs:=by kernel_rfl
def zuL:SC:=.reg [ozg 4 false]
def zuK:SC:=.reg [ozm 6 0,ozh 7 6 28,ozm 8 1,ozh 9 8 28,⟨some 10,.binOp .neq 3 (ozT 7) (ozT 9) 3,none⟩]
def zuJ:SC:=.reg [ozg 4 false]
def zuI:SC:=.reg [ozk 5 0]
def zuH:SC:=.reg [ozm 11 5,ozm 12 0,ozh 13 12 28,ozo 14 3 11 13 3]
def zuG:SC:=.draw [ozM 17 0,ozM 18 5,ozI 19 28 17 18,ozL 20 30 19,ozM 21 1,ozM 22 5,ozI 23 28 21 22,ozL 24 30 23,ozP 25 54 20 24 30 30,⟨some 26,.unOp .not 4 (ozT 25),none,[25]⟩] [0,0,3,7,0,0,48,112,255,511]
def zuF:SC:=.reg [ozg 4 false]
def zuN:SC:=.block 1 (.seq zuG (.cond (ozT 26) (.seq zuF .ret) .skip))
def zuE:SC:=.reg [ozm 15 5,ozd 16 3 15 1 3,oza 5 16]
def zkS:SC:=(.seq (.seq zuH (.cond (ozT 14) .skip (.exit 0))) (.seq zuN zuE))
def zuM:SC:=.block 0 (.loop zkS)
def zuD:SC:=.reg [ozg 4 true]
def zC4:SC:=(.seq zuL (.seq (.seq zuK (.cond (ozT 10) (.seq zuJ .ret) .skip)) (.seq (.seq zuI zuM) (.seq zuD .ret))))
theorem zCU:Tryz.f18.body.bind zo=some zC4:=by kernel_rfl
def ztW:SC:=.reg [ozk 4 0]
def ztV:SC:=.reg [ozm 5 1,⟨some 6,.binOp .lss 3 (ozT 5) (ozK 1) 3,none⟩]
def ztU:SC:=.reg [ozk 4 0]
def ztT:SC:=.reg [ozm 7 0,ozm 8 1,⟨some 9,.binOp .rem 3 (ozT 7) (ozT 8) 3,none⟩,oza 0 9]
def ztS:SC:=.reg [ozm 10 0,⟨some 11,.binOp .lss 3 (ozT 10) (ozK 0) 3,none⟩]
def ztR:SC:=.reg [ozm 12 0,ozm 13 1,⟨some 14,.binOp .add 3 (ozT 12) (ozT 13) 3,none⟩,oza 0 14]
def ztQ:SC:=.reg [ozm 15 0,oza 4 15]
def zC0:SC:=(.seq ztW (.seq (.seq ztV (.cond (ozT 6) (.seq ztU .ret) .skip)) (.seq ztT (.seq (.seq ztS (.cond (ozT 11) ztR .skip)) (.seq ztQ .ret)))))
theorem zCQ:Tryz.f24.body.bind zo=some zC0:=by kernel_rfl
def zvo:SC:=.reg [ozg 2 false]
def zvn:SC:=.reg [ozm 3 0,ozh 4 3 22,⟨some 5,.binOp .leq 3 (ozT 4) (ozK 60) 3,none⟩,oza 2 5]
def zC7:SC:=(.seq zvo (.seq zvn .ret))
theorem zCW:Tryz.f14.body.bind zo=some zC7:=by kernel_rfl
def ztc:SC:=.reg [oze 4 30]
def ztb:SC:=.reg [ozm 5 0,ozm 6 1,⟨some 7,.call ⟨.builtin .append,#[(.const (.slice none 0 0)),.tmp 6],#[28,28]⟩,none⟩,⟨some 8,.build 30 #[(0,(ozK 4)),(1,(ozT 5)),(4,(ozT 7))],none⟩,ozs 30 4 8]
def zCq:SC:=(.seq ztc (.seq ztb .ret))
theorem zCH:Tryz.f56.body.bind zo=some zCq:=by kernel_rfl
def ztE:SC:=.reg [oze 0 30]
def ztD:SC:=.reg [⟨some 1,.call ⟨.value (.func 56),#[(.const (.string ⟨#[73,110,116]⟩)),(.const (.slice none 0 0))],#[9,28]⟩,none⟩,ozs 30 0 1]
def zCx:SC:=(.seq ztE (.seq ztD .ret))
theorem zCN:Tryz.f27.body.bind zo=some zCx:=by kernel_rfl
def ztz:SC:=.reg [ozb 2 30 0,ozb 3 30 1,oze 4 30]
def zty:SC:=.reg [ozl 5 30 2,ozl 6 30 3,⟨some 7,.buildSlice 28 2 #[(0,(ozT 5)),(1,(ozT 6))],none⟩,⟨some 8,.call ⟨.value (.func 56),#[(.const (.string ⟨#[45,62]⟩)),.tmp 7],#[9,28]⟩,none⟩,ozs 30 4 8]
def zCu:SC:=(.seq ztz (.seq zty .ret))
theorem zCK:Tryz.f42.body.bind zo=some zCu:=by kernel_rfl
def ztG:SC:=.reg [oze 2 30]
def ztF:SC:=.reg [ozm 3 0,⟨some 4,.build 30 #[(0,(ozK 1)),(2,(ozT 3))],none⟩,ozs 30 2 4]
def zCy:SC:=(.seq ztG (.seq ztF .ret))
theorem zCO:Tryz.f26.body.bind zo=some zCy:=by kernel_rfl
def ztn:SC:=.reg [oze 2 30]
def ztm:SC:=.reg [ozm 3 0,⟨some 4,.build 30 #[(0,(ozK 2)),(2,(ozT 3))],none⟩,ozs 30 2 4]
def zCt:SC:=(.seq ztn (.seq ztm .ret))
theorem zCJ:Tryz.f53.body.bind zo=some zCt:=by kernel_rfl
def ztC:SC:=.reg [oze 4 30]
def ztB:SC:=.reg [ozm 5 0,ozm 6 1,⟨some 7,.build 30 #[(0,(ozK 3)),(3,(ozT 5)),(2,(ozT 6))],none⟩,ozs 30 4 7]
def zCw:SC:=(.seq ztC (.seq ztB .ret))
theorem zCM:Tryz.f28.body.bind zo=some zCw:=by kernel_rfl
def zth:SC:=.reg [ozk 4 0]
def ztg:SC:=.draw [ozM 5 0,ozN 6 5,ozF 7 27 6 1,ozL 8 3 7,ozM 9 0,ozN 10 9,ozF 11 27 10 0,ozL 12 22 11,⟨some 13,.call ⟨.builtin .len,#[.tmp 12],#[22]⟩,none,[12]⟩,⟨some 14,.binOp .geq 3 (ozT 8) (ozT 13) 3,none,[8,13]⟩] [0,1,3,7,0,16,48,112,240,511]
def ztf:SC:=.reg [ozk 4 0]
def zte:SC:=.reg [ozm 15 0,ozn 16 15,ozf 17 27 16 1,ozl 18 3 17,ozd 19 3 18 1 3,ozn 20 15,ozf 21 27 20 1,ozs 3 21 19]
def ztd:SC:=.draw [ozM 22 0,ozN 23 22,ozF 24 27 23 0,ozL 25 22 24,ozM 26 0,ozN 27 26,ozF 28 27 27 1,ozL 29 3 28,⟨some 30,.binOp .sub 3 (ozT 29) (ozK 1) 3,none,[29]⟩,ozI 31 22 25 30,ozL 32 3 31,ozM 33 1,ozP 34 24 32 33 3 3,⟨some 4,.assign (ozT 34),none,[34]⟩] [0,1,3,7,0,16,48,112,240,511,1023,0,4095,8191]
def zCr:SC:=(.seq zth (.seq (.seq ztg (.cond (ozT 14) (.seq ztf .ret) .skip)) (.seq zte (.seq ztd .ret))))
theorem zCI:Tryz.f55.body.bind zo=some zCr:=by kernel_rfl
def ztN:SC:=.reg [ozO 2 0 0]
def ztM:SC:=.reg [ozO 3 0 0]
def ztL:SC:=.reg [ozk 4 0]
def ztK:SC:=.reg [ozm 5 4,ozm 6 0,ozo 7 3 5 6 3]
def ztJ:SC:=.reg [ozm 10 3,ozm 11 4,ozC 12 26 11 3,ozV 13 28 1 0 12,ozQ 14 10 13 28 28,oza 3 14]
def ztP:SC:=.block 1 ztJ
def ztI:SC:=.reg [ozm 8 4,ozd 9 3 8 1 3,oza 4 9]
def ziW:SC:=(.seq (.seq ztK (.cond (ozT 7) .skip (.exit 0))) (.seq ztP ztI))
def ztO:SC:=.block 0 (.loop ziW)
def ztH:SC:=.reg [ozm 15 3,oza 2 15]
def zCz:SC:=(.seq ztN (.seq ztM (.seq (.seq ztL ztO) (.seq ztH .ret))))
theorem zCP:Tryz.f25.body.bind zo=some zCz:=by kernel_rfl
def zuX:SC:=.reg [ozO 2 0 0]
def zuW:SC:=.reg [⟨some 6,.call ⟨.value (.func 57),#[],#[]⟩,none⟩,oza 3 6]
def zuV:SC:=.reg [ozO 4 0 0]
def zuU:SC:=.reg [ozm 7 0,⟨some 8,.binOp .and 3 (ozT 7) (ozK 2) 3,none⟩,⟨some 9,.binOp .neq 3 (ozT 8) (ozK 0) 3,none⟩,ozm 10 9,⟨some 11,.move (ozT 0),some (10,false)⟩,⟨some 12,.binOp .and 3 (ozT 11) (ozK 64) 3,some (10,false)⟩,⟨some 13,.binOp .neq 3 (ozT 12) (ozK 0) 3,some (10,false)⟩,ozy 14 10 13]
def zuT:SC:=.reg [ozm 15 4,ozm 16 3,⟨some 17,.indexAddr 32 (ozT 16) (ozK 1),none⟩,ozl 18 95 17,ozV 19 32 1 0 18,ozQ 20 15 19 32 32,oza 4 20]
def zuS:SC:=.reg [ozk 5 0]
def zuR:SC:=.reg [ozm 21 5,ozm 22 3,ozh 23 22 32,ozo 24 3 21 23 3]
def zuQ:SC:=.reg [ozm 27 5,⟨some 28,.binOp .neq 3 (ozT 27) (ozK 1) 3,none⟩,ozm 29 28,ozU 30 0 29,ozU 31 5 29,⟨some 32,.convert 3 98 (ozT 31),some (29,true)⟩,⟨some 33,.binOp .shr 3 (ozT 30) (ozT 32) 98,some (29,true)⟩,⟨some 34,.binOp .and 3 (ozT 33) (ozK 1) 3,some (29,true)⟩,⟨some 35,.binOp .eql 3 (ozT 34) (ozK 1) 3,some (29,true)⟩,ozr 36 29 35]
def zuP:SC:=.reg [ozm 37 4,ozm 38 3,ozm 39 5,ozi 40 32 38 39,ozl 41 95 40,ozV 42 32 1 0 41,ozQ 43 37 42 32 32,oza 4 43]
def zuZ:SC:=.block 1 (.seq zuQ (.cond (ozT 36) zuP .skip))
def zuO:SC:=.reg [ozm 25 5,ozd 26 3 25 1 3,oza 5 26]
def zeV:SC:=(.seq (.seq zuR (.cond (ozT 24) .skip (.exit 0))) (.seq zuZ zuO))
def zuY:SC:=.block 0 (.loop zeV)
def znx:SC:=.reg [ozm 44 4,oza 2 44]
def zC5:SC:=(.seq zuX (.seq zuW (.seq zuV (.seq (.seq zuU (.cond (ozT 14) zuT .skip)) (.seq (.seq zuS zuY) (.seq znx .ret))))))
theorem zCV:Tryz.f16.body.bind zo=some zC5:=by kernel_rfl
def zvj:SC:=.reg [oze 8 30]
def zvi:SC:=.reg [ozm 14 0,⟨some 15,.call ⟨.value (.func 55),#[.tmp 14,(ozK 7)],#[25,3]⟩,none⟩,oza 9 15]
def zvh:SC:=.reg [ozm 17 9,⟨some 18,.binOp .lss 3 (ozT 17) (ozK 3) 3,none⟩,ozm 19 18,ozU 20 2 19,ozW 21 20 28 19 true,⟨some 22,.binOp .gtr 3 (ozT 21) (ozK 0) 3,some (19,true)⟩,ozr 23 19 22,oza 16 23]
def zvg:SC:=.reg [ozm 24 2,ozm 25 0,ozm 26 2,ozh 27 26 28,ozD 28 55 25 27 25 3,ozi 29 28 24 28,ozl 30 30 29,ozs 30 8 30]
def zvf:SC:=.reg [ozm 32 9,⟨some 33,.binOp .lss 3 (ozT 32) (ozK 4) 3,none⟩,ozm 34 33,⟨some 35,.move (ozT 3),some (34,false)⟩,⟨some 36,.binOp .lss 3 (ozT 35) (ozK 1) 3,some (34,false)⟩,ozy 37 34 36,oza 31 37]
def zve:SC:=.reg [⟨some 38,.call ⟨.value (.func 27),#[],#[]⟩,none⟩,ozs 30 8 38]
def zvd:SC:=.reg [ozm 40 9,ozY 41 3 40 4 3,ozm 42 41,ozU 43 1 42,ozW 44 43 32 42 true,⟨some 45,.binOp .gtr 3 (ozT 44) (ozK 0) 3,some (42,true)⟩,ozr 46 42 45,oza 39 46]
def zvc:SC:=.reg [ozm 47 9,ozY 48 3 47 5 3,ozm 49 48,ozU 50 1 49,ozW 51 50 32 49 true,⟨some 52,.binOp .gtr 3 (ozT 51) (ozK 0) 3,some (49,true)⟩,ozr 53 49 52,oza 39 53]
def zvb:SC:=.reg [ozm 54 1,ozm 55 0,ozm 56 1,ozh 57 56 32,ozD 58 55 55 57 25 3,ozi 59 32 54 58,ozl 60 95 59,oze 10 95,ozs 95 10 60]
def zva:SC:=.reg [ozO 11 0 0]
def znF:SC:=.reg [ozk 12 0]
def znE:SC:=.reg [ozm 61 12,ozf 62 95 10 2,ozl 63 41 62,ozh 64 63 41,ozo 65 3 61 64 3]
def znD:SC:=.reg [ozm 68 11,ozm 69 0,ozm 70 1,ozm 71 2,ozm 72 3,⟨some 73,.binOp .sub 3 (ozT 72) (ozK 1) 3,none⟩,⟨some 74,.call ⟨.value (.func 15),#[.tmp 69,.tmp 70,.tmp 71,.tmp 73],#[25,32,28,3]⟩,none⟩,ozV 75 28 1 0 74,ozQ 76 68 75 28 28,oza 11 76]
def zvm:SC:=.block 2 znD
def znC:SC:=.reg [ozm 66 12,ozd 67 3 66 1 3,oza 12 67]
def ziX:SC:=(.seq (.seq znE (.cond (ozT 65) .skip (.exit 1))) (.seq zvm znC))
def zvl:SC:=.block 1 (.loop ziX)
def znB:SC:=.reg [ozf 77 95 10 1,ozl 78 9 77,ozm 79 11,ozD 80 56 78 79 9 28,ozs 30 8 80]
def zvk:SC:=.block 0 (.seq zvh (.cond (ozT 16) (.seq zvg .ret) (.seq zvf (.cond (ozT 31) (.seq zve .ret) (.seq (.seq zvd (.cond (ozT 39) .skip zvc)) (.cond (ozT 39) (.seq zvb (.seq zva (.seq (.seq znF zvl) (.seq znB .ret)))) .skip))))))
def znA:SC:=.reg [ozm 81 0,ozm 82 1,ozm 83 2,ozm 84 3,⟨some 85,.binOp .sub 3 (ozT 84) (ozK 1) 3,none⟩,⟨some 86,.call ⟨.value (.func 15),#[.tmp 81,.tmp 82,.tmp 83,.tmp 85],#[25,32,28,3]⟩,none⟩,oze 13 30,ozs 30 13 86]
def zn9:SC:=.draw [ozL 87 30 13,ozM 88 0,ozM 89 1,ozM 90 2,ozM 91 3,⟨some 92,.binOp .sub 3 (ozT 91) (ozK 1) 3,none,[91]⟩,⟨some 93,.call ⟨.value (.func 15),#[.tmp 88,.tmp 89,.tmp 90,.tmp 92],#[25,32,28,3]⟩,none,[88,89,90,92]⟩,ozP 94 42 87 93 30 30,ozS 30 8 94] [0,0,0,0,0,16,62,127,255]
def zC6:SC:=(.seq zvj (.seq zvi (.seq zvk (.seq znA (.seq zn9 .ret)))))
theorem z6d:Tryz.f15.body.bind zo=some zC6:=by kernel_rfl
def zsH:SC:=.reg [ozb 2 30 0,oze 4 30]
def zsG:SC:=.reg [ozf 8 30 2 0,ozl 9 3 8,ozY 10 3 9 1 3]
def zsF:SC:=.reg [ozk 5 0]
def zsE:SC:=.reg [ozm 11 5,ozm 12 1,ozh 13 12 80,ozo 14 3 11 13 3]
def zsD:SC:=.draw [ozM 17 1,ozM 18 5,ozI 19 80 17 18,ozF 20 101 19 0,ozL 21 3 20,ozF 22 30 2 2,ozL 23 3 22,⟨some 24,.binOp .eql 3 (ozT 21) (ozT 23) 3,none,[21,23]⟩] [0,0,3,7,15,0,32,127]
def zsC:SC:=.reg [ozm 25 1,ozm 26 5,ozi 27 80 25 26,ozf 28 101 27 1,ozl 29 30 28,ozs 30 4 29]
def zsL:SC:=.block 1 (.seq zsD (.cond (ozT 24) (.seq zsC .ret) .skip))
def zsB:SC:=.reg [ozm 15 5,ozd 16 3 15 1 3,oza 5 16]
def zkR:SC:=(.seq (.seq zsE (.cond (ozT 14) .skip (.exit 0))) (.seq zsL zsB))
def zsK:SC:=.block 0 (.loop zkR)
def zsA:SC:=.reg [ozl 30 30 2,ozs 30 4 30]
def zs9:SC:=.reg [ozl 31 30 2,oze 6 30,ozs 30 6 31]
def zs8:SC:=.reg [ozf 32 30 6 4,⟨none,.store 28 (ozT 32) (.const (.slice none 0 0)),none⟩]
def znl:SC:=.reg [ozk 7 0]
def znk:SC:=.reg [ozm 33 7,ozf 34 30 2 4,ozl 35 28 34,ozh 36 35 28,ozo 37 3 33 36 3]
def znj:SC:=.draw [ozF 40 30 6 4,ozL 41 28 40,ozF 42 30 2 4,ozL 43 28 42,ozM 44 7,ozI 45 28 43 44,ozL 46 30 45,ozM 47 1,ozP 48 62 46 47 30 80,⟨some 49,.buildSlice 28 1 #[(0,(ozT 48))],none,[48]⟩,⟨some 50,.call ⟨.builtin .append,#[.tmp 41,.tmp 49],#[28,28]⟩,none,[41,49]⟩,ozF 51 30 6 4,ozS 28 51 50] [0,1,0,4,0,28,60,0,252,508,1023,2047,4095]
def zsJ:SC:=.block 3 znj
def zni:SC:=.reg [ozm 38 7,ozd 39 3 38 1 3,oza 7 39]
def ziT:SC:=(.seq (.seq znk (.cond (ozT 37) .skip (.exit 2))) (.seq zsJ zni))
def zsI:SC:=.block 2 (.loop ziT)
def znh:SC:=.reg [ozl 52 30 6,ozs 30 4 52]
def zCo:SC:=(.seq zsH (.seq (.seq zsG (.cond (ozT 10) (.seq (.seq zsF zsK) (.seq zsA .ret)) .skip)) (.seq zs9 (.seq zs8 (.seq (.seq znl zsI) (.seq znh .ret))))))
theorem z98:Tryz.f62.body.bind zo=some zCo:=by kernel_rfl
def zol:SC:=.reg [ozb 4 30 1,ozO 6 0 0]
def zok:SC:=.reg [ozf 9 30 4 0,ozl 10 3 9,ozm 11 2,⟨some 12,.binOp .eql 3 (ozT 10) (ozT 11) 3,none⟩,ozm 13 12,ozu 14 30 4 4 13,ozp 15 28 14 13,ozW 16 15 28 13 true,⟨some 17,.binOp .eql 3 (ozT 16) (ozK 0) 3,some (13,true)⟩,ozr 18 13 17]
def zoj:SC:=.reg [ozk 7 0]
def zoi:SC:=.reg [ozm 19 7,ozm 20 0,ozh 21 20 28,ozo 22 3 19 21 3]
def zoh:SC:=.draw [ozM 25 0,ozM 26 7,ozI 27 28 25 26,ozL 28 30 27,ozL 29 30 4,ozP 30 54 28 29 30 30] [0,0,3,7,0,31]
def zog:SC:=.reg [ozm 31 0,oza 6 31]
def zop:SC:=.block 1 (.seq zoh (.cond (ozT 30) (.seq zog .ret) .skip))
def zof:SC:=.reg [ozm 23 7,ozd 24 3 23 1 3,oza 7 24]
def zfU:SC:=(.seq (.seq zoi (.cond (ozT 22) .skip (.exit 0))) (.seq zop zof))
def zoo:SC:=.block 0 (.loop zfU)
def zoe:SC:=.reg [ozm 32 0,ozl 33 30 4,ozV 34 28 1 0 33,ozQ 35 32 34 28 28,oza 6 35]
def zod:SC:=.reg [ozk 8 0]
def zoc:SC:=.reg [ozm 36 8,ozf 37 30 4 4,ozl 38 28 37,ozh 39 38 28,ozo 40 3 36 39 3]
def zkV:SC:=.reg [ozm 43 0,ozf 44 30 4 4,ozl 45 28 44,ozm 46 8,ozi 47 28 45 46,ozl 48 30 47,ozm 49 2,ozE 50 125 43 48 49 28 30 3,oza 0 50]
def zon:SC:=.block 3 zkV
def zkU:SC:=.reg [ozm 41 8,ozd 42 3 41 1 3,oza 8 42]
def zdl:SC:=(.seq (.seq zoc (.cond (ozT 40) .skip (.exit 2))) (.seq zon zkU))
def zom:SC:=.block 2 (.loop zdl)
def zkT:SC:=.reg [ozm 51 0,oza 6 51]
def z2g:SC:=(.seq zol (.seq (.seq zok (.cond (ozT 18) (.seq (.seq zoj zoo) (.seq zoe .ret)) .skip)) (.seq (.seq zod zom) (.seq zkT .ret))))
theorem zxm:Tryz.f125.body.bind zo=some z2g:=by kernel_rfl
def znZ:SC:=.reg [ozg 4 false]
def znY:SC:=.reg [ozk 5 0]
def znX:SC:=.reg [ozm 6 5,ozm 7 0,ozh 8 7 22,ozo 9 3 6 8 3]
def znW:SC:=.reg [ozm 12 0,ozm 13 5,ozi 14 22 12 13,ozl 15 3 14,ozm 16 1,⟨some 17,.binOp .eql 3 (ozT 15) (ozT 16) 3,none⟩]
def znV:SC:=.reg [ozg 4 true]
def zob:SC:=.block 1 (.seq znW (.cond (ozT 17) (.seq znV .ret) .skip))
def znU:SC:=.reg [ozm 10 5,ozd 11 3 10 1 3,oza 5 11]
def zhL:SC:=(.seq (.seq znX (.cond (ozT 9) .skip (.exit 0))) (.seq zob znU))
def zoa:SC:=.block 0 (.loop zhL)
def znT:SC:=.reg [ozg 4 false]
def z2f:SC:=(.seq znZ (.seq (.seq znY zoa) (.seq znT .ret)))
theorem z2k:Tryz.f126.body.bind zo=some z2f:=by kernel_rfl
def zsW:SC:=.reg [ozO 2 0 0]
def zsV:SC:=.reg [ozO 3 0 0]
def zsU:SC:=.reg [ozk 4 0]
def zsS:SC:=.reg [ozm 7 4,ozm 8 0,ozh 9 8 28,ozo 10 3 7 9 3]
def zsR:SC:=.reg [ozm 13 3,ozm 14 0,ozm 15 4,ozi 16 28 14 15,ozl 17 30 16,⟨some 18,.call ⟨.value (.func 125),#[.tmp 13,.tmp 17,(ozK 1)],#[28,30,3]⟩,none⟩,oza 3 18]
def zta:SC:=.block 1 zsR
def zsQ:SC:=.reg [ozm 11 4,ozd 12 3 11 1 3,oza 4 12]
def ziU:SC:=(.seq (.seq zsS (.cond (ozT 10) .skip (.exit 0))) (.seq zta zsQ))
def zsZ:SC:=.block 0 (.loop ziU)
def zsP:SC:=.reg [ozO 5 0 0]
def zsO:SC:=.reg [ozk 6 0]
def zsN:SC:=.reg [ozm 19 6,ozm 20 3,ozh 21 20 28,ozo 22 3 19 21 3]
def zsM:SC:=.reg [ozm 25 5,ozm 26 3,ozm 27 6,ozi 28 28 26 27,ozf 29 30 28 2,ozl 30 3 29,ozD 31 126 25 30 22 3,⟨some 32,.unOp .not 4 (ozT 31),none⟩]
def zno:SC:=.reg [ozm 33 5,ozm 34 3,ozm 35 6,ozi 36 28 34 35,ozf 37 30 36 2,ozl 38 3 37,ozV 39 22 1 0 38,ozQ 40 33 39 22 22,oza 5 40]
def zsY:SC:=.block 3 (.seq zsM (.cond (ozT 32) zno .skip))
def znn:SC:=.reg [ozm 23 6,ozd 24 3 23 1 3,oza 6 24]
def zfR:SC:=(.seq (.seq zsN (.cond (ozT 22) .skip (.exit 2))) (.seq zsY znn))
def zsX:SC:=.block 2 (.loop zfR)
def znm:SC:=.reg [ozm 41 5,oza 2 41]
def zCp:SC:=(.seq zsW (.seq zsV (.seq (.seq zsU zsZ) (.seq zsP (.seq (.seq zsO zsX) (.seq znm .ret))))))
theorem zCG:Tryz.f61.body.bind zo=some zCp:=by kernel_rfl
def zs7:SC:=.reg [ozb 1 30 0,oze 2 71]
def zs6:SC:=.reg [ozl 3 30 1,⟨some 4,.build 71 #[(1,(ozT 3))],none⟩,ozs 71 2 4]
def zCn:SC:=(.seq zs7 (.seq zs6 .ret))
theorem zCF:Tryz.f63.body.bind zo=some zCn:=by kernel_rfl
def zst:SC:=.reg [⟨some 2,.assign (.const (.string ⟨#[]⟩)),none⟩]
def zss:SC:=.reg [⟨some 3,.buildSlice 41 8 #[(0,(.const (.string ⟨#[120]⟩))),(1,(.const (.string ⟨#[121]⟩))),(2,(.const (.string ⟨#[122]⟩))),(3,(.const (.string ⟨#[102]⟩))),(4,(.const (.string ⟨#[103]⟩))),(5,(.const (.string ⟨#[118,49]⟩))),(6,(.const (.string ⟨#[118,50]⟩))),(7,(.const (.string ⟨#[105,100]⟩)))],none⟩,ozm 4 0,⟨some 5,.call ⟨.value (.func 55),#[.tmp 4,(ozK 8)],#[25,3]⟩,none⟩,ozi 6 41 3 5,ozl 7 9 6,oza 2 7]
def zCl:SC:=(.seq zst (.seq zss .ret))
theorem zCD:Tryz.f65.body.bind zo=some zCl:=by kernel_rfl
def zs3:SC:=.reg [ozb 2 30 0,oze 4 71]
def zs2:SC:=.reg [ozl 8 30 2,ozV 9 28 1 0 8,ozC 10 61 9 28,oza 5 10]
def zs1:SC:=.reg [ozO 6 0 0]
def zsz:SC:=.reg [ozk 7 0]
def zsy:SC:=.reg [ozm 11 7,ozm 12 5,ozh 13 12 22,ozo 14 3 11 13 3]
def zsx:SC:=.reg [ozm 17 1,ozm 18 5,ozm 19 7,ozi 20 22 18 19,ozl 21 3 20,ozD 22 126 17 21 22 3]
def zsw:SC:=.draw [ozM 23 6,ozM 24 5,ozM 25 7,ozI 26 22 24 25,ozL 27 3 26,ozM 28 6,⟨some 29,.call ⟨.builtin .len,#[.tmp 28],#[80]⟩,none,[28]⟩,⟨some 30,.call ⟨.value (.func 53),#[.tmp 29],#[3]⟩,none,[29]⟩,⟨some 31,.build 101 #[(0,(ozT 27)),(1,(ozT 30))],none,[27,30]⟩,⟨some 32,.buildSlice 80 1 #[(0,(ozT 31))],none,[31]⟩,⟨some 33,.call ⟨.builtin .append,#[.tmp 23,.tmp 32],#[80,80]⟩,none,[23,32]⟩,⟨some 6,.assign (ozT 33),none,[33]⟩] [0,0,0,6,14,0,32,96,254,510,1023,2047]
def zs5:SC:=.block 1 (.seq zsx (.cond (ozT 22) zsw .skip))
def zsv:SC:=.reg [ozm 15 7,ozd 16 3 15 1 3,oza 7 16]
def ziS:SC:=(.seq (.seq zsy (.cond (ozT 14) .skip (.exit 0))) (.seq zs5 zsv))
def zs4:SC:=.block 0 (.loop ziS)
def zsu:SC:=.reg [ozm 34 6,ozh 35 34 80,ozl 36 30 2,ozm 37 6,ozD 38 62 36 37 30 80,⟨some 39,.build 71 #[(0,(ozT 35)),(1,(ozT 38))],none⟩,ozs 71 4 39]
def zCm:SC:=(.seq zs3 (.seq zs2 (.seq zs1 (.seq (.seq zsz zs4) (.seq zsu .ret)))))
theorem zCE:Tryz.f64.body.bind zo=some zCm:=by kernel_rfl
def zuA:SC:=.reg [ozO 4 0 0]
def zu9:SC:=.reg [ozO 5 0 0]
def zu8:SC:=.reg [ozm 9 0,⟨some 10,.call ⟨.value (.func 55),#[.tmp 9,(ozK 5)],#[25,3]⟩,none⟩,oza 6 10]
def zu7:SC:=.reg [ozm 11 6,⟨some 12,.binOp .gtr 3 (ozT 11) (ozK 0) 3,none⟩]
def zu6:SC:=.reg [ozm 15 0,ozm 16 1,⟨some 17,.call ⟨.value (.func 25),#[(ozK 3)],#[3]⟩,none⟩,⟨some 18,.call ⟨.value (.func 28),#[(ozK 0),(ozK 0)],#[3,3]⟩,none⟩,ozV 19 28 1 0 18,ozQ 20 17 19 28 28,⟨some 21,.call ⟨.value (.func 15),#[.tmp 15,.tmp 16,.tmp 20,(ozK 2)],#[25,32,28,3]⟩,none⟩,oze 7 30,ozs 30 7 21]
def zu5:SC:=.reg [ozl 22 30 7,ozC 23 63 22 30,oze 8 71,ozs 71 8 23]
def zu4:SC:=.reg [ozm 24 0,⟨some 25,.call ⟨.value (.func 55),#[.tmp 24,(ozK 3)],#[25,3]⟩,none⟩,ozY 26 3 25 0 3]
def zu3:SC:=.reg [ozl 27 30 7,⟨some 28,.buildSlice 22 2 #[(0,(ozK 0)),(1,(ozK 1))],none⟩,ozD 29 64 27 28 30 22,ozs 71 8 29]
def zu1:SC:=.draw [ozM 30 5,ozM 31 0,⟨some 32,.call ⟨.value (.func 65),#[.tmp 31],#[25]⟩,none,[31]⟩,ozL 33 71 8,⟨some 34,.build 73 #[(0,(ozT 32)),(1,(ozT 33))],none,[32,33]⟩,⟨some 35,.buildSlice 38 1 #[(0,(ozT 34))],none,[34]⟩,⟨some 36,.call ⟨.builtin .append,#[.tmp 30,.tmp 35],#[38,38]⟩,none,[30,35]⟩,⟨some 5,.assign (ozT 36),none,[36]⟩] [0,0,2,0,14,30,63,127]
def zuC:SC:=.block 1 (.seq zu6 (.seq zu5 (.seq (.seq zu4 (.cond (ozT 26) zu3 .skip)) zu1)))
def zu0:SC:=.reg [ozm 13 6,⟨some 14,.binOp .sub 3 (ozT 13) (ozK 1) 3,none⟩,oza 6 14]
def zhb:SC:=(.seq (.seq zu7 (.cond (ozT 12) .skip (.exit 0))) (.seq zuC zu0))
def zuB:SC:=.block 0 (.loop zhb)
def znw:SC:=.reg [ozm 37 5,oza 4 37]
def zC3:SC:=(.seq zuA (.seq zu9 (.seq (.seq zu8 zuB) (.seq znw .ret))))
theorem zCT:Tryz.f21.body.bind zo=some zC3:=by kernel_rfl
def zux:SC:=.reg [ozO 4 0 0]
def zuw:SC:=.reg [ozO 5 0 0]
def zuv:SC:=.reg [ozm 10 1,ozC 11 66 10 38,ozh 12 11 38,⟨some 13,.move (ozK 0),none⟩]
def zuu:SC:=.reg [ozo 14 3 13 12 3]
def zut:SC:=.reg [ozi 15 38 11 13,ozl 16 73 15,oze 7 73,ozs 73 7 16]
def zus:SC:=.reg [ozf 17 73 7 1,ozf 18 71 17 1,ozl 19 30 18,oze 8 30,ozs 30 8 19]
def zur:SC:=.reg [ozm 20 0,⟨some 21,.makeFunc (.func 68) #[] #[.tmp 8],none⟩,ozD 22 67 20 21 32 107,oza 9 22]
def zuq:SC:=.reg [ozf 23 73 7 1,ozf 24 71 23 0,ozl 25 3 24,ozY 26 3 25 0 3,ozm 27 26,ozU 28 9 27,ozr 29 27 28]
def zup:SC:=.reg [ozm 30 5,ozf 31 73 7 0,ozl 32 9 31,ozV 33 41 1 0 32,ozQ 34 30 33 41 41,oza 5 34]
def zuz:SC:=.block 1 (.seq zut (.seq zus (.seq zur (.seq zuq (.cond (ozT 29) zup .skip)))))
def zuo:SC:=.reg [ozd 35 3 13 1 3,ozm 13 35]
def zfT:SC:=(.seq zuu (.seq (.cond (ozT 14) .skip (.exit 0)) (.seq zuz zuo)))
def zuy:SC:=.block 0 (.loop zfT)
def znv:SC:=.reg [ozm 36 5,oza 4 36]
def zC2:SC:=(.seq zux (.seq zuw (.seq (.seq zuv zuy) (.seq znv .ret))))
theorem zCS:Tryz.f22.body.bind zo=some zC2:=by kernel_rfl
def zse:SC:=.reg [ozb 2 95 0,ozg 3 false]
def zsd:SC:=.reg [ozf 4 30 1 0,ozl 5 3 4,ozY 6 3 5 4 3,ozm 7 6,ozu 8 95 2 1 7,ozp 9 9 8 7,ozu 10 30 1 1 7,ozp 11 9 10 7,⟨some 12,.binOp .eql 9 (ozT 9) (ozT 11) 9,some (7,true)⟩,ozr 13 7 12,ozm 14 13,ozu 15 95 2 2 14,ozp 16 41 15 14,ozW 17 16 41 14 true,ozu 18 30 1 4 14,ozp 19 28 18 14,ozW 20 19 28 14 true,⟨some 21,.binOp .eql 3 (ozT 17) (ozT 20) 3,some (14,true)⟩,ozr 22 14 21,ozm 23 22,ozv 24 30 1 0 23,ozq 25 3 24 23,⟨some 26,.binOp .eql 3 (ozT 25) (ozK 1) 3,some (23,false)⟩,ozy 27 23 26,oza 3 27]
def zCi:SC:=(.seq zse (.seq zsd .ret))
theorem zCA:Tryz.f68.body.bind zo=some zCi:=by kernel_rfl
def zuj:SC:=.reg [ozO 4 0 0]
def zui:SC:=.reg [ozO 5 0 0]
def zuh:SC:=.reg [ozm 11 1,ozC 12 33 11 38,oza 6 12]
def zug:SC:=.reg [ozk 7 0]
def zuf:SC:=.reg [ozm 13 7,ozm 14 6,ozh 15 14 38,ozo 16 3 13 15 3]
def zue:SC:=.reg [ozm 19 6,ozm 20 7,ozi 21 38 19 20,ozf 22 73 21 1,ozf 23 71 22 1,ozl 24 30 23,oze 8 30,ozs 30 8 24]
def zua:SC:=.reg [ozf 25 30 8 0,ozl 26 3 25,ozY 27 3 26 1 3,ozm 28 27,ozU 29 0 28,ozW 30 29 32 28 true,⟨some 31,.binOp .gtr 3 (ozT 30) (ozK 0) 3,some (28,true)⟩,ozr 32 28 31,oza 9 32]
def ztZ:SC:=.reg [ozk 10 0]
def ztY:SC:=.reg [ozm 33 10,ozm 34 0,ozh 35 34 32,ozo 36 3 33 35 3,ozm 37 36,ozu 38 30 8 0 37,ozp 39 3 38 37,⟨some 40,.binOp .eql 3 (ozT 39) (ozK 4) 3,some (37,true)⟩,ozr 41 37 40]
def ztX:SC:=.draw [ozM 44 9,ozM 45 44,ozH 46 30 8 1 45 false,ozG 47 9 46 45 false,⟨some 48,.move (ozT 0),some (45,false),[0,45]⟩,⟨some 49,.move (ozT 10),some (45,false),[10,45]⟩,⟨some 50,.indexAddr 32 (ozT 48) (ozT 49),some (45,false),[48,49,45]⟩,ozH 51 95 50 1 45 false,ozG 52 9 51 45 false,⟨some 53,.binOp .eql 9 (ozT 47) (ozT 52) 9,some (45,false),[47,52,45]⟩,⟨some 54,.move (ozT 53),some (45,false),[53,45]⟩,ozH 55 30 8 4 54 true,ozG 56 28 55 54 true,⟨some 57,.call ⟨.builtin .len,#[.tmp 56],#[28]⟩,some (54,true),[56,54]⟩,⟨some 58,.move (ozT 0),some (54,true),[0,54]⟩,⟨some 59,.move (ozT 10),some (54,true),[10,54]⟩,⟨some 60,.indexAddr 32 (ozT 58) (ozT 59),some (54,true),[58,59,54]⟩,ozH 61 95 60 2 54 true,ozG 62 41 61 54 true,⟨some 63,.call ⟨.builtin .len,#[.tmp 62],#[41]⟩,some (54,true),[62,54]⟩,⟨some 64,.binOp .eql 3 (ozT 57) (ozT 63) 3,some (54,true),[57,63,54]⟩,⟨some 65,.pick (ozT 54) (ozT 64) (.const (.bool false)),some (45,false),[54,64,45]⟩,ozX 66 45 65,⟨some 9,.assign (ozT 66),none,[66]⟩] [0,1,3,7,3,3,51,115,243,511,1023,2047,4095,8191,2047,2047,51199,116735,247807,509951,1048575,2097151,4194303,8388607]
def zun:SC:=.block 3 ztX
def znu:SC:=.reg [ozm 42 10,ozd 43 3 42 1 3,oza 10 43]
def zfS:SC:=(.seq (.seq ztY (.cond (ozT 41) .skip (.exit 2))) (.seq zun znu))
def zum:SC:=.block 2 (.loop zfS)
def znt:SC:=.reg [ozm 67 6,ozm 68 7,ozi 69 38 67 68,ozf 70 73 69 1,ozf 71 71 70 0,ozl 72 3 71,ozY 73 3 72 0 3,ozm 74 73,ozU 75 9 74,ozr 76 74 75]
def zns:SC:=.reg [ozm 77 5,ozm 78 6,ozm 79 7,ozi 80 38 78 79,ozf 81 73 80 0,ozl 82 9 81,ozV 83 41 1 0 82,ozQ 84 77 83 41 41,oza 5 84]
def zul:SC:=.block 1 (.seq zue (.seq zua (.seq (.seq ztZ zum) (.seq znt (.cond (ozT 76) zns .skip)))))
def znr:SC:=.reg [ozm 17 7,ozd 18 3 17 1 3,oza 7 18]
def zcO:SC:=(.seq (.seq zuf (.cond (ozT 16) .skip (.exit 0))) (.seq zul znr))
def zuk:SC:=.block 0 (.loop zcO)
def znq:SC:=.reg [ozm 85 5,oza 4 85]
def zC1:SC:=(.seq zuj (.seq zui (.seq zuh (.seq (.seq zug zuk) (.seq znq .ret)))))
theorem zCR:Tryz.f23.body.bind zo=some zC1:=by kernel_rfl
def zsp:SC:=.reg [ozO 2 0 0]
def zso:SC:=.reg [ozO 3 0 0]
def zsn:SC:=.reg [ozm 6 0,ozh 7 6 38,⟨some 8,.move (ozK 0),none⟩]
def zsm:SC:=.reg [ozo 9 3 8 7 3]
def zsl:SC:=.reg [ozm 10 8,ozi 11 38 6 8,ozl 12 73 11,oze 5 73,oza 4 10,ozs 73 5 12]
def zsk:SC:=.reg [ozm 13 0,ozm 14 4,ozd 15 3 14 1 3,⟨some 16,.slice 38 (ozT 13) (some (ozT 15)) none none,none⟩,⟨some 17,.makeFunc (.func 127) #[] #[.tmp 5],none⟩,ozD 18 95 16 17 38 147,⟨some 19,.unOp .not 4 (ozT 18),none⟩]
def zsj:SC:=.reg [ozm 20 3,ozl 21 73 5,ozV 22 38 1 0 21,ozQ 23 20 22 38 38,oza 3 23]
def zsr:SC:=.block 1 (.seq zsl (.seq zsk (.cond (ozT 19) zsj .skip)))
def zsi:SC:=.reg [ozd 24 3 8 1 3,ozm 8 24]
def ziR:SC:=(.seq zsm (.seq (.cond (ozT 9) .skip (.exit 0)) (.seq zsr zsi)))
def zsq:SC:=.block 0 (.loop ziR)
def zsh:SC:=.reg [ozm 25 3,oza 2 25]
def zCk:SC:=(.seq zsp (.seq zso (.seq (.seq zsn zsq) (.seq zsh .ret))))
theorem zCC:Tryz.f66.body.bind zo=some zCk:=by kernel_rfl
def znS:SC:=.reg [ozb 2 73 0,ozg 3 false]
def znR:SC:=.reg [ozf 4 73 2 0,ozl 5 9 4,ozf 6 73 1 0,ozl 7 9 6,⟨some 8,.binOp .eql 9 (ozT 5) (ozT 7) 9,none⟩,oza 3 8]
def z2e:SC:=(.seq znS (.seq znR .ret))
theorem z2j:Tryz.f127.body.bind zo=some z2e:=by kernel_rfl
def zt8:SC:=.reg [ozO 2 0 0]
def zt7:SC:=.reg [ozO 3 0 0]
def zt6:SC:=.reg [ozk 4 0]
def zt5:SC:=.reg [ozm 7 4,ozm 8 0,ozh 9 8 38,ozo 10 3 7 9 3]
def zt4:SC:=.draw [ozM 14 0,ozM 15 4,⟨some 16,.binOp .add 3 (ozT 15) (ozK 1) 3,none,[15]⟩,⟨some 17,.slice 38 (ozT 14) (some (ozT 16)) none none,none,[14,16]⟩,ozM 18 0,ozM 19 4,ozI 20 38 18 19,ozF 21 73 20 0,ozL 22 9 21,ozP 23 80 17 22 38 9,ozM 13 23,⟨some 24,.extract (ozT 13) 0,none,[13]⟩,⟨some 25,.extract (ozT 13) 1,none,[13]⟩,⟨some 5,.alloc 71,none,[]⟩,ozS 71 5 24,⟨some 6,.assign (ozT 25),none,[25]⟩] [0,0,2,7,0,0,48,112,240,511,1023,2047,2047,0,12287,32767]
def zt3:SC:=.reg [ozm 26 6,⟨some 27,.unOp .not 4 (ozT 26),none⟩]
def zt2:SC:=.reg [ozm 28 3,ozm 29 0,ozm 30 4,ozi 31 38 29 30,ozl 32 73 31,ozV 33 38 1 0 32,ozQ 34 28 33 38 38,oza 3 34]
def ztA:SC:=.block 1 (.seq zt4 (.seq zt3 (.cond (ozT 27) zt2 .skip)))
def zt1:SC:=.reg [ozm 11 4,ozd 12 3 11 1 3,oza 4 12]
def ziV:SC:=(.seq (.seq zt5 (.cond (ozT 10) .skip (.exit 0))) (.seq ztA zt1))
def zt9:SC:=.block 0 (.loop ziV)
def zt0:SC:=.reg [ozm 35 3,oza 2 35]
def zCv:SC:=(.seq zt8 (.seq zt7 (.seq (.seq zt6 zt9) (.seq zt0 .ret))))
theorem zCL:Tryz.f33.body.bind zo=some zCv:=by kernel_rfl
def zsa:SC:=.reg [oze 4 71,ozg 5 false]
def zrZ:SC:=.reg [ozm 7 0,ozh 8 7 38,⟨some 9,.binOp .sub 3 (ozT 8) (ozK 1) 3,none⟩,oza 6 9]
def zrY:SC:=.reg [ozm 10 6,⟨some 11,.binOp .geq 3 (ozT 10) (ozK 0) 3,none⟩]
def zrX:SC:=.reg [ozm 14 0,ozm 15 6,ozi 16 38 14 15,ozf 17 73 16 0,ozl 18 9 17,ozm 19 1,⟨some 20,.binOp .eql 9 (ozT 18) (ozT 19) 9,none⟩]
def zrW:SC:=.reg [ozm 21 0,ozm 22 6,ozi 23 38 21 22,ozf 24 73 23 1,ozl 25 71 24,ozs 71 4 25,ozg 5 true]
def zsc:SC:=.block 1 (.seq zrX (.cond (ozT 20) (.seq zrW .ret) .skip))
def zrV:SC:=.reg [ozm 12 6,⟨some 13,.binOp .sub 3 (ozT 12) (ozK 1) 3,none⟩,oza 6 13]
def zkQ:SC:=(.seq (.seq zrY (.cond (ozT 11) .skip (.exit 0))) (.seq zsc zrV))
def zsb:SC:=.block 0 (.loop zkQ)
def zrU:SC:=.reg [⟨some 26,.build 71 #[],none⟩,ozs 71 4 26,ozg 5 false]
def zCh:SC:=(.seq zsa (.seq (.seq zrZ zsb) (.seq zrU .ret)))
theorem zC9:Tryz.f80.body.bind zo=some zCh:=by kernel_rfl
def z1Y:SC:=.reg [ozg 6 false]
def z1X:SC:=.reg [⟨some 14,.call ⟨.value (.func 13),#[],#[]⟩,none⟩,⟨some 15,.unOp .not 4 (ozT 14),none⟩]
def z1W:SC:=.reg [ozg 6 false]
def z1V:SC:=.reg [ozm 16 1,ozC 17 14 16 22,⟨some 18,.unOp .not 4 (ozT 17),none⟩]
def z1U:SC:=.reg [ozg 6 true]
def z1T:SC:=.reg [ozm 19 1,⟨some 20,.build 27 #[(0,(ozT 19))],none⟩,ozb 21 27 20,oza 7 21]
def z1S:SC:=.reg [ozm 22 7,ozm 23 0,ozC 24 16 23 3,ozD 25 21 22 24 25 32,oza 8 25]
def z1R:SC:=.reg [ozm 26 0,ozC 27 16 26 3,ozm 28 2,ozC 29 16 28 3,⟨some 30,.buildSlice 40 3 #[(0,(ozT 27)),(1,(ozT 29)),(2,(.const (.slice none 0 0)))],none⟩,ozh 31 30 40,⟨some 32,.move (ozK 0),none⟩]
def z1Q:SC:=.reg [ozo 33 3 32 31 3]
def z1P:SC:=.reg [ozi 34 40 30 32,ozl 35 32 34,oza 10 35]
def ztx:SC:=.reg [ozm 36 10,ozm 37 8,ozD 38 22 36 37 32 38,ozm 39 10,ozm 40 8,ozD 41 23 39 40 32 38,oza 11 38,oza 12 41]
def ztw:SC:=.reg [ozm 42 11,ozh 43 42 41,ozm 44 12,ozh 45 44 41,⟨some 46,.binOp .neq 3 (ozT 43) (ozT 45) 3,none⟩]
def ztv:SC:=.reg [ozg 6 false]
def ztu:SC:=.reg [ozk 13 0]
def ztt:SC:=.reg [ozm 47 13,ozm 48 11,ozh 49 48 41,ozo 50 3 47 49 3]
def zts:SC:=.draw [ozM 53 11,ozM 54 13,ozI 55 41 53 54,ozL 56 9 55,ozM 57 12,ozM 58 13,ozI 59 41 57 58,ozL 60 9 59,⟨some 61,.binOp .neq 9 (ozT 56) (ozT 60) 9,none,[56,60]⟩] [0,0,3,7,0,0,48,112,255]
def ztr:SC:=.reg [ozg 6 false]
def z2d:SC:=.block 3 (.seq zts (.cond (ozT 61) (.seq ztr .ret) .skip))
def ztq:SC:=.reg [ozm 51 13,ozd 52 3 51 1 3,oza 13 52]
def zq3:SC:=(.seq (.seq ztt (.cond (ozT 50) .skip (.exit 2))) (.seq z2d ztq))
def z2c:SC:=.block 2 (.loop zq3)
def z2a:SC:=.block 1 (.seq z1P (.seq ztx (.seq (.seq ztw (.cond (ozT 46) (.seq ztv .ret) .skip)) (.seq ztu z2c))))
def ztp:SC:=.reg [ozd 62 3 32 1 3,ozm 32 62]
def znp:SC:=(.seq z1Q (.seq (.cond (ozT 33) .skip (.exit 0)) (.seq z2a ztp)))
def z1Z:SC:=.block 0 (.loop znp)
def zto:SC:=.reg [ozg 6 true]
def fS4:SC:=(.seq z1Y (.seq (.seq z1X (.cond (ozT 15) (.seq z1W .ret) .skip)) (.seq (.seq z1V (.cond (ozT 18) (.seq z1U .ret) .skip)) (.seq z1T (.seq z1S (.seq (.seq z1R z1Z) (.seq zto .ret)))))))
theorem fB4:Tryz.f4.body.bind zo=some fS4:=by kernel_rfl
def znN:SC:=.reg [ozk 4 0]
def znM:SC:=.reg [ozm 6 0,ozh 7 6 32,⟨some 8,.move (ozK 0),none⟩]
def znL:SC:=.reg [ozo 9 3 8 7 3]
def znK:SC:=.reg [ozm 10 8,oza 5 10]
def znJ:SC:=.reg [ozm 11 1,ozm 12 0,ozm 13 5,ozi 14 32 12 13,ozl 15 95 14,⟨some 16,.call ⟨.value (ozT 11),#[.tmp 15],#[95]⟩,none⟩]
def znI:SC:=.reg [ozm 17 5,oza 4 17]
def znP:SC:=.block 1 (.seq znK (.seq znJ (.cond (ozT 16) (.seq znI .ret) .skip)))
def znH:SC:=.reg [ozd 18 3 8 1 3,ozm 8 18]
def zdk:SC:=(.seq znL (.seq (.cond (ozT 9) .skip (.exit 0)) (.seq znP znH)))
def znO:SC:=.block 0 (.loop zdk)
def znG:SC:=.reg [⟨some 4,.assign (.const (.int .i64 (-1))),none⟩]
def znQ:SC:=(.seq znN (.seq (.seq znM znO) (.seq znG .ret)))
theorem z2i:Tryz.f128.body.bind zo=some znQ:=by kernel_rfl
def zsg:SC:=.reg [ozg 4 false]
def zsf:SC:=.reg [ozm 5 0,ozm 6 1,ozD 7 128 5 6 32 107,⟨some 8,.binOp .geq 3 (ozT 7) (ozK 0) 3,none⟩,oza 4 8]
def zCj:SC:=(.seq zsg (.seq zsf .ret))
theorem zCB:Tryz.f67.body.bind zo=some zCj:=by kernel_rfl
def zn5:SC:=.reg [ozk 4 0]
def zn4:SC:=.reg [ozm 6 0,ozh 7 6 38,⟨some 8,.move (ozK 0),none⟩]
def zn3:SC:=.reg [ozo 9 3 8 7 3]
def zn2:SC:=.reg [ozm 10 8,oza 5 10]
def zn1:SC:=.reg [ozm 11 1,ozm 12 0,ozm 13 5,ozi 14 38 12 13,ozl 15 73 14,⟨some 16,.call ⟨.value (ozT 11),#[.tmp 15],#[73]⟩,none⟩]
def zn0:SC:=.reg [ozm 17 5,oza 4 17]
def zn7:SC:=.block 1 (.seq zn2 (.seq zn1 (.cond (ozT 16) (.seq zn0 .ret) .skip)))
def znz:SC:=.reg [ozd 18 3 8 1 3,ozm 8 18]
def zdj:SC:=(.seq zn3 (.seq (.cond (ozT 9) .skip (.exit 0)) (.seq zn7 znz)))
def zn6:SC:=.block 0 (.loop zdj)
def zny:SC:=.reg [⟨some 4,.assign (.const (.int .i64 (-1))),none⟩]
def zn8:SC:=(.seq zn5 (.seq (.seq zn4 zn6) (.seq zny .ret)))
theorem z2h:Tryz.f164.body.bind zo=some zn8:=by kernel_rfl
def zrT:SC:=.reg [ozg 4 false]
def zrS:SC:=.reg [ozm 5 0,ozm 6 1,ozD 7 164 5 6 38 147,⟨some 8,.binOp .geq 3 (ozT 7) (ozK 0) 3,none⟩,oza 4 8]
def zCg:SC:=(.seq zrT (.seq zrS .ret))
theorem zC8:Tryz.f95.body.bind zo=some zCg:=by kernel_rfl
attribute [simp] z2g zop zoo zon zom zol zok zkV zkU zkT zoj zoi zoh zog zof zoe zod zoc z2f zob zoa znZ znY znX znW znV znU znT z2e znS znR znQ znP znO znN znM znL znK znJ znI znH znG zC7 zvo zvn zC6 zvm zvl zvk zvj zvi znF znE znD znC znB znA zn9 zvh zvg zvf zve zvd zvc zvb zva zC5 zn8 zn7 zn6 zn5 zn4 zn3 zn2 zn1 zn0 znz zny zuZ zuY zuX zuW znx zuV zuU zuT zuS zuR zuQ zuP zuO zC4 zuN zuM zuL zuK zuJ zuI zuH zuG zuF zuE zuD zC3 zuC zuB zuA zu9 znw zu8 zu7 zu6 zu5 zu4 zu3 zu1 zu0 zC2 zuz zuy zux zuw znv zuv zuu zut zus zur zuq zup zuo zC1 zun zum zul zuk zuj zui znu znt zns znr znq zuh zug zuf zue zua ztZ ztY ztX zC0 ztW ztV ztU ztT ztS ztR ztQ zCz ztP ztO ztN ztM ztL ztK ztJ ztI ztH zCy ztG ztF zCx ztE ztD zCw ztC ztB zCv ztA zt9 zt8 zt7 zt6 zt5 zt4 zt3 zt2 zt1 zt0 fS4 zCu ztz zty z2d z2c z2a z1Z z1Y z1X ztx ztw ztv ztu ztt zts ztr ztq ztp zto z1W z1V z1U z1T z1S z1R z1Q z1P zCt ztn ztm zCs ztl ztk ztj zti zCr zth ztg ztf zte ztd zCq ztc ztb zCp zta zsZ zsY zsX zsW zsV zno znn znm zsU zsS zsR zsQ zsP zsO zsN zsM zCo zsL zsK zsJ zsI zsH zsG znl znk znj zni znh zsF zsE zsD zsC zsB zsA zs9 zs8 zCn zs7 zs6 zCm zs5 zs4 zs3 zs2 zs1 zsz zsy zsx zsw zsv zsu zCl zst zss zCk zsr zsq zsp zso zsn zsm zsl zsk zsj zsi zsh zCj zsg zsf zCi zse zsd zCh zsc zsb zsa zrZ zrY zrX zrW zrV zrU zCg zrT zrS
end Go.Proofs.YtpcmebclpindjaaGreat
