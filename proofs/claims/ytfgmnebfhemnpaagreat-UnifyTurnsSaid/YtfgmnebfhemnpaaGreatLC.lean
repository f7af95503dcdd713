import Derived.Test.YtfgmnebfhemnpaaGreatLT
import Derived.Test.YtfgmnebfhemnpaaGreatJH
import Derived.Test.YtfgmnebfhemnpaaGreatRows
set_option linter.all false
noncomputable section
namespace Go.Proofs.YtfgmnebfhemnpaaGreat
open Go.J
abbrev ozm (d x:Tmp):SOp:=⟨some d,.move (.tmp x),none⟩
abbrev ozl (d:Tmp) (t:TypeId) (x:Tmp):SOp:=⟨some d,.load t (.tmp x),none⟩
abbrev ozf (d:Tmp) (t:TypeId) (x:Tmp) (n:Nat):SOp:=⟨some d,.fieldAddr t (.tmp x) n,none⟩
abbrev ozs (t:TypeId) (x y:Tmp):SOp:=⟨none,.store t (.tmp x) (.tmp y),none⟩
abbrev oza (d x:Tmp):SOp:=⟨some d,.assign (.tmp x),none⟩
abbrev ozb (d:Tmp) (t:TypeId) (x:Tmp):SOp:=⟨some d,.box t (.tmp x),none⟩
abbrev ozx (d x:Tmp) (n:Nat):SOp:=⟨some d,.extract (.tmp x) n,none⟩
abbrev ozn (d x:Tmp):SOp:=⟨some d,.nilCheck (.tmp x),none⟩
abbrev ozL (d:Tmp) (t:TypeId) (x:Tmp):SD:=⟨some d,.load t (.tmp x),none,[x]⟩
abbrev ozF (d:Tmp) (t:TypeId) (x:Tmp) (n:Nat):SD:=⟨some d,.fieldAddr t (.tmp x) n,none,[x]⟩
abbrev ozM (d x:Tmp):SD:=⟨some d,.move (.tmp x),none,[x]⟩
abbrev ozN (d x:Tmp):SD:=⟨some d,.nilCheck (.tmp x),none,[x]⟩
abbrev ozI (d:Tmp) (t:TypeId) (x y:Tmp):SD:=⟨some d,.indexAddr t (.tmp x) (.tmp y),none,[x,y]⟩
abbrev ozS (t:TypeId) (x y:Tmp):SD:=⟨none,.store t (.tmp x) (.tmp y),none,[x,y]⟩
abbrev ozp (d:Tmp) (t:TypeId) (x g:Tmp):SOp:=⟨some d,.load t (.tmp x),some (g,true)⟩
abbrev ozq (d:Tmp) (t:TypeId) (x g:Tmp):SOp:=⟨some d,.load t (.tmp x),some (g,false)⟩
abbrev ozu (d:Tmp) (t:TypeId) (x:Tmp) (n:Nat) (g:Tmp):SOp:=⟨some d,.fieldAddr t (.tmp x) n,some (g,true)⟩
abbrev ozv (d:Tmp) (t:TypeId) (x:Tmp) (n:Nat) (g:Tmp):SOp:=⟨some d,.fieldAddr t (.tmp x) n,some (g,false)⟩
abbrev oze (d:Tmp) (t:TypeId):SOp:=⟨some d,.alloc t,none⟩
abbrev ozk (d:Tmp) (n:Int):SOp:=⟨some d,.assign (.const (.int .i64 n)),none⟩
abbrev ozh (d x:Tmp) (t:TypeId):SOp:=⟨some d,.call ⟨.builtin .len,#[.tmp x],#[t]⟩,none⟩
abbrev ozg (d:Tmp) (b:Bool):SOp:=⟨some d,.assign (.const (.bool b)),none⟩
abbrev ozd (d:Tmp) (t:TypeId) (x:Tmp) (n:Int) (u:TypeId):SOp:=⟨some d,.binOp .add t (.tmp x) (.const (.int .i64 n)) u,none⟩
abbrev ozr (d x y:Tmp):SOp:=⟨some d,.pick (.tmp x) (.tmp y) (.const (.bool false)),none⟩
abbrev ozy (d x y:Tmp):SOp:=⟨some d,.pick (.tmp x) (.const (.bool true)) (.tmp y),none⟩
abbrev ozo (d:Tmp) (t:TypeId) (x y:Tmp) (u:TypeId):SOp:=⟨some d,.binOp .lss t (.tmp x) (.tmp y) u,none⟩
abbrev ozC (d:Tmp) (f:Nat) (x:Tmp) (t:TypeId):SOp:=⟨some d,.call ⟨.value (.func f),#[.tmp x],#[t]⟩,none⟩
abbrev ozD (d:Tmp) (f:Nat) (x y:Tmp) (t u:TypeId):SOp:=⟨some d,.call ⟨.value (.func f),#[.tmp x,.tmp y],#[t,u]⟩,none⟩
abbrev ozE (d:Tmp) (f:Nat) (x y z:Tmp) (t u v:TypeId):SOp:=⟨some d,.call ⟨.value (.func f),#[.tmp x,.tmp y,.tmp z],#[t,u,v]⟩,none⟩
abbrev ozi (d:Tmp) (t:TypeId) (x y:Tmp):SOp:=⟨some d,.indexAddr t (.tmp x) (.tmp y),none⟩
abbrev ozG (d:Tmp) (t:TypeId) (x g:Tmp) (b:Bool):SD:=⟨some d,.load t (.tmp x),some (g,b),[x,g]⟩
abbrev ozH (d:Tmp) (t:TypeId) (x:Tmp) (n:Nat) (g:Tmp) (b:Bool):SD:=⟨some d,.fieldAddr t (.tmp x) n,some (g,b),[x,g]⟩
abbrev ozO (d:Tmp) (a b:Nat):SOp:=⟨some d,.assign (.const (.slice none a b)),none⟩
abbrev ozP (d:Tmp) (f:Nat) (x y:Tmp) (t u:TypeId):SD:=⟨some d,.call ⟨.value (.func f),#[.tmp x,.tmp y],#[t,u]⟩,none,[x,y]⟩
abbrev ozQ (d x y:Tmp) (t u:TypeId):SOp:=⟨some d,.call ⟨.builtin .append,#[.tmp x,.tmp y],#[t,u]⟩,none⟩
abbrev ozR (d:Tmp) (t:TypeId) (x y:Tmp) (u:TypeId) (g:Tmp):SOp:=⟨some d,.binOp .neq t (.tmp x) (.tmp y) u,some (g,false)⟩
abbrev ozU (d x g:Tmp):SOp:=⟨some d,.move (.tmp x),some (g,true)⟩
abbrev ozV (d:Tmp) (t:TypeId) (n k:Nat) (x:Tmp):SOp:=⟨some d,.buildSlice t n #[(k,.tmp x)],none⟩
abbrev ozW (d x:Tmp) (t:TypeId) (g:Tmp) (b:Bool):SOp:=⟨some d,.call ⟨.builtin .len,#[.tmp x],#[t]⟩,some (g,b)⟩
abbrev ozX (d x y:Tmp):SD:=⟨some d,.pick (.tmp x) (.const (.bool true)) (.tmp y),none,[x,y]⟩
abbrev ozY (d:Tmp) (t:TypeId) (x:Tmp) (n:Int) (u:TypeId):SOp:=⟨some d,.binOp .eql t (.tmp x) (.const (.int .i64 n)) u,none⟩
abbrev ozT (x:Tmp):Operand:=.tmp x
abbrev ozK (n:Int):Operand:=.const (.int .i64 n)
def z5D:SC:=.reg [ozk 4 0]
def z5C:SC:=.draw [ozM 5 0,ozN 6 5,ozF 7 47 6 1,ozL 8 3 7,ozM 9 0,ozN 10 9,ozF 11 47 10 0,ozL 12 22 11,⟨some 13,.call ⟨.builtin .len,#[.tmp 12],#[22]⟩,none,[12]⟩,⟨some 14,.binOp .geq 3 (ozT 8) (ozT 13) 3,none,[8,13]⟩] [0,1,3,7,0,16,48,112,240,511]
def z5B:SC:=.reg [ozk 4 0]
def z5A:SC:=.reg [ozm 15 0,ozn 16 15,ozf 17 47 16 1,ozl 18 3 17,ozd 19 3 18 1 3,ozn 20 15,ozf 21 47 20 1,ozs 3 21 19]
def z5z:SC:=.draw [ozM 22 0,ozN 23 22,ozF 24 47 23 0,ozL 25 22 24,ozM 26 0,ozN 27 26,ozF 28 47 27 1,ozL 29 3 28,⟨some 30,.binOp .sub 3 (ozT 29) (ozK 1) 3,none,[29]⟩,ozI 31 22 25 30,ozL 32 3 31,ozM 33 1,ozP 34 51 32 33 3 3,⟨some 4,.assign (ozT 34),none,[34]⟩] [0,1,3,7,0,16,48,112,240,511,1023,0,4095,8191]
def zQB:SC:=(.seq z5D (.seq (.seq z5C (.cond (ozT 14) (.seq z5B .ret) .skip)) (.seq z5A (.seq z5z .ret))))
theorem zRq:Tryz.f23.body.bind zz=some zQB:=by kernel_rfl
def z4t:SC:=.reg [oze 4 28]
def z4s:SC:=.reg [⟨some 12,.call ⟨.value (.func 21),#[],#[]⟩,none⟩,oze 5 28,ozs 28 5 12]
def z4r:SC:=.reg [ozm 13 0,⟨some 14,.call ⟨.value (.func 23),#[.tmp 13,(ozK 5)],#[32,3]⟩,none⟩,⟨some 15,.binOp .add 3 (ozK 1) (ozT 14) 3,none⟩,oza 6 15]
def z4q:SC:=.reg [ozk 7 0]
def z4p:SC:=.reg [ozm 16 7,ozm 17 6,ozo 18 3 16 17 3]
def z4o:SC:=.draw [ozL 22 28 5,ozM 23 0,⟨some 24,.call ⟨.value (.func 23),#[.tmp 23,(ozK 3)],#[32,3]⟩,none,[23]⟩,ozM 25 0,⟨some 26,.call ⟨.value (.func 23),#[.tmp 25,(ozK 5)],#[32,3]⟩,none,[25]⟩,⟨some 27,.binOp .eql 3 (ozT 26) (ozK 0) 3,none,[26]⟩,⟨some 28,.call ⟨.value (.func 22),#[.tmp 22,.tmp 24,.tmp 27],#[28,3,4]⟩,none,[22,24,27]⟩,ozM 21 28,⟨some 29,.extract (ozT 21) 0,none,[21]⟩,⟨some 30,.extract (ozT 21) 1,none,[21]⟩,ozS 28 5 29] [0,0,2,0,14,30,63,127,255,255,511]
def z4x:SC:=.block 1 z4o
def z4n:SC:=.reg [ozm 19 7,ozd 20 3 19 1 3,oza 7 20]
def zoy:SC:=(.seq (.seq z4p (.cond (ozT 18) .skip (.exit 0))) (.seq z4x z4n))
def z4w:SC:=.block 0 (.loop zoy)
def z4m:SC:=.reg [ozm 31 0,⟨some 32,.call ⟨.value (.func 23),#[.tmp 31,(ozK 4)],#[32,3]⟩,none⟩,oza 8 32]
def z4l:SC:=.reg [ozk 9 0]
def z4k:SC:=.reg [ozm 33 9,ozm 34 8,ozo 35 3 33 34 3]
def ztk:SC:=.reg [ozm 38 0,ozm 39 1,ozm 40 6,ozC 41 25 40 3,⟨some 42,.call ⟨.value (.func 24),#[.tmp 38,.tmp 39,.tmp 41,(ozK 1)],#[32,48,29,3]⟩,none⟩,ozm 43 0,ozm 44 1,ozm 45 6,ozC 46 25 45 3,⟨some 47,.call ⟨.value (.func 32),#[(ozK 1),(ozK 0)],#[3,3]⟩,none⟩,ozV 48 29 1 0 47,ozQ 49 46 48 29 29,⟨some 50,.call ⟨.value (.func 24),#[.tmp 43,.tmp 44,.tmp 49,(ozK 1)],#[32,48,29,3]⟩,none⟩,oze 10 31,oze 11 31,ozs 31 10 42,ozs 31 11 50]
def ztj:SC:=.reg [ozl 52 28 5,ozl 53 31 10,ozl 54 31 11,ozE 55 12 52 53 54 28 31 31,ozm 51 55,ozx 56 51 0,ozx 57 51 1,ozs 28 5 56]
def z4v:SC:=.block 3 (.seq ztk ztj)
def zti:SC:=.reg [ozm 36 9,ozd 37 3 36 1 3,oza 9 37]
def ztl:SC:=(.seq (.seq z4k (.cond (ozT 35) .skip (.exit 2))) (.seq z4v zti))
def z4u:SC:=.block 2 (.loop ztl)
def zth:SC:=.reg [ozl 58 28 5,ozs 28 4 58]
def zQ3:SC:=(.seq z4t (.seq z4s (.seq z4r (.seq (.seq z4q z4w) (.seq z4m (.seq (.seq z4l z4u) (.seq zth .ret)))))))
theorem zRk:Tryz.f33.body.bind zz=some zQ3:=by kernel_rfl
def z5v:SC:=.reg [oze 8 31]
def z5u:SC:=.reg [ozm 14 0,⟨some 15,.call ⟨.value (.func 23),#[.tmp 14,(ozK 7)],#[32,3]⟩,none⟩,oza 9 15]
def z5t:SC:=.reg [ozm 17 9,⟨some 18,.binOp .lss 3 (ozT 17) (ozK 3) 3,none⟩,ozm 19 18,ozU 20 2 19,ozW 21 20 29 19 true,⟨some 22,.binOp .gtr 3 (ozT 21) (ozK 0) 3,some (19,true)⟩,ozr 23 19 22,oza 16 23]
def z5s:SC:=.reg [ozm 24 2,ozm 25 0,ozm 26 2,ozh 27 26 29,ozD 28 23 25 27 32 3,ozi 29 29 24 28,ozl 30 31 29,ozs 31 8 30]
def z5r:SC:=.reg [ozm 32 9,⟨some 33,.binOp .lss 3 (ozT 32) (ozK 4) 3,none⟩,ozm 34 33,⟨some 35,.move (ozT 3),some (34,false)⟩,⟨some 36,.binOp .lss 3 (ozT 35) (ozK 1) 3,some (34,false)⟩,ozy 37 34 36,oza 31 37]
def z5q:SC:=.reg [⟨some 38,.call ⟨.value (.func 52),#[],#[]⟩,none⟩,ozs 31 8 38]
def z5p:SC:=.reg [ozm 40 9,ozY 41 3 40 4 3,ozm 42 41,ozU 43 1 42,ozW 44 43 48 42 true,⟨some 45,.binOp .gtr 3 (ozT 44) (ozK 0) 3,some (42,true)⟩,ozr 46 42 45,oza 39 46]
def z5o:SC:=.reg [ozm 47 9,ozY 48 3 47 5 3,ozm 49 48,ozU 50 1 49,ozW 51 50 48 49 true,⟨some 52,.binOp .gtr 3 (ozT 51) (ozK 0) 3,some (49,true)⟩,ozr 53 49 52,oza 39 53]
def z5n:SC:=.reg [ozm 54 1,ozm 55 0,ozm 56 1,ozh 57 56 48,ozD 58 23 55 57 32 3,ozi 59 48 54 58,ozl 60 83 59,oze 10 83,ozs 83 10 60]
def z5m:SC:=.reg [ozO 11 0 0]
def ztx:SC:=.reg [ozk 12 0]
def ztw:SC:=.reg [ozm 61 12,ozf 62 83 10 2,ozl 63 80 62,ozh 64 63 80,ozo 65 3 61 64 3]
def ztv:SC:=.reg [ozm 68 11,ozm 69 0,ozm 70 1,ozm 71 2,ozm 72 3,⟨some 73,.binOp .sub 3 (ozT 72) (ozK 1) 3,none⟩,⟨some 74,.call ⟨.value (.func 24),#[.tmp 69,.tmp 70,.tmp 71,.tmp 73],#[32,48,29,3]⟩,none⟩,ozV 75 29 1 0 74,ozQ 76 68 75 29 29,oza 11 76]
def z5y:SC:=.block 2 ztv
def ztu:SC:=.reg [ozm 66 12,ozd 67 3 66 1 3,oza 12 67]
def zlM:SC:=(.seq (.seq ztw (.cond (ozT 65) .skip (.exit 1))) (.seq z5y ztu))
def z5x:SC:=.block 1 (.loop zlM)
def ztt:SC:=.reg [ozf 77 83 10 1,ozl 78 9 77,ozm 79 11,ozD 80 53 78 79 9 29,ozs 31 8 80]
def z5w:SC:=.block 0 (.seq z5t (.cond (ozT 16) (.seq z5s .ret) (.seq z5r (.cond (ozT 31) (.seq z5q .ret) (.seq (.seq z5p (.cond (ozT 39) .skip z5o)) (.cond (ozT 39) (.seq z5n (.seq z5m (.seq (.seq ztx z5x) (.seq ztt .ret)))) .skip))))))
def zts:SC:=.reg [ozm 81 0,ozm 82 1,ozm 83 2,ozm 84 3,⟨some 85,.binOp .sub 3 (ozT 84) (ozK 1) 3,none⟩,⟨some 86,.call ⟨.value (.func 24),#[.tmp 81,.tmp 82,.tmp 83,.tmp 85],#[32,48,29,3]⟩,none⟩,oze 13 31,ozs 31 13 86]
def ztr:SC:=.draw [ozL 87 31 13,ozM 88 0,ozM 89 1,ozM 90 2,ozM 91 3,⟨some 92,.binOp .sub 3 (ozT 91) (ozK 1) 3,none,[91]⟩,⟨some 93,.call ⟨.value (.func 24),#[.tmp 88,.tmp 89,.tmp 90,.tmp 92],#[32,48,29,3]⟩,none,[88,89,90,92]⟩,ozP 94 54 87 93 31 31,ozS 31 8 94] [0,0,0,0,0,16,62,127,255]
def zQA:SC:=(.seq z5v (.seq z5u (.seq z5w (.seq zts (.seq ztr .ret)))))
theorem zJx:Tryz.f24.body.bind zz=some zQA:=by kernel_rfl
def zuy:SC:=.reg [ozb 3 31 1]
def zux:SC:=.reg [ozf 5 31 3 0,ozl 6 3 5,ozY 7 3 6 1 3]
def zuw:SC:=.draw [ozM 9 0,ozN 10 9,ozF 11 158 10 0,ozL 12 28 11,ozL 13 31 3,ozP 14 77 12 13 28 31,⟨some 15,.unOp .not 4 (ozT 14),none,[14]⟩,⟨some 8,.assign (ozT 15),none,[15]⟩] [0,1,3,7,0,31,63,127]
def zuv:SC:=.draw [ozM 16 0,ozN 17 16,ozF 18 158 17 1,ozL 19 22 18,ozF 20 31 3 2,ozL 21 3 20,ozP 22 66 19 21 22 3,⟨some 23,.unOp .not 4 (ozT 22),none,[22]⟩] [0,1,3,7,0,16,63,127]
def zuu:SC:=.draw [ozM 24 0,ozM 25 0,ozN 26 25,ozF 27 158 26 1,ozL 28 22 27,ozF 29 31 3 2,ozL 30 3 29,⟨some 31,.buildSlice 22 1 #[(0,(ozT 30))],none,[30]⟩,⟨some 32,.call ⟨.builtin .append,#[.tmp 28,.tmp 31],#[22,22]⟩,none,[28,31]⟩,ozN 33 24,ozF 34 158 33 1,ozS 22 34 32] [0,0,2,6,14,0,32,96,254,511,1023,2047]
def zut:SC:=.draw [ozM 36 0,ozN 37 36,ozF 38 158 37 2,ozL 39 156 38,ozF 40 31 3 2,ozL 41 3 40,ozI 42 156 39 41,ozL 43 4 42,⟨some 44,.unOp .not 4 (ozT 43),none,[43]⟩,⟨some 35,.assign (ozT 44),none,[44]⟩] [0,1,3,7,0,16,63,127,255,511]
def zus:SC:=.draw [ozM 45 0,ozN 46 45,ozF 47 158 46 2,ozL 48 156 47,ozF 49 31 3 2,ozL 50 3 49,ozI 51 156 48 50,⟨none,.store 4 (ozT 51) (.const (.bool true)),none,[51]⟩] [0,1,3,7,0,16,63,127]
def zur:SC:=.draw [ozM 52 0,ozM 53 0,ozN 54 53,ozF 55 158 54 0,ozF 56 28 55 0,ozL 57 25 56,ozF 58 31 3 2,ozL 59 3 58,ozI 60 25 57 59,ozF 61 62 60 1,ozL 62 31 61,ozP 63 105 52 62 155 31] [0,0,2,6,14,30,0,64,254,510,1022,2047]
def zu1:SC:=.block 0 (.seq zuw (.cond (ozT 8) (.seq zuv (.cond (ozT 23) zuu .skip)) (.seq zut (.cond (ozT 35) (.seq zus zur) .skip))))
def zuq:SC:=.reg [ozk 4 0]
def zup:SC:=.reg [ozm 64 4,ozf 65 31 3 4,ozl 66 29 65,ozh 67 66 29,ozo 68 3 64 67 3]
def zo5:SC:=.reg [ozm 71 0,ozf 72 31 3 4,ozl 73 29 72,ozm 74 4,ozi 75 29 73 74,ozl 76 31 75,ozD 77 105 71 76 155 31]
def zu0:SC:=.block 2 zo5
def zo4:SC:=.reg [ozm 69 4,ozd 70 3 69 1 3,oza 4 70]
def zed:SC:=(.seq (.seq zup (.cond (ozT 68) .skip (.exit 1))) (.seq zu0 zo4))
def zuz:SC:=.block 1 (.loop zed)
def zF2:SC:=(.seq zuy (.seq (.seq zux (.cond (ozT 7) (.seq zu1 .ret) .skip)) (.seq zuq zuz)))
theorem z9x:Tryz.f105.body.bind zz=some zF2:=by kernel_rfl
def z05:SC:=.reg [ozb 4 31 1,ozb 5 31 2,ozk 6 0]
def z04:SC:=.draw [ozM 16 0,ozN 17 16,ozF 18 95 17 0,ozL 19 74 18,ozN 20 19,ozF 21 28 20 0,ozL 22 25 21,ozF 23 31 4 2,ozL 24 3 23,ozI 25 25 22 24,ozL 26 62 25,⟨some 7,.alloc 62,none,[]⟩,ozS 62 7 26] [0,1,3,7,15,31,63,0,128,511,1023,0,4095]
def z03:SC:=.draw [ozM 27 0,ozN 28 27,ozF 29 95 28 0,ozL 30 74 29,ozN 31 30,ozL 32 28 31,ozL 33 31 5,⟨some 34,.buildSlice 29 1 #[(0,(ozT 33))],none,[33]⟩,ozP 35 100 32 34 28 29,⟨some 8,.assign (ozT 35),none,[35]⟩] [0,1,3,7,15,31,0,64,255,511]
def z02:SC:=.reg [ozl 37 31 5,ozC 38 101 37 31,ozm 36 38,ozx 39 36 0,ozx 40 36 1,ozx 41 36 2,oze 9 31,oze 10 31,ozs 31 9 39,ozs 31 10 40,oza 11 41]
def z01:SC:=.reg [ozm 43 8,ozf 44 31 4 2,ozl 45 3 44,ozD 46 102 43 45 22 3,oza 42 46]
def z00:SC:=.reg [ozk 6 12]
def z0z:SC:=.reg [ozf 48 62 7 3,ozl 49 4 48,ozm 50 49,ozU 51 11 50,ozr 52 50 51,oza 47 52]
def z0y:SC:=.reg [ozk 6 14]
def z0x:SC:=.reg [ozm 54 0,ozl 55 31 5,ozf 56 62 7 2,ozl 57 3 56,⟨some 58,.makeMap 154 none,none⟩,⟨some 59,.call ⟨.value (.func 103),#[.tmp 54,.tmp 55,.tmp 57,.tmp 58],#[93,31,3,154]⟩,none⟩,oza 53 59]
def z0w:SC:=.reg [ozk 6 13]
def z08:SC:=.block 0 (.seq z01 (.cond (ozT 42) (.seq z00 .ret) (.seq z0z (.cond (ozT 47) (.seq z0y .ret) (.seq z0x (.cond (ozT 53) (.seq z0w .ret) .skip))))))
def zsp:SC:=.reg [ozm 60 8,ozh 61 60 22,⟨some 62,.move (ozK 0),none⟩]
def zso:SC:=.reg [ozo 63 3 62 61 3]
def zsn:SC:=.reg [ozi 64 22 60 62,ozl 65 3 64,oza 13 65]
def zsm:SC:=.reg [ozm 67 0,ozm 68 13,ozC 69 104 68 3,ozD 70 73 67 69 93 31,ozm 66 70,ozx 71 66 0,ozx 72 66 1,oze 14 62,ozs 62 14 71,oza 15 72]
def zsl:SC:=.reg [ozm 73 15]
def zsk:SC:=.reg [ozf 74 62 14 2,ozl 75 3 74,ozf 76 62 7 2,ozl 77 3 76,⟨some 78,.call ⟨.builtin .min,#[.tmp 75,.tmp 77],#[3,3]⟩,none⟩,ozf 79 62 14 2,ozs 3 79 78]
def zsj:SC:=.reg [ozm 80 0,ozm 81 13,ozl 82 62 14,ozE 83 98 80 81 82 93 3 62]
def z07:SC:=.block 2 (.seq zsn (.seq zsm (.seq zsl (.cond (ozT 73) (.seq zsk zsj) .skip))))
def zsi:SC:=.reg [ozd 84 3 62 1 3,ozm 62 84]
def zdG:SC:=(.seq zso (.seq (.cond (ozT 63) .skip (.exit 1)) (.seq z07 zsi)))
def z06:SC:=.block 1 (.loop zdG)
def zsh:SC:=.reg [ozm 85 0,ozf 86 31 4 2,ozl 87 3 86,ozl 88 31 5,ozE 89 99 85 87 88 93 3 31]
def zsg:SC:=.reg [ozk 6 0]
def zMJ:SC:=(.seq z05 (.seq z04 (.seq z03 (.seq z02 (.seq z08 (.seq (.seq zsp z06) (.seq zsh (.seq zsg .ret))))))))
theorem zQQ:Tryz.f75.body.bind zz=some zMJ:=by kernel_rfl
def zzK:SC:=.reg [ozb 5 31 2]
def zzJ:SC:=.reg [ozm 7 0,ozn 8 7,ozf 9 95 8 0,ozl 10 74 9,ozn 11 10,ozf 12 28 11 0,ozl 13 25 12,ozm 14 1,ozi 15 25 13 14,ozl 16 62 15,oze 6 62,ozs 62 6 16]
def zzI:SC:=.draw [ozL 17 31 5,ozF 18 62 6 0,⟨none,.store 4 (ozT 18) (.const (.bool true)),none,[18]⟩,ozF 19 62 6 1,ozS 31 19 17] [0,0,2,7,15]
def zzH:SC:=.reg [ozm 20 0,ozm 21 1,ozl 22 62 6,ozE 23 98 20 21 22 93 3 62]
def zMH:SC:=(.seq zzK (.seq zzJ (.seq zzI zzH)))
theorem zQL:Tryz.f99.body.bind zz=some zMH:=by kernel_rfl
def zuE:SC:=.reg [ozb 4 93 0,ozb 5 31 1,ozb 6 3 2,ozb 7 154 3,ozg 8 false]
def zuD:SC:=.reg [ozf 9 31 5 0,ozl 10 3 9,ozY 11 3 10 1 3]
def zuC:SC:=.reg [ozl 12 154 7,ozf 13 31 5 2,ozl 14 3 13,⟨some 15,.lookup 154 (ozT 12) (ozT 14) false,none⟩]
def zuB:SC:=.reg [ozg 8 false]
def zuA:SC:=.reg [ozl 16 154 7,ozf 17 31 5 2,ozl 18 3 17,⟨none,.mapUpdate 154 (ozT 16) (ozT 18) (.const (.bool true)),none⟩]
def zu9:SC:=.draw [ozF 19 31 5 2,ozL 20 3 19,⟨some 21,.binOp .lss 3 (ozT 20) (ozK 0) 3,none,[20]⟩,ozM 22 21,ozH 23 31 5 2 22 false,ozG 24 3 23 22 false,ozG 25 93 4 22 false,⟨some 26,.nilCheck (ozT 25),some (22,false),[25,22]⟩,ozH 27 95 26 0 22 false,ozG 28 74 27 22 false,⟨some 29,.nilCheck (ozT 28),some (22,false),[28,22]⟩,ozH 30 28 29 0 22 false,ozG 31 25 30 22 false,⟨some 32,.call ⟨.builtin .len,#[.tmp 31],#[25]⟩,some (22,false),[31,22]⟩,⟨some 33,.binOp .geq 3 (ozT 24) (ozT 32) 3,some (22,false),[24,32,22]⟩,ozX 34 22 33] [0,1,3,7,15,31,15,79,207,463,975,1999,4047,8143,16383,32767]
def zu8:SC:=.reg [ozl 35 3 6,⟨some 36,.binOp .gtr 3 (ozK 0) (ozT 35) 3,none⟩,oza 8 36]
def zu7:SC:=.draw [ozL 37 93 4,ozN 38 37,ozF 39 95 38 0,ozL 40 74 39,ozN 41 40,ozF 42 28 41 0,ozL 43 25 42,ozF 44 31 5 2,ozL 45 3 44,ozI 46 25 43 45,ozF 47 62 46 0,ozL 48 4 47,ozM 49 48,ozG 50 93 4 49 true,ozG 51 93 4 49 true,⟨some 52,.nilCheck (ozT 51),some (49,true),[51,49]⟩,ozH 53 95 52 0 49 true,ozG 54 74 53 49 true,⟨some 55,.nilCheck (ozT 54),some (49,true),[54,49]⟩,ozH 56 28 55 0 49 true,ozG 57 25 56 49 true,ozH 58 31 5 2 49 true,ozG 59 3 58 49 true,⟨some 60,.indexAddr 25 (ozT 57) (ozT 59),some (49,true),[57,59,49]⟩,ozH 61 62 60 1 49 true,ozG 62 31 61 49 true,ozG 63 3 6 49 true,ozG 64 154 7 49 true,⟨some 65,.call ⟨.value (.func 103),#[.tmp 50,.tmp 62,.tmp 63,.tmp 64],#[93,31,3,154]⟩,some (49,true),[50,62,63,64,49]⟩,⟨some 66,.pick (ozT 49) (ozT 65) (.const (.bool false)),none,[49,65]⟩,⟨some 8,.assign (ozT 66),none,[66]⟩] [0,1,3,7,15,31,63,0,128,511,1023,2047,4095,8191,8191,24575,57343,122879,253951,516095,1040383,8191,2105343,8380415,16769023,33546239,8191,8191,268435455,536870911,1073741823]
def zu6:SC:=.reg [ozf 67 31 5 0,ozl 68 3 67,ozY 69 3 68 3 3]
def zu5:SC:=.reg [ozf 70 31 5 3,ozl 71 3 70,ozl 72 3 6,⟨some 73,.binOp .gtr 3 (ozT 71) (ozT 72) 3,none⟩,oza 8 73]
def zo6:SC:=.reg [ozf 74 31 5 4,ozl 75 29 74,⟨some 76,.makeFunc (.func 128) #[] #[.tmp 4,.tmp 6,.tmp 7],none⟩,ozD 77 127 75 76 29 75,oza 8 77]
def z9v:SC:=(.seq zuE (.seq (.seq zuD (.cond (ozT 11) (.seq (.seq zuC (.cond (ozT 15) (.seq zuB .ret) .skip)) (.seq zuA (.seq (.seq zu9 (.cond (ozT 34) (.seq zu8 .ret) .skip)) (.seq zu7 .ret)))) .skip)) (.seq (.seq zu6 (.cond (ozT 69) (.seq zu5 .ret) .skip)) (.seq zo6 .ret))))
theorem z9y:Tryz.f103.body.bind zz=some z9v:=by kernel_rfl
def ztA:SC:=.reg [ozb 4 31 0,ozg 5 false]
def zt9:SC:=.reg [ozl 6 93 1,ozl 7 31 4,ozl 8 3 2,ozl 9 154 3,⟨some 10,.call ⟨.value (.func 103),#[.tmp 6,.tmp 7,.tmp 8,.tmp 9],#[93,31,3,154]⟩,none⟩,oza 5 10]
def z9t:SC:=(.seq ztA (.seq zt9 .ret))
theorem zF8:Tryz.f128.body.bind zz=some z9t:=by kernel_rfl
def z0F:SC:=.reg [ozb 4 31 1,ozb 5 31 2]
def z0E:SC:=.reg [ozf 8 31 4 2,ozl 9 3 8,ozf 10 31 5 2,ozl 11 3 10,⟨some 12,.binOp .gtr 3 (ozT 9) (ozT 11) 3,none⟩]
def z0D:SC:=.reg [ozl 13 31 5,ozl 14 31 4,ozs 31 4 13,ozs 31 5 14]
def z0C:SC:=.draw [ozM 15 0,ozN 16 15,ozF 17 95 16 0,ozL 18 74 17,ozN 19 18,ozF 20 28 19 0,ozL 21 25 20,ozF 22 31 4 2,ozL 23 3 22,ozI 24 25 21 23,ozL 25 62 24,ozM 26 0,ozN 27 26,ozF 28 95 27 0,ozL 29 74 28,ozN 30 29,ozF 31 28 30 0,ozL 32 25 31,ozF 33 31 5 2,ozL 34 3 33,ozI 35 25 32 34,ozL 36 62 35,⟨some 6,.alloc 62,none,[]⟩,⟨some 7,.alloc 62,none,[]⟩,ozS 62 6 25,ozS 62 7 36] [0,1,3,7,15,31,63,0,128,511,1023,0,2048,6144,14336,30720,63488,129024,0,262144,1046528,2095104,0,0,12584959,33554431]
def z0B:SC:=.draw [ozF 37 62 6 2,ozL 38 3 37,ozF 39 62 7 2,ozL 40 3 39,⟨some 41,.call ⟨.builtin .min,#[.tmp 38,.tmp 40],#[3,3]⟩,none,[38,40]⟩,ozF 42 62 6 3,ozL 43 4 42,ozM 44 43,ozH 45 62 7 3 44 false,ozG 46 4 45 44 false,ozX 47 44 46,ozF 48 62 6 2,ozS 3 48 41,ozF 49 62 6 3,ozS 4 49 47] [0,1,0,4,15,0,32,96,224,480,992,127,2303,8191,16383]
def z0A:SC:=.reg [ozm 50 0,ozf 51 31 4 2,ozl 52 3 51,ozl 53 62 6,ozE 54 98 50 52 53 93 3 62]
def z09:SC:=.reg [ozm 55 0,ozf 56 31 5 2,ozl 57 3 56,ozl 58 31 4,ozE 59 99 55 57 58 93 3 31]
def zJr:SC:=(.seq z0F (.seq (.seq z0E (.cond (ozT 12) z0D .skip)) (.seq z0C (.seq z0B (.seq z0A z09)))))
theorem zQR:Tryz.f74.body.bind zz=some zJr:=by kernel_rfl
def z2g:SC:=.reg [ozb 3 97 1,ozO 4 0 0,ozk 5 0]
def z2f:SC:=.draw [ozF 14 97 3 0,ozL 15 31 14,ozF 16 97 3 1,ozL 17 31 16,⟨some 6,.alloc 31,none,[]⟩,⟨some 7,.alloc 31,none,[]⟩,ozS 31 6 15,ozS 31 7 17] [0,1,0,4,0,0,51,127]
def z2e:SC:=.draw [ozM 18 0,ozN 19 18,ozF 20 95 19 0,ozL 21 74 20,ozN 22 21,ozL 23 28 22,ozL 24 31 6,⟨some 25,.call ⟨.value (.func 44),#[.tmp 23,.tmp 24,(ozK 200)],#[28,31,3]⟩,none,[23,24]⟩,⟨some 26,.binOp .gtr 3 (ozT 25) (ozK 200) 3,none,[25]⟩,ozM 27 26,⟨some 28,.move (ozT 0),some (27,false),[0,27]⟩,⟨some 29,.nilCheck (ozT 28),some (27,false),[28,27]⟩,ozH 30 95 29 0 27 false,ozG 31 74 30 27 false,⟨some 32,.nilCheck (ozT 31),some (27,false),[31,27]⟩,ozG 33 28 32 27 false,ozG 34 31 7 27 false,⟨some 35,.call ⟨.value (.func 44),#[.tmp 33,.tmp 34,(ozK 200)],#[28,31,3]⟩,some (27,false),[33,34,27]⟩,⟨some 36,.binOp .gtr 3 (ozT 35) (ozK 200) 3,some (27,false),[35,27]⟩,ozX 37 27 36] [0,1,3,7,15,31,0,127,255,511,1023,2047,4095,8191,16383,32767,1023,131071,262143,524287]
def z2d:SC:=.reg [ozO 4 0 0,ozk 5 15]
def z2c:SC:=.draw [ozM 38 0,ozN 39 38,ozF 40 95 39 0,ozL 41 74 40,ozN 42 41,ozL 43 28 42,ozL 44 31 6,ozP 45 67 43 44 28 31,ozM 46 0,ozN 47 46,ozF 48 95 47 0,ozL 49 74 48,ozN 50 49,ozL 51 28 50,ozL 52 31 7,ozP 53 67 51 52 28 31,ozS 31 6 45,ozS 31 7 53] [0,1,3,7,15,31,0,127,0,256,768,1792,3840,7936,0,32767,65535,131071]
def z2a:SC:=.reg [ozm 55 0,ozl 56 31 6,ozD 57 73 55 56 93 31,ozm 54 57,ozx 58 54 0,ozx 59 54 1,oze 8 62,ozs 62 8 58,oza 9 59]
def z1Z:SC:=.reg [ozm 61 0,ozl 62 31 7,ozD 63 73 61 62 93 31,ozm 60 63,ozx 64 60 0,ozx 65 60 1,oze 10 62,ozs 62 10 64,oza 11 65]
def z1Y:SC:=.reg [ozf 67 31 6 0,ozl 68 3 67,ozY 69 3 68 1 3,ozm 70 69,ozu 71 31 7 0 70,ozp 72 3 71 70,⟨some 73,.binOp .eql 3 (ozT 72) (ozK 1) 3,some (70,true)⟩,ozr 74 70 73,ozm 75 74,ozu 76 31 6 2 75,ozp 77 3 76 75,ozu 78 31 7 2 75,ozp 79 3 78 75,⟨some 80,.binOp .eql 3 (ozT 77) (ozT 79) 3,some (75,true)⟩,ozr 81 75 80,oza 66 81]
def z1X:SC:=.reg [ozO 4 0 0,ozk 5 0]
def z1W:SC:=.reg [ozm 83 9,ozm 84 83,ozU 85 11 84,ozr 86 84 85,oza 82 86]
def zsP:SC:=.reg [ozm 87 0,ozl 88 31 6,ozl 89 31 7,ozE 90 74 87 88 89 93 31 31]
def zsO:SC:=.reg [ozO 4 0 0,ozk 5 0]
def zsN:SC:=.reg [ozm 92 9,oza 91 92]
def zsM:SC:=.reg [ozm 93 0,ozl 94 31 6,ozl 95 31 7,ozE 96 75 93 94 95 93 31 31,ozO 4 0 0,oza 5 96]
def zsL:SC:=.reg [ozm 98 11,oza 97 98]
def zsK:SC:=.reg [ozm 99 0,ozl 100 31 7,ozl 101 31 6,ozE 102 75 99 100 101 93 31 31,ozO 4 0 0,oza 5 102]
def zsJ:SC:=.reg [ozf 104 31 6 0,ozl 105 3 104,ozf 106 31 7 0,ozl 107 3 106,⟨some 108,.binOp .neq 3 (ozT 105) (ozT 107) 3,none⟩,ozm 109 108,ozv 110 31 6 1 109,ozq 111 9 110 109,ozv 112 31 7 1 109,ozq 113 9 112 109,ozR 114 9 111 113 9 109,ozy 115 109 114,ozm 116 115,ozv 117 31 6 2 116,ozq 118 3 117 116,ozv 119 31 7 2 116,ozq 120 3 119 116,ozR 121 3 118 120 3 116,ozy 122 116 121,ozm 123 122,ozv 124 31 6 3 123,ozq 125 3 124 123,ozv 126 31 7 3 123,ozq 127 3 126 123,ozR 128 3 125 127 3 123,ozy 129 123 128,ozm 130 129,ozv 131 31 6 4 130,ozq 132 29 131 130,ozW 133 132 29 130 false,ozv 134 31 7 4 130,ozq 135 29 134 130,ozW 136 135 29 130 false,ozR 137 3 133 136 3 130,ozy 138 130 137,oza 103 138]
def zsI:SC:=.reg [ozO 4 0 0,ozk 5 11]
def z2j:SC:=.block 0 (.seq z1Y (.cond (ozT 66) (.seq z1X .ret) (.seq z1W (.cond (ozT 82) (.seq zsP (.seq zsO .ret)) (.seq zsN (.cond (ozT 91) (.seq zsM .ret) (.seq zsL (.cond (ozT 97) (.seq zsK .ret) (.seq zsJ (.cond (ozT 103) (.seq zsI .ret) .skip))))))))))
def zsH:SC:=.reg [ozf 139 31 6 4,ozl 140 29 139,ozh 141 140 29,⟨some 142,.makeSlice 98 (ozT 141) (ozT 141),none⟩,oza 12 142]
def zsG:SC:=.reg [ozm 143 12,ozh 144 143 98,⟨some 145,.move (ozK 0),none⟩]
def zsF:SC:=.reg [ozo 146 3 145 144 3]
def zsE:SC:=.reg [ozm 147 145,oza 13 147]
def zsD:SC:=.draw [ozM 148 12,ozM 149 13,ozF 150 31 6 4,ozL 151 29 150,ozM 152 13,ozI 153 29 151 152,ozL 154 31 153,ozF 155 31 7 4,ozL 156 29 155,ozM 157 13,ozI 158 29 156 157,ozL 159 31 158,⟨some 160,.build 97 #[(0,(ozT 154)),(1,(ozT 159))],none,[154,159]⟩,ozI 161 98 148 149,ozS 97 161 160] [0,0,0,4,0,28,60,0,128,0,896,1920,4092,8191,16383]
def z2i:SC:=.block 2 (.seq zsE zsD)
def zsC:SC:=.reg [ozd 162 3 145 1 3,ozm 145 162]
def zhL:SC:=(.seq zsF (.seq (.cond (ozT 146) .skip (.exit 1)) (.seq z2i zsC)))
def z2h:SC:=.block 1 (.loop zhL)
def zsB:SC:=.reg [ozm 163 12,oza 4 163,ozk 5 0]
def zJs:SC:=(.seq z2g (.seq z2f (.seq (.seq z2e (.cond (ozT 37) (.seq z2d .ret) .skip)) (.seq z2c (.seq z2a (.seq z1Z (.seq z2j (.seq zsH (.seq (.seq zsG z2h) (.seq zsB .ret))))))))))
theorem zMO:Tryz.f57.body.bind zz=some zJs:=by kernel_rfl
def zzP:SC:=.reg [ozb 5 62 2]
def zzO:SC:=.reg [ozm 7 0,ozn 8 7,ozf 9 95 8 0,ozl 10 74 9,ozn 11 10,ozf 12 28 11 0,ozl 13 25 12,ozm 14 1,ozi 15 25 13 14,ozl 16 62 15,oze 6 62,ozs 62 6 16]
def zzN:SC:=.reg [ozf 17 62 6 0,ozl 18 4 17,ozf 19 62 5 0,ozl 20 4 19,⟨some 21,.binOp .neq 4 (ozT 18) (ozT 20) 4,none⟩,ozm 22 21,ozv 23 62 6 2 22,ozq 24 3 23 22,ozv 25 62 5 2 22,ozq 26 3 25 22,ozR 27 3 24 26 3 22,ozy 28 22 27,ozm 29 28,ozv 30 62 6 3 29,ozq 31 4 30 29,ozv 32 62 5 3 29,ozq 33 4 32 29,ozR 34 4 31 33 4 29,ozy 35 29 34]
def zzM:SC:=.draw [ozM 36 0,ozN 37 36,ozF 38 95 37 0,ozL 39 74 38,ozM 40 0,ozN 41 40,ozF 42 95 41 0,ozL 43 74 42,ozN 44 43,ozF 45 28 44 1,ozL 46 26 45,ozM 47 1,ozL 48 62 6,⟨some 49,.build 72 #[(0,(ozT 47)),(1,(ozT 48))],none,[47,48]⟩,⟨some 50,.buildSlice 26 1 #[(0,(ozT 49))],none,[49]⟩,⟨some 51,.call ⟨.builtin .append,#[.tmp 46,.tmp 50],#[26,26]⟩,none,[46,50]⟩,ozN 52 39,ozF 53 28 52 1,ozS 26 53 51] [0,1,3,7,0,16,48,112,240,496,1008,0,0,6144,14336,32752,65535,131071,262143]
def zzL:SC:=.draw [ozM 54 0,ozN 55 54,ozF 56 95 55 0,ozL 57 74 56,ozN 58 57,ozF 59 28 58 0,ozL 60 25 59,ozM 61 1,ozL 62 62 5,ozI 63 25 60 61,ozS 62 63 62] [0,1,3,7,15,31,63,0,0,511,1023]
def zMI:SC:=(.seq zzP (.seq zzO (.seq zzN (.cond (ozT 35) (.seq zzM zzL) .skip))))
theorem zQM:Tryz.f98.body.bind zz=some zMI:=by kernel_rfl
def z0J:SC:=.reg [ozb 3 31 1,oze 4 62,ozg 5 false]
def z0I:SC:=.draw [ozF 6 31 3 0,ozL 7 3 6,⟨some 8,.binOp .neq 3 (ozT 7) (ozK 1) 3,none,[7]⟩,ozM 9 8,ozH 10 31 3 2 9 false,ozG 11 3 10 9 false,⟨some 12,.binOp .lss 3 (ozT 11) (ozK 0) 3,some (9,false),[11,9]⟩,ozX 13 9 12,ozM 14 13,ozH 15 31 3 2 14 false,ozG 16 3 15 14 false,⟨some 17,.move (ozT 0),some (14,false),[0,14]⟩,⟨some 18,.nilCheck (ozT 17),some (14,false),[17,14]⟩,ozH 19 95 18 0 14 false,ozG 20 74 19 14 false,⟨some 21,.nilCheck (ozT 20),some (14,false),[20,14]⟩,ozH 22 28 21 0 14 false,ozG 23 25 22 14 false,⟨some 24,.call ⟨.builtin .len,#[.tmp 23],#[25]⟩,some (14,false),[23,14]⟩,⟨some 25,.binOp .geq 3 (ozT 16) (ozT 24) 3,some (14,false),[16,24,14]⟩,ozX 26 14 25,ozM 27 26,⟨some 28,.move (ozT 0),some (27,false),[0,27]⟩,⟨some 29,.nilCheck (ozT 28),some (27,false),[28,27]⟩,ozH 30 95 29 0 27 false,ozG 31 74 30 27 false,⟨some 32,.nilCheck (ozT 31),some (27,false),[31,27]⟩,ozH 33 28 32 0 27 false,ozG 34 25 33 27 false,ozH 35 31 3 2 27 false,ozG 36 3 35 27 false,⟨some 37,.indexAddr 25 (ozT 34) (ozT 36),some (27,false),[34,36,27]⟩,ozH 38 62 37 0 27 false,ozG 39 4 38 27 false,ozX 40 27 39] [0,1,3,7,15,31,63,127,255,511,1023,511,2559,6655,14847,31231,63999,129535,260607,524287,1048575,2097151,4194303,8388607,16777215,33554431,67108863,134217727,268435455,4194303,541065215,2147483647,4294967295,8589934591,17179869183]
def z0H:SC:=.reg [⟨some 41,.build 62 #[],none⟩,ozs 62 4 41,ozg 5 false]
def z0G:SC:=.draw [ozM 42 0,ozN 43 42,ozF 44 95 43 0,ozL 45 74 44,ozN 46 45,ozF 47 28 46 0,ozL 48 25 47,ozF 49 31 3 2,ozL 50 3 49,ozI 51 25 48 50,ozL 52 62 51,ozS 62 4 52,⟨some 5,.assign (.const (.bool true)),none,[]⟩] [0,1,3,7,15,31,63,0,128,511,1023,2047,4095]
def zMK:SC:=(.seq z0J (.seq (.seq z0I (.cond (ozT 40) (.seq z0H .ret) .skip)) (.seq z0G .ret)))
theorem zQS:Tryz.f73.body.bind zz=some zMK:=by kernel_rfl
def z1V:SC:=.reg [ozb 1 98 0,⟨some 2,.assign (.const .nilFunc),none⟩]
def z1U:SC:=.reg [⟨some 3,.makeFunc (.func 76) #[] #[.tmp 1],none⟩,oza 2 3]
def zQn:SC:=(.seq z1V (.seq z1U .ret))
theorem zRa:Tryz.f58.body.bind zz=some zQn:=by kernel_rfl
def zFj:SC:=.reg [ozl 4 98 1,ozh 5 4 98,⟨some 6,.binOp .sub 3 (ozT 5) (ozK 1) 3,none⟩,oza 3 6]
def zFi:SC:=.reg [ozm 7 3,⟨some 8,.binOp .geq 3 (ozT 7) (ozK 0) 3,none⟩]
def zFh:SC:=.reg [ozm 11 0,ozm 12 3,ozl 13 98 1,ozm 14 3,ozi 15 98 13 14,ozl 16 97 15,⟨some 17,.call ⟨.value (ozT 11),#[.tmp 12,.tmp 16],#[3,97]⟩,none⟩,⟨some 18,.unOp .not 4 (ozT 17),none⟩]
def zFm:SC:=.block 1 (.seq zFh (.cond (ozT 18) .ret .skip))
def zFg:SC:=.reg [ozm 9 3,⟨some 10,.binOp .sub 3 (ozT 9) (ozK 1) 3,none⟩,oza 3 10]
def zFk:SC:=(.seq (.seq zFi (.cond (ozT 8) .skip (.exit 0))) (.seq zFm zFg))
def zFl:SC:=.block 0 (.loop zFk)
def zSS:SC:=(.seq zFj zFl)
theorem zST:Tryz.f76.body.bind zz=some zSS:=by kernel_rfl
def z4d:SC:=.reg [ozO 2 0 0]
def z4c:SC:=.reg [ozm 3 0,ozm 4 0,ozh 5 4 26,ozm 6 0,ozh 7 6 26,⟨some 8,.slice 26 (ozT 3) none (some (ozT 5)) (some (ozT 7)),none⟩,oza 2 8]
def zQ0:SC:=(.seq z4d (.seq z4c .ret))
theorem zRh:Tryz.f36.body.bind zz=some zQ0:=by kernel_rfl
def z3N:SC:=.reg [ozO 2 0 0]
def z3M:SC:=.reg [ozm 3 0,ozm 4 0,ozh 5 4 25,ozm 6 0,ozh 7 6 25,⟨some 8,.slice 25 (ozT 3) none (some (ozT 5)) (some (ozT 7)),none⟩,oza 2 8]
def zQz:SC:=(.seq z3N (.seq z3M .ret))
theorem zRg:Tryz.f38.body.bind zz=some zQz:=by kernel_rfl
def z4h:SC:=.reg [ozO 2 0 0]
def z4g:SC:=.reg [ozm 3 0,⟨some 4,.binOp .eql 25 (ozT 3) (.const (.slice none 0 0)) 25,none⟩]
def z4f:SC:=.reg [ozO 2 0 0]
def z4e:SC:=.reg [⟨some 5,.buildSlice 25 0 #[],none⟩,ozm 6 0,ozQ 7 5 6 25 25,oza 2 7]
def zQ1:SC:=(.seq z4h (.seq (.seq z4g (.cond (ozT 4) (.seq z4f .ret) .skip)) (.seq z4e .ret)))
theorem zRi:Tryz.f35.body.bind zz=some zQ1:=by kernel_rfl
def ztC:SC:=.reg [ozg 4 false]
def ztB:SC:=.reg [ozm 5 0,ozm 6 1,ozD 7 140 5 6 29 75,⟨some 8,.binOp .geq 3 (ozT 7) (ozK 0) 3,none⟩,oza 4 8]
def z9u:SC:=(.seq ztC (.seq ztB .ret))
theorem zF9:Tryz.f127.body.bind zz=some z9u:=by kernel_rfl
def zuG:SC:=.reg [ozg 4 false]
def zuF:SC:=.reg [ozm 5 0,ozm 6 1,ozD 7 126 5 6 22 3,⟨some 8,.binOp .geq 3 (ozT 7) (ozK 0) 3,none⟩,oza 4 8]
def zF4:SC:=(.seq zuG (.seq zuF .ret))
theorem zFF:Tryz.f102.body.bind zz=some zF4:=by kernel_rfl
def zt6:SC:=.reg [ozk 4 0]
def zt5:SC:=.reg [ozm 6 0,ozh 7 6 29,⟨some 8,.move (ozK 0),none⟩]
def zt4:SC:=.reg [ozo 9 3 8 7 3]
def zt3:SC:=.reg [ozm 10 8,oza 5 10]
def zt2:SC:=.reg [ozm 11 1,ozm 12 0,ozm 13 5,ozi 14 29 12 13,ozl 15 31 14,⟨some 16,.call ⟨.value (ozT 11),#[.tmp 15],#[31]⟩,none⟩]
def zt1:SC:=.reg [ozm 17 5,oza 4 17]
def zt8:SC:=.block 1 (.seq zt3 (.seq zt2 (.cond (ozT 16) (.seq zt1 .ret) .skip)))
def zt0:SC:=.reg [ozd 18 3 8 1 3,ozm 8 18]
def zeX:SC:=(.seq zt4 (.seq (.cond (ozT 9) .skip (.exit 0)) (.seq zt8 zt0)))
def zt7:SC:=.block 0 (.loop zeX)
def ztz:SC:=.reg [⟨some 4,.assign (.const (.int .i64 (-1))),none⟩]
def z9s:SC:=(.seq zt6 (.seq (.seq zt5 zt7) (.seq ztz .ret)))
theorem zF7:Tryz.f140.body.bind zz=some z9s:=by kernel_rfl
def ztK:SC:=.reg [ozk 4 0]
def ztJ:SC:=.reg [ozm 6 0,ozh 7 6 22,⟨some 8,.move (ozK 0),none⟩]
def ztI:SC:=.reg [ozo 9 3 8 7 3]
def ztH:SC:=.reg [ozm 10 8,oza 5 10]
def ztG:SC:=.reg [ozm 11 1,ozm 12 0,ozm 13 5,ozi 14 22 12 13,ozl 15 3 14,⟨some 16,.binOp .eql 3 (ozT 11) (ozT 15) 3,none⟩]
def ztF:SC:=.reg [ozm 17 5,oza 4 17]
def ztM:SC:=.block 1 (.seq ztH (.seq ztG (.cond (ozT 16) (.seq ztF .ret) .skip)))
def ztE:SC:=.reg [ozd 18 3 8 1 3,ozm 8 18]
def zkk:SC:=(.seq ztI (.seq (.cond (ozT 9) .skip (.exit 0)) (.seq ztM ztE)))
def ztL:SC:=.block 0 (.loop zkk)
def ztD:SC:=.reg [⟨some 4,.assign (.const (.int .i64 (-1))),none⟩]
def zFx:SC:=(.seq ztK (.seq (.seq ztJ ztL) (.seq ztD .ret)))
theorem zFA:Tryz.f126.body.bind zz=some zFx:=by kernel_rfl
def z3s:SC:=.reg [ozb 3 28 0,ozb 4 31 1,ozk 6 0]
def z3r:SC:=.reg [ozm 10 2,⟨some 11,.call ⟨.builtin .max,#[.tmp 10,(ozK 0)],#[3,3]⟩,none⟩,oza 2 11]
def z3q:SC:=.reg [ozk 7 1]
def z3p:SC:=.reg [ozl 12 28 3,ozl 13 31 4,ozD 14 67 12 13 28 31,⟨some 15,.field 31 (ozT 14) 4,none⟩,ozh 16 15 29,⟨some 17,.move (ozK 0),none⟩]
def z3o:SC:=.reg [ozo 18 3 17 16 3]
def z3n:SC:=.reg [ozi 19 29 15 17,ozl 20 31 19,oze 9 31,ozs 31 9 20]
def z3m:SC:=.reg [ozm 21 7,ozm 22 2,⟨some 23,.binOp .gtr 3 (ozT 21) (ozT 22) 3,none⟩]
def z3l:SC:=.reg [ozm 24 7,ozl 25 28 3,ozl 26 31 9,ozm 27 2,ozm 28 7,⟨some 29,.binOp .sub 3 (ozT 27) (ozT 28) 3,none⟩,ozE 30 44 25 26 29 28 31 3,⟨some 31,.binOp .add 3 (ozT 24) (ozT 30) 3,none⟩,oza 7 31]
def z3u:SC:=.block 1 (.seq z3n (.seq (.seq z3m (.cond (ozT 23) (.exit 0) .skip)) z3l))
def z3k:SC:=.reg [ozd 32 3 17 1 3,ozm 17 32]
def zlI:SC:=(.seq z3o (.seq (.cond (ozT 18) .skip (.exit 0)) (.seq z3u z3k)))
def z3t:SC:=.block 0 (.loop zlI)
def z3j:SC:=.reg [ozm 33 7,ozm 34 2,⟨some 35,.binOp .gtr 3 (ozT 33) (ozT 34) 3,none⟩]
def zsV:SC:=.reg [ozm 36 2,ozd 37 3 36 1 3,oza 6 37]
def zsU:SC:=.reg [ozm 38 7,oza 6 38]
def zQw:SC:=(.seq z3s (.seq z3r (.seq z3q (.seq (.seq z3p z3t) (.seq (.seq z3j (.cond (ozT 35) (.seq zsV .ret) .skip)) (.seq zsU .ret))))))
theorem zJv:Tryz.f44.body.bind zz=some zQw:=by kernel_rfl
def zuU:SC:=.reg [ozb 2 28 0,ozO 4 0 0]
def zuT:SC:=.reg [oze 5 22]
def zuS:SC:=.reg [⟨some 10,.makeMap 154 none,none⟩,oze 6 154,ozs 154 6 10]
def zuR:SC:=.reg [oze 7 159]
def zuQ:SC:=.reg [⟨some 11,.makeFunc (.func 125) #[] #[.tmp 6,.tmp 2,.tmp 5,.tmp 7],none⟩,ozs 159 7 11]
def zuP:SC:=.reg [ozm 12 1,ozh 13 12 29,⟨some 14,.move (ozK 0),none⟩]
def zuO:SC:=.reg [ozo 15 3 14 13 3]
def zuN:SC:=.reg [ozi 16 29 12 14,ozl 17 31 16,oze 9 31,ozs 31 9 17]
def zuM:SC:=.reg [ozl 18 159 7,ozl 19 31 9,⟨some 20,.call ⟨.value (ozT 18),#[.tmp 19],#[31]⟩,none⟩]
def zuW:SC:=.block 1 (.seq zuN zuM)
def zuL:SC:=.reg [ozd 21 3 14 1 3,ozm 14 21]
def zgg:SC:=(.seq zuO (.seq (.cond (ozT 15) .skip (.exit 0)) (.seq zuW zuL)))
def zuV:SC:=.block 0 (.loop zgg)
def zo7:SC:=.reg [ozl 22 22 5,oza 4 22]
def zF6:SC:=(.seq zuU (.seq zuT (.seq zuS (.seq zuR (.seq zuQ (.seq (.seq zuP zuV) (.seq zo7 .ret)))))))
theorem zFH:Tryz.f100.body.bind zz=some zF6:=by kernel_rfl
def ztW:SC:=.reg [ozb 5 31 0]
def ztV:SC:=.reg [ozf 8 31 5 0,ozl 9 3 8,ozY 10 3 9 1 3]
def ztU:SC:=.reg [ozl 11 154 1,ozf 12 31 5 2,ozl 13 3 12,⟨some 14,.lookup 154 (ozT 11) (ozT 13) false,none⟩]
def ztT:SC:=.reg [ozl 15 154 1,ozf 16 31 5 2,ozl 17 3 16,⟨none,.mapUpdate 154 (ozT 15) (ozT 17) (.const (.bool true)),none⟩]
def ztS:SC:=.reg [ozl 18 28 2,ozl 19 31 5,ozD 20 84 18 19 28 31,⟨some 21,.unOp .not 4 (ozT 20),none⟩]
def ztR:SC:=.reg [ozl 22 22 3,ozf 23 31 5 2,ozl 24 3 23,ozV 25 22 1 0 24,ozQ 26 22 25 22 22,ozs 22 3 26]
def ztQ:SC:=.reg [ozf 27 28 2 0,ozl 28 25 27,ozf 29 31 5 2,ozl 30 3 29,ozi 31 25 28 30,ozf 32 62 31 1,ozl 33 31 32,ozs 31 5 33]
def ztP:SC:=.reg [ozf 34 31 5 0,ozl 35 3 34,ozY 36 3 35 1 3]
def ztO:SC:=.reg [ozl 37 159 4,ozl 38 31 5,⟨some 39,.call ⟨.value (ozT 37),#[.tmp 38],#[31]⟩,none⟩]
def ztN:SC:=.reg [ozf 40 31 5 4,ozl 41 29 40,ozh 42 41 29,⟨some 43,.move (ozK 0),none⟩]
def zo3:SC:=.reg [ozo 44 3 43 42 3]
def zo2:SC:=.reg [ozi 45 29 41 43,ozl 46 31 45,oze 7 31,ozs 31 7 46]
def zo1:SC:=.reg [ozl 47 159 4,ozl 48 31 7,⟨some 49,.call ⟨.value (ozT 47),#[.tmp 48],#[31]⟩,none⟩]
def ztY:SC:=.block 1 (.seq zo2 zo1)
def zo0:SC:=.reg [ozd 50 3 43 1 3,ozm 43 50]
def zec:SC:=(.seq zo3 (.seq (.cond (ozT 44) .skip (.exit 0)) (.seq ztY zo0)))
def ztX:SC:=.block 0 (.loop zec)
def zFy:SC:=(.seq ztW (.seq (.seq ztV (.cond (ozT 10) (.seq (.seq ztU (.cond (ozT 14) .ret .skip)) (.seq ztT (.seq (.seq ztS (.cond (ozT 21) (.seq ztR .ret) .skip)) (.seq ztQ (.seq ztP (.cond (ozT 36) (.seq ztO .ret) .skip)))))) .skip)) (.seq ztN ztX)))
theorem z9w:Tryz.f125.body.bind zz=some zFy:=by kernel_rfl
def z0S:SC:=.reg [ozb 2 28 0,ozb 3 31 1,oze 4 31]
def z0R:SC:=.reg [ozf 5 28 2 0,ozl 6 25 5,ozh 7 6 25,⟨some 8,.move (ozK 0),none⟩]
def z0Q:SC:=.reg [ozo 9 3 8 7 3]
def z0P:SC:=.reg [ozl 10 28 2,ozl 11 31 3,ozD 12 84 10 11 28 31,⟨some 13,.unOp .not 4 (ozT 12),none⟩]
def z0O:SC:=.reg [ozf 14 28 2 0,ozl 15 25 14,ozf 16 31 3 2,ozl 17 3 16,ozi 18 25 15 17,ozf 19 62 18 1,ozl 20 31 19,ozs 31 3 20]
def z0U:SC:=.block 1 (.seq (.seq z0P (.cond (ozT 13) (.exit 0) .skip)) z0O)
def z0N:SC:=.reg [ozd 21 3 8 1 3,ozm 8 21]
def zeb:SC:=(.seq z0Q (.seq (.cond (ozT 9) .skip (.exit 0)) (.seq z0U z0N)))
def z0T:SC:=.block 0 (.loop zeb)
def z0M:SC:=.reg [ozl 22 31 3,ozs 31 4 22]
def zML:SC:=(.seq z0S (.seq (.seq z0R z0T) (.seq z0M .ret)))
theorem zJu:Tryz.f67.body.bind zz=some zML:=by kernel_rfl
def z0d:SC:=.reg [ozb 2 28 0,ozb 3 31 1,ozg 4 false]
def z0c:SC:=.reg [ozf 5 31 3 0,ozl 6 3 5,ozY 7 3 6 1 3,ozm 8 7,ozp 9 28 2 8,ozu 10 31 3 2 8,ozp 11 3 10 8,⟨some 12,.call ⟨.value (.func 107),#[.tmp 9,.tmp 11],#[28,3]⟩,some (8,true)⟩,ozr 13 8 12,ozm 14 13,ozu 15 28 2 0 14,ozp 16 25 15 14,ozu 17 31 3 2 14,ozp 18 3 17 14,⟨some 19,.indexAddr 25 (ozT 16) (ozT 18),some (14,true)⟩,ozu 20 62 19 0 14,ozp 21 4 20 14,ozr 22 14 21,oza 4 22]
def zQc:SC:=(.seq z0d (.seq z0c .ret))
theorem zMN:Tryz.f84.body.bind zz=some zQc:=by kernel_rfl
def zuo:SC:=.reg [ozb 2 28 0,ozg 4 false]
def zun:SC:=.reg [ozm 5 1,⟨some 6,.binOp .geq 3 (ozT 5) (ozK 0) 3,none⟩,ozm 7 6,ozU 8 1 7,ozu 9 28 2 0 7,ozp 10 25 9 7,ozW 11 10 25 7 true,⟨some 12,.binOp .lss 3 (ozT 8) (ozT 11) 3,some (7,true)⟩,ozr 13 7 12,oza 4 13]
def zF1:SC:=(.seq zuo (.seq zun .ret))
theorem zFD:Tryz.f107.body.bind zz=some zF1:=by kernel_rfl
def zFw:SC:=.reg [ozg 4 false]
def zFv:SC:=.reg [⟨some 17,.call ⟨.value (.func 8),#[],#[]⟩,none⟩,⟨some 18,.unOp .not 4 (ozT 17),none⟩]
def zFu:SC:=.reg [ozg 4 false]
def zFt:SC:=.reg [ozm 19 1,ozC 20 9 19 22,⟨some 21,.unOp .not 4 (ozT 20),none⟩]
def zFs:SC:=.reg [ozg 4 true]
def zFr:SC:=.reg [ozm 23 0,ozm 24 1,ozD 25 10 23 24 3 22,ozm 22 25,ozx 26 22 0,ozx 27 22 1,ozx 28 22 2,ozx 29 22 3,oze 5 28,oze 6 31,oze 7 31,ozs 28 5 26,ozs 31 6 27,ozs 31 7 28,oza 8 29]
def zFq:SC:=.reg [ozl 31 28 5,ozl 32 31 6,ozl 33 31 7,ozE 34 11 31 32 33 28 31 31,ozm 30 34,ozx 35 30 0,ozx 36 30 1,oze 9 28,ozs 28 9 35,oza 10 36]
def zFp:SC:=.reg [ozl 38 28 5,ozl 39 31 7,ozl 40 31 6,ozE 41 11 38 39 40 28 31 31,ozm 37 41,ozx 42 37 0,ozx 43 37 1,oze 11 28,ozs 28 11 42,oza 12 43]
def zFo:SC:=.reg [ozm 44 10,ozY 45 35 44 0 35,ozm 46 12,ozY 47 35 46 0 35,⟨some 48,.binOp .neq 4 (ozT 45) (ozT 47) 4,none⟩]
def zFn:SC:=.reg [ozg 4 false]
def z1L:SC:=.reg [ozl 50 28 9,ozl 51 31 6,ozD 52 18 50 51 28 31,ozm 49 52,ozx 53 49 0,ozx 54 49 1,oze 13 31,ozs 31 13 53,oza 14 54]
def z1K:SC:=.reg [ozl 56 28 11,ozl 57 31 6,ozD 58 18 56 57 28 31,ozm 55 58,ozx 59 55 0,ozx 60 55 1,oze 15 31,ozs 31 15 59,oza 16 60]
def z1J:SC:=.reg [ozm 61 10,⟨some 62,.binOp .neq 35 (ozT 61) (ozK 0) 35,none⟩,ozm 63 62,ozq 64 31 13 63,ozq 65 31 15 63,⟨some 66,.call ⟨.value (.func 19),#[.tmp 64,.tmp 65],#[31,31]⟩,some (63,false)⟩,ozy 67 63 66,oza 4 67]
def fS5:SC:=(.seq zFw (.seq (.seq zFv (.cond (ozT 18) (.seq zFu .ret) .skip)) (.seq (.seq zFt (.cond (ozT 21) (.seq zFs .ret) .skip)) (.seq zFr (.seq zFq (.seq zFp (.seq (.seq zFo (.cond (ozT 48) (.seq zFn .ret) .skip)) (.seq z1L (.seq z1K (.seq z1J .ret))))))))))
theorem fB5:Tryz.f5.body.bind zz=some fS5:=by kernel_rfl
def z6x:SC:=.reg [oze 4 28,oze 5 31,oze 6 31,⟨some 7,.assign (.const (.pointer none)),none⟩]
def z6w:SC:=.reg [ozm 13 1,⟨some 14,.build 47 #[(0,(ozT 13))],none⟩,ozb 15 47 14,oza 8 15]
def z6v:SC:=.reg [ozm 16 0,ozC 17 20 16 3,oza 9 17]
def z6u:SC:=.reg [ozm 18 8,ozm 19 9,ozD 20 33 18 19 32 48,oze 10 28,ozs 28 10 20]
def z6t:SC:=.reg [ozf 21 28 10 0,ozl 22 25 21,ozh 23 22 25,ozC 24 25 23 3,⟨some 25,.call ⟨.value (.func 32),#[(ozK 0),(ozK 0)],#[3,3]⟩,none⟩,⟨some 26,.call ⟨.value (.func 32),#[(ozK 2),(ozK 0)],#[3,3]⟩,none⟩,⟨some 27,.call ⟨.value (.func 34),#[(ozK 0)],#[3]⟩,none⟩,⟨some 28,.buildSlice 29 3 #[(0,(ozT 25)),(1,(ozT 26)),(2,(ozT 27))],none⟩,ozQ 29 24 28 29 29,oza 11 29]
def z6s:SC:=.reg [ozm 30 8,ozm 31 9,ozm 32 11,⟨some 33,.call ⟨.value (.func 24),#[.tmp 30,.tmp 31,.tmp 32,(ozK 2)],#[32,48,29,3]⟩,none⟩,oze 12 31,ozs 31 12 33]
def z6r:SC:=.draw [ozL 34 28 10,ozL 35 31 12,ozM 36 8,ozM 37 9,ozM 38 11,⟨some 39,.call ⟨.value (.func 24),#[.tmp 36,.tmp 37,.tmp 38,(ozK 2)],#[32,48,29,3]⟩,none,[36,37,38]⟩,ozM 40 8,ozS 28 4 34,ozS 31 5 35,ozS 31 6 39,⟨some 7,.assign (ozT 40),none,[40]⟩] [0,0,0,0,0,28,0,61,191,447,1023]
def zQK:SC:=(.seq z6x (.seq z6w (.seq z6v (.seq z6u (.seq z6t (.seq z6s (.seq z6r .ret)))))))
theorem zRz:Tryz.f10.body.bind zz=some zQK:=by kernel_rfl
def z5U:SC:=.reg [ozO 2 0 0]
def z5T:SC:=.reg [⟨some 6,.call ⟨.value (.func 50),#[],#[]⟩,none⟩,oza 3 6]
def z5S:SC:=.reg [ozO 4 0 0]
def z5R:SC:=.reg [ozm 7 0,⟨some 8,.binOp .and 3 (ozT 7) (ozK 2) 3,none⟩,⟨some 9,.binOp .neq 3 (ozT 8) (ozK 0) 3,none⟩,ozm 10 9,⟨some 11,.move (ozT 0),some (10,false)⟩,⟨some 12,.binOp .and 3 (ozT 11) (ozK 64) 3,some (10,false)⟩,⟨some 13,.binOp .neq 3 (ozT 12) (ozK 0) 3,some (10,false)⟩,ozy 14 10 13]
def z5Q:SC:=.reg [ozm 15 4,ozm 16 3,⟨some 17,.indexAddr 48 (ozT 16) (ozK 1),none⟩,ozl 18 83 17,ozV 19 48 1 0 18,ozQ 20 15 19 48 48,oza 4 20]
def z5P:SC:=.reg [ozk 5 0]
def z5O:SC:=.reg [ozm 21 5,ozm 22 3,ozh 23 22 48,ozo 24 3 21 23 3]
def z5N:SC:=.reg [ozm 27 5,⟨some 28,.binOp .neq 3 (ozT 27) (ozK 1) 3,none⟩,ozm 29 28,ozU 30 0 29,ozU 31 5 29,⟨some 32,.convert 3 84 (ozT 31),some (29,true)⟩,⟨some 33,.binOp .shr 3 (ozT 30) (ozT 32) 84,some (29,true)⟩,⟨some 34,.binOp .and 3 (ozT 33) (ozK 1) 3,some (29,true)⟩,⟨some 35,.binOp .eql 3 (ozT 34) (ozK 1) 3,some (29,true)⟩,ozr 36 29 35]
def z5M:SC:=.reg [ozm 37 4,ozm 38 3,ozm 39 5,ozi 40 48 38 39,ozl 41 83 40,ozV 42 48 1 0 41,ozQ 43 37 42 48 48,oza 4 43]
def z5W:SC:=.block 1 (.seq z5N (.cond (ozT 36) z5M .skip))
def z5L:SC:=.reg [ozm 25 5,ozd 26 3 25 1 3,oza 5 26]
def zgv:SC:=(.seq (.seq z5O (.cond (ozT 24) .skip (.exit 0))) (.seq z5W z5L))
def z5V:SC:=.block 0 (.loop zgv)
def zty:SC:=.reg [ozm 44 4,oza 2 44]
def zQE:SC:=(.seq z5U (.seq z5T (.seq z5S (.seq (.seq z5R (.cond (ozT 14) z5Q .skip)) (.seq (.seq z5P z5V) (.seq zty .ret))))))
theorem zRt:Tryz.f20.body.bind zz=some zQE:=by kernel_rfl
def zFf:SC:=.reg [ozg 2 false]
def zFe:SC:=.reg [ozm 3 0,ozh 4 3 22,⟨some 5,.binOp .leq 3 (ozT 4) (ozK 60) 3,none⟩,oza 2 5]
def fS9:SC:=(.seq zFf (.seq zFe .ret))
theorem fB9:Tryz.f9.body.bind zz=some fS9:=by kernel_rfl
def z2K:SC:=.reg [ozk 4 0]
def z2J:SC:=.reg [ozm 5 1,⟨some 6,.binOp .lss 3 (ozT 5) (ozK 1) 3,none⟩]
def z2I:SC:=.reg [ozk 4 0]
def z2H:SC:=.reg [ozm 7 0,ozm 8 1,⟨some 9,.binOp .rem 3 (ozT 7) (ozT 8) 3,none⟩,oza 0 9]
def z2G:SC:=.reg [ozm 10 0,⟨some 11,.binOp .lss 3 (ozT 10) (ozK 0) 3,none⟩]
def z2F:SC:=.reg [ozm 12 0,ozm 13 1,⟨some 14,.binOp .add 3 (ozT 12) (ozT 13) 3,none⟩,oza 0 14]
def z2E:SC:=.reg [ozm 15 0,oza 4 15]
def zQs:SC:=(.seq z2K (.seq (.seq z2J (.cond (ozT 6) (.seq z2I .ret) .skip)) (.seq z2H (.seq (.seq z2G (.cond (ozT 11) z2F .skip)) (.seq z2E .ret)))))
theorem zRe:Tryz.f51.body.bind zz=some zQs:=by kernel_rfl
def z5j:SC:=.reg [ozO 2 0 0]
def z5i:SC:=.reg [ozO 3 0 0]
def z5h:SC:=.reg [ozk 4 0]
def z5g:SC:=.reg [ozm 5 4,ozm 6 0,ozo 7 3 5 6 3]
def z5f:SC:=.reg [ozm 10 3,ozm 11 4,ozC 12 29 11 3,ozV 13 29 1 0 12,ozQ 14 10 13 29 29,oza 3 14]
def z5l:SC:=.block 1 z5f
def z5e:SC:=.reg [ozm 8 4,ozd 9 3 8 1 3,oza 4 9]
def zlL:SC:=(.seq (.seq z5g (.cond (ozT 7) .skip (.exit 0))) (.seq z5l z5e))
def z5k:SC:=.block 0 (.loop zlL)
def z5d:SC:=.reg [ozm 15 3,oza 2 15]
def zQ9:SC:=(.seq z5j (.seq z5i (.seq (.seq z5h z5k) (.seq z5d .ret))))
theorem zRp:Tryz.f25.body.bind zz=some zQ9:=by kernel_rfl
def zua:SC:=.reg [ozb 3 31 1,oze 4 31]
def ztZ:SC:=.reg [ozl 5 31 3,ozm 6 0,ozD 7 28 5 6 31 57,ozs 31 4 7]
def zFz:SC:=(.seq zua (.seq ztZ .ret))
theorem zFB:Tryz.f111.body.bind zz=some zFz:=by kernel_rfl
def zzZ:SC:=.reg [ozb 3 31 0,ozb 4 31 1,ozO 6 0 0,ozg 7 false]
def zzY:SC:=.reg [ozf 10 31 3 0,ozl 11 3 10,ozY 12 3 11 1 3]
def zzX:SC:=.reg [ozm 13 2,ozf 14 31 3 2,ozl 15 3 14,ozD 16 110 13 15 57 3]
def zzW:SC:=.draw [ozM 17 2,ozL 18 31 3,ozP 19 111 17 18 57 31,ozL 20 31 4,ozP 21 40 19 20 31 31,⟨some 22,.unOp .not 4 (ozT 21),none,[21]⟩] [0,0,3,0,15,31]
def zzV:SC:=.reg [ozO 6 0 0,ozg 7 false]
def zzU:SC:=.reg [ozm 23 2,oza 6 23,ozg 7 true]
def zzT:SC:=.draw [ozM 24 2,⟨some 25,.call ⟨.builtin .append,#[(.const (.slice none 0 0)),.tmp 24],#[57,57]⟩,none,[24]⟩,ozF 26 31 3 2,ozL 27 3 26,ozL 28 31 4,⟨some 29,.build 91 #[(0,(ozT 27)),(1,(ozT 28))],none,[27,28]⟩,⟨some 30,.buildSlice 57 1 #[(0,(ozT 29))],none,[29]⟩,⟨some 31,.call ⟨.builtin .append,#[.tmp 25,.tmp 30],#[57,57]⟩,none,[25,30]⟩,⟨some 6,.assign (ozT 31),none,[31]⟩,⟨some 7,.assign (.const (.bool true)),none,[]⟩] [0,1,0,4,0,28,60,127,255,511]
def zzS:SC:=.reg [ozf 32 31 3 0,ozl 33 3 32,ozf 34 31 4 0,ozl 35 3 34,⟨some 36,.binOp .neq 3 (ozT 33) (ozT 35) 3,none⟩,ozm 37 36,ozv 38 31 3 1 37,ozq 39 9 38 37,ozv 40 31 4 1 37,ozq 41 9 40 37,ozR 42 9 39 41 9 37,ozy 43 37 42,ozm 44 43,ozv 45 31 3 2 44,ozq 46 3 45 44,ozv 47 31 4 2 44,ozq 48 3 47 44,ozR 49 3 46 48 3 44,ozy 50 44 49,ozm 51 50,ozv 52 31 3 3 51,ozq 53 3 52 51,ozv 54 31 4 3 51,ozq 55 3 54 51,ozR 56 3 53 55 3 51,ozy 57 51 56,ozm 58 57,ozv 59 31 3 4 58,ozq 60 29 59 58,ozW 61 60 29 58 false,ozv 62 31 4 4 58,ozq 63 29 62 58,ozW 64 63 29 58 false,ozR 65 3 61 64 3 58,ozy 66 58 65]
def zzR:SC:=.reg [ozO 6 0 0,ozg 7 false]
def zzQ:SC:=.reg [ozg 8 true]
def zsf:SC:=.reg [ozk 9 0]
def zse:SC:=.reg [ozm 67 9,ozf 68 31 3 4,ozl 69 29 68,ozh 70 69 29,ozo 71 3 67 70 3,ozm 72 71,ozU 73 8 72,ozr 74 72 73]
def zsd:SC:=.draw [ozF 78 31 3 4,ozL 79 29 78,ozM 80 9,ozI 81 29 79 80,ozL 82 31 81,ozF 83 31 4 4,ozL 84 29 83,ozM 85 9,ozI 86 29 84 85,ozL 87 31 86,ozM 88 2,⟨some 89,.call ⟨.value (.func 89),#[.tmp 82,.tmp 87,.tmp 88],#[31,31,57]⟩,none,[82,87,88]⟩,ozM 77 89,⟨some 90,.extract (ozT 77) 0,none,[77]⟩,⟨some 91,.extract (ozT 77) 1,none,[77]⟩,⟨some 2,.assign (ozT 90),none,[90]⟩,⟨some 8,.assign (ozT 91),none,[91]⟩] [0,1,0,7,15,0,32,0,224,480,0,2047,4095,8191,8191,16383,65535]
def z0b:SC:=.block 1 zsd
def zsc:SC:=.reg [ozm 75 9,ozd 76 3 75 1 3,oza 9 76]
def zlC:SC:=(.seq (.seq zse (.cond (ozT 74) .skip (.exit 0))) (.seq z0b zsc))
def z0a:SC:=.block 0 (.loop zlC)
def zsb:SC:=.reg [ozm 92 8,⟨some 93,.unOp .not 4 (ozT 92),none⟩]
def zsa:SC:=.reg [ozO 6 0 0,ozg 7 false]
def zrZ:SC:=.reg [ozm 94 2,oza 6 94,ozg 7 true]
def zQb:SC:=(.seq zzZ (.seq (.seq zzY (.cond (ozT 12) (.seq (.seq zzX (.cond (ozT 16) (.seq (.seq zzW (.cond (ozT 22) (.seq zzV .ret) .skip)) (.seq zzU .ret)) .skip)) (.seq zzT .ret)) .skip)) (.seq (.seq zzS (.cond (ozT 66) (.seq zzR .ret) .skip)) (.seq zzQ (.seq (.seq zsf z0a) (.seq (.seq zsb (.cond (ozT 93) (.seq zsa .ret) .skip)) (.seq zrZ .ret)))))))
theorem zMM:Tryz.f89.body.bind zz=some zQb:=by kernel_rfl
def zuk:SC:=.reg [ozg 4 false]
def zuj:SC:=.reg [ozk 5 0]
def zui:SC:=.reg [ozm 6 5,ozm 7 0,ozh 8 7 57,ozo 9 3 6 8 3]
def zuh:SC:=.reg [ozm 12 0,ozm 13 5,ozi 14 57 12 13,ozf 15 91 14 0,ozl 16 3 15,ozm 17 1,⟨some 18,.binOp .eql 3 (ozT 16) (ozT 17) 3,none⟩]
def zug:SC:=.reg [ozg 4 true]
def zum:SC:=.block 1 (.seq zuh (.cond (ozT 18) (.seq zug .ret) .skip))
def zuf:SC:=.reg [ozm 10 5,ozd 11 3 10 1 3,oza 5 11]
def zkl:SC:=(.seq (.seq zui (.cond (ozT 9) .skip (.exit 0))) (.seq zum zuf))
def zul:SC:=.block 0 (.loop zkl)
def zue:SC:=.reg [ozg 4 false]
def zF0:SC:=(.seq zuk (.seq (.seq zuj zul) (.seq zue .ret)))
theorem zFC:Tryz.f110.body.bind zz=some zF0:=by kernel_rfl
def z2N:SC:=.reg [ozb 2 31 0,ozb 3 31 1,ozg 4 false]
def z2M:SC:=.reg [ozl 8 31 3,ozl 9 31 2,⟨some 10,.call ⟨.value (.func 70),#[.tmp 8,.tmp 9,(.const (.slice none 0 0))],#[31,31,57]⟩,none⟩,ozm 7 10,ozx 11 7 0,ozx 12 7 1,oza 5 11,oza 6 12]
def z2L:SC:=.reg [ozm 13 6,oza 4 13]
def zQt:SC:=(.seq z2N (.seq z2M (.seq z2L .ret)))
theorem zRf:Tryz.f49.body.bind zz=some zQt:=by kernel_rfl
def z0L:SC:=.reg [ozb 3 31 0,ozb 4 31 1,ozO 6 0 0,ozg 7 false]
def z0K:SC:=.reg [ozl 8 31 3,ozl 9 31 4,ozm 10 2,ozE 11 89 8 9 10 31 31 57,ozx 12 11 0,ozx 13 11 1,oza 6 12,oza 7 13]
def zQg:SC:=(.seq z0L (.seq z0K .ret))
theorem zQT:Tryz.f70.body.bind zz=some zQg:=by kernel_rfl
def z5Y:SC:=.reg [ozb 2 31 0,ozb 3 31 1,ozg 4 false]
def z5X:SC:=.reg [ozl 5 31 2,ozl 6 31 3,ozD 7 49 5 6 31 31,ozm 8 7,ozp 9 31 3 8,ozp 10 31 2 8,⟨some 11,.call ⟨.value (.func 49),#[.tmp 9,.tmp 10],#[31,31]⟩,some (8,true)⟩,ozr 12 8 11,oza 4 12]
def zQF:SC:=(.seq z5Y (.seq z5X .ret))
theorem zRu:Tryz.f19.body.bind zz=some zQF:=by kernel_rfl
def z5I:SC:=.reg [ozb 3 28 0,oze 6 28,oze 7 31]
def z5H:SC:=.reg [ozf 10 28 3 0,ozl 11 25 10,ozh 12 11 25,oza 8 12]
def z5G:SC:=.reg [ozf 13 28 3 0,ozl 14 25 13,⟨some 15,.call ⟨.builtin .append,#[(.const (.slice none 0 0)),.tmp 14],#[25,25]⟩,none⟩,ozm 16 1,ozm 17 2,⟨some 18,.build 62 #[(2,(ozT 16)),(3,(ozT 17))],none⟩,ozV 19 25 1 0 18,ozQ 20 15 19 25 25,⟨some 21,.build 28 #[(0,(ozT 20))],none⟩,oze 9 28,ozs 28 9 21]
def z5F:SC:=.reg [ozf 22 28 3 1,ozl 23 26 22,⟨some 24,.call ⟨.builtin .append,#[(.const (.slice none 0 0)),.tmp 23],#[26,26]⟩,none⟩,ozm 25 8,⟨some 26,.build 72 #[(0,(ozT 25)),(2,(.const (.bool true)))],none⟩,ozV 27 26 1 0 26,ozQ 28 24 27 26 26,ozf 29 28 9 1,ozs 26 29 28]
def z5E:SC:=.draw [ozL 30 28 9,ozM 31 8,⟨some 32,.call ⟨.value (.func 29),#[.tmp 31],#[3]⟩,none,[31]⟩,ozS 28 6 30,ozS 31 7 32] [0,0,2,7,15]
def zQC:SC:=(.seq z5I (.seq z5H (.seq z5G (.seq z5F (.seq z5E .ret)))))
theorem zRr:Tryz.f22.body.bind zz=some zQC:=by kernel_rfl
def z5K:SC:=.reg [oze 0 28]
def z5J:SC:=.reg [⟨some 1,.build 28 #[],none⟩,ozs 28 0 1]
def zQD:SC:=(.seq z5K (.seq z5J .ret))
theorem zRs:Tryz.f21.body.bind zz=some zQD:=by kernel_rfl
def z6c:SC:=.reg [ozb 2 28 0,ozb 3 31 1,oze 4 31,ozg 5 false]
def z6b:SC:=.reg [ozl 6 28 2,ozl 7 31 3,⟨some 8,.call ⟨.value (.func 17),#[.tmp 6,.tmp 7,(ozK 4000)],#[28,31,3]⟩,none⟩,⟨some 9,.binOp .gtr 3 (ozT 8) (ozK 4000) 3,none⟩]
def z6a:SC:=.reg [⟨some 10,.build 31 #[],none⟩,ozs 31 4 10,ozg 5 false]
def z5Z:SC:=.reg [ozl 11 28 2,ozl 12 31 3,ozD 13 48 11 12 28 31,ozs 31 4 13,ozg 5 true]
def zQG:SC:=(.seq z6c (.seq (.seq z6b (.cond (ozT 9) (.seq z6a .ret) .skip)) (.seq z5Z .ret)))
theorem zRv:Tryz.f18.body.bind zz=some zQG:=by kernel_rfl
def z0t:SC:=.reg [ozb 3 28 0,ozb 5 62 2,oze 6 28,ozg 7 false]
def z0s:SC:=.reg [ozm 9 1,⟨some 10,.binOp .lss 3 (ozT 9) (ozK 0) 3,none⟩,ozm 11 10,⟨some 12,.move (ozT 1),some (11,false)⟩,ozv 13 28 3 0 11,ozq 14 25 13 11,ozW 15 14 25 11 false,⟨some 16,.binOp .geq 3 (ozT 12) (ozT 15) 3,some (11,false)⟩,ozy 17 11 16]
def z0r:SC:=.reg [ozl 18 28 3,ozs 28 6 18,ozg 7 false]
def z0q:SC:=.reg [ozf 19 28 3 0,ozl 20 25 19,⟨some 21,.call ⟨.builtin .append,#[(.const (.slice none 0 0)),.tmp 20],#[25,25]⟩,none⟩,⟨some 22,.build 28 #[(0,(ozT 21))],none⟩,oze 8 28,ozs 28 8 22]
def z0p:SC:=.draw [ozF 23 28 3 1,ozL 24 26 23,⟨some 25,.call ⟨.builtin .append,#[(.const (.slice none 0 0)),.tmp 24],#[26,26]⟩,none,[24]⟩,ozM 26 1,ozF 27 28 3 0,ozL 28 25 27,ozM 29 1,ozI 30 25 28 29,ozL 31 62 30,⟨some 32,.build 72 #[(0,(ozT 26)),(1,(ozT 31))],none,[26,31]⟩,⟨some 33,.buildSlice 26 1 #[(0,(ozT 32))],none,[32]⟩,⟨some 34,.call ⟨.builtin .append,#[.tmp 25,.tmp 33],#[26,26]⟩,none,[25,33]⟩,ozF 35 28 8 1,ozS 26 35 34] [0,1,3,0,0,16,0,112,240,504,1016,2047,4095,8191]
def z0o:SC:=.reg [ozf 36 28 8 0,ozl 37 25 36,ozm 38 1,ozl 39 62 5,ozi 40 25 37 38,ozs 62 40 39]
def z0n:SC:=.reg [ozl 41 28 8,ozs 28 6 41,ozg 7 true]
def zQe:SC:=(.seq z0t (.seq (.seq z0s (.cond (ozT 17) (.seq z0r .ret) .skip)) (.seq z0q (.seq z0p (.seq z0o (.seq z0n .ret))))))
theorem zQO:Tryz.f78.body.bind zz=some zQe:=by kernel_rfl
def z6e:SC:=.reg [ozb 3 28 0,ozb 4 31 1,ozk 6 0]
def z6d:SC:=.reg [ozl 7 28 3,ozl 8 31 4,ozm 9 2,⟨some 10,.call ⟨.builtin .max,#[.tmp 9,(ozK 0)],#[3,3]⟩,none⟩,ozE 11 47 7 8 10 28 31 3,oza 6 11]
def zQH:SC:=(.seq z6e (.seq z6d .ret))
theorem zRw:Tryz.f17.body.bind zz=some zQH:=by kernel_rfl
def z0k:SC:=.reg [ozb 2 28 0,ozO 4 0 0]
def z0j:SC:=.draw [ozL 7 28 2,ozF 8 28 2 0,ozL 9 25 8,⟨some 10,.call ⟨.builtin .len,#[.tmp 9],#[25]⟩,none,[9]⟩,⟨some 11,.makeSlice 156 (ozT 10) (ozT 10),none,[10,10]⟩,⟨some 12,.build 158 #[(0,(ozT 7)),(2,(ozT 11))],none,[7,11]⟩,⟨some 13,.box 158 (ozT 12),none,[12]⟩,⟨some 5,.assign (ozT 13),none,[13]⟩] [0,0,2,6,14,31,63,127]
def z0i:SC:=.reg [ozk 6 0]
def z0h:SC:=.reg [ozm 14 6,ozm 15 1,ozh 16 15 29,ozo 17 3 14 16 3]
def z0g:SC:=.reg [ozm 20 5,ozm 21 1,ozm 22 6,ozi 23 29 21 22,ozl 24 31 23,ozD 25 105 20 24 155 31]
def z0m:SC:=.block 1 z0g
def z0f:SC:=.reg [ozm 18 6,ozd 19 3 18 1 3,oza 6 19]
def zjh:SC:=(.seq (.seq z0h (.cond (ozT 17) .skip (.exit 0))) (.seq z0m z0f))
def z0l:SC:=.block 0 (.loop zjh)
def z0e:SC:=.reg [ozm 26 5,ozn 27 26,ozf 28 158 27 1,ozl 29 22 28,oza 4 29]
def zQd:SC:=(.seq z0k (.seq z0j (.seq (.seq z0i z0l) (.seq z0e .ret))))
theorem zQN:Tryz.f79.body.bind zz=some zQd:=by kernel_rfl
def z1R:SC:=.reg [ozb 2 28 0,ozb 3 31 1,oze 4 31]
def z1Q:SC:=.reg [ozk 5 0]
def z1P:SC:=.reg [ozm 6 5,ozf 7 28 2 0,ozl 8 25 7,ozh 9 8 25,⟨some 10,.binOp .leq 3 (ozT 6) (ozT 9) 3,none⟩,ozm 11 10,ozp 12 28 2 11,ozp 13 31 3 11,⟨some 14,.call ⟨.value (.func 77),#[.tmp 12,.tmp 13],#[28,31]⟩,some (11,true)⟩,ozr 15 11 14]
def z1O:SC:=.reg [ozf 18 28 2 0,ozl 19 25 18,ozf 20 31 3 2,ozl 21 3 20,ozi 22 25 19 21,ozf 23 62 22 1,ozl 24 31 23,ozs 31 3 24]
def z1T:SC:=.block 1 z1O
def z1N:SC:=.reg [ozm 16 5,ozd 17 3 16 1 3,oza 5 17]
def zlE:SC:=(.seq (.seq z1P (.cond (ozT 15) .skip (.exit 0))) (.seq z1T z1N))
def z1S:SC:=.block 0 (.loop zlE)
def z1M:SC:=.reg [ozl 25 31 3,ozs 31 4 25]
def zQm:SC:=(.seq z1R (.seq (.seq z1Q z1S) (.seq z1M .ret)))
theorem zQZ:Tryz.f59.body.bind zz=some zQm:=by kernel_rfl
def z0v:SC:=.reg [ozb 2 28 0,ozb 3 31 1,ozg 4 false]
def z0u:SC:=.reg [ozf 5 31 3 0,ozl 6 3 5,ozY 7 3 6 1 3,ozm 8 7,ozu 9 31 3 2 8,ozp 10 3 9 8,⟨some 11,.binOp .geq 3 (ozT 10) (ozK 0) 3,some (8,true)⟩,ozr 12 8 11,ozm 13 12,ozu 14 31 3 2 13,ozp 15 3 14 13,ozu 16 28 2 0 13,ozp 17 25 16 13,ozW 18 17 25 13 true,⟨some 19,.binOp .lss 3 (ozT 15) (ozT 18) 3,some (13,true)⟩,ozr 20 13 19,ozm 21 20,ozu 22 28 2 0 21,ozp 23 25 22 21,ozu 24 31 3 2 21,ozp 25 3 24 21,⟨some 26,.indexAddr 25 (ozT 23) (ozT 25),some (21,true)⟩,ozu 27 62 26 0 21,ozp 28 4 27 21,ozr 29 21 28,oza 4 29]
def zQf:SC:=(.seq z0v (.seq z0u .ret))
theorem zQP:Tryz.f77.body.bind zz=some zQf:=by kernel_rfl
def z2W:SC:=.reg [ozb 2 28 0,ozb 3 31 1,oze 4 31]
def z2V:SC:=.reg [ozl 7 28 2,ozl 8 31 3,ozD 9 59 7 8 28 31,ozs 31 3 9]
def z2U:SC:=.reg [ozl 10 31 3,oze 5 31,ozs 31 5 10]
def z2T:SC:=.reg [ozf 11 31 5 4,⟨none,.store 29 (ozT 11) (.const (.slice none 0 0)),none⟩]
def z2S:SC:=.reg [ozk 6 0]
def z2R:SC:=.reg [ozm 12 6,ozf 13 31 3 4,ozl 14 29 13,ozh 15 14 29,ozo 16 3 12 15 3]
def z2Q:SC:=.draw [ozF 19 31 5 4,ozL 20 29 19,ozL 21 28 2,ozF 22 31 3 4,ozL 23 29 22,ozM 24 6,ozI 25 29 23 24,ozL 26 31 25,ozP 27 48 21 26 28 31,⟨some 28,.buildSlice 29 1 #[(0,(ozT 27))],none,[27]⟩,⟨some 29,.call ⟨.builtin .append,#[.tmp 20,.tmp 28],#[29,29]⟩,none,[20,28]⟩,ozF 30 31 5 4,ozS 29 30 29] [0,1,0,0,8,0,56,120,252,508,1023,2047,4095]
def z2Y:SC:=.block 1 z2Q
def z2P:SC:=.reg [ozm 17 6,ozd 18 3 17 1 3,oza 6 18]
def zlG:SC:=(.seq (.seq z2R (.cond (ozT 16) .skip (.exit 0))) (.seq z2Y z2P))
def z2X:SC:=.block 0 (.loop zlG)
def z2O:SC:=.reg [ozl 31 31 5,ozs 31 4 31]
def zQu:SC:=(.seq z2W (.seq z2V (.seq z2U (.seq z2T (.seq (.seq z2S z2X) (.seq z2O .ret))))))
theorem zMQ:Tryz.f48.body.bind zz=some zQu:=by kernel_rfl
def z3g:SC:=.reg [ozb 3 28 0,ozb 4 31 1,ozk 6 0]
def z3f:SC:=.reg [ozl 9 28 3,ozl 10 31 4,ozD 11 59 9 10 28 31,ozs 31 4 11]
def z3e:SC:=.reg [ozk 7 1]
def z3d:SC:=.reg [ozk 8 0]
def z3c:SC:=.reg [ozm 12 8,ozf 13 31 4 4,ozl 14 29 13,ozh 15 14 29,ozo 16 3 12 15 3,ozm 17 16,ozU 18 7 17,ozU 19 2 17,⟨some 20,.binOp .leq 3 (ozT 18) (ozT 19) 3,some (17,true)⟩,ozr 21 17 20]
def z3b:SC:=.draw [ozM 24 7,ozL 25 28 3,ozF 26 31 4 4,ozL 27 29 26,ozM 28 8,ozI 29 29 27 28,ozL 30 31 29,ozM 31 2,ozM 32 7,⟨some 33,.binOp .sub 3 (ozT 31) (ozT 32) 3,none,[31,32]⟩,⟨some 34,.call ⟨.value (.func 47),#[.tmp 25,.tmp 30,.tmp 33],#[28,31,3]⟩,none,[25,30,33]⟩,⟨some 35,.binOp .add 3 (ozT 24) (ozT 34) 3,none,[24,34]⟩,⟨some 7,.assign (ozT 35),none,[35]⟩] [0,0,0,4,0,28,60,0,0,384,1022,2047,4095]
def z3i:SC:=.block 1 z3b
def z3a:SC:=.reg [ozm 22 8,ozd 23 3 22 1 3,oza 8 23]
def zlH:SC:=(.seq (.seq z3c (.cond (ozT 21) .skip (.exit 0))) (.seq z3i z3a))
def z3h:SC:=.block 0 (.loop zlH)
def z2Z:SC:=.reg [ozm 36 7,ozm 37 2,ozd 38 3 37 1 3,⟨some 39,.call ⟨.builtin .min,#[.tmp 36,.tmp 38],#[3,3]⟩,none⟩,oza 6 39]
def zQv:SC:=(.seq z3g (.seq z3f (.seq z3e (.seq (.seq z3d z3h) (.seq z2Z .ret)))))
theorem zMR:Tryz.f47.body.bind zz=some zQv:=by kernel_rfl
def z6j:SC:=.reg [ozb 3 28 0,ozb 4 31 1,ozb 5 31 2,oze 6 28,ozk 7 0]
def z6i:SC:=.reg [ozl 11 28 3,ozl 12 31 4,ozl 13 31 5,ozE 14 39 11 12 13 28 31 31,ozm 10 14,ozx 15 10 0,ozx 16 10 1,oze 8 28,ozs 28 8 15,oza 9 16]
def z6h:SC:=.reg [ozm 17 9,⟨some 18,.binOp .neq 35 (ozT 17) (ozK 0) 35,none⟩]
def z6g:SC:=.reg [ozl 19 28 3,ozm 20 9,ozs 28 6 19,oza 7 20]
def z6f:SC:=.reg [ozl 21 28 8,ozs 28 6 21,ozk 7 0]
def zQI:SC:=(.seq z6j (.seq z6i (.seq (.seq z6h (.cond (ozT 18) (.seq z6g .ret) .skip)) (.seq z6f .ret))))
theorem zRx:Tryz.f12.body.bind zz=some zQI:=by kernel_rfl
def z1y:SC:=.reg [ozb 3 28 0,ozb 5 31 2,oze 6 28,ozk 7 0]
def z1x:SC:=.reg [ozf 20 28 3 0,ozl 21 25 20,ozm 22 1,ozi 23 25 21 22,ozl 24 62 23,oze 8 62,ozs 62 8 24]
def z1w:SC:=.reg [ozl 25 28 3,ozl 26 31 5,ozV 27 29 1 0 26,ozD 28 79 25 27 28 29,oza 9 28]
def z1v:SC:=.reg [ozm 29 9,ozm 30 1,ozD 31 66 29 30 22 3]
def z1u:SC:=.reg [ozl 32 28 3,ozs 28 6 32,ozk 7 12]
def z1t:SC:=.reg [ozl 34 31 5,ozC 35 30 34 31,ozm 33 35,ozx 36 33 0,ozx 37 33 1,ozx 38 33 2,oze 10 31,oze 11 31,ozs 31 10 36,ozs 31 11 37,oza 12 38]
def z1s:SC:=.reg [ozm 39 12,ozm 40 39,ozu 41 62 8 3 40,ozp 42 4 41 40,ozr 43 40 42]
def z1r:SC:=.reg [ozl 44 28 3,ozs 28 6 44,ozk 7 14]
def z1q:SC:=.reg [ozl 46 28 3,ozl 47 31 5,ozD 48 18 46 47 28 31,ozm 45 48,ozx 49 45 0,ozx 50 45 1,oze 13 31,ozs 31 13 49,oza 14 50]
def z1p:SC:=.reg [ozl 51 31 13,ozV 52 29 1 0 51,ozC 53 31 52 29,oza 15 53]
def zsA:SC:=.reg [ozk 16 0]
def zs9:SC:=.reg [ozm 54 16,ozm 55 15,ozh 56 55 29,ozo 57 3 54 56 3]
def zs8:SC:=.draw [ozM 60 15,ozM 61 16,ozI 62 29 60 61,ozF 63 31 62 3,ozL 64 3 63,ozF 65 62 8 2,ozL 66 3 65,⟨some 67,.binOp .gtr 3 (ozT 64) (ozT 66) 3,none,[64,66]⟩] [0,0,3,7,15,0,32,127]
def zs7:SC:=.reg [ozl 68 28 3,ozs 28 6 68,ozk 7 13]
def z15:SC:=.block 1 (.seq zs8 (.cond (ozT 67) (.seq zs7 .ret) .skip))
def zs6:SC:=.reg [ozm 58 16,ozd 59 3 58 1 3,oza 16 59]
def zlD:SC:=(.seq (.seq zs9 (.cond (ozT 57) .skip (.exit 0))) (.seq z15 zs6))
def z14:SC:=.block 0 (.loop zlD)
def zs5:SC:=.reg [ozk 17 0]
def zs4:SC:=.reg [ozm 69 17,ozm 70 9,ozh 71 70 22,ozo 72 3 69 71 3]
def zs3:SC:=.draw [ozM 75 9,ozM 76 17,ozI 77 22 75 76,ozL 78 3 77,ozF 79 28 3 0,ozL 80 25 79,⟨some 81,.call ⟨.builtin .len,#[.tmp 80],#[25]⟩,none,[80]⟩,⟨some 82,.binOp .geq 3 (ozT 78) (ozT 81) 3,none,[78,81]⟩,ozM 83 82,ozH 84 62 8 2 83 true,ozG 85 3 84 83 true,⟨some 86,.binOp .lss 3 (ozT 85) (ozK 0) 3,some (83,true),[85,83]⟩,⟨some 87,.pick (ozT 83) (ozT 86) (.const (.bool false)),none,[83,86]⟩] [0,0,3,7,0,16,48,127,255,511,1023,2047,4095]
def zs2:SC:=.reg [ozl 88 28 3,ozs 28 6 88,ozk 7 13]
def z13:SC:=.block 3 (.seq zs3 (.cond (ozT 87) (.seq zs2 .ret) .skip))
def zs1:SC:=.reg [ozm 73 17,ozd 74 3 73 1 3,oza 17 74]
def zjj:SC:=(.seq (.seq zs4 (.cond (ozT 72) .skip (.exit 2))) (.seq z13 zs1))
def z11:SC:=.block 2 (.loop zjj)
def zsz:SC:=.reg [ozk 18 0]
def zsy:SC:=.reg [ozm 89 18,ozm 90 9,ozh 91 90 22,ozo 92 3 89 91 3]
def zsx:SC:=.draw [ozM 95 9,ozM 96 18,ozI 97 22 95 96,ozL 98 3 97,ozF 99 28 3 0,ozL 100 25 99,⟨some 101,.call ⟨.builtin .len,#[.tmp 100],#[25]⟩,none,[100]⟩,⟨some 102,.binOp .lss 3 (ozT 98) (ozT 101) 3,none,[98,101]⟩,ozM 103 102,ozH 104 28 3 0 103 true,ozG 105 25 104 103 true,⟨some 106,.move (ozT 9),some (103,true),[9,103]⟩,⟨some 107,.move (ozT 18),some (103,true),[18,103]⟩,⟨some 108,.indexAddr 22 (ozT 106) (ozT 107),some (103,true),[106,107,103]⟩,ozG 109 3 108 103 true,⟨some 110,.indexAddr 25 (ozT 105) (ozT 109),some (103,true),[105,109,103]⟩,ozH 111 62 110 2 103 true,ozG 112 3 111 103 true,ozH 113 62 8 2 103 true,ozG 114 3 113 103 true,⟨some 115,.binOp .gtr 3 (ozT 112) (ozT 114) 3,some (103,true),[112,114,103]⟩,⟨some 116,.pick (ozT 103) (ozT 115) (.const (.bool false)),none,[103,115]⟩] [0,0,3,7,0,16,48,127,255,511,1023,511,511,6655,14847,32767,65535,131071,511,262655,1048575,2097151]
def zsw:SC:=.draw [ozF 117 28 3 0,ozL 118 25 117,ozM 119 9,ozM 120 18,ozI 121 22 119 120,ozL 122 3 121,ozI 123 25 118 122,ozL 124 62 123,⟨some 19,.alloc 62,none,[]⟩,ozS 62 19 124] [0,1,0,0,12,28,63,127,0,511]
def zsv:SC:=.reg [ozf 125 62 8 2,ozl 126 3 125,ozf 127 62 19 2,ozs 3 127 126]
def zsu:SC:=.draw [ozL 129 28 3,ozM 130 9,ozM 131 18,ozI 132 22 130 131,ozL 133 3 132,ozL 134 62 19,⟨some 135,.call ⟨.value (.func 78),#[.tmp 129,.tmp 133,.tmp 134],#[28,3,62]⟩,none,[129,133,134]⟩,ozM 128 135,⟨some 136,.extract (ozT 128) 0,none,[128]⟩,⟨some 137,.extract (ozT 128) 1,none,[128]⟩,ozS 28 3 136] [0,0,0,6,14,0,63,127,255,255,511]
def z10:SC:=.block 5 (.seq zsx (.cond (ozT 116) (.seq zsw (.seq zsv zsu)) .skip))
def zst:SC:=.reg [ozm 93 18,ozd 94 3 93 1 3,oza 18 94]
def zji:SC:=(.seq (.seq zsy (.cond (ozT 92) .skip (.exit 4))) (.seq z10 zst))
def z1z:SC:=.block 4 (.loop zji)
def zss:SC:=.draw [ozL 138 31 5,ozF 139 62 8 0,⟨none,.store 4 (ozT 139) (.const (.bool true)),none,[139]⟩,ozF 140 62 8 1,ozS 31 140 138] [0,0,2,7,15]
def zsr:SC:=.reg [ozl 142 28 3,ozm 143 1,ozl 144 62 8,ozE 145 78 142 143 144 28 3 62,ozm 141 145,ozx 146 141 0,ozx 147 141 1,ozs 28 3 146]
def zsq:SC:=.reg [ozl 148 28 3,ozs 28 6 148,ozk 7 0]
def zQj:SC:=(.seq z1y (.seq z1x (.seq z1w (.seq (.seq z1v (.cond (ozT 31) (.seq z1u .ret) .skip)) (.seq (.seq z1t (.seq z1s (.cond (ozT 43) (.seq z1r .ret) .skip))) (.seq z1q (.seq z1p (.seq (.seq zsA z14) (.seq (.seq zs5 z11) (.seq (.seq zsz z1z) (.seq zss (.seq zsr (.seq zsq .ret)))))))))))))
theorem zQW:Tryz.f62.body.bind zz=some zQj:=by kernel_rfl
def z1G:SC:=.reg [ozb 3 28 0,ozb 4 31 1,ozb 5 31 2,oze 6 28]
def z1F:SC:=.reg [ozf 11 31 4 2,ozl 12 3 11,ozf 13 31 5 2,ozl 14 3 13,⟨some 15,.binOp .eql 3 (ozT 12) (ozT 14) 3,none⟩]
def z1E:SC:=.reg [ozl 16 28 3,ozs 28 6 16]
def z1D:SC:=.draw [ozF 17 31 4 2,ozL 18 3 17,ozF 19 31 5 2,ozL 20 3 19,⟨some 21,.call ⟨.builtin .min,#[.tmp 18,.tmp 20],#[3,3]⟩,none,[18,20]⟩,ozF 22 31 4 2,ozL 23 3 22,ozF 24 31 5 2,ozL 25 3 24,⟨some 26,.call ⟨.builtin .max,#[.tmp 23,.tmp 25],#[3,3]⟩,none,[23,25]⟩,⟨some 7,.assign (ozT 21),none,[21]⟩,⟨some 8,.assign (ozT 26),none,[26]⟩] [0,1,0,4,15,0,32,0,128,480,31,2047]
def z1C:SC:=.draw [ozF 27 28 3 0,ozL 28 25 27,ozM 29 7,ozI 30 25 28 29,ozL 31 62 30,ozF 32 28 3 0,ozL 33 25 32,ozM 34 8,ozI 35 25 33 34,ozL 36 62 35,⟨some 9,.alloc 62,none,[]⟩,⟨some 10,.alloc 62,none,[]⟩,ozS 62 9 31,ozS 62 10 36] [0,1,0,7,15,0,32,0,224,480,0,0,3103,8191]
def z1B:SC:=.draw [ozF 37 62 9 2,ozL 38 3 37,ozF 39 62 10 2,ozL 40 3 39,⟨some 41,.call ⟨.builtin .min,#[.tmp 38,.tmp 40],#[3,3]⟩,none,[38,40]⟩,ozF 42 62 9 3,ozL 43 4 42,ozM 44 43,ozH 45 62 10 3 44 false,ozG 46 4 45 44 false,ozX 47 44 46,ozF 48 62 9 2,ozS 3 48 41,ozF 49 62 9 3,ozS 4 49 47] [0,1,0,4,15,0,32,96,224,480,992,127,2303,8191,16383]
def z1A:SC:=.reg [ozm 50 7,ozC 51 29 50 3,ozf 52 62 10 0,⟨none,.store 4 (ozT 52) (.const (.bool true)),none⟩,ozf 53 62 10 1,ozs 31 53 51]
def z19:SC:=.reg [ozl 55 28 3,ozm 56 7,ozl 57 62 9,ozE 58 78 55 56 57 28 3 62,ozm 54 58,ozx 59 54 0,ozx 60 54 1,ozs 28 3 59]
def z18:SC:=.reg [ozl 62 28 3,ozm 63 8,ozl 64 62 10,ozE 65 78 62 63 64 28 3 62,ozm 61 65,ozx 66 61 0,ozx 67 61 1,ozs 28 3 66]
def z16:SC:=.reg [ozl 68 28 3,ozs 28 6 68]
def zQk:SC:=(.seq z1G (.seq (.seq z1F (.cond (ozT 15) (.seq z1E .ret) .skip)) (.seq z1D (.seq z1C (.seq z1B (.seq z1A (.seq z19 (.seq z18 (.seq z16 .ret)))))))))
theorem zQX:Tryz.f61.body.bind zz=some zQk:=by kernel_rfl
def z1I:SC:=.reg [ozb 2 28 0,ozb 3 31 1,ozg 4 false]
def z1H:SC:=.reg [ozf 5 31 3 0,ozl 6 3 5,ozY 7 3 6 1 3,ozm 8 7,ozu 9 31 3 2 8,ozp 10 3 9 8,⟨some 11,.binOp .geq 3 (ozT 10) (ozK 0) 3,some (8,true)⟩,ozr 12 8 11,ozm 13 12,ozu 14 31 3 2 13,ozp 15 3 14 13,ozu 16 28 2 0 13,ozp 17 25 16 13,ozW 18 17 25 13 true,⟨some 19,.binOp .lss 3 (ozT 15) (ozT 18) 3,some (13,true)⟩,ozr 20 13 19,oza 4 20]
def zQl:SC:=(.seq z1I (.seq z1H .ret))
theorem zQY:Tryz.f60.body.bind zz=some zQl:=by kernel_rfl
def z3I:SC:=.reg [ozb 3 28 0,ozb 4 31 1,ozb 5 31 2,oze 6 28,ozk 7 0]
def z3H:SC:=.reg [ozl 12 28 3,ozl 13 31 4,⟨some 14,.call ⟨.value (.func 17),#[.tmp 12,.tmp 13,(ozK 200)],#[28,31,3]⟩,none⟩,⟨some 15,.binOp .gtr 3 (ozT 14) (ozK 200) 3,none⟩,ozm 16 15,ozq 17 28 3 16,ozq 18 31 5 16,⟨some 19,.call ⟨.value (.func 17),#[.tmp 17,.tmp 18,(ozK 200)],#[28,31,3]⟩,some (16,false)⟩,⟨some 20,.binOp .gtr 3 (ozT 19) (ozK 200) 3,some (16,false)⟩,ozy 21 16 20]
def z3G:SC:=.reg [ozl 22 28 3,ozs 28 6 22,ozk 7 15]
def z3F:SC:=.draw [ozL 23 28 3,ozL 24 31 4,ozP 25 59 23 24 28 31,ozL 26 28 3,ozL 27 31 5,ozP 28 59 26 27 28 31,⟨some 8,.alloc 31,none,[]⟩,⟨some 9,.alloc 31,none,[]⟩,ozS 31 8 25,ozS 31 9 28] [0,0,3,0,0,31,0,0,255,511]
def z3E:SC:=.reg [ozl 30 28 3,ozl 31 31 8,ozD 32 60 30 31 28 31,ozm 33 32,ozp 34 28 3 33,ozp 35 31 9 33,⟨some 36,.call ⟨.value (.func 60),#[.tmp 34,.tmp 35],#[28,31]⟩,some (33,true)⟩,ozr 37 33 36,oza 29 37]
def z3D:SC:=.reg [ozl 38 28 3,ozl 39 31 8,ozl 40 31 9,ozE 41 61 38 39 40 28 31 31,ozs 28 6 41,ozk 7 0]
def z3C:SC:=.reg [ozl 43 28 3,ozl 44 31 8,ozD 45 60 43 44 28 31,oza 42 45]
def z3B:SC:=.reg [ozl 46 28 3,ozf 47 31 8 2,ozl 48 3 47,ozl 49 31 9,ozE 50 62 46 48 49 28 3 31,ozx 51 50 0,ozx 52 50 1,ozs 28 6 51,oza 7 52]
def z3A:SC:=.reg [ozl 54 28 3,ozl 55 31 9,ozD 56 60 54 55 28 31,oza 53 56]
def z3z:SC:=.reg [ozl 57 28 3,ozf 58 31 9 2,ozl 59 3 58,ozl 60 31 8,ozE 61 62 57 59 60 28 3 31,ozx 62 61 0,ozx 63 61 1,ozs 28 6 62,oza 7 63]
def ztd:SC:=.reg [ozf 65 31 8 0,ozl 66 3 65,ozf 67 31 9 0,ozl 68 3 67,⟨some 69,.binOp .neq 3 (ozT 66) (ozT 68) 3,none⟩,ozm 70 69,ozv 71 31 8 1 70,ozq 72 9 71 70,ozv 73 31 9 1 70,ozq 74 9 73 70,ozR 75 9 72 74 9 70,ozy 76 70 75,ozm 77 76,ozv 78 31 8 2 77,ozq 79 3 78 77,ozv 80 31 9 2 77,ozq 81 3 80 77,ozR 82 3 79 81 3 77,ozy 83 77 82,ozm 84 83,ozv 85 31 8 3 84,ozq 86 3 85 84,ozv 87 31 9 3 84,ozq 88 3 87 84,ozR 89 3 86 88 3 84,ozy 90 84 89,ozm 91 90,ozv 92 31 8 4 91,ozq 93 29 92 91,ozW 94 93 29 91 false,ozv 95 31 9 4 91,ozq 96 29 95 91,ozW 97 96 29 91 false,ozR 98 3 94 97 3 91,ozy 99 91 98,oza 64 99]
def ztc:SC:=.reg [ozl 100 28 3,ozs 28 6 100,ozk 7 11]
def z3L:SC:=.block 0 (.seq z3E (.cond (ozT 29) (.seq z3D .ret) (.seq z3C (.cond (ozT 42) (.seq z3B .ret) (.seq z3A (.cond (ozT 53) (.seq z3z .ret) (.seq ztd (.cond (ozT 64) (.seq ztc .ret) .skip))))))))
def ztb:SC:=.reg [ozk 10 0]
def zta:SC:=.reg [ozk 11 0]
def zsZ:SC:=.reg [ozm 101 11,ozf 102 31 8 4,ozl 103 29 102,ozh 104 103 29,ozo 105 3 101 104 3,ozm 106 105,ozU 107 10 106,⟨some 108,.binOp .eql 35 (ozT 107) (ozK 0) 35,some (106,true)⟩,ozr 109 106 108]
def zsY:SC:=.draw [ozL 113 28 3,ozF 114 31 8 4,ozL 115 29 114,ozM 116 11,ozI 117 29 115 116,ozL 118 31 117,ozF 119 31 9 4,ozL 120 29 119,ozM 121 11,ozI 122 29 120 121,ozL 123 31 122,⟨some 124,.call ⟨.value (.func 39),#[.tmp 113,.tmp 118,.tmp 123],#[28,31,31]⟩,none,[113,118,123]⟩,ozM 112 124,⟨some 125,.extract (ozT 112) 0,none,[112]⟩,⟨some 126,.extract (ozT 112) 1,none,[112]⟩,ozS 28 3 125,⟨some 10,.assign (ozT 126),none,[126]⟩] [0,0,2,0,14,30,0,64,0,448,960,2047,4095,8191,8191,16383,65535]
def z3K:SC:=.block 2 zsY
def zsX:SC:=.reg [ozm 110 11,ozd 111 3 110 1 3,oza 11 111]
def zox:SC:=(.seq (.seq zsZ (.cond (ozT 109) .skip (.exit 1))) (.seq z3K zsX))
def z3J:SC:=.block 1 (.loop zox)
def zsW:SC:=.reg [ozl 127 28 3,ozm 128 10,ozs 28 6 127,oza 7 128]
def zQy:SC:=(.seq z3I (.seq (.seq z3H (.cond (ozT 21) (.seq z3G .ret) .skip)) (.seq z3F (.seq z3L (.seq ztb (.seq (.seq zta z3J) (.seq zsW .ret)))))))
theorem zMS:Tryz.f39.body.bind zz=some zQy:=by kernel_rfl
def z2z:SC:=.reg [ozb 2 31 0,ozb 3 31 1,oze 4 31]
def z2y:SC:=.reg [ozl 5 31 2,ozl 6 31 3,⟨some 7,.buildSlice 29 2 #[(0,(ozT 5)),(1,(ozT 6))],none⟩,⟨some 8,.call ⟨.value (.func 53),#[(.const (.string ⟨#[45,62]⟩)),.tmp 7],#[9,29]⟩,none⟩,ozs 31 4 8]
def zQp:SC:=(.seq z2z (.seq z2y .ret))
theorem zRb:Tryz.f54.body.bind zz=some zQp:=by kernel_rfl
def z4j:SC:=.reg [oze 2 31]
def z4i:SC:=.reg [ozm 3 0,⟨some 4,.build 31 #[(0,(ozK 2)),(2,(ozT 3))],none⟩,ozs 31 2 4]
def zQ2:SC:=(.seq z4j (.seq z4i .ret))
theorem zRj:Tryz.f34.body.bind zz=some zQ2:=by kernel_rfl
def z2B:SC:=.reg [oze 4 31]
def z2A:SC:=.reg [ozm 5 0,ozm 6 1,⟨some 7,.call ⟨.builtin .append,#[(.const (.slice none 0 0)),.tmp 6],#[29,29]⟩,none⟩,⟨some 8,.build 31 #[(0,(ozK 4)),(1,(ozT 5)),(4,(ozT 7))],none⟩,ozs 31 4 8]
def zQq:SC:=(.seq z2B (.seq z2A .ret))
theorem zRc:Tryz.f53.body.bind zz=some zQq:=by kernel_rfl
def z3y:SC:=.reg [ozb 2 31 0,ozb 3 31 1,ozg 4 false]
def z3x:SC:=.reg [ozf 5 31 2 0,ozl 6 3 5,ozf 7 31 3 0,ozl 8 3 7,⟨some 9,.binOp .neq 3 (ozT 6) (ozT 8) 3,none⟩,ozm 10 9,ozv 11 31 2 1 10,ozq 12 9 11 10,ozv 13 31 3 1 10,ozq 14 9 13 10,ozR 15 9 12 14 9 10,ozy 16 10 15,ozm 17 16,ozv 18 31 2 2 17,ozq 19 3 18 17,ozv 20 31 3 2 17,ozq 21 3 20 17,ozR 22 3 19 21 3 17,ozy 23 17 22,ozm 24 23,ozv 25 31 2 3 24,ozq 26 3 25 24,ozv 27 31 3 3 24,ozq 28 3 27 24,ozR 29 3 26 28 3 24,ozy 30 24 29]
def z3w:SC:=.reg [ozg 4 false]
def z3v:SC:=.reg [ozf 31 31 2 4,ozl 32 29 31,ozf 33 31 3 4,ozl 34 29 33,ozD 35 63 32 34 29 29,oza 4 35]
def zQx:SC:=(.seq z3y (.seq (.seq z3x (.cond (ozT 30) (.seq z3w .ret) .skip)) (.seq z3v .ret)))
theorem zJw:Tryz.f40.body.bind zz=some zQx:=by kernel_rfl
def z1m:SC:=.reg [ozg 4 false]
def z1l:SC:=.reg [ozm 6 0,ozh 7 6 29,ozm 8 1,ozh 9 8 29,⟨some 10,.binOp .neq 3 (ozT 7) (ozT 9) 3,none⟩]
def z1k:SC:=.reg [ozg 4 false]
def z1j:SC:=.reg [ozk 5 0]
def z1i:SC:=.reg [ozm 11 5,ozm 12 0,ozh 13 12 29,ozo 14 3 11 13 3]
def z1h:SC:=.draw [ozM 17 0,ozM 18 5,ozI 19 29 17 18,ozL 20 31 19,ozM 21 1,ozM 22 5,ozI 23 29 21 22,ozL 24 31 23,ozP 25 40 20 24 31 31,⟨some 26,.unOp .not 4 (ozT 25),none,[25]⟩] [0,0,3,7,0,0,48,112,255,511]
def z1g:SC:=.reg [ozg 4 false]
def z1o:SC:=.block 1 (.seq z1h (.cond (ozT 26) (.seq z1g .ret) .skip))
def z1f:SC:=.reg [ozm 15 5,ozd 16 3 15 1 3,oza 5 16]
def zow:SC:=(.seq (.seq z1i (.cond (ozT 14) .skip (.exit 0))) (.seq z1o z1f))
def z1n:SC:=.block 0 (.loop zow)
def z1e:SC:=.reg [ozg 4 true]
def zQi:SC:=(.seq z1m (.seq (.seq z1l (.cond (ozT 10) (.seq z1k .ret) .skip)) (.seq (.seq z1j z1n) (.seq z1e .ret))))
theorem zQV:Tryz.f63.body.bind zz=some zQi:=by kernel_rfl
def z1b:SC:=.reg [ozg 4 false]
def z1a:SC:=.reg [ozk 5 0]
def z0Z:SC:=.reg [ozm 6 5,ozm 7 0,ozh 8 7 22,ozo 9 3 6 8 3]
def z0Y:SC:=.reg [ozm 12 0,ozm 13 5,ozi 14 22 12 13,ozl 15 3 14,ozm 16 1,⟨some 17,.binOp .eql 3 (ozT 15) (ozT 16) 3,none⟩]
def z0X:SC:=.reg [ozg 4 true]
def z1d:SC:=.block 1 (.seq z0Y (.cond (ozT 17) (.seq z0X .ret) .skip))
def z0W:SC:=.reg [ozm 10 5,ozd 11 3 10 1 3,oza 5 11]
def zov:SC:=(.seq (.seq z0Z (.cond (ozT 9) .skip (.exit 0))) (.seq z1d z0W))
def z1c:SC:=.block 0 (.loop zov)
def z0V:SC:=.reg [ozg 4 false]
def zQh:SC:=(.seq z1b (.seq (.seq z1a z1c) (.seq z0V .ret)))
theorem zQU:Tryz.f66.body.bind zz=some zQh:=by kernel_rfl
def z2D:SC:=.reg [oze 0 31]
def z2C:SC:=.reg [⟨some 1,.call ⟨.value (.func 53),#[(.const (.string ⟨#[73,110,116]⟩)),(.const (.slice none 0 0))],#[9,29]⟩,none⟩,ozs 31 0 1]
def zQr:SC:=(.seq z2D (.seq z2C .ret))
theorem zRd:Tryz.f52.body.bind zz=some zQr:=by kernel_rfl
def z4M:SC:=.reg [ozb 1 31 0,oze 2 31,oze 3 31,ozg 4 false]
def z4L:SC:=.reg [ozf 5 31 1 0,ozl 6 3 5,ozY 7 3 6 4 3,ozm 8 7,ozu 9 31 1 1 8,ozp 10 9 9 8,⟨some 11,.binOp .eql 9 (ozT 10) (.const (.string ⟨#[45,62]⟩)) 9,some (8,true)⟩,ozr 12 8 11,ozm 13 12,ozu 14 31 1 4 13,ozp 15 29 14 13,ozW 16 15 29 13 true,⟨some 17,.binOp .eql 3 (ozT 16) (ozK 2) 3,some (13,true)⟩,ozr 18 13 17]
def z4K:SC:=.draw [ozF 19 31 1 4,ozL 20 29 19,⟨some 21,.indexAddr 29 (ozT 20) (ozK 0),none,[20]⟩,ozL 22 31 21,ozF 23 31 1 4,ozL 24 29 23,⟨some 25,.indexAddr 29 (ozT 24) (ozK 1),none,[24]⟩,ozL 26 31 25,ozS 31 2 22,ozS 31 3 26,⟨some 4,.assign (.const (.bool true)),none,[]⟩] [0,1,3,7,0,16,48,112,15,511,1023]
def z4J:SC:=.reg [⟨some 27,.build 31 #[],none⟩,⟨some 28,.build 31 #[],none⟩,ozs 31 2 27,ozs 31 3 28,ozg 4 false]
def zQ6:SC:=(.seq z4M (.seq (.seq z4L (.cond (ozT 18) (.seq z4K .ret) .skip)) (.seq z4J .ret)))
theorem zRn:Tryz.f30.body.bind zz=some zQ6:=by kernel_rfl
def z4Y:SC:=.reg [ozb 2 31 0,oze 4 31]
def z4X:SC:=.reg [ozf 8 31 2 0,ozl 9 3 8,ozY 10 3 9 1 3]
def z4W:SC:=.reg [ozk 5 0]
def z4V:SC:=.reg [ozm 11 5,ozm 12 1,ozh 13 12 57,ozo 14 3 11 13 3]
def z4U:SC:=.draw [ozM 17 1,ozM 18 5,ozI 19 57 17 18,ozF 20 91 19 0,ozL 21 3 20,ozF 22 31 2 2,ozL 23 3 22,⟨some 24,.binOp .eql 3 (ozT 21) (ozT 23) 3,none,[21,23]⟩] [0,0,3,7,15,0,32,127]
def z4T:SC:=.reg [ozm 25 1,ozm 26 5,ozi 27 57 25 26,ozf 28 91 27 1,ozl 29 31 28,ozs 31 4 29]
def z5c:SC:=.block 1 (.seq z4U (.cond (ozT 24) (.seq z4T .ret) .skip))
def z4S:SC:=.reg [ozm 15 5,ozd 16 3 15 1 3,oza 5 16]
def zoz:SC:=(.seq (.seq z4V (.cond (ozT 14) .skip (.exit 0))) (.seq z5c z4S))
def z5b:SC:=.block 0 (.loop zoz)
def z4R:SC:=.reg [ozl 30 31 2,ozs 31 4 30]
def z4Q:SC:=.reg [ozl 31 31 2,oze 6 31,ozs 31 6 31]
def z4P:SC:=.reg [ozf 32 31 6 4,⟨none,.store 29 (ozT 32) (.const (.slice none 0 0)),none⟩]
def ztq:SC:=.reg [ozk 7 0]
def ztp:SC:=.reg [ozm 33 7,ozf 34 31 2 4,ozl 35 29 34,ozh 36 35 29,ozo 37 3 33 36 3]
def zto:SC:=.draw [ozF 40 31 6 4,ozL 41 29 40,ozF 42 31 2 4,ozL 43 29 42,ozM 44 7,ozI 45 29 43 44,ozL 46 31 45,ozM 47 1,ozP 48 28 46 47 31 57,⟨some 49,.buildSlice 29 1 #[(0,(ozT 48))],none,[48]⟩,⟨some 50,.call ⟨.builtin .append,#[.tmp 41,.tmp 49],#[29,29]⟩,none,[41,49]⟩,ozF 51 31 6 4,ozS 29 51 50] [0,1,0,4,0,28,60,0,252,508,1023,2047,4095]
def z5a:SC:=.block 3 zto
def ztn:SC:=.reg [ozm 38 7,ozd 39 3 38 1 3,oza 7 39]
def zlK:SC:=(.seq (.seq ztp (.cond (ozT 37) .skip (.exit 2))) (.seq z5a ztn))
def z4Z:SC:=.block 2 (.loop zlK)
def ztm:SC:=.reg [ozl 52 31 6,ozs 31 4 52]
def zQ8:SC:=(.seq z4Y (.seq (.seq z4X (.cond (ozT 10) (.seq (.seq z4W z5b) (.seq z4R .ret)) .skip)) (.seq z4Q (.seq z4P (.seq (.seq ztq z4Z) (.seq ztm .ret))))))
theorem zMU:Tryz.f28.body.bind zz=some zQ8:=by kernel_rfl
def z4z:SC:=.reg [oze 4 31]
def z4y:SC:=.reg [ozm 5 0,ozm 6 1,⟨some 7,.build 31 #[(0,(ozK 3)),(3,(ozT 5)),(2,(ozT 6))],none⟩,ozs 31 4 7]
def zQ4:SC:=(.seq z4z (.seq z4y .ret))
theorem zRl:Tryz.f32.body.bind zz=some zQ4:=by kernel_rfl
def z4G:SC:=.reg [ozO 2 0 0]
def z4F:SC:=.reg [ozO 3 0 0]
def z4E:SC:=.reg [ozk 4 0]
def z4D:SC:=.reg [ozm 5 4,ozm 6 0,ozh 7 6 29,ozo 8 3 5 7 3]
def z4C:SC:=.reg [ozm 11 3,ozm 12 0,ozm 13 4,ozi 14 29 12 13,ozl 15 31 14,⟨some 16,.call ⟨.value (.func 56),#[.tmp 11,.tmp 15,(ozK 3)],#[29,31,3]⟩,none⟩,oza 3 16]
def z4I:SC:=.block 1 z4C
def z4B:SC:=.reg [ozm 9 4,ozd 10 3 9 1 3,oza 4 10]
def zlJ:SC:=(.seq (.seq z4D (.cond (ozT 8) .skip (.exit 0))) (.seq z4I z4B))
def z4H:SC:=.block 0 (.loop zlJ)
def z4A:SC:=.reg [ozm 17 3,oza 2 17]
def zQ5:SC:=(.seq z4G (.seq z4F (.seq (.seq z4E z4H) (.seq z4A .ret))))
theorem zRm:Tryz.f31.body.bind zz=some zQ5:=by kernel_rfl
def z4O:SC:=.reg [oze 2 31]
def z4N:SC:=.reg [ozm 3 0,⟨some 4,.build 31 #[(0,(ozK 1)),(2,(ozT 3))],none⟩,ozs 31 2 4]
def zQ7:SC:=(.seq z4O (.seq z4N .ret))
theorem zRo:Tryz.f29.body.bind zz=some zQ7:=by kernel_rfl
def z2t:SC:=.reg [ozb 4 31 1,ozO 6 0 0]
def z2s:SC:=.reg [ozf 9 31 4 0,ozl 10 3 9,ozm 11 2,⟨some 12,.binOp .eql 3 (ozT 10) (ozT 11) 3,none⟩,ozm 13 12,ozu 14 31 4 4 13,ozp 15 29 14 13,ozW 16 15 29 13 true,⟨some 17,.binOp .eql 3 (ozT 16) (ozK 0) 3,some (13,true)⟩,ozr 18 13 17]
def z2r:SC:=.reg [ozk 7 0]
def z2q:SC:=.reg [ozm 19 7,ozm 20 0,ozh 21 20 29,ozo 22 3 19 21 3]
def z2p:SC:=.draw [ozM 25 0,ozM 26 7,ozI 27 29 25 26,ozL 28 31 27,ozL 29 31 4,ozP 30 40 28 29 31 31] [0,0,3,7,0,31]
def z2o:SC:=.reg [ozm 31 0,oza 6 31]
def z2x:SC:=.block 1 (.seq z2p (.cond (ozT 30) (.seq z2o .ret) .skip))
def z2n:SC:=.reg [ozm 23 7,ozd 24 3 23 1 3,oza 7 24]
def zlF:SC:=(.seq (.seq z2q (.cond (ozT 22) .skip (.exit 0))) (.seq z2x z2n))
def z2w:SC:=.block 0 (.loop zlF)
def z2m:SC:=.reg [ozm 32 0,ozl 33 31 4,ozV 34 29 1 0 33,ozQ 35 32 34 29 29,oza 6 35]
def z2l:SC:=.reg [ozk 8 0]
def z2k:SC:=.reg [ozm 36 8,ozf 37 31 4 4,ozl 38 29 37,ozh 39 38 29,ozo 40 3 36 39 3]
def zsS:SC:=.reg [ozm 43 0,ozf 44 31 4 4,ozl 45 29 44,ozm 46 8,ozi 47 29 45 46,ozl 48 31 47,ozm 49 2,ozE 50 56 43 48 49 29 31 3,oza 0 50]
def z2v:SC:=.block 3 zsS
def zsR:SC:=.reg [ozm 41 8,ozd 42 3 41 1 3,oza 8 42]
def zgu:SC:=(.seq (.seq z2k (.cond (ozT 40) .skip (.exit 2))) (.seq z2v zsR))
def z2u:SC:=.block 2 (.loop zgu)
def zsQ:SC:=.reg [ozm 51 0,oza 6 51]
def zQo:SC:=(.seq z2t (.seq (.seq z2s (.cond (ozT 18) (.seq (.seq z2r z2w) (.seq z2m .ret)) .skip)) (.seq (.seq z2l z2u) (.seq zsQ .ret))))
theorem zMP:Tryz.f56.body.bind zz=some zQo:=by kernel_rfl
def zuK:SC:=.reg [ozb 1 31 0,oze 2 31,oze 3 31,ozg 4 false]
def zuJ:SC:=.reg [ozf 5 31 1 0,ozl 6 3 5,⟨some 7,.binOp .neq 3 (ozT 6) (ozK 4) 3,none⟩,ozm 8 7,ozv 9 31 1 1 8,ozq 10 9 9 8,⟨some 11,.binOp .neq 9 (ozT 10) (.const (.string ⟨#[45,62]⟩)) 9,some (8,false)⟩,ozy 12 8 11,ozm 13 12,ozv 14 31 1 4 13,ozq 15 29 14 13,ozW 16 15 29 13 false,⟨some 17,.binOp .neq 3 (ozT 16) (ozK 2) 3,some (13,false)⟩,ozy 18 13 17]
def zuI:SC:=.reg [⟨some 19,.build 31 #[],none⟩,⟨some 20,.build 31 #[],none⟩,ozs 31 2 19,ozs 31 3 20,ozg 4 false]
def zuH:SC:=.draw [ozF 21 31 1 4,ozL 22 29 21,⟨some 23,.indexAddr 29 (ozT 22) (ozK 0),none,[22]⟩,ozL 24 31 23,ozF 25 31 1 4,ozL 26 29 25,⟨some 27,.indexAddr 29 (ozT 26) (ozK 1),none,[26]⟩,ozL 28 31 27,ozS 31 2 24,ozS 31 3 28,⟨some 4,.assign (.const (.bool true)),none,[]⟩] [0,1,3,7,0,16,48,112,15,511,1023]
def zF5:SC:=(.seq zuK (.seq (.seq zuJ (.cond (ozT 18) (.seq zuI .ret) .skip)) (.seq zuH .ret)))
theorem zFG:Tryz.f101.body.bind zz=some zF5:=by kernel_rfl
def zu4:SC:=.reg [oze 2 31]
def zu3:SC:=.reg [ozm 3 0,⟨some 4,.build 31 #[(0,(ozK 1)),(2,(ozT 3))],none⟩,ozs 31 2 4]
def zF3:SC:=(.seq zu4 (.seq zu3 .ret))
theorem zFE:Tryz.f104.body.bind zz=some zF3:=by kernel_rfl
def z6q:SC:=.reg [ozb 3 28 0,ozb 4 31 1,ozb 5 31 2,oze 6 28,ozk 7 0]
def z6p:SC:=.draw [ozF 10 28 3 0,ozL 11 25 10,⟨some 12,.call ⟨.value (.func 35),#[.tmp 11],#[25]⟩,none,[11]⟩,ozF 13 28 3 1,ozL 14 26 13,⟨some 15,.call ⟨.value (.func 36),#[.tmp 14],#[26]⟩,none,[14]⟩,⟨some 16,.build 28 #[(0,(ozT 12)),(1,(ozT 15))],none,[12,15]⟩,⟨some 8,.alloc 28,none,[]⟩,ozS 28 8 16] [0,1,3,0,8,31,63,0,255]
def z6o:SC:=.reg [ozl 17 31 4,ozl 18 31 5,ozE 19 37 8 17 18 74 31 31,oza 9 19]
def z6n:SC:=.reg [ozm 20 9,⟨some 21,.binOp .neq 35 (ozT 20) (ozK 0) 35,none⟩]
def z6m:SC:=.reg [ozl 22 28 3,ozm 23 9,ozs 28 6 22,oza 7 23]
def z6l:SC:=.draw [ozF 24 28 8 0,ozL 25 25 24,⟨some 26,.call ⟨.value (.func 38),#[.tmp 25],#[25]⟩,none,[25]⟩,ozF 27 28 8 1,ozL 28 26 27,⟨some 29,.call ⟨.value (.func 36),#[.tmp 28],#[26]⟩,none,[28]⟩,ozF 30 28 8 0,ozS 25 30 26,ozF 31 28 8 1,ozS 26 31 29] [0,1,3,0,8,31,63,127,255,511]
def z6k:SC:=.reg [ozl 32 28 8,ozs 28 6 32,ozk 7 0]
def zQJ:SC:=(.seq z6q (.seq z6p (.seq (.seq z6o (.seq z6n (.cond (ozT 21) (.seq z6m .ret) .skip))) (.seq z6l (.seq z6k .ret)))))
theorem zRy:Tryz.f11.body.bind zz=some zQJ:=by kernel_rfl
def z3X:SC:=.reg [ozb 4 31 1,ozb 5 31 2,ozk 6 0]
def z3W:SC:=.reg [ozm 14 0,⟨some 15,.build 95 #[(0,(ozT 14))],none⟩,ozb 16 95 15,oza 7 16]
def z3V:SC:=.reg [ozl 17 31 4,ozl 18 31 5,⟨some 19,.build 97 #[(0,(ozT 17)),(1,(ozT 18))],none⟩,ozV 20 98 1 0 19,oze 8 98,ozs 98 8 20]
def z3U:SC:=.reg [ozl 21 98 8,ozh 22 21 98,⟨some 23,.binOp .gtr 3 (ozT 22) (ozK 0) 3,none⟩]
def z3T:SC:=.reg [ozl 24 98 8,ozh 25 24 98,⟨some 26,.binOp .sub 3 (ozT 25) (ozK 1) 3,none⟩,oza 9 26]
def z3S:SC:=.reg [ozm 28 7,ozl 29 98 8,ozm 30 9,ozi 31 98 29 30,ozl 32 97 31,ozD 33 57 28 32 93 97,ozm 27 33,ozx 34 27 0,ozx 35 27 1,oza 10 34,oza 11 35]
def z3R:SC:=.reg [ozm 36 11,⟨some 37,.binOp .neq 35 (ozT 36) (ozK 0) 35,none⟩]
def z3Q:SC:=.reg [ozm 38 11,oza 6 38]
def z3P:SC:=.reg [ozl 39 98 8,ozm 40 9,⟨some 41,.slice 98 (ozT 39) none (some (ozT 40)) none,none⟩,ozs 98 8 41]
def z3O:SC:=.reg [ozm 42 10,ozC 43 58 42 98]
def ztg:SC:=.reg [oze 13 97,ozs 97 13 45]
def ztf:SC:=.reg [ozl 46 98 8,ozl 47 97 13,ozV 48 98 1 0 47,ozQ 49 46 48 98 98,ozs 98 8 49]
def z4b:SC:=.block 3 ztf
def znm:SC:=ztg
def zgf:SC:=z4b
def z4a:SC:=.block 2 (.range (ozT 43) #[44,45] znm zgf)
def z3Z:SC:=.block 1 (.seq z3T (.seq z3S (.seq (.seq z3R (.cond (ozT 37) (.seq z3Q .ret) .skip)) (.seq z3P (.seq z3O z4a)))))
def zcz:SC:=(.seq (.seq z3U (.cond (ozT 23) .skip (.exit 0))) z3Z)
def z3Y:SC:=.block 0 (.loop zcz)
def zte:SC:=.reg [ozk 6 0]
def zJt:SC:=(.seq z3X (.seq z3W (.seq z3V (.seq z3Y (.seq zte .ret)))))
theorem zMT:Tryz.f37.body.bind zz=some zJt:=by kernel_rfl
attribute [simp] zQK zF6 zuW zuV zuU zuT zo7 zuS zuR zuQ zuP zuO zuN zuM zuL zF5 zuK zuJ zuI zuH zF4 zuG zuF z9v zuE zuD zo6 zuC zuB zuA zu9 zu8 zu7 zu6 zu5 zF3 zu4 zu3 zF2 zu1 zu0 zuz zuy zux zo5 zo4 zuw zuv zuu zut zus zur zuq zup zF1 zuo zun z6x z6w z6v z6u z6t z6s z6r zQJ zF0 zum zul zuk zuj zui zuh zug zuf zue zFz zua ztZ z6q z6p z6o z6n z6m z6l z6k zQI zFy ztY ztX ztW ztV zo3 zo2 zo1 zo0 ztU ztT ztS ztR ztQ ztP ztO ztN zFx ztM ztL ztK ztJ ztI ztH ztG ztF ztE ztD z9u ztC ztB z9t ztA zt9 z6j z6i z6h z6g z6f z9s zt8 zt7 zt6 zt5 zt4 zt3 zt2 zt1 zt0 ztz zQH z6e z6d zQG z6c z6b z6a z5Z zQF z5Y z5X zQE z5W z5V z5U z5T zty z5S z5R z5Q z5P z5O z5N z5M z5L zQD z5K z5J zQC z5I z5H z5G z5F z5E zQB z5D z5C z5B z5A z5z zQA z5y z5x z5w z5v z5u ztx ztw ztv ztu ztt zts ztr z5t z5s z5r z5q z5p z5o z5n z5m zQ9 z5l z5k z5j z5i z5h z5g z5f z5e z5d zQ8 z5c z5b z5a z4Z z4Y z4X ztq ztp zto ztn ztm z4W z4V z4U z4T z4S z4R z4Q z4P zQ7 z4O z4N zQ6 z4M z4L z4K z4J zQ5 z4I z4H z4G z4F z4E z4D z4C z4B z4A zQ4 z4z z4y zQ3 z4x z4w z4v z4u z4t z4s ztk ztj zti zth z4r z4q z4p z4o z4n z4m z4l z4k zQ2 z4j z4i zQ1 z4h z4g z4f z4e zQ0 z4d z4c zJt z4b z4a z3Z z3Y z3X z3W ztg ztf zte z3V z3U z3T z3S z3R z3Q z3P z3O zQz z3N z3M zQy z3L z3K z3J z3I z3H ztd ztc ztb zta zsZ zsY zsX zsW z3G z3F z3E z3D z3C z3B z3A z3z zQx z3y z3x z3w z3v zQw z3u z3t z3s z3r zsV zsU z3q z3p z3o z3n z3m z3l z3k z3j zQv z3i z3h z3g z3f z3e z3d z3c z3b z3a z2Z zQu z2Y z2X z2W z2V z2U z2T z2S z2R z2Q z2P z2O zQt z2N z2M z2L fS5 zQs z2K z2J z2I z2H z2G z2F z2E zQr z2D z2C zQq z2B z2A zQp z2z z2y zQo z2x z2w z2v z2u z2t z2s zsS zsR zsQ z2r z2q z2p z2o z2n z2m z2l z2k zJs z2j z2i z2h z2g z2f zsP zsO zsN zsM zsL zsK zsJ zsI zsH zsG z2e zsF zsE zsD zsC zsB z2d z2c z2a z1Z z1Y z1X z1W zQn z1V z1U zQm z1T z1S z1R z1Q z1P z1O z1N z1M zFw zFv z1L z1K z1J zFu zFt zFs zFr zFq zFp zFo zFn zQl z1I z1H zQk z1G z1F z1E z1D z1C z1B z1A z19 z18 z16 zQj z15 z14 z13 z11 z10 z1z z1y z1x zsA zs9 zs8 zs7 zs6 zs5 zs4 zs3 zs2 zs1 z1w zsz zsy zsx zsw zsv zsu zst zss zsr zsq z1v z1u z1t z1s z1r z1q z1p zQi z1o z1n z1m z1l z1k z1j z1i z1h z1g z1f z1e zQh z1d z1c z1b z1a z0Z z0Y z0X z0W z0V zML z0U z0T z0S z0R z0Q z0P z0O z0N z0M zQg z0L z0K zMK z0J z0I z0H z0G zJr z0F z0E z0D z0C z0B z0A z09 zMJ z08 z07 z06 z05 z04 zsp zso zsn zsm zsl zsk zsj zsi zsh zsg z03 z02 z01 z00 z0z z0y z0x z0w zQf z0v z0u zQe z0t z0s z0r z0q z0p z0o z0n zQd z0m z0l z0k z0j z0i z0h z0g z0f z0e zQc z0d z0c zQb z0b z0a zzZ zzY zsf zse zsd zsc zsb zsa zrZ zzX zzW zzV zzU zzT zzS zzR zzQ fS9 zMI zzP zzO zzN zzM zzL zMH zzK zzJ zzI zzH zFf zFe
end Go.Proofs.YtfgmnebfhemnpaaGreat
