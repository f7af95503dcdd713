import Derived.Test.YtfloillkpbhhhaaGreatNSN
import Derived.Test.YtfloillkpbhhhaaGreatJK6
import Derived.Test.YtfloillkpbhhhaaGreatRows
import Derived.Test.YtfloillkpbhhhaaGreatJK8
import Derived.Test.YtfloillkpbhhhaaGreatJK7
set_option linter.all false
noncomputable section
namespace Go.Proofs.YtfloillkpbhhhaaGreat
open Go.J
variable {D:EmbD}{Q:Ex->PT V->HS->Prop}{f:FuncId}{a b:G}{C:HS}{i:Int}{d k n nn:Nat}{T:PT V}{s sc:SC}{t:Tp}{α:Type}{r v:V}{K:V->Z V->V}{cU:Z (Z V)}{l m:Z G}{vs:Z V}
def I3:TI:=(ti Pg 3).getD ⟨.bool,0,0,[],false⟩
@[simp] def ti3:ti Pg 3=some I3/\I3.size=1/\I3.bytes=8/\I3.zero=[.int .i64 0]/\I3.qK=false/\I3.desc=.int .i64:=by and_intros<;>kernel_rfl
def I4:TI:=(ti Pg 4).getD ⟨.bool,0,0,[],false⟩
@[simp] def ti4:ti Pg 4=some I4/\I4.size=1/\I4.bytes=1/\I4.zero=[.bool false]/\I4.qK=false/\I4.desc=.bool:=by and_intros<;>kernel_rfl
def I9:TI:=(ti Pg 9).getD ⟨.bool,0,0,[],false⟩
@[simp] def ti9:ti Pg 9=some I9/\I9.size=1/\I9.bytes=16/\I9.zero=[.str []]/\I9.qK=false/\I9.desc=.string:=by and_intros<;>kernel_rfl
def zBo:TI:=(ti Pg 22).getD ⟨.bool,0,0,[],false⟩
@[simp] def zNb:ti Pg 22=some zBo/\zBo.size=1/\zBo.bytes=24/\zBo.zero=[.aE]/\zBo.qK=false/\zBo.desc=.slice 3:=by and_intros<;>kernel_rfl
def Dg:TI:=(ti Pg 27).getD ⟨.bool,0,0,[],false⟩
def zp2:Field:=(bD Dg 0).getD default
def zp1:Field:=(bD Dg 1).getD default
@[simp] def zNa:ti Pg 27=some Dg/\Dg.size=2/\Dg.bytes=32/\Dg.zero=[.aE,.int .i64 0]/\Dg.qK=true/\kG Dg.desc=true/\iX Dg.desc=true/\jH Pg (fieldsOf Dg.desc)=true/\bD Dg 0=some zp2/\zp2.type=22/\zp2.offset=0/\bD Dg 1=some zp1/\zp1.type=3/\zp1.offset=1:=by and_intros<;>kernel_rfl
def zBn:TI:=(ti Pg 28).getD ⟨.bool,0,0,[],false⟩
@[simp] def zM9:ti Pg 28=some zBn/\zBn.size=1/\zBn.bytes=24/\zBn.zero=[.aE]/\zBn.qK=false/\zBn.desc=.slice 74:=by and_intros<;>kernel_rfl
def PF:TI:=(ti Pg 30).getD ⟨.bool,0,0,[],false⟩
@[simp] def zM8:ti Pg 30=some PF/\PF.size=1/\PF.bytes=24/\PF.zero=[.aE]/\PF.qK=false/\PF.desc=.slice 64:=by and_intros<;>kernel_rfl
def PJ:TI:=(ti Pg 33).getD ⟨.bool,0,0,[],false⟩
@[simp] def zM7:ti Pg 33=some PJ/\PJ.size=1/\PJ.bytes=24/\PJ.zero=[.aE]/\PJ.qK=false/\PJ.desc=.slice 35:=by and_intros<;>kernel_rfl
def Z8:TI:=(ti Pg 35).getD ⟨.bool,0,0,[],false⟩
def zp0:Field:=(bD Z8 0).getD default
def zpZ:Field:=(bD Z8 1).getD default
def zpY:Field:=(bD Z8 2).getD default
def zpX:Field:=(bD Z8 3).getD default
def zpW:Field:=(bD Z8 4).getD default
@[simp] def zIA:ti Pg 35=some Z8/\Z8.size=5/\Z8.bytes=64/\Z8.zero=[.int .i64 0,.str [],.int .i64 0,.int .i64 0,.aE]/\Z8.qK=true/\kG Z8.desc=true/\iX Z8.desc=true/\jH Pg (fieldsOf Z8.desc)=true/\bD Z8 0=some zp0/\zp0.type=3/\zp0.offset=0/\bD Z8 1=some zpZ/\zpZ.type=9/\zpZ.offset=1/\bD Z8 2=some zpY/\zpY.type=3/\zpY.offset=2/\bD Z8 3=some zpX/\zpX.type=3/\zpX.offset=3/\bD Z8 4=some zpW/\zpW.type=33/\zpW.offset=4:=by and_intros<;>kernel_rfl
def zBm:TI:=(ti Pg 45).getD ⟨.bool,0,0,[],false⟩
@[simp] def zM6:ti Pg 45=some zBm/\zBm.size=1/\zBm.bytes=24/\zBm.zero=[.aE]/\zBm.qK=false/\zBm.desc=.slice 48:=by and_intros<;>kernel_rfl
def zBl:TI:=(ti Pg 46).getD ⟨.bool,0,0,[],false⟩
@[simp] def zM5:ti Pg 46=some zBl/\zBl.size=1/\zBl.bytes=24/\zBl.zero=[.aE]/\zBl.qK=false/\zBl.desc=.slice 108:=by and_intros<;>kernel_rfl
def VM:TI:=(ti Pg 48).getD ⟨.bool,0,0,[],false⟩
def zpV:Field:=(bD VM 0).getD default
def zpU:Field:=(bD VM 1).getD default
def zpT:Field:=(bD VM 2).getD default
def zpS:Field:=(bD VM 3).getD default
def zpR:Field:=(bD VM 4).getD default
def zpQ:Field:=(bD VM 5).getD default
def zpP:Field:=(bD VM 6).getD default
@[simp] def zM4:ti Pg 48=some VM/\VM.size=11/\VM.bytes=152/\VM.zero=[.int .i64 0,.int .i64 0,.str [],.int .i64 0,.aE,.aE,.int .i64 0,.str [],.int .i64 0,.int .i64 0,.aE]/\VM.qK=true/\kG VM.desc=true/\iX VM.desc=true/\jH Pg (fieldsOf VM.desc)=true/\bD VM 0=some zpV/\zpV.type=3/\zpV.offset=0/\bD VM 1=some zpU/\zpU.type=3/\zpU.offset=1/\bD VM 2=some zpT/\zpT.type=9/\zpT.offset=2/\bD VM 3=some zpS/\zpS.type=3/\zpS.offset=3/\bD VM 4=some zpR/\zpR.type=45/\zpR.offset=4/\bD VM 5=some zpQ/\zpQ.type=46/\zpQ.offset=5/\bD VM 6=some zpP/\zpP.type=35/\zpP.offset=6:=by and_intros<;>kernel_rfl
def zBk:TI:=(ti Pg 52).getD ⟨.bool,0,0,[],false⟩
@[simp] def zM3:ti Pg 52=some zBk/\zBk.size=1/\zBk.bytes=24/\zBk.zero=[.aE]/\zBk.qK=false/\zBk.desc=.slice 9:=by and_intros<;>kernel_rfl
def zBj:TI:=(ti Pg 56).getD ⟨.bool,0,0,[],false⟩
@[simp] def zM2:ti Pg 56=some zBj/\zBj.size=1/\zBj.bytes=8/\zBj.zero=[.int .i64 0]/\zBj.qK=false/\zBj.desc=.int .i64:=by and_intros<;>kernel_rfl
def DA:TI:=(ti Pg 62).getD ⟨.bool,0,0,[],false⟩
def zpO:Field:=(bD DA 0).getD default
def zpN:Field:=(bD DA 1).getD default
@[simp] def zM1:ti Pg 62=some DA/\DA.size=6/\DA.bytes=72/\DA.zero=[.int .i64 0,.int .i64 0,.str [],.int .i64 0,.int .i64 0,.aE]/\DA.qK=true/\kG DA.desc=true/\iX DA.desc=true/\jH Pg (fieldsOf DA.desc)=true/\bD DA 0=some zpO/\zpO.type=3/\zpO.offset=0/\bD DA 1=some zpN/\zpN.type=35/\zpN.offset=1:=by and_intros<;>kernel_rfl
def B9:TI:=(ti Pg 64).getD ⟨.bool,0,0,[],false⟩
def zpM:Field:=(bD B9 0).getD default
def zpL:Field:=(bD B9 1).getD default
@[simp] def zIz:ti Pg 64=some B9/\B9.size=7/\B9.bytes=88/\B9.zero=[.str [],.int .i64 0,.int .i64 0,.str [],.int .i64 0,.int .i64 0,.aE]/\B9.qK=true/\kG B9.desc=true/\iX B9.desc=true/\jH Pg (fieldsOf B9.desc)=true/\bD B9 0=some zpM/\zpM.type=9/\zpM.offset=0/\bD B9 1=some zpL/\zpL.type=62/\zpL.offset=1:=by and_intros<;>kernel_rfl
def zBi:TI:=(ti Pg 72).getD ⟨.bool,0,0,[],false⟩
@[simp] def zM0:ti Pg 72=some zBi/\zBi.size=1/\zBi.bytes=24/\zBi.zero=[.aE]/\zBi.qK=false/\zBi.desc=.slice 91:=by and_intros<;>kernel_rfl
def wk:TI:=(ti Pg 74).getD ⟨.bool,0,0,[],false⟩
def zpK:Field:=(bD wk 0).getD default
def zpJ:Field:=(bD wk 1).getD default
def zpI:Field:=(bD wk 2).getD default
def zpH:Field:=(bD wk 3).getD default
@[simp] def zMZ:ti Pg 74=some wk/\wk.size=4/\wk.bytes=72/\wk.zero=[.int .i64 0,.str [],.aE,.aE]/\wk.qK=true/\kG wk.desc=true/\iX wk.desc=true/\jH Pg (fieldsOf wk.desc)=true/\bD wk 0=some zpK/\zpK.type=3/\zpK.offset=0/\bD wk 1=some zpJ/\zpJ.type=9/\zpJ.offset=1/\bD wk 2=some zpI/\zpI.type=52/\zpI.offset=2/\bD wk 3=some zpH/\zpH.type=72/\zpH.offset=3:=by and_intros<;>kernel_rfl
def zBh:TI:=(ti Pg 75).getD ⟨.bool,0,0,[],false⟩
@[simp] def zMY:ti Pg 75=some zBh/\zBh.size=1/\zBh.bytes=8/\zBh.zero=[.int .u64 0]/\zBh.qK=false/\zBh.desc=.int .u64:=by and_intros<;>kernel_rfl
def A2:TI:=(ti Pg 91).getD ⟨.bool,0,0,[],false⟩
def zpG:Field:=(bD A2 0).getD default
def zpF:Field:=(bD A2 1).getD default
def zpE:Field:=(bD A2 2).getD default
@[simp] def zMX:ti Pg 91=some A2/\A2.size=3/\A2.bytes=48/\A2.zero=[.int .i64 0,.str [],.aE]/\A2.qK=true/\kG A2.desc=true/\iX A2.desc=true/\jH Pg (fieldsOf A2.desc)=true/\bD A2 0=some zpG/\zpG.type=3/\zpG.offset=0/\bD A2 1=some zpF/\zpF.type=9/\zpF.offset=1/\bD A2 2=some zpE/\zpE.type=33/\zpE.offset=2:=by and_intros<;>kernel_rfl
def zBg:TI:=(ti Pg 94).getD ⟨.bool,0,0,[],false⟩
@[simp] def zMW:ti Pg 94=some zBg/\zBg.size=1/\zBg.bytes=24/\zBg.zero=[.aE]/\zBg.qK=false/\zBg.desc=.slice 210:=by and_intros<;>kernel_rfl
def zBf:TI:=(ti Pg 95).getD ⟨.bool,0,0,[],false⟩
@[simp] def zMV:ti Pg 95=some zBf/\zBf.size=1/\zBf.bytes=24/\zBf.zero=[.aE]/\zBf.qK=false/\zBf.desc=.slice 212:=by and_intros<;>kernel_rfl
def DB:TI:=(ti Pg 97).getD ⟨.bool,0,0,[],false⟩
def zpD:Field:=(bD DB 0).getD default
def zpC:Field:=(bD DB 1).getD default
@[simp] def zMU:ti Pg 97=some DB/\DB.size=2/\DB.bytes=48/\DB.zero=[.aE,.aE]/\DB.qK=true/\kG DB.desc=true/\iX DB.desc=true/\jH Pg (fieldsOf DB.desc)=true/\bD DB 0=some zpD/\zpD.type=94/\zpD.offset=0/\bD DB 1=some zpC/\zpC.type=95/\zpC.offset=1:=by and_intros<;>kernel_rfl
def zBe:TI:=(ti Pg 98).getD ⟨.bool,0,0,[],false⟩
@[simp] def zMT:ti Pg 98=some zBe/\zBe.size=1/\zBe.bytes=24/\zBe.zero=[.aE]/\zBe.qK=false/\zBe.desc=.slice 130:=by and_intros<;>kernel_rfl
def Kz:TI:=(ti Pg 108).getD ⟨.bool,0,0,[],false⟩
def zf9:Field:=(bD Kz 0).getD default
def zf8:Field:=(bD Kz 1).getD default
def zf7:Field:=(bD Kz 2).getD default
def zf6:Field:=(bD Kz 3).getD default
@[simp] def zLy:ti Pg 108=some Kz/\Kz.size=14/\Kz.bytes=200/\Kz.zero=[.int .i64 0,.str [],.aE,.int .i64 0,.int .i64 0,.str [],.int .i64 0,.aE,.aE,.int .i64 0,.str [],.int .i64 0,.int .i64 0,.aE]/\Kz.qK=true/\kG Kz.desc=true/\iX Kz.desc=true/\jH Pg (fieldsOf Kz.desc)=true/\bD Kz 0=some zf9/\zf9.type=3/\zf9.offset=0/\bD Kz 1=some zf8/\zf8.type=9/\zf8.offset=1/\bD Kz 2=some zf7/\zf7.type=52/\zf7.offset=2/\bD Kz 3=some zf6/\zf6.type=48/\zf6.offset=3:=by and_intros<;>kernel_rfl
def RS:TI:=(ti Pg 112).getD ⟨.bool,0,0,[],false⟩
def zf5:Field:=(bD RS 0).getD default
def zf4:Field:=(bD RS 1).getD default
@[simp] def zLx:ti Pg 112=some RS/\RS.size=2/\RS.bytes=16/\RS.zero=[.int .i64 0,.int .i64 0]/\RS.qK=true/\kG RS.desc=true/\iX RS.desc=true/\jH Pg (fieldsOf RS.desc)=true/\bD RS 0=some zf5/\zf5.type=56/\zf5.offset=0/\bD RS 1=some zf4/\zf4.type=3/\zf4.offset=1:=by and_intros<;>kernel_rfl
def zk8:TI:=(ti Pg 114).getD ⟨.bool,0,0,[],false⟩
@[simp] def zLw:ti Pg 114=some zk8/\zk8.size=1/\zk8.bytes=8/\zk8.zero=[.c9]/\zk8.qK=false/\zk8.desc=.pointer 116:=by and_intros<;>kernel_rfl
def Oj:TI:=(ti Pg 116).getD ⟨.bool,0,0,[],false⟩
def zf3:Field:=(bD Oj 0).getD default
def zf2:Field:=(bD Oj 1).getD default
def zf1:Field:=(bD Oj 2).getD default
@[simp] def zLv:ti Pg 116=some Oj/\Oj.size=4/\Oj.bytes=96/\Oj.zero=[.aE,.aE,.aE,.aE]/\Oj.qK=true/\kG Oj.desc=true/\iX Oj.desc=true/\jH Pg (fieldsOf Oj.desc)=true/\bD Oj 0=some zf3/\zf3.type=28/\zf3.offset=0/\bD Oj 1=some zf2/\zf2.type=97/\zf2.offset=1/\bD Oj 2=some zf1/\zf1.type=33/\zf1.offset=3:=by and_intros<;>kernel_rfl
def RQ:TI:=(ti Pg 130).getD ⟨.bool,0,0,[],false⟩
def zf0:Field:=(bD RQ 0).getD default
def zfZ:Field:=(bD RQ 1).getD default
@[simp] def zLu:ti Pg 130=some RQ/\RQ.size=6/\RQ.bytes=72/\RQ.zero=[.int .i64 0,.int .i64 0,.str [],.int .i64 0,.int .i64 0,.aE]/\RQ.qK=true/\kG RQ.desc=true/\iX RQ.desc=true/\jH Pg (fieldsOf RQ.desc)=true/\bD RQ 0=some zf0/\zf0.type=3/\zf0.offset=0/\bD RQ 1=some zfZ/\zfZ.type=35/\zfZ.offset=1:=by and_intros<;>kernel_rfl
def zk7:TI:=(ti Pg 135).getD ⟨.bool,0,0,[],false⟩
@[simp] def zLt:ti Pg 135=some zk7/\zk7.size=1/\zk7.bytes=8/\zk7.zero=[.c9]/\zk7.qK=false/\zk7.desc=.pointer 97:=by and_intros<;>kernel_rfl
def zk6:TI:=(ti Pg 205).getD ⟨.bool,0,0,[],false⟩
@[simp] def zLs:ti Pg 205=some zk6/\zk6.size=1/\zk6.bytes=8/\zk6.zero=[.nilFunc]/\zk6.qK=false/\kG zk6.desc=false:=by and_intros<;>kernel_rfl
def Ky:TI:=(ti Pg 210).getD ⟨.bool,0,0,[],false⟩
def zfY:Field:=(bD Ky 0).getD default
def zfX:Field:=(bD Ky 1).getD default
def zfW:Field:=(bD Ky 2).getD default
def zfV:Field:=(bD Ky 3).getD default
@[simp] def zLr:ti Pg 210=some Ky/\Ky.size=8/\Ky.bytes=88/\Ky.zero=[.bool false,.int .i64 0,.str [],.int .i64 0,.int .i64 0,.aE,.int .i64 0,.bool false]/\Ky.qK=true/\kG Ky.desc=true/\iX Ky.desc=true/\jH Pg (fieldsOf Ky.desc)=true/\bD Ky 0=some zfY/\zfY.type=4/\zfY.offset=0/\bD Ky 1=some zfX/\zfX.type=35/\zfX.offset=1/\bD Ky 2=some zfW/\zfW.type=3/\zfW.offset=6/\bD Ky 3=some zfV/\zfV.type=4/\zfV.offset=7:=by and_intros<;>kernel_rfl
def Oi:TI:=(ti Pg 212).getD ⟨.bool,0,0,[],false⟩
def zfU:Field:=(bD Oi 0).getD default
def zfT:Field:=(bD Oi 1).getD default
def zfS:Field:=(bD Oi 2).getD default
@[simp] def zLq:ti Pg 212=some Oi/\Oi.size=10/\Oi.bytes=104/\Oi.zero=[.int .i64 0,.bool false,.int .i64 0,.str [],.int .i64 0,.int .i64 0,.aE,.int .i64 0,.bool false,.bool false]/\Oi.qK=true/\kG Oi.desc=true/\iX Oi.desc=true/\jH Pg (fieldsOf Oi.desc)=true/\bD Oi 0=some zfU/\zfU.type=3/\zfU.offset=0/\bD Oi 1=some zfT/\zfT.type=210/\zfT.offset=1/\bD Oi 2=some zfS/\zfS.type=4/\zfS.offset=9:=by and_intros<;>kernel_rfl
def zk5:TI:=(ti Pg 273).getD ⟨.bool,0,0,[],false⟩
@[simp] def zLp:ti Pg 273=some zk5/\zk5.size=1/\zk5.bytes=8/\zk5.zero=[.c9]/\zk5.qK=false/\zk5.desc=.pointer 275:=by and_intros<;>kernel_rfl
def Wq:TI:=(ti Pg 275).getD ⟨.bool,0,0,[],false⟩
def zfR:Field:=(bD Wq 0).getD default
@[simp] def zLo:ti Pg 275=some Wq/\Wq.size=1/\Wq.bytes=8/\Wq.zero=[.c9]/\Wq.qK=true/\kG Wq.desc=true/\iX Wq.desc=true/\jH Pg (fieldsOf Wq.desc)=true/\bD Wq 0=some zfR/\zfR.type=135/\zfR.offset=0:=by and_intros<;>kernel_rfl
def PX:TI:=(ti Pg 277).getD ⟨.bool,0,0,[],false⟩
def zfQ:Field:=(bD PX 0).getD default
def zfP:Field:=(bD PX 1).getD default
@[simp] def zB9:ti Pg 277=some PX/\PX.size=10/\PX.bytes=128/\PX.zero=[.int .i64 0,.str [],.int .i64 0,.int .i64 0,.aE,.int .i64 0,.str [],.int .i64 0,.int .i64 0,.aE]/\PX.qK=true/\kG PX.desc=true/\iX PX.desc=true/\jH Pg (fieldsOf PX.desc)=true/\bD PX 0=some zfQ/\zfQ.type=35/\zfQ.offset=0/\bD PX 1=some zfP/\zfP.type=35/\zfP.offset=5:=by and_intros<;>kernel_rfl
def Ss:TI:=(ti Pg 278).getD ⟨.bool,0,0,[],false⟩
@[simp] def zLn:ti Pg 278=some Ss/\Ss.size=1/\Ss.bytes=24/\Ss.zero=[.aE]/\Ss.qK=false/\Ss.desc=.slice 277:=by and_intros<;>kernel_rfl
def zk4:TI:=(ti Pg 296).getD ⟨.bool,0,0,[],false⟩
@[simp] def zLm:ti Pg 296=some zk4/\zk4.size=1/\zk4.bytes=8/\zk4.zero=[.dj]/\zk4.qK=false/\zk4.desc=.map 3 4:=by and_intros<;>kernel_rfl
def zNj(l:Z α):Array.mk l=l.toArray:=rfl
def zNi(n:Nat)(h:n<2 ^ 8):(⟨.ofFin ⟨n,h⟩⟩:UInt8)=UInt8.ofNat n:=by
 apply UInt8.toNat_inj.1;show n=_;rw[UInt8.toNat_ofNat'];exact(Nat.mod_eq_of_lt h).symm
abbrev CT(c:Y SC)(x:{S // c=some S}:=by refine⟨?_,?_⟩;rotate_left;(conv=>lhs;(reduce;try simp only[↓zNi,zNj,UInt8.reduceOfNat,Int.reduceOfNat,Int.reduceNegSucc]))):{S // c=some S}:=x
def uu:SC->Z SC
 |.seq a b=>uu a++uu b
 |.cond _ a b=>uu a++uu b
 |.block _ a=>uu a
 |.loop a=>uu a++[a]
 |.range _ _ a b=>uu a++uu b
 |_=>[]
def A4:SC->Z (SC×SC)
 |.seq a b=>A4 a++A4 b
 |.cond _ a b=>A4 a++A4 b
 |.block _ a=>A4 a
 |.loop a=>A4 a
 |.range _ _ a b=>A4 a++A4 b++[(a,b)]
 |_=>[]
@[simp] def BP:=CT (Tryz.f6.body.bind aU)
def kV:SC:=(CT (uu (BP).1)[0]?).1
@[simp] def VC:=CT (Tryz.f8.body.bind aU)
@[simp] def GY:=CT (Tryz.f9.body.bind aU)
def oJ:SC:=(CT (uu (GY).1)[0]?).1
@[simp] def VB:=CT (Tryz.f11.body.bind aU)
@[simp] def qJ:=CT (Tryz.f12.body.bind aU)
def qa:SC:=(CT (uu (qJ).1)[0]?).1
@[simp] def JF:=CT (Tryz.f13.body.bind aU)
def yN:SC:=(CT (uu (JF).1)[0]?).1
@[simp] def Vy:=CT (Tryz.f14.body.bind aU)
@[simp] def Vz:=CT (Tryz.f15.body.bind aU)
@[simp] def N9:=CT (Tryz.f16.body.bind aU)
@[simp] def Oe:=CT (Tryz.f21.body.bind aU)
@[simp] def yT:=CT (Tryz.f22.body.bind aU)
def wT:SC:=(CT (uu (yT).1)[0]?).1
def nk:SC:=(CT (uu (yT).1)[1]?).1
def rO:SC:=(CT (uu (yT).1)[2]?).1
@[simp] def E5:=CT (Tryz.f23.body.bind aU)
def Ab:SC:=(CT (uu (E5).1)[0]?).1
@[simp] def DR:=CT (Tryz.f26.body.bind aU)
def sN:SC:=(CT (uu (DR).1)[0]?).1
@[simp] def vo:=CT (Tryz.f29.body.bind aU)
def qc:SC:=(CT (uu (vo).1)[0]?).1
@[simp] def Ob:=CT (Tryz.f30.body.bind aU)
@[simp] def Oa:=CT (Tryz.f31.body.bind aU)
@[simp] def Cr:=CT (Tryz.f32.body.bind aU)
@[simp] def FX:=CT (Tryz.f34.body.bind aU)
@[simp] def Od:=CT (Tryz.f35.body.bind aU)
@[simp] def E8:=CT (Tryz.f36.body.bind aU)
def u6:SC:=(CT (uu (E8).1)[0]?).1
@[simp] def Ba:=CT (Tryz.f37.body.bind aU)
@[simp] def VA:=CT (Tryz.f38.body.bind aU)
@[simp] def BD:=CT (Tryz.f39.body.bind aU)
def xw:SC:=(CT (uu (BD).1)[0]?).1
@[simp] def Hm:=CT (Tryz.f40.body.bind aU)
@[simp] def lM:=CT (Tryz.f45.body.bind aU)
def wH:SC:=(CT (uu (lM).1)[0]?).1
def vI:SC:=(CT ((A4 (lM).1)[0]?.map (·.1))).1
def vH:SC:=(CT ((A4 (lM).1)[0]?.map (·.2))).1
@[simp] def uG:=CT (Tryz.f48.body.bind aU)
def yM:SC:=(CT (uu (uG).1)[0]?).1
def sM:SC:=(CT (uu (uG).1)[1]?).1
@[simp] def vY:=CT (Tryz.f55.body.bind aU)
def kU:SC:=(CT (uu (vY).1)[0]?).1
@[simp] def Ho:=CT (Tryz.f56.body.bind aU)
@[simp] def Co:=CT (Tryz.f57.body.bind aU)
def Bz:SC:=(CT (uu (Co).1)[0]?).1
@[simp] def DN:=CT (Tryz.f58.body.bind aU)
@[simp] def Cq:=CT (Tryz.f59.body.bind aU)
def wS:SC:=(CT (uu (Cq).1)[0]?).1
@[simp] def kY:=CT (Tryz.f60.body.bind aU)
def jI:SC:=(CT (uu (kY).1)[0]?).1
@[simp] def rf:=CT (Tryz.f61.body.bind aU)
@[simp] def Ep:=CT (Tryz.f71.body.bind aU)
def yL:SC:=(CT (uu (Ep).1)[0]?).1
def qG:SC:=(CT (uu (Ep).1)[1]?).1
@[simp] def Mm:=CT (Tryz.f72.body.bind aU)
def EX:SC:=(CT (uu (Mm).1)[0]?).1
@[simp] def vJ:=CT (Tryz.f75.body.bind aU)
@[simp] def A9:=CT (Tryz.f76.body.bind aU)
@[simp] def ou:=CT (Tryz.f81.body.bind aU)
def dD:SC:=(CT (uu (ou).1)[0]?).1
@[simp] def ib:=CT (Tryz.f82.body.bind aU)
@[simp] def lq:=CT (Tryz.f85.body.bind aU)
@[simp] def yU:=CT (Tryz.f87.body.bind aU)
def sO:SC:=(CT (uu (yU).1)[0]?).1
def Eo:SC:=(CT (uu (yU).1)[1]?).1
@[simp] def A8:=CT (Tryz.f88.body.bind aU)
@[simp] def nN:=CT (Tryz.f89.body.bind aU)
@[simp] def K9:=CT (Tryz.f90.body.bind aU)
@[simp] def yV:=CT (Tryz.f91.body.bind aU)
def yO:SC:=(CT (uu (yV).1)[0]?).1
@[simp] def Oc:=CT (Tryz.f101.body.bind aU)
@[simp] def EY:=CT (Tryz.f102.body.bind aU)
@[simp] def BF:=CT (Tryz.f103.body.bind aU)
@[simp] def Ao:=CT (Tryz.f104.body.bind aU)
def FT:SC:=(CT (uu (Ao).1)[0]?).1
@[simp] def Es:=CT (Tryz.f105.body.bind aU)
@[simp] def DK:=CT (Tryz.f106.body.bind aU)
def yK:SC:=(CT (uu (DK).1)[0]?).1
@[simp] def NY:=CT (Tryz.f107.body.bind aU)
@[simp] def NZ:=CT (Tryz.f108.body.bind aU)
@[simp] def K8:=CT (Tryz.f110.body.bind aU)
@[simp] def nM:=CT (Tryz.f111.body.bind aU)
@[simp] def JD:=CT (Tryz.f112.body.bind aU)
@[simp] def gQ:=CT (Tryz.f113.body.bind aU)
@[simp] def BC:=CT (Tryz.f114.body.bind aU)
def xu:SC:=(CT (uu (BC).1)[0]?).1
@[simp] def JC:=CT (Tryz.f115.body.bind aU)
@[simp] def mX:=CT (Tryz.f116.body.bind aU)
@[simp] def FW:=CT (Tryz.f117.body.bind aU)
@[simp] def DL:=CT (Tryz.f118.body.bind aU)
def mW:SC:=(CT (uu (DL).1)[0]?).1
@[simp] def FV:=CT (Tryz.f119.body.bind aU)
@[simp] def pV:=CT (Tryz.f120.body.bind aU)
@[simp] def qI:=CT (Tryz.f121.body.bind aU)
def BN:SC:=(CT (uu (qI).1)[0]?).1
def vW:SC:=(CT (uu (qI).1)[1]?).1
def vV:SC:=(CT (uu (qI).1)[2]?).1
@[simp] def N7:=CT (Tryz.f123.body.bind aU)
@[simp] def La:=CT (Tryz.f124.body.bind aU)
@[simp] def gV:=CT (Tryz.f125.body.bind aU)
@[simp] def JG:=CT (Tryz.f126.body.bind aU)
@[simp] def Lb:=CT (Tryz.f127.body.bind aU)
@[simp] def jJ:=CT (Tryz.f128.body.bind aU)
def jZ:SC:=(CT (uu (jJ).1)[0]?).1
def fU:SC:=(CT (uu (jJ).1)[1]?).1
@[simp] def Lc:=CT (Tryz.f129.body.bind aU)
@[simp] def bX:=CT (Tryz.f130.body.bind aU)
@[simp] def pO:=CT (Tryz.f131.body.bind aU)
@[simp] def yS:=CT (Tryz.f132.body.bind aU)
def wR:SC:=(CT (uu (yS).1)[0]?).1
@[simp] def wI:=CT (Tryz.f157.body.bind aU)
def uZ:SC:=(CT (uu (wI).1)[0]?).1
def lY:SC:=(CT (uu (wI).1)[1]?).1
@[simp] def q9:=CT (Tryz.f161.body.bind aU)
def oI:SC:=(CT (uu (q9).1)[0]?).1
@[simp] def Q4:=CT (Tryz.f162.body.bind aU)
@[simp] def wU:=CT (Tryz.f163.body.bind aU)
def DJ:SC:=(CT (uu (wU).1)[0]?).1
@[simp] def jQ:=CT (Tryz.f165.body.bind aU)
def iY:SC:=(CT (uu (jQ).1)[0]?).1
@[simp] def lL:=CT (Tryz.f166.body.bind aU)
@[simp] def rq:=CT (Tryz.f167.body.bind aU)
@[simp] def jA:=CT (Tryz.f169.body.bind aU)
def iU:SC:=(CT (uu (jA).1)[0]?).1
@[simp] def vg:=CT (Tryz.f170.body.bind aU)
@[simp] def nu:=CT (Tryz.f171.body.bind aU)
def lC:SC:=(CT (uu (nu).1)[0]?).1
@[simp] def GV:=CT (Tryz.f184.body.bind aU)
def Bw:SC:=(CT (uu (GV).1)[0]?).1
@[simp] def BO:=CT (Tryz.f185.body.bind aU)
@[simp] def Hl:=CT (Tryz.f186.body.bind aU)
@[simp] def Er:=CT (Tryz.f187.body.bind aU)
@[simp] def rP:=CT (Tryz.f188.body.bind aU)
def nW:SC:=(CT (uu (rP).1)[0]?).1
def q8:SC:=(CT (uu (rP).1)[1]?).1
@[simp] def BB:=CT (Tryz.f190.body.bind aU)
@[simp] def kW:=CT (Tryz.f191.body.bind aU)
def jU:SC:=(CT (uu (kW).1)[0]?).1
@[simp] def fZ:=CT (Tryz.f192.body.bind aU)
def d9:SC:=(CT (uu (fZ).1)[0]?).1
@[simp] def kX:=CT (Tryz.f193.body.bind aU)
@[simp] def kg:=CT (Tryz.f194.body.bind aU)
def jG:SC:=(CT (uu (kg).1)[0]?).1
@[simp] def iM:=CT (Tryz.f195.body.bind aU)
def jF:SC:=(CT (uu (iM).1)[0]?).1
@[simp] def N8:=CT (Tryz.f196.body.bind aU)
@[simp] def ny:=CT (Tryz.f198.body.bind aU)
@[simp] def u7:=CT (Tryz.f199.body.bind aU)
def ni:SC:=(CT (uu (u7).1)[0]?).1
@[simp] def kZ:=CT (Tryz.f200.body.bind aU)
@[simp] def oz:=CT (Tryz.f201.body.bind aU)
@[simp] def vz:=CT (Tryz.f202.body.bind aU)
def A7:SC:=(CT ((A4 (vz).1)[0]?.map (·.1))).1
def AZ:SC:=(CT ((A4 (vz).1)[0]?.map (·.2))).1
@[simp] def mD:=CT (Tryz.f203.body.bind aU)
def kF:SC:=(CT (uu (mD).1)[0]?).1
@[simp] def Ad:=CT (Tryz.f204.body.bind aU)
def qd:SC:=(CT (uu (Ad).1)[0]?).1
@[simp] def bJ:=CT (Tryz.f205.body.bind aU)
def bf:SC:=(CT (uu (bJ).1)[0]?).1
@[simp] def NW:=CT (Tryz.f235.body.bind aU)
@[simp] def qH:=CT (Tryz.f236.body.bind aU)
def sK:SC:=(CT (uu (qH).1)[0]?).1
def DI:SC:=(CT ((A4 (qH).1)[0]?.map (·.1))).1
def nV:SC:=(CT ((A4 (qH).1)[0]?.map (·.2))).1
@[simp] def GZ:=CT (Tryz.f245.body.bind aU)
def BA:SC:=(CT (uu (GZ).1)[0]?).1
@[simp] def Et:=CT (Tryz.f246.body.bind aU)
@[simp] def Bb:=CT (Tryz.f247.body.bind aU)
@[simp] def fJ:=CT (Tryz.f248.body.bind aU)
def dS:SC:=(CT (uu (fJ).1)[0]?).1
@[simp] def eZ:=CT (Tryz.f249.body.bind aU)
def dO:SC:=(CT (uu (eZ).1)[0]?).1
@[simp] def JE:=CT (Tryz.f250.body.bind aU)
@[simp] def eH:=CT (Tryz.f251.body.bind aU)
def dZ:SC:=(CT (uu (eH).1)[0]?).1
@[simp] def FU:=CT (Tryz.f252.body.bind aU)
@[simp] def EZ:=CT (Tryz.f253.body.bind aU)
@[simp] def mY:=CT (Tryz.f254.body.bind aU)
@[simp] def JB:=CT (Tryz.f262.body.bind aU)
@[simp] def sP:=CT (Tryz.f263.body.bind aU)
def uF:SC:=(CT (uu (sP).1)[0]?).1
@[simp] def kJ:=CT (Tryz.f264.body.bind aU)
@[simp] def Hq:=CT (Tryz.f269.body.bind aU)
@[simp] def DT:=CT (Tryz.f270.body.bind aU)
@[simp] def Q5:=CT (Tryz.f271.body.bind aU)
@[simp] def tK:=CT (Tryz.f272.body.bind aU)
@[simp] def yP:=CT (Tryz.f273.body.bind aU)
@[simp] def sQ:=CT (Tryz.f274.body.bind aU)
@[simp] def sU:=CT (Tryz.f275.body.bind aU)
def o8:SC:=(CT (uu (sU).1)[0]?).1
@[simp] def pX:=CT (Tryz.f276.body.bind aU)
@[simp] def Ac:=CT (Tryz.f279.body.bind aU)
@[simp] def yQ:=CT (Tryz.f280.body.bind aU)
@[simp] def GX:=CT (Tryz.f281.body.bind aU)
def rM:SC:=(CT (uu (GX).1)[0]?).1
@[simp] def sS:=CT (Tryz.f282.body.bind aU)
@[simp] def yR:=CT (Tryz.f284.body.bind aU)
def kT:SC:=(CT (uu (yR).1)[0]?).1
@[simp] def vX:=CT (Tryz.f285.body.bind aU)
open Go.J.bo (enc)
@[simp] def zCS  {l:Z Nat}:(J.part C l).log=[]:=(rfl)
section
variable {I:Nat->Value}(hρ:J.Good I){E:Env}(U:E.P=Pg)(aq:bH I E)
include hρ U aq
def fn{fn:Func}(hf:Pg.funcs[f]?=some fn)(hb:fn.body.bind aU=some sc)(he:jE fn.ntmps vs 0 .leaf=some T)(hp:cu vs=true)
 (h:Wp I E 0 fn.ntmps sc T { H:=.leaf,n:=0,log:=[] } (J.Leaves E.P fn (Fa r))) (C:HS):aT I Pg f vs C r C:=by
 rw[<- U];exact zeZ hρ aq (by rw[U];exact follows) (by rw[U];exact named) (by rw[U];exact hf) hb he hp h C
def lp{sz:Nat}(h:∀ K:PT V->HS->Prop,(∀ T C,ua I E k sz s Q n T C->K T C)->Wp I E k sz s T C (Ex.then K Q)):ua I E k sz s Q (n+1) T C :=
 VE hρ aq (by rw[U];exact follows) (by rw[U];exact named) h
def st{fn:Func}{c c':Z V}(hf:Pg.funcs[f]?=some fn)(hb:fn.body.bind aU=some sc)(he:jE fn.ntmps (.ptr 0 0 0::vs) 0 .leaf=some T)(hp:cu vs=true)
 (hc:c.all V.bM=true) (vf:c'.all V.bM=true) (hr:r.tJ (λ_=>false)=true)
 (h:Wp I E 1 fn.ntmps sc T { H:=dW [(0,box c)],n:=1,log:=[] } (J.Leaves E.P fn (aH 1 r [(0,box c')])))  {id:Nat} (hid:id<C.n) (hg:C.H.get id=some (box c)):aT I Pg f (.ptr id 0 0::vs) C r (C.wr id (box c')):=by
 rw[<- U];exact zwh hρ aq (by rw[U];exact follows) (by rw[U];exact named) (by rw[U];exact hf) hb he hp hc vf hr h hid hg
def row{fn:Func}{es:Z (Z V)}{sz:Nat}(hf:Pg.funcs[f]?=some fn)(hb:fn.body.bind aU=some sc)(he:jE fn.ntmps vs 0 .leaf=some T)(hp:cu vs=true)
 (gA:(es.all λe=>e.all V.bM)=true)
 (h:Wp I E 0 fn.ntmps sc T { H:=dW [],n:=0,log:=[] } (J.Leaves E.P fn (aH 0 (oV 0 es) (oH 0 sz es))))  (hv:C.H.get C.n=none) :
 aT I Pg f vs C (oV C.n es) (bi (Nat.beq (dA es) 0) C { H:=C.H.set C.n (oO sz es),n:=C.n+1,log:=C.n::C.log }):=by
 rw[<- U];exact zrx hρ aq (by rw[U];exact follows) (by rw[U];exact named) (by rw[U];exact hf) hb he hp gA h hv
def mt{fn:Func}{pre post:Z V}{es:Z (Z V)}{sz:Nat}(hf:Pg.funcs[f]?=some fn)(hb:fn.body.bind aU=some sc)(he:jE fn.ntmps (pre++J1 0 es::post) 0 .leaf=some T)(hp:cu (pre++post)=true)
 (hc:(es.all λe=>e.all V.bM)=true) (vf:(cU.all λe=>e.all V.bM)=true) (hl:cU.length=es.length) (hr:r.tJ (λ_=>false)=true)
 (h:Wp I E 1 fn.ntmps sc T { H:=dW [(0,KJ sz es)],n:=1,log:=[] } (J.Leaves E.P fn (aH 1 r [(0,KJ sz cU)])))  {id:Nat} (hid:id<C.n) (hg:C.H.get id=some (KJ sz es)) :
 aT I Pg f (pre++J1 id es::post) C r (C.wr id (KJ sz cU)):=by
 rw[<- U];exact zwW hρ aq (by rw[U];exact follows) (by rw[U];exact named) (by rw[U];exact hf) hb he hp hc vf hl hr h hid hg
def em{fn:Func}(hf:Pg.funcs[f]?=some fn)(hb:fn.body.bind aU=some sc)(he:jE fn.ntmps D.dq 0 .leaf=some T)(hg:D.Good)
 (h:Wp I E D.k fn.ntmps sc T { H:=dW D.OL,n:=D.k,log:=[] } (J.Leaves E.P fn (aH D.k D.v0 D.cI)))   (b4:D.Fits vs C) :
 aT I Pg f vs C (D.v0.cq (news C.n D.k D.π)) (Dn C D.k D.k' D.π D.cI):=by
 rw[<- U];exact zfb hρ aq (by rw[U];exact follows) (by rw[U];exact named) (by rw[U];exact hf) hb he hg h b4
def io{fn:Func}{es:Z (Z V)}{rs:Z V}{sz:Nat}(hK:K=Np\/K=zDB)(hf:Pg.funcs[f]?=some fn)(hb:fn.body.bind aU=some sc)(he:jE fn.ntmps (oV 0 es::vs) 0 .leaf=some T)(hp:cu vs=true)
 (h0:(es.all λe=>e.all V.bM)=true) (M:(cU.all λe=>e.all V.bM)=true) (At:(rs.all λv=>v.zM (λ_=>false))=true) (hle:es.length<=cU.length)
 (h:Wp I E (if es=[]then 0 else 1) fn.ntmps sc T { H:=dW (oH 0 sz es),n:=if es=[]then 0 else 1,log:=[] } (J.Leaves E.P fn (aH (if es=[]then 0 else 1) (K (oV 0 cU) rs) (oH 0 sz cU))))
   (hv:rowOf sz C v=some es) (rE:C.H.get C.n=none):aT I Pg f (v::vs) C (K (zf sz v es cU C).1 rs) (zf sz v es cU C).2:=by
 rw[<- U];exact zxa hρ aq (by rw[U];exact follows) (by rw[U];exact named) hK (by rw[U];exact hf) hb he hp h0 M At hle h hv rE
def vC{St:Type}{sz:Nat}(N:Nat)(TL:Nat->St->Z (Nat×V))(HL:Nat->St->Z (Nat×J.Obj))(Inv:Nat->St->Prop)(HD:St)
 (h0:aw k T C (dW (TL 0 HD)) { H:=dW (HL 0 HD),n:=nn,log:=[] }) (hi:Inv 0 HD)
 (fin:∀ st,Inv N st->∀ K,Wp I E k sz s (dW (TL N st)) { H:=dW (HL N st),n:=nn,log:=[] } (Ex.then K (bO k Q)))
 (step:∀ i st,i<N->Inv i st->∀ K:PT V->HS->Prop,(∀ hs,Inv (i+1) hs->∀ T C,aw k T C (dW (TL (i+1) hs)) { H:=dW (HL (i+1) hs),n:=nn,log:=[] }->K T C) ->
   Wp I E k sz s (dW (TL i st)) { H:=dW (HL i st),n:=nn,log:=[] } (Ex.then K (bO k Q))):Ls I E k sz (.loop s) T C Q:=by
 have key:∀ m i st,i+m=N->Inv i st->ua I E k sz s (bO k Q) (m+1) (dW (TL i st)) { H:=dW (HL i st),n:=nn,log:=[] }:=by
  intro m
  induction m with
  | zero =>
    intro i st hi hinv;obtain rfl:i=N:=by omega
    exact lp hρ U aq λK _=>fin st hinv K
  | succ m ih =>
    intro i st hi hinv;exact lp hρ U aq λK hK=>step i st (by omega) hinv K λhs h' T C hl=>hK T C (gD hl (ih (i+1) hs (by omega) h'))
 exact nX (ru (gD h0 (key N 0 HD (by omega) hi)))
end
section
variable {I:Nat->Value}{β γ δ ε σ:Type} [bo α] [bo β] [bo γ] [bo δ] [bo ε] [iC σ]{f:Nat}
def v0{b:α}(hf:wh Pg f)(h:∀ C,aT I Pg f [] C (enc b) C):Valid I Pg f (dH (Fh b)) :=
 Valid.dH hf λvs v hv=>by obtain⟨rfl,rfl⟩:=zix hv;exact h
def v1{F:α->Y β}(hf:wh Pg f)(h:∀ a r,F a=some r->∀ C,aT I Pg f [enc a] C (enc r) C):Valid I Pg f (dH (cO F)) :=
 Valid.dH hf λvs v hv=>by obtain⟨a,r,rfl,M,rfl⟩:=OG hv;exact h _ _ M
def v2{F:α->β->Y γ}(hf:wh Pg f)(h:∀ a b r,F a b=some r->∀ C,aT I Pg f [enc a,enc b] C (enc r) C):Valid I Pg f (dH (dC F)) :=
 Valid.dH hf λvs v hv=>by obtain⟨a,b,r,rfl,M,rfl⟩:=WM hv;exact h _ _ _ M
def v3{F:α->β->γ->Y δ}(hf:wh Pg f)(h:∀ a b c r,F a b c=some r->∀ C,aT I Pg f [enc a,enc b,enc c] C (enc r) C):Valid I Pg f (dH (tZ F)) :=
 Valid.dH hf λvs v hv=>by obtain⟨a,b,c,r,rfl,M,rfl⟩:=WL hv;exact h _ _ _ _ M
def v4{F:α->β->γ->δ->Y ε}(hf:wh Pg f)(h:∀ a b c d r,F a b c d=some r->∀ C,aT I Pg f [enc a,enc b,enc c,enc d] C (enc r) C):Valid I Pg f (dH (za4 F)) :=
 Valid.dH hf λvs v hv=>by obtain⟨a,b,c,d,r,rfl,M,rfl⟩:=ziw hv;exact h _ _ _ _ _ M
def c1{F:α->Y β}(hf:wh Pg f)(h:∀ a r,F a=some r->∀ C,aT I Pg f [enc a] C (enc r) C):Valid I Pg f (KU (cO F)) :=
 Valid.KU hf λvs v hv=>by obtain⟨a,r,rfl,M,rfl⟩:=OG hv;exact h _ _ M
def c2{F:α->β->Y γ}(hf:wh Pg f)(h:∀ a b r,F a b=some r->∀ C,aT I Pg f [enc a,enc b] C (enc r) C):Valid I Pg f (KU (dC F)) :=
 Valid.KU hf λvs v hv=>by obtain⟨a,b,r,rfl,M,rfl⟩:=WM hv;exact h _ _ _ M
def c3{F:α->β->γ->Y δ}(hf:wh Pg f)(h:∀ a b c r,F a b c=some r->∀ C,aT I Pg f [enc a,enc b,enc c] C (enc r) C):Valid I Pg f (KU (tZ F)) :=
 Valid.KU hf λvs v hv=>by obtain⟨a,b,c,r,rfl,M,rfl⟩:=WL hv;exact h _ _ _ _ M
def s1{F:σ->α->Y (σ×β)}(hf:wh Pg f)(h:∀ s a q,F s a=some q->∀ (C:HS) (id:Nat),id<C.n->C.H.get id=some (box (iC.cells s))->aT I Pg f [.ptr id 0 0,enc a] C (enc q.2) (C.wr id (box (iC.cells q.1)))):Valid I Pg f (H6 (Iu F)) :=
 Valid.st hf λs vs r _ hv=>by obtain⟨a,q,rfl,M,rfl⟩:=zmy hv;exact h _ _ _ M
def s3{F:σ->α->β->γ->Y (σ×δ)}(hf:wh Pg f)(h:∀ s a b c q,F s a b c=some q->∀ (C:HS) (id:Nat),id<C.n->C.H.get id=some (box (iC.cells s))->aT I Pg f [.ptr id 0 0,enc a,enc b,enc c] C (enc q.2) (C.wr id (box (iC.cells q.1)))):Valid I Pg f (H6 (Ir F)) :=
 Valid.st hf λs vs r _ hv=>by obtain⟨a,b,c,q,rfl,M,rfl⟩:=zmx hv;exact h _ _ _ _ _ M
end
section
variable {I:Nat->Value}(hρ:J.Good I){E:Env}(U:E.P=Pg)(aq:bH I E)
include hρ U aq
def Rr(d:Nat)(a b:G):Y Bool:=if a.ok=true/\a.size<=d then some (decide (a=b))else none
def Po(d:Nat)(l m:Z G):Y Bool:=if l.length<=10000/\G.eK l=true/\G.bj l<=d then some (decide (l=m))else none
theorem IB(hc:E.dE 39=dH (dC (Po d)))(ha:a.ok=true)(hd:a.size<=d+1)(C:HS):aT I E.P 32 [enc a,enc b] C (enc (decide (a=b))) C:=by
 refine zeZ hρ aq (by rw[U];exact follows) (by rw[U];exact named) (by rw[U];exact Tryz.func32) Cr.2 rfl (by simp) ?_ C;have M:=G.wW ha;have O:G.eK a.args=true:=G.lD.2 (G.oF.1 ha).2;have h3:G.bj a.args<=d:=by have:=G.size_eq a;omega
 simp[U]
 repeat' (refine EU (λh=>?_) (λh=>?_)<;>simp[h,U,hc,Po,M,O,h3])
 all_goals (rw[G.eq_iff];simp_all)
def Lx(hc:E.dE 32=dH (dC (Rr d)))(hl:l.length=m.length)(M:l.length<=10000)(O:∀ t∈l,t.ok=true/\t.size<=d)
 (hf:l≠m->∀ T C,T.get 4=some (.bool false)->Q .ret T C) (ht:l=m->∀ T C,Q (.exit 0) T C) :
 ∀ (n i:Nat),i+n=l.length->l.take i=m.take i->ua I E 0 27 xw Q (n+1) (dW [(0,.sl (l.map au) false),(1,.sl (m.map au) false),(5,.int .i64 (i:Int))]) { H:=dW [],n:=0,log:=[] }:=by
 intro n
 induction n with
 | zero =>
   intro i hi he;have cA:¬ (i:Int)<l.length:=by omega
   have e:l=m:=by
    have:i=l.length:=by omega
    subst this;rw[gN]at he;rw[he,hl,gN]
   refine VE hρ aq (by rw[U];exact follows) (by rw[U];exact named) λK hK=>?_
   simp[xw,U,cA];exact ht e _ _
 | succ n ih =>
   intro i hi he;have cA:i<l.length:=by omega
   have Ch:(i:Int)<l.length:=by omega
   have him:i<m.length:=by omega
   obtain⟨z9,hx2⟩:=O l[i] (az cA);refine VE hρ aq (by rw[U];exact follows) (by rw[U];exact named) λK hK=>?_
   have hw:=bI (i:=i);simp[xw,U,Ch,cA,him,hc,Rr,z9,hx2];refine EU (λh=>?_) (λh=>?_)<;>simp[U,hw,-Int.natCast_add]
   . refine hf (λe=>h ?_) _ _ (by simp);subst e;rfl
   . refine hK _ _ (gD (aw.bw 0 (by simp[-Int.natCast_add]) (by simp) rfl rfl) (ih (i+1) (by omega) ?_));rw[dK,dK,he,ax cA,ax him,Classical.not_not.1 h]
def M5(hc:E.dE 32=dH (dC (Rr d)))(M:l.length<=10000)(O:G.eK l=true)(hd:G.bj l<=d)(C:HS):aT I E.P 39 [enc l,enc m] C (enc (decide (l=m))) C:=by
 refine zeZ hρ aq (by rw[U];exact follows) (by rw[U];exact named) (by rw[U];exact Tryz.func39) BD.2 rfl (by simp) ?_ C;have h3:∀ t∈l,t.ok=true/\t.size<=d:=λt ht=>⟨G.lD.1 O t ht,by have:=G.Fp ht;omega⟩
 simp[U];refine EU (λh=>?_) (λh=>?_)<;>simp[U]
 . intro e;subst e;exact h rfl
 . refine ru (gD (aw.bw (TL:=[(0,.sl (l.map au) false),(1,.sl (m.map au) false),(5,.int .i64 ((0:Nat):Int))]) (HL:=[]) 0 (by simp) (by simp) rfl rfl) (Lx hρ U aq hc ?_ M h3 ?_ ?_ l.length 0 (by omega) (by simp)))
   . omega
   . intro cb T C hT;simp[hT,cb,U]
   . intro e T C;simp[e,U]
def Y4{n m:Int}(M:-4611686018427387904<=m)(O:m<=4611686018427387904)(C:HS):aT I Pg 11 [enc n,enc m] C (enc (Y1 n m)) C:=by
 refine fn hρ U aq Tryz.func11 VB.2 rfl (by simp) ?_ C;simp[U];refine EU (λh=>?_) (λh=>?_)<;>simp[U,h,Y1]
 have hm:1<=m:=by omega
 have eg:¬ m<1:=h;have hE:¬ m=0:=by omega
 simp[hE];refine EU (λh=>?_) (λh=>?_)<;>simp[U,h]
 . have h3:=Int.lt_tmod_of_pos n (show 0<m by omega);rw[wrap_i64 (by omega) (by omega),if_neg eg,tmod_neg hm h]
 . rw[if_neg eg,zlY hm (by omega)]
def Y5{l:Z Int}(C:HS):aT I Pg 8 [enc l] C (enc (decide (l.length<=60))) C:=by
 refine fn hρ U aq Tryz.func8 VC.2 rfl (by simp) ?_ C;simp[U];omega
def YO{n:Z Nat}(hl:l.length<=10000)(C:HS):aT I Pg 38 [enc n,enc l] C (enc (uM n l)) C:=by
 refine fn hρ U aq Tryz.func38 VA.2 rfl (by simp) ?_ C;rcases l with _|⟨x,l⟩
 . simp[U,uM]
 . have M:(l.length+1)*64<=1048576:=by simp at hl;omega
   simp[U,uM,M]
def YM(hc:E.dE 38=dH (dC λn l=>if l.length<=10000 then some (uM n l)else none))(C:HS):aT I Pg 15 [] C (enc Ik) C:=by
 refine fn hρ U aq Tryz.func15 Vz.2 rfl (by simp) ?_ C;simp[U,uM,Ik,hc]
def Tz(hc:E.dE 38=dH (dC λn l=>if l.length<=10000 then some (uM n l)else none))(C:HS):aT I Pg 30 [enc a,enc b] C (enc (vO a b)) C:=by
 refine fn hρ U aq Tryz.func30 Ob.2 rfl (by simp) ?_ C;simp[U,uM,vO,hc]
def YL(C:HS):aT I Pg 14 [enc i] C (enc (fq i)) C:=by
 refine fn hρ U aq Tryz.func14 Vy.2 rfl (by simp) ?_ C;simp[U,fq]
def Tx(C:HS):aT I Pg 31 [enc i] C (enc (qU i)) C:=by
 refine fn hρ U aq Tryz.func31 Oa.2 rfl (by simp) ?_ C;simp[U,qU]
def Tv{h:Int}(C:HS):aT I Pg 16 [enc h,enc i] C (enc (fD h i)) C:=by
 refine fn hρ U aq Tryz.func16 N9.2 rfl (by simp) ?_ C;simp[U,fD]
def LK(hc:E.dE 11=dH (dC λn m=>if -1000000<=m/\m<=1000000 then some (Y1 n m)else none)){n:Int}(hi:0<=t.i)(hl:t.l.length<=100000)(hn:-1000000<=n/\n<=1000000)(C:HS)(id:Nat)(hid:id<C.n)(hg:C.H.get id=some (box (iC.cells t))) :
 aT I Pg 34 [.ptr id 0 0,enc n] C (enc (t.next n).2) (C.wr id (box (iC.cells (t.next n).1))):=by
 refine st hρ U aq Tryz.func34 FX.2 rfl (by simp) (by simp) (by simp) (by simp) ?_ hid hg;obtain⟨l,i⟩:=t;obtain⟨j,rfl⟩:=bK hi;simp only at hl;simp[U];refine EU (λh=>?_) (λh=>?_)
 . simp[U,h,Tp.next];exact aH.bw
 . have hw:=bI (i:=j);have cy:IntKind.i64.wrap (((j+1:Nat):Int)-1)=(j:Int):=by rw[wrap_i64 (by omega) (by omega)];omega
   have hj:j<l.length:=by omega
   simp[U,h,hw,cy,hj,hc,hn,Tp.next,-Int.natCast_add];exact aH.bw
def Uf(hc:E.dE 14=dH (cO λi=>some (fq i)))(hn:n<=10000)
 (hQ:Q (.exit 0) (dW [(3,oV 0 ((rA n).map au))]) { H:=dW (oH 0 5 ((rA n).map au)),n:=1,log:=[] }) :
 ∀ (m i:Nat) (L:Z G),i+m=n->L=rA i->ua I E 0 16 yN (bO 0 Q) (m+1) (dW [(0,.int .i64 (n:Int)),(3,oV 0 (L.map au)),(4,.int .i64 (i:Int))]) { H:=dW (oH 0 5 (L.map au)),n:=1,log:=[] }:=by
 intro m
 induction m with
 | zero =>
   intro i L hi hL;obtain rfl:i=n:=by omega
   refine lp hρ U aq λK hK=>?_
   rw[<- hL]at hQ;simp[yN,U];refine bO.mk (aw.bw 1 ?_ ?_ ?_ rfl) hQ<;>rcases L with _|⟨x,L⟩<;>first|rfl|simp
 | succ m ih =>
   intro i L hi hL;have cA:(i:Int)<n:=by omega
   have hw:=bI (i:=i);have KR:L.length=i:=by rw[hL];simp
   have bc:L++[fq i]=rA (i+1):=by rw[hL,zdu]
   refine lp hρ U aq λK hK=>?_
   rcases L with _|⟨x,L⟩
   . simp[yN,U,cA,hc,hw,-Int.natCast_add];exact hK _ _ (gD (aw.lit (λk=>if k=0 then 8 else k) 1 (by simp[-Int.natCast_add]) (by simp) rfl rfl) (ih (i+1) _ (by omega) bc))
   . have pA:(L.length+1+1)*64<=1048576:=by simp at KR;omega
     simp[yN,U,cA,hc,hw,pA,aY,-Int.natCast_add];exact hK _ _ (gD (aw.bw 1 (by simp[-Int.natCast_add]) (by simp) rfl rfl) (ih (i+1) _ (by omega) bc))
def V8(hc:E.dE 14=dH (cO λi=>some (fq i)))(hn:n<=10000)(hv:C.H.get C.n=none) :
 aT I Pg 13 [enc (n:Int)] C (oV C.n ((rA n).map au)) (bi (Nat.beq (dA ((rA n).map au)) 0) C { H:=C.H.set C.n (oO 5 ((rA n).map au)),n:=C.n+1,log:=C.n::C.log }):=by
 refine row hρ U aq Tryz.func13 JF.2 rfl (by simp) (by simp) ?_ hv;simp
 refine nX (ru (gD (aw.bw (TL:=[(0,.int .i64 (n:Int)),(3,oV 0 (([]:Z G).map au)),(4,.int .i64 ((0:Nat):Int))]) (HL:=oH 0 5 (([]:Z G).map au)) 1 (by simp) (by simp) rfl rfl)
  (Uf hρ U aq hc hn ?_ n 0 [] (by omega) rfl)))
 generalize rA n=L;rcases L with _|⟨x,L⟩
 . simp[U];exact aH.fu rfl rfl (by simp) (by simp)
 . simp[U];exact aH.fu rfl rfl (by simp) (by simp)
theorem Ug (hc:E.dE 33=dH (Fh Kw)) {bits:Int} (C:HS):aT I Pg 9 [enc bits] C (enc (bu bits)) C:=by
 refine fn hρ U aq Tryz.func9 GY.2 rfl (by simp) ?_ C;have hlen:Kw.length=7:=rfl;unfold bu zgD;generalize Kw=A at hc hlen;have M:A[1]?=some A[1]:=ax (by omega);rw[M]
 have main : ∀ (L0:Z Decl),L0.length<=1->∀ T C,aw 0 T C (dW [(0,.int .i64 bits),(3,.sl (A.map aP) false),(4,oV 0 (L0.map aP)),(5,.int .i64 ((0:Nat):Int))]) { H:=dW (oH 0 4 (L0.map aP)),n:=1,log:=[] } ->
  ∀ Q,Q (.exit 0) (dW [(4,oV 0 ((L0++Fq bits A 0).map aP))]) { H:=dW (oH 0 4 ((L0++Fq bits A 0).map aP)),n:=1,log:=[] }->Ls I E 0 45 (.loop oJ) T C Q:=by
  intro L0 hL0 T C hl Q hQ;refine vC hρ U aq 7 (λi (L:Z Decl)=>[(0,.int .i64 bits),(3,.sl (A.map aP) false),(4,oV 0 (L.map aP)),(5,.int .i64 (i:Int))]) (λi L=>oH 0 4 (L.map aP)) (λi L=>L=L0++Fq bits (A.take i) 0) L0 hl (by simp[Fq]) ?_ ?_
  . intro L hL K;rw[aZ (by omega)]at hL;subst hL;generalize L0++Fq bits A 0=L at hQ;simp[oJ,U,hlen];rcases L with _|⟨x,L⟩<;>simp<;>exact bO.mk (aw.auto) hQ
  . intro i L hi hL K hK;have cA:i<A.length:=by omega
    have zJ4:(i:Int)<7:=by omega
    have hw:=bI (i:=i)
    have zOf:L.length<=8:=by
     grind [List.length_append,zbd,List.length_take]
    have bc:∀ L',L'=(if i≠1/\ZU .i64 (bits.fdiv (2 ^ i)) 1=1 then L++[A[i]]else L)->L'=L0++Fq bits (A.take (i+1)) 0:=by
     intro L' h;rw[h,dK,ax cA,fP,zmP,hL];have:(A.take i).length=i:=by rw[eB];omega
     rw[this,gI]
     grind [Fq]
    clear hL;have hgd:∀ h,A[i]'h=A[i]:=λ_=>rfl
    have cy:IntKind.i64.wrap 2=2:=wrap_i64 (by omega) (by omega)
    have zDU:IntKind.u64.wrap (i:Int)=(i:Int):=by
     have:i<7:=hi
     match i,this with
     | 0,_=>rfl
     | 1,_=>rfl
     | 2,_=>rfl
     | 3,_=>rfl
     | 4,_=>rfl
     | 5,_=>rfl
     | 6,_=>rfl
     |n+7,h=>omega
    have AE:min i IntKind.i64.bits=i:=Nat.min_eq_left (aO (dN hi) (by decide));by_cases zMq:i=1
    . subst zMq;have bc:=bc L (by simp);rcases L with _|⟨x,L⟩<;>simp[oJ,U,hlen,cy,-Int.natCast_add]<;>exact hK _ bc _ _ (aw.auto)
    . have zxD:¬ (i:Int)=1:=by omega
      by_cases hb:ZU .i64 (bits.fdiv (2 ^ i)) 1=1
      . have bc:=bc _ (if_pos ⟨zMq,hb⟩).symm;rcases L with _|⟨x,L⟩
        . simp[oJ,U,hlen,zJ4,hw,zDU,AE,hi,zxD,hb,-Int.natCast_add];exact hK _ bc _ _ (aw.auto)
        . have pA:(L.length+1+1)*72<=1048576:=by simp at zOf;omega
          simp[oJ,U,hlen,zJ4,hw,zDU,AE,hi,zxD,hb,pA,aY,-Int.natCast_add];exact hK _ bc _ _ (aw.auto)
      . have bc:=bc _ (if_neg λh=>hb h.2).symm;rcases L with _|⟨x,L⟩<;>simp[oJ,U,hlen,zJ4,hw,zDU,AE,zxD,hb,-Int.natCast_add]<;>exact hK _ bc _ _ (aw.auto)
 by_cases O:ZU .i64 bits 2=0
 . by_cases pA:ZU .i64 bits 64=0
   . rw[if_neg (by simp[O,pA])];simp[U,hc,O,pA];refine main [] (by simp) _ _ (aw.auto) _ ?_;rw[iI];generalize Fq bits A 0=R;rcases R with _|⟨y,R⟩<;>simp[U]
   . rw[if_pos (.inr pA)];simp[U,hc,hlen,O,pA];refine main [A[1]] (by simp) _ _ (aw.auto) _ ?_;simp[U]
 . rw[if_pos (.inl O)];simp[U,hc,hlen,O];refine main [A[1]] (by simp) _ _ (aw.auto) _ ?_;simp[U]
end
end Go.Proofs.YtfloillkpbhhhaaGreat
