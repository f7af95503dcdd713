import Derived.Test.YtfloillkpbhhhaaGreatNSN
import Derived.Test.YtfloillkpbhhhaaGreatJK6
import Derived.Test.YtfloillkpbhhhaaGreatRows
import Derived.Test.YtfloillkpbhhhaaGreatJK8
import Derived.Test.YtfloillkpbhhhaaGreatJK7
set_option linter.all false
noncomputable section
namespace Go.Proofs.YtfloillkpbhhhaaGreat
open Go.J
set_option maxRecDepth 100000
set_option maxHeartbeats 4000000
variable {Q:Ex->PT V->HS->Prop}{f:FuncId}{a b t:G}{C:HS}{i m0 x:Int}{d k n nn:Nat}{T:PT V}{c:Prop}{sc:SC}{s:ao}{α:Type}{r v:V}{K:V->Z V->V}{cT:Z (Z V)}{D:Z Decl}{L L0 Lv l m:Z G}{vs:Z V}
def I3:TI:=(ti Pg 3).getD ⟨.bool,0,0,[],false⟩
@[simp] def ti3:ti Pg 3=some I3/\I3.size=1/\I3.bytes=8/\I3.zero=[.int .i64 0]/\I3.qV=false/\I3.desc=.int .i64:=by and_intros<;>kernel_rfl
def I4:TI:=(ti Pg 4).getD ⟨.bool,0,0,[],false⟩
@[simp] def ti4:ti Pg 4=some I4/\I4.size=1/\I4.bytes=1/\I4.zero=[.bool false]/\I4.qV=false/\I4.desc=.bool:=by and_intros<;>kernel_rfl
def I9:TI:=(ti Pg 9).getD ⟨.bool,0,0,[],false⟩
@[simp] def ti9:ti Pg 9=some I9/\I9.size=1/\I9.bytes=16/\I9.zero=[.str []]/\I9.qV=false/\I9.desc=.string:=by and_intros<;>kernel_rfl
def zDc:TI:=(ti Pg 22).getD ⟨.bool,0,0,[],false⟩
@[simp] def zPt:ti Pg 22=some zDc/\zDc.size=1/\zDc.bytes=24/\zDc.zero=[.a8]/\zDc.qV=false/\zDc.desc=.slice 3:=by and_intros<;>kernel_rfl
def Fl:TI:=(ti Pg 27).getD ⟨.bool,0,0,[],false⟩
def zrm:Field:=(bJ Fl 0).getD default
def zrl:Field:=(bJ Fl 1).getD default
@[simp] def zPs:ti Pg 27=some Fl/\Fl.size=2/\Fl.bytes=32/\Fl.zero=[.a8,.int .i64 0]/\Fl.qV=true/\kP Fl.desc=true/\jg Fl.desc=true/\jK Pg (fieldsOf Fl.desc)=true/\bJ Fl 0=some zrm/\zrm.type=22/\zrm.offset=0/\bJ Fl 1=some zrl/\zrl.type=3/\zrl.offset=1:=by and_intros<;>kernel_rfl
def zDb:TI:=(ti Pg 28).getD ⟨.bool,0,0,[],false⟩
@[simp] def zPr:ti Pg 28=some zDb/\zDb.size=1/\zDb.bytes=24/\zDb.zero=[.a8]/\zDb.qV=false/\zDb.desc=.slice 74:=by and_intros<;>kernel_rfl
def zAt:TI:=(ti Pg 30).getD ⟨.bool,0,0,[],false⟩
@[simp] def zPq:ti Pg 30=some zAt/\zAt.size=1/\zAt.bytes=24/\zAt.zero=[.a8]/\zAt.qV=false/\zAt.desc=.slice 64:=by and_intros<;>kernel_rfl
def zAs:TI:=(ti Pg 33).getD ⟨.bool,0,0,[],false⟩
@[simp] def zPp:ti Pg 33=some zAs/\zAs.size=1/\zAs.bytes=24/\zAs.zero=[.a8]/\zAs.qV=false/\zAs.desc=.slice 35:=by and_intros<;>kernel_rfl
def uc:TI:=(ti Pg 35).getD ⟨.bool,0,0,[],false⟩
def zrk:Field:=(bJ uc 0).getD default
def zrj:Field:=(bJ uc 1).getD default
def zri:Field:=(bJ uc 2).getD default
def zrh:Field:=(bJ uc 3).getD default
def zrg:Field:=(bJ uc 4).getD default
@[simp] def zKC:ti Pg 35=some uc/\uc.size=5/\uc.bytes=64/\uc.zero=[.int .i64 0,.str [],.int .i64 0,.int .i64 0,.a8]/\uc.qV=true/\kP uc.desc=true/\jg uc.desc=true/\jK Pg (fieldsOf uc.desc)=true/\bJ uc 0=some zrk/\zrk.type=3/\zrk.offset=0/\bJ uc 1=some zrj/\zrj.type=9/\zrj.offset=1/\bJ uc 2=some zri/\zri.type=3/\zri.offset=2/\bJ uc 3=some zrh/\zrh.type=3/\zrh.offset=3/\bJ uc 4=some zrg/\zrg.type=33/\zrg.offset=4:=by and_intros<;>kernel_rfl
def zDa:TI:=(ti Pg 45).getD ⟨.bool,0,0,[],false⟩
@[simp] def zPo:ti Pg 45=some zDa/\zDa.size=1/\zDa.bytes=24/\zDa.zero=[.a8]/\zDa.qV=false/\zDa.desc=.slice 48:=by and_intros<;>kernel_rfl
def zC9:TI:=(ti Pg 46).getD ⟨.bool,0,0,[],false⟩
@[simp] def zPn:ti Pg 46=some zC9/\zC9.size=1/\zC9.bytes=24/\zC9.zero=[.a8]/\zC9.qV=false/\zC9.desc=.slice 108:=by and_intros<;>kernel_rfl
def Xb:TI:=(ti Pg 48).getD ⟨.bool,0,0,[],false⟩
def zrf:Field:=(bJ Xb 0).getD default
def zre:Field:=(bJ Xb 1).getD default
def zrd:Field:=(bJ Xb 2).getD default
def zrc:Field:=(bJ Xb 3).getD default
def zrb:Field:=(bJ Xb 4).getD default
def zra:Field:=(bJ Xb 5).getD default
def zq9:Field:=(bJ Xb 6).getD default
@[simp] def zPm:ti Pg 48=some Xb/\Xb.size=11/\Xb.bytes=152/\Xb.zero=[.int .i64 0,.int .i64 0,.str [],.int .i64 0,.a8,.a8,.int .i64 0,.str [],.int .i64 0,.int .i64 0,.a8]/\Xb.qV=true/\kP Xb.desc=true/\jg Xb.desc=true/\jK Pg (fieldsOf Xb.desc)=true/\bJ Xb 0=some zrf/\zrf.type=3/\zrf.offset=0/\bJ Xb 1=some zre/\zre.type=3/\zre.offset=1/\bJ Xb 2=some zrd/\zrd.type=9/\zrd.offset=2/\bJ Xb 3=some zrc/\zrc.type=3/\zrc.offset=3/\bJ Xb 4=some zrb/\zrb.type=45/\zrb.offset=4/\bJ Xb 5=some zra/\zra.type=46/\zra.offset=5/\bJ Xb 6=some zq9/\zq9.type=35/\zq9.offset=6:=by and_intros<;>kernel_rfl
def zC8:TI:=(ti Pg 52).getD ⟨.bool,0,0,[],false⟩
@[simp] def zPl:ti Pg 52=some zC8/\zC8.size=1/\zC8.bytes=24/\zC8.zero=[.a8]/\zC8.qV=false/\zC8.desc=.slice 9:=by and_intros<;>kernel_rfl
def zC7:TI:=(ti Pg 56).getD ⟨.bool,0,0,[],false⟩
@[simp] def zPk:ti Pg 56=some zC7/\zC7.size=1/\zC7.bytes=8/\zC7.zero=[.int .i64 0]/\zC7.qV=false/\zC7.desc=.int .i64:=by and_intros<;>kernel_rfl
def Fm:TI:=(ti Pg 62).getD ⟨.bool,0,0,[],false⟩
def zq8:Field:=(bJ Fm 0).getD default
def zq7:Field:=(bJ Fm 1).getD default
@[simp] def zPj:ti Pg 62=some Fm/\Fm.size=6/\Fm.bytes=72/\Fm.zero=[.int .i64 0,.int .i64 0,.str [],.int .i64 0,.int .i64 0,.a8]/\Fm.qV=true/\kP Fm.desc=true/\jg Fm.desc=true/\jK Pg (fieldsOf Fm.desc)=true/\bJ Fm 0=some zq8/\zq8.type=3/\zq8.offset=0/\bJ Fm 1=some zq7/\zq7.type=35/\zq7.offset=1:=by and_intros<;>kernel_rfl
def C5:TI:=(ti Pg 64).getD ⟨.bool,0,0,[],false⟩
def zq6:Field:=(bJ C5 0).getD default
def zq5:Field:=(bJ C5 1).getD default
@[simp] def zKB:ti Pg 64=some C5/\C5.size=7/\C5.bytes=88/\C5.zero=[.str [],.int .i64 0,.int .i64 0,.str [],.int .i64 0,.int .i64 0,.a8]/\C5.qV=true/\kP C5.desc=true/\jg C5.desc=true/\jK Pg (fieldsOf C5.desc)=true/\bJ C5 0=some zq6/\zq6.type=9/\zq6.offset=0/\bJ C5 1=some zq5/\zq5.type=62/\zq5.offset=1:=by and_intros<;>kernel_rfl
def zC6:TI:=(ti Pg 72).getD ⟨.bool,0,0,[],false⟩
@[simp] def zPi:ti Pg 72=some zC6/\zC6.size=1/\zC6.bytes=24/\zC6.zero=[.a8]/\zC6.qV=false/\zC6.desc=.slice 91:=by and_intros<;>kernel_rfl
def yq:TI:=(ti Pg 74).getD ⟨.bool,0,0,[],false⟩
def zq4:Field:=(bJ yq 0).getD default
def zq3:Field:=(bJ yq 1).getD default
def zq2:Field:=(bJ yq 2).getD default
def zq1:Field:=(bJ yq 3).getD default
@[simp] def zPh:ti Pg 74=some yq/\yq.size=4/\yq.bytes=72/\yq.zero=[.int .i64 0,.str [],.a8,.a8]/\yq.qV=true/\kP yq.desc=true/\jg yq.desc=true/\jK Pg (fieldsOf yq.desc)=true/\bJ yq 0=some zq4/\zq4.type=3/\zq4.offset=0/\bJ yq 1=some zq3/\zq3.type=9/\zq3.offset=1/\bJ yq 2=some zq2/\zq2.type=52/\zq2.offset=2/\bJ yq 3=some zq1/\zq1.type=72/\zq1.offset=3:=by and_intros<;>kernel_rfl
def zC5:TI:=(ti Pg 75).getD ⟨.bool,0,0,[],false⟩
@[simp] def zPg:ti Pg 75=some zC5/\zC5.size=1/\zC5.bytes=8/\zC5.zero=[.int .u64 0]/\zC5.qV=false/\zC5.desc=.int .u64:=by and_intros<;>kernel_rfl
def B6:TI:=(ti Pg 91).getD ⟨.bool,0,0,[],false⟩
def zq0:Field:=(bJ B6 0).getD default
def zqZ:Field:=(bJ B6 1).getD default
def zqY:Field:=(bJ B6 2).getD default
@[simp] def zPf:ti Pg 91=some B6/\B6.size=3/\B6.bytes=48/\B6.zero=[.int .i64 0,.str [],.a8]/\B6.qV=true/\kP B6.desc=true/\jg B6.desc=true/\jK Pg (fieldsOf B6.desc)=true/\bJ B6 0=some zq0/\zq0.type=3/\zq0.offset=0/\bJ B6 1=some zqZ/\zqZ.type=9/\zqZ.offset=1/\bJ B6 2=some zqY/\zqY.type=33/\zqY.offset=2:=by and_intros<;>kernel_rfl
def zC4:TI:=(ti Pg 94).getD ⟨.bool,0,0,[],false⟩
@[simp] def zPe:ti Pg 94=some zC4/\zC4.size=1/\zC4.bytes=24/\zC4.zero=[.a8]/\zC4.qV=false/\zC4.desc=.slice 210:=by and_intros<;>kernel_rfl
def zC3:TI:=(ti Pg 95).getD ⟨.bool,0,0,[],false⟩
@[simp] def zPd:ti Pg 95=some zC3/\zC3.size=1/\zC3.bytes=24/\zC3.zero=[.a8]/\zC3.qV=false/\zC3.desc=.slice 212:=by and_intros<;>kernel_rfl
def Fo:TI:=(ti Pg 97).getD ⟨.bool,0,0,[],false⟩
def zqX:Field:=(bJ Fo 0).getD default
def zqW:Field:=(bJ Fo 1).getD default
@[simp] def zPc:ti Pg 97=some Fo/\Fo.size=2/\Fo.bytes=48/\Fo.zero=[.a8,.a8]/\Fo.qV=true/\kP Fo.desc=true/\jg Fo.desc=true/\jK Pg (fieldsOf Fo.desc)=true/\bJ Fo 0=some zqX/\zqX.type=94/\zqX.offset=0/\bJ Fo 1=some zqW/\zqW.type=95/\zqW.offset=1:=by and_intros<;>kernel_rfl
def zC2:TI:=(ti Pg 98).getD ⟨.bool,0,0,[],false⟩
@[simp] def zPb:ti Pg 98=some zC2/\zC2.size=1/\zC2.bytes=24/\zC2.zero=[.a8]/\zC2.qV=false/\zC2.desc=.slice 130:=by and_intros<;>kernel_rfl
def Lc:TI:=(ti Pg 108).getD ⟨.bool,0,0,[],false⟩
def zhe:Field:=(bJ Lc 0).getD default
def zhd:Field:=(bJ Lc 1).getD default
def zhc:Field:=(bJ Lc 2).getD default
def zhb:Field:=(bJ Lc 3).getD default
@[simp] def zNJ:ti Pg 108=some Lc/\Lc.size=14/\Lc.bytes=200/\Lc.zero=[.int .i64 0,.str [],.a8,.int .i64 0,.int .i64 0,.str [],.int .i64 0,.a8,.a8,.int .i64 0,.str [],.int .i64 0,.int .i64 0,.a8]/\Lc.qV=true/\kP Lc.desc=true/\jg Lc.desc=true/\jK Pg (fieldsOf Lc.desc)=true/\bJ Lc 0=some zhe/\zhe.type=3/\zhe.offset=0/\bJ Lc 1=some zhd/\zhd.type=9/\zhd.offset=1/\bJ Lc 2=some zhc/\zhc.type=52/\zhc.offset=2/\bJ Lc 3=some zhb/\zhb.type=48/\zhb.offset=3:=by and_intros<;>kernel_rfl
def TD:TI:=(ti Pg 112).getD ⟨.bool,0,0,[],false⟩
def zha:Field:=(bJ TD 0).getD default
def zg9:Field:=(bJ TD 1).getD default
@[simp] def zNI:ti Pg 112=some TD/\TD.size=2/\TD.bytes=16/\TD.zero=[.int .i64 0,.int .i64 0]/\TD.qV=true/\kP TD.desc=true/\jg TD.desc=true/\jK Pg (fieldsOf TD.desc)=true/\bJ TD 0=some zha/\zha.type=56/\zha.offset=0/\bJ TD 1=some zg9/\zg9.type=3/\zg9.offset=1:=by and_intros<;>kernel_rfl
def zmq:TI:=(ti Pg 114).getD ⟨.bool,0,0,[],false⟩
@[simp] def zNH:ti Pg 114=some zmq/\zmq.size=1/\zmq.bytes=8/\zmq.zero=[.de]/\zmq.qV=false/\zmq.desc=.pointer 116:=by and_intros<;>kernel_rfl
def Px:TI:=(ti Pg 116).getD ⟨.bool,0,0,[],false⟩
def zg8:Field:=(bJ Px 0).getD default
def zg7:Field:=(bJ Px 1).getD default
def zg6:Field:=(bJ Px 2).getD default
@[simp] def zNG:ti Pg 116=some Px/\Px.size=4/\Px.bytes=96/\Px.zero=[.a8,.a8,.a8,.a8]/\Px.qV=true/\kP Px.desc=true/\jg Px.desc=true/\jK Pg (fieldsOf Px.desc)=true/\bJ Px 0=some zg8/\zg8.type=28/\zg8.offset=0/\bJ Px 1=some zg7/\zg7.type=97/\zg7.offset=1/\bJ Px 2=some zg6/\zg6.type=33/\zg6.offset=3:=by and_intros<;>kernel_rfl
def TC:TI:=(ti Pg 130).getD ⟨.bool,0,0,[],false⟩
def zg5:Field:=(bJ TC 0).getD default
def zg4:Field:=(bJ TC 1).getD default
@[simp] def zNF:ti Pg 130=some TC/\TC.size=6/\TC.bytes=72/\TC.zero=[.int .i64 0,.int .i64 0,.str [],.int .i64 0,.int .i64 0,.a8]/\TC.qV=true/\kP TC.desc=true/\jg TC.desc=true/\jK Pg (fieldsOf TC.desc)=true/\bJ TC 0=some zg5/\zg5.type=3/\zg5.offset=0/\bJ TC 1=some zg4/\zg4.type=35/\zg4.offset=1:=by and_intros<;>kernel_rfl
def zmp:TI:=(ti Pg 135).getD ⟨.bool,0,0,[],false⟩
@[simp] def zNE:ti Pg 135=some zmp/\zmp.size=1/\zmp.bytes=8/\zmp.zero=[.de]/\zmp.qV=false/\zmp.desc=.pointer 97:=by and_intros<;>kernel_rfl
def zmo:TI:=(ti Pg 205).getD ⟨.bool,0,0,[],false⟩
@[simp] def zND:ti Pg 205=some zmo/\zmo.size=1/\zmo.bytes=8/\zmo.zero=[.nilFunc]/\zmo.qV=false/\kP zmo.desc=false:=by and_intros<;>kernel_rfl
def Lb:TI:=(ti Pg 210).getD ⟨.bool,0,0,[],false⟩
def zg3:Field:=(bJ Lb 0).getD default
def zg2:Field:=(bJ Lb 1).getD default
def zg1:Field:=(bJ Lb 2).getD default
def zg0:Field:=(bJ Lb 3).getD default
@[simp] def zNC:ti Pg 210=some Lb/\Lb.size=8/\Lb.bytes=88/\Lb.zero=[.bool false,.int .i64 0,.str [],.int .i64 0,.int .i64 0,.a8,.int .i64 0,.bool false]/\Lb.qV=true/\kP Lb.desc=true/\jg Lb.desc=true/\jK Pg (fieldsOf Lb.desc)=true/\bJ Lb 0=some zg3/\zg3.type=4/\zg3.offset=0/\bJ Lb 1=some zg2/\zg2.type=35/\zg2.offset=1/\bJ Lb 2=some zg1/\zg1.type=3/\zg1.offset=6/\bJ Lb 3=some zg0/\zg0.type=4/\zg0.offset=7:=by and_intros<;>kernel_rfl
def Pw:TI:=(ti Pg 212).getD ⟨.bool,0,0,[],false⟩
def zgZ:Field:=(bJ Pw 0).getD default
def zgY:Field:=(bJ Pw 1).getD default
def zgX:Field:=(bJ Pw 2).getD default
@[simp] def zNB:ti Pg 212=some Pw/\Pw.size=10/\Pw.bytes=104/\Pw.zero=[.int .i64 0,.bool false,.int .i64 0,.str [],.int .i64 0,.int .i64 0,.a8,.int .i64 0,.bool false,.bool false]/\Pw.qV=true/\kP Pw.desc=true/\jg Pw.desc=true/\jK Pg (fieldsOf Pw.desc)=true/\bJ Pw 0=some zgZ/\zgZ.type=3/\zgZ.offset=0/\bJ Pw 1=some zgY/\zgY.type=210/\zgY.offset=1/\bJ Pw 2=some zgX/\zgX.type=4/\zgX.offset=9:=by and_intros<;>kernel_rfl
def zmn:TI:=(ti Pg 273).getD ⟨.bool,0,0,[],false⟩
@[simp] def zNA:ti Pg 273=some zmn/\zmn.size=1/\zmn.bytes=8/\zmn.zero=[.de]/\zmn.qV=false/\zmn.desc=.pointer 275:=by and_intros<;>kernel_rfl
def XF:TI:=(ti Pg 275).getD ⟨.bool,0,0,[],false⟩
def zgW:Field:=(bJ XF 0).getD default
@[simp] def zNz:ti Pg 275=some XF/\XF.size=1/\XF.bytes=8/\XF.zero=[.de]/\XF.qV=true/\kP XF.desc=true/\jg XF.desc=true/\jK Pg (fieldsOf XF.desc)=true/\bJ XF 0=some zgW/\zgW.type=135/\zgW.offset=0:=by and_intros<;>kernel_rfl
def Q3:TI:=(ti Pg 277).getD ⟨.bool,0,0,[],false⟩
def zgV:Field:=(bJ Q3 0).getD default
def zgU:Field:=(bJ Q3 1).getD default
@[simp] def zDY:ti Pg 277=some Q3/\Q3.size=10/\Q3.bytes=128/\Q3.zero=[.int .i64 0,.str [],.int .i64 0,.int .i64 0,.a8,.int .i64 0,.str [],.int .i64 0,.int .i64 0,.a8]/\Q3.qV=true/\kP Q3.desc=true/\jg Q3.desc=true/\jK Pg (fieldsOf Q3.desc)=true/\bJ Q3 0=some zgV/\zgV.type=35/\zgV.offset=0/\bJ Q3 1=some zgU/\zgU.type=35/\zgU.offset=5:=by and_intros<;>kernel_rfl
def ZD:TI:=(ti Pg 278).getD ⟨.bool,0,0,[],false⟩
@[simp] def zNy:ti Pg 278=some ZD/\ZD.size=1/\ZD.bytes=24/\ZD.zero=[.a8]/\ZD.qV=false/\ZD.desc=.slice 277:=by and_intros<;>kernel_rfl
def zmm:TI:=(ti Pg 296).getD ⟨.bool,0,0,[],false⟩
@[simp] def zNx:ti Pg 296=some zmm/\zmm.size=1/\zmm.bytes=8/\zmm.zero=[.dy]/\zmm.qV=false/\zmm.desc=.map 3 4:=by and_intros<;>kernel_rfl
def zPB(l:Z α):Array.mk l=l.toArray:=rfl
def zPA(n:Nat)(h:n<2 ^ 8):(⟨.ofFin ⟨n,h⟩⟩:UInt8)=UInt8.ofNat n:=by
 apply UInt8.toNat_inj.1;show n=_;rw[UInt8.toNat_ofNat'];exact(Nat.mod_eq_of_lt h).symm
abbrev CT(c:Y SC)(x:{S // c=some S}:=by refine⟨?_,?_⟩;rotate_left;(conv=>lhs;(reduce;try simp only[↓zPA,zPB,UInt8.reduceOfNat,Int.reduceOfNat,Int.reduceNegSucc]))):{S // c=some S}:=x
def sQ:SC->Z SC
 |.seq a b=>sQ a++sQ b
 |.cond _ a b=>sQ a++sQ b
 |.block _ a=>sQ a
 |.loop a=>sQ a++[a]
 |.range _ _ a b=>sQ a++sQ b
 |_=>[]
def Cd:SC->Z (SC×SC)
 |.seq a b=>Cd a++Cd b
 |.cond _ a b=>Cd a++Cd b
 |.block _ a=>Cd a
 |.loop a=>Cd a
 |.range _ _ a b=>Cd a++Cd b++[(a,b)]
 |_=>[]
@[simp] def IM:=CT (Tryz.f5.body.bind aV)
@[simp] def WS:=CT (Tryz.f8.body.bind aV)
@[simp] def H5:=CT (Tryz.f9.body.bind aV)
def o6:SC:=(CT (sQ (H5).1)[0]?).1
@[simp] def WR:=CT (Tryz.f11.body.bind aV)
@[simp] def qU:=CT (Tryz.f12.body.bind aV)
def qw:SC:=(CT (sQ (qU).1)[0]?).1
@[simp] def Kh:=CT (Tryz.f13.body.bind aV)
def zw:SC:=(CT (sQ (Kh).1)[0]?).1
@[simp] def WN:=CT (Tryz.f14.body.bind aV)
@[simp] def WO:=CT (Tryz.f15.body.bind aV)
@[simp] def Pj:=CT (Tryz.f16.body.bind aV)
@[simp] def Pq:=CT (Tryz.f21.body.bind aV)
@[simp] def zD:=CT (Tryz.f22.body.bind aV)
def xC:SC:=(CT (sQ (zD).1)[0]?).1
def nI:SC:=(CT (sQ (zD).1)[1]?).1
def rY:SC:=(CT (sQ (zD).1)[2]?).1
@[simp] def wY:=CT (Tryz.f23.body.bind aV)
def vH:SC:=(CT (sQ (wY).1)[0]?).1
@[simp] def Eh:=CT (Tryz.f26.body.bind aV)
def tq:SC:=(CT (sQ (Eh).1)[0]?).1
@[simp] def ES:=CT (Tryz.f28.body.bind aV)
@[simp] def Pm:=CT (Tryz.f30.body.bind aV)
@[simp] def Pk:=CT (Tryz.f31.body.bind aV)
@[simp] def CY:=CT (Tryz.f32.body.bind aV)
@[simp] def Gs:=CT (Tryz.f34.body.bind aV)
@[simp] def Po:=CT (Tryz.f35.body.bind aV)
@[simp] def FH:=CT (Tryz.f36.body.bind aV)
def vI:SC:=(CT (sQ (FH).1)[0]?).1
@[simp] def BH:=CT (Tryz.f37.body.bind aV)
@[simp] def WQ:=CT (Tryz.f38.body.bind aV)
@[simp] def Cj:=CT (Tryz.f39.body.bind aV)
def xP:SC:=(CT (sQ (Cj).1)[0]?).1
@[simp] def Ir:=CT (Tryz.f40.body.bind aV)
@[simp] def lY:=CT (Tryz.f45.body.bind aV)
def wW:SC:=(CT (sQ (lY).1)[0]?).1
def vV:SC:=(CT ((Cd (lY).1)[0]?.map (·.1))).1
def vU:SC:=(CT ((Cd (lY).1)[0]?.map (·.2))).1
@[simp] def uS:=CT (Tryz.f48.body.bind aV)
def zu:SC:=(CT (sQ (uS).1)[0]?).1
def sZ:SC:=(CT (sQ (uS).1)[1]?).1
@[simp] def wG:=CT (Tryz.f55.body.bind aV)
def lq:SC:=(CT (sQ (wG).1)[0]?).1
@[simp] def Iw:=CT (Tryz.f56.body.bind aV)
@[simp] def CW:=CT (Tryz.f57.body.bind aV)
def Cf:SC:=(CT (sQ (CW).1)[0]?).1
@[simp] def Eg:=CT (Tryz.f58.body.bind aV)
@[simp] def CX:=CT (Tryz.f59.body.bind aV)
def xA:SC:=(CT (sQ (CX).1)[0]?).1
@[simp] def lF:=CT (Tryz.f60.body.bind aV)
def jL:SC:=(CT (sQ (lF).1)[0]?).1
@[simp] def rM:=CT (Tryz.f61.body.bind aV)
@[simp] def lD:=CT (Tryz.f67.body.bind aV)
def pM:SC:=(CT (sQ (lD).1)[0]?).1
def pK:SC:=(CT (sQ (lD).1)[1]?).1
def uR:SC:=(CT (sQ (lD).1)[2]?).1
def uQ:SC:=(CT (sQ (lD).1)[3]?).1
@[simp] def HZ:=CT (Tryz.f68.body.bind aV)
@[simp] def Pp:=CT (Tryz.f69.body.bind aV)
@[simp] def ER:=CT (Tryz.f71.body.bind aV)
def zt:SC:=(CT (sQ (ER).1)[0]?).1
def qP:SC:=(CT (sQ (ER).1)[1]?).1
@[simp] def Ni:=CT (Tryz.f72.body.bind aV)
def FC:SC:=(CT (sQ (Ni).1)[0]?).1
@[simp] def vW:=CT (Tryz.f75.body.bind aV)
@[simp] def BG:=CT (Tryz.f76.body.bind aV)
@[simp] def oP:=CT (Tryz.f81.body.bind aV)
def dF:SC:=(CT (sQ (oP).1)[0]?).1
@[simp] def iq:=CT (Tryz.f82.body.bind aV)
@[simp] def lK:=CT (Tryz.f85.body.bind aV)
@[simp] def zF:=CT (Tryz.f87.body.bind aV)
def tu:SC:=(CT (sQ (zF).1)[0]?).1
def EP:SC:=(CT (sQ (zF).1)[1]?).1
@[simp] def BF:=CT (Tryz.f88.body.bind aV)
@[simp] def nZ:=CT (Tryz.f89.body.bind aV)
@[simp] def LU:=CT (Tryz.f90.body.bind aV)
@[simp] def zG:=CT (Tryz.f91.body.bind aV)
def zx:SC:=(CT (sQ (zG).1)[0]?).1
@[simp] def Pn:=CT (Tryz.f101.body.bind aV)
@[simp] def FD:=CT (Tryz.f102.body.bind aV)
@[simp] def Ck:=CT (Tryz.f103.body.bind aV)
@[simp] def Bd:=CT (Tryz.f104.body.bind aV)
def Gm:SC:=(CT (sQ (Bd).1)[0]?).1
@[simp] def EU:=CT (Tryz.f105.body.bind aV)
@[simp] def Ee:=CT (Tryz.f106.body.bind aV)
def zq:SC:=(CT (sQ (Ee).1)[0]?).1
@[simp] def O9:=CT (Tryz.f107.body.bind aV)
@[simp] def Pb:=CT (Tryz.f108.body.bind aV)
@[simp] def LQ:=CT (Tryz.f110.body.bind aV)
@[simp] def nY:=CT (Tryz.f111.body.bind aV)
@[simp] def Ke:=CT (Tryz.f112.body.bind aV)
@[simp] def gU:=CT (Tryz.f113.body.bind aV)
@[simp] def Ci:=CT (Tryz.f114.body.bind aV)
def xO:SC:=(CT (sQ (Ci).1)[0]?).1
@[simp] def Kc:=CT (Tryz.f115.body.bind aV)
@[simp] def nA:=CT (Tryz.f116.body.bind aV)
@[simp] def Gr:=CT (Tryz.f117.body.bind aV)
@[simp] def Ef:=CT (Tryz.f118.body.bind aV)
def nz:SC:=(CT (sQ (Ef).1)[0]?).1
@[simp] def Gq:=CT (Tryz.f119.body.bind aV)
@[simp] def qf:=CT (Tryz.f120.body.bind aV)
@[simp] def qR:=CT (Tryz.f121.body.bind aV)
def Cu:SC:=(CT (sQ (qR).1)[0]?).1
def wE:SC:=(CT (sQ (qR).1)[1]?).1
def wD:SC:=(CT (sQ (qR).1)[2]?).1
@[simp] def Pf:=CT (Tryz.f123.body.bind aV)
@[simp] def LV:=CT (Tryz.f124.body.bind aV)
@[simp] def ib:=CT (Tryz.f125.body.bind aV)
@[simp] def Ki:=CT (Tryz.f126.body.bind aV)
@[simp] def LW:=CT (Tryz.f127.body.bind aV)
@[simp] def jM:=CT (Tryz.f128.body.bind aV)
def ko:SC:=(CT (sQ (jM).1)[0]?).1
def fZ:SC:=(CT (sQ (jM).1)[1]?).1
@[simp] def L8:=CT (Tryz.f129.body.bind aV)
@[simp] def bY:=CT (Tryz.f130.body.bind aV)
@[simp] def qa:=CT (Tryz.f131.body.bind aV)
@[simp] def zC:=CT (Tryz.f132.body.bind aV)
def xz:SC:=(CT (sQ (zC).1)[0]?).1
@[simp] def Iu:=CT (Tryz.f138.body.bind aV)
@[simp] def L6:=CT (Tryz.f144.body.bind aV)
@[simp] def LY:=CT (Tryz.f147.body.bind aV)
@[simp] def LZ:=CT (Tryz.f148.body.bind aV)
@[simp] def SA:=CT (Tryz.f149.body.bind aV)
@[simp] def CZ:=CT (Tryz.f150.body.bind aV)
def xB:SC:=(CT (sQ (CZ).1)[0]?).1
@[simp] def wX:=CT (Tryz.f157.body.bind aV)
def vG:SC:=(CT (sQ (wX).1)[0]?).1
def mD:SC:=(CT (sQ (wX).1)[1]?).1
@[simp] def rJ:=CT (Tryz.f161.body.bind aV)
def o5:SC:=(CT (sQ (rJ).1)[0]?).1
@[simp] def Sy:=CT (Tryz.f162.body.bind aV)
@[simp] def xD:=CT (Tryz.f163.body.bind aV)
def Ed:SC:=(CT (sQ (xD).1)[0]?).1
@[simp] def jR:=CT (Tryz.f165.body.bind aV)
def jh:SC:=(CT (sQ (jR).1)[0]?).1
@[simp] def lX:=CT (Tryz.f166.body.bind aV)
@[simp] def rO:=CT (Tryz.f167.body.bind aV)
@[simp] def jD:=CT (Tryz.f169.body.bind aV)
def ja:SC:=(CT (sQ (jD).1)[0]?).1
@[simp] def vK:=CT (Tryz.f170.body.bind aV)
@[simp] def nJ:=CT (Tryz.f171.body.bind aV)
def lN:SC:=(CT (sQ (nJ).1)[0]?).1
@[simp] def HV:=CT (Tryz.f184.body.bind aV)
def Ce:SC:=(CT (sQ (HV).1)[0]?).1
@[simp] def Cv:=CT (Tryz.f185.body.bind aV)
@[simp] def Iq:=CT (Tryz.f186.body.bind aV)
@[simp] def ET:=CT (Tryz.f187.body.bind aV)
@[simp] def rZ:=CT (Tryz.f188.body.bind aV)
def oI:SC:=(CT (sQ (rZ).1)[0]?).1
def rH:SC:=(CT (sQ (rZ).1)[1]?).1
@[simp] def Ch:=CT (Tryz.f190.body.bind aV)
@[simp] def lu:=CT (Tryz.f191.body.bind aV)
def jV:SC:=(CT (sQ (lu).1)[0]?).1
@[simp] def gq:=CT (Tryz.f192.body.bind aV)
def eB:SC:=(CT (sQ (gq).1)[0]?).1
@[simp] def lC:=CT (Tryz.f193.body.bind aV)
@[simp] def kz:=CT (Tryz.f194.body.bind aV)
def jJ:SC:=(CT (sQ (kz).1)[0]?).1
@[simp] def iU:=CT (Tryz.f195.body.bind aV)
def jI:SC:=(CT (sQ (iU).1)[0]?).1
@[simp] def Ph:=CT (Tryz.f196.body.bind aV)
@[simp] def nK:=CT (Tryz.f198.body.bind aV)
@[simp] def vJ:=CT (Tryz.f199.body.bind aV)
def nH:SC:=(CT (sQ (vJ).1)[0]?).1
@[simp] def lG:=CT (Tryz.f200.body.bind aV)
@[simp] def oQ:=CT (Tryz.f201.body.bind aV)
@[simp] def vL:=CT (Tryz.f202.body.bind aV)
def BD:SC:=(CT ((Cd (vL).1)[0]?.map (·.1))).1
def BC:SC:=(CT ((Cd (vL).1)[0]?.map (·.2))).1
@[simp] def mP:=CT (Tryz.f203.body.bind aV)
def kM:SC:=(CT (sQ (mP).1)[0]?).1
@[simp] def AP:=CT (Tryz.f204.body.bind aV)
def qx:SC:=(CT (sQ (AP).1)[0]?).1
@[simp] def bL:=CT (Tryz.f205.body.bind aV)
def bD:SC:=(CT (sQ (bL).1)[0]?).1
@[simp] def LX:=CT (Tryz.f222.body.bind aV)
@[simp] def SB:=CT (Tryz.f223.body.bind aV)
@[simp] def O8:=CT (Tryz.f235.body.bind aV)
@[simp] def qQ:=CT (Tryz.f236.body.bind aV)
def sW:SC:=(CT (sQ (qQ).1)[0]?).1
def Ec:SC:=(CT ((Cd (qQ).1)[0]?.map (·.1))).1
def oG:SC:=(CT ((Cd (qQ).1)[0]?.map (·.2))).1
@[simp] def H6:=CT (Tryz.f245.body.bind aV)
def Cg:SC:=(CT (sQ (H6).1)[0]?).1
@[simp] def EW:=CT (Tryz.f246.body.bind aV)
@[simp] def BI:=CT (Tryz.f247.body.bind aV)
@[simp] def fP:=CT (Tryz.f248.body.bind aV)
def dY:SC:=(CT (sQ (fP).1)[0]?).1
@[simp] def fw:=CT (Tryz.f249.body.bind aV)
def dO:SC:=(CT (sQ (fw).1)[0]?).1
@[simp] def Kg:=CT (Tryz.f250.body.bind aV)
@[simp] def eO:=CT (Tryz.f251.body.bind aV)
def eu:SC:=(CT (sQ (eO).1)[0]?).1
@[simp] def Gp:=CT (Tryz.f252.body.bind aV)
@[simp] def FE:=CT (Tryz.f253.body.bind aV)
@[simp] def nC:=CT (Tryz.f254.body.bind aV)
@[simp] def Kb:=CT (Tryz.f262.body.bind aV)
@[simp] def tF:=CT (Tryz.f263.body.bind aV)
def uP:SC:=(CT (sQ (tF).1)[0]?).1
@[simp] def kS:=CT (Tryz.f264.body.bind aV)
@[simp] def Iy:=CT (Tryz.f269.body.bind aV)
@[simp] def Ei:=CT (Tryz.f270.body.bind aV)
@[simp] def Sz:=CT (Tryz.f271.body.bind aV)
@[simp] def tZ:=CT (Tryz.f272.body.bind aV)
@[simp] def zy:=CT (Tryz.f273.body.bind aV)
@[simp] def tH:=CT (Tryz.f274.body.bind aV)
@[simp] def tK:=CT (Tryz.f275.body.bind aV)
def pJ:SC:=(CT (sQ (tK).1)[0]?).1
@[simp] def qo:=CT (Tryz.f276.body.bind aV)
@[simp] def AO:=CT (Tryz.f279.body.bind aV)
@[simp] def zA:=CT (Tryz.f280.body.bind aV)
@[simp] def HY:=CT (Tryz.f281.body.bind aV)
def rX:SC:=(CT (sQ (HY).1)[0]?).1
@[simp] def tJ:=CT (Tryz.f282.body.bind aV)
@[simp] def zB:=CT (Tryz.f284.body.bind aV)
def ll:SC:=(CT (sQ (zB).1)[0]?).1
@[simp] def wF:=CT (Tryz.f285.body.bind aV)
open Go.J.bo (enc)
@[simp] def zEJ  {l:Z Nat}:(J.part C l).log=[]:=(rfl)
section
variable {I:Nat->Value}(hρ:J.Good I){E:Env}(U:E.P=Pg)(aq:bK I E)
include hρ U aq
def fn{fn:Func}(hf:Pg.funcs[f]?=some fn)(hb:fn.body.bind aV=some sc)(he:jH fn.ntmps vs 0 .leaf=some T)(hp:bX vs=true)
 (h:Wp I E 0 fn.ntmps sc T { H:=.leaf,n:=0,log:=[] } (J.Leaves E.P fn (Ej r))) (C:HS):aS I Pg f vs C r C:=by
 rw[<- U];exact zf4 hρ aq (by rw[U];exact follows) (by rw[U];exact named) (by rw[U];exact hf) hb he hp h C
def lp{sz:Nat}{s:SC}(h:∀ K:PT V->HS->Prop,(∀ T C,v5 I E k sz s Q n T C->K T C)->Wp I E k sz s T C (Ex.then K Q)):v5 I E k sz s Q (n+1) T C :=
 WU hρ aq (by rw[U];exact follows) (by rw[U];exact named) h
def st{fn:Func}{c c':Z V}(hf:Pg.funcs[f]?=some fn)(hb:fn.body.bind aV=some sc)(he:jH fn.ntmps (.ptr 0 0 0::vs) 0 .leaf=some T)(hp:bX vs=true)
 (hc:c.all V.bN=true) (wq:c'.all V.bN=true) (hr:r.sS (λ_=>false)=true)
 (h:Wp I E 1 fn.ntmps sc T { H:=dP [(0,box c)],n:=1,log:=[] } (J.Leaves E.P fn (aJ 1 r [(0,box c')])))  {id:Nat} (hid:id<C.n) (hg:C.H.get id=some (box c)):aS I Pg f (.ptr id 0 0::vs) C r (C.wr id (box c')):=by
 rw[<- U];exact zxO hρ aq (by rw[U];exact follows) (by rw[U];exact named) (by rw[U];exact hf) hb he hp hc wq hr h hid hg
def row{fn:Func}{es:Z (Z V)}{sz:Nat}(hf:Pg.funcs[f]?=some fn)(hb:fn.body.bind aV=some sc)(he:jH fn.ntmps vs 0 .leaf=some T)(hp:bX vs=true)
 (fY:(es.all λe=>e.all V.bN)=true)
 (h:Wp I E 0 fn.ntmps sc T { H:=dP [],n:=0,log:=[] } (J.Leaves E.P fn (aJ 0 (oV 0 es) (oH 0 sz es))))  (hv:C.H.get C.n=none) :
 aS I Pg f vs C (oV C.n es) (bi (Nat.beq (dB es) 0) C { H:=C.H.set C.n (oO sz es),n:=C.n+1,log:=C.n::C.log }):=by
 rw[<- U];exact zsN hρ aq (by rw[U];exact follows) (by rw[U];exact named) (by rw[U];exact hf) hb he hp fY h hv
def mt{fn:Func}{pre post:Z V}{es:Z (Z V)}{sz:Nat}(hf:Pg.funcs[f]?=some fn)(hb:fn.body.bind aV=some sc)(he:jH fn.ntmps (pre++N6 0 es::post) 0 .leaf=some T)(hp:bX (pre++post)=true)
 (hc:(es.all λe=>e.all V.bN)=true) (wq:(cT.all λe=>e.all V.bN)=true) (hl:cT.length=es.length) (hr:r.sS (λ_=>false)=true)
 (h:Wp I E 1 fn.ntmps sc T { H:=dP [(0,Lm sz es)],n:=1,log:=[] } (J.Leaves E.P fn (aJ 1 r [(0,Lm sz cT)])))  {id:Nat} (hid:id<C.n) (hg:C.H.get id=some (Lm sz es)) :
 aS I Pg f (pre++N6 id es::post) C r (C.wr id (Lm sz cT)):=by
 rw[<- U];exact zyv hρ aq (by rw[U];exact follows) (by rw[U];exact named) (by rw[U];exact hf) hb he hp hc wq hl hr h hid hg
def em{fn:Func}{D:EmbD}(hf:Pg.funcs[f]?=some fn)(hb:fn.body.bind aV=some sc)(he:jH fn.ntmps D.eb 0 .leaf=some T)(hg:D.Good)
 (h:Wp I E D.k fn.ntmps sc T { H:=dP D.OL,n:=D.k,log:=[] } (J.Leaves E.P fn (aJ D.k D.v0 D.cJ)))   (b4:D.Fits vs C) :
 aS I Pg f vs C (D.v0.cw (news C.n D.k D.π)) (DV C D.k D.k' D.π D.cJ):=by
 rw[<- U];exact zgg hρ aq (by rw[U];exact follows) (by rw[U];exact named) (by rw[U];exact hf) hb he hg h b4
def io{fn:Func}{es:Z (Z V)}{rs:Z V}{sz:Nat}(hK:K=xL\/K=zFs)(hf:Pg.funcs[f]?=some fn)(hb:fn.body.bind aV=some sc)(he:jH fn.ntmps (oV 0 es::vs) 0 .leaf=some T)(hp:bX vs=true)
 (h0:(es.all λe=>e.all V.bN)=true) (M:(cT.all λe=>e.all V.bN)=true) (A6:(rs.all λv=>v.Ai (λ_=>false))=true) (hle:es.length<=cT.length)
 (h:Wp I E (if es=[]then 0 else 1) fn.ntmps sc T { H:=dP (oH 0 sz es),n:=if es=[]then 0 else 1,log:=[] } (J.Leaves E.P fn (aJ (if es=[]then 0 else 1) (K (oV 0 cT) rs) (oH 0 sz cT))))
   (hv:rowOf sz C v=some es) (nN:C.H.get C.n=none):aS I Pg f (v::vs) C (K (xS sz v es cT C).1 rs) (xS sz v es cT C).2:=by
 rw[<- U];exact zyN hρ aq (by rw[U];exact follows) (by rw[U];exact named) hK (by rw[U];exact hf) hb he hp h0 M A6 hle h hv nN
def rA{St:Type}{sz:Nat}{s:SC}(N:Nat)(TL:Nat->St->Z (Nat×V))(HL:Nat->St->Z (Nat×J.Obj))(Inv:Nat->St->Prop)(I0:St)
 (h0:aw k T C (dP (TL 0 I0)) { H:=dP (HL 0 I0),n:=nn,log:=[] }) (hi:Inv 0 I0)
 (fin:∀ st,Inv N st->∀ K,Wp I E k sz s (dP (TL N st)) { H:=dP (HL N st),n:=nn,log:=[] } (Ex.then K (bM k Q)))
 (step:∀ i st,i<N->Inv i st->∀ K:PT V->HS->Prop,(∀ h2,Inv (i+1) h2->∀ T C,aw k T C (dP (TL (i+1) h2)) { H:=dP (HL (i+1) h2),n:=nn,log:=[] }->K T C) ->
   Wp I E k sz s (dP (TL i st)) { H:=dP (HL i st),n:=nn,log:=[] } (Ex.then K (bM k Q))):Ls I E k sz (.loop s) T C Q:=by
 have key:∀ m i st,i+m=N->Inv i st->v5 I E k sz s (bM k Q) (m+1) (dP (TL i st)) { H:=dP (HL i st),n:=nn,log:=[] }:=by
  intro m
  induction m with
  | zero =>intro i st hi hinv;obtain rfl:i=N:=(by omega);exact lp hρ U aq λK _=>fin st hinv K
  | succ m ih =>intro i st hi hinv;exact lp hρ U aq λK hK=>step i st (by omega) hinv K λh2 h' T C hl=>hK T C (gD hl (ih (i+1) h2 (by omega) h'))
 exact oJ (qy (gD h0 (key N 0 I0 (by omega) hi)))
end
section
variable {I:Nat->Value}{β γ δ ε σ:Type} [bo α] [bo β] [bo γ] [bo δ] [bo ε] [iI σ]{f:Nat}
def v0{b:α}(hf:vM Pg f)(h:∀ C,aS I Pg f [] C (enc b) C):Valid I Pg f (dC (Jh b)) :=
 Valid.dC hf λvs v hv=>by obtain⟨rfl,rfl⟩:=zjH hv;exact h
def v1{F:α->Y β}(hf:vM Pg f)(h:∀ a r,F a=some r->∀ C,aS I Pg f [enc a] C (enc r) C):Valid I Pg f (dC (cz F)) :=
 Valid.dC hf λvs v hv=>by obtain⟨a,r,rfl,M,rfl⟩:=PU hv;exact h _ _ M
def v2{F:α->β->Y γ}(hf:vM Pg f)(h:∀ a b r,F a b=some r->∀ C,aS I Pg f [enc a,enc b] C (enc r) C):Valid I Pg f (dC (cB F)) :=
 Valid.dC hf λvs v hv=>by obtain⟨a,b,r,rfl,M,rfl⟩:=XU hv;exact h _ _ _ M
def v3{F:α->β->γ->Y δ}(hf:vM Pg f)(h:∀ a b c r,F a b c=some r->∀ C,aS I Pg f [enc a,enc b,enc c] C (enc r) C):Valid I Pg f (dC (zN F)) :=
 Valid.dC hf λvs v hv=>by obtain⟨a,b,c,r,rfl,M,rfl⟩:=XT hv;exact h _ _ _ _ M
def v4{F:α->β->γ->δ->Y ε}(hf:vM Pg f)(h:∀ a b c d r,F a b c d=some r->∀ C,aS I Pg f [enc a,enc b,enc c,enc d] C (enc r) C):Valid I Pg f (dC (Jg F)) :=
 Valid.dC hf λvs v hv=>by obtain⟨a,b,c,d,r,rfl,M,rfl⟩:=zjG hv;exact h _ _ _ _ _ M
def c1{F:α->Y β}(hf:vM Pg f)(h:∀ a r,F a=some r->∀ C,aS I Pg f [enc a] C (enc r) C):Valid I Pg f (K4 (cz F)) :=
 Valid.K4 hf λvs v hv=>by obtain⟨a,r,rfl,M,rfl⟩:=PU hv;exact h _ _ M
def c2{F:α->β->Y γ}(hf:vM Pg f)(h:∀ a b r,F a b=some r->∀ C,aS I Pg f [enc a,enc b] C (enc r) C):Valid I Pg f (K4 (cB F)) :=
 Valid.K4 hf λvs v hv=>by obtain⟨a,b,r,rfl,M,rfl⟩:=XU hv;exact h _ _ _ M
def c3{F:α->β->γ->Y δ}(hf:vM Pg f)(h:∀ a b c r,F a b c=some r->∀ C,aS I Pg f [enc a,enc b,enc c] C (enc r) C):Valid I Pg f (K4 (zN F)) :=
 Valid.K4 hf λvs v hv=>by obtain⟨a,b,c,r,rfl,M,rfl⟩:=XT hv;exact h _ _ _ _ M
def s1{F:σ->α->Y (σ×β)}(hf:vM Pg f)(h:∀ s a q,F s a=some q->∀ (C:HS) (id:Nat),id<C.n->C.H.get id=some (box (iI.cells s))->aS I Pg f [.ptr id 0 0,enc a] C (enc q.2) (C.wr id (box (iI.cells q.1)))):Valid I Pg f (IQ (Jf F)) :=
 Valid.st hf λs vs r _ hv=>by obtain⟨a,q,rfl,M,rfl⟩:=znE hv;exact h _ _ _ M
def s3{F:σ->α->β->γ->Y (σ×δ)}(hf:vM Pg f)(h:∀ s a b c q,F s a b c=some q->∀ (C:HS) (id:Nat),id<C.n->C.H.get id=some (box (iI.cells s))->aS I Pg f [.ptr id 0 0,enc a,enc b,enc c] C (enc q.2) (C.wr id (box (iI.cells q.1)))):Valid I Pg f (IQ (Je F)) :=
 Valid.st hf λs vs r _ hv=>by obtain⟨a,b,c,q,rfl,M,rfl⟩:=znD hv;exact h _ _ _ _ _ M
end
section
variable {I:Nat->Value}(hρ:J.Good I){E:Env}(U:E.P=Pg)(aq:bK I E)
include hρ U aq
def UP(d:Nat)(a b:G):Y Bool:=if a.ok=true/\a.size<=d then some (decide (a=b))else none
def Qy(d:Nat)(l m:Z G):Y Bool:=if l.length<=10000/\G.fl l=true/\G.bj l<=d then some (decide (l=m))else none
theorem Jm(hc:E.dA 39=dC (cB (Qy d)))(ha:a.ok=true)(hd:a.size<=d+1)(C:HS):aS I E.P 32 [enc a,enc b] C (enc (decide (a=b))) C:=by
 refine zf4 hρ aq (by rw[U];exact follows) (by rw[U];exact named) (by rw[U];exact Tryz.func32) CY.2 rfl (by simp) ?_ C;have M:=G.yJ ha;have O:G.fl a.args=true:=G.ny.2 (G.qH.1 ha).2;have h3:G.bj a.args<=d:=by have:=G.size_eq a;omega
 simp[U]
 repeat' (refine Fz (λh=>?_) (λh=>?_)<;>simp[h,U,hc,Qy,M,O,h3])
 all_goals (rw[G.eq_iff];simp_all)
def Mr(hc:E.dA 32=dC (cB (UP d)))(hl:l.length=m.length)(M:l.length<=10000)(O:∀ t∈l,t.ok=true/\t.size<=d)
 (hf:l≠m->∀ T C,T.get 4=some (.bool false)->Q .ret T C) (ht:l=m->∀ T C,Q (.exit 0) T C) :
 ∀ (n i:Nat),i+n=l.length->l.take i=m.take i->v5 I E 0 27 xP Q (n+1) (dP [(0,.sl (l.map aA) false),(1,.sl (m.map aA) false),(5,.int .i64 (i:Int))]) { H:=dP [],n:=0,log:=[] }:=by
 intro n
 induction n with
 | zero =>intro i hi he;have cF:¬ (i:Int)<l.length:=(by omega);have e:l=m:=(by have:i=l.length:=(by omega);subst this;rw[gm]at he;rw[he,hl,gm]);refine WU hρ aq (by rw[U];exact follows) (by rw[U];exact named) λK hK=>?_;simp[xP,U,cF];exact ht e _ _
 | succ n ih =>
   intro i hi he;have cF:i<l.length:=(by omega);have CO:(i:Int)<l.length:=(by omega);have him:i<m.length:=(by omega);let⟨A4,hx2⟩:=O l[i] (ax cF);refine WU hρ aq (by rw[U];exact follows) (by rw[U];exact named) λK hK=>?_;have hw:=bG (i:=i);simp[xP,U,CO,cF,him,hc,UP,A4,hx2];refine Fz (λh=>?_) (λh=>?_)<;>simp[U,hw,-Int.natCast_add]
   refine hf (λe=>h ?_) _ _ (by simp);subst e;rfl;refine hK _ _ (gD (aw.bw 0 (by simp[-Int.natCast_add]) (by simp) rfl rfl) (ih (i+1) (by omega) ?_));rw[dS,dS,he,az cF,az him,Classical.not_not.1 h]
def NR(hc:E.dA 32=dC (cB (UP d)))(M:l.length<=10000)(O:G.fl l=true)(hd:G.bj l<=d)(C:HS):aS I E.P 39 [enc l,enc m] C (enc (decide (l=m))) C:=by
 refine zf4 hρ aq (by rw[U];exact follows) (by rw[U];exact named) (by rw[U];exact Tryz.func39) Cj.2 rfl (by simp) ?_ C;have h3:∀ t∈l,t.ok=true/\t.size<=d:=λt ht=>⟨G.ny.1 O t ht,by have:=G.FL ht;omega⟩;simp[U];refine Fz (λh=>?_) (λh=>?_)<;>simp[U]
 intro e;subst e;exact h rfl;refine qy (gD (aw.bw (TL:=[(0,.sl (l.map aA) false),(1,.sl (m.map aA) false),(5,.int .i64 ((0:Nat):Int))]) (HL:=[]) 0 (by simp) (by simp) rfl rfl) (Mr hρ U aq hc ?_ M h3 ?_ ?_ l.length 0 (by omega) (by simp)));omega;intro cg T C hT;simp[hT,cg,U];intro e T C;simp[e,U]
def zan{n m:Int}(M:-4611686018427387904<=m)(O:m<=4611686018427387904)(C:HS):aS I Pg 11 [enc n,enc m] C (enc (MA n m)) C:=by
 refine fn hρ U aq Tryz.func11 WR.2 rfl (by simp) ?_ C;simp[U];refine Fz (λh=>?_) (λh=>?_)<;>simp[U,h,MA]
 have hm:1<=m:=by omega
 have ez:¬ m<1:=h;have fW:¬ m=0:=by omega
 simp[fW];refine Fz (λh=>?_) (λh=>?_)<;>simp[U,h]
 have h3:=Int.lt_tmod_of_pos n (show 0<m by omega);rw[wrap_i64 (by omega) (by omega),if_neg ez,tmod_neg hm h];rw[if_neg ez,zni hm (by omega)]
def zao{l:Z Int}(C:HS):aS I Pg 8 [enc l] C (enc (decide (l.length<=60))) C:=by
 refine fn hρ U aq Tryz.func8 WS.2 rfl (by simp) ?_ C;simp[U];omega
def ZZ{n:Z Nat}(hl:l.length<=10000)(C:HS):aS I Pg 38 [enc n,enc l] C (enc (wJ n l)) C:=by
 refine fn hρ U aq Tryz.func38 WQ.2 rfl (by simp) ?_ C;rcases l with _|⟨x,l⟩;simp[U,wJ];have M:(l.length+1)*64<=1048576:=by simp at hl;omega
 simp[U,wJ,M]
def ZX(hc:E.dA 38=dC (cB λn l=>if l.length<=10000 then some (wJ n l)else none))(C:HS):aS I Pg 15 [] C (enc Un) C:=by
 refine fn hρ U aq Tryz.func15 WO.2 rfl (by simp) ?_ C;simp[U,wJ,Un,hc]
def UJ(hc:E.dA 38=dC (cB λn l=>if l.length<=10000 then some (wJ n l)else none))(C:HS):aS I Pg 30 [enc a,enc b] C (enc (wo a b)) C:=by
 refine fn hρ U aq Tryz.func30 Pm.2 rfl (by simp) ?_ C;simp[U,wJ,wo,hc]
def ZW(C:HS):aS I Pg 14 [enc i] C (enc (fU i)) C:=by
 refine fn hρ U aq Tryz.func14 WN.2 rfl (by simp) ?_ C;simp[U,fU]
def UI(C:HS):aS I Pg 31 [enc i] C (enc (ry i)) C:=by
 refine fn hρ U aq Tryz.func31 Pk.2 rfl (by simp) ?_ C;simp[U,ry]
def UH{h:Int}(C:HS):aS I Pg 16 [enc h,enc i] C (enc (oz h i)) C:=by
 refine fn hρ U aq Tryz.func16 Pj.2 rfl (by simp) ?_ C;simp[U,oz]
def MH(hc:E.dA 11=dC (cB λn m=>if -1000000<=m/\m<=1000000 then some (MA n m)else none)){t:Tp}{n:Int}(hi:0<=t.i)(hl:t.l.length<=100000)(hn:-1000000<=n/\n<=1000000)(C:HS)(id:Nat)(hid:id<C.n)(hg:C.H.get id=some (box (iI.cells t))) :
 aS I Pg 34 [.ptr id 0 0,enc n] C (enc (t.next n).2) (C.wr id (box (iI.cells (t.next n).1))):=by
 refine st hρ U aq Tryz.func34 Gs.2 rfl (by simp) (by simp) (by simp) (by simp) ?_ hid hg;let⟨l,i⟩:=t;obtain⟨j,rfl⟩:=bE hi;simp only at hl;simp[U];refine Fz (λh=>?_) (λh=>?_);simp[U,h,Tp.next];exact aJ.bw;have hw:=bG (i:=j);have cr:IntKind.i64.wrap (((j+1:Nat):Int)-1)=(j:Int):=by rw[wrap_i64 (by omega) (by omega)];omega
 have hj:j<l.length:=by omega
 simp[U,h,hw,cr,hj,hc,hn,Tp.next,-Int.natCast_add];exact aJ.bw
def Vi(hc:E.dA 14=dC (cz λi=>some (fU i)))(hn:n<=10000)
 (hQ:Q (.exit 0) (dP [(3,oV 0 ((rR n).map aA))]) { H:=dP (oH 0 5 ((rR n).map aA)),n:=1,log:=[] }) :
 ∀ (m i:Nat) (L:Z G),i+m=n->L=rR i->v5 I E 0 16 zw (bM 0 Q) (m+1) (dP [(0,.int .i64 (n:Int)),(3,oV 0 (L.map aA)),(4,.int .i64 (i:Int))]) { H:=dP (oH 0 5 (L.map aA)),n:=1,log:=[] }:=by
 intro m
 induction m with
 | zero =>
   intro i L hi hL;obtain rfl:i=n:=(by omega);refine lp hρ U aq λK hK=>?_;rw[<- hL]at hQ;simp[zw,U];refine bM.mk (aw.bw 1 ?_ ?_ ?_ rfl) hQ<;>rcases L with _|⟨x,L⟩<;>first|rfl|simp
 | succ m ih =>
   intro i L hi hL;have cF:(i:Int)<n:=(by omega);have hw:=bG (i:=i);have Em:L.length=i:=(by rw[hL];simp);have aE:L++[fU i]=rR (i+1):=(by rw[hL,zeC]);refine lp hρ U aq λK hK=>?_;rcases L with _|⟨x,L⟩;simp[zw,U,cF,hc,hw,-Int.natCast_add];exact hK _ _ (gD (aw.lit (λk=>if k=0 then 8 else k) 1 (by simp[-Int.natCast_add]) (by simp) rfl rfl) (ih (i+1) _ (by omega) aE));have qs:(L.length+1+1)*64<=1048576:=(by simp at Em;omega);simp[zw,U,cF,hc,hw,qs,bf,-Int.natCast_add];exact hK _ _ (gD (aw.bw 1 (by simp[-Int.natCast_add]) (by simp) rfl rfl) (ih (i+1) _ (by omega) aE))
def Xv(hc:E.dA 14=dC (cz λi=>some (fU i)))(hn:n<=10000)(hv:C.H.get C.n=none) :
 aS I Pg 13 [enc (n:Int)] C (oV C.n ((rR n).map aA)) (bi (Nat.beq (dB ((rR n).map aA)) 0) C { H:=C.H.set C.n (oO 5 ((rR n).map aA)),n:=C.n+1,log:=C.n::C.log }):=by
 refine row hρ U aq Tryz.func13 Kh.2 rfl (by simp) (by simp) ?_ hv;simp
 refine oJ (qy (gD (aw.bw (TL:=[(0,.int .i64 (n:Int)),(3,oV 0 (([]:Z G).map aA)),(4,.int .i64 ((0:Nat):Int))]) (HL:=oH 0 5 (([]:Z G).map aA)) 1 (by simp) (by simp) rfl rfl)
  (Vi hρ U aq hc hn ?_ n 0 [] (by omega) rfl)))
 generalize rR n=L;rcases L with _|⟨x,L⟩;simp[U];exact aJ.fC rfl rfl (by simp) (by simp);simp[U];exact aJ.fC rfl rfl (by simp) (by simp)
theorem Vj (hc:E.dA 33=dC (Jh La)) {bits:Int} (C:HS):aS I Pg 9 [enc bits] C (enc (bA bits)) C:=by
 refine fn hρ U aq Tryz.func9 H5.2 rfl (by simp) ?_ C;have hlen:La.length=7:=rfl;unfold bA zhH;generalize La=A at hc hlen;have M:A[1]?=some A[1]:=az (by omega);rw[M]
 have main : ∀ (L0:Z Decl),L0.length<=1->∀ T C,aw 0 T C (dP [(0,.int .i64 bits),(3,.sl (A.map aT) false),(4,oV 0 (L0.map aT)),(5,.int .i64 ((0:Nat):Int))]) { H:=dP (oH 0 4 (L0.map aT)),n:=1,log:=[] } ->
  ∀ Q,Q (.exit 0) (dP [(4,oV 0 ((L0++FM bits A 0).map aT))]) { H:=dP (oH 0 4 ((L0++FM bits A 0).map aT)),n:=1,log:=[] }->Ls I E 0 45 (.loop o6) T C Q:=by
  intro L0 hL0 T C hl Q hQ;refine rA hρ U aq 7 (λi (L:Z Decl)=>[(0,.int .i64 bits),(3,.sl (A.map aT) false),(4,oV 0 (L.map aT)),(5,.int .i64 (i:Int))]) (λi L=>oH 0 4 (L.map aT)) (λi L=>L=L0++FM bits (A.take i) 0) L0 hl (by simp[FM]) ?_ ?_;intro L hL K;rw[aP (by omega)]at hL;subst hL;generalize L0++FM bits A 0=L at hQ;simp[o6,U,hlen];rcases L with _|⟨x,L⟩<;>simp<;>exact bM.mk (aw.auto) hQ
  intro i L hi hL K hK;have cF:i<A.length:=by omega
  have zL8:(i:Int)<7:=by omega
  have hw:=bG (i:=i);have zQI:L.length<=8:=by grind [List.length_append,zch,List.length_take]
  have aE:∀ L',L'=(if i≠1/\Mu .i64 (bits.fdiv (2 ^ i)) 1=1 then L++[A[i]]else L)->L'=L0++FM bits (A.take (i+1)) 0:=by intro L' h;rw[h,dS,az cF,iB,znV,hL];have:(A.take i).length=i:=(by rw[dR];omega);rw[this,fV];grind [FM]
  clear hL;have hgd:∀ h,A[i]'h=A[i]:=λ_=>rfl;have cr:IntKind.i64.wrap 2=2:=wrap_i64 (by omega) (by omega)
  have W6:IntKind.u64.wrap (i:Int)=(i:Int):=by
   have:i<7:=hi
   match i,this with
   | 0,_=>rfl
   | 1,_=>rfl
   | 2,_=>rfl
   | 3,_=>rfl
   | 4,_=>rfl
   | 5,_=>rfl
   | 6,_=>rfl
   |n+7,h=>omega
  have Bm:min i IntKind.i64.bits=i:=Nat.min_eq_left (aO (dG hi) (by decide));by_cases zOE:i=1;subst zOE;have aE:=aE L (by simp);rcases L with _|⟨x,L⟩<;>simp[o6,U,hlen,cr,-Int.natCast_add]<;>exact hK _ aE _ _ (aw.auto)
  have zzk:¬ (i:Int)=1:=by omega
  by_cases hb:Mu .i64 (bits.fdiv (2 ^ i)) 1=1;have aE:=aE _ (if_pos ⟨zOE,hb⟩).symm;rcases L with _|⟨x,L⟩;simp[o6,U,hlen,zL8,hw,W6,Bm,hi,zzk,hb,-Int.natCast_add];exact hK _ aE _ _ (aw.auto);have qs:(L.length+1+1)*72<=1048576:=by simp at zQI;omega
  simp[o6,U,hlen,zL8,hw,W6,Bm,hi,zzk,hb,qs,bf,-Int.natCast_add];exact hK _ aE _ _ (aw.auto);have aE:=aE _ (if_neg λh=>hb h.2).symm;rcases L with _|⟨x,L⟩<;>simp[o6,U,hlen,zL8,hw,W6,Bm,zzk,hb,-Int.natCast_add]<;>exact hK _ aE _ _ (aw.auto)
 by_cases O:Mu .i64 bits 2=0;by_cases qs:Mu .i64 bits 64=0;rw[if_neg (by simp[O,qs])];simp[U,hc,O,qs];refine main [] (by simp) _ _ (aw.auto) _ ?_;rw[gL];generalize FM bits A 0=R;rcases R with _|⟨y,R⟩<;>simp[U]
 rw[if_pos (.inr qs)];simp[U,hc,hlen,O,qs];refine main [A[1]] (by simp) _ _ (aw.auto) _ ?_;simp[U];rw[if_pos (.inl O)];simp[U,hc,hlen,O];refine main [A[1]] (by simp) _ _ (aw.auto) _ ?_;simp[U]
end
open Classical in
def Cn(t:Tp)(n:Int):Y (Tp×Int):=if t.ok/\-1000000<=n/\n<=1000000 then some (t.next n)else none
open Classical in
def Ny(d:Nat)(t:Tp)(D:Z Decl)(Lv:Z G)(n:Int):Y (Tp×G):=if t.ok/\zAA D/\Lv.length<=100000/\n<=d then some (jk n.toNat t D Lv)else none
section
variable {I:Nat->Value}(hρ:J.Good I){E:Env}(U:E.P=Pg)(aq:bK I E)
include hρ U aq
theorem MF (hN:E.dA 34=IQ (Jf Cn)) (hC:E.dA 38=dC (cB λn l=>if l.length<=10000 then some (wJ n l)else none)) (hI:E.dA 15=dC (Jh Un)) (hA:E.dA 30=dC (cB λa b=>some (wo a b)))
  {n:Int} (hT0:0<n->E.dA 12=IQ (Je (Ny d))) {t:Tp}   (ht:t.ok) (hD:zAA D) (hLv:Lv.length<=100000) (hn:n<=d+1) (jz:d<=1000) (C:HS) (id:Nat) (hid:id<C.n) (hg:C.H.get id=some (box (iI.cells t))) :
 aS I Pg 12 [.ptr id 0 0,enc D,enc Lv,enc n] C (enc (jk n.toNat t D Lv).2) (C.wr id (box (iI.cells (jk n.toNat t D Lv).1))):=by
 have h7:Cn t 7=some (t.next 7):=if_pos ⟨ht,by omega,by omega⟩;have oR:=iE ht 7;have mc:=yL t 7;generalize hR:jk n.toNat t D Lv=R;rw[jk.eq_def]at hR;rcases hq:t.next 7 with⟨t1,k⟩;simp only[hq]at h7 oR mc hR;refine st hρ U aq Tryz.func12 qU.2 rfl (by simp) (by simp) (by simp) (by simp) ?_ hid hg;by_cases c1:k<3/\Lv≠[];rw[if_pos c1]at hR;let⟨j,hj,e1,e2⟩:=Dz t1 c1.2;have hF:Cn t1 (Lv.length:Int)=some (t1.next (Lv.length:Int)):=if_pos ⟨oR,by omega,by omega⟩;rw[e2]at hR;rcases nj:t1.next (Lv.length:Int)with⟨t2,k2⟩;simp only[nj]at hF e1 hR;subst e1 hR;have hlp:0<Lv.length:=by omega
 simp_all [aJ.bw];rw [if_neg c1]at hR;have CH:¬ (k<3/\0<Lv.length):=λh=>c1 ⟨h.1,bR.1 h.2⟩;by_cases c2:k<4;rw[if_pos c2]at hR;subst hR;by_cases c3:k<3;simp_all [aJ.bw];simp[U,hN,h7,c3,c2,hI];exact aJ.bw;rw [if_neg c2]at hR;have c3:¬ k<3:=by omega
 by_cases c4:n<1;have h0:n.toNat=0:=by omega
 rw[h0]at hR;simp only[]at hR;subst hR;simp[U,hN,h7,c3,c2,c4,hI];exact aJ.bw;have hT := hT0 (by omega);obtain⟨m,hm⟩:∃ m,n.toNat=m+1:=⟨n.toNat-1,by omega⟩;have oA:n=(m:Int)+1:=by omega
 rw[hm]at hR;simp only[]at hR;have hw:IntKind.i64.wrap (n-1)=(m:Int):=by rw[oA,wrap_i64 (by omega) (by omega)];omega
 have hTy:∀ t':Tp,t'.ok->Ny d t' D Lv (m:Int)=some (jk m t' D Lv):=λt' h=>by unfold Ny;grind
 by_cases c5:(k=4\/k=5)/\D≠[];rw [if_pos c5]at hR;let⟨j,hj,e1,e2⟩:=Dz t1 c5.2;have hF:Cn t1 (D.length:Int)=some (t1.next (D.length:Int)):=if_pos ⟨oR,by have:=hD.1;omega,by have:=hD.1;omega⟩;have po:=iE oR (D.length:Int);rw[e2]at hR;rcases nj:t1.next (D.length:Int)with⟨t2,k2⟩;simp only[nj,eD]at hF e1 hR po;subst e1;have hdp:=hD.2 _ (ax hj);have B3:0<D.length:=by omega
 generalize hdj:D[j]=dd at hR hdp;let⟨zzB,zpV,Ba,zgk⟩:=dd;simp only at hR hdp
 have main:∀ T C,aw 1 T C (dP [(0,.ptr 0 0 0),(1,.sl (D.map aT) false),(2,.sl (Lv.map aA) false),(3,.int .i64 n),(8,.ptr 1 0 0),(10,.ptr 2 0 0),(11,oV 3 (([]:Z G).map aA)),(12,.int .i64 ((0:Nat):Int))])
  { H:=dP ([(0,box (iI.cells t2)),(1,box [.int .i64 0,.str [],.int .i64 0,.int .i64 0,.a8]),(2,box (aT ⟨zzB,zpV,Ba,zgk⟩))]++oH 3 5 (([]:Z G).map aA)),n:=4,log:=[] } ->
  ∀ Q,Q (.exit 1) (dP [(8,.ptr 1 0 0),(10,.ptr 2 0 0),(11,oV 3 ((q8 m t2 D Lv Ba.length).2.map aA))])
    { H:=dP ([(0,box (iI.cells (q8 m t2 D Lv Ba.length).1)),(1,box [.int .i64 0,.str [],.int .i64 0,.int .i64 0,.a8]),(2,box (aT ⟨zzB,zpV,Ba,zgk⟩))]++oH 3 5 ((q8 m t2 D Lv Ba.length).2.map aA)),n:=4,log:=[] } ->
  Ls I E 1 95 (.loop qw) T C Q:=by
  intro T C hl Q hQ
  refine rA hρ U aq Ba.length (λi (p:Tp×Z G)=>[(0,.ptr 0 0 0),(1,.sl (D.map aT) false),(2,.sl (Lv.map aA) false),(3,.int .i64 n),(8,.ptr 1 0 0),(10,.ptr 2 0 0),(11,oV 3 (p.2.map aA)),(12,.int .i64 (i:Int))])
   (λi p=>[(0,box (iI.cells p.1)),(1,box [.int .i64 0,.str [],.int .i64 0,.int .i64 0,.a8]),(2,box (aT ⟨zzB,zpV,Ba,zgk⟩))]++oH 3 5 (p.2.map aA)) (λi p=>p=q8 m t2 D Lv i) (t2,[]) hl (by rw[q8]) ?_ ?_
  intro p hp K;rw[<- hp]at hQ;let⟨t3,L⟩:=p;rcases L with _|⟨x,L⟩<;>simp[qw,U]<;>exact bM.mk (aw.auto) hQ
  intro i p hi hp K hK;have hlen:=KQ m t2 D Lv i;have eC:=zqC (D:=D) (Lv:=Lv) m po i;rw[<- hp]at hlen eC;have zJf:=hTy p.1 eC;have aE:=hK (jk m p.1 D Lv |>.1,p.2++[(jk m p.1 D Lv).2]) (by rw[q8,<- hp]);have cm:(i:Int)<Ba.length:=by omega
  have cr:=bG (i:=i);let⟨t3,L⟩:=p;simp only at zJf aE hlen;rcases pr:jk m t3 D Lv with⟨t4,x4⟩;simp only[pr]at zJf aE;rcases L with _|⟨x,L⟩;simp[qw,U,cm,hw,cr,hT,zJf,-Int.natCast_add];exact aE _ _ (aw.auto);have qs:(L.length+1+1)*64<=1048576:=by simp at hlen;omega
  simp[qw,U,cm,hw,cr,hT,zJf,qs,bf,-Int.natCast_add];exact aE _ _ (aw.auto)
 have zFY:=KQ m t2 D Lv Ba.length;rcases hq4:q8 m t2 D Lv Ba.length with⟨t5,L⟩;simp only[hq4]at main hR zFY;subst hR;have Lu:L.length<=10000:=by omega
 rcases c5.1 with rfl|rfl<;>simp[U,hN,h7,c4,hF,hj,hdj,B3]<;>refine main _ _ (aw.auto) _ ?_ <;>
 (rcases L with _|⟨x,L⟩
  simp[U,hC];exact aJ.bw (hn:=by simp[wJ]);have zF1:L.length<=9999:=by simpa using Lu
  simp[U,hC,zF1]
  exact aJ.bw (hn:=by simp[wJ]))
 rw [if_neg c5]at hR;have hp5:¬ ((k=4\/k=5)/\0<D.length):=λh=>c5 ⟨h.1,bR.1 h.2⟩;have my:=hTy t1 oR;have po:=(Nw (D:=D) (Lv:=Lv) m t1 oR).1;rcases nj:jk m t1 D Lv with⟨t2,a⟩;simp only[nj]at my hR po;have oy:=hTy t2 po;rcases pr:jk m t2 D Lv with⟨t3,b⟩;simp only[pr]at oy hR;subst hR;have tw:(k=4\/k=5)->D=[]:=λh=>aY λcg=>c5 ⟨h,cg⟩;by_cases c6:k=4;have:=tw (.inl c6);subst this c6;simp[U,hN,h7,c4,hw,hT,my,oy,hA];exact aJ.bw;by_cases c7:k=5;have:=tw (.inr c7);subst this c7;simp[U,hN,h7,c4,hw,hT,my,oy,hA];exact aJ.bw;simp[U,hN,h7,c3,c2,c4,c6,c7,hw,hT,my,oy,hA];exact aJ.bw
end
def NN(d:Nat)(t:G)(s:Z cU):Y G:=if t.ok=true/\t.size<=d/\s.length<=100000 then some (t.yF s)else none
section
variable {I:Nat->Value}(hρ:J.Good I){E:Env}(U:E.P=Pg)(aq:bK I E)
include hρ U aq
theorem P9  (hc:E.dA 48=dC (cB (NN d)))  {s:Z cU} (ht:t.ok=true) (hd:t.size<=d+1) (rn:s.length<=100000) (C:HS):aS I Pg 48 [enc t,enc s] C (enc (t.yF s)) C:=by
 refine fn hρ U aq Tryz.func48 uS.2 rfl (by simp) ?_ C;rw[ZR];by_cases hk:t.kind=1;rw [if_pos hk];simp[U,hk]
 refine rA hρ U aq s.length (nn:=2) (λi (_:Unit)=>[(1,.sl (s.map mo) false),(2,.ptr 0 0 0),(4,.ptr 1 0 0),(5,.int .i64 (i:Int))]) (λi _=>[(0,box (aA t)),(1,box [.int .i64 0,.str [],.int .i64 0,.int .i64 0,.a8])]) (λi _=>wO (s.take i) t.id=none) ()
  (aw.auto (hH:=by simp[hk])) rfl ?_ ?_
 intro _ hl K;rw[gm]at hl;simp[zu,U];refine bM.mk (aw.auto (TL:=[(2,.ptr 0 0 0),(4,.ptr 1 0 0)]) (HL:=[(0,box (aA t)),(1,box [.int .i64 0,.str [],.int .i64 0,.int .i64 0,.a8])]) (n:=2) (hH:=by simp[hk])) ?_;simp[U,hl,hk];intro i _ hi hl K hK;have cm:(i:Int)<s.length:=by omega
 have cr:=bG (i:=i);have te:∀ j,wO (s.take (i+1)) j=(wO (s.take i) j).or (wO [s[i]] j):=λj=>by rw[dS,az hi,iB,Yl]
 by_cases he:s[i].id=t.id;have oj:wO s t.id=some s[i].type:=by grind [List.take_append_drop,Yl,wO]
 simp[zu,U,hi,cm,he,hk];refine bM.mk (aw.auto (TL:=[(4,.ptr 1 0 0)]) (HL:=[(1,box (aA s[i].type))]) (n:=2)) ?_;simp[oj];have aE:=hK () (by rw[te,hl];simp[wO,he]);simp[zu,U,hi,cm,he,hk,cr,-Int.natCast_add];exact aE _ _ (aw.auto (hH:=by simp[hk]));rw [if_neg hk];simp[U,hk];have hlen:=G.yJ ht
 refine rA hρ U aq t.args.length (nn:=4) (λi (L:Z G)=>[(1,.sl (s.map mo) false),(2,.ptr 0 0 0),(4,.ptr 1 0 0),(6,.ptr 2 0 0),(7,.int .i64 (i:Int))])
  (λi L=>[(0,box (aA t)),(1,box [.int .i64 0,.str [],.int .i64 0,.int .i64 0,.a8]),(2,box [.int .i64 t.kind,.str t.name,.int .i64 t.id,.int .i64 t.home,oV 3 (L.map aA)])]++oH 3 5 (L.map aA)) (λi L=>L=(t.args.take i).map (G.yF s)) []
  (aw.auto) rfl ?_ ?_
 intro L hL K;rw[gm]at hL;rw[<- hL];clear hL;rcases L with _|⟨x,L⟩;simp[sZ,U];refine bM.mk (aw.auto (TL:=[(4,.ptr 1 0 0),(6,.ptr 2 0 0)]) (HL:=[(1,box [.int .i64 0,.str [],.int .i64 0,.int .i64 0,.a8]),(2,box [.int .i64 t.kind,.str t.name,.int .i64 t.id,.int .i64 t.home,.a8])]) (n:=4)) ?_;simp[U];simp[sZ,U];refine bM.mk (aw.auto (TL:=[(4,.ptr 1 0 0),(6,.ptr 2 0 0)]) (HL:=[(1,box [.int .i64 0,.str [],.int .i64 0,.int .i64 0,.a8]),(2,box [.int .i64 t.kind,.str t.name,.int .i64 t.id,.int .i64 t.home,oV 3 ((x::L).map aA)])]++oH 3 5 ((x::L).map aA)) (n:=4)) ?_;simp[U];intro i L hi hL K hK;have cm:(i:Int)<t.args.length:=by omega
 have cr:=bG (i:=i);have hm:=ax hi;have hF:NN d t.args[i] s=some (t.args[i].yF s):=by unfold NN;rw[if_pos ⟨G.GL ht hm,by have:=G.Dr hm;omega,rn⟩]
 have aE:=hK (L++[t.args[i].yF s]) (by rw[dS,az hi,iB,fe,hL];rfl);have Em:L.length=i:=by rw[hL,aN,dR];omega
 clear hL;generalize t.args[i].yF s=y at hF aE;rcases L with _|⟨x,L⟩;simp[sZ,U,hi,cm,hc,hF,cr,-Int.natCast_add];exact aE _ _ (aw.auto);have qs:(L.length+1+1)*64<=1048576:=by simp at Em;omega
 simp[sZ,U,hi,cm,hc,hF,cr,qs,bf,-Int.natCast_add];exact aE _ _ (aw.auto)
def Xi(C:HS):aS I Pg 162 [enc i] C (enc (fU i)) C:=by
 refine fn hρ U aq Tryz.func162 Sy.2 rfl (by simp) ?_ C;simp[U,fU]
def Xj(C:HS):aS I Pg 271 [enc s,enc i] C (enc (s.cE i).isSome) C:=by
 refine fn hρ U aq Tryz.func271 Sz.2 rfl (by simp) ?_ C
 have e:(s.cE i).isSome=decide (0<=i/\i<s.bc.length):=by
  cases h:s.cE i with
  |none=>have:=ao.nw h;simp;omega
  |some x=>obtain⟨j,rfl,hj,_⟩:=ao.gg h;simp;omega
 rw[e];simp[U]
 repeat' (refine Fz (λh=>?_) (λh=>?_)<;>simp[h,U])
theorem Ib(hc:E.dA 271=dC (cB λ(s:ao) (i:Int)=>some (s.cE i).isSome))(C:HS):aS I Pg 253 [enc s,enc t] C (enc (s.bound t)) C:=by
 refine fn hρ U aq Tryz.func253 FE.2 rfl (by simp) ?_ C;by_cases hk:t.kind=1
 cases h:s.cE t.id with
 | none =>
   have e:s.bound t=false:=by unfold ao.bound;rw[h];split<;>simp_all
   simp[U,hk,e,hc,h]
 | some x =>have h0:=h;let⟨i,hl,hi,W⟩:=ao.gj h;rw[hi]at h0;rw[ao.J5 hk h];simp[U,hk,hi,hl,W,hc,h0]
 have e:s.bound t=false:=by unfold ao.bound;simp[hk]
 simp[U,hk,e]
def SN(hc:E.dA 253=dC (cB λ(s:ao) (t:G)=>some (s.bound t)))(h:s.bc.length<=1000000){r:G}
 (hQ:Q (.exit 0) (dP [(3,.ptr 1 0 0),(4,.ptr 2 0 0)]) { H:=dP [(1,box (aA r)),(2,.arr 5 0 [[.int .i64 0,.str [],.int .i64 0,.int .i64 0,.a8]] true false false)],n:=3,log:=[] }) :
 ∀ (m i:Nat) (t:G),i+m=s.bc.length->s.mE m t=r->v5 I E 0 23 nH (bM 0 Q) (m+1) (dP [(2,.ptr 0 0 0),(3,.ptr 1 0 0),(4,.ptr 2 0 0),(7,.int .i64 (s.bc.length:Int)),(8,.int .i64 (i:Int))])
   { H:=dP [(0,box (qJ s)),(1,box (aA t)),(2,.arr 5 0 [[.int .i64 0,.str [],.int .i64 0,.int .i64 0,.a8]] true false false)],n:=3,log:=[] }:=by
 intro m
 induction m with
 | zero =>intro i t hi ht;have cF:¬ (i:Int)<s.bc.length:=(by omega);refine lp hρ U aq λK hK=>?_;simp[nH,U,cF];cases ht;refine bM.mk (aw.bw 3 ?_ ?_ rfl rfl) hQ<;>simp[ao.mE]
 | succ m ih =>
   intro i t hi ht;have cF:(i:Int)<s.bc.length:=(by omega);have hw:=bG (i:=i);refine lp hρ U aq λK hK=>?_;unfold ao.mE at ht;by_cases hb:s.bound t=true;rw[if_pos hb]at ht;let⟨hk,x,W,A3⟩:=ao.D8 hb;let⟨j,ju,hj,hxj⟩:=ao.gj W;have po:s.to t=x.type:=(by unfold ao.to;rw[W]);cases t;simp only[G.wP]at hj;subst hj;simp[nH,U,cF,hc,hb,hw,ju,hxj,-Int.natCast_add];rw[po]at ht;exact hK _ _ (gD (aw.bw 3 (by simp[-Int.natCast_add]) (by simp) rfl rfl) (ih (i+1) _ (by omega) ht));rw[if_neg hb]at ht;subst ht;simp[nH,U,cF,hc,hb];refine bM.mk (aw.bw 3 ?_ ?_ rfl rfl) hQ<;>simp
def Ur(hc:E.dA 253=dC (cB λ(s:ao) (t:G)=>some (s.bound t)))(h:s.bc.length<=1000000)(C:HS):aS I Pg 199 [enc s,enc t] C (enc (s.mE s.bc.length t)) C:=by
 refine fn hρ U aq Tryz.func199 vJ.2 rfl (by simp) ?_ C;simp[U];refine oJ (qy (gD (aw.bw (TL:=[(2,.ptr 0 0 0),(3,.ptr 1 0 0),(4,.ptr 2 0 0),(7,.int .i64 (s.bc.length:Int)),(8,.int .i64 ((0:Nat):Int))]) 3 ?_ ?_ rfl rfl) (SN hρ U aq hc h (r:=s.mE s.bc.length t) ?_ s.bc.length 0 t (by omega) rfl)));simp;simp;simp[U]
end
def yM(d:Nat)(L:Z G)(t:G)(kind:Int):Y (Z G):=if t.size<=d/\t.ok=true/\G.fl L=true/\(j5 kind t L).length<=10000 then some (j5 kind t L)else none
theorem RD(kind:Int):∀ (l:Z G) (i:Nat) (L0:Z G),(eT kind (l.take i) L0).length<=(eT kind l L0).length:=by
 intro l
 induction l with
 |nil=>intro i L0;simp
 | cons a l ih =>
   intro i L0
   cases i with
   |zero=>exact(qY kind (a::l) L0).1
   | succ i =>
     grind [eT]
section
variable {I:Nat->Value}(hρ:J.Good I){E:Env}(U:E.P=Pg)(aq:bK I E)
include hρ U aq
theorem Eu  (hc:E.dA 157=vt 5 (MO (yM d)) xL)   {kind:Int}  (hk:k=0\/k=1/\L0≠[]) (ht:t.ok=true) (hd:t.size<=d+1) (h0:G.fl L0=true) (oB:(eT kind t.args L0).length<=10000) 
 (hQ:Q (.exit 2) (dP [(0,oV 0 ((eT kind t.args L0).map aA))]) { H:=dP (oH 0 5 ((eT kind t.args L0).map aA)),n:=1,log:=[] }) :
 ∀ (n i:Nat) (L:Z G),i+n=t.args.length->L=eT kind (t.args.take i) L0->v5 I E k 52 mD (bM k Q) (n+1) (dP [(0,oV 0 (L.map aA)),(2,.int .i64 kind),(4,.ptr 1 0 0),(8,.int .i64 (i:Int))])
   { H:=dP ((1,box (aA t))::oH 0 5 (L.map aA)),n:=2,log:=[] }:=by
 intro n
 induction n with
 | zero =>intro i L hi hL;have cF:¬ (i:Int)<t.args.length:=(by omega);have e:L=eT kind t.args L0:=(by rw[hL,aP (by omega)]);rw[<- e]at hQ;have hlen:=qY kind t.args L0;rw[<- e]at hlen;refine lp hρ U aq λK hK=>?_;rcases L with _|⟨x,L⟩;have mc:k=0:=(by simp_all);subst mc;simp[mD,U,cF];exact bM.mk (aw.bw 1 (by simp) (by simp) rfl rfl) hQ;simp[mD,U,cF];rcases hk with rfl|⟨rfl,_⟩<;>exact bM.mk (aw.bw 1 (by simp) (by simp) rfl rfl) hQ
 | succ n ih =>
   intro i L hi hL;have cF:i<t.args.length:=(by omega);have CO:(i:Int)<t.args.length:=(by omega);have hw:IntKind.i64.wrap ((i:Int)+1)=((i+1:Nat):Int):=bG (by have:=G.yJ ht;omega);have hm:=ax cF;have cp:=G.Dr hm;have eC:=G.GL ht hm;have zzf:G.fl L=true:=(by rw[hL];exact Vt (zcM (G.ny.2 (G.qH.1 ht).2) i) _ h0);have hlen:=qY kind (t.args.take i) L0;rw[<- hL]at hlen;have xa:=G.size_eq t;have aE:j5 kind t.args[i] L=eT kind (t.args.take (i+1)) L0:=(by rw[dS,az cF,iB,Ol,hL]);have hb:(j5 kind t.args[i] L).length<=10000:=(by rw[aE];exact aO (RD kind t.args (i+1) L0) oB);have hF:yM d L t.args[i] kind=some (j5 kind t.args[i] L):=(by unfold yM;rw[if_pos ⟨by omega,eC,zzf,hb⟩]);have RJ:=EB kind t.args[i] L;refine lp hρ U aq λK hK=>?_;generalize hR:j5 kind t.args[i] L=R at hF aE RJ;rcases L with _|⟨x,L⟩;have mc:k=0:=(by simp_all);subst mc;rcases R with _|⟨y,R⟩<;>simp[mD,U,cF,CO,hc,hw,hF,xL,-Int.natCast_add]
   exact hK _ _ (gD (aw.bw 2 (by simp[-Int.natCast_add]) (by simp) rfl rfl) (ih (i+1) _ (by omega) aE));exact hK _ _ (gD (aw.lit (λk=>if k=0 then 16 else k) 2 (by simp[-Int.natCast_add]) (by simp) rfl rfl) (ih (i+1) _ (by omega) aE));rcases R with _|⟨y,R⟩;simp at RJ;have zy1:L.length<=R.length:=(by simp at RJ;omega);simp[mD,U,cF,CO,hc,hw,hF,xL,zy1,-Int.natCast_add];rcases hk with rfl|⟨rfl,_⟩<;>exact hK _ _ (gD (aw.bw 2 (by simp[-Int.natCast_add]) (by simp) rfl rfl) (ih (i+1) _ (by omega) aE))
theorem Ew (hc:E.dA 32=dC (cB λa b:G=>if a.ok=true then some (decide (a=b))else none))    (hk:k=0\/k=1/\L≠[]) (h0:G.fl L=true) (oB:L.length<=10000) 
 (hf:t∈L->Q .ret (dP [(6,oV 0 (L.map aA))]) { H:=dP (oH 0 5 (L.map aA)),n:=1,log:=[] })
 (hn:t ∉ L->Q (.exit 0) (dP [(0,oV 0 (L.map aA)),(4,.ptr 1 0 0)]) { H:=dP ((1,box (aA t))::oH 0 5 (L.map aA)),n:=2,log:=[] }) :
 ∀ (n i:Nat),i+n=L.length->t ∉ L.take i->v5 I E k 52 vG (bM k Q) (n+1) (dP [(0,oV 0 (L.map aA)),(4,.ptr 1 0 0),(7,.int .i64 (i:Int))])
   { H:=dP ((1,box (aA t))::oH 0 5 (L.map aA)),n:=2,log:=[] }:=by
 intro n
 induction n with
 | zero =>intro i hi hL;have cF:¬ (i:Int)<L.length:=(by omega);have e:t ∉ L:=(by rw[aP (by omega)]at hL;exact hL);have hn:=hn e;refine lp hρ U aq λK hK=>?_;rcases L with _|⟨x,L⟩;have mc:k=0:=(by grind);subst mc;obtain rfl:i=0:=(by simpa using hi);simp[vG,U];exact bM.mk (aw.bw 2 (by simp) (by simp) rfl rfl) hn;have zy2:¬ (i:Int)<(L.length:Int)+1:=(by simp at cF;omega);simp[vG,U,zy2];rcases hk with rfl|⟨rfl,_⟩<;>exact bM.mk (aw.bw 2 (by simp) (by simp) rfl rfl) hn
 | succ n ih =>
   intro i hi hL;have cF:i<L.length:=(by omega);have hw:=bG (i:=i);have eC:=G.ny.1 h0 _ (ax cF);have hE:L[i]≠t->t ∉ L.take (i+1):=(by intro h hm;rw[dS,az cF]at hm;grind);have eE:L[i]=t->t∈L:=λh=>h ▸ ax cF;have hgi:(L.map aA)[i]?=some (aA L[i]):=(by rw[bC,az cF];rfl);refine lp hρ U aq λK hK=>?_;generalize L[i]=y at eC hE eE hgi;rcases L with _|⟨x,L⟩;simp at cF;have zy2:(i:Int)<(L.length:Int)+1:=(by simp at cF;omega);have zpk:i<L.length+1:=(by simpa using cF);simp only[aX,kZ]at hgi;have zfT:∀ h,(aA x::L.map aA)[i]'h=aA y:=λh=>(by simp only[kZ];exact(aM.1 hgi).2);simp only[kZ]at zfT;have rh:i*5 / 5=i:=(by omega);have ld:i*5 % 5=0:=(by omega);simp[vG,U,zy2,zpk,hc,eC,rh,ld,zfT];refine Fz (λh=>?_) (λh=>?_)<;>simp[U,hw,-Int.natCast_add]
   rcases hk with rfl|⟨rfl,_⟩<;>exact bM.mk (aw.bw 1 (by simp) (by simp) rfl rfl) (hf (eE h))
   rcases hk with rfl|⟨rfl,_⟩<;>exact hK _ _ (gD (aw.bw 2 (by simp[-Int.natCast_add]) (by simp) rfl rfl) (ih (i+1) (by omega) (hE h)))
theorem SY  (zOp:E.dA 32=dC (cB λa b:G=>if a.ok=true then some (decide (a=b))else none)) (hc:E.dA 157=vt 5 (MO (yM d)) xL)   {kind:Int} (ht:t.ok=true) (hd:t.size<=d+1) (h0:G.fl L=true) (oB:(j5 kind t L).length<=10000)
   (hv:rowOf 5 C v=some (L.map aA)) (nN:C.H.get C.n=none):aS I Pg 157 [v,enc t,enc kind] C (xS 5 v (L.map aA) ((j5 kind t L).map aA) C).1 (xS 5 v (L.map aA) ((j5 kind t L).map aA) C).2:=by
 have hlen:=EB kind t L;refine io hρ U aq (K:=xL) (rs:=[]) (.inl rfl) Tryz.func157 wX.2 rfl (by simp) (by simp) (by simp) rfl (by simpa using hlen.1) ?_ hv nN;clear hv nN;rw[Af];have hk:(if L.map aA=[]then 0 else 1)=0\/(if L.map aA=[]then 0 else 1)=1/\L≠[]:=by grind
 by_cases RN:t.kind=kind/\t.args=[];rw [if_pos RN];let⟨Pr,j7⟩:=RN;rcases L with _|⟨x,L⟩;simp[U,Pr,j7];refine oJ (qy (gD (aw.lit (TL:=[(0,oV 0 (([]:Z G).map aA)),(4,.ptr 1 0 0),(7,.int .i64 ((0:Nat):Int))]) (HL:=(1,box (aA t))::oH 0 5 (([]:Z G).map aA)) (λk=>if k=1 then 0 else k) 2 ?_ ?_ rfl rfl) (Ew hρ U aq zOp (.inl rfl) h0 (by simp) ?_ ?_ 0 0 rfl (by simp))));simp;simp[j7,Pr];grind;intro _;simp[U,Pr,j7];exact aJ.Mz (λk=>if k=0 then 5 else k) rfl rfl ⟨rfl,rfl⟩ (by simp);simp[U,Pr,j7];refine oJ (qy (gD (aw.bw (TL:=[(0,oV 0 ((x::L).map aA)),(4,.ptr 1 0 0),(7,.int .i64 ((0:Nat):Int))]) (HL:=(1,box (aA t))::oH 0 5 ((x::L).map aA)) 2 ?_ ?_ rfl rfl) (Ew hρ U aq zOp (.inr ⟨rfl,by simp⟩) h0 (by omega) ?_ ?_ (x::L).length 0 (by omega) (by simp))));simp;simp[j7,Pr];intro h;simp[U,h];exact aJ.fC rfl rfl rfl (by simp);intro hn;have qs:(L.length+1+1)*64<=1048576:=by have:=hlen.1;simp only[aL]at this;omega
 simp[U,Pr,j7,hn,qs,bf];exact aJ.fC rfl rfl rfl (by simp);rw [if_neg RN];have hneq:t.kind=kind->¬ t.args=[]:=λM O=>RN ⟨M,O⟩;have jx:(eT kind t.args L).length<=10000:=by rw[Af,if_neg RN]at oB;exact oB
 rcases L with _|⟨x,L⟩
 have go:∀ T a9,aw 0 T a9 (dP [(0,oV 0 (([]:Z G).map aA)),(2,.int .i64 kind),(4,.ptr 1 0 0),(8,.int .i64 ((0:Nat):Int))]) { H:=dP ((1,box (aA t))::oH 0 5 (([]:Z G).map aA)),n:=2,log:=[] } ->
  ∀ Q,Q (.exit 2) (dP [(0,oV 0 ((eT kind t.args []).map aA))]) { H:=dP (oH 0 5 ((eT kind t.args []).map aA)),n:=1,log:=[] }->Ls I E 0 52 (.loop mD) T a9 Q:=λT a9 hl Q hQ =>
  oJ (qy (gD hl (Eu hρ U aq hc (.inl rfl) ht hd h0 jx hQ t.args.length 0 [] (by omega) rfl)))
 by_cases M:t.kind=kind;have O:=hneq M;simp[U,M,O];refine go _ _ (aw.lit (λk=>if k=1 then 0 else k) 2 (by simp) (by simp[M]) rfl rfl) _ ?_;generalize eT kind t.args []=R;rcases R with _|⟨y,R⟩<;>simp[U]<;>exact aJ.fC rfl rfl rfl (by simp)
 simp[U,M];refine go _ _ (aw.lit (λk=>if k=1 then 0 else k) 2 (by simp) (by simp) rfl rfl) _ ?_;generalize eT kind t.args []=R;rcases R with _|⟨y,R⟩<;>simp[U]<;>exact aJ.fC rfl rfl rfl (by simp)
 have G4:=(qY kind t.args (x::L)).1
 have go:∀ T a9,aw 1 T a9 (dP [(0,oV 0 ((x::L).map aA)),(2,.int .i64 kind),(4,.ptr 1 0 0),(8,.int .i64 ((0:Nat):Int))]) { H:=dP ((1,box (aA t))::oH 0 5 ((x::L).map aA)),n:=2,log:=[] } ->
  ∀ Q,Q (.exit 2) (dP [(0,oV 0 ((eT kind t.args (x::L)).map aA))]) { H:=dP (oH 0 5 ((eT kind t.args (x::L)).map aA)),n:=1,log:=[] }->Ls I E 1 52 (.loop mD) T a9 Q:=λT a9 hl Q hQ =>
  oJ (qy (gD hl (Eu hρ U aq hc (.inr ⟨rfl,by simp⟩) ht hd h0 jx hQ t.args.length 0 (x::L) (by omega) rfl)))
 by_cases M:t.kind=kind;have O:=hneq M;simp[U,M,O];refine go _ _ (aw.bw 2 (by simp) (by simp[M]) rfl rfl) _ ?_;generalize eT kind t.args (x::L)=R at G4;rcases R with _|⟨y,R⟩;simp at G4;simp[U];exact aJ.fC rfl rfl rfl (by simp);simp[U,M];refine go _ _ (aw.bw 2 (by simp) (by simp) rfl rfl) _ ?_;generalize eT kind t.args (x::L)=R at G4;rcases R with _|⟨y,R⟩;simp at G4;simp[U];exact aJ.fC rfl rfl rfl (by simp)
theorem Xq{l:Z Int}(M:l.length<=1000000)
 (hf:x∈l->∀ T C,T.get 4=some (.bool true)->Q .ret T C) (ht:x ∉ l->∀ T C,Q (.exit 0) T C) :
 ∀ (n i:Nat),i+n=l.length->x ∉ l.take i->v5 I E 0 18 FC Q (n+1) (dP [(0,.sl (l.map cY) false),(1,.int .i64 x),(5,.int .i64 (i:Int))]) { H:=dP [],n:=0,log:=[] }:=by
 intro n
 induction n with
 | zero =>intro i hi he;have cF:¬ (i:Int)<l.length:=(by omega);have e:x ∉ l:=(by rw[aP (by omega)]at he;exact he);refine lp hρ U aq λK hK=>?_;simp[FC,U,cF];exact ht e _ _
 | succ n ih =>
   intro i hi he;have cF:i<l.length:=(by omega);have CO:(i:Int)<l.length:=(by omega);have hw:=bG (i:=i);have hE:l[i]≠x->x ∉ l.take (i+1):=(by intro h hm;rw[dS,az cF]at hm;grind);have eE:l[i]=x->x∈l:=λh=>h ▸ ax cF;refine lp hρ U aq λK hK=>?_;simp[FC,U,CO,cF];refine Fz (λh=>?_) (λh=>?_)<;>simp[U,hw,-Int.natCast_add]
   exact hf (eE h) _ _ (by simp);exact hK _ _ (gD (aw.bw 0 (by simp[-Int.natCast_add]) (by simp) rfl rfl) (ih (i+1) (by omega) (hE h)))
def ZY{l:Z Int}(M:l.length<=1000000)(C:HS):aS I Pg 72 [enc l,enc x] C (enc (decide (x∈l))) C:=by
 refine fn hρ U aq Tryz.func72 Ni.2 rfl (by simp) ?_ C;simp;refine qy (gD (aw.bw (TL:=[(0,.sl (l.map cY) false),(1,.int .i64 x),(5,.int .i64 ((0:Nat):Int))]) (HL:=[]) 0 (by simp) (by simp) rfl rfl) (Xq hρ U aq M ?_ ?_ l.length 0 (by omega) (by simp)));intro h T C hT;simp[hT,h,U];intro h T C;simp[h,U]
def S9  (hc:E.dA 157=vt 5 (MO (yM d)) xL)  (hl:G.fl l=true) (fX:l.length<=10000) (hd:G.bj l<=d) (ld:(eT 1 l []).length<=10000) 
 (hQ:Q (.exit 0) (dP [(3,oV 0 ((eT 1 l []).map aA))]) { H:=dP (oH 0 5 ((eT 1 l []).map aA)),n:=1,log:=[] }) :
 ∀ (n i:Nat) (L:Z G),i+n=l.length->L=eT 1 (l.take i) []->v5 I E 0 42 zt (bM 0 Q) (n+1) (dP [(0,.sl (l.map aA) false),(3,oV 0 (L.map aA)),(4,.int .i64 (i:Int))])
   { H:=dP (oH 0 5 (L.map aA)),n:=1,log:=[] }:=by
 intro n
 induction n with
 | zero =>intro i L hi hL;have cF:¬ (i:Int)<l.length:=(by omega);have e:L=eT 1 l []:=(by rw[hL,aP (by omega)]);rw[<- e]at hQ;refine lp hρ U aq λK hK=>?_;rcases L with _|⟨x,L⟩<;>simp[zt,U,cF]<;>exact bM.mk (aw.bw 1 (by simp) (by simp) rfl rfl) hQ
 | succ n ih =>
   intro i L hi hL;have cF:i<l.length:=(by omega);have CO:(i:Int)<l.length:=(by omega);have hw:=bG (i:=i);have hm:=ax cF;have eC:=G.ny.1 hl _ hm;have zzf:G.fl L=true:=(by rw[hL];exact Vt (zcM hl i) _ rfl);have hlen:=qY 1 (l.take i) [];rw[<- hL]at hlen;have cd:G.bj (l.take i)+l[i].size<=G.bj l:=(by have:=Xl l (i+1);rw[dS,az cF,FK]at this;simpa [G.bj]using this);have aE:j5 1 l[i] L=eT 1 (l.take (i+1)) []:=(by rw[dS,az cF,iB,Ol,hL]);have hb:(j5 1 l[i] L).length<=10000:=(by rw[aE];exact aO (RD 1 l (i+1) []) ld);have hF:yM d L l[i] 1=some (j5 1 l[i] L):=(by unfold yM;rw[if_pos ⟨by omega,eC,zzf,hb⟩]);have RJ:=EB 1 l[i] L;refine lp hρ U aq λK hK=>?_;generalize hR:j5 1 l[i] L=R at hF aE RJ;rcases L with _|⟨x,L⟩;rcases R with _|⟨y,R⟩<;>simp[zt,U,cF,CO,hc,hw,hF,xL,-Int.natCast_add]
   exact hK _ _ (gD (aw.bw 1 (by simp[-Int.natCast_add]) (by simp) rfl rfl) (ih (i+1) _ (by omega) aE));exact hK _ _ (gD (aw.lit (λk=>if k=0 then 12 else k) 1 (by simp[-Int.natCast_add]) (by simp) rfl rfl) (ih (i+1) _ (by omega) aE));rcases R with _|⟨y,R⟩;simp at RJ;have zy1:L.length<=R.length:=(by simp at RJ;omega);simp[zt,U,cF,CO,hc,hw,hF,xL,zy1,-Int.natCast_add];exact hK _ _ (gD (aw.bw 1 (by simp[-Int.natCast_add]) (by simp) rfl rfl) (ih (i+1) _ (by omega) aE))
def Ie (hc:E.dA 72=K4 (cB λ(l:Z Int) (x:Int)=>if l.length<=1000000 then some (decide (x∈l))else none)) {F:Z G} (hl:F.length<=10000) 
 (hQ:Q (.exit 2) (dP [(5,oV 1 ((vP F).map cY))]) { H:=dP (oH 1 1 ((vP F).map cY)),n:=2,log:=[] }) :
 ∀ (n i:Nat) (db:Z Int),i+n=F.length->db=vP (F.take i)->v5 I E 0 42 qP (bM 0 Q) (n+1) (dP [(3,oV 0 (F.map aA)),(5,oV 1 (db.map cY)),(6,.int .i64 (i:Int))])
   { H:=dP (oH 0 5 (F.map aA)++oH 1 1 (db.map cY)),n:=2,log:=[] }:=by
 intro n
 induction n with
 | zero =>
   intro i db hi hO;have e:db=vP F:=(by rw[hO,aP (by omega)]);rw[<- e]at hQ;refine lp hρ U aq λK hK=>?_;rcases F with _|⟨x,F⟩;obtain rfl:i=0:=(by simpa using hi);rcases db with _|⟨y,db⟩<;>simp[qP,U]<;>exact bM.mk (aw.bw 2 (by simp) (by simp) rfl rfl) hQ
   have cF:¬ (i:Int)<(F.length:Int)+1:=(by simp at hi;omega);rcases db with _|⟨y,db⟩<;>simp[qP,U,cF]<;>exact bM.mk (aw.bw 2 (by simp) (by simp) rfl rfl) hQ
 | succ n ih =>
   intro i db hi hO;have cF:i<F.length:=(by omega);have hw:=bG (i:=i);have zJk:db.length<=10000:=(by rw[hO];have:=Yo (F.take i);rw[dR]at this;omega);have aE:BB db F[i]=vP (F.take (i+1)):=(by rw[dS,az cF,iB,VA,hO]);have hgi:(F.map aA)[i]?=some (aA F[i]):=(by rw[bC,az cF];rfl);refine lp hρ U aq λK hK=>?_;generalize F[i]=y at aE hgi;rcases F with _|⟨x,F⟩;simp at cF;have zpk:i<F.length+1:=(by simpa using cF);simp only[aX,kZ]at hgi;have zfT:∀ h,(aA x::F.map aA)[i]'h=aA y:=λh=>(by simp only[kZ];exact(aM.1 hgi).2);simp only[kZ]at zfT;have rh:(i*5+2) / 5=i:=(by omega);have ld:(i*5+2) % 5=2:=(by omega);by_cases eE:y.id∈db;have sC:BB db y=db:=if_pos eE;rw[sC]at aE;rcases db with _|⟨z,db⟩;cases eE;have zze:db.length+1<=1000000:=(by simp at zJk;omega);simp[qP,U,zpk,hc,rh,ld,zfT,eE,hw,zze,-Int.natCast_add,-List.mem_cons];exact hK _ _ (gD (aw.bw 2 (by simp[-Int.natCast_add]) (by simp) rfl rfl) (ih (i+1) _ (by omega) aE));have sC:BB db y=db++[y.id]:=if_neg eE;rw[sC]at aE;rcases db with _|⟨z,db⟩;simp[qP,U,zpk,hc,rh,ld,zfT,hw,-Int.natCast_add];exact hK _ _ (gD (aw.lit (λk=>if k=1 then 21 else k) 2 (by simp[-Int.natCast_add]) (by simp) rfl rfl) (ih (i+1) _ (by omega) aE));have zze:db.length+1<=1000000:=(by simp at zJk;omega);have qs:(db.length+1+1)*8<=1048576:=(by simp at zJk;omega);simp[qP,U,zpk,hc,rh,ld,zfT,eE,hw,zze,qs,bf,-Int.natCast_add,-List.mem_cons];exact hK _ _ (gD (aw.bw 2 (by simp[-Int.natCast_add]) (by simp) rfl rfl) (ih (i+1) _ (by omega) aE))
def Xo(zOo:E.dA 72=K4 (cB λ(l:Z Int) (x:Int)=>if l.length<=1000000 then some (decide (x∈l))else none))(hc:E.dA 157=vt 5 (MO (yM d)) xL)(hl:G.fl l=true)(fX:l.length<=10000)(hd:G.bj l<=d)(ld:(eT 1 l []).length<=10000)(C:HS):aS I Pg 71 [enc l] C (enc (um l)) C:=by
 refine fn hρ U aq Tryz.func71 ER.2 rfl (by simp) ?_ C;simp;refine oJ (qy (gD (aw.bw (TL:=[(0,.sl (l.map aA) false),(3,oV 0 (([]:Z G).map aA)),(4,.int .i64 ((0:Nat):Int))]) (HL:=oH 0 5 (([]:Z G).map aA)) 1 (by simp) (by simp) rfl rfl) (S9 hρ U aq hc hl fX hd ld ?_ l.length 0 [] (by omega) rfl)));have hlen:=qY 1 l [];unfold um;have hF:=ld;clear ld;generalize eT 1 l []=F at hlen hF;rcases F with _|⟨y,F⟩;simp;refine oJ (qy (gD (aw.bw (TL:=[(3,oV 0 (([]:Z G).map aA)),(5,oV 1 (([]:Z Int).map cY)),(6,.int .i64 ((0:Nat):Int))]) (HL:=oH 0 5 (([]:Z G).map aA)++oH 1 1 (([]:Z Int).map cY)) 2 (by simp) (by simp) rfl rfl) (Ie hρ U aq zOo hF ?_ 0 0 [] (by simp) rfl)));simp[vP];simp;refine oJ (qy (gD (aw.bw (TL:=[(3,oV 0 ((y::F).map aA)),(5,oV 1 (([]:Z Int).map cY)),(6,.int .i64 ((0:Nat):Int))]) (HL:=oH 0 5 ((y::F).map aA)++oH 1 1 (([]:Z Int).map cY)) 2 (by simp) (by simp) rfl rfl) (Ie hρ U aq zOo hF ?_ (y::F).length 0 [] (by omega) rfl)));generalize vP (y::F)=db;rcases db with _|⟨z,db⟩<;>simp[U]
end
def bF{_:Decidable c}{x r:α}(h:(if c then some x else none)=some r):c/\x=r:=by
 split at h;cases h;exact⟨‹_›,rfl⟩;cases h
def fo{f:Nat}{fn:Func}(hf:Pg.funcs[f]?=some fn)(hb:fn.body.bind aV=some sc):vM Pg f:=zuk hf (by
 cases h:fn.body with
 |none=>rw[h]at hb;cases hb
 |some c=>rfl)
abbrev EL(L:Z (Nat×J.Spec)):Env:=zlw Pg zj L
section
variable {I:Nat->Value}(hρ:J.Good I)
include hρ
def zFd:J.Spec:=dC (cB λn m:Int=>if -1000000<=m/\m<=1000000 then some (MA n m)else none)
def zKi:Valid I Pg 11 zFd:=v2 (fo Tryz.func11 WR.2) λa b r h C=>by
 obtain⟨M,rfl⟩:=bF h;exact zan hρ (E:=EL []) rfl (aj aH) (by omega) (by omega) C
def zlt:J.Spec:=dC (cz λl:Z Int=>some (decide (l.length<=60)))
def zKp:Valid I Pg 8 zlt:=v1 (fo Tryz.func8 WS.2) λa r h C=>by
 cases h;exact zao hρ (E:=EL []) rfl (aj aH) C
def zuJ:J.Spec:=dC (cB λ(n:Z Nat) (l:Z G)=>if l.length<=10000 then some (wJ n l)else none)
def zxo:Valid I Pg 38 zuJ:=v2 (fo Tryz.func38 WQ.2) λa b r h C=>by
 obtain⟨M,rfl⟩:=bF h;exact ZZ hρ (E:=EL []) rfl (aj aH) M C
def zKo:Valid I Pg 15 (dC (Jh Un)):=v0 (fo Tryz.func15 WO.2) λC =>
 ZX hρ (E:=EL [(38,zuJ)]) rfl (aj (ae (zxo hρ) aH)) rfl C
def zxs:Valid I Pg 30 (dC (cB λa b:G=>some (wo a b))):=v2 (fo Tryz.func30 Pm.2) λa b r h C=>by
 cases h;exact UJ hρ (E:=EL [(38,zuJ)]) rfl (aj (ae (zxo hρ) aH)) rfl C
def zKg:Valid I Pg 14 (dC (cz λi:Int=>some (fU i))):=v1 (fo Tryz.func14 WN.2) λa r h C=>by
 cases h;exact ZW hρ (E:=EL []) rfl (aj aH) C
def zxr:Valid I Pg 31 (dC (cz λi:Int=>some (ry i))):=v1 (fo Tryz.func31 Pk.2) λa r h C=>by
 cases h;exact UI hρ (E:=EL []) rfl (aj aH) C
def zxf:Valid I Pg 16 (dC (cB λh i:Int=>some (oz h i))):=v2 (fo Tryz.func16 Pj.2) λa b r h C=>by
 cases h;exact UH hρ (E:=EL []) rfl (aj aH) C
def zbN:Valid I Pg 34 (IQ (Jf Cn)):=s1 (fo Tryz.func34 Gs.2) λs a q h C id hid hg=>by
 obtain⟨⟨M,O⟩,rfl⟩:=bF h;exact MH hρ (E:=EL [(11,zFd)]) rfl (aj (ae (zKi hρ) aH)) rfl M.1 M.2 O C id hid hg
def zO5(d:Nat):Valid I Pg 32 (dC (cB (UP d)))/\Valid I Pg 39 (dC (cB (Qy d))):=by
 have all:∀ d,Valid I Pg 32 (dC (cB (UP d)))->Valid I Pg 39 (dC (cB (Qy d))):=λd hv=>v2 (fo Tryz.func39 Cj.2) λa b r h C=>by obtain⟨⟨M,O,h3⟩,rfl⟩:=bF h;exact NR hρ (E:=EL [(32,dC (cB (UP d)))]) rfl (aj (ae hv aH)) rfl M O h3 C
 have one:∀ d,Valid I Pg 32 (dC (cB (UP d))):=by
  intro d
  induction d with
  | zero =>refine v2 (fo Tryz.func32 CY.2) λa b r h C=>?_;obtain⟨⟨M,O⟩,rfl⟩:=bF h;have:=G.size_eq a;omega
  | succ d ih =>refine v2 (fo Tryz.func32 CY.2) λa b r h C=>?_;obtain⟨⟨M,O⟩,rfl⟩:=bF h;exact Jm hρ (E:=EL [(39,dC (cB (Qy d)))]) rfl (aj (ae (all d ih) aH)) rfl M O C
 exact⟨one d,all d (one d)⟩
def equalS:J.Spec:=dC (cB λa b:G=>if a.ok=true then some (decide (a=b))else none)
def zxm:Valid I Pg 32 equalS:=v2 (fo Tryz.func32 CY.2) λa b r h C=>by
 obtain⟨M,rfl⟩:=bF h;exact Jm hρ (E:=EL [(39,dC (cB (Qy a.size)))]) rfl (aj (ae (zO5 hρ a.size).2 aH)) rfl M (by omega) C
def zm3(d:Nat):Valid I Pg 48 (dC (cB (NN d))):=by
 induction d with
 | zero =>refine v2 (fo Tryz.func48 uS.2) λa b r h C=>?_;obtain⟨⟨M,O,h3⟩,rfl⟩:=bF h;have:=G.size_eq a;omega
 | succ d ih =>
   refine v2 (fo Tryz.func48 uS.2) λa b r h C=>?_;obtain⟨⟨M,O,h3⟩,rfl⟩:=bF h;exact P9 hρ (E:=EL [(48,dC (cB (NN d)))]) rfl (aj (ae ih aH)) rfl M O h3 C
def zsd(d:Nat):Valid I Pg 157 (vt 5 (MO (yM d)) xL):=by
 induction d with
 | zero =>refine Valid.io (fo Tryz.func157 wX.2) λes vs r _ _ h0 _ _ _ C v hv nN=>?_;obtain⟨l,a,b,q,rfl,rfl,h,rfl⟩:=Ot h0;obtain⟨⟨M,O,h3⟩,rfl⟩:=bF h;have:=G.size_eq a;omega
 | succ d ih =>
   refine Valid.io (fo Tryz.func157 wX.2) λes vs r _ _ h0 _ _ _ C v hv nN=>?_;obtain⟨l,a,b,q,rfl,rfl,h,rfl⟩:=Ot h0;obtain⟨⟨M,O,h3,h4⟩,rfl⟩:=bF h;exact SY hρ (E:=EL [(32,equalS),(157,vt 5 (MO (yM d)) xL)]) rfl (aj (ae (zxm hρ) (ae ih aH))) rfl rfl O M h3 h4 hv nN
def G6:J.Spec:=K4 (cB λ(l:Z Int) (x:Int)=>if l.length<=1000000 then some (decide (x∈l))else none)
def zDJ:Valid I Pg 72 G6:=c2 (fo Tryz.func72 Ni.2) λa b r h C=>by
 obtain⟨M,rfl⟩:=bF h;exact ZY hρ (E:=EL []) rfl (aj aH) M C
def zmR(d:Nat):J.Spec:=dC (cz λl:Z G=>if G.fl l=true/\l.length<=10000/\G.bj l<=d then some (um l)else none)
def zDy(d:Nat)(hd:d<=10000):Valid I Pg 71 (zmR d):=v1 (fo Tryz.func71 ER.2) λa r h C=>by
 obtain⟨⟨M,O,h3⟩,rfl⟩:=bF h;exact Xo hρ (E:=EL [(72,G6),(157,vt 5 (MO (yM d)) xL)]) rfl (aj (ae (zDJ hρ) (ae (zsd hρ d) aH))) rfl rfl M O h3 (by have:=(qY 1 a []).2;simp at this;omega) C
end
def ziT(l:Z G):l.length<=G.bj l:=by
 induction l with
 |nil=>exact af _
 |cons t l ih=>have:=G.size_pos t;simp only[G.bj,aL];omega
def X1(d:Nat)(s:ao)(t:G)(m:Int):Y Int:=if s.mF/\t.ok=true/\0<=m/\m<d then some ((sz s.w t (max m 0).toNat:Nat):Int)else none
section
variable {I:Nat->Value}(hρ:J.Good I){E:Env}(U:E.P=Pg)(aq:bK I E)
include hρ U aq
theorem SS  (hc:E.dA 132=dC (zN (X1 d))) (hd:d<=1000000)  (C:s.mF)  (hu:G.fl l=true) (hlen:l.length<=10000) {m:Nat} (hm:m<=d) {R:Nat} 
 (hQ:Q (.exit 0) (dP [(7,.int .i64 (R:Int)),(2,.int .i64 (m:Int))]) { H:=dP [],n:=0,log:=[] }) :
 ∀ (n i r:Nat),i+n=l.length->1<=r->r<=m+1->vy (sz s.w) m (l.drop i) r=R ->
   v5 I E 0 39 xz (bM 0 Q) (n+1) (dP [(17,.int .i64 (i:Int)),(16,.int .i64 (l.length:Int)),(15,.sl (l.map aA) false),(7,.int .i64 (r:Int)),(2,.int .i64 (m:Int)),(3,.ptr 0 0 0)]) { H:=dP [(0,box (qJ s))],n:=1,log:=[] }:=by
 intro n
 induction n with
 | zero =>intro i r hi qS xf hR;have cF:¬ (i:Int)<l.length:=(by omega);rw[List.drop_of_length_le (by omega)]at hR;simp only[vy]at hR;subst hR;refine lp hρ U aq λK hK=>?_;simp[xz,U,cF];exact bM.mk (aw.bw 0 (by simp) (by simp) rfl rfl) hQ
 | succ n ih =>
   intro i r hi qS xf hR;have cF:i<l.length:=(by omega);have CO:(i:Int)<l.length:=(by omega);have hw:=bG (i:=i);have W:=G.ny.1 hu _ (ax cF);rw[aG cF]at hR;generalize hX:l[i]=x at W hR;refine lp hρ U aq λK hK=>?_;unfold vy at hR;by_cases hrm:r<=m;rw[if_pos hrm]at hR;have zyY:¬ (m:Int)<(r:Int):=(by omega);have eN:IntKind.i64.wrap ((m:Int)-(r:Int))=((m-r:Nat):Int):=(by rw[wrap_i64 (by omega) (by omega)];omega);have hF:X1 d s x ((m-r:Nat):Int)=some ((sz s.w x (m-r):Nat):Int):=(by unfold X1;grind);have hle:=zvQ (w:=s.w) x (m-r);generalize sz s.w x (m-r)=q at hF hle hR;have sC:IntKind.i64.wrap ((r:Int)+(q:Int))=((r+q:Nat):Int):=(by rw[wrap_i64 (by omega) (by omega)];omega);simp[xz,U,cF,CO,zyY,hX,eN,hc,hF,sC,hw,-Int.natCast_add];exact hK _ _ (gD (aw.bw 1 (by simp[-Int.natCast_add]) (by simp) rfl rfl) (ih (i+1) (r+q) (by omega) (by omega) (by omega) hR));rw[if_neg hrm]at hR;subst hR;have zyY:(m:Int)<(r:Int):=(by omega);simp[xz,U,cF,CO,zyY,hX];exact bM.mk (aw.bw 0 (by simp) (by simp) rfl rfl) hQ
theorem Us(hc:E.dA 132=dC (zN (X1 d)))(hd:d<=1000000)(hw:E.dA 199=dC (cB λ(s:ao) (t:G)=>if s.bc.length<=1000000 then some (s.w t)else none))
  (C:s.mF)  (ht:t.ok=true)  (fW:m0<d+1) (eR:HS):aS I Pg 132 [enc s,enc t,enc m0] eR (enc ((sz s.w t (max m0 0).toNat:Nat):Int)) eR:=by
 refine fn hρ U aq Tryz.func132 zC.2 rfl (by simp) ?_ eR;have M:s.bc.length<=1000000:=by have:=C.1;omega
 have hu:(s.w t).ok=true:=ao.Uh C _ ht;have em:(if m0<0 then 0 else m0)=(((max m0 0).toNat:Nat):Int):=by split<;>omega
 have hm:(max m0 0).toNat<=d:=by omega
 generalize (max m0 0).toNat=m at em hm;have e:=znp (w:=s.w) t m;have sC:=bG (i:=m);generalize hU:s.w t=u at hu e;have zLW:G.fl u.args=true:=by rw[G.ny];exactλx W=>G.GL hu W
 simp[U,hw,M,hU,em]
 refine oJ (qy (gD (aw.bw (TL:=[(17,.int .i64 ((0:Nat):Int)),(16,.int .i64 (u.args.length:Int)),(15,.sl (u.args.map aA) false),(7,.int .i64 ((1:Nat):Int)),(2,.int .i64 (m:Int)),(3,.ptr 0 0 0)]) (HL:=[(0,box (qJ s))]) 1 (by simp) (by simp) rfl rfl)
  (SS hρ U aq hc hd C zLW (G.yJ hu) hm (R:=vy (sz s.w) m u.args 1) ?_ u.args.length 0 1 (by omega) (by omega) (by omega) rfl)))
 generalize vy (sz s.w) m u.args 1=q at e;rw[e];by_cases hq:m<q;have hq':(m:Int)<q:=by omega
 have e3:min q (m+1)=m+1:=by omega
 simp_all;have hq':¬ (m:Int)<q:=by omega
 have e3:min q (m+1)=q:=by omega
 rw[e3];simp[U,hq']
end
end Go.Proofs.YtfloillkpbhhhaaGreat
