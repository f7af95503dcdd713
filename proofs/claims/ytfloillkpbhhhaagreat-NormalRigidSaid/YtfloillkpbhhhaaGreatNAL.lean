import Derived.Test.YtfloillkpbhhhaaGreatNSN
import Derived.Test.YtfloillkpbhhhaaGreatJK8
import Derived.Test.YtfloillkpbhhhaaGreatJK6
set_option linter.all false
noncomputable section
namespace Go.Proofs.YtfloillkpbhhhaaGreat
open Go.J
open Go.J.bo (enc)
def zme:Z Nat:=[100,97,116,97,32,66,111,111,108,32,61,32,84,114,117,101,32,124,32,70,97,108,115,101,59,32,100,97,116,97,32,79,112,116,105,111,110,32,97,32,61,32,78,111,110,101,32,124,32,83,111,109,101,32,97,59,32,100,97,116,97,32,76,105,115,116,32,97,32,61,32,78,105,108,32,124,32,67,111,110,115,32,97,32,40,76,105,115,116,32,97,41,59,100,97,116,97,32,80,97,105,114,32,97,32,98,32,61,32,80,97,105,114,32,97,32,98,59,32,100,97,116,97,32,78,97,116,32,61,32,90,101,114,111,32,124,32,83,117,99,99,32,78,97,116,59,32,100,97,116,97,32,70,117,110,32,97,32,98,32,61,32,70,117,110,32,40,97,32,45,62,32,98,41,59,32,100,97,116,97,32,84,119,111,32,97,32,61,32,66,111,116,104,32,97,32,97,32,124,32,79,110,101,32,40,79,112,116,105,111,110,32,97,41,59]
def zue:V:=.tuple [.sl [[.int .i64 4,.str [100,97,116,97],.int .i64 0],[.int .i64 2,.str [66,111,111,108],.int .i64 5],[.int .i64 5,.str [61],.int .i64 10],[.int .i64 2,.str [84,114,117,101],.int .i64 12],[.int .i64 5,.str [124],.int .i64 17],[.int .i64 2,.str [70,97,108,115,101],.int .i64 19],[.int .i64 5,.str [59],.int .i64 24],[.int .i64 4,.str [100,97,116,97],.int .i64 26],[.int .i64 2,.str [79,112,116,105,111,110],.int .i64 31],[.int .i64 1,.str [97],.int .i64 38],[.int .i64 5,.str [61],.int .i64 40],[.int .i64 2,.str [78,111,110,101],.int .i64 42],[.int .i64 5,.str [124],.int .i64 47],[.int .i64 2,.str [83,111,109,101],.int .i64 49],[.int .i64 1,.str [97],.int .i64 54],[.int .i64 5,.str [59],.int .i64 55],[.int .i64 4,.str [100,97,116,97],.int .i64 57],[.int .i64 2,.str [76,105,115,116],.int .i64 62],[.int .i64 1,.str [97],.int .i64 67],[.int .i64 5,.str [61],.int .i64 69],[.int .i64 2,.str [78,105,108],.int .i64 71],[.int .i64 5,.str [124],.int .i64 75],[.int .i64 2,.str [67,111,110,115],.int .i64 77],[.int .i64 1,.str [97],.int .i64 82],[.int .i64 5,.str [40],.int .i64 84],[.int .i64 2,.str [76,105,115,116],.int .i64 85],[.int .i64 1,.str [97],.int .i64 90],[.int .i64 5,.str [41],.int .i64 91],[.int .i64 5,.str [59],.int .i64 92],[.int .i64 4,.str [100,97,116,97],.int .i64 93],[.int .i64 2,.str [80,97,105,114],.int .i64 98],[.int .i64 1,.str [97],.int .i64 103],[.int .i64 1,.str [98],.int .i64 105],[.int .i64 5,.str [61],.int .i64 107],[.int .i64 2,.str [80,97,105,114],.int .i64 109],[.int .i64 1,.str [97],.int .i64 114],[.int .i64 1,.str [98],.int .i64 116],[.int .i64 5,.str [59],.int .i64 117],[.int .i64 4,.str [100,97,116,97],.int .i64 119],[.int .i64 2,.str [78,97,116],.int .i64 124],[.int .i64 5,.str [61],.int .i64 128],[.int .i64 2,.str [90,101,114,111],.int .i64 130],[.int .i64 5,.str [124],.int .i64 135],[.int .i64 2,.str [83,117,99,99],.int .i64 137],[.int .i64 2,.str [78,97,116],.int .i64 142],[.int .i64 5,.str [59],.int .i64 145],[.int .i64 4,.str [100,97,116,97],.int .i64 147],[.int .i64 2,.str [70,117,110],.int .i64 152],[.int .i64 1,.str [97],.int .i64 156],[.int .i64 1,.str [98],.int .i64 158],[.int .i64 5,.str [61],.int .i64 160],[.int .i64 2,.str [70,117,110],.int .i64 162],[.int .i64 5,.str [40],.int .i64 166],[.int .i64 1,.str [97],.int .i64 167],[.int .i64 5,.str [45,62],.int .i64 169],[.int .i64 1,.str [98],.int .i64 172],[.int .i64 5,.str [41],.int .i64 173],[.int .i64 5,.str [59],.int .i64 174],[.int .i64 4,.str [100,97,116,97],.int .i64 176],[.int .i64 2,.str [84,119,111],.int .i64 181],[.int .i64 1,.str [97],.int .i64 185],[.int .i64 5,.str [61],.int .i64 187],[.int .i64 2,.str [66,111,116,104],.int .i64 189],[.int .i64 1,.str [97],.int .i64 194],[.int .i64 1,.str [97],.int .i64 196],[.int .i64 5,.str [124],.int .i64 198],[.int .i64 2,.str [79,110,101],.int .i64 200],[.int .i64 5,.str [40],.int .i64 204],[.int .i64 2,.str [79,112,116,105,111,110],.int .i64 205],[.int .i64 1,.str [97],.int .i64 212],[.int .i64 5,.str [41],.int .i64 213],[.int .i64 5,.str [59],.int .i64 214]] false,.agg [.int .i64 0,.int .i64 0]]
def zmQ:ziM (zkg Pg wx []) 2000 151 [.str zme]=some zue:=by kernel_rfl
def zgG(vs:Z V):Y V:=match vs with
 | [.str s]=>gd (ND s zme) (some zue)
 |_=>none
def zd1{I:Nat->Value}(hρ:J.Good I):Valid I Pg 151 (WU zgG):=by
 refine Valid.pure hρ follows named (zsL Tryz.func151 (by kernel_rfl)) λvs v hp hv=>?_
 unfold zgG at hv;split at hv
 . rename_i s;simp only[bE]at hv;obtain⟨M,O⟩:=hv;cases O
   have e:s=zme:=by
    exact Cz.1 M
   subst e;exact⟨_,2000,ag J.aG,rfl,zmQ⟩
 . cases hv
def ztB:ziM (zkg Pg wx [(151,WU zgG)]) 2000 33 []=some zKY:=by kernel_rfl
end Go.Proofs.YtfloillkpbhhhaaGreat
