import Derived.Test.YtfgmnebfhemnpaaGreatLXD
import Derived.Test.YtfgmnebfhemnpaaGreatJQx
set_option linter.all false
noncomputable section
/- The law UnifyTurns: its run. -/
namespace Go.Proofs.YtfgmnebfhemnpaaGreat
open Go.J
open Go.J.Enc (enc)
set_option maxRecDepth 100000
set_option maxHeartbeats 4000000
section
variable {ρ:Nat->Value}(hρ:J.Good ρ)
include hρ
section
variable {E:Env}(hE:E.P=Tryz.prog)(hcon:ConsOk ρ E)
include hE hcon
theorem ziI(h1:E.con 8=zC2)(h2:E.con 9=zFd)(h3:E.con 10=zaT zhA)(h4:E.con 11=fnS (zaA Store.uniF))(h5:E.con 18=zdo)(h6:E.con 19=zgE)
 {bits:Int} {codes:List Int} (hs:HS):CallOk ρ Tryz.prog 5 [enc bits,enc codes] hs (.bool true) hs:=by
 refine fn hρ hE hcon Tryz.func5 fB5 rfl (by simp) ?_ hs;by_cases c1:codes.length<=60
 case neg=>simp [hE,h1,h2,zC2,zFd,c1]
 have htp:(⟨codes,0⟩:Tp).ok:=⟨Int.le_refl _,by show codes.length<=100000;omega⟩;rcases hm:Store.made17 ⟨codes,0⟩ (zaI bits)with⟨s,a,b,t⟩;obtain⟨n,hM⟩:=Store.made17_ok htp (zhY bits) (znq bits) hm;obtain⟨x,y,e,c,p,hu,hv,xo,yo,ao,hc,hd,co,cz,cl⟩:=hM.turns';have hval:=fun hs=>znc (hs:=hs) hm
 have hheap:=fun hs=>zly (hs:=hs) hm
 clear hm hM;obtain⟨xs,xt⟩:=x;obtain⟨ys,yt⟩:=y;obtain⟨ss,st⟩:=s;obtain⟨ak,an,ai,ah,al⟩:=a;obtain⟨bk,bn,bi',bh,bl⟩:=b;obtain⟨ck,cn,ci,ch,cl'⟩:=c;by_cases c2:e=0<;>cases p
 all_goals
  simp [hE,h1,h2,h3,h4,h5,h6,zC2,zFd,zdo,zgE,c1,hval,hheap,hu,hv,xo,yo,ao,hc,hd,co,cz,cl,c2,vacant_eq]
end
end
end Go.Proofs.YtfgmnebfhemnpaaGreat
