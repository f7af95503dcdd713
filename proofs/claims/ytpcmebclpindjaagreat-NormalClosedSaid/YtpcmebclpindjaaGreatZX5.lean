import Derived.Test.YtpcmebclpindjaaGreatZX4
import Derived.Test.YtpcmebclpindjaaGreatJHa
set_option linter.all false
noncomputable section
/- normal.Shape: its closures,and the functions that they are handed to. -/
namespace Go.Proofs.YtpcmebclpindjaaGreat
open Go.J
open Go.J.Enc (enc)
set_option maxRecDepth 100000
set_option maxHeartbeats 4000000
def zeP{α:Type}(f:α->Bool):List α->Int->Int
 | [],_=>-1
 |x::l,i=>if f x=true then i else zeP f l (i+1)
theorem zmx{α:Type}(f:α->Bool):∀ (l:List α) (i:Int),0<=i->decide (0<=zeP f l i)=l.any f:=by
 intro l
 induction l with
 |nil=>intro i h;simp[zeP]
 | cons y l ih =>
   intro i h;rw[zeP];split
   . rename_i e;simp[e,h]
   . rename_i e;rw[ih (i+1) (by omega)];simp[e]
section
variable {ρ:Nat->Value}(hρ:J.Good ρ)
include hρ
section
variable {E:Env}(hE:E.P=Tryz.prog)(hcon:ConsOk ρ E)
include hE hcon
end
end
section
variable {ρ:Nat->Value}(hρ:J.Good ρ)
include hρ
section
variable {E:Env}(hE:E.P=Tryz.prog)(hcon:ConsOk ρ E)
include hE hcon
end
end
end Go.Proofs.YtpcmebclpindjaaGreat
/- The reference's Shape: walked. -/
namespace Go.Proofs.YtpcmebclpindjaaGreat
open Go.J
open Go.J.Enc (enc)
set_option maxRecDepth 100000
set_option maxHeartbeats 1000000
section
variable {ρ:Nat->Value}(hρ:J.Good ρ)
include hρ
section
variable {E:Env}(hE:E.P=Tryz.prog)(hcon:ConsOk ρ E)
include hE hcon
end
theorem Xp.fit.pos{e:Xp}(h:e.fit 0):False:=by have:=Xp.depth_eq e;have:=h.1;omega
end
end Go.Proofs.YtpcmebclpindjaaGreat
/- law28.made: walked. -/
namespace Go.Proofs.YtpcmebclpindjaaGreat
open Go.J
open Go.J.Enc (enc)
set_option maxRecDepth 100000
set_option maxHeartbeats 1000000
def zbQ(bits:Int)(codes:List Int):EmbD where
 k:=0
 k':=1
 π:=fun i=>i
 OL:=[]
 OL':=[(0,box (Cel.cells (zdg codes (zD bits)).2.2.2))]
 vs0:=[enc bits,enc codes]
 v0:=.tuple [enc (zD bits),enc (zdg codes (zD bits)).1,enc (zdg codes (zD bits)).2.1,enc (zdg codes (zD bits)).2.2.1,.ptr 0 0 0]
def zhd(vs:List V)(hs:HS):Option EmbD:=match vs with
 | [bv,cv]=>ob (Enc.dec bv:Option Int) fun bits=>ob (Enc.dec cv:Option (List Int)) fun codes=>gd (et (Nat.ble (zC codes) 60) (zaz hs hs.n)) (some (zbQ bits codes))
 |_=>none
@[simp] theorem zBk {bv cv:V} {hs:HS}:zhd [bv,cv] hs=ob (Enc.dec bv:Option Int) fun bits=>ob (Enc.dec cv:Option (List Int)) fun codes=>gd (et (Nat.ble (zC codes) 60) (zaz hs hs.n)) (some (zbQ bits codes)):=(rfl)
theorem zmt{bits:Int}{codes:List Int}{hs:HS}{l:List Entry}{g:Ty}{e:Xp}{t:Tp}(h:zdg codes (zD bits)=(l,g,e,t)):(zbQ bits codes).val hs=.tuple [enc (zD bits),enc l,enc g,enc e,.ptr hs.n 0 0]:=by
 have e0:(zbQ bits codes).v0=.tuple [enc (zD bits),enc l,enc g,enc e,.ptr 0 0 0]:=by show V.tuple _=_;rw[h]
 show (zbQ bits codes).v0.ren _=_;rw[e0];have hv:∀ (π:Nat->Nat) (t:Ty),(enc t:V).ren2 π=enc t:=fun π t=>V.ren2_none (V.in3_pure (zlg t))
 have hx:∀ (π:Nat->Nat),(enc e:V).ren2 π=enc e:=fun π=>V.ren2_none (V.in3_pure (show (enc e:V).pure=true by simp))
 show V.tuple [(enc (zD bits):V).ren2 _,(enc l:V).ren2 _,(enc g:V).ren2 _,(enc e:V).ren2 _,(V.ptr 0 0 0).ren2 _]=_;rw[hv,hx];rfl
theorem zkG{bits:Int}{codes:List Int}{hs:HS}{l:List Entry}{g:Ty}{e:Xp}{t:Tp}(h:zdg codes (zD bits)=(l,g,e,t)):(zbQ bits codes).heap hs={ H:=hs.H.set hs.n (box (Cel.cells t)),n:=hs.n+1,log:=hs.n::hs.log }:=by
 have e:(zbQ bits codes).OL'=[(0,box (Cel.cells t))]:=by show [(0,_)]=_;rw[h]
 show zg1 hs 0 1 _ (zbQ bits codes).OL'=_;rw[e];rfl
section
variable {ρ:Nat->Value}(hρ:J.Good ρ)
include hρ
section
variable {E:Env}(hE:E.P=Tryz.prog)(hcon:ConsOk ρ E)
include hE hcon
theorem ziv(h3:E.con 16=fnS (zy fun bits:Int=>some (zD bits)))(h4:E.con 32=stS (zkk zGi))(h5:E.con 46=fnS (zy fun l:List Entry=>if l.length<=10000 then some (l.map (·.name))else none))(h6:E.con 45=stS (zjj (zdp 3)))
 {bits:Int} {codes:List Int} (hl:codes.length<=60) {hs:HS} (hvac:hs.H.get hs.n=none) :
 CallOk ρ Tryz.prog 37 [enc bits,enc codes] hs ((zbQ bits codes).v0.ren (news hs.n 0 fun i=>i)) (zg1 hs 0 1 (fun i=>i) (zbQ bits codes).OL'):=by
 have htp:(⟨codes,0⟩:Tp).ok:=⟨Int.le_refl _,by show codes.length<=100000;omega⟩;have hDk:=zhG bits;have hD3:=zhF bits;rcases hm:zdg codes (zD bits)with⟨rl,rg,re,rt⟩;have hv0:(zbQ bits codes).v0=.tuple [enc (zD bits),enc rl,enc rg,enc re,.ptr 0 0 0]:=by show V.tuple _=_;rw[hm]
 have hOL:(zbQ bits codes).OL'=[(0,box (Cel.cells rt))]:=by show [(0,_)]=_;rw[hm]
 refine em hρ hE hcon (D:=zbQ bits codes) Tryz.func37 zMR rfl ⟨rfl,rfl,Nat.zero_le _,fun p hp=>(by cases hp),fun p hp=>?_,?_,fun v hv=>?_⟩ ?_ ⟨rfl,fun i j hi=>absurd hi (Nat.not_lt_zero _),fun p hp=>(by cases hp),fun i hi=>?_,fun i hi=>absurd hi (Nat.not_lt_zero _)⟩
 . obtain rfl:=List.mem_singleton.1 hp;exact⟨rfl,rfl⟩
 . rw[hv0,hOL];show ([enc (zD bits),enc rl,enc rg,enc re,V.ptr 0 0 0].all (V.in2 _))=true;have hp:∀ t:Ty,(enc t:V).in2 (dom [(0,box (Cel.cells rt))])=true:=fun t=>V.in3_pure (zlg t)
   have hp2:(enc re:V).in2 (dom [(0,box (Cel.cells rt))])=true:=V.in3_pure (show (enc re:V).pure=true by simp);simp only[List.all_cons,List.all_nil,Bool.and_true,hp,hp2,Bool.true_and];rfl
 . have hv:v∈[(enc bits:V),enc codes]:=hv;simp only[List.mem_cons,List.not_mem_nil,or_false]at hv;rcases hv with rfl|rfl<;>rfl
 . rw[hv0,hOL];show Wp ρ E 0 _ _ _ { H:=mkP [],n:=0,log:=[] } (J.Leaves _ _ (GivesL 0 _ _));rw[show Tryz.f37.ntmps=33 from rfl];have f1:zGi ⟨codes,0⟩ (zD bits)=some (zbG ⟨codes,0⟩ (zD bits)):=if_pos ⟨htp,hDk.1,zvc hD3⟩;obtain⟨c1,c2⟩:=zhK (D:=zD bits) htp;unfold zdg at hm;generalize hDq:zD bits=D at hm hDk f1 c1 c2 ⊢;generalize zbG ⟨codes,0⟩ D=c at hm f1 c1 c2;obtain⟨t1,ctx,goal⟩:=c;simp only at hm c1 c2
   have f2:zdp 3 t1 D (ctx.map (·.name)) 3=some (zaQ 3 t1 D (ctx.map (·.name))):=by
    unfold zdp;rw[if_pos ⟨c1,hDk,by simp;omega,by omega,by omega⟩];rfl
   have f3:ctx.length<=10000:=by omega
   rcases hq:zaQ 3 t1 D (ctx.map (·.name))with⟨t2,x⟩;rw[hq]at hm f2;cases hm;generalize hN:rl.map (·.name)=N at f2;simp [hE,h3,hDq,h4,f1,h5,f3,hN,h6,f2];exact GivesL.litX (fun k=>if k=0 then 7 else k) rfl rfl ⟨rfl,rfl⟩ (by simp)
 . obtain rfl:i=0:=Nat.lt_one_iff.1 hi;exact hvac
end
theorem z3Q:Valid ρ Tryz.prog 37 (zpD zhd):=Valid.emb (fo Tryz.func37 zMR) fun vs hs D h=>by
 unfold zhd at h;split at h
 . simp only[zb,zl,et_true,ble_true,vacant_eq,zz]at h;obtain⟨bits,hb,codes,hc,⟨h1,h2⟩,h⟩:=h;cases h;rw[Enc.enc_dec _ _ hb,Enc.enc_dec _ _ hc]
   exact ziv hρ (E:=EL [(16,fnS (zy fun bits:Int=>some (zD bits))),(32,stS (zkk zGi)),(46,fnS (zy fun l:List Entry=>if l.length<=10000 then some (l.map (·.name))else none)),(45,stS (zjj (zdp 3)))]) rfl
    (zf (za (zyr hρ) (za (zwh hρ) (za (z9K hρ) (za (zGX hρ 3) valid_nil))))) rfl rfl rfl rfl h1 h2
 . cases h
end
end Go.Proofs.YtpcmebclpindjaaGreat
