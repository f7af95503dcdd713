import Derived.Test.YtfgmnebfhemnpaaGreatLX7
import Derived.Test.YtfgmnebfhemnpaaGreatJUv
import Derived.Test.YtfgmnebfhemnpaaGreatJPx
import Derived.Test.YtfgmnebfhemnpaaGreatJRt
set_option linter.all false
noncomputable section
/- The program's unification: replacing a slot,giving a type. -/
namespace Go.Proofs.YtfgmnebfhemnpaaGreat
open Go.J
open Go.J.Enc (enc)
set_option maxRecDepth 100000
set_option maxHeartbeats 4000000
def zpg(sl:List Slot)(tr:List Change)(args:List V):Option (V×List Slot×List Change):=match args with
 | [.int .i64 n,xv]=>ob (Enc.dec xv:Option Slot) fun x=>if 0<=n/\n<sl.length/\tr.length<=5000/\sl.length<=1000 then some (.tuple [],(Store.setP ⟨sl,tr⟩ n x).slots,(Store.setP ⟨sl,tr⟩ n x).trail.drop tr.length)else none
 |_=>none
theorem zwI{sl:List Slot}{tr:List Change}{args:List V}{q:V×List Slot×List Change}(h:zpg sl tr args=some q):∃ (i:Nat) (x:Slot),args=[.int .i64 (i:Int),enc x]/\i<sl.length/\tr.length<=5000/\sl.length<=1000/\q=(.tuple [],(Store.setP ⟨sl,tr⟩ (i:Int) x).slots,(Store.setP ⟨sl,tr⟩ (i:Int) x).trail.drop tr.length):=by
 unfold zpg at h;split at h
 . simp only[zu]at h;obtain⟨x,hx,h⟩:=h;split at h
   . rename_i hh;obtain⟨h0,h1,h2,h3⟩:=hh;obtain⟨i,rfl⟩:=Int.eq_ofNat_of_zero_le h0;cases h;exact⟨i,x,by rw[Enc.enc_dec _ _ hx],by omega,h2,h3,rfl⟩
   . cases h
 . cases h
theorem zqS{sl:List Slot}{tr:List Change}{i:Nat}(hi:i<sl.length){x:Slot}(h:sl[i].bound=x.bound/\sl[i].home=x.home/\sl[i].base=x.base):Store.setP ⟨sl,tr⟩ (i:Int) x=⟨sl,tr⟩:=by
 unfold Store.setP;rw[if_pos (by rw[Store.slotD_at (s:=⟨sl,tr⟩) hi];exact h)]
theorem zwJ{sl:List Slot}{tr:List Change}{i:Nat}(hi:i<sl.length){x:Slot}(h:¬ (sl[i].bound=x.bound/\sl[i].home=x.home/\sl[i].base=x.base)):Store.setP ⟨sl,tr⟩ (i:Int) x=⟨sl.set i x,tr++[⟨(i:Int),sl[i],false⟩]⟩:=by
 unfold Store.setP;rw[if_neg (by rw[Store.slotD_at (s:=⟨sl,tr⟩) hi];exact h),Store.set_some hi]
section
variable {ρ:Nat->Value}(hρ:J.Good ρ)
include hρ
section
variable {E:Env}(hE:E.P=Tryz.prog)(hcon:ConsOk ρ E)
include hE hcon
theorem zm9 {sl:List Slot} {tr:List Change} {g:Option Nat} {i:Nat} {x:Slot} (hi:i<sl.length) (ht:tr.length<=5000) (hl:sl.length<=1000) {sl':List Slot} {ex:List Change} (h:Store.setP ⟨sl,tr⟩ (i:Int) x=⟨sl',tr++ex⟩) :
 Wp ρ E (uK g 3) 64 zN0 (((PT.leaf.set 0 (.ptr 0 0 0)).set 1 (.int .i64 (i:Int))).set 2 (enc x)) { H:=mkP (zP sl tr g),n:=uK g 3,log:=[] } (J.Leaves E.P Tryz.f98 (GivesL (uK g 3) (.tuple []) (zP sl' (tr++ex) (gN g ex.length)))):=by
 have hd1:i*8 / 8=i:=by omega
 have hd2:i*8 % 8=0:=by omega
 have k1:(tr.length+1)*104<=1048576:=by omega
 have hil:(i:Int)<sl.length:=by omega
 by_cases c:sl[i].bound=x.bound/\sl[i].home=x.home/\sl[i].base=x.base
 . rw[zqS hi c]at h;obtain⟨h1,h2⟩:=Store.mk.inj h;subst h1;have hex:ex=[]:=by simpa using h2
   subst hex;obtain⟨y,hy⟩:∃ y,sl[i]=y:=⟨_,rfl⟩;rw[hy]at c;obtain⟨xb,⟨xk,xn,xi,xh,xl⟩,xm,xg⟩:=x;obtain⟨yb,⟨yk,yn,yi,yh,yl⟩,ym,yg⟩:=y;obtain⟨rfl,rfl,rfl⟩:=c
   cases g with
   | none =>
     cases yb<;>cases yg <;>
     simp [hE,zP,hi,hd1,hd2,hy] <;>
     exact GivesL.keepX rfl rfl rfl (by simp[zo,zf])
   | some g =>
     cases yb<;>cases yg <;>
     simp [hE,zP,hi,hd1,hd2,hy] <;>
     exact GivesL.keepX rfl rfl rfl (by simp[zo,zf])
 . rw [zwJ hi c]at h;obtain⟨h1,h2⟩:=Store.mk.inj h;subst h1
   have hex:ex=[⟨(i:Int),sl[i],false⟩]:=by
    have:=h2;simpa using this.symm
   subst hex;have hset:∀ z:Slot,(sl.map zG).set i (zG z)=(sl.set i z).map zG:=fun z=>by rw[List.map_set]
   obtain⟨y,hy⟩:∃ y,sl[i]=y:=⟨_,rfl⟩;rw[hy]at c ⊢;obtain⟨xb,⟨xk,xn,xi,xh,xl⟩,xm,xg⟩:=x;obtain⟨yb,⟨yk,yn,yi,yh,yl⟩,ym,yg⟩:=y;have hset2:=hset ⟨xb,.mk xk xn xi xh xl,xm,xg⟩;simp only[zG,Ty.kind_mk,Ty.name_mk,Ty.id_mk,Ty.home_mk,Ty.args_mk]at hset2;have happ:∀ z:Change,tr.map zA++[zA z]=(tr++[z]).map zA:=fun z=>by simp
   by_cases hm:ym=xm
   . subst hm;have c':¬ (yb=xb/\yg=xg):=fun h=>c ⟨h.1,rfl,h.2⟩
     cases g with
     | none =>
       cases yb<;>cases xb<;>cases yg<;>cases xg<;>first|(exact absurd ⟨rfl,rfl⟩ c')|skip
       all_goals
        simp [hE,zP,hi,hd1,hd2,hy,k1,-List.map_set,hset2];exact GivesL.litX (fun k=>if k=3 then 50 else k) rfl rfl ⟨rfl,rfl⟩ (by simp[zo,zf,-List.map_set])
     | some g =>
       cases yb<;>cases xb<;>cases yg<;>cases xg<;>first|(exact absurd ⟨rfl,rfl⟩ c')|skip
       all_goals
        simp [hE,zP,hi,hd1,hd2,hy,k1,Nat.not_succ_le_self,-List.map_set,hset2];exact GivesL.keepX rfl rfl rfl (by simp[zo,zf,-List.map_set])
   . cases g with
     | none =>
       cases yb<;>cases xb
       all_goals
        simp [hE,zP,hi,hd1,hd2,hy,hm,k1,-List.map_set,hset2];exact GivesL.litX (fun k=>if k=3 then 50 else k) rfl rfl ⟨rfl,rfl⟩ (by simp[zo,zf,-List.map_set])
     | some g =>
       cases yb<;>cases xb
       all_goals
        simp [hE,zP,hi,hd1,hd2,hy,hm,k1,Nat.not_succ_le_self,-List.map_set,hset2];exact GivesL.keepX rfl rfl rfl (by simp[zo,zf,-List.map_set])
end
end
end Go.Proofs.YtfgmnebfhemnpaaGreat
/- The program's unification: giving a variable a type,joining two variables. -/
namespace Go.Proofs.YtfgmnebfhemnpaaGreat
open Go.J
open Go.J.Enc (enc)
set_option maxRecDepth 100000
set_option maxHeartbeats 1000000
theorem zjL{sl:List Slot}{tr:List Change}{i:Nat}{x:Slot}(hi:i<sl.length)(ht:tr.length<=5000)(hl:sl.length<=1000){sl':List Slot}{ex:List Change}(h:Store.setP ⟨sl,tr⟩ (i:Int) x=⟨sl',tr++ex⟩):zpg sl tr [.int .i64 (i:Int),enc x]=some (.tuple [],sl',ex):=by
 show ob (Enc.dec (enc x):Option Slot) _=_;rw[Enc.dec_enc];show (if 0<=(i:Int)/\(i:Int)<sl.length/\tr.length<=5000/\sl.length<=1000 then _ else none)=_;rw[if_pos ⟨by omega,by omega,ht,hl⟩,h];simp
def ziJ(sl:List Slot)(tr:List Change)(args:List V):Option (V×List Slot×List Change):=match args with
 | [.int .i64 n,tv]=>ob (Enc.dec tv:Option Ty) fun t=>if 0<=n/\n<sl.length/\tr.length<=5000/\sl.length<=1000 then some (.tuple [],(Store.giveP ⟨sl,tr⟩ n t).slots,(Store.giveP ⟨sl,tr⟩ n t).trail.drop tr.length)else none
 |_=>none
theorem zrQ{sl:List Slot}{tr:List Change}{args:List V}{q:V×List Slot×List Change}(h:ziJ sl tr args=some q):∃ (i:Nat) (t:Ty),args=[.int .i64 (i:Int),enc t]/\i<sl.length/\tr.length<=5000/\sl.length<=1000/\q=(.tuple [],(Store.giveP ⟨sl,tr⟩ (i:Int) t).slots,(Store.giveP ⟨sl,tr⟩ (i:Int) t).trail.drop tr.length):=by
 unfold ziJ at h;split at h
 . simp only[zu]at h;obtain⟨x,hx,h⟩:=h;split at h
   . rename_i hh;obtain⟨h0,h1,h2,h3⟩:=hh;obtain⟨i,rfl⟩:=Int.eq_ofNat_of_zero_le h0;cases h;exact⟨i,x,by rw[Enc.enc_dec _ _ hx],by omega,h2,h3,rfl⟩
   . cases h
 . cases h
theorem zf9{sl:List Slot}{tr:List Change}{i:Nat}{x:Ty}(hi:i<sl.length)(ht:tr.length<=5000)(hl:sl.length<=1000){sl':List Slot}{ex:List Change}(h:Store.giveP ⟨sl,tr⟩ (i:Int) x=⟨sl',tr++ex⟩):ziJ sl tr [.int .i64 (i:Int),enc x]=some (.tuple [],sl',ex):=by
 show ob (Enc.dec (enc x):Option Ty) _=_;rw[Enc.dec_enc];show (if 0<=(i:Int)/\(i:Int)<sl.length/\tr.length<=5000/\sl.length<=1000 then _ else none)=_;rw[if_pos ⟨by omega,by omega,ht,hl⟩,h];simp
section
variable {ρ:Nat->Value}(hρ:J.Good ρ)
include hρ
section
variable {E:Env}(hE:E.P=Tryz.prog)(hcon:ConsOk ρ E)
include hE hcon
theorem zkJ(hc:E.con 98=zaT (uwM zpg)){sl:List Slot}{tr:List Change}{g:Option Nat}{i:Nat}{t:Ty}(hi:i<sl.length)(ht:tr.length<=5000)(hl:sl.length<=1000){sl':List Slot}{ex:List Change}(h:Store.giveP ⟨sl,tr⟩ (i:Int) t=⟨sl',tr++ex⟩) :
 Wp ρ E (uK g 3) 24 zNz (((PT.leaf.set 0 (.ptr 0 0 0)).set 1 (.int .i64 (i:Int))).set 2 (enc t)) { H:=mkP (zP sl tr g),n:=uK g 3,log:=[] } (J.Leaves E.P Tryz.f99 (GivesL (uK g 3) (.tuple []) (zP sl' (tr++ex) (gN g ex.length)))):=by
 have hd1:i*8 / 8=i:=by omega
 have hd2:i*8 % 8=0:=by omega
 have hil:(i:Int)<sl.length:=by omega
 unfold Store.giveP at h;rw[Store.slotD_at (s:=⟨sl,tr⟩) hi]at h;have hF:=zjL hi ht hl h;obtain⟨y,hy⟩:∃ y,sl[i]=y:=⟨_,rfl⟩;have hy':(⟨sl,tr⟩:Store).slots[i]=y:=hy;rw[hy']at hF;obtain⟨yb,⟨yk,yn,yi,yh,yl⟩,ym,yg⟩:=y;obtain⟨tk,tn,ti,th,ta⟩:=t;simp at hF
 cases g with
 | none =>
   cases ex with
   | nil =>
     simp [hE,zP,hi,hd1,hd2,hy,hc,hF,vacant_eq];exact GivesL.keepX rfl rfl rfl (by simp[zo,zf])
   | cons c ex =>
     obtain⟨tr2,htr⟩:∃ tr2,tr++c::ex=tr2:=⟨_,rfl⟩;simp [htr,hE,zP,hi,hd1,hd2,hy,hc,hF,vacant_eq];exact GivesL.auto (by simp) (by simp[zo,zf]) (by simp) (by simp<;>(intro x hx;first|omega|exact⟨.inl hx,by omega⟩))
 | some g =>
   obtain⟨tr2,htr⟩:∃ tr2,tr++ex=tr2:=⟨_,rfl⟩;simp [htr,hE,zP,hi,hd1,hd2,hy,hc,hF,vacant_eq];exact GivesL.keepX rfl rfl rfl (by simp[zo,zf])
theorem zkH (hcs:E.con 98=zaT (uwM zpg)) (hcg:E.con 99=zaT (uwM ziJ)) {sl:List Slot} {tr:List Change} {g:Option Nat} {a b p q:Ty} {i j:Nat} (hp:p.id=i) (hq:q.id=j) (hip:i<sl.length) (hiq:j<sl.length)
 (hab:(a=p/\b=q/\i<=j)\/(a=q/\b=p/\i<j)) (ht:tr.length<=4999) (hl:sl.length<=1000) {sl1 sl2:List Slot} {ex1 ex2:List Change} (hx1:ex1.length<=1) (hl1:sl1.length=sl.length)
 (h1:Store.setP ⟨sl,tr⟩ (i:Int) (Store.joinLP ⟨sl,tr⟩ (i:Int) (j:Int))=⟨sl1,tr++ex1⟩) (h2:Store.giveP ⟨sl1,tr++ex1⟩ (j:Int) p=⟨sl2,tr++ex1++ex2⟩) :
 Wp ρ E (uK g 3) 60 zJW (((PT.leaf.set 0 (.ptr 0 0 0)).set 1 (enc a)).set 2 (enc b)) { H:=mkP (zP sl tr g),n:=uK g 3,log:=[] } (J.Leaves E.P Tryz.f74 (GivesL (uK g 3) (.tuple []) (zP sl2 (tr++(ex1++ex2)) (gN g (ex1++ex2).length)))):=by
 have hdp1:i*8 / 8=i:=by omega
 have hdp2:i*8 % 8=0:=by omega
 have hdq1:j*8 / 8=j:=by omega
 have hdq2:j*8 % 8=0:=by omega
 unfold Store.joinLP at h1;rw[Store.slotD_at (s:=⟨sl,tr⟩) hip,Store.slotD_at (s:=⟨sl,tr⟩) hiq]at h1;have hF1:=zjL hip (by omega) hl h1;have hF2:=zf9 (x:=p) (by rw[hl1];exact hiq) (by rw[List.length_append];omega) (by rw[hl1];exact hl) h2;obtain⟨y,hy⟩:∃ y,sl[i]=y:=⟨_,rfl⟩;have hy':(⟨sl,tr⟩:Store).slots[i]=y:=hy;obtain⟨z,hz⟩:∃ z,sl[j]=z:=⟨_,rfl⟩;have hz':(⟨sl,tr⟩:Store).slots[j]=z:=hz;rw[hy',hz']at hF1;obtain⟨yb,⟨yk,yn,yi,yh,yl⟩,ym,yg⟩:=y;obtain⟨zb,⟨zk,zn,zi,zh,zl⟩,zm,zg⟩:=z;obtain⟨pk,pn,pi,ph,pa⟩:=p;obtain⟨qk,qn,qi,qh,qa⟩:=q;simp only[Ty.id_mk]at hp hq;subst hp hq;have hmn:(if zm<ym then zm else ym)=min ym zm:=by split<;>omega
 clear hy' hz' h1 h2;simp at hF1;simp at hF2;generalize min ym zm=mm at hmn hF1;rcases hab with⟨rfl,rfl,hij⟩|⟨rfl,rfl,hij⟩
 . have hord:¬ (j:Int)<i:=by omega
   cases g with
   | none =>
     rcases ex1 with _|⟨c,ex1⟩
     . rcases ex2 with _|⟨d,ex2⟩
       . cases yg
         all_goals
          simp at hF1 hF2;simp [hE,zP,hord,hip,hiq,hdp1,hdp2,hdq1,hdq2,hy,hz,hmn,hcs,hcg,hF1,hF2,hl1,vacant_eq];exact GivesL.keepX rfl rfl rfl (by simp[zo,zf])
       . obtain⟨tr2,htr⟩:∃ tr2,tr++d::ex2=tr2:=⟨_,rfl⟩;cases yg
         all_goals
          simp at hF1 hF2;simp [htr,hE,zP,hord,hip,hiq,hdp1,hdp2,hdq1,hdq2,hy,hz,hmn,hcs,hcg,hF1,hF2,hl1,vacant_eq];exact GivesL.auto (by simp) (by simp[zo,zf]) (by simp) (by simp<;>(intro x hx;first|omega|exact⟨.inl hx,by omega⟩))
     . obtain⟨tr1,htr1⟩:∃ tr1,tr++c::ex1=tr1:=⟨_,rfl⟩;obtain⟨tr2,htr2⟩:∃ tr2,tr1++ex2=tr2:=⟨_,rfl⟩;have hfin:tr++c::(ex1++ex2)=tr2:=by rw[<- htr2,<- htr1];simp
       cases yg
       all_goals
        simp[htr1]at hF1 hF2;simp [htr1,htr2,hfin,hE,zP,hord,hip,hiq,hdp1,hdp2,hdq1,hdq2,hy,hz,hmn,hcs,hcg,hF1,hF2,hl1,vacant_eq];exact GivesL.auto (by simp) (by simp[zo,zf]) (by simp) (by simp<;>(intro x hx;first|omega|exact⟨.inl hx,by omega⟩))
   | some g =>
     obtain⟨tr1,htr1⟩:∃ tr1,tr++ex1=tr1:=⟨_,rfl⟩;obtain⟨tr2,htr2⟩:∃ tr2,tr1++ex2=tr2:=⟨_,rfl⟩;have hfin:tr++(ex1++ex2)=tr2:=by rw[<- htr2,<- htr1];simp
     cases yg
     all_goals
      simp[htr1]at hF1 hF2;simp [htr1,htr2,hfin,Nat.add_assoc,hE,zP,hord,hip,hiq,hdp1,hdp2,hdq1,hdq2,hy,hz,hmn,hcs,hcg,hF1,hF2,hl1,vacant_eq];exact GivesL.keepX rfl rfl rfl (by simp[zo,zf])
 . have hord:(i:Int)<j:=by omega
   cases g with
   | none =>
     rcases ex1 with _|⟨c,ex1⟩
     . rcases ex2 with _|⟨d,ex2⟩
       . cases yg
         all_goals
          simp at hF1 hF2;simp [hE,zP,hord,hip,hiq,hdp1,hdp2,hdq1,hdq2,hy,hz,hmn,hcs,hcg,hF1,hF2,hl1,vacant_eq];exact GivesL.keepX rfl rfl rfl (by simp[zo,zf])
       . obtain⟨tr2,htr⟩:∃ tr2,tr++d::ex2=tr2:=⟨_,rfl⟩;cases yg
         all_goals
          simp at hF1 hF2;simp [htr,hE,zP,hord,hip,hiq,hdp1,hdp2,hdq1,hdq2,hy,hz,hmn,hcs,hcg,hF1,hF2,hl1,vacant_eq];exact GivesL.auto (by simp) (by simp[zo,zf]) (by simp) (by simp<;>(intro x hx;first|omega|exact⟨.inl hx,by omega⟩))
     . obtain⟨tr1,htr1⟩:∃ tr1,tr++c::ex1=tr1:=⟨_,rfl⟩;obtain⟨tr2,htr2⟩:∃ tr2,tr1++ex2=tr2:=⟨_,rfl⟩;have hfin:tr++c::(ex1++ex2)=tr2:=by rw[<- htr2,<- htr1];simp
       cases yg
       all_goals
        simp[htr1]at hF1 hF2;simp [htr1,htr2,hfin,hE,zP,hord,hip,hiq,hdp1,hdp2,hdq1,hdq2,hy,hz,hmn,hcs,hcg,hF1,hF2,hl1,vacant_eq];exact GivesL.auto (by simp) (by simp[zo,zf]) (by simp) (by simp<;>(intro x hx;first|omega|exact⟨.inl hx,by omega⟩))
   | some g =>
     obtain⟨tr1,htr1⟩:∃ tr1,tr++ex1=tr1:=⟨_,rfl⟩;obtain⟨tr2,htr2⟩:∃ tr2,tr1++ex2=tr2:=⟨_,rfl⟩;have hfin:tr++(ex1++ex2)=tr2:=by rw[<- htr2,<- htr1];simp
     cases yg
     all_goals
      simp[htr1]at hF1 hF2;simp [htr1,htr2,hfin,Nat.add_assoc,hE,zP,hord,hip,hiq,hdp1,hdp2,hdq1,hdq2,hy,hz,hmn,hcs,hcg,hF1,hF2,hl1,vacant_eq];exact GivesL.keepX rfl rfl rfl (by simp[zo,zf])
end
end
end Go.Proofs.YtfgmnebfhemnpaaGreat
/- The program's unification: the contracts of set,give and join;the slot of a variable. -/
namespace Go.Proofs.YtfgmnebfhemnpaaGreat
open Go.J
open Go.J.Enc (enc)
set_option maxRecDepth 100000
set_option maxHeartbeats 1000000
def zl3(sl:List Slot)(tr:List Change)(args:List V):Option (V×List Slot×List Change):=match args with
 | [av,bv]=>ob (Enc.dec av:Option Ty) fun a=>ob (Enc.dec bv:Option Ty) fun b=>if 0<=a.id/\a.id<sl.length/\0<=b.id/\b.id<sl.length/\a.id≠b.id/\tr.length<=4999/\sl.length<=1000 then some (.tuple [],(Store.joinP ⟨sl,tr⟩ a b).slots,(Store.joinP ⟨sl,tr⟩ a b).trail.drop tr.length)else none
 |_=>none
theorem zrE{sl:List Slot}{tr:List Change}{args:List V}{q:V×List Slot×List Change}(h:zl3 sl tr args=some q):∃ (a b:Ty) (i j:Nat),args=[enc a,enc b]/\a.id=(i:Int)/\b.id=(j:Int)/\i<sl.length/\j<sl.length/\i≠j/\tr.length<=4999/\sl.length<=1000/\q=(.tuple [],(Store.joinP ⟨sl,tr⟩ a b).slots,(Store.joinP ⟨sl,tr⟩ a b).trail.drop tr.length):=by
 unfold zl3 at h;split at h
 . simp only[zu]at h;obtain⟨a,ha,b,hb,h⟩:=h;split at h
   . rename_i hh;obtain⟨h0,h1,h2,h3,h4,h5,h6⟩:=hh;obtain⟨i,hi⟩:=Int.eq_ofNat_of_zero_le h0;obtain⟨j,hj⟩:=Int.eq_ofNat_of_zero_le h2;cases h;exact⟨a,b,i,j,by rw[Enc.enc_dec _ _ ha,Enc.enc_dec _ _ hb],hi,hj,by omega,by omega,by omega,h5,h6,rfl⟩
   . cases h
 . cases h
theorem zog{sl:List Slot}{tr:List Change}{a b:Ty}{i j:Nat}(hi:a.id=(i:Int))(hj:b.id=(j:Int))(hi1:i<sl.length)(hj1:j<sl.length)(hij:i≠j)(ht:tr.length<=4999)(hl:sl.length<=1000){sl':List Slot}{ex:List Change}(h:Store.joinP ⟨sl,tr⟩ a b=⟨sl',tr++ex⟩):zl3 sl tr [enc a,enc b]=some (.tuple [],sl',ex):=by
 show ob (Enc.dec (enc a):Option Ty) (fun a=>ob (Enc.dec (enc b):Option Ty) _)=_;rw[Enc.dec_enc,Enc.dec_enc];show (if _ then _ else none)=_;rw[if_pos ⟨by omega,by omega,by omega,by omega,by omega,ht,hl⟩,h];simp
def zdh:Slot:=⟨false,.mk 0 [] 0 0 [],0,false⟩
def zgA(sl:List Slot)(tr:List Change)(args:List V):Option (V×List Slot×List Change):=match args with
 | [tv]=>ob (Enc.dec tv:Option Ty) fun t=>some (if Store.freeS ⟨sl,tr⟩ t=true then .tuple [enc (Store.slotD ⟨sl,tr⟩ t.id),.bool true]else .tuple [enc zdh,.bool false],sl,[])
 |_=>none
theorem zqI{sl:List Slot}{tr:List Change}{args:List V}{q:V×List Slot×List Change}(h:zgA sl tr args=some q):∃ t:Ty,args=[enc t]/\q=(if Store.freeS ⟨sl,tr⟩ t=true then .tuple [enc (Store.slotD ⟨sl,tr⟩ t.id),.bool true]else .tuple [enc zdh,.bool false],sl,[]):=by
 unfold zgA at h;split at h
 . simp only[zu]at h;obtain⟨t,ht,h⟩:=h;cases h;exact⟨t,by rw[Enc.enc_dec _ _ ht],rfl⟩
 . cases h
theorem zev(sl:List Slot)(tr:List Change)(t:Ty):zgA sl tr [enc t]=some (if Store.freeS ⟨sl,tr⟩ t=true then .tuple [enc (Store.slotD ⟨sl,tr⟩ t.id),.bool true]else .tuple [enc zdh,.bool false],sl,[]):=by
 show ob (Enc.dec (enc t):Option Ty) _=_;rw[Enc.dec_enc];rfl
section
variable {ρ:Nat->Value}(hρ:J.Good ρ)
include hρ
section
variable {E:Env}(hE:E.P=Tryz.prog)(hcon:ConsOk ρ E)
include hE hcon
theorem zkG {sl:List Slot} {tr:List Change} {g:Option Nat} {t:Ty} :
 Wp ρ E (uK g 3) 53 zN2 ((PT.leaf.set 0 (.ptr 0 0 0)).set 1 (enc t)) { H:=mkP (zP sl tr g),n:=uK g 3,log:=[] } (J.Leaves E.P Tryz.f73 (GivesL (uK g 3) (if Store.freeS ⟨sl,tr⟩ t=true then .tuple [enc (Store.slotD ⟨sl,tr⟩ t.id),.bool true]else .tuple [enc zdh,.bool false]) (zP sl tr g))):=by
 by_cases hk:t.kind=1
 . cases h : Store.slot? ⟨sl,tr⟩ t.id with
   | none =>
     have hf:Store.freeS ⟨sl,tr⟩ t=false:=by unfold Store.freeS Store.isSlot;rw[h];simp
     rw[hf];have:=Store.slot?_none h;by_cases h0:t.id<0
     . cases g<;>simp [hE,zP,hk,h0]<;>exact GivesL.keep rfl rfl (by simp[zdh]) (by simp) (by simp[zo,zf])
     . have h1:¬ t.id<(sl.length:Int):=by
        rcases this with h|h
        . exact absurd h h0
        . have:((⟨sl,tr⟩:Store).slots.length:Int)<=t.id:=by omega
          simpa using this
       have h2:(sl.length:Int)<=t.id:=by omega
       cases g<;>simp [hE,zP,hk,h0,h1,h2]<;>exact GivesL.keep rfl rfl (by simp[zdh]) (by simp) (by simp[zo,zf])
   | some x =>
     obtain⟨i,hl,hi,hx⟩:=Store.slot?_at h;have hd:Store.slotD ⟨sl,tr⟩ t.id=x:=by rw[hi,Store.slotD_at (s:=⟨sl,tr⟩) hl,hx]
     have hil:i<sl.length:=hl;have hix:sl[i]=x:=hx;have hil':(i:Int)<sl.length:=by omega
     have hd1:i*8 / 8=i:=by omega
     have hd2:i*8 % 8=0:=by omega
     have h00:¬ (i:Int)<0:=by omega
     have h01:¬ sl.length<=i:=by omega
     have hf:Store.freeS ⟨sl,tr⟩ t=!x.bound:=by unfold Store.freeS Store.isSlot;rw[h,hd,decide_eq_true hk];rfl
     rw[hf,hd];obtain⟨xb,⟨xk,xn,xi,xh,xl⟩,xm,xg⟩:=x
     cases xb with
     |true=>cases g<;>simp [hE,zP,hk,hi,h00,h01,hil,hil',hix,hd1,hd2]<;>exact GivesL.keep rfl rfl (by simp[zdh]) (by simp) (by simp[zo,zf])
     |false=>cases g<;>simp [hE,zP,hk,hi,h00,h01,hil,hil',hix,hd1,hd2]<;>exact GivesL.keep rfl rfl (by simp) (by simp) (by simp[zo,zf])
 . have hf:Store.freeS ⟨sl,tr⟩ t=false:=by unfold Store.freeS Store.isSlot;simp[hk]
   rw[hf];cases g<;>simp [hE,zP,hk]<;>exact GivesL.keep rfl rfl (by simp[zdh]) (by simp) (by simp[zo,zf])
end
theorem z8d:Valid ρ Tryz.prog 98 (zaT (uwM zpg)):=by
 refine Valid.emb (fo Tryz.func98 zRA) fun vs hs D h=>?_
 obtain⟨args,sl,tr,g,r,sl',ex,a,b,c,d,hF,rfl,_,hr,hg,hfit⟩:=zfT h;obtain⟨i,x,rfl,h1,h2,h3,hq⟩:=zwI hF;cases hq;exact em hρ (E:=EL []) rfl (zt valid_nil) Tryz.func98 zRA rfl hg (zm9 hρ (E:=EL []) rfl (zt valid_nil) h1 h2 h3 (Store.grow_setP ⟨sl,tr⟩ i x).eq) hfit
theorem zyN:Valid ρ Tryz.prog 99 (zaT (uwM ziJ)):=by
 refine Valid.emb (fo Tryz.func99 zR9) fun vs hs D h=>?_
 obtain⟨args,sl,tr,g,r,sl',ex,a,b,c,d,hF,rfl,_,hr,hg,hfit⟩:=zfT h;obtain⟨i,x,rfl,h1,h2,h3,hq⟩:=zrQ hF;cases hq;have hcn:ConsOk ρ (EL [(98,zaT (uwM zpg))]):=zt (zq (z8d hρ) valid_nil);exact em hρ rfl hcn Tryz.func99 zR9 rfl hg (zkJ hρ rfl hcn rfl h1 h2 h3 (Store.grow_give ⟨sl,tr⟩ i x).eq) hfit
theorem zDB:Valid ρ Tryz.prog 74 (zaT (uwM zl3)):=by
 refine Valid.emb (fo Tryz.func74 zRJ) fun vs hs D h=>?_
 obtain⟨args,sl,tr,g,r,sl',ex,a,b,c,d,hF,rfl,_,hr,hg,hfit⟩:=zfT h;obtain⟨x,y,i,j,rfl,h1,h2,h3,h4,h5,h6,h7,hq⟩:=zrE hF;cases hq;have hcn:ConsOk ρ (EL [(98,zaT (uwM zpg)),(99,zaT (uwM ziJ))]):=zt (zq (z8d hρ) (zq (zyN hρ) valid_nil));refine em hρ rfl hcn Tryz.func74 zRJ rfl hg ?_ hfit
 have key:∀ (p q:Ty) (i j:Nat),p.id=i->q.id=j->i<sl.length->j<sl.length->((x=p/\y=q/\i<=j)\/(x=q/\y=p/\i<j))->Store.joinP ⟨sl,tr⟩ x y=(Store.setP ⟨sl,tr⟩ i (Store.joinLP ⟨sl,tr⟩ i j)).giveP j p ->
  Wp ρ (EL [(98,zaT (uwM zpg)),(99,zaT (uwM ziJ))]) (uK g 3) 60 zJW (((PT.leaf.set 0 (.ptr 0 0 0)).set 1 (enc x)).set 2 (enc y)) { H:=mkP (zP sl tr g),n:=uK g 3,log:=[] } (J.Leaves Tryz.prog Tryz.f74 (GivesL (uK g 3) (.tuple []) (zP (Store.joinP ⟨sl,tr⟩ x y).slots (tr++(Store.joinP ⟨sl,tr⟩ x y).trail.drop tr.length) (gN g ((Store.joinP ⟨sl,tr⟩ x y).trail.drop tr.length).length)))):=by
  intro p q i j hp hq hi hj hab e;have g1:=Store.grow_setP ⟨sl,tr⟩ i (Store.joinLP ⟨sl,tr⟩ i j);have e1:=g1.eq;have g2:=Store.grow_give (Store.setP ⟨sl,tr⟩ i (Store.joinLP ⟨sl,tr⟩ i j)) j p;have e2:=g2.eq;obtain⟨ex1,t1,t2⟩:=g1.trail;obtain⟨ex2,t3,t4⟩:=g2.trail
  have e3:(Store.joinP ⟨sl,tr⟩ x y).trail.drop tr.length=ex1++ex2:=by
   rw[e,t3,t1];show ((tr++ex1)++ex2).drop tr.length=_;rw[List.append_assoc,List.drop_left]
  rw[e3];have s1:Store.setP ⟨sl,tr⟩ i (Store.joinLP ⟨sl,tr⟩ i j)=⟨(Store.setP ⟨sl,tr⟩ i (Store.joinLP ⟨sl,tr⟩ i j)).slots,tr++ex1⟩:=by rw[<- t1]
  refine zkH hρ rfl hcn rfl rfl hp hq hi hj hab h6 h7 t2 g1.len s1 ?_;rw[<- s1,e];rw[t1]at t3;rw[<- t3]
 by_cases hc:j<i
 . exact key y x j i h2 h1 h4 h3 (.inr ⟨rfl,rfl,hc⟩) (by unfold Store.joinP;rw[if_pos (by rw[h1,h2];omega),h1,h2])
 . exact key x y i j h1 h2 h3 h4 (.inl ⟨rfl,rfl,by omega⟩) (by unfold Store.joinP;rw[if_neg (by rw[h1,h2];omega),h1,h2])
theorem zyM:Valid ρ Tryz.prog 73 (rdT (uwM zgA)):=Valid.rdT (fo Tryz.func73 zRK) fun vs hs D h hp=>by
 obtain⟨args,sl,tr,g,r,sl',ex,a,b,c,d,hF,rfl,_,hr,hg,hfit⟩:=zfT h;obtain⟨t,rfl,hq⟩:=zqI hF;cases hq;exact z9c hρ (zt valid_nil) follows named Tryz.func73 zRK rfl hg (by show zP sl (tr++[]) (gN g 0)=zP sl tr g;rw[List.append_nil];rfl) hp (zkG hρ (E:=EL []) rfl (zt valid_nil)) hfit
end
end Go.Proofs.YtfgmnebfhemnpaaGreat
