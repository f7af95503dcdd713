import Derived.Test.YtfloillkpbhhhaaGreatNK3
import Derived.Test.YtfloillkpbhhhaaGreatJK11
import Derived.Test.YtfloillkpbhhhaaGreatJK10
set_option linter.all false
noncomputable section
namespace Go.Proofs.YtfloillkpbhhhaaGreat
open Go.J
open Go.J.bo (enc)
set_option maxRecDepth 100000
set_option maxHeartbeats 4000000
variable {b:Bool}{r:Bool×Z Int}{Q:Ex->PT V->HS->Prop}{f:FuncId}{a t v:G}{C:HS}{e h z:Int}{A B:J.Spec}{g:MG}{d i j k:Nat}{I:Nat->Value}{T:PT V}{P:Program}{sc:SC}{x:Slot}{q:V×Z Slot×Z Change}{c:Y Nat}{BM Rx tr uc:Z Change}{l:Z G}{DU sn vs:Z Int}{F4 sl cS:Z Slot}{m:Z V}{D:nU}
def yq(A B:J.Spec):J.Spec:=λvs C=>match vs with
 |.agg (.aE::m)::l=>A (.agg (.aE::m)::l) C
 |.agg (.own i g o n c::m)::l=>B (.agg (.own i g o n c::m)::l) C
 |_=>none
@[simp] def zGx  {l:Z V} :yq A B (.agg (.aE::m)::l) C=A (.agg (.aE::m)::l) C:=(rfl)
@[simp] def zGw  {g o n:Nat}  {l:Z V} :yq A B (.agg (.own i g o n c::m)::l) C=B (.agg (.own i g o n c::m)::l) C:=(rfl)
def Valid.yq{f:Nat}(hA:Valid I P f A)(hB:Valid I P f B):Valid I P f (yq A B) where
 fn:=hA.fn
 ok:=by
  intro vs C v a8 hq;unfold Go.Proofs.YtfloillkpbhhhaaGreat.yq at hq;split at hq
  . exact hA.ok hq
  . exact hB.ok hq
  . cases hq
 kept:=by
  intro vs C q hq;unfold Go.Proofs.YtfloillkpbhhhaaGreat.yq at hq;split at hq
  . exact hA.kept hq
  . exact hB.kept hq
  . cases hq
section
variable (hρ:J.Good I)
include hρ
def sy{fn:Func}(hf:Pg.funcs[f]?=some fn)(hb:fn.body.bind aU=some sc)(he:jE fn.ntmps D.dq 0 .leaf=some T)(hg:D.Good)
 (h:∀ ρ',J.Good ρ'->∃ E,E.P=Pg/\bH ρ' E/\Wp ρ' E D.k fn.ntmps sc T { H:=dW D.OL,n:=D.k,log:=[] } (J.Leaves Pg fn (aH D.k D.v0 D.cI))) {vs:Z V}  (b4:D.Fits vs C) :
 aT I Pg f vs C (D.vl C) (D.hp C):=Yu hρ follows named hf hb he hg h b4
section
variable {E:Env}(U:E.P=Pg)(aq:bH I E)
include U aq
def VW(hc:E.dE 253=KU (dC λ(s:ao) (t:G)=>some (s.bound t)))(h:sl.length<=1000000){r:G}(hr:ao.kM ⟨sl,tr⟩ sl.length t=r) :
 Wp I E 2 23 u7.1 ((PT.leaf.set 0 (.agg [.own 0 g.a 0 sl.length none,.own 1 g.b 0 tr.length none])).set 1 (enc t)) { H:=dW (YZ sl tr g),n:=2,log:=[] } (J.Leaves E.P Tryz.f199 (aH 2 (enc r) (YZ sl tr g))):=by
 obtain⟨ga,gb,gn,cV⟩:=g;simp[U,YZ]
 refine vC hρ U aq sl.length (nn:=5) (λi (t:G)=>[(2,.ptr 2 0 0),(3,.ptr 3 0 0),(4,.ptr 4 0 0),(7,.int .i64 (sl.length:Int)),(8,.int .i64 (i:Int))])
  (λi t=>[(0,.arr 8 ga (sl.map dG) false false true),(1,.arr 10 gb (tr.map bW) false false true),(2,.arr 2 0 [[.own 0 ga 0 sl.length none,.own 1 gb 0 tr.length none]] true false false),(3,box (au t)),(4,.arr 5 0 [[.int .i64 0,.str [],.int .i64 0,.int .i64 0,.aE]] true false false)])
  (λi t=>ao.kM ⟨sl,tr⟩ (sl.length-i) t=r) t (aw.auto) (by simpa using hr) ?_ ?_
 . intro t M K;rw[lh]at M;cases M;simp[ni,U,ao.kM];refine bO.mk (aw.auto (TL:=[(3,.ptr 3 0 0),(4,.ptr 4 0 0)]) (HL:=[(0,.arr 8 ga (sl.map dG) false false true),(1,.arr 10 gb (tr.map bW) false false true),(2,.arr 2 0 [[.own 0 ga 0 sl.length none,.own 1 gb 0 tr.length none]] true false false),(3,box (au t)),(4,.arr 5 0 [[.int .i64 0,.str [],.int .i64 0,.int .i64 0,.aE]] true false false)]) (n:=5)) ?_;simp[U];exact aH.fu rfl rfl rfl (by simp)
 . intro i t cA M K hK;have Ch:(i:Int)<sl.length:=by omega
   have hw:=bI (i:=i);rw[show sl.length-i=(sl.length-(i+1))+1 by omega,ao.kM]at M;by_cases hb:ao.bound ⟨sl,tr⟩ t=true
   . rw[if_pos hb]at M;obtain⟨hk,x,hx,z7⟩:=ao.Dy hb;obtain⟨j,kx,hj,hxj⟩:=ao.ft hx;have pH:ao.to ⟨sl,tr⟩ t=x.type:=by unfold ao.to;rw[hx]
     rw[pH]at M;have bc:=hK _ M;have d1:j*8 / 8=j:=by omega
     have d3:(j*8+1) / 8=j:=by omega
     have d4:(j*8+1) % 8=1:=by omega
     obtain⟨k,n,id,hm,l⟩:=t;simp only[G.o5]at hj;subst hj;have zJ1:j<sl.length:=kx;have zJE:sl[j]=x:=hxj;obtain⟨xb,⟨xk,xn,xi,xh,xl⟩,xm,xg⟩:=x;simp[ni,U,Ch,hc,hb,hw,zJ1,zJE,d3,d4,-Int.natCast_add];exact bc _ _ (aw.auto)
   . rw[if_neg hb]at M;subst M;simp[ni,U,Ch,hc,hb];refine bO.mk (aw.auto (TL:=[(3,.ptr 3 0 0),(4,.ptr 4 0 0)]) (HL:=[(0,.arr 8 ga (sl.map dG) false false true),(1,.arr 10 gb (tr.map bW) false false true),(2,.arr 2 0 [[.own 0 ga 0 sl.length none,.own 1 gb 0 tr.length none]] true false false),(3,box (au t)),(4,.arr 5 0 [[.int .i64 0,.str [],.int .i64 0,.int .i64 0,.aE]] true false false)]) (n:=5)) ?_;simp[U];exact aH.fu rfl rfl rfl (by simp)
end
def zgg:Valid I Pg 199 (wA (E2 Ie)):=Valid.wA (fo Tryz.func199 u7.2) λvs C D h hp=>by
 obtain⟨args,sl,tr,g,r,c,d,hF,rfl,_,hr,hg,b4⟩:=zr4 h;obtain⟨t,rfl,M,rfl⟩:=zh4 hF;have UG:(EL [(253,KU (dC λ(s:ao) (t:G)=>some (s.bound t)))]).P=Pg:=rfl;have cQ:bH I (EL [(253,KU (dC λ(s:ao) (t:G)=>some (s.bound t)))]):=ag (ae (zlG hρ) aG);exact zrD hρ cQ follows named Tryz.func199 u7.2 rfl hg rfl hr (VW hρ UG cQ rfl M rfl) b4
end
def OJ(sl:Z Slot)(tr:Z Change)(args:Z V):Y (V×Z Slot×Z Change):=match args with
 | [.int .i64 n,xv]=>W (bo.dec xv:Y Slot) λx=>if 0<=n/\n<sl.length/\tr.length<=5000/\sl.length<=1000 then some (.tuple [],(ao.tH ⟨sl,tr⟩ n x).a9,(ao.tH ⟨sl,tr⟩ n x).b7.drop tr.length)else none
 |_=>none
def zmL{args:Z V}(h:OJ sl tr args=some q):∃ (i:Nat) (x:Slot),args=[.int .i64 (i:Int),enc x]/\i<sl.length/\tr.length<=5000/\sl.length<=1000/\q=(.tuple [],(ao.tH ⟨sl,tr⟩ (i:Int) x).a9,(ao.tH ⟨sl,tr⟩ (i:Int) x).b7.drop tr.length):=by
 unfold OJ at h;split at h
 . simp only[aA]at h;obtain⟨x,hx,h⟩:=h;split at h
   . rename_i hh;obtain⟨h0,M,O,h3⟩:=hh;obtain⟨i,rfl⟩:=bK h0;cases h;exact⟨i,x,by rw[bo.bq _ _ hx],by omega,O,h3,rfl⟩
   . cases h
 . cases h
def ziJ(hi:i<sl.length)(h:sl[i].bound=x.bound/\sl[i].home=x.home/\sl[i].base=x.base):ao.tH ⟨sl,tr⟩ (i:Int) x=⟨sl,tr⟩:=by
 unfold ao.tH;rw[if_pos (by rw[ao.oP (s:=⟨sl,tr⟩) hi];exact h)]
def zmM(hi:i<sl.length)(h:¬ (sl[i].bound=x.bound/\sl[i].home=x.home/\sl[i].base=x.base)):ao.tH ⟨sl,tr⟩ (i:Int) x=⟨sl.set i x,tr++[⟨(i:Int),sl[i],false⟩]⟩:=by
 unfold ao.tH;rw[if_neg (by rw[ao.oP (s:=⟨sl,tr⟩) hi];exact h),ao.xR hi]
section
variable (hρ:J.Good I)
include hρ
section
variable {E:Env}(U:E.P=Pg)(aq:bH I E)
include U aq
theorem zay      (hi:i<sl.length) (ht:tr.length<=5000) (hl:sl.length<=1000)  {ex:Z Change} (h:ao.tH ⟨sl,tr⟩ (i:Int) x=⟨cS,tr++ex⟩) :
 Wp I E (4) 64 Ac.1 (((PT.leaf.set 0 (.ptr 0 0 0)).set 1 (.int .i64 (i:Int))).set 2 (enc x)) { H:=dW (fB sl tr g),n:=4,log:=[] } (J.Leaves E.P Tryz.f279 (aH (4) (.tuple []) (fB cS (tr++ex) (g.add ex.length)))):=by
 have pS:i*8 / 8=i:=by omega
 have lj:i*8 % 8=0:=by omega
 have k1:(tr.length+1)*104<=1048576:=by omega
 by_cases c:sl[i].bound=x.bound/\sl[i].home=x.home/\sl[i].base=x.base
 . rw[ziJ hi c]at h;obtain⟨M,O⟩:=ao.mk.inj h;subst M;have hex:ex=[]:=by simpa using O
   subst hex;obtain⟨y,hy⟩:∃ y,sl[i]=y:=⟨_,rfl⟩;rw[hy]at c;obtain⟨xb,⟨xk,xn,xi,xh,xl⟩,xm,xg⟩:=x;obtain⟨yb,⟨yk,yn,yi,yh,yl⟩,ym,yg⟩:=y;obtain⟨rfl,rfl,rfl⟩:=c;obtain⟨ga,gb,gn,cV⟩:=g
   cases yb<;>cases yg <;>
   simp[cV,U,fB,hi,pS,lj,hy] <;>
   exact aH.fu rfl rfl rfl (by simp<;>exact jr)
 . rw [zmM hi c]at h;obtain⟨M,O⟩:=ao.mk.inj h;subst M
   have hex:ex=[⟨(i:Int),sl[i],false⟩]:=by
    have:=O;simpa using this.symm
   subst hex;have hset:∀ z:Slot,(sl.map dG).set i (dG z)=(sl.set i z).map dG:=λz=>by rw[wK]
   obtain⟨y,hy⟩:∃ y,sl[i]=y:=⟨_,rfl⟩;rw[hy]at c ⊢;obtain⟨xb,⟨xk,xn,xi,xh,xl⟩,xm,xg⟩:=x;obtain⟨yb,⟨yk,yn,yi,yh,yl⟩,ym,yg⟩:=y;have zn2:=hset ⟨xb,.mk xk xn xi xh xl,xm,xg⟩;simp only[dG,G.fw,G.jC,G.o5,G.sJ,G.fC]at zn2;by_cases hm:ym=xm
   . subst hm;have c':¬ (yb=xb/\yg=xg):=λh=>c ⟨h.1,rfl,h.2⟩
     obtain⟨ga,gb,gn,cV⟩:=g;cases yb<;>cases xb<;>cases yg<;>cases xg<;>first|(exact absurd ⟨rfl,rfl⟩ c')|skip
     all_goals
      simp[cV,U,fB,hi,pS,lj,hy,k1,aY,-List.map_set,zn2];exact aH.fu rfl rfl rfl (by simp[-List.map_set]<;>exact jr)
   . obtain⟨ga,gb,gn,cV⟩:=g;cases yb<;>cases xb
     all_goals
      simp[cV,U,fB,hi,pS,lj,hy,hm,k1,aY,-List.map_set,zn2];exact aH.fu rfl rfl rfl (by simp[-List.map_set]<;>exact jr)
end
end
def YC(hi:i<sl.length)(ht:tr.length<=5000)(hl:sl.length<=1000){ex:Z Change}(h:ao.tH ⟨sl,tr⟩ (i:Int) x=⟨cS,tr++ex⟩):OJ sl tr [.int .i64 (i:Int),enc x]=some (.tuple [],cS,ex):=by
 show W (bo.dec (enc x):Y Slot) _=_;rw[bo.bZ];show (if 0<=(i:Int)/\(i:Int)<sl.length/\tr.length<=5000/\sl.length<=1000 then _ else none)=_;rw[if_pos ⟨by omega,by omega,ht,hl⟩,h];simp
def KS(sl:Z Slot)(tr:Z Change)(args:Z V):Y (V×Z Slot×Z Change):=match args with
 | [.int .i64 n,tv]=>W (bo.dec tv:Y G) λt=>if 0<=n/\n<sl.length/\tr.length<=5000/\sl.length<=1000 then some (.tuple [],(ao.qN ⟨sl,tr⟩ n t).a9,(ao.qN ⟨sl,tr⟩ n t).b7.drop tr.length)else none
 |_=>none
def zj3{args:Z V}(h:KS sl tr args=some q):∃ (i:Nat) (t:G),args=[.int .i64 (i:Int),enc t]/\i<sl.length/\tr.length<=5000/\sl.length<=1000/\q=(.tuple [],(ao.qN ⟨sl,tr⟩ (i:Int) t).a9,(ao.qN ⟨sl,tr⟩ (i:Int) t).b7.drop tr.length):=by
 unfold KS at h;split at h
 . simp only[aA]at h;obtain⟨x,hx,h⟩:=h;split at h
   . rename_i hh;obtain⟨h0,M,O,h3⟩:=hh;obtain⟨i,rfl⟩:=bK h0;cases h;exact⟨i,x,by rw[bo.bq _ _ hx],by omega,O,h3,rfl⟩
   . cases h
 . cases h
def UH{x:G}(hi:i<sl.length)(ht:tr.length<=5000)(hl:sl.length<=1000){ex:Z Change}(h:ao.qN ⟨sl,tr⟩ (i:Int) x=⟨cS,tr++ex⟩):KS sl tr [.int .i64 (i:Int),enc x]=some (.tuple [],cS,ex):=by
 show W (bo.dec (enc x):Y G) _=_;rw[bo.bZ];show (if 0<=(i:Int)/\(i:Int)<sl.length/\tr.length<=5000/\sl.length<=1000 then _ else none)=_;rw[if_pos ⟨by omega,by omega,ht,hl⟩,h];simp
section
variable (hρ:J.Good I)
include hρ
section
variable {E:Env}(U:E.P=Pg)(aq:bH I E)
include U aq
theorem Yk(hc:E.dE 279=eY (Gi OJ))(hi:i<sl.length)(ht:tr.length<=5000)(hl:sl.length<=1000){ex:Z Change}(h:ao.qN ⟨sl,tr⟩ (i:Int) t=⟨cS,tr++ex⟩) :
 Wp I E (4) 24 yQ.1 (((PT.leaf.set 0 (.ptr 0 0 0)).set 1 (.int .i64 (i:Int))).set 2 (enc t)) { H:=dW (fB sl tr g),n:=4,log:=[] } (J.Leaves E.P Tryz.f280 (aH (4) (.tuple []) (fB cS (tr++ex) (g.add ex.length)))):=by
 have pS:i*8 / 8=i:=by omega
 have lj:i*8 % 8=0:=by omega
 unfold ao.qN at h;rw[ao.oP (s:=⟨sl,tr⟩) hi]at h;have hF:=YC hi ht hl h;obtain⟨y,hy⟩:∃ y,sl[i]=y:=⟨_,rfl⟩;have HG:(⟨sl,tr⟩:ao).a9[i]=y:=hy;rw[HG]at hF;obtain⟨yb,⟨yk,yn,yi,yh,yl⟩,ym,yg⟩:=y;cases t;simp at hF;obtain⟨ga,gb,gn,cV⟩:=g;obtain⟨cw,KB⟩:∃ cw,tr++ex=cw:=⟨_,rfl⟩;simp[cV,KB,U,fB,hi,pS,lj,hy,hc,hF,aJ];exact aH.fu rfl rfl rfl (by simp<;>exact jr)
theorem Yi(lx:E.dE 279=eY (Gi OJ))(hcg:E.dE 280=eY (Gi KS)){b p q:G}(hp:p.id=i)(hq:q.id=j)(zHa:i<sl.length)(zG9:j<sl.length)
 (LN:(a=p/\b=q/\i<=j)\/(a=q/\b=p/\i<j)) (ht:tr.length<=4999) (hl:sl.length<=1000) {cY cR:Z Slot}  (z9:Rx.length<=1) (n9:cY.length=sl.length)
 (M:ao.tH ⟨sl,tr⟩ (i:Int) (ao.pJ ⟨sl,tr⟩ (i:Int) (j:Int))=⟨cY,tr++Rx⟩) (O:ao.qN ⟨cY,tr++Rx⟩ (j:Int) p=⟨cR,tr++Rx++BM⟩) :
 Wp I E (4) 60 sQ.1 (((PT.leaf.set 0 (.ptr 0 0 0)).set 1 (enc a)).set 2 (enc b)) { H:=dW (fB sl tr g),n:=4,log:=[] } (J.Leaves E.P Tryz.f274 (aH (4) (.tuple []) (fB cR (tr++(Rx++BM)) (g.add (Rx++BM).length)))):=by
 have zEm:i*8 / 8=i:=by omega
 have zEl:i*8 % 8=0:=by omega
 have zEk:j*8 / 8=j:=by omega
 have zEj:j*8 % 8=0:=by omega
 unfold ao.pJ at M;rw[ao.oP (s:=⟨sl,tr⟩) zHa,ao.oP (s:=⟨sl,tr⟩) zG9]at M;have m7:=YC zHa (by omega) hl M;have n8:=UH (x:=p) (by rw[n9];exact zG9) (by rw[bB];omega) (by rw[n9];exact hl) O;obtain⟨y,hy⟩:∃ y,sl[i]=y:=⟨_,rfl⟩;have HG:(⟨sl,tr⟩:ao).a9[i]=y:=hy;obtain⟨z,hz⟩:∃ z,sl[j]=z:=⟨_,rfl⟩;have HE:(⟨sl,tr⟩:ao).a9[j]=z:=hz;rw[HG,HE]at m7;obtain⟨yb,⟨yk,yn,yi,yh,yl⟩,ym,yg⟩:=y;obtain⟨zb,⟨zk,zn,zi,zh,zl⟩,zm,zg⟩:=z;cases p;cases q;simp only[G.o5]at hp hq;subst hp hq;have Hj:(if zm<ym then zm else ym)=min ym zm:=by split<;>omega
 clear HG HE M O;simp at m7;simp at n8;generalize min ym zm=mm at Hj m7;rcases LN with⟨rfl,rfl,qu⟩|⟨rfl,rfl,qu⟩
 . have zxm:¬ (j:Int)<i:=by omega
   obtain⟨ga,gb,gn,cV⟩:=g;obtain⟨mR,S5⟩:∃ mR,tr++Rx=mR:=⟨_,rfl⟩;obtain⟨cw,w9⟩:∃ cw,mR++BM=cw:=⟨_,rfl⟩;have cH:tr++(Rx++BM)=cw:=by rw[<- w9,<- S5];simp
   cases yg
   all_goals
    simp[S5]at m7 n8;simp[cV,S5,w9,cH,eD,U,fB,zxm,zHa,zG9,zEm,zEl,zEk,zEj,hy,hz,Hj,lx,hcg,m7,n8,n9,aJ];exact aH.fu rfl rfl rfl (by simp<;>exact jr)
 . have zxm:(i:Int)<j:=by omega
   obtain⟨ga,gb,gn,cV⟩:=g;obtain⟨mR,S5⟩:∃ mR,tr++Rx=mR:=⟨_,rfl⟩;obtain⟨cw,w9⟩:∃ cw,mR++BM=cw:=⟨_,rfl⟩;have cH:tr++(Rx++BM)=cw:=by rw[<- w9,<- S5];simp
   cases yg
   all_goals
    simp[S5]at m7 n8;simp[cV,S5,w9,cH,eD,U,fB,zxm,zHa,zG9,zEm,zEl,zEk,zEj,hy,hz,Hj,lx,hcg,m7,n8,n9,aJ];exact aH.fu rfl rfl rfl (by simp<;>exact jr)
end
end
def Ut(sl:Z Slot)(tr:Z Change)(args:Z V):Y (V×Z Slot×Z Change):=match args with
 | [av,bv]=>W (bo.dec av:Y G) λa=>W (bo.dec bv:Y G) λb=>if 0<=a.id/\a.id<sl.length/\0<=b.id/\b.id<sl.length/\a.id≠b.id/\tr.length<=4999/\sl.length<=1000 then some (.tuple [],(ao.vD ⟨sl,tr⟩ a b).a9,(ao.vD ⟨sl,tr⟩ a b).b7.drop tr.length)else none
 |_=>none
def zjE{args:Z V}(h:Ut sl tr args=some q):∃ (a b:G) (i j:Nat),args=[enc a,enc b]/\a.id=(i:Int)/\b.id=(j:Int)/\i<sl.length/\j<sl.length/\i≠j/\tr.length<=4999/\sl.length<=1000/\q=(.tuple [],(ao.vD ⟨sl,tr⟩ a b).a9,(ao.vD ⟨sl,tr⟩ a b).b7.drop tr.length):=by
 unfold Ut at h;split at h
 . simp only[aA]at h;obtain⟨a,ha,b,hb,h⟩:=h;split at h
   . rename_i hh;obtain⟨h0,M,O,h3,h4,h5,h6⟩:=hh;obtain⟨i,hi⟩:=bK h0;obtain⟨j,hj⟩:=bK O;cases h;exact⟨a,b,i,j,by rw[bo.bq _ _ ha,bo.bq _ _ hb],hi,hj,by omega,by omega,by omega,h5,h6,rfl⟩
   . cases h
 . cases h
theorem znQ{b:G}(hi:a.id=(i:Int))(hj:b.id=(j:Int))(ss:i<sl.length)(qt:j<sl.length)(qu:i≠j)(ht:tr.length<=4999)(hl:sl.length<=1000){ex:Z Change}(h:ao.vD ⟨sl,tr⟩ a b=⟨cS,tr++ex⟩):Ut sl tr [enc a,enc b]=some (.tuple [],cS,ex):=by
 show W (bo.dec (enc a):Y G) (λa=>W (bo.dec (enc b):Y G) _)=_;rw[bo.bZ,bo.bZ];show (if _ then _ else none)=_
 grind
def D5:Slot:=⟨false,.mk 0 [] 0 0 [],0,false⟩
def Iw(sl:Z Slot)(tr:Z Change)(args:Z V):Y (V×Z Slot×Z Change):=match args with
 | [tv]=>W (bo.dec tv:Y G) λt=>some (if ao.nA ⟨sl,tr⟩ t=true then .tuple [enc (ao.fO ⟨sl,tr⟩ t.id),.bool true]else .tuple [enc D5,.bool false],sl,[])
 |_=>none
def ziA{args:Z V}(h:Iw sl tr args=some q):∃ t:G,args=[enc t]/\q=(if ao.nA ⟨sl,tr⟩ t=true then .tuple [enc (ao.fO ⟨sl,tr⟩ t.id),.bool true]else .tuple [enc D5,.bool false],sl,[]):=by
 unfold Iw at h;split at h
 . simp only[aA]at h;obtain⟨t,ht,h⟩:=h;cases h;exact⟨t,by rw[bo.bq _ _ ht],rfl⟩
 . cases h
theorem Tf(sl:Z Slot)(tr:Z Change)(t:G):Iw sl tr [enc t]=some (if ao.nA ⟨sl,tr⟩ t=true then .tuple [enc (ao.fO ⟨sl,tr⟩ t.id),.bool true]else .tuple [enc D5,.bool false],sl,[]):=by
 show W (bo.dec (enc t):Y G) _=_
 simp_all
section
variable (hρ:J.Good I)
include hρ
section
variable {E:Env}(U:E.P=Pg)(aq:bH I E)
include U aq
theorem Yh     :
 Wp I E (4) 53 yP.1 ((PT.leaf.set 0 (.ptr 0 0 0)).set 1 (enc t)) { H:=dW (fB sl tr g),n:=4,log:=[] } (J.Leaves E.P Tryz.f273 (aH (4) (if ao.nA ⟨sl,tr⟩ t=true then .tuple [enc (ao.fO ⟨sl,tr⟩ t.id),.bool true]else .tuple [enc D5,.bool false]) (fB sl tr g))):=by
 by_cases hk:t.kind=1
 . cases h:ao.cg ⟨sl,tr⟩ t.id with
   | none =>
     have hf:ao.nA ⟨sl,tr⟩ t=false:=by unfold ao.nA ao.nH;rw[h];simp
     rw[hf];have:=ao.nj h;by_cases h0:t.id<0
     . obtain⟨ga,gb,gn,cV⟩:=g;simp[cV,U,fB,hk,h0]<;>exact aH.bw (hn:=by simp[D5]) (hH:=by simp<;>exact jr)
     . have M:¬ t.id<(sl.length:Int):=by
        grind
       have O:(sl.length:Int)<=t.id:=by omega
       obtain⟨ga,gb,gn,cV⟩:=g;simp[cV,U,fB,hk,h0,O]<;>exact aH.bw (hn:=by simp[D5]) (hH:=by simp<;>exact jr)
   | some x =>
     obtain⟨i,hl,hi,hx⟩:=ao.ft h;have hd:ao.fO ⟨sl,tr⟩ t.id=x:=by rw[hi,ao.oP (s:=⟨sl,tr⟩) hl,hx]
     have cA:i<sl.length:=hl;have GB:sl[i]=x:=hx;have pS:i*8 / 8=i:=by omega
     have lj:i*8 % 8=0:=by omega
     have Dd:¬ (i:Int)<0:=by omega
     have h01:¬ sl.length<=i:=by omega
     have hf:ao.nA ⟨sl,tr⟩ t=!x.bound:=by unfold ao.nA ao.nH;rw[h,hd,decide_eq_true hk];rfl
     rw[hf,hd];obtain⟨xb,⟨xk,xn,xi,xh,xl⟩,xm,xg⟩:=x
     cases xb with
     |true=>obtain⟨ga,gb,gn,cV⟩:=g;simp[cV,U,fB,hk,hi,Dd,h01,cA,GB,pS,lj]<;>exact aH.bw (hn:=by simp[D5]) (hH:=by simp<;>exact jr)
     |false=>obtain⟨ga,gb,gn,cV⟩:=g;simp[cV,U,fB,hk,hi,Dd,h01,cA,GB,pS,lj]<;>exact aH.bw (hH:=by simp<;>exact jr)
 . have hf:ao.nA ⟨sl,tr⟩ t=false:=by unfold ao.nA ao.nH;simp[hk]
   rw[hf];obtain⟨ga,gb,gn,cV⟩:=g;simp[cV,U,fB,hk]<;>exact aH.bw (hn:=by simp[D5]) (hH:=by simp<;>exact jr)
end
def zlz:Valid I Pg 279 (eY (Gi OJ)):=by
 refine Valid.sym (fo Tryz.func279 Ac.2) λvs C D h=>?_
 obtain⟨args,sl,tr,g,r,cS,ex,ds,a,b,c,d,hF,rfl,_,hr,hg,b4⟩:=JU h;obtain⟨i,x,rfl,M,O,h3,hq⟩:=zmL hF;cases hq;exact sy hρ Tryz.func279 Ac.2 rfl hg (λρ' fF=>⟨EL [],rfl,ag aG,zay fF (E:=EL []) rfl (ag aG) M O h3 (ao.xC ⟨sl,tr⟩ i x).eq⟩) b4
def zlA:Valid I Pg 280 (eY (Gi KS)):=by
 refine Valid.sym (fo Tryz.func280 yQ.2) λvs C D h=>?_
 obtain⟨args,sl,tr,g,r,cS,ex,ds,a,b,c,d,hF,rfl,_,hr,hg,b4⟩:=JU h;obtain⟨i,x,rfl,M,O,h3,hq⟩:=zj3 hF;cases hq;have cQ:∀ ρ',J.Good ρ'->bH ρ' (EL [(279,eY (Gi OJ))]):=λρ' fF=>ag (ae (zlz fF) aG)
 exact sy hρ Tryz.func280 yQ.2 rfl hg (λρ' fF=>⟨_,rfl,cQ ρ' fF,Yk fF rfl (cQ ρ' fF) rfl M O h3 (ao.zQ ⟨sl,tr⟩ i x).eq⟩) b4
theorem zvE:Valid I Pg 274 (eY (Gi Ut)):=by
 refine Valid.sym (fo Tryz.func274 sQ.2) λvs C D h=>?_
 obtain⟨args,sl,tr,g,r,cS,ex,ds,a,b,c,d,hF,rfl,_,hr,hg,b4⟩:=JU h;obtain⟨x,y,i,j,rfl,M,O,h3,h4,h5,h6,h7,hq⟩:=zjE hF;cases hq;have cQ:∀ ρ',J.Good ρ'->bH ρ' (EL [(279,eY (Gi OJ)),(280,eY (Gi KS))]):=λρ' fF=>ag (ae (zlz fF) (ae (zlA fF) aG))
 refine sy hρ Tryz.func274 sQ.2 rfl hg (λρ' fF=>⟨_,rfl,cQ ρ' fF,?_⟩) b4
 have key:∀ (p q:G) (i j:Nat),p.id=i->q.id=j->i<sl.length->j<sl.length->((x=p/\y=q/\i<=j)\/(x=q/\y=p/\i<j))->ao.vD ⟨sl,tr⟩ x y=(ao.tH ⟨sl,tr⟩ i (ao.pJ ⟨sl,tr⟩ i j)).qN j p ->
  Wp ρ' (EL [(279,eY (Gi OJ)),(280,eY (Gi KS))]) (4) 60 sQ.1 (((PT.leaf.set 0 (.ptr 0 0 0)).set 1 (enc x)).set 2 (enc y)) { H:=dW (fB sl tr g),n:=4,log:=[] } (J.Leaves Pg Tryz.f274 (aH (4) (.tuple []) (fB (ao.vD ⟨sl,tr⟩ x y).a9 (tr++(ao.vD ⟨sl,tr⟩ x y).b7.drop tr.length) (g.add ((ao.vD ⟨sl,tr⟩ x y).b7.drop tr.length).length)))):=by
  intro p q i j hp hq hi hj LN e;have g1:=ao.xC ⟨sl,tr⟩ i (ao.pJ ⟨sl,tr⟩ i j);have g2:=ao.zQ (ao.tH ⟨sl,tr⟩ i (ao.pJ ⟨sl,tr⟩ i j)) j p;obtain⟨Rx,t1,t2⟩:=g1.b7;obtain⟨BM,t3,t4⟩:=g2.b7
  have e3:(ao.vD ⟨sl,tr⟩ x y).b7.drop tr.length=Rx++BM:=by
   grind
  rw[e3];have s1:ao.tH ⟨sl,tr⟩ i (ao.pJ ⟨sl,tr⟩ i j)=⟨(ao.tH ⟨sl,tr⟩ i (ao.pJ ⟨sl,tr⟩ i j)).a9,tr++Rx⟩:=by rw[<- t1]
  refine Yi fF rfl (cQ ρ' fF) rfl rfl hp hq hi hj LN h6 h7 t2 g1.len s1 ?_;rw[<- s1,e];rw[t1]at t3;rw[<- t3]
 by_cases hc:j<i
 . exact key y x j i O M h4 h3 (.inr ⟨rfl,rfl,hc⟩) (by unfold ao.vD;rw[if_pos (by rw[M,O];omega),M,O])
 . exact key x y i j M O h3 h4 (.inl ⟨rfl,rfl,by omega⟩) (by unfold ao.vD;rw[if_neg (by rw[M,O];omega),M,O])
def zly:Valid I Pg 273 (w5 (Gi Iw)):=Valid.w5 (fo Tryz.func273 yP.2) λvs C D h hp=>by
 obtain⟨args,sl,tr,g,r,cS,ex,ds,a,b,c,d,hF,rfl,_,hr,hg,b4⟩:=JU h;obtain⟨t,rfl,hq⟩:=ziA hF;cases hq
 exact zmn hρ follows named Tryz.func273 yP.2 rfl hg (by show fB sl (tr++[]) (g.add 0)=fB sl tr g;rw[j5];rfl) hp (λρ' fF=>⟨EL [],rfl,ag aG,by
  show Wp _ _ _ _ _ _ _ (J.Leaves _ _ (aH _ _ (fB sl (tr++[]) (g.add 0))));rw[j5]
  exact Yh fF (E:=EL []) rfl (ag aG)⟩) b4
end
def Tj(sl:Z Slot):Prop:=∀ x∈sl,x.type.ok=true
open Classical in
def Xg(d:Nat)(sl:Z Slot)(h:Int)(sn:Z Int)(t:G):Y (Bool×Z Int):=if Tj sl/\t.ok=true then ao.eW ⟨sl,[]⟩ h d t sn else none
theorem zhp(hh:Xg d sl h sn t=some r):Tj sl/\t.ok=true/\ao.eW ⟨sl,[]⟩ h d t sn=some r:=by
 unfold Xg at hh
 grind
def zeM(M:Tj sl)(O:t.ok=true)(hh:ao.eW ⟨sl,[]⟩ h d t sn=some r):Xg d sl h sn t=some r:=by
 unfold Xg;rw[if_pos ⟨M,O⟩,hh]
def Q2(d:Nat)(sl:Z Slot)(h:Int)(sn:Z Int)(x:V):Y (V×Z Int):=W (bo.dec x:Y G) λt=>W (Xg d sl h sn t) λr=>some (.bool r.1,r.2)
def Hn (rec:G->Z Int->Y (Bool×Z Int)):Z G->Int->Z Int->Y (Int×Z Int)
 | [],_,sn=>some (-1,sn)
 | t::l,i,sn=>match rec t sn with
   |none=>none
   |some (true,DU)=>some (i,DU)
   |some (false,DU)=>Hn rec l (i+1) DU
def zsh{rec:G->Z Int->Y (Bool×Z Int)}:∀ (l:Z G) (i:Int) (sn:Z Int) (b:Bool) (DU:Z Int),0<=i->ao.vt rec l sn=some (b,DU)->∃ z,Hn rec l i sn=some (z,DU)/\decide (0<=z)=b:=by
 intro l
 induction l with
 |nil=>intro i sn b DU h hh;cases hh;exact⟨-1,rfl,by decide⟩
 | cons t l ih =>
   intro i sn b DU h hh;rw[ao.vt]at hh;rw[Hn]
   cases hp:rec t sn with
   |none=>rw[hp]at hh;cases hh
   | some w =>
     rw[hp]at hh;obtain⟨c,zIN⟩:=w
     cases c with
     |true=>cases hh;exact⟨i,rfl,by simpa using h⟩
     |false=>exact ih (i+1) zIN b DU (by omega) hh
open Classical in
def S3(d:Nat)(sl:Z Slot)(h:Int)(sn:Z Int)(x:V):Y (V×Z Int):=W (bo.dec x:Y (Z G)) λl=>if Tj sl/\G.eK l=true/\l.length<=10000 then W (Hn (ao.eW ⟨sl,[]⟩ h d) l 0 sn) λr=>some (.int .i64 r.1,r.2)else none
open Classical in
def N4(d:Nat)(sl:Z Slot)(h:Int)(sn:Z Int)(x:V):Y (V×Z Int):=W (bo.dec x:Y (Z G)) λl=>if Tj sl/\G.eK l=true/\l.length<=10000 then W (ao.vt (ao.eW ⟨sl,[]⟩ h d) l sn) λr=>some (.bool r.1,r.2)else none
def zsA{x:V}{q:V×Z Int}(hh:Q2 d sl h sn x=some q):∃ (t:G) (r:Bool×Z Int),x=enc t/\Xg d sl h sn t=some r/\q=(.bool r.1,r.2):=by
 unfold Q2 at hh;simp only[aA]at hh;obtain⟨t,ht,r,hr,hh⟩:=hh;cases hh;exact⟨t,r,by rw[bo.bq _ _ ht],hr,rfl⟩
def zoe{x:V}{q:V×Z Int}(hh:S3 d sl h sn x=some q):∃ (l:Z G) (r:Int×Z Int),x=enc l/\Tj sl/\G.eK l=true/\l.length<=10000/\Hn (ao.eW ⟨sl,[]⟩ h d) l 0 sn=some r/\q=(.int .i64 r.1,r.2):=by
 unfold S3 at hh;simp only[aA]at hh;obtain⟨t,ht,hh⟩:=hh;split at hh
 . rename_i M;simp only[aA]at hh;obtain⟨r,hr,hh⟩:=hh;cases hh;exact⟨t,r,by rw[bo.bq _ _ ht],M.1,M.2.1,M.2.2,hr,rfl⟩
 . cases hh
def zof{x:V}{q:V×Z Int}(hh:N4 d sl h sn x=some q):∃ (l:Z G) (r:Bool×Z Int),x=enc l/\Tj sl/\G.eK l=true/\l.length<=10000/\ao.vt (ao.eW ⟨sl,[]⟩ h d) l sn=some r/\q=(.bool r.1,r.2):=by
 unfold N4 at hh;simp only[aA]at hh;obtain⟨t,ht,hh⟩:=hh;split at hh
 . rename_i M;simp only[aA]at hh;obtain⟨r,hr,hh⟩:=hh;cases hh;exact⟨t,r,by rw[bo.bq _ _ ht],M.1,M.2.1,M.2.2,hr,rfl⟩
 . cases hh
theorem zxq(hr:Xg d sl h sn t=some r):Q2 d sl h sn (enc t)=some (.bool r.1,r.2):=by
 unfold Q2;rw[bo.bZ]
 simp_all
open Classical in
theorem zsB{r:Int×Z Int}(M:Tj sl)(O:G.eK l=true)(h3:l.length<=10000)(hr:Hn (ao.eW ⟨sl,[]⟩ h d) l 0 sn=some r):S3 d sl h sn (enc l)=some (.int .i64 r.1,r.2):=by
 unfold S3;rw[bo.bZ]
 simp_all
open Classical in
theorem zsC(M:Tj sl)(O:G.eK l=true)(h3:l.length<=10000)(hr:ao.vt (ao.eW ⟨sl,[]⟩ h d) l sn=some r):N4 d sl h sn (enc l)=some (.bool r.1,r.2):=by
 unfold N4;rw[bo.bZ]
 simp_all
section
variable (hρ:J.Good I)
include hρ
section
variable {E:Env}(U:E.P=Pg)(aq:bH I E)
include U aq
theorem VS(hc:E.dE 282=eY (A5 (Xg d)))(hF:Xg d sl h sn t=some (b,DU)) :
 Wp I E (8) 11 vX.1 ((((PT.leaf.set 0 (enc t)).set 1 (.ptr 4 0 0)).set 2 (.ptr 5 0 0)).set 3 (.ptr 6 0 0)) { H:=dW (pW sl tr g sn h),n:=8,log:=[] } (J.Leaves E.P Tryz.f285 (aH (8) (.bool b) (pW sl tr g DU h))):=by
 cases t;obtain⟨ga,gb,gn,cV⟩:=g;simp[cV,U,pW,hc,hF,aJ];exact aH.fu rfl rfl rfl (by simp<;>exact jr)
def VR  (hc:E.dE 285=eY (Cl none (Q2 d)))        (ir:Tj sl) (Ge:G.eK l=true) (fX:l.length<=10000) (hr:Hn (ao.eW ⟨sl,[]⟩ h d) l 0 sn=some (z,DU)) :
 Wp I E (8) 19 bJ.1 ((PT.leaf.set 0 (enc l)).set 1 (.func 285 [.ptr 4 0 0,.ptr 5 0 0,.ptr 6 0 0])) { H:=dW (pW sl tr g sn h),n:=8,log:=[] } (J.Leaves E.P Tryz.f205 (aH (8) (.int .i64 z) (pW sl tr g DU h))):=by
 obtain⟨ga,gb,gn,cV⟩:=g;simp[cV,U,pW]
 refine vC hρ U aq l.length (nn:=8) (λi (_:Z Int)=>[(0,.sl (l.map au) false),(1,.func 285 [.ptr 4 0 0,.ptr 5 0 0,.ptr 6 0 0]),(7,.int .i64 (l.length:Int)),(8,.int .i64 (i:Int))])
  (λi sn=>pW sl tr ⟨ga,gb,gn,cV⟩ sn h) (λi sn=>Hn (ao.eW ⟨sl,[]⟩ h d) (l.drop i) (i:Int) sn=some (z,DU)) sn
  (aw.auto (by simp[pW]) (by simp[pW]) (by simp[pW]) (by simp[pW]<;>(intro x hx;first|omega|exact⟨.inl hx,by omega⟩))) (by simpa using hr) ?_ ?_
 . intro sn hh K;rw[bz,Hn]at hh;cases hh;simp[cV,bf,U,pW];refine bO.mk (aw.auto (TL:=[]) (HL:=pW sl tr ⟨ga,gb,gn,cV⟩ DU h) (n:=8) (by simp[pW]) (by simp[pW]) (by simp[pW]) (by simp[pW]<;>(intro x hx;first|omega|exact⟨.inl hx,by omega⟩))) ?_;simp[cV,pW];exact aH.fu rfl rfl rfl (by simp<;>exact jr)
 . intro i sn hi hh K hK;have cj:(i:Int)<l.length:=by omega
   have cy:=bI (i:=i);have zN:(i*5) / 5=i:=by omega
   have rk:=G.lD.1 Ge _ (az hi);rw[aK hi,Hn]at hh;obtain⟨x,hx⟩:∃ x,l[i]=x:=⟨_,rfl⟩;rw[hx]at hh rk
   cases hq:ao.eW ⟨sl,[]⟩ h d x sn with
   |none=>rw[hq]at hh;cases hh
   | some w =>
     rw[hq]at hh;obtain⟨c,zIN⟩:=w;have hF:=zxq (zeM ir rk hq);cases x;simp at hF
     cases c with
     | true =>
       cases hh;simp[cV,bf,U,pW,hi,cj,hx,hc,hF,aJ];refine bO.mk (aw.auto (TL:=[(4,.int .i64 (i:Int))]) (HL:=pW sl tr ⟨ga,gb,gn,cV⟩ DU h) (n:=8) (by simp[pW]) (by simp[pW]) (by simp[pW]) (by simp[pW]<;>(intro x hx;first|omega|exact⟨.inl hx,by omega⟩))) ?_;simp[cV,pW];exact aH.fu rfl rfl rfl (by simp<;>exact jr)
     | false =>
       have bc:=hK zIN hh;simp[cV,bf,U,pW,hi,cj,hx,hc,hF,cy,aJ,-Int.natCast_add];exact bc _ _ (aw.auto (by simp[pW,-Int.natCast_add]) (by simp[pW]) (by simp[pW]) (by simp[pW]<;>(intro x hx;first|omega|exact⟨.inl hx,by omega⟩)))
theorem Ox(hc:E.dE 205=eY (Cl (some 285) (S3 d)))(ir:Tj sl)(Ge:G.eK l=true)(fX:l.length<=10000)(hr:ao.vt (ao.eW ⟨sl,[]⟩ h d) l sn=some (b,DU)) :
 Wp I E (8) 9 bX.1 ((PT.leaf.set 0 (enc l)).set 1 (.func 285 [.ptr 4 0 0,.ptr 5 0 0,.ptr 6 0 0])) { H:=dW (pW sl tr g sn h),n:=8,log:=[] } (J.Leaves E.P Tryz.f130 (aH (8) (.bool b) (pW sl tr g DU h))):=by
 obtain⟨z,hz,rfl⟩:=zsh l 0 sn b DU (fA _) hr;have hF:=zsB ir Ge fX hz;simp at hF;obtain⟨ga,gb,gn,cV⟩:=g;simp[cV,U,pW,hc,hF,aJ];exact aH.fu rfl rfl rfl (by simp<;>exact jr)
theorem Yj  (hc:E.dE 282=eY (A5 (Xg d))) (hC:E.dE 130=eY (Cl (some 285) (N4 d)))        (zHm:Xg (d+1) sl h sn t=some (b,DU)) :
 Wp I E (5) 78 sS.1 ((((PT.leaf.set 0 (.ptr 0 0 0)).set 1 (enc t)).set 2 (.int .i64 h)).set 3 (.map 3)) { H:=dW (Hw sl tr g sn),n:=5,log:=[] } (J.Leaves E.P Tryz.f282 (aH (5) (.bool b) (Hw sl tr g DU))):=by
 obtain⟨ir,s6,hh⟩:=zhp zHm;have hz:zao I4=some (V.bool false):=by rfl
 rw[ao.eW]at hh;obtain⟨tk,tn,ti,th,ta⟩:=t;simp only[G.fw,G.o5,G.sJ,G.fC]at hh;obtain⟨ga,gb,gn,cV⟩:=g;by_cases hk:tk=1
 . subst hk;rw[if_pos rfl]at hh;by_cases hm:ti∈sn
   . rw[if_pos hm]at hh;cases hh;simp[cV,U,Hw,hm,mq,nC,uw,hz];exact aH.fu rfl rfl rfl (by simp<;>exact jr)
   rw[if_neg hm]at hh
   cases e:ao.cg ⟨sl,[]⟩ ti with
   | none =>
     rw[e]at hh;cases hh;have:=ao.nj e;by_cases h0:ti<0
     . simp[cV,U,Hw,hm,mq,nC,uw,ik,hz,h0];exact aH.fu rfl rfl rfl (by simp<;>exact jr)
     . have O:(sl.length:Int)<=ti:=by
        grind
       simp[cV,U,Hw,hm,mq,nC,uw,ik,hz,h0,O];exact aH.fu rfl rfl rfl (by simp<;>exact jr)
   | some x =>
     rw[e]at hh;simp only at hh;obtain⟨i,hl,hi,hx⟩:=ao.ft e;have cA:i<sl.length:=hl;have GB:sl[i]=x:=hx;have pS:i*8 / 8=i:=by omega
     have lj:i*8 % 8=0:=by omega
     have GF:(i*8+1) / 8=i:=by omega
     have hd4:(i*8+1) % 8=1:=by omega
     have Dd:¬ (i:Int)<0:=by omega
     have h01:¬ sl.length<=i:=by omega
     have rk:x.type.ok=true:=ir x (GB ▸ az cA);clear e hx;subst hi;obtain⟨xb,xt,xm,xg⟩:=x
     cases xb with
     | true =>
       rw[if_pos rfl]at hh;have hF:=zeM ir rk hh;cases xt;simp only at hF;simp[cV,U,Hw,hm,mq,nC,uw,ik,hz,Dd,h01,cA,GB,pS,lj,GF,hd4,hc,hF,aJ];exact aH.fu rfl rfl rfl (by simp<;>exact jr)
     | false =>
       rw[if_neg (by simp)]at hh;cases hh;cases xt;simp[cV,U,Hw,hm,mq,nC,uw,ik,hz,Dd,h01,cA,GB,pS,lj];exact aH.fu rfl rfl rfl (by simp<;>exact jr)
 rw[if_neg hk]at hh;by_cases h3:tk=3
 . rw[if_pos h3]at hh;cases hh;simp[cV,U,Hw,h3];exact aH.fu rfl rfl rfl (by simp<;>exact jr)
 rw[if_neg h3]at hh;have hF:=zsC ir (G.lD.2 λu hu=>G.EJ s6 hu) (G.wW s6) hh;simp at hF;simp[cV,U,Hw,hk,h3,hC,hF,aJ];exact aH.fu rfl rfl rfl (by simp<;>exact jr)
end
end
theorem zqQ(d:Nat):∀ {I:Nat->Value},J.Good I->Valid I Pg 282 (eY (A5 (Xg d)))/\Valid I Pg 130 (eY (Cl (some 285) (N4 d))):=by
 have key:∀ d,(∀ {I:Nat->Value},J.Good I->Valid I Pg 282 (eY (A5 (Xg d))))->∀ {I:Nat->Value},J.Good I->Valid I Pg 130 (eY (Cl (some 285) (N4 d))):=by
  intro d ih
  have M:∀ {I:Nat->Value},J.Good I->Valid I Pg 285 (eY (Cl none (Q2 d))):=by
   intro I hρ;refine Valid.sym (fo Tryz.func285 vX.2) λvs C D h=>?_
   obtain⟨x,hm,sl,tr,g,sn,r,ds,a,b,c,m,p,q,w,e,hF,rfl,_,_,hg,b4⟩:=Y3 h;obtain⟨t,r,rfl,hr,rfl⟩:=zsA hF;cases r;have cQ:∀ ρ',J.Good ρ'->bH ρ' (EL [(282,eY (A5 (Xg d)))]):=λρ' fF=>ag (ae (ih fF) aG)
   exact sy hρ Tryz.func285 vX.2 rfl hg (λρ' fF=>⟨_,rfl,cQ ρ' fF,VS fF rfl (cQ ρ' fF) rfl hr⟩) b4
  have O:∀ {I:Nat->Value},J.Good I->Valid I Pg 205 (eY (Cl (some 285) (S3 d))):=by
   intro I hρ;refine Valid.sym (fo Tryz.func205 bJ.2) λvs C D h=>?_
   obtain⟨x,hm,sl,tr,g,sn,r,ds,a,b,c,m,p,q,w,e,hF,rfl,_,_,hg,b4⟩:=Y3 h;obtain⟨t,r,rfl,g1,g2,g3,hr,rfl⟩:=zoe hF;cases r;have cQ:∀ ρ',J.Good ρ'->bH ρ' (EL [(285,eY (Cl none (Q2 d)))]):=λρ' fF=>ag (ae (M fF) aG)
   exact sy hρ Tryz.func205 bJ.2 rfl hg (λρ' fF=>⟨_,rfl,cQ ρ' fF,VR fF rfl (cQ ρ' fF) rfl g1 g2 g3 hr⟩) b4
  intro I hρ;refine Valid.sym (fo Tryz.func130 bX.2) λvs C D h=>?_
  obtain⟨x,hm,sl,tr,g,sn,r,ds,a,b,c,m,p,q,w,e,hF,rfl,_,_,hg,b4⟩:=Y3 h;obtain⟨t,r,rfl,g1,g2,g3,hr,rfl⟩:=zof hF;cases r;have cQ:∀ ρ',J.Good ρ'->bH ρ' (EL [(205,eY (Cl (some 285) (S3 d)))]):=λρ' fF=>ag (ae (O fF) aG)
  exact sy hρ Tryz.func130 bX.2 rfl hg (λρ' fF=>⟨_,rfl,cQ ρ' fF,Ox fF rfl (cQ ρ' fF) rfl g1 g2 g3 hr⟩) b4
 have base:∀ {I:Nat->Value},J.Good I->Valid I Pg 282 (eY (A5 (Xg 0))):=by
  intro I hρ;refine Valid.sym (fo Tryz.func282 sS.2) λvs C D h=>?_
  obtain⟨ty,hm,sl,tr,g,sn,r,ds,a,b,c,m,e,hF,rfl,hg,b4⟩:=zg3 h;have:=(zhp hF).2.2;cases this
 induction d with
 |zero=>intro I hρ;exact⟨base hρ,key 0 base hρ⟩
 | succ d ih =>
   have h3:∀ {I:Nat->Value},J.Good I->Valid I Pg 282 (eY (A5 (Xg (d+1)))):=by
    intro I hρ;refine Valid.sym (fo Tryz.func282 sS.2) λvs C D h=>?_
    obtain⟨ty,hm,sl,tr,g,sn,r,ds,a,b,c,m,e,hF,rfl,hg,b4⟩:=zg3 h;cases r;have cQ:∀ ρ',J.Good ρ'->bH ρ' (EL [(282,eY (A5 (Xg d))),(130,eY (Cl (some 285) (N4 d)))]):=λρ' fF=>ag (ae (ih fF).1 (ae (ih fF).2 aG))
    exact sy hρ Tryz.func282 sS.2 rfl hg (λρ' fF=>⟨_,rfl,cQ ρ' fF,Yj fF rfl (cQ ρ' fF) rfl rfl hF⟩) b4
   grind
open Classical in
def Vp(d:Nat)(sl:Z Slot)(tr:Z Change)(args:Z V):Y (V×Z Slot×Z Change):=match args with
 | [vv,tv]=>W (bo.dec vv:Y G) λv=>W (bo.dec tv:Y G) λt=>if 0<=v.id/\v.id<sl.length/\(⟨sl,tr⟩:ao).ll/\t.ok=true/\tO ⟨sl,tr⟩ [t]/\(ao.eW ⟨sl,[]⟩ (ao.fO ⟨sl,tr⟩ v.id).home d t []).isSome=true/\tr.length+(nR ⟨sl,tr⟩ [t]).length<=4990/\sl.length<=1000 then some (.int .i64 (ao.pU ⟨sl,tr⟩ v.id t).2,(ao.pU ⟨sl,tr⟩ v.id t).1.a9,(ao.pU ⟨sl,tr⟩ v.id t).1.b7.drop tr.length)else none
 |_=>none
def zkM{args:Z V}(h:Vp d sl tr args=some q):∃ (v t:G) (i:Nat),args=[enc v,enc t]/\v.id=(i:Int)/\i<sl.length/\(⟨sl,tr⟩:ao).ll/\t.ok=true/\tO ⟨sl,tr⟩ [t]/\(ao.eW ⟨sl,[]⟩ (ao.fO ⟨sl,tr⟩ (i:Int)).home d t []).isSome=true/\tr.length+(nR ⟨sl,tr⟩ [t]).length<=4990/\sl.length<=1000 /\
 q=(.int .i64 (ao.pU ⟨sl,tr⟩ (i:Int) t).2,(ao.pU ⟨sl,tr⟩ (i:Int) t).1.a9,(ao.pU ⟨sl,tr⟩ (i:Int) t).1.b7.drop tr.length):=by
 unfold Vp at h;split at h
 . simp only[aA]at h;obtain⟨v,hv,t,ht,h⟩:=h;split at h
   . rename_i hh;obtain⟨h0,M,O,h3,h4,h5,h6,h7⟩:=hh;obtain⟨i,hi⟩:=bK h0;cases h;rw[hi]at h5 M;exact⟨v,t,i,by rw[bo.bq _ _ hv,bo.bq _ _ ht],hi,by omega,O,h3,h4,h5,h6,h7,by rw[hi]⟩
   . cases h
 . cases h
open Classical in
theorem zcU(hi:v.id=(i:Int))(hl:i<sl.length)(O:(⟨sl,tr⟩:ao).ll)(h3:t.ok=true)(h4:tO ⟨sl,tr⟩ [t])(h5:(ao.eW ⟨sl,[]⟩ (ao.fO ⟨sl,tr⟩ (i:Int)).home d t []).isSome=true)(h6:tr.length+(nR ⟨sl,tr⟩ [t]).length<=4990)(h7:sl.length<=1000) :
 Vp d sl tr [enc v,enc t]=some (.int .i64 (ao.pU ⟨sl,tr⟩ (i:Int) t).2,(ao.pU ⟨sl,tr⟩ (i:Int) t).1.a9,(ao.pU ⟨sl,tr⟩ (i:Int) t).1.b7.drop tr.length):=by
 show W (bo.dec (enc v):Y G) (λv=>W (bo.dec (enc t):Y G) _)=_
 simp_all
section
variable (hρ:J.Good I)
include hρ
section
variable {E:Env}(U:E.P=Pg)(aq:bH I E)
include U aq
theorem Mx(C:HS):aT I Pg 40 [enc t] C (enc (isArrow t)) C:=by
 refine fn hρ U aq Tryz.func40 Hm.2 rfl (by simp) ?_ C;obtain⟨k,n,i,h,l⟩:=t
 rcases l with _|⟨a,_|⟨b,_|⟨c,l⟩⟩⟩<;>simp[U] <;>
 repeat' (refine EU (λh=>?_) (λh=>?_)<;>simp[h,U])
 all_goals first|omega|simp_all [isArrow,tT]
def G6(hV:E.dE 162=dH (cO λi:Int=>some (fq i)))(Rv:E.dE 273=w5 (Gi Iw))(CD:E.dE 279=eY (Gi OJ))(cA:i<sl.length)(hlen:tr.length+vs.length<=4990)(sf:sl.length<=1000)
 {vk vh tk ti th xk xi xh xm:Int} {vn tn xn:Z Nat} {va ta xl:Z G} {xb xg:Bool}  (hk:k=4) {sz:Nat} (b8:sz=90)   
 (hT:aw k T C (dW [(0,.ptr 0 0 0),(4,.ptr 4 0 0),(5,.ptr 5 0 0),(7,.ptr 6 0 0),(60,.sl (vs.map cW) false),(61,.int .i64 (vs.length:Int)),(62,.int .i64 ((0:Nat):Int))]) { H:=dW (fB sl tr g++[(4,.arr 5 0 [[.int .i64 vk,.str vn,.int .i64 (i:Int),.int .i64 vh,.sl (va.map au) false]] true false false),(5,.arr 5 0 [[.int .i64 tk,.str tn,.int .i64 ti,.int .i64 th,.sl (ta.map au) false]] true false false),(6,.arr 8 0 [[.bool xb,.int .i64 xk,.str xn,.int .i64 xi,.int .i64 xh,.sl (xl.map au) false,.int .i64 xm,.bool xg]] true false false)]),n:=8,log:=[] })
 (hQ:∀ (cY:Z Slot) (mR:Z Change) (cL:MG) (ex:Z Change),mR=tr++ex->cL=g.add ex.length->cY.length=sl.length->ex.length<=vs.length->(⟨cY,mR⟩:ao)=vs.foldl (ao.Dc xm) ⟨sl,tr⟩->Q (.exit 1) (dW [(0,.ptr 0 0 0),(4,.ptr 4 0 0),(5,.ptr 5 0 0)]) { H:=dW (fB cY mR cL++[(4,.arr 5 0 [[.int .i64 vk,.str vn,.int .i64 (i:Int),.int .i64 vh,.sl (va.map au) false]] true false false),(5,.arr 5 0 [[.int .i64 tk,.str tn,.int .i64 ti,.int .i64 th,.sl (ta.map au) false]] true false false),(6,.arr 8 0 [[.bool xb,.int .i64 xk,.str xn,.int .i64 xi,.int .i64 xh,.sl (xl.map au) false,.int .i64 xm,.bool xg]] true false false)]),n:=8,log:=[] }) :
 Ls I E k sz (.loop o8) T C Q:=by
 subst hk b8;obtain⟨ga,gb,gn,cV⟩:=g
 refine vC hρ U aq vs.length (nn:=8) (λj (_:Z Slot×Z Change×MG)=>[(0,.ptr 0 0 0),(4,.ptr 4 0 0),(5,.ptr 5 0 0),(7,.ptr 6 0 0),(60,.sl (vs.map cW) false),(61,.int .i64 (vs.length:Int)),(62,.int .i64 (j:Int))])
  (λj st=>fB st.1 st.2.1 st.2.2++[(4,.arr 5 0 [[.int .i64 vk,.str vn,.int .i64 (i:Int),.int .i64 vh,.sl (va.map au) false]] true false false),(5,.arr 5 0 [[.int .i64 tk,.str tn,.int .i64 ti,.int .i64 th,.sl (ta.map au) false]] true false false),(6,.arr 8 0 [[.bool xb,.int .i64 xk,.str xn,.int .i64 xi,.int .i64 xh,.sl (xl.map au) false,.int .i64 xm,.bool xg]] true false false)]) (λj st=>∃ ex,st.2.1=tr++ex/\st.2.2=MG.add ⟨ga,gb,gn,cV⟩ ex.length/\st.1.length=sl.length/\ex.length<=j/\(vs.drop j).foldl (ao.Dc xm) ⟨st.1,st.2.1⟩=vs.foldl (ao.Dc xm) ⟨sl,tr⟩) (sl,tr,⟨ga,gb,gn,cV⟩) hT
  ⟨[],by simp,by simp,rfl,aW _,by simp⟩ ?_ ?_
 . rintro ⟨cY,mR,cL⟩ ⟨ex,e1,e2,n9,z9,vF⟩ K;simp only at e1 e2 n9 vF;rw[bz]at vF;have cH:=hQ cY mR cL ex e1 e2 n9 z9 vF;clear e1 vF hQ;obtain⟨Ga,Gb,Gn,cV⟩:=cL;simp[cV,o8,U,fB];exact bO.mk (aw.auto (by simp[fB]) (by simp[fB]) (by simp[fB]) (by simp[fB]<;>(intro x hx;first|omega|exact⟨.inl hx,by omega⟩))) cH
 . rintro j ⟨cY,mR,cL⟩ hj ⟨ex,e1,e2,n9,z9,vF⟩ K hK;simp only at e1 e2 n9 vF;have js:(j:Int)<vs.length:=by omega
   have hw:=bI (i:=j);rw[aK hj,fQ]at vF;obtain⟨v,hv⟩:∃ v,vs[j]=v:=⟨_,rfl⟩;rw[hv]at vF;have hU:=Tf cY mR (fq v);have An:mR.length<=tr.length+j:=by rw[e1,bB];omega
   by_cases BY:ao.nA ⟨cY,mR⟩ (fq v)=true
   . have zsE:=BY;unfold ao.nA ao.nH at zsE;rw[aQ,aQ]at zsE;obtain⟨m,hm⟩:=bN.1 zsE.1.2;obtain⟨q,u3,hq,lR⟩:=ao.ft hm;have hq:v=(q:Int):=hq;subst hq;have It:q<cY.length:=u3;rw[if_pos BY]at hU;rw[show ao.Dc xm ⟨cY,mR⟩ (q:Int)=_ from by unfold ao.Dc;rw[if_pos BY]]at vF;have K0:ao.fO ⟨cY,mR⟩ (fq (q:Int)).id=m:=by rw[show (fq (q:Int)).id=(q:Int) from rfl,ao.oP (s:=⟨cY,mR⟩) u3,lR]
     rw[K0]at hU;rw[show ao.fO ⟨cY,mR⟩ (q:Int)=m from K0]at vF;obtain⟨BM,t3,t4⟩:=(ao.xC ⟨cY,mR⟩ (q:Int) { m with home:=min m.home xm }).b7;have KO:=(ao.xC ⟨cY,mR⟩ (q:Int) { m with home:=min m.home xm }).len;obtain⟨S2,hS2⟩:∃ S2,ao.tH ⟨cY,mR⟩ (q:Int) { m with home:=min m.home xm }=S2:=⟨_,rfl⟩;rw[hS2]at t3 KO vF;obtain⟨cR,cw⟩:=S2;simp only at t3 KO;subst t3;have hF:=YC It (by omega) (by omega) hS2;have bc:=hK (cR,mR++BM,cL.add BM.length) ⟨ex++BM,by simp[e1],by simp only;rw[e2,MG.add_add,bB],by simp only;omega,by rw[bB];omega,vF⟩;clear vF hK hS2 zsE K0 lR hm;obtain⟨mb,⟨mk,mn,mi,mh,ml⟩,mm,mg⟩:=m;have Hj:(if xm<mm then xm else mm)=min mm xm:=by split<;>omega
     simp[fq]at hU;simp at hF;generalize min mm xm=mz at Hj hF;obtain⟨Ga,Gb,Gn,cV⟩:=cL;obtain⟨cw,w9⟩:∃ cw,mR++BM=cw:=⟨_,rfl⟩;rw[w9]at bc;simp[cV,w9,o8,U,fB,hj,js,hv,hV,Rv,hU,CD,hF,Hj,hw,aJ,fq,-Int.natCast_add];exact bc _ _ (aw.auto (by simp[fB,-Int.natCast_add]) (by simp[fB]) (by simp[fB]) (by simp[fB]<;>(intro x hx;first|omega|exact⟨.inl hx,by omega⟩)))
   . rw[if_neg BY]at hU;rw[show ao.Dc xm ⟨cY,mR⟩ v=_ from by unfold ao.Dc;rw[if_neg BY]]at vF;have bc:=hK (cY,mR,cL) ⟨ex,e1,e2,n9,by omega,vF⟩;clear vF hK;simp[fq,D5]at hU;obtain⟨Ga,Gb,Gn,cV⟩:=cL;simp[cV,o8,U,fB,hj,js,hv,hV,Rv,hU,hw,aJ,fq,-Int.natCast_add];exact bc _ _ (aw.auto (by simp[fB,-Int.natCast_add]) (by simp[fB]) (by simp[fB]) (by simp[fB]<;>(intro x hx;first|omega|exact⟨.inl hx,by omega⟩)))
end
def Ww:Valid I Pg 40 (dH (cO λt:G=>some (isArrow t))):=v1 (fo Tryz.func40 Hm.2) λa r h C=>by
 cases h;exact Mx hρ (E:=EL []) rfl (ag aG) C
end
section
variable (hρ:J.Good I)
include hρ
section
variable {E:Env}(U:E.P=Pg)(aq:bH I E)
include U aq
def Yl  (hW:E.dE 281=DH 1 Le) (hC:E.dE 75=Gv) (hA:E.dE 40=dH (cO λt:G=>some (isArrow t))) (hH:E.dE 282=eY (A5 (Xg d))) (hV:E.dE 162=dH (cO λi:Int=>some (fq i)))
 (Rv:E.dE 273=w5 (Gi Iw)) (CD:E.dE 279=eY (Gi OJ)) (hG:E.dE 280=eY (Gi KS))      (hi:v.id=(i:Int)) (cA:i<sl.length) (ir:(⟨sl,tr⟩:ao).ll) (s6:t.ok=true) (zz8:tO ⟨sl,tr⟩ [t])
 (hhi:(ao.eW ⟨sl,[]⟩ (ao.fO ⟨sl,tr⟩ (i:Int)).home d t []).isSome=true) (zD9:tr.length+(nR ⟨sl,tr⟩ [t]).length<=4990) (sf:sl.length<=1000)    (h:ao.pU ⟨sl,tr⟩ (i:Int) t=(⟨F4,tr++uc⟩,e)) :
 Wp I E (4) 90 sU.1 (((PT.leaf.set 0 (.ptr 0 0 0)).set 1 (enc v)).set 2 (enc t)) { H:=dW (fB sl tr g),n:=4,log:=[] } (J.Leaves E.P Tryz.f275 (aH (4) (.int .i64 e) (fB F4 (tr++uc) (g.add uc.length)))):=by
 have X2:i*8 / 8=i:=by omega
 have UE:i*8 % 8=0:=by omega
 have w8:ao.fO ⟨sl,tr⟩ (i:Int)=sl[i]:=ao.oP (s:=⟨sl,tr⟩) cA;obtain⟨x,hx⟩:∃ x,sl[i]=x:=⟨_,rfl⟩;rw[hx]at w8;rw[w8]at hhi;obtain⟨⟨b,sn⟩,hq⟩:=bN.1 hhi;have hF:=zeM ir.2 s6 hq
 have hB:ao.Qx ⟨sl,tr⟩ x.home t=b:=by
  have:=ao.Uz (s:=⟨sl,tr⟩) (f:=d) (q:=(b,sn)) (by rw[<- hq];exact(ao.Tw.eW (s:=⟨sl,tr⟩) (p:=⟨sl,[]⟩) ⟨rfl,by simp⟩ x.home d t []).symm);exact this
 unfold ao.pU at h;rw[w8,hB]at h;obtain⟨vs,fv⟩:∃ vs,nR ⟨sl,tr⟩ [t]=vs:=⟨_,rfl⟩;obtain⟨ar,ke⟩:∃ ar,isArrow t=ar:=⟨_,rfl⟩;rw[fv]at h zD9;rw[ke]at h;have hlen:vs.length<=1000000:=by omega
 obtain⟨aa,ab,ac⟩:=ar;simp only at h
 have h0:∀ {n:Int},((⟨sl,tr⟩:ao),n)=(⟨F4,tr++uc⟩,e)->(n,F4,uc)=(e,sl,([]:Z Change)):=by
  intro n hh;obtain⟨M,O⟩:=cB hh;obtain⟨h3,h4⟩:=ao.mk.inj M;have h5:uc=[]:=by simpa using h4
  rw[O,h3,h5]
 obtain⟨vk,vn,vi,vh,va⟩:=v;obtain⟨tk,tn,ti,th,ta⟩:=t;obtain⟨xb,⟨xk,xn,xi,xh,xl⟩,xm,xg⟩:=x;simp only[G.o5]at hi;subst hi;simp only at h hF;have zze:∀ (k:IntKind) (n:Int),(V.int k n).Iy=true:=λ_ _=>rfl
 obtain⟨ga,gb,gn,cV⟩:=g;by_cases c1:(i:Int)∈vs
 . rw[if_pos c1]at h;cases h0 h;simp[cV,U,zze,fB,X2,UE,cA,hx,hW,zz8,hC,hA,ke,fv,hlen,c1,Gv];exact aH.fu rfl rfl rfl (by simp<;>exact jr)
 rw[if_neg c1]at h;by_cases c2:xg=true/\ac=true
 . rw[if_pos c2]at h;cases h0 h;obtain⟨rfl,rfl⟩:=c2;simp[cV,U,zze,fB,X2,UE,cA,hx,hW,zz8,hC,hA,ke,fv,hlen,c1,Gv];exact aH.fu rfl rfl rfl (by simp<;>exact jr)
 rw[if_neg c2]at h
 cases b with
 | true =>
   rw[if_pos rfl]at h;cases h0 h
   cases xg with
   | false =>
     simp[cV,U,zze,fB,X2,UE,cA,hx,hW,zz8,hC,hA,ke,fv,hlen,c1,Gv,hH,hF,aJ];exact aH.fu rfl rfl rfl (by simp<;>exact jr)
   | true =>
     cases ac with
     |true=>exact absurd ⟨rfl,rfl⟩ c2
     | false =>
       simp[cV,U,zze,fB,X2,UE,cA,hx,hW,zz8,hC,hA,ke,fv,hlen,c1,Gv,hH,hF,aJ];exact aH.fu rfl rfl rfl (by simp<;>exact jr)
 | false =>
   rw[if_neg (by simp)]at h;have M:(vs.foldl (ao.Dc xm) ⟨sl,tr⟩).qN (i:Int) (.mk tk tn ti th ta)=⟨F4,tr++uc⟩:=(cB h).1;have O:e=0:=(cB h).2.symm;subst O;obtain⟨Ff,Zi⟩:∃ Ff,tr++uc=Ff:=⟨_,rfl⟩;obtain⟨G3,HQ⟩:∃ G3,MG.add ⟨ga,gb,gn,cV⟩ uc.length=G3:=⟨_,rfl⟩;rw[Zi,HQ]
   cases xg with
   | false =>
     simp[cV,U,zze,fB,X2,UE,cA,hx,hW,zz8,hC,hA,ke,fv,hlen,c1,Gv,hH,hF,aJ];refine G6 hρ U aq (g:=⟨ga,gb,gn,cV⟩) (vk:=vk) (vn:=vn) (vh:=vh) (va:=va) (tk:=tk) (tn:=tn) (ti:=ti) (th:=th) (ta:=ta) (xb:=xb) (xk:=xk) (xn:=xn) (xi:=xi) (xh:=xh) (xl:=xl) (xm:=xm) (xg:=false) hV Rv CD cA (by omega) sf rfl rfl (aw.auto (by simp[fB]) (by simp[fB]) (by simp[fB]) (by simp[fB]<;>(intro x hx;first|omega|exact⟨.inl hx,by omega⟩))) λcY mR cL Rx e1 e2 n9 z9 vF=>?_
     obtain⟨BM,t3,t4⟩:=(ao.zQ ⟨cY,mR⟩ (i:Int) (.mk tk tn ti th ta)).b7;have O:=M;rw[<- vF]at O;rw[O]at t3;simp only at t3;have e3:uc=Rx++BM:=by rw[e1,gu]at t3;exact nP t3
     have eG:G3=cL.add BM.length:=by rw[<- HQ,e2,MG.add_add,e3,bB]
     rw[t3]at Zi O;have Nz:=UH (by rw[n9];exact cA) (by rw[e1,bB];omega) (by rw[n9];exact sf) O;subst Zi eG;simp at Nz;obtain⟨Ga,Gb,Gn,cV⟩:=cL;obtain⟨cw,w9⟩:∃ cw,mR++BM=cw:=⟨_,rfl⟩;simp[cV,w9,U,fB,hG,Nz,aJ];exact aH.fu rfl rfl rfl (by simp<;>exact jr)
   | true =>
     cases ac with
     |true=>exact absurd ⟨rfl,rfl⟩ c2
     | false =>
       simp[cV,U,zze,fB,X2,UE,cA,hx,hW,zz8,hC,hA,ke,fv,hlen,c1,Gv,hH,hF,aJ];refine G6 hρ U aq (g:=⟨ga,gb,gn,cV⟩) (vk:=vk) (vn:=vn) (vh:=vh) (va:=va) (tk:=tk) (tn:=tn) (ti:=ti) (th:=th) (ta:=ta) (xb:=xb) (xk:=xk) (xn:=xn) (xi:=xi) (xh:=xh) (xl:=xl) (xm:=xm) (xg:=true) hV Rv CD cA (by omega) sf rfl rfl (aw.auto (by simp[fB]) (by simp[fB]) (by simp[fB]) (by simp[fB]<;>(intro x hx;first|omega|exact⟨.inl hx,by omega⟩))) λcY mR cL Rx e1 e2 n9 z9 vF=>?_
       obtain⟨BM,t3,t4⟩:=(ao.zQ ⟨cY,mR⟩ (i:Int) (.mk tk tn ti th ta)).b7;have O:=M;rw[<- vF]at O;rw[O]at t3;simp only at t3;have e3:uc=Rx++BM:=by rw[e1,gu]at t3;exact nP t3
       have eG:G3=cL.add BM.length:=by rw[<- HQ,e2,MG.add_add,e3,bB]
       rw[t3]at Zi O;have Nz:=UH (by rw[n9];exact cA) (by rw[e1,bB];omega) (by rw[n9];exact sf) O;subst Zi eG;simp at Nz;obtain⟨Ga,Gb,Gn,cV⟩:=cL;obtain⟨cw,w9⟩:∃ cw,mR++BM=cw:=⟨_,rfl⟩;simp[cV,w9,U,fB,hG,Nz,aJ];exact aH.fu rfl rfl rfl (by simp<;>exact jr)
end
def zvF(d:Nat):Valid I Pg 275 (eY (Gi (Vp d))):=by
 refine Valid.sym (fo Tryz.func275 sU.2) λvs C D h=>?_
 obtain⟨args,sl,tr,g,r,cS,ex,ds,a,b,c,e,hF,rfl,_,hr,hg,b4⟩:=JU h;obtain⟨v,t,i,rfl,M,O,h3,h4,h5,h6,h7,h8,hq⟩:=zkM hF;cases hq;have UG:(EL [(281,DH 1 Le),(75,Gv),(40,dH (cO λt:G=>some (isArrow t))),(282,eY (A5 (Xg d))),(162,dH (cO λi:Int=>some (fq i))),(273,w5 (Gi Iw)),(279,eY (Gi OJ)),(280,eY (Gi KS))]).P=Pg:=rfl
 have cQ:∀ ρ',J.Good ρ'->bH ρ' (EL [(281,DH 1 Le),(75,Gv),(40,dH (cO λt:G=>some (isArrow t))),(282,eY (A5 (Xg d))),(162,dH (cO λi:Int=>some (fq i))),(273,w5 (Gi Iw)),(279,eY (Gi OJ)),(280,eY (Gi KS))]):=λρ' fF =>
  ag (ae (zqL fF) (ae (Wx fF) (ae (Ww fF) (ae (zqQ d fF).1 (ae (zt1 fF) (ae (zly fF) (ae (zlz fF) (ae (zlA fF) aG))))))))
 exact sy hρ Tryz.func275 sU.2 rfl hg (λρ' fF=>⟨_,UG,cQ ρ' fF,Yl fF UG (cQ ρ' fF) rfl rfl rfl rfl rfl rfl rfl rfl M O h3 h4 h5 h6 h7 h8 (tL (ao.FC ⟨sl,tr⟩ i t).eq rfl)⟩) b4
end
end Go.Proofs.YtfloillkpbhhhaaGreat
