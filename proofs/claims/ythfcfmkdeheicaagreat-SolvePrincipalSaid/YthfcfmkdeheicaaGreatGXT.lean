import Derived.Test.YthfcfmkdeheicaaGreatGXS
set_option linter.all false
noncomputable section
/- Tape.Subst,once more: it hands back a row that its caller writes on. -/
namespace Go.Proofs.YthfcfmkdeheicaaGreat
open Go.J
open Go.J.Enc (enc)
set_option maxRecDepth 100000
set_option maxHeartbeats 1000000
def suK(X:List Assign):Nat:=match X with
 | []=>1
 |_::_=>2
def zid(id:Nat)(D:List Decl)(n:Int)(t t2:Tp)(X:List Assign):EmbD where
 k:=1
 k':=suK X
 π:=fun _=>id
 OL:=[(0,box (Cel.cells t))]
 OL':=(0,box (Cel.cells t2))::oH 1 6 (X.map zf)
 vs0:=[.ptr 0 0 0,enc D,enc n]
 v0:=oV 1 (X.map zf)
def zoq(vs:List V)(hs:HS):Option EmbD:=match vs with
 | [.ptr id 0 0,dv,nv]=>ob (Enc.dec dv:Option (List Decl)) fun D=>ob (Enc.dec nv:Option Int) fun n=>ob (hs.H.get id) fun o=>ob (capO o) fun c=>ob (Cel.dec c:Option Tp) fun t=>ob (substF t D n) fun q =>
  gd (et (Nat.blt id hs.n) (zR hs hs.n)) (some (zid id D n t q.1 q.2))
 |_=>none
@[simp] theorem substRM_n {id:Nat} {dv nv:V} {hs:HS}:zoq [.ptr id 0 0,dv,nv] hs=ob (Enc.dec dv:Option (List Decl)) fun D=>ob (Enc.dec nv:Option Int) fun n=>ob (hs.H.get id) fun o=>ob (capO o) fun c=>ob (Cel.dec c:Option Tp) fun t=>ob (substF t D n) fun q =>
      gd (et (Nat.blt id hs.n) (zR hs hs.n)) (some (zid id D n t q.1 q.2)):=(rfl)
theorem substRD_nil{id:Nat}{D:List Decl}{n:Int}{t t2:Tp}{hs:HS}:(zid id D n t t2 []).val hs=.snil∧(zid id D n t t2 []).heap hs=hs.wr id (box (Cel.cells t2)):=⟨rfl,rfl⟩
theorem substRD_cons{id:Nat}{D:List Decl}{n:Int}{t t2:Tp}{x:Assign}{X:List Assign}{hs:HS}:(zid id D n t t2 (x::X)).val hs=oV hs.n ((x::X).map zf) ∧
 (zid id D n t t2 (x::X)).heap hs={ H:=(hs.H.set hs.n (oO 6 ((x::X).map zf))).set id (box (Cel.cells t2)),n:=hs.n+1,log:=id::hs.n::hs.log }:=by
 refine⟨rfl,?_⟩
 show ({ H:=(hs.H.set (news hs.n 1 (fun _=>id) 1) ((oO 6 ((x::X).map zf)).ren _)).set (news hs.n 1 (fun _=>id) 0) ((box (Cel.cells t2)).ren _),n:=hs.n+1,log:=[news hs.n 1 (fun _=>id) 0,news hs.n 1 (fun _=>id) 1]++hs.log }:HS)=_
 rw[zeF (by simp)]
 rfl
section
variable {ρ:Nat→Value}(hρ:J.Good ρ)
include hρ
section
variable {E:Env}(hE:E.P=Tryz.prog)(hcon:ConsOk ρ E)
include hE hcon
theorem zkg (hn:E.con 56=stS (stF1 zly)) (hv:E.con 16=zbj) (hr:E.con 58=fnS (zD fun h i:Int=>some (zc3 h i))) (ht:E.con 15=stS (stF3 (zmi 1)))
 {t:Tp} {D:List Decl} {n:Nat} (hto:t.ok) (hD:DOk D) (hn100:n≤100) {hs:HS} {id:Nat} (hid:id<hs.n) (hg:hs.H.get id=some (box (Cel.cells t))) (hvac:hs.H.get hs.n=none) :
 CallOk ρ Tryz.prog 42 [.ptr id 0 0,enc D,enc (n:Int)] hs ((zid id D n t (zam t D n n).1 (zam t D n n).2).v0.ren (news hs.n 1 fun _=>id)) (zmc hs 1 (suK (zam t D n n).2) (fun _=>id) (zid id D n t (zam t D n n).1 (zam t D n n).2).OL'):=by
 refine em hρ hE hcon (D:=zid id D n t (zam t D n n).1 (zam t D n n).2) Tryz.func42 fB42 rfl ?_ ?_ ⟨?_,fun i j hi hj _=>?_,?_,?_,fun _ _=>hid⟩
 · generalize (zam t D n n).2=X
   refine⟨rfl,?_,?_,fun p hp=>?_,fun p hp=>?_,?_,fun v hv=>?_⟩
   · cases X<;>rfl
   · cases X
     · exact Nat.le_refl 1
     · exact Nat.le_succ 1
   · obtain rfl:=List.mem_singleton.1 hp
     rfl
   · cases X with
     | nil =>
       obtain rfl:=List.mem_singleton.1 hp
       exact⟨rfl,rfl⟩
     | cons x X =>
       have hp:p∈(0,box (Cel.cells (zam t D n n).1))::oH 1 6 ((x::X).map zf):=hp
       rw[List.map_cons,zkd]at hp
       simp only[List.mem_cons,List.not_mem_nil,or_false]at hp
       rcases hp with rfl|rfl
       · exact⟨rfl,rfl⟩
       · exact⟨oO_in (es:=(x::X).map zf) (by simp),rfl⟩
   · cases X<;>rfl
   · have hv:v∈[V.ptr 0 0 0,enc D,enc (n:Int)]:=hv
     simp only[List.mem_cons,List.not_mem_nil,or_false]at hv
     rcases hv with rfl|rfl|rfl<;>rfl
 · show Wp ρ E 1 _ _ _ { H:=mkP [(0,box (Cel.cells t))],n:=1,log:=[] } (J.Leaves E.P _ (GivesL 1 (oV 1 ((zam t D n n).2.map zf)) ((0,box (Cel.cells (zam t D n n).1))::oH 1 6 ((zam t D n n).2.map zf))))
   rw[show Tryz.f42.ntmps=32 from rfl]
   clear hg hid hvac
   have hwl:IntKind.i64.wrap ((n:Int)+1)=((n+1:Nat):Int):=zq (by omega)
   have hlv:=varTs_len (n+1)
   have hn1:((n+1:Nat):Int)≤10000:=by omega
   have hn0:n+1≤10000:=by omega
   have hF1:∀ u:Tp,u.ok→zmi 1 u D (za0 (n+1)++[zc3 (-1) 0]) 1=some (typeM 1 u D (za0 (n+1)++[zc3 (-1) 0])):=fun u hu=>if_pos ⟨hu,hD,by simp;omega,by decide⟩
   simp[zjQ,zjP,zjO,zjN,zjM,zjL,zjS,zjK,zjR,zjJ,fS42,hE]
   refine lpi hρ hE hcon n (nn:=2) (fun i (X:Tp×List Assign)=>[(0,.ptr 0 0 0),(1,.sl (D.map zJ) false),(2,.int .i64 (n:Int)),(7,oV 1 (X.2.map zf)),(8,.int .i64 (i:Int))])
    (fun i X=>[(0,box (Cel.cells X.1))]++oH 1 6 (X.2.map zf)) (fun i X=>zam t D n i=X∧X.1.ok) (t,[])
    (Less.auto (by simp) (by simp) rfl rfl) ⟨rfl,hto⟩ ?_ ?_
   · rintro ⟨u,X⟩ ⟨h1,h2⟩ K
     rw[h1]
     simp only at h2
     rcases X with _|⟨x,X⟩
     · simp[zpb,zjQ,zjP,zjO,zjN,zjM,zjL,zjS,zjK,zjR,zjJ,fS42,hE]
       refine LessQ.mk (Less.auto (TL:=[(7,.snil)]) (HL:=[(0,box (Cel.cells u))]) (n:=1) (by simp) (by simp) rfl rfl) ?_
       simp[zjQ,zjP,zjO,zjN,zjM,zjL,zjS,zjK,zjR,zjJ,fS42,hE]
       exact GivesL.keepX rfl rfl rfl (by simp)
     · simp[zpb,zjQ,zjP,zjO,zjN,zjM,zjL,zjS,zjK,zjR,zjJ,fS42,hE]
       refine LessQ.mk (Less.auto (TL:=[(7,oV 1 ((x::X).map zf))]) (HL:=[(0,box (Cel.cells u))]++oH 1 6 ((x::X).map zf)) (n:=2) (by simp) (by simp) rfl rfl) ?_
       simp[zjQ,zjP,zjO,zjN,zjM,zjL,zjS,zjK,zjR,zjJ,fS42,hE]
       exact GivesL.keepX rfl rfl rfl (by simp)
   · rintro i ⟨u,X⟩ hi ⟨h1,h2⟩ K hK
     simp only at h2
     have hi':(i:Int)<n:=by omega
     have hw0:IntKind.i64.wrap 1=1:=rfl
     have hw2:IntKind.i64.wrap ((i:Int)+1)=((i+1:Nat):Int):=zq (by omega)
     have hN3:zly u 3=some (u.next 3):=if_pos ⟨h2,by decide,by decide⟩
     have hu1:=zcJ h2 3
     have hsi:zam t D n (i+1)=(if (u.next 3).2>0 then ((typeM 1 (u.next 3).1 D (za0 (n+1)++[zc3 (-1) 0])).1,X++[⟨i,(typeM 1 (u.next 3).1 D (za0 (n+1)++[zc3 (-1) 0])).2⟩])else ((u.next 3).1,X)):=by
      rw[zam,h1]
     have hXl:X.length≤i:=by have:=(zor hto D n i).2;rw[h1]at this;exact this
     rcases hq:u.next 3 with⟨u1,c⟩
     rw[hq]at hN3 hu1 hsi
     simp only at hu1 hsi
     by_cases hc:c>0
     · rw[if_pos hc]at hsi
       have hF:=hF1 u1 hu1
       have ho2:=(zj2 (D:=D) (Lv:=za0 (n+1)++[zc3 (-1) 0]) 1 u1 hu1).1
       rcases hq2:typeM 1 u1 D (za0 (n+1)++[zc3 (-1) 0])with⟨u2,y⟩
       rw[hq2]at hF hsi ho2
       have hnew:=hK (u2,X++[⟨(i:Int),y⟩]) ⟨hsi,ho2⟩
       generalize hV:za0 (n+1)=W at hF hlv
       rcases W with _|⟨v,W⟩
       · simp at hlv
       have h64:(W.length+1+1)*64≤1048576:=Nat.le_trans (Nat.mul_le_mul_right 64 (show W.length+1+1≤102 by simp only[List.length_cons]at hlv;omega)) (by decide)
       rw[List.cons_append]at hF
       rcases X with _|⟨x,X⟩
       · simp only[List.nil_append]at hnew
         simp[zpb,zjQ,zjP,zjO,zjN,zjM,zjL,zjS,zjK,zjR,zjJ,fS42,hE,hi,hi',hn,hv,hr,ht,hN3,hc,zbj,hwl,hn1,hn0,hV,hF,h64,Nat.not_succ_le_self,hw2,-Int.natCast_add]
         exact hnew _ _ (Less.auto (by simp[hw0,-Int.natCast_add]) (by simp) rfl rfl)
       · have h72:(X.length+1+1)*72≤1048576:=Nat.le_trans (Nat.mul_le_mul_right 72 (show X.length+1+1≤102 by simp only[List.length_cons]at hXl;omega)) (by decide)
         simp[zpb,zjQ,zjP,zjO,zjN,zjM,zjL,zjS,zjK,zjR,zjJ,fS42,hE,hi,hi',hn,hv,hr,ht,hN3,hc,zbj,hwl,hn1,hn0,hV,hF,h64,h72,Nat.not_succ_le_self,hw2,-Int.natCast_add]
         exact hnew _ _ (Less.auto (by simp[hw0,-Int.natCast_add]) (by simp) rfl rfl)
     · rw[if_neg hc]at hsi
       have hc':¬ 0<c:=hc
       have hnew:=hK (u1,X) ⟨hsi,hu1⟩
       rcases X with _|⟨x,X⟩
       · simp[zpb,zjQ,zjP,zjO,zjN,zjM,zjL,zjS,zjK,zjR,zjJ,fS42,hE,hi,hi',hn,hN3,hc,hw2,-Int.natCast_add]
         exact hnew _ _ (Less.auto (by simp[hw0,-Int.natCast_add]) (by simp) rfl rfl)
       · simp[zpb,zjQ,zjP,zjO,zjN,zjM,zjL,zjS,zjK,zjR,zjJ,fS42,hE,hi,hi',hn,hN3,hc,hw2,-Int.natCast_add]
         exact hnew _ _ (Less.auto (by simp[hw0,-Int.natCast_add]) (by simp) rfl rfl)
 · rfl
 · have h1:i<1:=hi
   have h2:j<1:=hj
   omega
 · intro p hp
   obtain rfl:=List.mem_singleton.1 hp
   exact hg
 · intro i hi
   have hi:i<suK (zam t D n n).2-1:=hi
   have h2:suK (zam t D n n).2≤2:=by cases(zam t D n n).2<;>simp[suK]
   have:i=0:=by omega
   subst this
   exact hvac
end
theorem vSubstR:Valid ρ Tryz.prog 42 (zdo zoq):=Valid.emb (fo Tryz.func42 fB42) fun vs hs D h=>by
 unfold zoq at h
 split at h
 · simp only[zb,zl,et_true,blt_true,vacant_eq]at h
   obtain⟨D,hD,n,hn,o,ho,c,hc,t,ht,q,hq,⟨h1,h2⟩,h⟩:=h
   cases h
   obtain⟨rfl,_⟩:=capO_inv hc
   have e1:=Cel.enc_dec _ _ ht
   subst e1
   obtain⟨⟨g1,g2,g3,g4⟩,rfl⟩:=z8 hq
   obtain⟨m,rfl⟩:=Int.eq_ofNat_of_zero_le g3
   rw[Enc.enc_dec _ _ hD,Enc.enc_dec _ _ hn]
   exact zkg hρ (E:=EL [(56,stS (stF1 zly)),(16,zbj),(58,fnS (zD fun h i:Int=>some (zc3 h i))),(15,stS (stF3 (zmi 1)))]) rfl
    (zg (za (vNext hρ) (za (vMkVars hρ) (za (vRigid hρ) (za (vType hρ 1 (by omega)) valid_nil))))) rfl rfl rfl rfl g1 g2 (by omega) h1 ho h2
 · cases h
end
end Go.Proofs.YthfcfmkdeheicaaGreat
/- law18.solvable: equations that a given substitution solves. -/
namespace Go.Proofs.YthfcfmkdeheicaaGreat
open Go.J
open Go.J.Enc (enc)
set_option maxRecDepth 100000
set_option maxHeartbeats 1000000
def R4:List Assign:=[⟨0,zA 7⟩,⟨1,zA 8⟩,⟨2,tInt⟩,⟨3,zA 7⟩]
def r4A(x:Assign):Assign:=⟨x.id,x.type.repl R4⟩
def slvM (t:Tp) (D:List Decl) (u:List Assign):Nat→Tp×List Equation
 | 0=>(t,[])
 | i + 1 =>
   let p:=slvM t D u i
   let a:=typeM 2 p.1 D (za0 4)
   let b:=typeM 1 a.1 D (za0 4)
   let c:=b.1.next 3
   if c.2=0 then (c.1,p.2++[⟨a.2,a.2.repl u⟩])
   else if c.2=1∧u≠[]then ((c.1.next u.length).1,p.2++[match u[(c.1.next u.length).2.toNat]? with
    |some x=>⟨zA x.id,x.type⟩
    |none=>⟨a.2,b.2⟩])
   else (c.1,p.2++[⟨a.2,b.2⟩])
def uV(u:List Assign):V:=oV 1 (u.map zf)
def uH(fz:Bool)(u:List Assign):List (Nat×J.Obj):=match u with
 | []=>[]
 |x::u=>[(1,.arr 6 ((x::u).length-1) ((x::u).map zf) false fz true)]
theorem uV_ne{u:List Assign}(h:u≠[]):uV u=.own 1 (u.length-1) 0 u.length none:=by
 unfold uV
 rw[zai (fun e=>h (List.map_eq_nil_iff.1 e))];simp
theorem uH_ne{fz:Bool}{u:List Assign}(h:u≠[]):uH fz u=[(1,.arr 6 (u.length-1) (u.map zf) false fz true)]:=by
 cases u with
 |nil=>exact absurd rfl h
 |cons x u=>rfl
theorem slvM_len{t:Tp}{D:List Decl}{u:List Assign}:∀ i,(slvM t D u i).2.length=i:=by
 intro i
 induction i with
 |zero=>rfl
 | succ i ih =>
   unfold slvM
   simp only
   split
   · rw[List.length_append,ih];rfl
   · split
     · rw[List.length_append,ih];rfl
     · rw[List.length_append,ih];rfl
section
variable {ρ:Nat→Value}(hρ:J.Good ρ){E:Env}(hE:E.P=Tryz.prog)(hcon:ConsOk ρ E)
include hρ hE hcon
theorem solvable_l0 (hv:E.con 52=fnS (zan fun i:Int=>some (zA i))) (hi0:E.con 49=fnS (zlp tInt)) (hr:E.con 25=fnS (zD replU)) {n:Int} {t:Tp} {D:List Decl} {u:List Assign} (hne:u≠[]) (hul:u.length≤1000) (ho:okA u) {Q:Ex→PT V→HS→Prop} {T0:PT V} {hs0:HS}
 (h0:Less 0 T0 hs0 (mkP [(2,.int .i64 n),(8,.ptr 0 0 0),(9,.sl (D.map zJ) false),(10,.own 1 (u.length-1) 0 u.length none),(11,.int .i64 ((0:Nat):Int))]) { H:=mkP [(0,box (Cel.cells t)),(1,.arr 6 (u.length-1) (u.map zf) false false true)],n:=2,log:=[] })
 (hQ:Q (.exit 0) (mkP [(2,.int .i64 n),(8,.ptr 0 0 0),(9,.sl (D.map zJ) false),(10,.own 1 (u.length-1) 0 u.length none)]) { H:=mkP [(0,box (Cel.cells t)),(1,.arr 6 (u.length-1) ((u.map r4A).map zf) false false true)],n:=2,log:=[] }) :
 Ls ρ E 0 99 (.loop fS39l0) T0 hs0 Q:=by
 have hpos:0<u.length:=List.length_pos_iff.2 hne
 refine lpi hρ hE hcon u.length (nn:=2) (fun i (_:List Assign)=>[(2,.int .i64 n),(8,.ptr 0 0 0),(9,.sl (D.map zJ) false),(10,.own 1 (u.length-1) 0 u.length none),(11,.int .i64 (i:Int))])
  (fun i st=>[(0,box (Cel.cells t)),(1,.arr 6 (u.length-1) (st.map zf) false false true)]) (fun i st=>st=(u.take i).map r4A++u.drop i) u h0 (by simp) ?_ ?_
 · rintro st hst K
   rw[List.take_length,List.drop_length,List.append_nil]at hst
   subst hst
   simp[fS39l0,zcd,zcc,zcb,zca,zbZ,zbY,zbX,zci,zbW,zch,zbV,zbU,zaH,zaG,zaF,zaE,zaD,zaC,zaB,zaA,za8,zcg,za7,zcf,za6,zce,za2,zpc,hE]
   exact LessQ.mk (Less.auto (n:=2) (by simp) (by simp) rfl rfl) hQ
 · intro i st hi hst K hK
   have hi':(i:Int)<u.length:=by omega
   have hw2:IntKind.i64.wrap ((i:Int)+1)=((i+1:Nat):Int):=zq (by omega)
   have hm5:(i*6) / 6=i:=by omega
   have hm6:(i*6) % 6=0:=by omega
   have hm7:(i*6+1) / 6=i:=by omega
   have hm8:(i*6+1) % 6=1:=by omega
   have hsl:st.length=u.length:=by rw[hst];simp;omega
   have hi2:i<st.length:=by omega
   have hx:st[i]=u[i]:=by
    have e:st[i]?=u[i]?:=by
     rw[hst,List.getElem?_append_right (by rw[List.length_map,List.length_take];exact Nat.min_le_left ..),List.length_map,List.length_take,Nat.min_eq_left (by omega),Nat.sub_self,List.getElem?_drop,Nat.add_zero]
    rw[List.getElem?_eq_getElem hi2,List.getElem?_eq_getElem hi]at e
    exact Option.some.inj e
   have hst2:st.set i (r4A u[i])=(u.take (i+1)).map r4A++u.drop (i+1):=by
    rw[hst,List.set_append_right _ _ (by rw[List.length_map,List.length_take];exact Nat.min_le_left ..),List.length_map,List.length_take,Nat.min_eq_left (by omega),Nat.sub_self,List.drop_eq_getElem_cons hi,List.set_cons_zero,List.take_add_one,List.getElem?_eq_getElem hi,Option.toList_some,List.map_append,List.append_assoc]
    rfl
   have hnew:=hK (st.set i (r4A u[i])) hst2
   have f1:replU u[i].type R4=some (u[i].type.repl R4):=if_pos ⟨ho _ (List.getElem_mem hi),by simp[R4]⟩
   unfold r4A at hnew
   clear hK hst2 hst hQ h0
   obtain⟨x,hxx⟩:∃ x,u[i]=x:=⟨_,rfl⟩
   rw[hxx]at hx hnew f1
   generalize x.type.repl R4=r at f1 hnew
   obtain⟨xi,xk,xn,xj,xh,xl⟩:=x
   obtain⟨rk,rn,ri,rh,rl⟩:=r
   simp only[R4,zA,tInt]at f1
   simp only at hnew
   have hset:(st.map zf).set i [.int .i64 xi,.int .i64 rk,.str rn,.int .i64 ri,.int .i64 rh,.sl (rl.map zh) false]=(st.set i ⟨xi,rk,rn,ri,rh,rl⟩).map zf:=by rw[List.map_set];rfl
   generalize st.set i ⟨xi,rk,rn,ri,rh,rl⟩=st2 at hset hnew
   simp[fS39l0,zcd,zcc,zcb,zca,zbZ,zbY,zbX,zci,zbW,zch,zbV,zbU,zaH,zaG,zaF,zaE,zaD,zaC,zaB,zaA,za8,zcg,za7,zcf,za6,zce,za2,zpc,hE,hi,hi',hi2,hsl,hm5,hm6,hm7,hm8,hx,hv,hi0,hr,zA,tInt,f1,hpos,hset,hw2,-Int.natCast_add]
   exact hnew _ _ (Less.auto (by simp[-Int.natCast_add]) (by simp) rfl rfl)
end
end Go.Proofs.YthfcfmkdeheicaaGreat
/- law18.solvable: its second loop. -/
namespace Go.Proofs.YthfcfmkdeheicaaGreat
open Go.J
open Go.J.Enc (enc)
set_option maxRecDepth 100000
set_option maxHeartbeats 1000000
theorem slvM_succ{t:Tp}{D:List Decl}{u:List Assign}(i:Nat):slvM t D u (i+1)=(
 let a:=typeM 2 (slvM t D u i).1 D (za0 4)
 let b:=typeM 1 a.1 D (za0 4)
 let c:=b.1.next 3
 if c.2=0 then (c.1,(slvM t D u i).2++[⟨a.2,a.2.repl u⟩])
 else if c.2=1∧u≠[]then ((c.1.next u.length).1,(slvM t D u i).2++[match u[(c.1.next u.length).2.toNat]? with
  |some x=>⟨zA x.id,x.type⟩
  |none=>⟨a.2,b.2⟩])
 else (c.1,(slvM t D u i).2++[⟨a.2,b.2⟩])):=rfl
section
variable {ρ:Nat→Value}(hρ:J.Good ρ){E:Env}(hE:E.P=Tryz.prog)(hcon:ConsOk ρ E)
include hρ hE hcon
theorem solvable_l1 (hm:E.con 14=modS) (hV:E.con 16=zbj) (hT:E.con 15=stS (stF3 (zmi 2))) (hn:E.con 56=stS (stF1 zly)) (hv:E.con 52=fnS (zan fun i:Int=>some (zA i))) (hr:E.con 25=fnS (zD replU)) {n:Int} {t:Tp} (ht:t.ok) {D:List Decl} (hD:DOk D) (hD3:DOk3 D) {u:List Assign} (hul:u.length≤1000) {N:Nat} (hN:modI n 5=(N:Int)) (hN5:N≤5) {Q:Ex→PT V→HS→Prop} {T0:PT V} {hs0:HS}
 (h0:Less 0 T0 hs0 (mkP [(2,.int .i64 n),(8,.ptr 0 0 0),(9,.sl (D.map zJ) false),(10,uV u),(12,.snil),(13,.int .i64 ((0:Nat):Int))]) { H:=mkP ([(0,box (Cel.cells t))]++uH false u),n:=3,log:=[] })
 (hQ:∀ fz,Q (.exit 2) (mkP [(10,uV u),(12,oV 2 ((slvM t D u N).2.map zz))]) { H:=mkP (uH fz u++oH 2 10 ((slvM t D u N).2.map zz)),n:=3,log:=[] }) :
 Ls ρ E 0 99 (.loop zf0) T0 hs0 Q:=by
 have hlv:=varTs_len 4
 have hF2:∀ w:Tp,w.ok→zmi 2 w D (za0 4) 2=some (typeM 2 w D (za0 4)):=fun w hw=>if_pos ⟨hw,hD,by simp,by decide⟩
 have hF1:∀ w:Tp,w.ok→zmi 2 w D (za0 4) 1=some (typeM 1 w D (za0 4)):=fun w hw=>if_pos ⟨hw,hD,by simp,by decide⟩
 refine lpi hρ hE hcon N (nn:=3) (fun i (st:Tp×List Equation×Bool)=>[(2,.int .i64 n),(8,.ptr 0 0 0),(9,.sl (D.map zJ) false),(10,uV u),(12,oV 2 (st.2.1.map zz)),(13,.int .i64 (i:Int))])
  (fun i st=>[(0,box (Cel.cells st.1))]++uH st.2.2 u++oH 2 10 (st.2.1.map zz)) (fun i st=>slvM t D u i=(st.1,st.2.1)∧st.1.ok) (t,[],false) (by simpa using h0) ⟨rfl,ht⟩ ?_ ?_
 · rintro ⟨w,X,fz⟩ ⟨h1,h2⟩ K
   rw[h1]at hQ
   have hQ:=hQ fz
   simp only at h2 hQ
   have hN':¬ (N:Int)<N:=by omega
   rcases u with _|⟨x,u⟩
   all_goals
    rcases X with _|⟨y,X⟩
    all_goals
     simp[zf0,zcd,zcc,zcb,zca,zbZ,zbY,zbX,zci,zbW,zch,zbV,zbU,zaH,zaG,zaF,zaE,zaD,zaC,zaB,zaA,za8,zcg,za7,zcf,za6,zce,za2,zpc,hE,hm,modS,hN,uV,uH]
     exact LessQ.mk (Less.auto (n:=3) (by simp[uV,uH]) (by simp[uV,uH]) (by first|rfl|simp) (by first|rfl|simp)) hQ
 · rintro i ⟨w,X,fz⟩ hi ⟨h1,h2⟩ K hK
   simp only at h2
   have hi':(i:Int)<N:=by omega
   have hw0:IntKind.i64.wrap 1=1:=rfl
   have hw2:IntKind.i64.wrap ((i:Int)+1)=((i+1:Nat):Int):=zq (by omega)
   have hXl:X.length=i:=by have:=slvM_len (t:=t) (D:=D) (u:=u) i;rw[h1]at this;exact this
   have hA:=hF2 w h2
   have ho1:=(zj2 (D:=D) (Lv:=za0 4) 2 w h2).1
   have hsi:=slvM_succ (t:=t) (D:=D) (u:=u) i
   rw[h1]at hsi
   simp only at hsi
   have na1:(typeM 2 w D (za0 4)).2.ok=true:=(typeM_nc hD3 (varTs_nc 4) 2 w (by decide):Nc 7 _).ok
   rcases hq1:typeM 2 w D (za0 4)with⟨w1,a⟩
   rw[hq1]at hA ho1 hsi na1
   simp only at ho1 hsi na1
   have hB:=hF1 w1 ho1
   have ho2:=(zj2 (D:=D) (Lv:=za0 4) 1 w1 ho1).1
   rcases hq2:typeM 1 w1 D (za0 4)with⟨w2,b⟩
   rw[hq2]at hB ho2 hsi
   simp only at ho2 hsi
   have hC:zly w2 3=some (w2.next 3):=if_pos ⟨ho2,by decide,by decide⟩
   have ho3:=zcJ ho2 3
   rcases hq3:w2.next 3 with⟨w3,c⟩
   rw[hq3]at hC ho3 hsi
   simp only at ho3 hsi
   have h128:∀ y Y,X=y::Y→(Y.length+1+1)*128≤1048576:=fun y Y e=>Nat.le_trans (Nat.mul_le_mul_right 128 (show Y.length+1+1≤102 by rw[e]at hXl;simp only[List.length_cons]at hXl;omega)) (by decide)
   have hRU:replU a u=some (a.repl u):=if_pos ⟨na1,by omega⟩
   clear hF1 hF2 h1 hq1 hq2 hq3 h0 hQ ht
   generalize hW:za0 4=W at hA hB hlv
   rcases W with _|⟨v0,W⟩
   · simp at hlv
   by_cases c0:c=0
   · subst c0
     rw[if_pos rfl]at hsi
     have hnew:=hK (w3,X++[⟨a,a.repl u⟩],true) ⟨hsi,ho3⟩
     clear hK hsi
     generalize a.repl u=ar at hRU hnew
     obtain⟨ak,an,ai,ah,al⟩:=a
     obtain⟨bk,bn,bi,bh,bl⟩:=b
     obtain⟨rk,rn,ri,rh,rl⟩:=ar
     rcases u with _|⟨x,u⟩
     · rcases X with _|⟨y,X⟩
       · simp[zf0,zcd,zcc,zcb,zca,zbZ,zbY,zbX,zci,zbW,zch,zbV,zbU,zaH,zaG,zaF,zaE,zaD,zaC,zaB,zaA,za8,zcg,za7,zcf,za6,zce,za2,zpc,hE,hm,modS,hN,hi,hi',hV,zbj,hW,hT,hA,hB,hn,hC,hr,hRU,uV,uH,hw2,-Int.natCast_add]
         exact hnew _ _ (Less.auto (by simp[hw0,uV,uH,-Int.natCast_add]) (by simp[uV,uH]) rfl rfl)
       · have h128:=h128 _ _ rfl
         simp[zf0,zcd,zcc,zcb,zca,zbZ,zbY,zbX,zci,zbW,zch,zbV,zbU,zaH,zaG,zaF,zaE,zaD,zaC,zaB,zaA,za8,zcg,za7,zcf,za6,zce,za2,zpc,hE,hm,modS,hN,hi,hi',hV,zbj,hW,hT,hA,hB,hn,hC,hr,hRU,uV,uH,h128,Nat.not_succ_le_self,hw2,-Int.natCast_add]
         exact hnew _ _ (Less.auto (by simp[hw0,uV,uH,-Int.natCast_add]) (by simp[uV,uH]) rfl rfl)
     · rcases X with _|⟨y,X⟩
       · simp[zf0,zcd,zcc,zcb,zca,zbZ,zbY,zbX,zci,zbW,zch,zbV,zbU,zaH,zaG,zaF,zaE,zaD,zaC,zaB,zaA,za8,zcg,za7,zcf,za6,zce,za2,zpc,hE,hm,modS,hN,hi,hi',hV,zbj,hW,hT,hA,hB,hn,hC,hr,hRU,uV,uH,hw2,-Int.natCast_add]
         exact hnew _ _ (Less.auto (by simp[hw0,uV,uH,-Int.natCast_add]) (by simp[uV,uH]) rfl rfl)
       · have h128:=h128 _ _ rfl
         simp[zf0,zcd,zcc,zcb,zca,zbZ,zbY,zbX,zci,zbW,zch,zbV,zbU,zaH,zaG,zaF,zaE,zaD,zaC,zaB,zaA,za8,zcg,za7,zcf,za6,zce,za2,zpc,hE,hm,modS,hN,hi,hi',hV,zbj,hW,hT,hA,hB,hn,hC,hr,hRU,uV,uH,h128,Nat.not_succ_le_self,hw2,-Int.natCast_add]
         exact hnew _ _ (Less.auto (by simp[hw0,uV,uH,-Int.natCast_add]) (by simp[uV,uH]) rfl rfl)
   · rw [if_neg c0]at hsi
     by_cases c1:c=1∧u≠[]
     · rw[if_pos c1]at hsi
       obtain⟨rfl,hne⟩:=c1
       have hN4:zly w3 u.length=some (w3.next u.length):=if_pos ⟨ho3,by omega,by omega⟩
       have ho4:=zcJ ho3 u.length
       obtain⟨j,hj,e1,e2⟩:=zfk w3 hne
       rw[e2]at hsi
       rcases hq4:w3.next u.length with⟨w4,q⟩
       rw[hq4]at hN4 ho4 hsi e1
       simp only at ho4 hsi e1
       subst e1
       have hnew:=hK (w4,X++[⟨zA u[j].id,u[j].type⟩],fz) ⟨hsi,ho4⟩
       clear hK hsi hq4 e2
       have hj':(j:Int)<u.length:=by omega
       have hm5:(j*6) / 6=j:=by omega
       have hm6:(j*6) % 6=0:=by omega
       have hm7:(j*6+1) / 6=j:=by omega
       have hm8:(j*6+1) % 6=1:=by omega
       have hpos:0<u.length:=by omega
       obtain⟨x,hx⟩:∃ x,u[j]=x:=⟨_,rfl⟩
       rw[hx]at hnew
       rw[uV_ne hne,uH_ne hne]at *
       obtain⟨ak,an,ai,ah,al⟩:=a
       obtain⟨bk,bn,bi,bh,bl⟩:=b
       obtain⟨xi,xk,xn,xj,xh,xl⟩:=x
       simp only at hnew
       rcases X with _|⟨y,X⟩
       · simp[zf0,zcd,zcc,zcb,zca,zbZ,zbY,zbX,zci,zbW,zch,zbV,zbU,zaH,zaG,zaF,zaE,zaD,zaC,zaB,zaA,za8,zcg,za7,zcf,za6,zce,za2,zpc,hE,hm,modS,hN,hi,hi',hV,zbj,hW,hT,hA,hB,hn,hC,hj,hj',hm5,hm6,hm7,hm8,hpos,hx,hN4,hv,zA,hw2,-Int.natCast_add]
         exact hnew _ _ (Less.auto (by simp[hw0,zA,-Int.natCast_add]) (by simp[zA]) rfl rfl)
       · have h128:=h128 _ _ rfl
         simp[zf0,zcd,zcc,zcb,zca,zbZ,zbY,zbX,zci,zbW,zch,zbV,zbU,zaH,zaG,zaF,zaE,zaD,zaC,zaB,zaA,za8,zcg,za7,zcf,za6,zce,za2,zpc,hE,hm,modS,hN,hi,hi',hV,zbj,hW,hT,hA,hB,hn,hC,hj,hj',hm5,hm6,hm7,hm8,hpos,hx,hN4,hv,zA,h128,Nat.not_succ_le_self,hw2,-Int.natCast_add]
         exact hnew _ _ (Less.auto (by simp[hw0,zA,-Int.natCast_add]) (by simp[zA]) rfl rfl)
     · rw [if_neg c1]at hsi
       have hnew:=hK (w3,X++[⟨a,b⟩],fz) ⟨hsi,ho3⟩
       clear hK hsi
       obtain⟨ak,an,ai,ah,al⟩:=a
       obtain⟨bk,bn,bi,bh,bl⟩:=b
       rcases u with _|⟨x,u⟩
       · rcases X with _|⟨y,X⟩
         · by_cases c2:c=1
           · subst c2
             simp[zf0,zcd,zcc,zcb,zca,zbZ,zbY,zbX,zci,zbW,zch,zbV,zbU,zaH,zaG,zaF,zaE,zaD,zaC,zaB,zaA,za8,zcg,za7,zcf,za6,zce,za2,zpc,hE,hm,modS,hN,hi,hi',hV,zbj,hW,hT,hA,hB,hn,hC,uV,uH,hw2,-Int.natCast_add]
             exact hnew _ _ (Less.auto (by simp[hw0,uV,uH,-Int.natCast_add]) (by simp[uV,uH]) rfl rfl)
           · simp[zf0,zcd,zcc,zcb,zca,zbZ,zbY,zbX,zci,zbW,zch,zbV,zbU,zaH,zaG,zaF,zaE,zaD,zaC,zaB,zaA,za8,zcg,za7,zcf,za6,zce,za2,zpc,hE,hm,modS,hN,hi,hi',hV,zbj,hW,hT,hA,hB,hn,hC,c0,c2,uV,uH,hw2,-Int.natCast_add]
             exact hnew _ _ (Less.auto (by simp[hw0,uV,uH,-Int.natCast_add]) (by simp[uV,uH]) rfl rfl)
         · have h128:=h128 _ _ rfl
           by_cases c2:c=1
           · subst c2
             simp[zf0,zcd,zcc,zcb,zca,zbZ,zbY,zbX,zci,zbW,zch,zbV,zbU,zaH,zaG,zaF,zaE,zaD,zaC,zaB,zaA,za8,zcg,za7,zcf,za6,zce,za2,zpc,hE,hm,modS,hN,hi,hi',hV,zbj,hW,hT,hA,hB,hn,hC,uV,uH,h128,Nat.not_succ_le_self,hw2,-Int.natCast_add]
             exact hnew _ _ (Less.auto (by simp[hw0,uV,uH,-Int.natCast_add]) (by simp[uV,uH]) rfl rfl)
           · simp[zf0,zcd,zcc,zcb,zca,zbZ,zbY,zbX,zci,zbW,zch,zbV,zbU,zaH,zaG,zaF,zaE,zaD,zaC,zaB,zaA,za8,zcg,za7,zcf,za6,zce,za2,zpc,hE,hm,modS,hN,hi,hi',hV,zbj,hW,hT,hA,hB,hn,hC,c0,c2,uV,uH,h128,Nat.not_succ_le_self,hw2,-Int.natCast_add]
             exact hnew _ _ (Less.auto (by simp[hw0,uV,uH,-Int.natCast_add]) (by simp[uV,uH]) rfl rfl)
       · rcases X with _|⟨y,X⟩
         · have c2:¬ c=1:=fun e=>c1 ⟨e,by simp⟩
           simp[zf0,zcd,zcc,zcb,zca,zbZ,zbY,zbX,zci,zbW,zch,zbV,zbU,zaH,zaG,zaF,zaE,zaD,zaC,zaB,zaA,za8,zcg,za7,zcf,za6,zce,za2,zpc,hE,hm,modS,hN,hi,hi',hV,zbj,hW,hT,hA,hB,hn,hC,c0,c2,uV,uH,hw2,-Int.natCast_add]
           exact hnew _ _ (Less.auto (by simp[hw0,uV,uH,-Int.natCast_add]) (by simp[uV,uH]) rfl rfl)
         · have h128:=h128 _ _ rfl
           have c2:¬ c=1:=fun e=>c1 ⟨e,by simp⟩
           simp[zf0,zcd,zcc,zcb,zca,zbZ,zbY,zbX,zci,zbW,zch,zbV,zbU,zaH,zaG,zaF,zaE,zaD,zaC,zaB,zaA,za8,zcg,za7,zcf,za6,zce,za2,zpc,hE,hm,modS,hN,hi,hi',hV,zbj,hW,hT,hA,hB,hn,hC,c0,c2,uV,uH,h128,Nat.not_succ_le_self,hw2,-Int.natCast_add]
           exact hnew _ _ (Less.auto (by simp[hw0,uV,uH,-Int.natCast_add]) (by simp[uV,uH]) rfl rfl)
end
end Go.Proofs.YthfcfmkdeheicaaGreat
/- law18.solvable,joined. -/
namespace Go.Proofs.YthfcfmkdeheicaaGreat
open Go.J
open Go.J.Enc (enc)
set_option maxRecDepth 100000
set_option maxHeartbeats 1000000
def slvU(bits:Int)(codes:List Int):List Assign:=(zam ⟨codes,0⟩ (zaI bits) 4 4).2.map r4A
def slvL(bits:Int)(codes:List Int)(n:Int):List Equation:=(slvM (zam ⟨codes,0⟩ (zaI bits) 4 4).1 (zaI bits) (slvU bits codes) (modI n 5).toNat).2
def slvF(bits:Int)(codes:List Int)(n:Int):Option (List Equation×List Assign):=if codes.length≤60 then some (slvL bits codes n,slvU bits codes)else none
section
variable {ρ:Nat→Value}(hρ:J.Good ρ)
include hρ
section
variable {E:Env}(hE:E.P=Tryz.prog)(hcon:ConsOk ρ E)
include hE hcon
theorem solvable_l0n{n:Int}{t:Tp}{D:List Decl}{Q:Ex→PT V→HS→Prop}{T0:PT V}{hs0:HS}
 (h0:Less 0 T0 hs0 (mkP [(2,.int .i64 n),(8,.ptr 0 0 0),(9,.sl (D.map zJ) false),(10,.snil),(11,.int .i64 ((0:Nat):Int))]) { H:=mkP [(0,box (Cel.cells t))],n:=2,log:=[] })
 (hQ:Q (.exit 0) (mkP [(2,.int .i64 n),(8,.ptr 0 0 0),(9,.sl (D.map zJ) false),(10,.snil)]) { H:=mkP [(0,box (Cel.cells t))],n:=2,log:=[] }) :
 Ls ρ E 0 99 (.loop fS39l0) T0 hs0 Q:=by
 refine lpi hρ hE hcon 0 (nn:=2) (fun i (_:Unit)=>[(2,.int .i64 n),(8,.ptr 0 0 0),(9,.sl (D.map zJ) false),(10,.snil),(11,.int .i64 (i:Int))])
  (fun i st=>[(0,box (Cel.cells t))]) (fun i st=>True) () h0 trivial ?_ ?_
 · intro _ _ K
   simp[fS39l0,zcd,zcc,zcb,zca,zbZ,zbY,zbX,zci,zbW,zch,zbV,zbU,zaH,zaG,zaF,zaE,zaD,zaC,zaB,zaA,za8,zcg,za7,zcf,za6,zce,za2,zpc,hE]
   exact LessQ.mk (Less.auto (n:=2) (by simp) (by simp) rfl rfl) hQ
 · intro i _ hi
   omega
theorem solvable_run(hDa:E.con 12=fnS (zan fun bits:Int=>some (zaI bits)))(hS:E.con 42=zdo zoq)(hi0:E.con 49=fnS (zlp tInt))(hm:E.con 14=modS)(hV:E.con 16=zbj)(hT:E.con 15=stS (stF3 (zmi 2)))(hn:E.con 56=stS (stF1 zly))(hv:E.con 52=fnS (zan fun i:Int=>some (zA i)))(hr:E.con 25=fnS (zD replU))
 {bits:Int} {codes:List Int} {n:Int} (c1:codes.length≤60) (hs:HS):CallOk ρ Tryz.prog 39 [enc bits,enc codes,enc n] hs (enc (slvL bits codes n,slvU bits codes)) hs:=by
 refine fn hρ hE hcon Tryz.func39 fB39 rfl (by simp) ?_ hs
 have htp:(⟨codes,0⟩:Tp).ok:=⟨Int.le_refl _,by show codes.length≤100000;omega⟩
 have hD3:=zkX bits
 have hDk:=datasOf_ok bits
 obtain⟨N,hN⟩:∃ N:Nat,modI n 5=(N:Int):=⟨(modI n 5).toNat,by have:=zkf n 5;omega⟩
 have hN5:N≤5:=by have h2:modI n 5<5:=modI_lt (by decide);omega
 generalize hU:slvU bits codes=U
 generalize hL:slvL bits codes n=L
 unfold slvL at hL
 rw[hU,hN,Int.toNat_natCast]at hL
 unfold slvU at hU
 generalize hDq:zaI bits=D at hD3 hDk hU hL
 have g1:substF ⟨codes,0⟩ D 4=some (zam ⟨codes,0⟩ D 4 4):=if_pos ⟨htp,hDk,by decide,by decide⟩
 have o1:=zor htp D 4 4
 have na:=substM_nc hD3 ⟨codes,0⟩ 4 4
 generalize zam ⟨codes,0⟩ D 4 4=X at g1 o1 na hU hL
 obtain⟨t1,u⟩:=X
 simp only at o1 na hU hL
 have oa:okA u:=fun x hx=>(na x hx).ok
 have hUl:U.length=u.length:=by rw[← hU,List.length_map]
 have hl1:=fun (Q) (T0) (hs0)=>solvable_l1 (n:=n) (t:=t1) (D:=D) (u:=U) (N:=N) (Q:=Q) (T0:=T0) (hs0:=hs0) hρ hE hcon hm hV hT hn hv hr o1.1 hDk hD3 (by omega) hN hN5
 simp only[hL]at hl1
 by_cases hu:u=[]
 · subst hu
   have hU0:U=[]:=hU.symm
   subst hU0
   clear hL hU
   simp[zcd,zcc,zcb,zca,zbZ,zbY,zbX,zci,zbW,zch,zbV,zbU,zaH,zaG,zaF,zaE,zaD,zaC,zaB,zaA,za8,zcg,za7,zcf,za6,zce,za2,zpc,hE,hDa,hDq,hS,g1,vacant_eq,substRD_nil.1,substRD_nil.2]
   refine solvable_l0n hρ hE hcon (n:=n) (t:=t1) (D:=D) (Less.auto (by simp) (by simp) rfl rfl) ?_
   simp[zcd,zcc,zcb,zca,zbZ,zbY,zbX,zci,zbW,zch,zbV,zbU,zaH,zaG,zaF,zaE,zaD,zaC,zaB,zaA,za8,zcg,za7,zcf,za6,zce,za2,zpc,hE]
   refine hl1 _ _ _ (Less.auto (by simp[uV,uH]) (by simp[uV,uH]) rfl rfl) fun fz=>?_
   rcases L with _|⟨y,L⟩<;>simp[zcd,zcc,zcb,zca,zbZ,zbY,zbX,zci,zbW,zch,zbV,zbU,zaH,zaG,zaF,zaE,zaD,zaC,zaB,zaA,za8,zcg,za7,zcf,za6,zce,za2,zpc,hE,uV,uH]
 · have hul:u.length≤1000:=by omega
   have hl0:=fun (Q) (T0) (hs0)=>solvable_l0 (n:=n) (t:=t1) (D:=D) (u:=u) (Q:=Q) (T0:=T0) (hs0:=hs0) hρ hE hcon hv hi0 hr hu hul oa
   simp only[hU]at hl0
   obtain⟨x,X,rfl⟩:=List.exists_cons_of_ne_nil hu
   rcases U with _|⟨x2,X2⟩
   · simp at hUl
   have hXl:X2.length=X.length:=by simpa using hUl
   clear hL hU na oa hUl
   simp[zcd,zcc,zcb,zca,zbZ,zbY,zbX,zci,zbW,zch,zbV,zbU,zaH,zaG,zaF,zaE,zaD,zaC,zaB,zaA,za8,zcg,za7,zcf,za6,zce,za2,zpc,hE,hDa,hDq,hS,g1,vacant_eq,substRD_cons.1,substRD_cons.2]
   refine hl0 _ _ _ (Less.auto (by simp) (by simp) rfl rfl) ?_
   simp[zcd,zcc,zcb,zca,zbZ,zbY,zbX,zci,zbW,zch,zbV,zbU,zaH,zaG,zaF,zaE,zaD,zaC,zaB,zaA,za8,zcg,za7,zcf,za6,zce,za2,zpc,hE]
   refine hl1 _ _ _ (Less.auto (by simp[uV,uH,hXl]) (by simp[uV,uH,hXl]) rfl rfl) fun fz=>?_
   rcases L with _|⟨y,L⟩<;>simp[zcd,zcc,zcb,zca,zbZ,zbY,zbX,zci,zbW,zch,zbV,zbU,zaH,zaG,zaF,zaE,zaD,zaC,zaB,zaA,za8,zcg,za7,zcf,za6,zce,za2,zpc,hE,uV,uH]
end
theorem vSolvable:Valid ρ Tryz.prog 39 (fnS (zfY slvF)):=v3 (fo Tryz.func39 fB39) fun a b c r h hs=>by
 obtain⟨h1,rfl⟩:=z8 h
 exact solvable_run hρ (E:=EL [(12,fnS (zan fun bits:Int=>some (zaI bits))),(42,zdo zoq),(49,fnS (zlp tInt)),(14,modS),(16,zbj),(15,stS (stF3 (zmi 2))),(56,stS (stF1 zly)),(52,fnS (zan fun i:Int=>some (zA i))),(25,fnS (zD replU))]) rfl
  (zg (za (vDatas hρ) (za (vSubstR hρ) (za (vInt hρ) (za (vMod hρ) (za (vMkVars hρ) (za (vType hρ 2 (by omega)) (za (vNext hρ) (za (vVar hρ) (za (vReplU hρ) valid_nil)))))))))) rfl rfl rfl rfl rfl rfl rfl rfl rfl h1 hs
end
end Go.Proofs.YthfcfmkdeheicaaGreat
