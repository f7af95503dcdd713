import Derived.Test.YtpcmebclpindjaaGreatZX1
import Derived.Test.YtpcmebclpindjaaGreatZAL
import Derived.Test.YtpcmebclpindjaaGreatJN
set_option linter.all false
noncomputable section
/- Tapes: the contracts joined. -/
namespace Go.Proofs.YtpcmebclpindjaaGreat
open Go.J
open Go.J.Enc (enc)
set_option maxRecDepth 100000
set_option maxHeartbeats 4000000
section
variable {ρ:Nat->Value}(hρ:J.Good ρ)
include hρ
theorem zkc(d:Nat)(hd:d<=1000){S:J.Spec}(hv:Valid ρ Tryz.prog 15 S){t:Tp}{D:List Decl}{Lv:List Ty}{n:Int}(hS:0<n->S=stS (zjj (zf8 d)))(h1:t.ok)(h2:DOk D)(h3:Lv.length<=100000)(h4:n<=d+1)(hs:HS)(id:Nat)(hid:id<hs.n)(hg:hs.H.get id=some (box (Cel.cells t))) :
 CallOk ρ Tryz.prog 15 [.ptr id 0 0,enc D,enc Lv,enc n] hs (enc (typeM n.toNat t D Lv).2) (hs.wr id (box (Cel.cells (typeM n.toNat t D Lv).1))) :=
 zfk hρ (E:=EL [(55,stS (zkk zey)),(56,zGk),(27,fnS (zex tInt)),(42,fnS (zH fun a b:Ty=>some (zbI a b))),(15,S)]) rfl
  (zf (za (zpV hρ) (za (zHc hρ) (za (zKk hρ) (za (zyt hρ) (za hv valid_nil)))))) rfl rfl rfl rfl hS h1 h2 h3 h4 hd hs id hid hg
def noS:J.Spec:=fun _ _=>none
omit hρ in
theorem zGZ{f:Nat}(hf:zeT Tryz.prog f):Valid ρ Tryz.prog f noS where
 fn:=hf
 ok:=fun {_ _ _ _} h=>by cases h
 kept:=fun {_ _ _} h=>by cases h
theorem z9I(d:Nat)(hd:d<=1000):Valid ρ Tryz.prog 15 (stS (zjj (zf8 d))):=by
 induction d with
 | zero =>
   refine s3 (fo Tryz.func15 zFI) fun s a b c q h hs id hid hg=>?_
   obtain⟨⟨h1,h2,h3,h4⟩,rfl⟩:=zo h;exact zkc hρ 0 hd (zGZ (fo Tryz.func15 zFI)) (fun h=>by omega) h1 h2 h3 (by omega) hs id hid hg
 | succ d ih =>
   refine s3 (fo Tryz.func15 zFI) fun s a b c q h hs id hid hg=>?_
   obtain⟨⟨h1,h2,h3,h4⟩,rfl⟩:=zo h;exact zkc hρ d (by omega) (ih (by omega)) (fun _=>rfl) h1 h2 h3 (by omega) hs id hid hg
omit hρ in
theorem zl3{f:Nat}{vs:List V}{hs hs':HS}{v r:V}(h:CallOk ρ Tryz.prog f vs hs v hs')(e:zac v=r):CallOk ρ Tryz.prog f vs hs r hs':=by
 intro X w F μ xs hR hD hO hA;refine CallsIn.mono (h X w F μ xs hR hD hO hA) fun e' w' he=>?_
 cases e' with
 | returned x =>
   obtain⟨F1,μ1,g1,g2,g3⟩:=he;exact⟨F1,μ1,g1,by rw[<- e];exact g2.norm,g3⟩
 |panicked c=>exact he
 |outgrown=>exact he
theorem zNM:Valid ρ Tryz.prog 57 (fnS (zex allD)):=v0 (zB3 Tryz.func57 (by kernel_rfl)) fun hs=>zl3
 (zdt hρ (E:=EL [(213,zk3 zw4)]) (zf (za (zoG hρ) valid_nil)) follows named z6O rfl) (by kernel_rfl)
theorem zyr:Valid ρ Tryz.prog 16 (fnS (zy fun bits:Int=>some (zD bits))):=v1 (fo Tryz.func16 zNa) fun a r h hs=>by
 cases h;exact zit hρ (E:=EL [(57,fnS (zex allD))]) rfl (zf (za (zNM hρ) valid_nil)) rfl hs
def zha:J.Spec:=zy1 5 (fun vs=>ob (zy (fun n:Int=>if 0<=n/\n<=10000 then some (zcc n.toNat)else none) vs) fun v=>match v with|.sl es _=>some es|_=>none)
theorem zpX:Valid ρ Tryz.prog 25 zha:=Valid.row (fo Tryz.func25 zMW) fun vs es _ h hs hv=>by
 rw[zb]at h;obtain⟨v,h1,h2⟩:=h;obtain⟨n,r,rfl,h3,rfl⟩:=zgG h1;obtain⟨⟨h4,h5⟩,rfl⟩:=zo h3;obtain⟨m,rfl⟩:=Int.eq_ofNat_of_zero_le h4;cases h2;exact zj3 hρ (E:=EL [(26,fnS (zy fun i:Int=>some (za0 i)))]) rfl (zf (za (zNH hρ) valid_nil)) rfl (by omega) hv
end
@[simp] theorem zOp {k:IntKind}:(V.int k 2).nat?=some 2:=(rfl)
@[simp] theorem zOo {k:IntKind}:(V.int k 3).nat?=some 3:=(rfl)
@[simp] theorem zOn {k:IntKind}:(V.int k 4).nat?=some 4:=(rfl)
@[simp] theorem zOm {k:IntKind}:(V.int k 5).nat?=some 5:=(rfl)
@[simp] theorem zOl {k:IntKind}:(V.int k 6).nat?=some 6:=(rfl)
@[simp] theorem zOk {k:IntKind}:(V.int k 7).nat?=some 7:=(rfl)
section
variable {ρ:Nat->Value}(hρ:J.Good ρ){E:Env}(hE:E.P=Tryz.prog)(hcon:ConsOk ρ E)
include hρ hE hcon
theorem zio{t:Ty}(hs:HS):CallOk ρ Tryz.prog 63 [enc t] hs (enc (mono t)) hs:=by
 refine fn hρ hE hcon Tryz.func63 zMH rfl (by simp) ?_ hs;simp [hE,mono]
theorem zin{l:List Entry}{n:List Nat}{c:Scheme}(hl:l.length<=1000)(hs:HS):CallOk ρ Tryz.prog 79 [enc l,enc n,enc c] hs (enc (l++[⟨n,c⟩])) hs:=by
 refine fn hρ hE hcon Tryz.func79 zME rfl (by simp) ?_ hs;rcases l with _|⟨x,l⟩
 . simp [hE]
 . have hl1:l.length+1<=1000:=hl;have k1:(l.length+1)*88<=1048576:=Nat.le_trans (Nat.mul_le_mul_right 88 hl1) (by decide);have k2:(l.length+1+1)*88<=1048576:=Nat.le_trans (Nat.mul_le_mul_right 88 (Nat.succ_le_succ hl1)) (by decide);simp [hE,k1,k2,Nat.not_succ_le_self]
theorem zdD(hN:E.con 55=stS (zkk zey)){t:Tp}(ht:t.ok)(hs:HS)(id:Nat)(hid:id<hs.n)(hg:hs.H.get id=some (box (Cel.cells t))) :
 CallOk ρ Tryz.prog 65 [.ptr id 0 0] hs (enc (zf5 t)) (hs.wr id (box (Cel.cells (t.next 8).1))):=by
 unfold zf5;have hF:zey t 8=some (t.next 8):=if_pos ⟨ht,by omega,by omega⟩;have hk0:=zfK t 8;have hk1:=zgX t (n:=8) (by omega);rcases hq:t.next 8 with⟨t1,k⟩;simp only[hq]at hF hk0 hk1 ⊢;obtain⟨j,rfl⟩:=Int.eq_ofNat_of_zero_le hk0;have hj:j=0\/j=1\/j=2\/j=3\/j=4\/j=5\/j=6\/j=7:=by omega
 clear hk0 hk1 hq;rw[Int.toNat_natCast]
 rcases hj with rfl|rfl|rfl|rfl|rfl|rfl|rfl|rfl <;>
 . refine st hρ hE hcon Tryz.func65 zMF rfl (by simp) (by simp) (by simp) (by simp) ?_ hid hg;simp [hE,hN,hF,zmW];exact GivesL.keep rfl rfl (by simp) (by simp) (by simp)
end
section
variable {ρ:Nat->Value}(hρ:J.Good ρ){E:Env}(hE:E.P=Tryz.prog)(hcon:ConsOk ρ E)
include hρ hE hcon
theorem zgO{l:List Entry}(hl:l.length<=10000)(hs:HS):CallOk ρ Tryz.prog 46 [enc l] hs (enc (l.map (·.name))) hs:=by
 refine fn hρ hE hcon Tryz.func46 zMM rfl (by simp) ?_ hs;simp [hE]
 refine lpi hρ hE hcon l.length (nn:=1) (fun i (L:List (List Nat))=>[(0,.sl (l.map zL) false),(3,oV 0 (L.map encS)),(4,.int .i64 (i:Int))]) (fun i L=>oH 0 1 (L.map encS)) (fun i L=>L=(l.take i).map (·.name)) []
  (Less.auto (by simp) (by simp) rfl rfl) rfl ?_ ?_
 . intro L hL K;rw[List.take_length]at hL;rw[<- hL];clear hL;rcases L with _|⟨x,L⟩<;>simp [zn6,hE]
   . refine LessQ.mk (Less.auto (TL:=[(3,.snil)]) (HL:=[]) (n:=1) (by simp) (by simp) rfl rfl) ?_;simp [hE]
   . refine LessQ.mk (Less.auto (TL:=[(3,oV 0 ((x::L).map encS))]) (HL:=oH 0 1 ((x::L).map encS)) (n:=1) (by simp) (by simp) rfl rfl) ?_;simp [hE]
 . intro i L hi hL K hK;have hi':(i:Int)<l.length:=by omega
   have hw2:IntKind.i64.wrap ((i:Int)+1)=((i+1:Nat):Int):=zw (by omega);have hnew:=hK (L++[l[i].name]) (by rw[List.take_add_one,List.getElem?_eq_getElem hi,Option.toList_some,List.map_append,hL];rfl);have hLl:L.length=i:=by rw[hL,List.length_map,List.length_take];omega
   clear hL;rcases L with _|⟨x,L⟩
   . simp [zn6,hE,hi,hi',hw2,-Int.natCast_add];exact hnew _ _ (Less.auto (by simp[-Int.natCast_add]) (by simp) rfl rfl)
   . have h64:(L.length+1+1)*16<=1048576:=Nat.le_trans (Nat.mul_le_mul_right 16 (show L.length+1+1<=10001 by simp at hLl;omega)) (by decide);simp [zn6,hE,hi,hi',hw2,h64,Nat.not_succ_le_self,-Int.natCast_add];exact hnew _ _ (Less.auto (by simp[-Int.natCast_add]) (by simp) rfl rfl)
theorem zgQ {d:Nat} (hV:E.con 61=fnS (zy fun l:List Ty=>if Ty.oks l=true/\l.length<=10000/\Ty.sizes l<=d then some (zcb l)else none)) (hH:E.con 126=fnC (zH fun (l:List Int) (x:Int)=>if l.length<=1000000 then some (decide (x∈l))else none))
 (hB:E.con 53=fnS (zy fun i=>some (zaU i))) (hR:E.con 62=fnS (zH (zjl d))) {t:Ty} {ids:List Int} (ht:t.ok=true) (hd:t.size<=d) (hd2:d<=10000) (hids:ids.length<=10000) (hs:HS):CallOk ρ Tryz.prog 64 [enc t,enc ids] hs (enc (zdl t ids)) hs:=by
 refine fn hρ hE hcon Tryz.func64 zMG rfl (by simp) ?_ hs;have ho:Ty.oks [t]=true:=by simp[Ty.oks,ht]
 have hsz:Ty.sizes [t]<=d:=by simpa [Ty.sizes]using hd
 have hvl:(zcb [t]).length<=10000:=by
  have h1:=zkM (zx 1 [t] []);have h2:=(zbc 1 [t] []).2;simp only[zcb,List.length_nil]at h1 h2 ⊢;omega
 have hids2:ids.length<=1000000:=by omega
 simp [hE,hV,ho,hsz];unfold zdl;generalize zcb [t]=vs at hvl
 refine lpi hρ hE hcon vs.length (nn:=3) (fun i (L:List Assign)=>[(1,.sl (ids.map encI) false),(2,.ptr 0 0 0),(4,.ptr 1 0 0),(5,.sl (vs.map encI) false),(6,oV 2 (L.map zX)),(7,.int .i64 (i:Int))])
  (fun i L=>[(0,box (zg t)),(1,box [.int .i64 0,.int .i64 0,.str [],.int .i64 0,.int .i64 0,.snil])]++oH 2 6 (L.map zX)) (fun i L=>L=zcp (vs.take i) ids []) []
  (Less.auto (by simp) (by simp) (by simp) rfl) (by simp[zcp]) ?_ ?_
 . intro L hL K;rw[List.take_length]at hL;have hLl:=(ziZ vs ids []).2;rw[<- hL]at hLl ⊢;clear hL;have hrep:zjl d t L=some (t.repl L):=by unfold zjl;rw[if_pos ⟨ht,hd,by simp at hLl;omega⟩]
   rcases L with _|⟨x,L⟩<;>simp [zkW,hE]
   . refine LessQ.mk (Less.auto (TL:=[(2,.ptr 0 0 0),(4,.ptr 1 0 0),(6,.snil)]) (HL:=[(0,box (zg t)),(1,box [.int .i64 0,.int .i64 0,.str [],.int .i64 0,.int .i64 0,.snil])]) (n:=3) (by simp) (by simp) (by simp) rfl) ?_;simp [hE,hR,hrep]
   . refine LessQ.mk (Less.auto (TL:=[(2,.ptr 0 0 0),(4,.ptr 1 0 0),(6,oV 2 ((x::L).map zX))]) (HL:=[(0,box (zg t)),(1,box [.int .i64 0,.int .i64 0,.str [],.int .i64 0,.int .i64 0,.snil])]++oH 2 6 ((x::L).map zX)) (n:=3) (by simp) (by simp) (by simp) rfl) ?_;simp [hE,hR,hrep]
 . intro i L hi hL K hK;have hi':(i:Int)<vs.length:=by omega
   have hw2:IntKind.i64.wrap ((i:Int)+1)=((i+1:Nat):Int):=zw (by omega);have hnew:=hK (if vs[i]∈ids then L++[⟨vs[i],zaU L.length⟩]else L) (by rw[List.take_add_one,List.getElem?_eq_getElem hi,Option.toList_some,zpv,<- hL];simp[zcp])
   have hLl:L.length<=i:=by
    have:=(ziZ (vs.take i) ids []).2;rw[<- hL,List.length_take,List.length_nil]at this;omega
   clear hL;by_cases hv:vs[i]∈ids
   . rw[if_pos hv]at hnew;rcases L with _|⟨x,L⟩
     . simp [zkW,hE,hi,hi',hw2,hH,hids2,hv,hB,-Int.natCast_add];exact hnew _ _ (Less.auto (by simp[-Int.natCast_add]) (by simp) (by simp) rfl)
     . have h64:(L.length+1+1)*72<=1048576:=Nat.le_trans (Nat.mul_le_mul_right 72 (show L.length+1+1<=10001 by simp at hLl;omega)) (by decide);simp [zkW,hE,hi,hi',hw2,hH,hids2,hv,hB,h64,Nat.not_succ_le_self,-Int.natCast_add];exact hnew _ _ (Less.auto (by simp[-Int.natCast_add]) (by simp) (by simp) rfl)
   . rw[if_neg hv]at hnew;rcases L with _|⟨x,L⟩<;>simp [zkW,hE,hi,hi',hw2,hH,hids2,hv,-Int.natCast_add]<;>exact hnew _ _ (Less.auto (by simp[-Int.natCast_add]) (by simp) (by simp) rfl)
end
def zFn{α:Type}(f:α->List V):List α->V
 | []=>.snil
 |x::l=>.sl ((x::l).map f) false
@[simp] theorem zFm {α:Type} {f:α->List V}:zFn f []=.snil:=(rfl)
@[simp] theorem zBe {α:Type} {f:α->List V} {x:α} {l:List α}:zFn f (x::l)=.sl ((x::l).map f) false:=(rfl)
section
variable {ρ:Nat->Value}(hρ:J.Good ρ){E:Env}(hE:E.P=Tryz.prog)(hcon:ConsOk ρ E)
include hρ hE hcon
open Classical in
theorem zdR (hN:E.con 55=stS (zkk zey)) (hT:E.con 15=stS (zjj (zf8 2))) (hVn:E.con 65=stS (zAh fun t:Tp=>if t.ok then some ((t.next 8).1,zf5 t)else none))
 (hVs:E.con 25=zy1 5 (fun vs=>ob (zy (fun n:Int=>if 0<=n/\n<=10000 then some (zcc n.toNat)else none) vs) fun v=>match v with|.sl es _=>some es|_=>none))
 (hRg:E.con 28=fnS (zH fun h i=>some (zaq h i))) (hMo:E.con 63=fnS (zy fun t=>some (mono t))) (hPu:E.con 79=fnS (zjk fun (l:List Entry) (n:List Nat) (c:Scheme)=>if l.length<=1000 then some (l++[⟨n,c⟩])else none))
 (hCl:E.con 64=fnS (zH fun (t:Ty) (ids:List Int)=>if t.ok=true/\t.size<=1000/\ids.length<=10000 then some (zdl t ids)else none))
 {t:Tp} {D:List Decl} (ht:t.ok) (hD:DOk D) (hTy:∀ (t:Tp) (Lv:List Ty),(∀ l∈Lv,l.ok=true/\l.size<=1)->(typeM 2 t D Lv).2.ok=true/\(typeM 2 t D Lv).2.size<=1000) (hs:HS) (id:Nat) (hid:id<hs.n) (hg:hs.H.get id=some (box (Cel.cells t))) :
 CallOk ρ Tryz.prog 32 [.ptr id 0 0,enc D] hs (enc (zbG t D).2) (hs.wr id (box (Cel.cells (zbG t D).1))):=by
 have hF4:∀ t':Tp,t'.ok->zey t' 4=some (t'.next 4):=fun t' h=>if_pos ⟨h,by omega,by omega⟩
 have ht1:=zO ht 4;have hk0:=zfK t 4;have hk1:=zgX t (n:=4) (by omega);have hF:=hF4 t ht;generalize hR:zbG t D=R;unfold zbG at hR;rcases hq:t.next 4 with⟨t1,k⟩;simp only[hq]at hF hk0 hk1 ht1 hR;obtain⟨m,rfl⟩:=Int.eq_ofNat_of_zero_le hk0;rw[Int.toNat_natCast]at hR;have hm:m<=3:=by omega
 have hTF:∀ (t':Tp) (Lv:List Ty),t'.ok->Lv.length<=100000->zf8 2 t' D Lv 2=some (typeM 2 t' D Lv):=fun t' Lv h hl=>by
  unfold zf8;rw[if_pos ⟨h,hD,hl,by omega⟩];rfl
 have hlv:za7=[zaq 0 0,zaq 3 1]:=rfl;have hv2:zcc 2=[za0 0,za0 1]:=rfl;have hce:=zm7 (D:=D) ht1 m;refine st hρ hE hcon Tryz.func32 zMS rfl (by simp) (by simp) (by simp) ?_ ?_ hid hg
 . subst hR;simp
 simp [hE,hN,hF,hRg]
 refine lpi hρ hE hcon m (nn:=3) (fun i (p:Tp×List Entry)=>[(0,.ptr 0 0 0),(1,.sl (D.map zq) false),(5,.ptr 1 0 0),(6,.sl [zg (zaq 0 0),zg (zaq 3 1)] true),(7,zFn zL p.2),(8,.int .i64 (m:Int)),(9,.int .i64 (i:Int))])
  (fun i p=>[(0,box (Cel.cells p.1)),(1,box [.int .i64 0,.str [],.int .i64 0,.int .i64 0,.snil])]) (fun i p=>p=zlI D t1 i) (t1,[])
  (Less.auto (by simp) (by simp) (by simp) rfl) rfl ?_ ?_
 . intro p hp K;rw[<- hp]at hR hce;have hF2:=hTF p.1 [zaq 0 0,zaq 3 1] hce.1 (by simp);obtain⟨t2,L⟩:=p;simp only[hlv]at hR hF2;rcases hq2:typeM 2 t2 D [zaq 0 0,zaq 3 1]with⟨t3,g⟩;simp only[hq2]at hR hF2;subst hR;rcases L with _|⟨x,L⟩<;>simp [ziM,hE]
   . refine LessQ.mk (Less.auto (TL:=[(0,.ptr 0 0 0),(1,.sl (D.map zq) false),(5,.ptr 1 0 0),(6,.sl [zg (zaq 0 0),zg (zaq 3 1)] true),(7,.snil)]) (HL:=[(0,box (Cel.cells t2)),(1,box [.int .i64 0,.str [],.int .i64 0,.int .i64 0,.snil])]) (n:=3) (by simp) (by simp) (by simp) rfl) ?_;simp [hE,hT,hF2];exact GivesL.keep rfl rfl (by simp) (by simp) (by simp)
   . refine LessQ.mk (Less.auto (TL:=[(0,.ptr 0 0 0),(1,.sl (D.map zq) false),(5,.ptr 1 0 0),(6,.sl [zg (zaq 0 0),zg (zaq 3 1)] true),(7,zFn zL (x::L))]) (HL:=[(0,box (Cel.cells t2)),(1,box [.int .i64 0,.str [],.int .i64 0,.int .i64 0,.snil])]) (n:=3) (by simp) (by simp) (by simp) rfl) ?_;simp [hE,hT,hF2];exact GivesL.keep rfl rfl (by simp) (by simp) (by simp)
 . intro i p hi hp K hK;have hpe:=zm7 (D:=D) ht1 i;rw[<- hp]at hpe;have hi':(i:Int)<m:=by omega
   have hw2:IntKind.i64.wrap ((i:Int)+1)=((i+1:Nat):Int):=zw (by omega);have hnew:=hK (zhI D p) (by rw[hp];rfl);have hLl:p.2.length<=1000:=by omega
   have ht8:=zO hpe.1 8;have hVn1:=hpe.1;obtain⟨t2,L⟩:=p;simp only at hLl ht8 hVn1;have hF5:=hF4 _ ht8;unfold zhI at hnew;generalize hvn:zf5 t2=vn at hnew;rcases hq8:t2.next 8 with⟨t3,k8⟩;simp only[hq8]at hF5 hnew ht8;have ht9:=zO ht8 4;rcases hq9:t3.next 4 with⟨t4,k9⟩;simp only[hq9]at hF5 hnew ht9;by_cases hk9:k9=0
   . rw[if_pos hk9]at hnew;have hF6:=hTF t4 (zcc 2) ht9 (by simp);have hT6:=hTy t4 (zcc 2) (by rw[hv2];simp[za0,Ty.ok,Ty.oks,Ty.size,Ty.sizes]);rw[hv2]at hF6 hT6 hnew;rcases hq6:typeM 2 t4 D [za0 0,za0 1]with⟨t5,g⟩;simp only[hq6]at hF6 hT6 hnew;subst hk9;rcases L with _|⟨x,L⟩
     . simp [ziM,hE,hi',hVn,hVn1,hvn,hq8,hN,hF5,hVs,hv2,hT,hF6,hCl,hT6,hPu,hw2,-Int.natCast_add];exact hnew _ _ (Less.auto (by simp[-Int.natCast_add]) (by simp) (by simp) rfl)
     . have hl9:L.length<=999:=by simpa using hLl
       simp [ziM,hE,hi',hVn,hVn1,hvn,hq8,hN,hF5,hVs,hv2,hT,hF6,hCl,hT6,hPu,hl9,hw2,-Int.natCast_add];exact hnew _ _ (Less.auto (by simp[-Int.natCast_add]) (by simp) (by simp) rfl)
   . rw[if_neg hk9]at hnew;have hF6:=hTF t4 za7 ht9 (by simp[hlv]);rw[hlv]at hF6 hnew;rcases hq6:typeM 2 t4 D [zaq 0 0,zaq 3 1]with⟨t5,g⟩;simp only[hq6]at hF6 hnew;rcases L with _|⟨x,L⟩
     . simp [ziM,hE,hi',hVn,hVn1,hvn,hq8,hN,hF5,hk9,hT,hF6,hMo,hPu,hw2,-Int.natCast_add];exact hnew _ _ (Less.auto (by simp[-Int.natCast_add]) (by simp) (by simp) rfl)
     . have hl9:L.length<=999:=by simpa using hLl
       simp [ziM,hE,hi',hVn,hVn1,hvn,hq8,hN,hF5,hk9,hT,hF6,hMo,hPu,hl9,hw2,-Int.natCast_add];exact hnew _ _ (Less.auto (by simp[-Int.natCast_add]) (by simp) (by simp) rfl)
end
end Go.Proofs.YtpcmebclpindjaaGreat
/- Contexts: the contracts joined. -/
namespace Go.Proofs.YtpcmebclpindjaaGreat
open Go.J
open Go.J.Enc (enc)
set_option maxRecDepth 100000
set_option maxHeartbeats 1000000
section
variable {ρ:Nat->Value}(hρ:J.Good ρ)
include hρ
theorem zHa:Valid ρ Tryz.prog 63 (fnS (zy fun t:Ty=>some (mono t))):=v1 (fo Tryz.func63 zMH) fun a r h hs=>by
 cases h;exact zio hρ (E:=EL []) rfl (zf valid_nil) hs
def zA6:J.Spec:=fnS (zjk fun (l:List Entry) (n:List Nat) (c:Scheme)=>if l.length<=1000 then some (l++[⟨n,c⟩])else none)
theorem zGY:Valid ρ Tryz.prog 79 zA6:=v3 (fo Tryz.func79 zME) fun a b c r h hs=>by
 obtain⟨h1,rfl⟩:=zo h;exact zin hρ (E:=EL []) rfl (zf valid_nil) h1 hs
open Classical in
def zjY:J.Spec:=stS (zAh fun t:Tp=>if t.ok then some ((t.next 8).1,zf5 t)else none)
theorem zpN:Valid ρ Tryz.prog 65 zjY:=Valid.st (fo Tryz.func65 zMF) fun s vs r _ hv hs id hid hg=>by
 obtain⟨q,rfl,h,rfl⟩:=zwu hv;obtain⟨h1,rfl⟩:=zo h;exact zdD hρ (E:=EL [(55,stS (zkk zey))]) rfl (zf (za (zpV hρ) valid_nil)) rfl h1 hs id hid hg
theorem z9K:Valid ρ Tryz.prog 46 (fnS (zy fun l:List Entry=>if l.length<=10000 then some (l.map (·.name))else none)):=v1 (fo Tryz.func46 zMM) fun a r h hs=>by
 obtain⟨h1,rfl⟩:=zo h;exact zgO hρ (E:=EL []) rfl (zf valid_nil) h1 hs
def zcp:J.Spec:=fnS (zH fun (t:Ty) (ids:List Int)=>if t.ok=true/\t.size<=1000/\ids.length<=10000 then some (zdl t ids)else none)
theorem z9O:Valid ρ Tryz.prog 64 zcp:=v2 (fo Tryz.func64 zMG) fun a b r h hs=>by
 obtain⟨⟨h1,h2,h3⟩,rfl⟩:=zo h
 exact zgQ hρ (E:=EL [(61,zyo 1000),(126,zmy),(53,fnS (zy fun i:Int=>some (zaU i))),(62,fnS (zH (zjl 1000)))]) rfl
  (zf (za (zGW hρ 1000 (by omega)) (za (zHb hρ) (za (zys hρ) (za (zvY hρ 1000) valid_nil))))) rfl rfl rfl rfl h1 h2 (by omega) h3 hs
open Classical in
def zGi(t:Tp)(D:List Decl):Option (Tp×List Entry×Ty):=if t.ok/\DOk D/\(∀ (t:Tp) (Lv:List Ty),(∀ l∈Lv,l.ok=true/\l.size<=1)->(typeM 2 t D Lv).2.ok=true/\(typeM 2 t D Lv).2.size<=1000)then some (zbG t D)else none
theorem zwh:Valid ρ Tryz.prog 32 (stS (zkk zGi)):=s1 (fo Tryz.func32 zMS) fun s a q h hs id hid hg=>by
 obtain⟨⟨h1,h2,h3⟩,rfl⟩:=zo h
 exact zdR hρ (E:=EL [(55,stS (zkk zey)),(15,stS (zjj (zf8 2))),(65,zjY),(25,zha),(28,fnS (zH fun h i:Int=>some (zaq h i))),(63,fnS (zy fun t:Ty=>some (mono t))),(79,zA6),(64,zcp)]) rfl
  (zf (za (zpV hρ) (za (z9I hρ 2 (by omega)) (za (zpN hρ) (za (zpX hρ) (za (zyp hρ) (za (zHa hρ) (za (zGY hρ) (za (z9O hρ) valid_nil))))))))) rfl rfl rfl rfl rfl rfl rfl rfl h1 h2 h3 hs id hid hg
end
end Go.Proofs.YtpcmebclpindjaaGreat
