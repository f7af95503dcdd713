import Derived.Test.YtpcmebclpindjaaGreatZX1
import Derived.Test.YtpcmebclpindjaaGreatZAL
import Derived.Test.YtpcmebclpindjaaGreatJN
set_option linter.all false
noncomputable section
/- Tapes: the contracts joined. -/
namespace Go.Proofs.YtpcmebclpindjaaGreat
open Go.J
open Go.J.Enc (enc)
set_option maxRecDepth 100000
set_option maxHeartbeats 4000000
section
variable {ρ:Nat->Value}(hρ:J.Good ρ)
include hρ
theorem ziI(d:Nat)(hd:d<=1000){S:J.Spec}(hv:Valid ρ Tryz.prog 15 S){t:Tp}{D:List Decl}{Lv:List Ty}{n:Int}(hS:0<n->S=stS (zhs (zer d)))(h1:t.ok)(h2:DOk D)(h3:Lv.length<=100000)(h4:n<=d+1)(hs:HS)(id:Nat)(hid:id<hs.n)(hg:hs.H.get id=some (box (Cel.cells t))) :
 CallOk ρ Tryz.prog 15 [.ptr id 0 0,enc D,enc Lv,enc n] hs (enc (typeM n.toNat t D Lv).2) (hs.wr id (box (Cel.cells (typeM n.toNat t D Lv).1))) :=
 ze5 hρ (E:=EL [(55,stS (zht zcJ)),(56,zAp),(27,fnS (zfR tInt)),(42,fnS (za0 fun a b:Ty=>some (zdU a b))),(15,S)]) rfl
  (zf (zb (zkt hρ) (zb (zBf hρ) (zb (zH7 hρ) (zb (z3N hρ) (zb hv valid_nil)))))) rfl rfl rfl rfl hS h1 h2 h3 h4 hd hs id hid hg
def noS:J.Spec:=fun _ _=>none
omit hρ in
theorem zBd{f:Nat}(hf:zeo Tryz.prog f):Valid ρ Tryz.prog f noS where
 fn:=hf
 ok:=fun {_ _ _ _} h=>by cases h
 kept:=fun {_ _ _} h=>by cases h
theorem zyD(d:Nat)(hd:d<=1000):Valid ρ Tryz.prog 15 (stS (zhs (zer d))):=by
 induction d with
 | zero =>
   refine s3 (fo Tryz.func15 z9N) fun s a b c q h hs id hid hg=>?_
   obtain⟨⟨h1,h2,h3,h4⟩,rfl⟩:=zJ h;exact ziI hρ 0 hd (zBd (fo Tryz.func15 z9N)) (fun h=>by omega) h1 h2 h3 (by omega) hs id hid hg
 | succ d ih =>
   refine s3 (fo Tryz.func15 z9N) fun s a b c q h hs id hid hg=>?_
   obtain⟨⟨h1,h2,h3,h4⟩,rfl⟩:=zJ h;exact ziI hρ d (by omega) (ih (by omega)) (fun _=>rfl) h1 h2 h3 (by omega) hs id hid hg
omit hρ in
theorem zrf{f:Nat}{vs:List V}{hs hs':HS}{v r:V}(h:CallOk ρ Tryz.prog f vs hs v hs')(e:zaa v=r):CallOk ρ Tryz.prog f vs hs r hs':=by
 intro X w F μ xs hR hD hO hA;refine CallsIn.mono (h X w F μ xs hR hD hO hA) fun e' w' he=>?_
 cases e' with
 | returned x =>
   obtain⟨F1,μ1,g1,g2,g3⟩:=he;exact⟨F1,μ1,g1,by rw[<- e];exact g2.norm,g3⟩
 |panicked c=>exact he
 |outgrown=>exact he
theorem zHB:Valid ρ Tryz.prog 57 (fnS (zfR allD)):=v0 (z9L Tryz.func57 (by kernel_rfl)) fun hs=>zrf
 (zeg hρ (E:=EL [(213,zjf zsn)]) (zf (zb (zmu hρ) valid_nil)) follows named z0K rfl) (by kernel_rfl)
theorem z3K:Valid ρ Tryz.prog 16 (fnS (zae fun bits:Int=>some (zO bits))):=v1 (fo Tryz.func16 zGP) fun a r h hs=>by
 cases h;exact zhk hρ (E:=EL [(57,fnS (zfR allD))]) rfl (zf (zb (zHB hρ) valid_nil)) rfl hs
def zof:J.Spec:=ztT 5 (fun vs=>ob (zae (fun n:Int=>if 0<=n/\n<=10000 then some (zcR n.toNat)else none) vs) fun v=>match v with|.sl es _=>some es|_=>none)
theorem zyH:Valid ρ Tryz.prog 25 zof:=Valid.row (fo Tryz.func25 zGM) fun vs es _ h hs hv=>by
 rw[za]at h;obtain⟨v,h1,h2⟩:=h;obtain⟨n,r,rfl,h3,rfl⟩:=zfQ h1;obtain⟨⟨h4,h5⟩,rfl⟩:=zJ h3;obtain⟨m,rfl⟩:=Int.eq_ofNat_of_zero_le h4;cases h2;exact zis hρ (E:=EL [(26,fnS (zae fun i:Int=>some (zkv i)))]) rfl (zf (zb (zH2 hρ) valid_nil)) rfl (by omega) hv
end
@[simp] theorem zIe {k:IntKind}:(V.int k 2).nat?=some 2:=(rfl)
@[simp] theorem zId {k:IntKind}:(V.int k 3).nat?=some 3:=(rfl)
@[simp] theorem zIc {k:IntKind}:(V.int k 4).nat?=some 4:=(rfl)
@[simp] theorem zIb {k:IntKind}:(V.int k 5).nat?=some 5:=(rfl)
@[simp] theorem zIa {k:IntKind}:(V.int k 6).nat?=some 6:=(rfl)
@[simp] theorem zHZ {k:IntKind}:(V.int k 7).nat?=some 7:=(rfl)
section
variable {ρ:Nat->Value}(hρ:J.Good ρ){E:Env}(hE:E.P=Tryz.prog)(hcon:ConsOk ρ E)
include hρ hE hcon
theorem zhg{t:Ty}(hs:HS):CallOk ρ Tryz.prog 63 [enc t] hs (enc (mono t)) hs:=by
 refine fn hρ hE hcon Tryz.func63 zG7 rfl (by simp) ?_ hs;simp [hE,mono]
theorem zhf{l:List Entry}{n:List Nat}{c:Scheme}(hl:l.length<=1000)(hs:HS):CallOk ρ Tryz.prog 79 [enc l,enc n,enc c] hs (enc (l++[⟨n,c⟩])) hs:=by
 refine fn hρ hE hcon Tryz.func79 zG4 rfl (by simp) ?_ hs;rcases l with _|⟨x,l⟩
 . simp [hE]
 . have hl1:l.length+1<=1000:=hl;have k1:(l.length+1)*88<=1048576:=Nat.le_trans (Nat.mul_le_mul_right 88 hl1) (by decide);have k2:(l.length+1+1)*88<=1048576:=Nat.le_trans (Nat.mul_le_mul_right 88 (Nat.succ_le_succ hl1)) (by decide);simp [hE,k1,k2,Nat.not_succ_le_self]
theorem zdl(hN:E.con 55=stS (zht zcJ)){t:Tp}(ht:t.ok)(hs:HS)(id:Nat)(hid:id<hs.n)(hg:hs.H.get id=some (box (Cel.cells t))) :
 CallOk ρ Tryz.prog 65 [.ptr id 0 0] hs (enc (zbS t)) (hs.wr id (box (Cel.cells (t.next 8).1))):=by
 unfold zbS;have hF:zcJ t 8=some (t.next 8):=if_pos ⟨ht,by omega,by omega⟩;have hk0:=zcs t 8;have hk1:=zc8 t (n:=8) (by omega);rcases hq:t.next 8 with⟨t1,k⟩;simp only[hq]at hF hk0 hk1 ⊢;obtain⟨j,rfl⟩:=Int.eq_ofNat_of_zero_le hk0;have hj:j=0\/j=1\/j=2\/j=3\/j=4\/j=5\/j=6\/j=7:=by omega
 clear hk0 hk1 hq;rw[Int.toNat_natCast]
 rcases hj with rfl|rfl|rfl|rfl|rfl|rfl|rfl|rfl <;>
 . refine st hρ hE hcon Tryz.func65 zG5 rfl (by simp) (by simp) (by simp) (by simp) ?_ hid hg;simp [hE,hN,hF,zlt];exact GivesL.keep rfl rfl (by simp) (by simp) (by simp)
end
section
variable {ρ:Nat->Value}(hρ:J.Good ρ){E:Env}(hE:E.P=Tryz.prog)(hcon:ConsOk ρ E)
include hρ hE hcon
theorem zgb{l:List Entry}(hl:l.length<=10000)(hs:HS):CallOk ρ Tryz.prog 46 [enc l] hs (enc (l.map (·.name))) hs:=by
 refine fn hρ hE hcon Tryz.func46 zGC rfl (by simp) ?_ hs;simp [hE]
 refine lpi hρ hE hcon l.length (nn:=1) (fun i (L:List (List Nat))=>[(0,.sl (l.map za5) false),(3,oV 0 (L.map encS)),(4,.int .i64 (i:Int))]) (fun i L=>oH 0 1 (L.map encS)) (fun i L=>L=(l.take i).map (·.name)) []
  (Less.auto (by simp) (by simp) rfl rfl) rfl ?_ ?_
 . intro L hL K;rw[List.take_length]at hL;rw[<- hL];clear hL;rcases L with _|⟨x,L⟩<;>simp [zlN,hE]
   . refine LessQ.mk (Less.auto (TL:=[(3,.snil)]) (HL:=[]) (n:=1) (by simp) (by simp) rfl rfl) ?_;simp [hE]
   . refine LessQ.mk (Less.auto (TL:=[(3,oV 0 ((x::L).map encS))]) (HL:=oH 0 1 ((x::L).map encS)) (n:=1) (by simp) (by simp) rfl rfl) ?_;simp [hE]
 . intro i L hi hL K hK;have hi':(i:Int)<l.length:=by omega
   have hw2:IntKind.i64.wrap ((i:Int)+1)=((i+1:Nat):Int):=zC (by omega);have hnew:=hK (L++[l[i].name]) (by rw[List.take_add_one,List.getElem?_eq_getElem hi,Option.toList_some,List.map_append,hL];rfl);have hLl:L.length=i:=by rw[hL,List.length_map,List.length_take];omega
   clear hL;rcases L with _|⟨x,L⟩
   . simp [zlN,hE,hi,hi',hw2,-Int.natCast_add];exact hnew _ _ (Less.auto (by simp[-Int.natCast_add]) (by simp) rfl rfl)
   . have h64:(L.length+1+1)*16<=1048576:=Nat.le_trans (Nat.mul_le_mul_right 16 (show L.length+1+1<=10001 by simp at hLl;omega)) (by decide);simp [zlN,hE,hi,hi',hw2,h64,Nat.not_succ_le_self,-Int.natCast_add];exact hnew _ _ (Less.auto (by simp[-Int.natCast_add]) (by simp) rfl rfl)
theorem zgc {d:Nat} (hV:E.con 61=fnS (zae fun l:List Ty=>if Ty.oks l=true/\l.length<=10000/\Ty.sizes l<=d then some (ziG l)else none)) (hH:E.con 126=fnC (za0 fun (l:List Int) (x:Int)=>if l.length<=1000000 then some (decide (x∈l))else none))
 (hB:E.con 53=fnS (zae fun i=>some (zfk i))) (hR:E.con 62=fnS (za0 (zic d))) {t:Ty} {ids:List Int} (ht:t.ok=true) (hd:t.size<=d) (hd2:d<=10000) (hids:ids.length<=10000) (hs:HS):CallOk ρ Tryz.prog 64 [enc t,enc ids] hs (enc (zkg t ids)) hs:=by
 refine fn hρ hE hcon Tryz.func64 zG6 rfl (by simp) ?_ hs;have ho:Ty.oks [t]=true:=by simp[Ty.oks,ht]
 have hsz:Ty.sizes [t]<=d:=by simpa [Ty.sizes]using hd
 have hvl:(ziG [t]).length<=10000:=by
  have h1:=zjz (zx 1 [t] []);have h2:=(zaW 1 [t] []).2;simp only[ziG,List.length_nil]at h1 h2 ⊢;omega
 have hids2:ids.length<=1000000:=by omega
 simp [hE,hV,ho,hsz];unfold zkg;generalize ziG [t]=vs at hvl
 refine lpi hρ hE hcon vs.length (nn:=3) (fun i (L:List Assign)=>[(1,.sl (ids.map encI) false),(2,.ptr 0 0 0),(4,.ptr 1 0 0),(5,.sl (vs.map encI) false),(6,oV 2 (L.map zX)),(7,.int .i64 (i:Int))])
  (fun i L=>[(0,box (zl t)),(1,box [.int .i64 0,.int .i64 0,.str [],.int .i64 0,.int .i64 0,.snil])]++oH 2 6 (L.map zX)) (fun i L=>L=zcx (vs.take i) ids []) []
  (Less.auto (by simp) (by simp) (by simp) rfl) (by simp[zcx]) ?_ ?_
 . intro L hL K;rw[List.take_length]at hL;have hLl:=(zhQ vs ids []).2;rw[<- hL]at hLl ⊢;clear hL;have hrep:zic d t L=some (t.repl L):=by unfold zic;rw[if_pos ⟨ht,hd,by simp at hLl;omega⟩]
   rcases L with _|⟨x,L⟩<;>simp [zj8,hE]
   . refine LessQ.mk (Less.auto (TL:=[(2,.ptr 0 0 0),(4,.ptr 1 0 0),(6,.snil)]) (HL:=[(0,box (zl t)),(1,box [.int .i64 0,.int .i64 0,.str [],.int .i64 0,.int .i64 0,.snil])]) (n:=3) (by simp) (by simp) (by simp) rfl) ?_;simp [hE,hR,hrep]
   . refine LessQ.mk (Less.auto (TL:=[(2,.ptr 0 0 0),(4,.ptr 1 0 0),(6,oV 2 ((x::L).map zX))]) (HL:=[(0,box (zl t)),(1,box [.int .i64 0,.int .i64 0,.str [],.int .i64 0,.int .i64 0,.snil])]++oH 2 6 ((x::L).map zX)) (n:=3) (by simp) (by simp) (by simp) rfl) ?_;simp [hE,hR,hrep]
 . intro i L hi hL K hK;have hi':(i:Int)<vs.length:=by omega
   have hw2:IntKind.i64.wrap ((i:Int)+1)=((i+1:Nat):Int):=zC (by omega);have hnew:=hK (if vs[i]∈ids then L++[⟨vs[i],zfk L.length⟩]else L) (by rw[List.take_add_one,List.getElem?_eq_getElem hi,Option.toList_some,zmT,<- hL];simp[zcx])
   have hLl:L.length<=i:=by
    have:=(zhQ (vs.take i) ids []).2;rw[<- hL,List.length_take,List.length_nil]at this;omega
   clear hL;by_cases hv:vs[i]∈ids
   . rw[if_pos hv]at hnew;rcases L with _|⟨x,L⟩
     . simp [zj8,hE,hi,hi',hw2,hH,hids2,hv,hB,-Int.natCast_add];exact hnew _ _ (Less.auto (by simp[-Int.natCast_add]) (by simp) (by simp) rfl)
     . have h64:(L.length+1+1)*72<=1048576:=Nat.le_trans (Nat.mul_le_mul_right 72 (show L.length+1+1<=10001 by simp at hLl;omega)) (by decide);simp [zj8,hE,hi,hi',hw2,hH,hids2,hv,hB,h64,Nat.not_succ_le_self,-Int.natCast_add];exact hnew _ _ (Less.auto (by simp[-Int.natCast_add]) (by simp) (by simp) rfl)
   . rw[if_neg hv]at hnew;rcases L with _|⟨x,L⟩<;>simp [zj8,hE,hi,hi',hw2,hH,hids2,hv,-Int.natCast_add]<;>exact hnew _ _ (Less.auto (by simp[-Int.natCast_add]) (by simp) (by simp) rfl)
end
def z9r{α:Type}(f:α->List V):List α->V
 | []=>.snil
 |x::l=>.sl ((x::l).map f) false
@[simp] theorem z9q {α:Type} {f:α->List V}:z9r f []=.snil:=(rfl)
@[simp] theorem z5j {α:Type} {f:α->List V} {x:α} {l:List α}:z9r f (x::l)=.sl ((x::l).map f) false:=(rfl)
section
variable {ρ:Nat->Value}(hρ:J.Good ρ){E:Env}(hE:E.P=Tryz.prog)(hcon:ConsOk ρ E)
include hρ hE hcon
open Classical in
theorem zdw (hN:E.con 55=stS (zht zcJ)) (hT:E.con 15=stS (zhs (zer 2))) (hVn:E.con 65=stS (z4e fun t:Tp=>if t.ok then some ((t.next 8).1,zbS t)else none))
 (hVs:E.con 25=ztT 5 (fun vs=>ob (zae (fun n:Int=>if 0<=n/\n<=10000 then some (zcR n.toNat)else none) vs) fun v=>match v with|.sl es _=>some es|_=>none))
 (hRg:E.con 28=fnS (za0 fun h i=>some (zbi h i))) (hMo:E.con 63=fnS (zae fun t=>some (mono t))) (hPu:E.con 79=fnS (zk3 fun (l:List Entry) (n:List Nat) (c:Scheme)=>if l.length<=1000 then some (l++[⟨n,c⟩])else none))
 (hCl:E.con 64=fnS (za0 fun (t:Ty) (ids:List Int)=>if t.ok=true/\t.size<=1000/\ids.length<=10000 then some (zkg t ids)else none))
 {t:Tp} {D:List Decl} (ht:t.ok) (hD:DOk D) (hTy:∀ (t:Tp) (Lv:List Ty),(∀ l∈Lv,l.ok=true/\l.size<=1)->(typeM 2 t D Lv).2.ok=true/\(typeM 2 t D Lv).2.size<=1000) (hs:HS) (id:Nat) (hid:id<hs.n) (hg:hs.H.get id=some (box (Cel.cells t))) :
 CallOk ρ Tryz.prog 32 [.ptr id 0 0,enc D] hs (enc (zb7 t D).2) (hs.wr id (box (Cel.cells (zb7 t D).1))):=by
 have hF4:∀ t':Tp,t'.ok->zcJ t' 4=some (t'.next 4):=fun t' h=>if_pos ⟨h,by omega,by omega⟩
 have ht1:=zn ht 4;have hk0:=zcs t 4;have hk1:=zc8 t (n:=4) (by omega);have hF:=hF4 t ht;generalize hR:zb7 t D=R;unfold zb7 at hR;rcases hq:t.next 4 with⟨t1,k⟩;simp only[hq]at hF hk0 hk1 ht1 hR;obtain⟨m,rfl⟩:=Int.eq_ofNat_of_zero_le hk0;rw[Int.toNat_natCast]at hR;have hm:m<=3:=by omega
 have hTF:∀ (t':Tp) (Lv:List Ty),t'.ok->Lv.length<=100000->zer 2 t' D Lv 2=some (typeM 2 t' D Lv):=fun t' Lv h hl=>by
  unfold zer;rw[if_pos ⟨h,hD,hl,by omega⟩];rfl
 have hlv:zeH=[zbi 0 0,zbi 3 1]:=rfl;have hv2:zcR 2=[zkv 0,zkv 1]:=rfl;have hce:=zkX (D:=D) ht1 m;refine st hρ hE hcon Tryz.func32 zGI rfl (by simp) (by simp) (by simp) ?_ ?_ hid hg
 . subst hR;simp
 simp [hE,hN,hF,hRg]
 refine lpi hρ hE hcon m (nn:=3) (fun i (p:Tp×List Entry)=>[(0,.ptr 0 0 0),(1,.sl (D.map zg) false),(5,.ptr 1 0 0),(6,.sl [zl (zbi 0 0),zl (zbi 3 1)] true),(7,z9r za5 p.2),(8,.int .i64 (m:Int)),(9,.int .i64 (i:Int))])
  (fun i p=>[(0,box (Cel.cells p.1)),(1,box [.int .i64 0,.str [],.int .i64 0,.int .i64 0,.snil])]) (fun i p=>p=z01 D t1 i) (t1,[])
  (Less.auto (by simp) (by simp) (by simp) rfl) rfl ?_ ?_
 . intro p hp K;rw[<- hp]at hR hce;have hF2:=hTF p.1 [zbi 0 0,zbi 3 1] hce.1 (by simp);obtain⟨t2,L⟩:=p;simp only[hlv]at hR hF2;rcases hq2:typeM 2 t2 D [zbi 0 0,zbi 3 1]with⟨t3,g⟩;simp only[hq2]at hR hF2;subst hR;rcases L with _|⟨x,L⟩<;>simp [zhD,hE]
   . refine LessQ.mk (Less.auto (TL:=[(0,.ptr 0 0 0),(1,.sl (D.map zg) false),(5,.ptr 1 0 0),(6,.sl [zl (zbi 0 0),zl (zbi 3 1)] true),(7,.snil)]) (HL:=[(0,box (Cel.cells t2)),(1,box [.int .i64 0,.str [],.int .i64 0,.int .i64 0,.snil])]) (n:=3) (by simp) (by simp) (by simp) rfl) ?_;simp [hE,hT,hF2];exact GivesL.keep rfl rfl (by simp) (by simp) (by simp)
   . refine LessQ.mk (Less.auto (TL:=[(0,.ptr 0 0 0),(1,.sl (D.map zg) false),(5,.ptr 1 0 0),(6,.sl [zl (zbi 0 0),zl (zbi 3 1)] true),(7,z9r za5 (x::L))]) (HL:=[(0,box (Cel.cells t2)),(1,box [.int .i64 0,.str [],.int .i64 0,.int .i64 0,.snil])]) (n:=3) (by simp) (by simp) (by simp) rfl) ?_;simp [hE,hT,hF2];exact GivesL.keep rfl rfl (by simp) (by simp) (by simp)
 . intro i p hi hp K hK;have hpe:=zkX (D:=D) ht1 i;rw[<- hp]at hpe;have hi':(i:Int)<m:=by omega
   have hw2:IntKind.i64.wrap ((i:Int)+1)=((i+1:Nat):Int):=zC (by omega);have hnew:=hK (zi1 D p) (by rw[hp];rfl);have hLl:p.2.length<=1000:=by omega
   have ht8:=zn hpe.1 8;have hVn1:=hpe.1;obtain⟨t2,L⟩:=p;simp only at hLl ht8 hVn1;have hF5:=hF4 _ ht8;unfold zi1 at hnew;generalize hvn:zbS t2=vn at hnew;rcases hq8:t2.next 8 with⟨t3,k8⟩;simp only[hq8]at hF5 hnew ht8;have ht9:=zn ht8 4;rcases hq9:t3.next 4 with⟨t4,k9⟩;simp only[hq9]at hF5 hnew ht9;by_cases hk9:k9=0
   . rw[if_pos hk9]at hnew;have hF6:=hTF t4 (zcR 2) ht9 (by simp);have hT6:=hTy t4 (zcR 2) (by rw[hv2];simp[zkv,Ty.ok,Ty.oks,Ty.size,Ty.sizes]);rw[hv2]at hF6 hT6 hnew;rcases hq6:typeM 2 t4 D [zkv 0,zkv 1]with⟨t5,g⟩;simp only[hq6]at hF6 hT6 hnew;subst hk9;rcases L with _|⟨x,L⟩
     . simp [zhD,hE,hi',hVn,hVn1,hvn,hq8,hN,hF5,hVs,hv2,hT,hF6,hCl,hT6,hPu,hw2,-Int.natCast_add];exact hnew _ _ (Less.auto (by simp[-Int.natCast_add]) (by simp) (by simp) rfl)
     . have hl9:L.length<=999:=by simpa using hLl
       simp [zhD,hE,hi',hVn,hVn1,hvn,hq8,hN,hF5,hVs,hv2,hT,hF6,hCl,hT6,hPu,hl9,hw2,-Int.natCast_add];exact hnew _ _ (Less.auto (by simp[-Int.natCast_add]) (by simp) (by simp) rfl)
   . rw[if_neg hk9]at hnew;have hF6:=hTF t4 zeH ht9 (by simp[hlv]);rw[hlv]at hF6 hnew;rcases hq6:typeM 2 t4 D [zbi 0 0,zbi 3 1]with⟨t5,g⟩;simp only[hq6]at hF6 hnew;rcases L with _|⟨x,L⟩
     . simp [zhD,hE,hi',hVn,hVn1,hvn,hq8,hN,hF5,hk9,hT,hF6,hMo,hPu,hw2,-Int.natCast_add];exact hnew _ _ (Less.auto (by simp[-Int.natCast_add]) (by simp) (by simp) rfl)
     . have hl9:L.length<=999:=by simpa using hLl
       simp [zhD,hE,hi',hVn,hVn1,hvn,hq8,hN,hF5,hk9,hT,hF6,hMo,hPu,hl9,hw2,-Int.natCast_add];exact hnew _ _ (Less.auto (by simp[-Int.natCast_add]) (by simp) (by simp) rfl)
end
end Go.Proofs.YtpcmebclpindjaaGreat
/- Contexts: the contracts joined. -/
namespace Go.Proofs.YtpcmebclpindjaaGreat
open Go.J
open Go.J.Enc (enc)
set_option maxRecDepth 100000
set_option maxHeartbeats 1000000
section
variable {ρ:Nat->Value}(hρ:J.Good ρ)
include hρ
theorem zBe:Valid ρ Tryz.prog 63 (fnS (zae fun t:Ty=>some (mono t))):=v1 (fo Tryz.func63 zG7) fun a r h hs=>by
 cases h;exact zhg hρ (E:=EL []) rfl (zf valid_nil) hs
def z4C:J.Spec:=fnS (zk3 fun (l:List Entry) (n:List Nat) (c:Scheme)=>if l.length<=1000 then some (l++[⟨n,c⟩])else none)
theorem zBc:Valid ρ Tryz.prog 79 z4C:=v3 (fo Tryz.func79 zG4) fun a b c r h hs=>by
 obtain⟨h1,rfl⟩:=zJ h;exact zhf hρ (E:=EL []) rfl (zf valid_nil) h1 hs
open Classical in
def zak:J.Spec:=stS (z4e fun t:Tp=>if t.ok then some ((t.next 8).1,zbS t)else none)
theorem zfI:Valid ρ Tryz.prog 65 zak:=Valid.st (fo Tryz.func65 zG5) fun s vs r _ hv hs id hid hg=>by
 obtain⟨q,rfl,h,rfl⟩:=zse hv;obtain⟨h1,rfl⟩:=zJ h;exact zdl hρ (E:=EL [(55,stS (zht zcJ))]) rfl (zf (zb (zkt hρ) valid_nil)) rfl h1 hs id hid hg
theorem z3I:Valid ρ Tryz.prog 46 (fnS (zae fun l:List Entry=>if l.length<=10000 then some (l.map (·.name))else none)):=v1 (fo Tryz.func46 zGC) fun a r h hs=>by
 obtain⟨h1,rfl⟩:=zJ h;exact zgb hρ (E:=EL []) rfl (zf valid_nil) h1 hs
def zcx:J.Spec:=fnS (za0 fun (t:Ty) (ids:List Int)=>if t.ok=true/\t.size<=1000/\ids.length<=10000 then some (zkg t ids)else none)
theorem z3L:Valid ρ Tryz.prog 64 zcx:=v2 (fo Tryz.func64 zG6) fun a b r h hs=>by
 obtain⟨⟨h1,h2,h3⟩,rfl⟩:=zJ h
 exact zgc hρ (E:=EL [(61,ztL 1000),(126,zC4),(53,fnS (zae fun i:Int=>some (zfk i))),(62,fnS (za0 (zic 1000)))]) rfl
  (zf (zb (zBa hρ 1000 (by omega)) (zb (zEd hρ) (zb (z3M hρ) (zb (zrQ hρ 1000) valid_nil))))) rfl rfl rfl rfl h1 h2 (by omega) h3 hs
open Classical in
def zAn(t:Tp)(D:List Decl):Option (Tp×List Entry×Ty):=if t.ok/\DOk D/\(∀ (t:Tp) (Lv:List Ty),(∀ l∈Lv,l.ok=true/\l.size<=1)->(typeM 2 t D Lv).2.ok=true/\(typeM 2 t D Lv).2.size<=1000)then some (zb7 t D)else none
theorem zrT:Valid ρ Tryz.prog 32 (stS (zht zAn)):=s1 (fo Tryz.func32 zGI) fun s a q h hs id hid hg=>by
 obtain⟨⟨h1,h2,h3⟩,rfl⟩:=zJ h
 exact zdw hρ (E:=EL [(55,stS (zht zcJ)),(15,stS (zhs (zer 2))),(65,zak),(25,zof),(28,fnS (za0 fun h i:Int=>some (zbi h i))),(63,fnS (zae fun t:Ty=>some (mono t))),(79,z4C),(64,zcx)]) rfl
  (zf (zb (zkt hρ) (zb (zyD hρ 2 (by omega)) (zb (zfI hρ) (zb (zyH hρ) (zb (z3H hρ) (zb (zBe hρ) (zb (zBc hρ) (zb (z3L hρ) valid_nil))))))))) rfl rfl rfl rfl rfl rfl rfl rfl h1 h2 h3 hs id hid hg
end
end Go.Proofs.YtpcmebclpindjaaGreat
