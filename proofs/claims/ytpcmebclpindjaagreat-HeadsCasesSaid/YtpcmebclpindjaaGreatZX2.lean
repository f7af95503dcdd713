import Derived.Test.YtpcmebclpindjaaGreatZX1
import Derived.Test.YtpcmebclpindjaaGreatZAL
import Derived.Test.YtpcmebclpindjaaGreatJN
set_option linter.all false
noncomputable section
/- Tapes: the contracts joined. -/
namespace Go.Proofs.YtpcmebclpindjaaGreat
open Go.J
open Go.J.Enc (enc)
set_option maxRecDepth 100000
set_option maxHeartbeats 4000000
section
variable {ρ:Nat->Value}(hρ:J.Good ρ)
include hρ
theorem zid(d:Nat)(hd:d<=1000){S:J.Spec}(hv:Valid ρ Tryz.prog 15 S){t:Tp}{D:List Decl}{Lv:List Ty}{n:Int}(hS:0<n->S=stS (zp2 (zhz d)))(h1:t.ok)(h2:DOk D)(h3:Lv.length<=100000)(h4:n<=d+1)(hs:HS)(id:Nat)(hid:id<hs.n)(hg:hs.H.get id=some (box (Cel.cells t))) :
 CallOk ρ Tryz.prog 15 [.ptr id 0 0,enc D,enc Lv,enc n] hs (enc (typeM n.toNat t D Lv).2) (hs.wr id (box (Cel.cells (typeM n.toNat t D Lv).1))) :=
 zeh hρ (E:=EL [(55,stS (zk5 zfa)),(56,z6E),(27,fnS (zf0 tInt)),(42,fnS (zal fun a b:Ty=>some (zd9 a b))),(15,S)]) rfl
  (zg (zf (zvL hρ) (zf (z7D hρ) (zf (zD7 hρ) (zf (z0u hρ) (zf hv valid_nil)))))) rfl rfl rfl rfl hS h1 h2 h3 h4 hd hs id hid hg
def noS:J.Spec:=fun _ _=>none
omit hρ in
theorem z7A{f:Nat}(hf:zdR Tryz.prog f):Valid ρ Tryz.prog f noS where
 fn:=hf
 ok:=fun {_ _ _ _} h=>by cases h
 kept:=fun {_ _ _} h=>by cases h
theorem z7z(d:Nat)(hd:d<=1000):Valid ρ Tryz.prog 15 (stS (zp2 (zhz d))):=by
 induction d with
 | zero =>
   refine s3 (fo Tryz.func15 z6d) fun s a b c q h hs id hid hg=>?_
   obtain⟨⟨h1,h2,h3,h4⟩,rfl⟩:=zT h;exact zid hρ 0 hd (z7A (fo Tryz.func15 z6d)) (fun h=>by omega) h1 h2 h3 (by omega) hs id hid hg
 | succ d ih =>
   refine s3 (fo Tryz.func15 z6d) fun s a b c q h hs id hid hg=>?_
   obtain⟨⟨h1,h2,h3,h4⟩,rfl⟩:=zT h;exact zid hρ d (by omega) (ih (by omega)) (fun _=>rfl) h1 h2 h3 (by omega) hs id hid hg
omit hρ in
theorem zoA{f:Nat}{vs:List V}{hs hs':HS}{v r:V}(h:CallOk ρ Tryz.prog f vs hs v hs')(e:zU v=r):CallOk ρ Tryz.prog f vs hs r hs':=by
 intro X w F μ xs hR hD hO hA;refine CallsIn.mono (h X w F μ xs hR hD hO hA) fun e' w' he=>?_
 cases e' with
 | returned x =>
   obtain⟨F1,μ1,g1,g2,g3⟩:=he;exact⟨F1,μ1,g1,by rw[<- e];exact g2.norm,g3⟩
 |panicked c=>exact he
 |outgrown=>exact he
theorem zD9:Valid ρ Tryz.prog 57 (fnS (zf0 allD)):=v0 (z1N Tryz.func57 (by kernel_rfl)) fun hs=>zoA
 (zdJ hρ (E:=EL [(213,zi0 zpF)]) (zg (zf (zlu hρ) valid_nil)) follows named zxL rfl) (by kernel_rfl)
theorem z0q:Valid ρ Tryz.prog 16 (fnS (zbI fun bits:Int=>some (zaE bits))):=v1 (fo Tryz.func16 zCV) fun a r h hs=>by
 cases h;exact zg8 hρ (E:=EL [(57,fnS (zf0 allD))]) rfl (zg (zf (zD9 hρ) valid_nil)) rfl hs
def zdN:J.Spec:=zwd 5 (fun vs=>ob (zbI (fun n:Int=>if 0<=n/\n<=10000 then some (zcn n.toNat)else none) vs) fun v=>match v with|.sl es _=>some es|_=>none)
theorem zvM:Valid ρ Tryz.prog 25 zdN:=Valid.row (fo Tryz.func25 zCP) fun vs es _ h hs hv=>by
 rw[za]at h;obtain⟨v,h1,h2⟩:=h;obtain⟨n,r,rfl,h3,rfl⟩:=zfz h1;obtain⟨⟨h4,h5⟩,rfl⟩:=zT h3;obtain⟨m,rfl⟩:=Int.eq_ofNat_of_zero_le h4;cases h2;exact zhI hρ (E:=EL [(26,fnS (zbI fun i:Int=>some (zfs i)))]) rfl (zg (zf (zD5 hρ) valid_nil)) rfl (by omega) hv
end
@[simp] theorem zDY {k:IntKind}:(V.int k 2).nat?=some 2:=(rfl)
@[simp] theorem zDX {k:IntKind}:(V.int k 3).nat?=some 3:=(rfl)
@[simp] theorem zDW {k:IntKind}:(V.int k 4).nat?=some 4:=(rfl)
@[simp] theorem zDV {k:IntKind}:(V.int k 5).nat?=some 5:=(rfl)
@[simp] theorem zDU {k:IntKind}:(V.int k 6).nat?=some 6:=(rfl)
@[simp] theorem zDT {k:IntKind}:(V.int k 7).nat?=some 7:=(rfl)
section
variable {ρ:Nat->Value}(hρ:J.Good ρ){E:Env}(hE:E.P=Tryz.prog)(hcon:ConsOk ρ E)
include hρ hE hcon
theorem zg4{t:Ty}(hs:HS):CallOk ρ Tryz.prog 63 [enc t] hs (enc (mono t)) hs:=by
 refine fn hρ hE hcon Tryz.func63 zCF rfl (by simp) ?_ hs;simp [hE,mono]
theorem zcW(hN:E.con 55=stS (zk5 zfa)){t:Tp}(ht:t.ok)(hs:HS)(id:Nat)(hid:id<hs.n)(hg:hs.H.get id=some (box (Cel.cells t))) :
 CallOk ρ Tryz.prog 65 [.ptr id 0 0] hs (enc (zfp t)) (hs.wr id (box (Cel.cells (t.next 8).1))):=by
 unfold zfp;have hF:zfa t 8=some (t.next 8):=if_pos ⟨ht,by omega,by omega⟩;have hk0:=zfE t 8;have hk1:=zhG t (n:=8) (by omega);rcases hq:t.next 8 with⟨t1,k⟩;simp only[hq]at hF hk0 hk1 ⊢;obtain⟨j,rfl⟩:=Int.eq_ofNat_of_zero_le hk0;have hj:j=0\/j=1\/j=2\/j=3\/j=4\/j=5\/j=6\/j=7:=by omega
 clear hk0 hk1 hq;rw[Int.toNat_natCast]
 rcases hj with rfl|rfl|rfl|rfl|rfl|rfl|rfl|rfl <;>
 . refine st hρ hE hcon Tryz.func65 zCD rfl (by simp) (by simp) (by simp) (by simp) ?_ hid hg;simp [hE,hN,hF,zk1];exact GivesL.keep rfl rfl (by simp) (by simp) (by simp)
end
section
variable {ρ:Nat->Value}(hρ:J.Good ρ){E:Env}(hE:E.P=Tryz.prog)(hcon:ConsOk ρ E)
include hρ hE hcon
theorem zf7 {d:Nat} (hV:E.con 61=fnS (zbI fun l:List Ty=>if Ty.oks l=true/\l.length<=10000/\Ty.sizes l<=d then some (zib l)else none)) (hH:E.con 126=fnC (zal fun (l:List Int) (x:Int)=>if l.length<=1000000 then some (decide (x∈l))else none))
 (hB:E.con 53=fnS (zbI fun i=>some (zeK i))) (hR:E.con 62=fnS (zal (zh1 d))) {t:Ty} {ids:List Int} (ht:t.ok=true) (hd:t.size<=d) (hd2:d<=10000) (hids:ids.length<=10000) (hs:HS):CallOk ρ Tryz.prog 64 [enc t,enc ids] hs (enc (zlb t ids)) hs:=by
 refine fn hρ hE hcon Tryz.func64 zCE rfl (by simp) ?_ hs;have ho:Ty.oks [t]=true:=by simp[Ty.oks,ht]
 have hsz:Ty.sizes [t]<=d:=by simpa [Ty.sizes]using hd
 have hvl:(zib [t]).length<=10000:=by
  have h1:=ziJ (zw 1 [t] []);have h2:=(zaP 1 [t] []).2;simp only[zib,List.length_nil]at h1 h2 ⊢;omega
 have hids2:ids.length<=1000000:=by omega
 simp [hE,hV,ho,hsz];unfold zlb;generalize zib [t]=vs at hvl
 refine lpi hρ hE hcon vs.length (nn:=3) (fun i (L:List Assign)=>[(1,.sl (ids.map encI) false),(2,.ptr 0 0 0),(4,.ptr 1 0 0),(5,.sl (vs.map encI) false),(6,oV 2 (L.map zQ)),(7,.int .i64 (i:Int))])
  (fun i L=>[(0,box (zh t)),(1,box [.int .i64 0,.int .i64 0,.str [],.int .i64 0,.int .i64 0,.snil])]++oH 2 6 (L.map zQ)) (fun i L=>L=zbx (vs.take i) ids []) []
  (Less.auto (by simp) (by simp) (by simp) rfl) (by simp[zbx]) ?_ ?_
 . intro L hL K;rw[List.take_length]at hL;have hLl:=(zhp vs ids []).2;rw[<- hL]at hLl ⊢;clear hL;have hrep:zh1 d t L=some (t.repl L):=by unfold zh1;rw[if_pos ⟨ht,hd,by simp at hLl;omega⟩]
   rcases L with _|⟨x,L⟩<;>simp [ziS,hE]
   . refine LessQ.mk (Less.auto (TL:=[(2,.ptr 0 0 0),(4,.ptr 1 0 0),(6,.snil)]) (HL:=[(0,box (zh t)),(1,box [.int .i64 0,.int .i64 0,.str [],.int .i64 0,.int .i64 0,.snil])]) (n:=3) (by simp) (by simp) (by simp) rfl) ?_;simp [hE,hR,hrep]
   . refine LessQ.mk (Less.auto (TL:=[(2,.ptr 0 0 0),(4,.ptr 1 0 0),(6,oV 2 ((x::L).map zQ))]) (HL:=[(0,box (zh t)),(1,box [.int .i64 0,.int .i64 0,.str [],.int .i64 0,.int .i64 0,.snil])]++oH 2 6 ((x::L).map zQ)) (n:=3) (by simp) (by simp) (by simp) rfl) ?_;simp [hE,hR,hrep]
 . intro i L hi hL K hK;have hi':(i:Int)<vs.length:=by omega
   have hw2:IntKind.i64.wrap ((i:Int)+1)=((i+1:Nat):Int):=zA (by omega);have hnew:=hK (if vs[i]∈ids then L++[⟨vs[i],zeK L.length⟩]else L) (by rw[List.take_add_one,List.getElem?_eq_getElem hi,Option.toList_some,zlV,<- hL];simp[zbx])
   have hLl:L.length<=i:=by
    have:=(zhp (vs.take i) ids []).2;rw[<- hL,List.length_take,List.length_nil]at this;omega
   clear hL;by_cases hv:vs[i]∈ids
   . rw[if_pos hv]at hnew;rcases L with _|⟨x,L⟩
     . simp [ziS,hE,hi,hi',hw2,hH,hids2,hv,hB,-Int.natCast_add];exact hnew _ _ (Less.auto (by simp[-Int.natCast_add]) (by simp) (by simp) rfl)
     . have h64:(L.length+1+1)*72<=1048576:=Nat.le_trans (Nat.mul_le_mul_right 72 (show L.length+1+1<=10001 by simp at hLl;omega)) (by decide);simp [ziS,hE,hi,hi',hw2,hH,hids2,hv,hB,h64,Nat.not_succ_le_self,-Int.natCast_add];exact hnew _ _ (Less.auto (by simp[-Int.natCast_add]) (by simp) (by simp) rfl)
   . rw[if_neg hv]at hnew;rcases L with _|⟨x,L⟩<;>simp [ziS,hE,hi,hi',hw2,hH,hids2,hv,-Int.natCast_add]<;>exact hnew _ _ (Less.auto (by simp[-Int.natCast_add]) (by simp) (by simp) rfl)
end
def zBd{α:Type}(f:α->List V):List α->V
 | []=>.snil
 |x::l=>.sl ((x::l).map f) false
@[simp] theorem z5z {α:Type} {f:α->List V}:zBd f []=.snil:=(rfl)
@[simp] theorem z1x {α:Type} {f:α->List V} {x:α} {l:List α}:zBd f (x::l)=.sl ((x::l).map f) false:=(rfl)
section
variable {ρ:Nat->Value}(hρ:J.Good ρ){E:Env}(hE:E.P=Tryz.prog)(hcon:ConsOk ρ E)
include hρ hE hcon
end
end Go.Proofs.YtpcmebclpindjaaGreat
/- Contexts: the contracts joined. -/
namespace Go.Proofs.YtpcmebclpindjaaGreat
open Go.J
open Go.J.Enc (enc)
set_option maxRecDepth 100000
set_option maxHeartbeats 1000000
section
variable {ρ:Nat->Value}(hρ:J.Good ρ)
include hρ
theorem z7B:Valid ρ Tryz.prog 63 (fnS (zbI fun t:Ty=>some (mono t))):=v1 (fo Tryz.func63 zCF) fun a r h hs=>by
 cases h;exact zg4 hρ (E:=EL []) rfl (zg valid_nil) hs
open Classical in
def zcb:J.Spec:=stS (z4r fun t:Tp=>if t.ok then some ((t.next 8).1,zfp t)else none)
theorem zmq:Valid ρ Tryz.prog 65 zcb:=Valid.st (fo Tryz.func65 zCD) fun s vs r _ hv hs id hid hg=>by
 obtain⟨q,rfl,h,rfl⟩:=zp5 hv;obtain⟨h1,rfl⟩:=zT h;exact zcW hρ (E:=EL [(55,stS (zk5 zfa))]) rfl (zg (zf (zvL hρ) valid_nil)) rfl h1 hs id hid hg
def zbx:J.Spec:=fnS (zal fun (t:Ty) (ids:List Int)=>if t.ok=true/\t.size<=1000/\ids.length<=10000 then some (zlb t ids)else none)
theorem z0s:Valid ρ Tryz.prog 64 zbx:=v2 (fo Tryz.func64 zCE) fun a b r h hs=>by
 obtain⟨⟨h1,h2,h3⟩,rfl⟩:=zT h
 exact zf7 hρ (E:=EL [(61,zrp 1000),(126,z9o),(53,fnS (zbI fun i:Int=>some (zeK i))),(62,fnS (zal (zh1 1000)))]) rfl
  (zg (zf (z7y hρ 1000 (by omega)) (zf (zAB hρ) (zf (z0t hρ) (zf (zps hρ 1000) valid_nil))))) rfl rfl rfl rfl h1 h2 (by omega) h3 hs
end
end Go.Proofs.YtpcmebclpindjaaGreat
