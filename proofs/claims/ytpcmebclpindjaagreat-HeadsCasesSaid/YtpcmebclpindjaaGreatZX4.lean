import Derived.Test.YtpcmebclpindjaaGreatZX3
import Derived.Test.YtpcmebclpindjaaGreatJN
import Derived.Test.YtpcmebclpindjaaGreatJS
set_option linter.all false
noncomputable section
/- heads.Cases,ref30.Cases: walked. -/
namespace Go.Proofs.YtpcmebclpindjaaGreat
open Go.J
open Go.J.Enc (enc)
set_option maxRecDepth 100000
set_option maxHeartbeats 4000000
section
variable {ρ:Nat->Value}(hρ:J.Good ρ)
include hρ
section
variable {E:Env}(hE:E.P=Tryz.prog)(hcon:ConsOk ρ E)
include hE hcon
theorem zfL (hS:E.con 66=fnS (zbI fun l:List Entry=>if l.length<=1000 then some (zcw l)else none)) (hC:E.con 67=rdS 4 (some 68) (zeb zqr)) {D:List Decl} {l:List Entry} (hD:D.length<=1000) (hl:l.length<=1000) (hs:HS) :
 CallOk ρ Tryz.prog 22 [enc D,enc l] hs (enc (zdF D l)) hs:=by
 refine fn hρ hE hcon Tryz.func22 zCS rfl (by simp) ?_ hs;simp [hE,hS,hl];unfold zdF;have hL:=Nat.le_trans (zf2 l) hl;generalize zcw l=L at hL
 refine lpi hρ hE hcon L.length (nn:=1) (fun i (A:List (List Nat))=>[(0,.sl (D.map zn) false),(5,oV 0 (A.map encS)),(11,.sl (L.map zb) false),(12,.int .i64 (L.length:Int)),(13,.int .i64 (i:Int))]) (fun i A=>oH 0 1 (A.map encS))
  (fun i A=>A++((L.drop i).filter (zkl D)).map (·.name)=(L.filter (zkl D)).map (·.name)/\A.length<=i) [] (Less.auto (by simp) (by simp) rfl rfl) ⟨by simp,Nat.le_refl _⟩ ?_ ?_
 . intro A hA K;have hA2:=hA.1;rw[List.drop_length,List.filter_nil,List.map_nil,List.append_nil]at hA2;rw[<- hA2];rcases A with _|⟨x,A⟩<;>simp [zfT,hE]
   . refine LessQ.mk (Less.auto (TL:=[(5,.snil)]) (HL:=[]) (n:=1) (by simp) (by simp) rfl rfl) ?_;simp [hE]
   . refine LessQ.mk (Less.auto (TL:=[(5,oV 0 ((x::A).map encS))]) (HL:=oH 0 1 ((x::A).map encS)) (n:=1) (by simp) (by simp) rfl rfl) ?_;simp [hE]
 . intro i A hi hA K hK;have hi':(i:Int)<L.length:=by omega
   have hw2:IntKind.i64.wrap ((i:Int)+1)=((i+1:Nat):Int):=zA (by omega);obtain⟨hA1,hAl⟩:=hA;rw[List.drop_eq_getElem_cons hi,List.filter_cons]at hA1;have hcn:zqr D L[i].scheme.type=some (caseT D L[i].scheme.type):=if_pos ⟨by omega,fun x _=>rfl⟩;have hce:zkl D L[i]=(decide (L[i].scheme.count=0)&&caseT D L[i].scheme.type):=rfl;rw[hce]at hA1;generalize caseT D L[i].scheme.type=b at hcn hA1;by_cases h0:L[i].scheme.count=0<;>cases b<;>simp only[h0,decide_true,decide_false,Bool.true_and,Bool.false_and,if_pos,Bool.false_eq_true,if_false,List.map_cons]at hA1
   . have hnew:=hK A ⟨hA1,by omega⟩;rcases A with _|⟨x,A⟩<;>simp [zfT,hE,hi,hi',hw2,hC,hcn,h0,-Int.natCast_add]<;>exact hnew _ _ (Less.auto (by simp[-Int.natCast_add]) (by simp) rfl rfl)
   . have hnew:=hK (A++[L[i].name]) ⟨by simpa using hA1,by simp;omega⟩;rcases A with _|⟨x,A⟩
     . simp [zfT,hE,hi,hi',hw2,hC,hcn,h0,-Int.natCast_add];exact hnew _ _ (Less.auto (by simp[-Int.natCast_add]) (by simp) rfl rfl)
     . have k1:(A.length+1+1)*16<=1048576:=Nat.le_trans (Nat.mul_le_mul_right 16 (show A.length+1+1<=1001 by simp at hAl;omega)) (by decide);simp [zfT,hE,hi,hi',hw2,hC,hcn,h0,k1,Nat.not_succ_le_self,-Int.natCast_add];exact hnew _ _ (Less.auto (by simp[-Int.natCast_add]) (by simp) rfl rfl)
   . have hnew:=hK A ⟨hA1,by omega⟩;rcases A with _|⟨x,A⟩<;>simp [zfT,hE,hi,hi',hw2,hC,hcn,h0,-Int.natCast_add]<;>exact hnew _ _ (Less.auto (by simp[-Int.natCast_add]) (by simp) rfl rfl)
   . have hnew:=hK A ⟨hA1,by omega⟩;rcases A with _|⟨x,A⟩<;>simp [zfT,hE,hi,hi',hw2,hC,hcn,h0,-Int.natCast_add]<;>exact hnew _ _ (Less.auto (by simp[-Int.natCast_add]) (by simp) rfl rfl)
theorem zf6 (hS:E.con 33=fnS (zbI fun l:List Entry=>if l.length<=1000 then some (zcw l)else none)) {D:List Decl} {l:List Entry} (hD:D.length<=1000) (hl:l.length<=1000) (hs:HS) :
 CallOk ρ Tryz.prog 23 [enc D,enc l] hs (enc (zdF D l)) hs:=by
 refine fn hρ hE hcon Tryz.func23 zCR rfl (by simp) ?_ hs;simp [hE,hS,hl];unfold zdF;have hL:=Nat.le_trans (zf2 l) hl;generalize zcw l=L at hL
 refine lpi hρ hE hcon L.length (nn:=1) (fun i (A:List (List Nat))=>[(0,.sl (D.map zn) false),(5,oV 0 (A.map encS)),(6,.sl (L.map zb) false),(7,.int .i64 (i:Int))]) (fun i A=>oH 0 1 (A.map encS))
  (fun i A=>A++((L.drop i).filter (zkl D)).map (·.name)=(L.filter (zkl D)).map (·.name)/\A.length<=i) [] (Less.auto (by simp) (by simp) rfl rfl) ⟨by simp,Nat.le_refl _⟩ ?_ ?_
 . intro A hA K;have hA2:=hA.1;rw[List.drop_length,List.filter_nil,List.map_nil,List.append_nil]at hA2;rw[<- hA2];rcases A with _|⟨x,A⟩<;>simp [zcO,hE]
   . refine LessQ.mk (Less.auto (TL:=[(5,.snil)]) (HL:=[]) (n:=1) (by simp) (by simp) rfl rfl) ?_;simp [hE]
   . refine LessQ.mk (Less.auto (TL:=[(5,oV 0 ((x::A).map encS))]) (HL:=oH 0 1 ((x::A).map encS)) (n:=1) (by simp) (by simp) rfl rfl) ?_;simp [hE]
 . intro i A hi hA K hK;have hi':(i:Int)<L.length:=by omega
   have hw2:IntKind.i64.wrap ((i:Int)+1)=((i+1:Nat):Int):=zA (by omega);obtain⟨hA1,hAl⟩:=hA;rw[List.drop_eq_getElem_cons hi,List.filter_cons]at hA1;have hce:zkl D L[i]=(decide (L[i].scheme.count=0)&&caseT D L[i].scheme.type):=rfl;rw[hce]at hA1;generalize he:L[i]=e at hA1;obtain⟨M,hM1,hM2,hcM⟩:∃ M:Nat,(((M:Int)<D.length)->¬ e.scheme.type.kind=4)/\(∀ k,k<M->e.scheme.type.kind=4/\k<D.length)/\zdQ D e.scheme.type M=caseT D e.scheme.type:=zo6 D e.scheme.type;rcases A with _|⟨x,A⟩
   . by_cases kv:e.scheme.type.kind=1<;>have kve:=(show (e.scheme.type.kind=1)=_ from(by first|exact eq_true kv|exact eq_false kv))<;>simp [zcO,hE,hi,hi',he,kve,-Int.natCast_add]
     all_goals
      refine lpi hρ hE hcon M (nn:=2) (fun k (b:Bool)=>[(0,.sl (D.map zn) false),(5,.snil),(6,.sl (L.map zb) false),(7,.int .i64 (i:Int)),(8,.ptr 1 0 0),(9,.bool b),(10,.int .i64 (k:Int))]) (fun _ _=>[(1,box (zh e.scheme.type))]) (fun k b=>b=zdQ D e.scheme.type k) (zdQ D e.scheme.type 0)
       (Less.auto (by simp[zhq,kv,-Int.natCast_add]) (by simp) (by simp) (by simp)) rfl ?_ ?_
     all_goals first
      | intro k b hk hb K2 hK2
        obtain⟨hk4,hkD⟩:=hM2 k hk;have hkD':(k:Int)<D.length:=by omega
        have hw3:IntKind.i64.wrap ((k:Int)+1)=((k+1:Nat):Int):=zA (by omega);have hkl:((e.scheme.type.args.length:Int)=(D[k].params.length:Int))=(D[k].params.length=e.scheme.type.args.length):=by simp[Int.ofNat_inj,eq_comm]
        have hkn:(e.scheme.type.name=D[k].name)=(D[k].name=e.scheme.type.name):=by simp[eq_comm]
        have hnew2:=hK2 (zdQ D e.scheme.type (k+1)) rfl;rw[zhr hkD hk4,<- hb]at hnew2;generalize kne:decide (D[k].name=e.scheme.type.name)=kn at hnew2;generalize kle:decide (D[k].params.length=e.scheme.type.args.length)=kl at hnew2;cases b<;>cases kn<;>cases kl
        all_goals simp [zfS,hE,eq_true hk4,hkD,hkD',hkl,hkn,kne,kle,hw3,-Int.natCast_add]
        all_goals simp only[Bool.and_self,Bool.and_true,Bool.and_false,Bool.or_true,Bool.or_false,Bool.true_or,Bool.false_and]at hnew2
        all_goals exact hnew2 _ _ (Less.auto (by simp[-Int.natCast_add]) (by simp) (by simp) (by simp))
      | intro b hb K2
        rw[hcM]at hb;rw[<- hb]at hA1;by_cases hMD:(M:Int)<D.length<;>first|simp [zfS,hE,hMD,eq_false (hM1 hMD)]|simp [zfS,hE,hMD]
        all_goals
         refine LessQ.mk (Less.auto (TL:=[(0,.sl (D.map zn) false),(5,.snil),(6,.sl (L.map zb) false),(7,.int .i64 (i:Int)),(9,.bool b)]) (HL:=[]) (n:=1) (by simp) (by simp) (by simp) (by simp)) ?_;by_cases h0:e.scheme.count=0<;>cases b<;>simp only[h0,decide_true,decide_false,Bool.true_and,Bool.false_and,if_pos,Bool.false_eq_true,if_false,List.map_cons]at hA1
         . have hnew:=hK [] ⟨hA1,by simp at hAl ⊢<;>omega⟩;simp [zcO,hE,hi,hi',he,hw2,h0,-Int.natCast_add];exact hnew _ _ (Less.auto (by simp[-Int.natCast_add]) (by simp) rfl rfl)
         . have hnew:=hK ([]++[e.name]) ⟨by simpa using hA1,by simp at hAl ⊢<;>omega⟩;simp [zcO,hE,hi,hi',he,hw2,h0,-Int.natCast_add];exact hnew _ _ (Less.auto (by simp[-Int.natCast_add]) (by simp) rfl rfl)
         . have hnew:=hK [] ⟨hA1,by simp at hAl ⊢<;>omega⟩;simp [zcO,hE,hi,hi',he,hw2,h0,-Int.natCast_add];exact hnew _ _ (Less.auto (by simp[-Int.natCast_add]) (by simp) rfl rfl)
         . have hnew:=hK [] ⟨hA1,by simp at hAl ⊢<;>omega⟩;simp [zcO,hE,hi,hi',he,hw2,h0,-Int.natCast_add];exact hnew _ _ (Less.auto (by simp[-Int.natCast_add]) (by simp) rfl rfl)
   . have k1 : (A.length+1+1)*16<=1048576:=Nat.le_trans (Nat.mul_le_mul_right 16 (show A.length+1+1<=1001 by simp at hAl;omega)) (by decide);by_cases kv:e.scheme.type.kind=1<;>have kve:=(show (e.scheme.type.kind=1)=_ from(by first|exact eq_true kv|exact eq_false kv))<;>simp [zcO,hE,hi,hi',he,kve,-Int.natCast_add]
     all_goals
      refine lpi hρ hE hcon M (nn:=2) (fun k (b:Bool)=>[(0,.sl (D.map zn) false),(5,oV 0 ((x::A).map encS)),(6,.sl (L.map zb) false),(7,.int .i64 (i:Int)),(8,.ptr 1 0 0),(9,.bool b),(10,.int .i64 (k:Int))]) (fun _ _=>oH 0 1 ((x::A).map encS)++[(1,box (zh e.scheme.type))]) (fun k b=>b=zdQ D e.scheme.type k) (zdQ D e.scheme.type 0)
       (Less.auto (by simp[zhq,kv,-Int.natCast_add]) (by simp) (by simp) (by simp)) rfl ?_ ?_
     all_goals first
      | intro k b hk hb K2 hK2
        obtain⟨hk4,hkD⟩:=hM2 k hk;have hkD':(k:Int)<D.length:=by omega
        have hw3:IntKind.i64.wrap ((k:Int)+1)=((k+1:Nat):Int):=zA (by omega);have hkl:((e.scheme.type.args.length:Int)=(D[k].params.length:Int))=(D[k].params.length=e.scheme.type.args.length):=by simp[Int.ofNat_inj,eq_comm]
        have hkn:(e.scheme.type.name=D[k].name)=(D[k].name=e.scheme.type.name):=by simp[eq_comm]
        have hnew2:=hK2 (zdQ D e.scheme.type (k+1)) rfl;rw[zhr hkD hk4,<- hb]at hnew2;generalize kne:decide (D[k].name=e.scheme.type.name)=kn at hnew2;generalize kle:decide (D[k].params.length=e.scheme.type.args.length)=kl at hnew2;cases b<;>cases kn<;>cases kl
        all_goals simp [zfS,hE,eq_true hk4,hkD,hkD',hkl,hkn,kne,kle,hw3,-Int.natCast_add]
        all_goals simp only[Bool.and_self,Bool.and_true,Bool.and_false,Bool.or_true,Bool.or_false,Bool.true_or,Bool.false_and]at hnew2
        all_goals exact hnew2 _ _ (Less.auto (by simp[-Int.natCast_add]) (by simp) (by simp) (by simp))
      | intro b hb K2
        rw[hcM]at hb;rw[<- hb]at hA1;by_cases hMD:(M:Int)<D.length<;>first|simp [zfS,hE,hMD,eq_false (hM1 hMD)]|simp [zfS,hE,hMD]
        all_goals
         refine LessQ.mk (Less.auto (TL:=[(0,.sl (D.map zn) false),(5,oV 0 ((x::A).map encS)),(6,.sl (L.map zb) false),(7,.int .i64 (i:Int)),(9,.bool b)]) (HL:=oH 0 1 ((x::A).map encS)) (n:=1) (by simp) (by simp) (by simp) (by simp)) ?_;by_cases h0:e.scheme.count=0<;>cases b<;>simp only[h0,decide_true,decide_false,Bool.true_and,Bool.false_and,if_pos,Bool.false_eq_true,if_false,List.map_cons]at hA1
         . have hnew:=hK (x::A) ⟨hA1,by simp at hAl ⊢<;>omega⟩;simp [zcO,hE,hi,hi',he,hw2,h0,-Int.natCast_add];exact hnew _ _ (Less.auto (by simp[-Int.natCast_add]) (by simp) rfl rfl)
         . have hnew:=hK ((x::A)++[e.name]) ⟨by simpa using hA1,by simp at hAl ⊢<;>omega⟩;simp [zcO,hE,hi,hi',he,hw2,h0,k1,Nat.not_succ_le_self,-Int.natCast_add];exact hnew _ _ (Less.auto (by simp[-Int.natCast_add]) (by simp) rfl rfl)
         . have hnew:=hK (x::A) ⟨hA1,by simp at hAl ⊢<;>omega⟩;simp [zcO,hE,hi,hi',he,hw2,h0,-Int.natCast_add];exact hnew _ _ (Less.auto (by simp[-Int.natCast_add]) (by simp) rfl rfl)
         . have hnew:=hK (x::A) ⟨hA1,by simp at hAl ⊢<;>omega⟩;simp [zcO,hE,hi,hi',he,hw2,h0,-Int.natCast_add];exact hnew _ _ (Less.auto (by simp[-Int.natCast_add]) (by simp) rfl rfl)
end
end
end Go.Proofs.YtpcmebclpindjaaGreat
/- law30.context: walked. The contracts joined. -/
namespace Go.Proofs.YtpcmebclpindjaaGreat
open Go.J
open Go.J.Enc (enc)
set_option maxRecDepth 100000
set_option maxHeartbeats 1000000
section
variable {ρ:Nat->Value}(hρ:J.Good ρ)
include hρ
section
variable {E:Env}(hE:E.P=Tryz.prog)(hcon:ConsOk ρ E)
include hE hcon
theorem zeD (hN:E.con 55=stS (zk5 zfa)) (hT:E.con 15=stS (zp2 (zhz 2))) (hVn:E.con 65=zcb) (hVs:E.con 25=zdN)
 (hRg:E.con 28=fnS (zal fun h i:Int=>some (zbL h i))) (hMo:E.con 63=fnS (zbI fun t:Ty=>some (mono t))) (hCl:E.con 64=zbx)
 {t:Tp} {D:List Decl} (ht:t.ok) (hD:DOk D) (hD3:z3Q D) (hs:HS) (id:Nat) (hid:id<hs.n) (hg:hs.H.get id=some (box (Cel.cells t))) :
 CallOk ρ Tryz.prog 21 [.ptr id 0 0,enc D] hs (enc (zhx t D).2) (hs.wr id (box (Cel.cells (zhx t D).1))):=by
 have hFn:∀ (t':Tp) (n:Int),t'.ok->0<=n->n<=1000->zfa t' n=some (t'.next n):=fun t' n h h1 h2=>if_pos ⟨h,by omega,by omega⟩
 have ht1:=zbc ht 5;have hk0:=zfE t 5;have hk1:=zhG t (n:=5) (by omega);have hF:=hFn t 5 ht (by omega) (by omega);generalize hR:zhx t D=R;unfold zhx at hR;rcases hq:t.next 5 with⟨t1,k⟩;simp only[hq]at hF hk0 hk1 ht1 hR;obtain⟨m,rfl⟩:=Int.eq_ofNat_of_zero_le hk0;rw[Int.toNat_natCast]at hR;have hm:m<=4:=by omega
 have hv3:zcn 3=[zfs 0,zfs 1,zfs 2]:=rfl;have hlvo:∀ l∈zcn 3++[zbL 0 0],l.ok=true/\l.size<=1:=by rw[hv3];simp[zfs,zbL,Ty.ok,Ty.oks,Ty.size,Ty.sizes]
 have hTF:∀ t':Tp,t'.ok->zhz 2 t' D (zcn 3++[zbL 0 0]) 2=some (typeM 2 t' D (zcn 3++[zbL 0 0])):=fun t' h=>by
  unfold zhz;rw[if_pos ⟨h,hD,by rw[hv3];simp,by omega⟩];rfl
 have hT6:∀ t':Tp,(typeM 2 t' D (zcn 3++[zbL 0 0])).2.ok=true/\(typeM 2 t' D (zcn 3++[zbL 0 0])).2.size<=1000:=fun t'=>by
  refine⟨zll hD3 (fun l h=>(hlvo l h).1) 2 t',?_⟩;have:=zlm hD3 (fun l h=>(hlvo l h).2) 2 t';omega
 have hlv:zcn 3++[zbL 0 0]=[zfs 0,zfs 1,zfs 2,zbL 0 0]:=rfl;rw[hlv]at hTF hT6;rw[<- hE];refine zvZ hρ hcon (by rw[hE];exact follows) (by rw[hE];exact named) (by rw[hE];exact Tryz.func21) zCT rfl (by simp) (by simp) (by simp) (by simp[V.in3,V.in2,V.in1]) ?_ hid hg;clear hg hid;simp [hE,hN,hF];have hm0:(m:Int)=(m:Int)-(0:Nat):=by omega
 rw[hm0]
 refine lpi hρ hE hcon m (nn:=2) (fun i (p:Tp×List Entry)=>[(0,.ptr 0 0 0),(1,.sl (D.map zn) false),(5,oV 1 (p.2.map zb)),(6,.int .i64 ((m:Int)-(i:Int)))])
  (fun i p=>[(0,box (Cel.cells p.1))]++oH 1 7 (p.2.map zb)) (fun i p=>p=zlj D t1 i) (t1,[])
  (Less.auto (by simp) (by simp) (by simp) rfl) rfl ?_ ?_
 . intro p hp K;rw[<- hp]at hR;subst hR;obtain⟨t2,L⟩:=p;rcases L with _|⟨x,L⟩<;>simp [zhb,hE]
   . refine LessQ.mk (Less.auto (TL:=[(5,.snil)]) (HL:=[(0,box (Cel.cells t2))]) (n:=2) (by simp) (by simp) (by simp) rfl) ?_;simp [hE];exact GivesF.keep rfl rfl (by simp[za7]) (by simp[ownB])
   . refine LessQ.mk (Less.auto (TL:=[(5,oV 1 ((x::L).map zb))]) (HL:=[(0,box (Cel.cells t2))]++oH 1 7 ((x::L).map zb)) (n:=2) (by simp) (by simp) (by simp) rfl) ?_;simp [hE];exact GivesF.keep rfl rfl (by simp[za7]) (by simp[ownB])
 . intro i p hi hp K hK;have hpe:=zk0 (D:=D) ht1 i;rw[<- hp]at hpe;have hi':(i:Int)<m:=by omega
   have hw2:IntKind.i64.wrap ((m:Int)-(i:Int)-1)=(m:Int)-((i+1:Nat):Int):=by rw[wrap_i64 (by omega) (by omega)];omega
   have hnew:=hK (zfg D p) (by rw[hp];rfl);have hLl:p.2.length<=1000:=by omega
   obtain⟨hp1,hp2⟩:=hpe;obtain⟨t2,L⟩:=p;simp only at hLl hp1 hp2;unfold zfg at hnew;rw[hlv]at hnew;have hF6:=hTF t2 hp1;have hT7:=hT6 t2;have ht8:=(zfh (D:=D) (Lv:=[zfs 0,zfs 1,zfs 2,zbL 0 0]) 2 t2 hp1).1;rcases hq6:typeM 2 t2 D [zfs 0,zfs 1,zfs 2,zbL 0 0]with⟨t3,g⟩;simp only[hq6]at hF6 hT7 hnew ht8;have ht9:=zbc ht8 3;have hF7:=hFn t3 3 ht8 (by omega) (by omega);rcases hq9:t3.next 3 with⟨t4,k9⟩;simp only[hq9]at hF7 hnew ht9;generalize hvn:zfp t4=vn at hnew;rcases hq8:t4.next 8 with⟨t5,k8⟩;simp only[hq8]at hnew;by_cases hk9:k9=0
   . rw[if_pos hk9]at hnew;subst hk9;rcases L with _|⟨x,L⟩
     . simp [zhb,hE,hi',hVs,zdN,hv3,hRg,hT,hF6,hMo,hN,hF7,hCl,zbx,hT7,hVn,zcb,ht9,hvn,hq8,hw2,-Int.natCast_add];exact hnew _ _ (Less.auto (by simp[-Int.natCast_add]) (by simp) (by simp) rfl)
     . have k1:(L.length+1+1)*88<=1048576:=Nat.le_trans (Nat.mul_le_mul_right 88 (show L.length+1+1<=1001 by simp at hLl;omega)) (by decide);simp [zhb,hE,hi',hVs,zdN,hv3,hRg,hT,hF6,hMo,hN,hF7,hCl,zbx,hT7,hVn,zcb,ht9,hvn,hq8,k1,Nat.not_succ_le_self,hw2,-Int.natCast_add];exact hnew _ _ (Less.auto (by simp[-Int.natCast_add]) (by simp) (by simp) rfl)
   . rw[if_neg hk9]at hnew;rcases L with _|⟨x,L⟩
     . simp [zhb,hE,hi',hVs,zdN,hv3,hRg,hT,hF6,hMo,hN,hF7,hk9,hVn,zcb,ht9,hvn,hq8,hw2,-Int.natCast_add];exact hnew _ _ (Less.auto (by simp[-Int.natCast_add]) (by simp) (by simp) rfl)
     . have k1:(L.length+1+1)*88<=1048576:=Nat.le_trans (Nat.mul_le_mul_right 88 (show L.length+1+1<=1001 by simp at hLl;omega)) (by decide);simp [zhb,hE,hi',hVs,zdN,hv3,hRg,hT,hF6,hMo,hN,hF7,hk9,hVn,zcb,ht9,hvn,hq8,k1,Nat.not_succ_le_self,hw2,-Int.natCast_add];exact hnew _ _ (Less.auto (by simp[-Int.natCast_add]) (by simp) (by simp) rfl)
end
def zpD:J.Spec:=fnS (zbI fun l:List Entry=>if l.length<=1000 then some (zcw l)else none)
def z14:J.Spec:=fnS (zal fun (l:List Entry) (n:List Nat)=>if l.length<=1000 then some (ziD l n)else none)
def zev:J.Spec:=fnS (zal fun (D:List Decl) (l:List Entry)=>if D.length<=1000/\l.length<=1000 then some (zdF D l)else none)
theorem z0p:Valid ρ Tryz.prog 66 zpD:=v1 (fo Tryz.func66 zCC) fun a r h hs=>by
 obtain⟨h1,rfl⟩:=zT h;exact zfc hρ (E:=EL [(95,rdS 7 (some 127) (zeb zqq))]) rfl (zg (zf (za6 hρ) valid_nil)) rfl h1 hs
theorem z7C:Valid ρ Tryz.prog 80 z14:=v2 (fo Tryz.func80 zC9) fun a b r h hs=>by
 obtain⟨h1,rfl⟩:=zT h;exact zeZ hρ (E:=EL []) rfl (zg valid_nil) h1 hs
theorem z0n:Valid ρ Tryz.prog 33 zpD:=v1 (fo Tryz.func33 zCL) fun a r h hs=>by
 obtain⟨h1,rfl⟩:=zT h;exact zg3 hρ (E:=EL [(80,z14)]) rfl (zg (zf (z7C hρ) valid_nil)) rfl h1 hs
theorem zvO:Valid ρ Tryz.prog 22 zev:=v2 (fo Tryz.func22 zCS) fun a b r h hs=>by
 obtain⟨⟨h1,h2⟩,rfl⟩:=zT h;exact zfL hρ (E:=EL [(66,zpD),(67,rdS 4 (some 68) (zeb zqr))]) rfl (zg (zf (z0p hρ) (zf (zaH hρ) valid_nil))) rfl rfl h1 h2 hs
theorem zvK:Valid ρ Tryz.prog 23 zev:=v2 (fo Tryz.func23 zCR) fun a b r h hs=>by
 obtain⟨⟨h1,h2⟩,rfl⟩:=zT h;exact zf6 hρ (E:=EL [(33,zpD)]) rfl (zg (zf (z0n hρ) valid_nil)) rfl h1 h2 hs
open Classical in
def zpr(t:Tp)(D:List Decl):Option (Tp×List Entry):=if t.ok/\DOk D/\z3Q D then some (zhx t D)else none
theorem z0r:Valid ρ Tryz.prog 21 (stS (zk5 zpr)):=s1 (fo Tryz.func21 zCT) fun s a q h hs id hid hg=>by
 obtain⟨⟨h1,h2,h3⟩,rfl⟩:=zT h
 exact zeD hρ (E:=EL [(55,stS (zk5 zfa)),(15,stS (zp2 (zhz 2))),(65,zcb),(25,zdN),(28,fnS (zal fun h i:Int=>some (zbL h i))),(63,fnS (zbI fun t:Ty=>some (mono t))),(64,zbx)]) rfl
  (zg (zf (zvL hρ) (zf (z7z hρ 2 (by omega)) (zf (zmq hρ) (zf (zvM hρ) (zf (z0m hρ) (zf (z7B hρ) (zf (z0s hρ) valid_nil)))))))) rfl rfl rfl rfl rfl rfl rfl h1 h2 h3 hs id hid hg
end
end Go.Proofs.YtpcmebclpindjaaGreat
/- HeadsCases: the law's own run. -/
namespace Go.Proofs.YtpcmebclpindjaaGreat
open Go.J
open Go.J.Enc (enc)
set_option maxRecDepth 100000
set_option maxHeartbeats 1000000
def z3S:J.Spec:=fnS (zf0 true)
section
variable {ρ:Nat->Value}(hρ:J.Good ρ)
include hρ
variable {E:Env}(hE:E.P=Tryz.prog)(hcon:ConsOk ρ E)
include hE hcon
theorem zgD (h1:E.con 13=z3S) (h2:E.con 14=z6b) (h3:E.con 16=fnS (zbI fun bits:Int=>some (zaE bits))) (h4:E.con 21=stS (zk5 zpr)) (h5:E.con 22=zev) (h6:E.con 23=zev)
 {bits other:Int} {codes:List Int} (hs:HS):CallOk ρ Tryz.prog 4 [enc bits,enc codes,enc other] hs (enc true) hs:=by
 refine fn hρ hE hcon Tryz.func4 fB4 rfl (by simp) ?_ hs;simp [hE,h1,z3S,h2,z6b];refine zex (fun hc=>?_) (fun hc=>?_)<;>simp [hE]
 have hc':codes.length<=60:=by omega
 have ht:(⟨codes,0⟩:Tp).ok:=⟨Int.le_refl _,by simp;omega⟩;have hF:zpr ⟨codes,0⟩ (zaE bits)=some (zhx ⟨codes,0⟩ (zaE bits)):=if_pos ⟨ht,zeI bits,zke bits⟩
 have hl:(zhx ⟨codes,0⟩ (zaE bits)).2.length<=1000:=by
  have h0:=zfE ⟨codes,0⟩ 5;have h9:=zhG ⟨codes,0⟩ (n:=5) (by omega);have:=(zk0 (D:=zaE bits) (zbc ht 5) (Tp.next ⟨codes,0⟩ 5).2.toNat).2;unfold zhx;omega
 have hd1:=(zeI bits).1;have hd2:=(zeI other).1;generalize zhx ⟨codes,0⟩ (zaE bits)=p at hF hl;obtain⟨t1,ctx⟩:=p;simp only at hl;simp [hE,h3,h4,hF];generalize zaE bits=D1 at hd1;generalize zaE other=D2 at hd2
 refine lpi hρ hE hcon 3 (nn:=1) (fun i (_:Unit)=>[(8,.sl (ctx.map zb) false),(30,.sl [[.sl (D1.map zn) false],[.sl (D2.map zn) false],[.snil]] true),(31,.int .i64 3),(32,.int .i64 (i:Int))]) (fun _ _=>[]) (fun _ _=>True) ()
  (Less.auto (by simp) (by simp) rfl rfl) trivial ?_ ?_
 . intro _ _ K;simp [znp,hE];refine LessQ.mk (Less.auto (TL:=[]) (HL:=[]) (n:=1) (by simp) (by simp) rfl rfl) ?_;simp [hE]
 . intro i _ hi _ K hK;have hw2:IntKind.i64.wrap ((i:Int)+1)=((i+1:Nat):Int):=zA (by omega);have hnew:=hK () trivial
   have hcs:∀ D:List Decl,(zdF D ctx).length<=1000:=fun D=>by
    unfold zdF;rw[List.length_map];exact Nat.le_trans (List.length_filter_le ..) (Nat.le_trans (zf2 ctx) hl)
   have hin:∀ (L:List (List Nat)),L.length<=1000->∀ (T:PT V) (hs:HS) (Q:Ex->PT V->HS->Prop),
    Less 0 T hs (mkP [(8,.sl (ctx.map zb) false),(30,.sl [[.sl (D1.map zn) false],[.sl (D2.map zn) false],[.snil]] true),(31,.int .i64 3),(32,.int .i64 (i:Int)),(11,.sl (L.map encS) false),(12,.sl (L.map encS) false),(13,.int .i64 0)]) { H:=mkP [],n:=1,log:=[] } ->
    Q (.exit 2) (mkP [(8,.sl (ctx.map zb) false),(30,.sl [[.sl (D1.map zn) false],[.sl (D2.map zn) false],[.snil]] true),(31,.int .i64 3),(32,.int .i64 (i:Int))]) { H:=mkP [],n:=1,log:=[] } ->
    Ls ρ E 0 63 (.loop zq3) T hs Q:=by
    intro L hLl T hs Q hT hQ
    refine lpi hρ hE hcon L.length (nn:=1) (fun j (_:Unit)=>[(8,.sl (ctx.map zb) false),(30,.sl [[.sl (D1.map zn) false],[.sl (D2.map zn) false],[.snil]] true),(31,.int .i64 3),(32,.int .i64 (i:Int)),(11,.sl (L.map encS) false),(12,.sl (L.map encS) false),(13,.int .i64 (j:Int))]) (fun _ _=>[]) (fun _ _=>True) ()
     hT trivial ?_ ?_
    . intro _ _ K2;simp [zq3,hE];exact LessQ.mk (Less.auto (by simp) (by simp) rfl rfl) hQ
    . intro j _ hj _ K2 hK2;have hj':(j:Int)<L.length:=by omega
      have hw3:IntKind.i64.wrap ((j:Int)+1)=((j+1:Nat):Int):=zA (by omega);have hnew2:=hK2 () trivial;simp [zq3,hE,hj,hj',hw3,-Int.natCast_add];exact hnew2 _ _ (Less.auto (by simp[-Int.natCast_add]) (by simp) rfl rfl)
   have w1:IntKind.i64.wrap 1=1:=wrap_i64 (by decide) (by decide);have w2:IntKind.i64.wrap 2=2:=wrap_i64 (by decide) (by decide);have w3:IntKind.i64.wrap 3=3:=wrap_i64 (by decide) (by decide);have hi3:i=0\/i=1\/i=2:=by omega
   rcases hi3 with rfl|rfl|rfl
   . have hL:=hcs D1;simp [znp,hE,h5,h6,zev,hl,hd1];generalize zdF D1 ctx=L at hL;refine hin L hL _ _ _ (Less.auto (by simp) (by simp) rfl rfl) ?_;simp [hE,w1,w2,w3];exact hnew _ _ (Less.auto (by simp) (by simp) rfl rfl)
   . have hL:=hcs D2;simp [znp,hE,h5,h6,zev,hl,hd2];generalize zdF D2 ctx=L at hL;refine hin L hL _ _ _ (Less.auto (by simp) (by simp) rfl rfl) ?_;simp [hE,w1,w2,w3];exact hnew _ _ (Less.auto (by simp) (by simp) rfl rfl)
   . have hL:=hcs [];simp [znp,hE,h5,h6,zev,hl];generalize zdF [] ctx=L at hL;refine hin L hL _ _ _ (Less.auto (by simp) (by simp) rfl rfl) ?_;simp [hE,w1,w2,w3];exact hnew _ _ (Less.auto (by simp) (by simp) rfl rfl)
end
end Go.Proofs.YtpcmebclpindjaaGreat
