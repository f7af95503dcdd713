import Derived.Test.YtpcmebclpindjaaGreatZX4
import Derived.Test.YtpcmebclpindjaaGreatJHa
set_option linter.all false
noncomputable section
/- slices.Reverse over expressions;reduce.Spine and the reference's Spine: walked. -/
namespace Go.Proofs.YtpcmebclpindjaaGreat
open Go.J
open Go.J.Enc (enc)
set_option maxRecDepth 100000
set_option maxHeartbeats 4000000
def z4q:J.Spec:=zrE (z4r 11 fun l:List Xp=>if l.length<=5000 then some l.reverse else none)
section
variable {ρ:Nat->Value}(hρ:J.Good ρ)
include hρ
section
variable {E:Env}(hE:E.P=Tryz.prog)(hcon:ConsOk ρ E)
include hE hcon
theorem zfS{hs:HS}:CallOk ρ Tryz.prog 157 [.snil] hs (revZ.v0.ren (news hs.n revZ.k revZ.π)) (zg6 hs revZ.k revZ.k' revZ.π revZ.OL'):=by
 refine em hρ hE hcon (D:=revZ) Tryz.func157 z0h rfl znA ?_ (znB hs);show Wp ρ E 0 _ _ _ { H:=mkP [],n:=0,log:=[] } (J.Leaves E.P _ (GivesL 0 (.tuple []) []));have hw:IntKind.i64.wrap (-1)=-1:=wrap_i64 (by decide) (by decide);simp [hE,revZ,hw];refine lpi hρ hE hcon 0 (nn:=0) (fun _ (_:Unit)=>[(2,.int .i64 0),(3,.int .i64 (-1))]) (fun _ _=>[]) (fun _ _=>True) () (Less.auto (by simp) (by simp) rfl rfl) trivial ?_ (fun i _ h=>by omega);intro _ _ K;simp [zix,hE];refine LessQ.mk (Less.auto (TL:=[]) (HL:=[]) (n:=0) (by simp) (by simp) rfl rfl) ?_;simp [hE];exact GivesL.keepX rfl rfl rfl (by simp)
theorem zha{id g:Nat}{l:List Xp}(hl:l.length<=5000){hs:HS}(hg:hs.H.get id=some (.arr 11 g (l.map zI) false false true))(hi:id<hs.n) :
 CallOk ρ Tryz.prog 157 [.own id g 0 l.length none] hs (.tuple []) (hs.wr id (.arr 11 g (l.reverse.map zI) false false true)):=by
 have key:CallOk ρ Tryz.prog 157 [.own id g 0 l.length none] hs ((zhb id g 11 (l.map zI) (l.reverse.map zI)).val hs) ((zhb id g 11 (l.map zI) (l.reverse.map zI)).heap hs):=by
  refine em hρ hE hcon (D:=zhb id g 11 (l.map zI) (l.reverse.map zI)) Tryz.func157 z0h rfl (znC (l:=l) (l':=l.reverse)) ?_ (znD (l:=l) hg hi);show Wp ρ E 1 _ _ ((PT.leaf).set 0 (.own 0 g 0 (l.map zI).length none)) { H:=mkP [(0,.arr 11 g (l.map zI) false false true)],n:=1,log:=[] } (J.Leaves E.P _ (GivesL 1 (.tuple []) [(0,.arr 11 g (l.reverse.map zI) false false true)]));rw[List.length_map];have hw:IntKind.i64.wrap ((l.length:Int)-1)=(l.length:Int)-1-(0:Nat):=by rw[wrap_i64 (by omega) (by omega)];omega
  simp [hE];rw[hw]
  refine lpi hρ hE hcon (l.length / 2) (nn:=1) (fun i (L:List Xp)=>[(0,.own 0 g 0 l.length none),(2,.int .i64 (i:Int)),(3,.int .i64 ((l.length:Int)-1-(i:Int)))]) (fun i L=>[(0,.arr 11 g (L.map zI) false false true)]) (fun i L=>RevI l i L) l
   (Less.auto (by simp) (by simp) (by simp) rfl) (RevI.start l) ?_ ?_
  . intro L hL K;have hLr:=hL.done (by omega);subst hLr;have hneg:¬ ((l.length / 2:Nat):Int)<(l.length:Int)-1-((l.length / 2:Nat):Int):=by omega
    generalize l.length / 2=h at hneg;simp [zix,hE,hneg,-List.map_reverse];refine LessQ.mk (Less.auto (TL:=[]) (HL:=[(0,.arr 11 g (l.reverse.map zI) false false true)]) (n:=1) (by simp) (by simp[-List.map_reverse]) (by simp) rfl) ?_;simp [hE,-List.map_reverse];exact GivesL.keepX rfl rfl rfl (by simp[-List.map_reverse])
  . intro i L hi hL K hK;have hll:=hL.1;have h1:i<L.length:=by omega
    have h2:l.length-1-i<L.length:=by omega
    have hnew:=hK _ (hL.step (by omega) h1 h2);obtain⟨j,hj⟩:∃ j,l.length-1-i=j:=⟨_,rfl⟩;have ej:(l.length:Int)-1-(i:Int)=(j:Int):=by omega
    have hw1:IntKind.i64.wrap ((i:Int)+1)=((i+1:Nat):Int):=zC (by omega);have hw2:IntKind.i64.wrap ((j:Int)-1)=(l.length:Int)-1-((i+1:Nat):Int):=by rw[wrap_i64 (by omega) (by omega)];omega
    simp only[hj]at hnew h2;rw[ej];have hij:(i:Int)<(j:Int):=by omega
    have gi:L[i]?=some L[i]:=List.getElem?_eq_getElem h1;have gj:L[j]?=some L[j]:=List.getElem?_eq_getElem h2;have i1:i<l.length:=by omega
    have j1:j<l.length:=by omega
    have m1:i*11 / 11=i:=by omega
    have m2:i*11 % 11=0:=by omega
    have m3:j*11 / 11=j:=by omega
    have m4:j*11 % 11=0:=by omega
    have h1':(i:Int)<l.length:=by omega
    have h2':(j:Int)<l.length:=by omega
    have hne:i≠j:=by omega
    have eX:(((L.map zI).set i (zI L[j])).set j (zI L[i]))=((L.set i L[j]).set j L[i]).map zI:=by simp[List.map_set,-zy]
    generalize (L.set i L[j]).set j L[i]=X at hnew eX;simp only[zy L[i],zy L[j]]at eX;simp [zix,hE,hij,i1,j1,h1',h2',gi,gj,m1,m2,m3,m4,hll,hw1,hw2,hne,List.getElem_set,eX,-Int.natCast_add];exact hnew _ _ (Less.auto (by simp[-Int.natCast_add]) (by simp) (by simp) rfl)
 have e:(zhb id g 11 (l.map zI) (l.reverse.map zI)).heap hs=hs.wr id (.arr 11 g (l.reverse.map zI) false false true):=zfW (l':=l.reverse);rw[e]at key;exact key
end
end
end Go.Proofs.YtpcmebclpindjaaGreat
/- reduce.Spine and the reference's Spine: walked. -/
namespace Go.Proofs.YtpcmebclpindjaaGreat
open Go.J
open Go.J.Enc (enc)
set_option maxRecDepth 100000
set_option maxHeartbeats 1000000
def zko:List Xp->V
 | []=>.snil
 | [a]=>.sl [zI a] true
 |a::b::l=>.own 2 0 0 (l.length+2) none
def zkp:List Xp->List (Nat×J.Obj)
 | []=>[]
 | [_]=>[]
 |a::b::l=>[(2,.arr 11 0 ((a::b::l).map zI) false false true)]
section
variable {ρ:Nat->Value}(hρ:J.Good ρ)
include hρ
section
variable {E:Env}(hE:E.P=Tryz.prog)(hcon:ConsOk ρ E)
include hE hcon
theorem zf2 {e:Xp} {Q:Ex->PT V->HS->Prop}
 (hQ:Q (.exit 0) (mkP [(1,.ptr 0 0 0),(2,.ptr 1 0 0),(4,zko (z8 e).2)]) { H:=mkP ([(0,.arr 11 0 [zI (z8 e).1] true false false),(1,.arr 11 0 [zt] true false false)]++zkp (z8 e).2),n:=3,log:=[] }) :
 ∀ (d:Nat) (x:Xp) (A:List Xp),x.depth<=d->x.wf=true->((z8 x).1=(z8 e).1/\(z8 x).2++A=(z8 e).2)->A.length+x.depth<=1001 ->
   LsN ρ E 0 21 zjD (LessQ 0 Q) (d+1) (mkP [(1,.ptr 0 0 0),(2,.ptr 1 0 0),(4,zko A)]) { H:=mkP ([(0,.arr 11 0 [zI x] true false false),(1,.arr 11 0 [zt] true false false)]++zkp A),n:=3,log:=[] }:=by
 intro d
 induction d with
 |zero=>intro x A h;rw[Xp.depth_eq]at h;omega
 | succ d ih =>
   intro x A h hw he hb;refine lp hρ hE hcon fun K hK=>?_
   by_cases k5:x.kind=5
   . have ha:=Xp.wf_app hw k5;have hk:=Xp.app_kids ha;have h1:=Xp.kid_depth (Xp.fn_mem ha);rw[zci ha,List.append_assoc,List.singleton_append]at he;have hnext:=ih x.fn (x.arg::A) (by omega) ((Xp.wf_parts hw).2.2.1 _ (Xp.fn_mem ha)) he (by simp;omega);have k1:∀ a b B,A=a::b::B->(1+(B.length+1+1))*152<=1048576:=by rintro a b B rfl;simp at hb;omega
     have hkl:(x.kids.length:Int)=2:=by rw[hk];rfl
     generalize x.fn=f at hk hnext;generalize x.arg=y at hk hnext;rcases A with _|⟨a,_|⟨b,A⟩⟩
     all_goals first
      |simp [zjD,hE,zko,zkp,eq_true k5,hk,k1 _ _ _ rfl]
      |simp [zjD,hE,zko,zkp,eq_true k5,hk]
     all_goals exact hK _ _ (zF (Less.auto (by simp[zko,zkp]<;>omega) (by simp[zt,zko,zkp]) (by simp[zt,zko,zkp]) rfl) hnext)
   . have hna:¬ x.isApp=true:=fun h=>k5 (Xp.isApp_iff.1 h).1
     rw[zbp hna,List.nil_append]at he;rw[<- he.1,<- he.2]at hQ;rcases A with _|⟨a,_|⟨b,A⟩⟩<;>simp [zjD,hE,zko,zkp,eq_false k5]
     all_goals exact LessQ.mk (Less.auto (by simp[zko,zkp,zt]) (by simp[zt,zko,zkp]) (by simp[zt,zko,zkp]) rfl) hQ
theorem zga{e:Xp}(hd:e.depth<=1000)(hw:e.wf=true)(hs:HS):CallOk ρ Tryz.prog 35 [enc e] hs (enc (z8 e)) hs:=by
 refine fn hρ hE hcon Tryz.func35 zGH rfl (by simp) ?_ hs;simp [hE];refine zb8 (zbJ (zF (Less.auto (TL:=[(1,.ptr 0 0 0),(2,.ptr 1 0 0),(4,zko [])]) (HL:=[(0,.arr 11 0 [zI e] true false false),(1,.arr 11 0 [zt] true false false)]++zkp []) (n:=3) (by simp[zko,zkp]) (by simp[zt,zko,zkp]) (by simp[zt,zko,zkp]) rfl) (zf2 hρ hE hcon (e:=e) ?_ e.depth e [] (Nat.le_refl _) hw ⟨rfl,by simp⟩ (by simp;omega))));generalize z8 e=R;obtain⟨h,A⟩:=R;rcases A with _|⟨a,_|⟨b,A⟩⟩<;>simp [hE,zko,zkp,zt]
theorem zeU {e:Xp} {Q:Ex->PT V->HS->Prop}
 (hQ:Q (.exit 0) (mkP [(1,.ptr 0 0 0),(2,.ptr 1 0 0),(4,oV 2 ((z8 e).2.reverse.map zI))]) { H:=mkP ([(0,.arr 11 0 [zI (z8 e).1] true false false),(1,.arr 11 0 [zt] true false false)]++oH 2 11 ((z8 e).2.reverse.map zI)),n:=3,log:=[] }) :
 ∀ (d:Nat) (x:Xp) (A:List Xp),x.depth<=d->((z8 x).1=(z8 e).1/\A++(z8 x).2.reverse=(z8 e).2.reverse)->A.length+x.depth<=1001 ->
   LsN ρ E 0 29 zhA (LessQ 0 Q) (d+1) (mkP [(1,.ptr 0 0 0),(2,.ptr 1 0 0),(4,oV 2 (A.map zI))]) { H:=mkP ([(0,.arr 11 0 [zI x] true false false),(1,.arr 11 0 [zt] true false false)]++oH 2 11 (A.map zI)),n:=3,log:=[] }:=by
 intro d
 induction d with
 |zero=>intro x A h;rw[Xp.depth_eq]at h;omega
 | succ d ih =>
   intro x A h he hb;refine lp hρ hE hcon fun K hK=>?_
   by_cases ha:x.isApp=true
   . have hk:=Xp.app_kids ha;have h1:=Xp.kid_depth (Xp.fn_mem ha);rw[zci ha,List.reverse_append,List.reverse_singleton]at he;have k5:=(Xp.isApp_iff.1 ha).1;have hnext:=ih x.fn (A++[x.arg]) (by omega) ⟨he.1,by rw[List.append_assoc];exact he.2⟩ (by simp;omega);have k1:∀ a B,A=a::B->(B.length+1+1)*152<=1048576:=by rintro a B rfl;simp at hb;omega
     generalize x.fn=f at hk hnext;generalize x.arg=y at hk hnext;rcases A with _|⟨a,A⟩
     all_goals first
      |simp [zhA,hE,eq_true k5,hk,k1 _ _ rfl,Nat.not_succ_le_self]
      |simp [zhA,hE,eq_true k5,hk]
     all_goals exact hK _ _ (zF (Less.auto (by simp) (by simp[zt]) (by simp[zt]) rfl) hnext)
   . rw[zbp ha,List.reverse_nil,List.append_nil]at he;rw[<- he.1,<- he.2]at hQ;by_cases k5:x.kind=5
     . have hkl:¬ (x.kids.length:Int)=2:=fun h=>ha (Xp.isApp_iff.2 ⟨k5,by omega⟩)
       rcases A with _|⟨a,A⟩<;>simp [zhA,hE,eq_true k5,hkl]
       all_goals exact LessQ.mk (Less.auto (by simp[zt]) (by simp[zt]) (by simp[zt]) rfl) hQ
     . rcases A with _|⟨a,A⟩<;>simp [zhA,hE,eq_false k5]
       all_goals exact LessQ.mk (Less.auto (by simp[zt]) (by simp[zt]) (by simp[zt]) rfl) hQ
theorem zf3(hR:E.con 157=z4q){e:Xp}(hd:e.depth<=1000)(hs:HS):CallOk ρ Tryz.prog 88 [enc e] hs (enc (z8 e)) hs:=by
 refine fn hρ hE hcon Tryz.func88 zG1 rfl (by simp) ?_ hs;simp [hE];have hsd:=zbq e;refine zb8 (zbJ (zF (Less.auto (TL:=[(1,.ptr 0 0 0),(2,.ptr 1 0 0),(4,oV 2 (([]:List Xp).map zI))]) (HL:=[(0,.arr 11 0 [zI e] true false false),(1,.arr 11 0 [zt] true false false)]++oH 2 11 (([]:List Xp).map zI)) (n:=3) (by simp) (by simp[zt]) (by simp[zt]) rfl) (zeU hρ hE hcon (e:=e) ?_ e.depth e [] (Nat.le_refl _) ⟨rfl,by simp⟩ (by simp;omega))));generalize z8 e=R at hsd;obtain⟨h,B⟩:=R;simp only at hsd;obtain⟨A,rfl⟩:∃ A:List Xp,B=A.reverse:=⟨B.reverse,by simp⟩;rw[List.reverse_reverse];have hAl:A.length<=5000:=by have:=hsd.2.2;simp at this;omega
 rcases A with _|⟨a,A⟩
 . simp [hE,zt,hR,z4q]
 . have hrv:=fun (hs:HS) (id:Nat) (hg:hs.H.get id=some (.arr 11 A.length ((a::A).map zI) false false true)) (hi:id<hs.n)=>zsr (sz:=11) (F:=fun l:List Xp=>if l.length<=5000 then some l.reverse else none) (id:=id) (g:=A.length) (n:=A.length+1) (hs:=hs) (l:=a::A) (l':=(a::A).reverse) hg rfl hi (if_pos hAl)
   have hhp:∀ (id g:Nat) (es:List (List V)) (l':List Xp) (hs:HS),(zhb id g 11 es (l'.map zI)).heap hs=hs.wr id (.arr 11 g (l'.map zI) false false true):=fun _ _ _ l' _=>zfW (l':=l')
   simp [hE,zt,hR,z4q,-List.reverse_cons];rw[hrv _ 2 (by simp) (by simp)];simp [hE,hhp,-List.reverse_cons,-List.map_reverse];rw[List.take_of_length_le (by simp)];exact zzr _
end
theorem zrP:Valid ρ Tryz.prog 157 z4q:=Valid.emb (fo Tryz.func157 z0h) fun vs hs D h=>by
 rcases zss h with⟨rfl,rfl⟩|⟨id,g,l,l',hF,rfl,rfl,hg,hi⟩
 . exact zfS hρ (E:=EL []) rfl (zf valid_nil)
 . obtain⟨h1,rfl⟩:=zJ hF;have:=zha hρ (E:=EL []) rfl (zf valid_nil) h1 hg hi;have e:=zfW (α:=Xp) (id:=id) (g:=g) (sz:=11) (es:=l.map Cel.cells) (l':=l.reverse) (hs:=hs);show CallOk ρ Tryz.prog _ _ hs (.tuple []) (EmbD.heap (zhb id g 11 (l.map Cel.cells) (l.reverse.map Cel.cells)) hs);rw[e];exact this
def zlx(e:Xp):Option (Xp×List Xp):=if e.depth<=1000 then some (z8 e)else none
def zia(e:Xp):Option (Xp×List Xp):=if e.depth<=1000/\e.wf=true then some (z8 e)else none
theorem z3F:Valid ρ Tryz.prog 88 (fnS (zae zlx)):=v1 (fo Tryz.func88 zG1) fun a r h hs=>by
 obtain⟨h1,rfl⟩:=zJ h;exact zf3 hρ (E:=EL [(157,z4q)]) rfl (zf (zb (zrP hρ) valid_nil)) rfl h1 hs
theorem zyF:Valid ρ Tryz.prog 35 (fnS (zae zia)):=v1 (fo Tryz.func35 zGH) fun a r h hs=>by
 obtain⟨⟨h1,h2⟩,rfl⟩:=zJ h;exact zga hρ (E:=EL []) rfl (zf valid_nil) h1 h2 hs
end
end Go.Proofs.YtpcmebclpindjaaGreat
/- normal.Shape: its closures,and the functions that they are handed to. -/
namespace Go.Proofs.YtpcmebclpindjaaGreat
open Go.J
open Go.J.Enc (enc)
set_option maxRecDepth 100000
set_option maxHeartbeats 1000000
def zh8{α:Type}(f:α->Bool):List α->Int->Int
 | [],_=>-1
 |x::l,i=>if f x=true then i else zh8 f l (i+1)
theorem zoo{α:Type}(f:α->Bool):∀ (l:List α) (i:Int),0<=i->decide (0<=zh8 f l i)=l.any f:=by
 intro l
 induction l with
 |nil=>intro i h;simp[zh8]
 | cons y l ih =>
   intro i h;rw[zh8];split
   . rename_i e;simp[e,h]
   . rename_i e;rw[ih (i+1) (by omega)];simp[e]
def z1U(g:Nat)(F:Am->Option Bool)(vs:List V):Option V:=match vs with
 | [a,.func g' []]=>gd (Nat.beq g' g) (ob (Enc.dec a:Option (List Am)) fun l=>if l.length<=100000/\∀ x∈l,(F x).isSome=true then some (enc (zh8 (fun x=>(F x).getD false) l 0))else none)
 |_=>none
def z2O(g:Nat)(F:Am->Option Bool)(vs:List V):Option V:=match vs with
 | [a,.func g' []]=>gd (Nat.beq g' g) (ob (Enc.dec a:Option (List Am)) fun l=>if l.length<=100000/\∀ x∈l,(F x).isSome=true then some (enc (l.any fun x=>(F x).getD false))else none)
 |_=>none
section
variable {ρ:Nat->Value}(hρ:J.Good ρ)
include hρ
section
variable {E:Env}(hE:E.P=Tryz.prog)(hcon:ConsOk ρ E)
include hE hcon
theorem zz8{F:Am->Option Bool}(hc:E.con 87=fnS (zae F)){l:List Am}(hl:l.length<=100000)(hall:∀ x∈l,(F x).isSome=true)(hs:HS) :
 CallOk ρ Tryz.prog 156 [enc l,.func 87 []] hs (enc (zh8 (fun x=>(F x).getD false) l 0)) hs:=by
 refine fn hρ hE hcon Tryz.func156 z5Y rfl (by simp) ?_ hs;generalize hr:zh8 (fun x=>(F x).getD false) l 0=r;simp [hE]
 refine lpi hρ hE hcon l.length (nn:=0) (fun i (_:Unit)=>[(0,.sl (l.map zb6) false),(1,.func 87 []),(7,.int .i64 (l.length:Int)),(8,.int .i64 (i:Int))]) (fun i _=>[]) (fun i _=>zh8 (fun x=>(F x).getD false) (l.drop i) (i:Int)=r) ()
  (Less.auto (by simp) (by simp) (by simp) (by simp)) (by simpa using hr) ?_ ?_
 . intro _ h K;rw[List.drop_length,zh8]at h;simp [ziy,hE];refine LessQ.mk (Less.auto (TL:=[]) (HL:=[]) (n:=0) (by simp) (by simp) (by simp) (by simp)) ?_;simp [hE,<- h]
 . intro i _ hi h K hK;have hi':(i:Int)<l.length:=by omega
   have hw2:IntKind.i64.wrap ((i:Int)+1)=((i+1:Nat):Int):=zC (by omega);have hm5:(i*14) / 14=i:=by omega
   have hm6:(i*14) % 14=0:=by omega
   obtain⟨q,hq⟩:=Option.isSome_iff_exists.1 (hall l[i] (List.getElem_mem hi));rw[List.drop_eq_getElem_cons hi,zh8,hq]at h;simp only[Option.getD_some]at h
   cases q with
   | true =>
     rw[if_pos rfl]at h;simp [ziy,hE,hi,hi',hm5,hm6,hc,hq];refine LessQ.mk (Less.auto (TL:=[(4,.int .i64 (i:Int))]) (HL:=[]) (n:=0) (by simp) (by simp) (by simp) (by simp)) ?_;simp [hE,<- h]
   | false =>
     rw[if_neg (by decide)]at h;have hnew:=hK () h;simp [ziy,hE,hi,hi',hm5,hm6,hc,hq,hw2,-Int.natCast_add];exact hnew _ _ (Less.auto (by simp[-Int.natCast_add]) (by simp) (by simp) (by simp))
theorem z03{F:Am->Option Bool}(hc:E.con 156=fnS (z1U 87 F)){l:List Am}(hl:l.length<=100000)(hall:∀ x∈l,(F x).isSome=true)(hs:HS) :
 CallOk ρ Tryz.prog 86 [enc l,.func 87 []] hs (enc (l.any fun x=>(F x).getD false)) hs:=by
 refine fn hρ hE hcon Tryz.func86 zG3 rfl (by simp) ?_ hs;have hge:=zoo (fun x=>(F x).getD false) l 0 (Int.le_refl _)
 have hv:z1U 87 F [enc l,.func 87 []]=some (enc (zh8 (fun x=>(F x).getD false) l 0)):=by
  unfold z1U;show gd (Nat.beq _ _) (ob (Enc.dec (enc l)) _)=_;rw[Enc.dec_enc,J.beq_true.2 rfl];show (if _ then _ else _)=_;rw[if_pos ⟨hl,hall⟩]
 generalize zh8 (fun x=>(F x).getD false) l 0=x at hge hv;rw[<- hge];simp [hE,hc];simp at hv;simp [hv,hE]
end
theorem zH6{F:Am->Option Bool}(hv:Valid ρ Tryz.prog 87 (fnS (zae F))):Valid ρ Tryz.prog 156 (fnS (z1U 87 F)):=Valid.fnS (fo Tryz.func156 z5Y) fun vs v h hs=>by
 unfold z1U at h;split at h
 . simp only[zk,J.beq_true,za]at h;obtain⟨rfl,l,hl,h⟩:=h;obtain⟨⟨h1,h2⟩,rfl⟩:=zJ h;rw[Enc.enc_dec _ _ hl];exact zz8 hρ (E:=EL [(87,fnS (zae F))]) rfl (zf (zb hv valid_nil)) rfl h1 h2 hs
 . cases h
theorem zHA{F:Am->Option Bool}(hv:Valid ρ Tryz.prog 87 (fnS (zae F))):Valid ρ Tryz.prog 86 (fnS (z2O 87 F)):=Valid.fnS (fo Tryz.func86 zG3) fun vs v h hs=>by
 unfold z2O at h;split at h
 . simp only[zk,J.beq_true,za]at h;obtain⟨rfl,l,hl,h⟩:=h;obtain⟨⟨h1,h2⟩,rfl⟩:=zJ h;rw[Enc.enc_dec _ _ hl];exact z03 hρ (E:=EL [(156,fnS (z1U 87 F))]) rfl (zf (zb (zH6 hρ hv) valid_nil)) rfl h1 h2 hs
 . cases h
end
def z1T(g:Nat)(F:Xp->Option Bool)(vs:List V):Option V:=match vs with
 | [a,.func g' []]=>gd (Nat.beq g' g) (ob (Enc.dec a:Option (List Xp)) fun l=>if l.length<=100000/\∀ x∈l,(F x).isSome=true then some (enc (zh8 (fun x=>(F x).getD false) l 0))else none)
 |_=>none
def z2N(g:Nat)(F:Xp->Option Bool)(vs:List V):Option V:=match vs with
 | [a,.func g' []]=>gd (Nat.beq g' g) (ob (Enc.dec a:Option (List Xp)) fun l=>if l.length<=100000/\∀ x∈l,(F x).isSome=true then some (enc (l.any fun x=>(F x).getD false))else none)
 |_=>none
section
variable {ρ:Nat->Value}(hρ:J.Good ρ)
include hρ
section
variable {E:Env}(hE:E.P=Tryz.prog)(hcon:ConsOk ρ E)
include hE hcon
theorem zz7{F:Xp->Option Bool}(hc:E.con 90=fnS (zae F)){l:List Xp}(hl:l.length<=100000)(hall:∀ x∈l,(F x).isSome=true)(hs:HS) :
 CallOk ρ Tryz.prog 158 [enc l,.func 90 []] hs (enc (zh8 (fun x=>(F x).getD false) l 0)) hs:=by
 refine fn hρ hE hcon Tryz.func158 z5X rfl (by simp) ?_ hs;generalize hr:zh8 (fun x=>(F x).getD false) l 0=r;simp [hE]
 refine lpi hρ hE hcon l.length (nn:=0) (fun i (_:Unit)=>[(0,.sl (l.map zI) false),(1,.func 90 []),(7,.int .i64 (l.length:Int)),(8,.int .i64 (i:Int))]) (fun i _=>[]) (fun i _=>zh8 (fun x=>(F x).getD false) (l.drop i) (i:Int)=r) ()
  (Less.auto (by simp) (by simp) (by simp) (by simp)) (by simpa using hr) ?_ ?_
 . intro _ h K;rw[List.drop_length,zh8]at h;simp [ziw,hE];refine LessQ.mk (Less.auto (TL:=[]) (HL:=[]) (n:=0) (by simp) (by simp) (by simp) (by simp)) ?_;simp [hE,<- h]
 . intro i _ hi h K hK;have hi':(i:Int)<l.length:=by omega
   have hw2:IntKind.i64.wrap ((i:Int)+1)=((i+1:Nat):Int):=zC (by omega);have hm5:(i*11) / 11=i:=by omega
   have hm6:(i*11) % 11=0:=by omega
   obtain⟨q,hq⟩:=Option.isSome_iff_exists.1 (hall l[i] (List.getElem_mem hi));rw[List.drop_eq_getElem_cons hi,zh8,hq]at h;simp only[Option.getD_some]at h
   cases q with
   | true =>
     rw[if_pos rfl]at h;simp [ziw,hE,hi,hi',hm5,hm6,hc,hq];refine LessQ.mk (Less.auto (TL:=[(4,.int .i64 (i:Int))]) (HL:=[]) (n:=0) (by simp) (by simp) (by simp) (by simp)) ?_;simp [hE,<- h]
   | false =>
     rw[if_neg (by decide)]at h;have hnew:=hK () h;simp [ziw,hE,hi,hi',hm5,hm6,hc,hq,hw2,-Int.natCast_add];exact hnew _ _ (Less.auto (by simp[-Int.natCast_add]) (by simp) (by simp) (by simp))
theorem z02{F:Xp->Option Bool}(hc:E.con 158=fnS (z1T 90 F)){l:List Xp}(hl:l.length<=100000)(hall:∀ x∈l,(F x).isSome=true)(hs:HS) :
 CallOk ρ Tryz.prog 89 [enc l,.func 90 []] hs (enc (l.any fun x=>(F x).getD false)) hs:=by
 refine fn hρ hE hcon Tryz.func89 zG0 rfl (by simp) ?_ hs;have hge:=zoo (fun x=>(F x).getD false) l 0 (Int.le_refl _)
 have hv:z1T 90 F [enc l,.func 90 []]=some (enc (zh8 (fun x=>(F x).getD false) l 0)):=by
  unfold z1T;show gd (Nat.beq _ _) (ob (Enc.dec (enc l)) _)=_;rw[Enc.dec_enc,J.beq_true.2 rfl];show (if _ then _ else _)=_;rw[if_pos ⟨hl,hall⟩]
 generalize zh8 (fun x=>(F x).getD false) l 0=x at hge hv;rw[<- hge];simp [hE,hc];simp at hv;simp [hv,hE]
end
theorem zH5{F:Xp->Option Bool}(hv:Valid ρ Tryz.prog 90 (fnS (zae F))):Valid ρ Tryz.prog 158 (fnS (z1T 90 F)):=Valid.fnS (fo Tryz.func158 z5X) fun vs v h hs=>by
 unfold z1T at h;split at h
 . simp only[zk,J.beq_true,za]at h;obtain⟨rfl,l,hl,h⟩:=h;obtain⟨⟨h1,h2⟩,rfl⟩:=zJ h;rw[Enc.enc_dec _ _ hl];exact zz7 hρ (E:=EL [(90,fnS (zae F))]) rfl (zf (zb hv valid_nil)) rfl h1 h2 hs
 . cases h
theorem zH9{F:Xp->Option Bool}(hv:Valid ρ Tryz.prog 90 (fnS (zae F))):Valid ρ Tryz.prog 89 (fnS (z2N 90 F)):=Valid.fnS (fo Tryz.func89 zG0) fun vs v h hs=>by
 unfold z2N at h;split at h
 . simp only[zk,J.beq_true,za]at h;obtain⟨rfl,l,hl,h⟩:=h;obtain⟨⟨h1,h2⟩,rfl⟩:=zJ h;rw[Enc.enc_dec _ _ hl];exact z02 hρ (E:=EL [(158,fnS (z1T 90 F))]) rfl (zf (zb (zH5 hρ hv) valid_nil)) rfl h1 h2 hs
 . cases h
end
end Go.Proofs.YtpcmebclpindjaaGreat
/- normal.Shape: walked. -/
namespace Go.Proofs.YtpcmebclpindjaaGreat
open Go.J
open Go.J.Enc (enc)
set_option maxRecDepth 100000
set_option maxHeartbeats 1000000
def zdX(d:Nat)(e:Xp):Option Bool:=if e.fit d then some (zR e)else none
def z4h(d:Nat)(a:Am):Option Bool:=if a.body.fit d then some (!zR a.body)else none
def z4g(d:Nat)(e:Xp):Option Bool:=if e.fit d then some (!zR e)else none
section
variable {ρ:Nat->Value}(hρ:J.Good ρ)
include hρ
section
variable {E:Env}(hE:E.P=Tryz.prog)(hcon:ConsOk ρ E)
include hE hcon
theorem zfb{d:Nat}(hS:E.con 39=fnS (zae (zdX d))){a:Am}(h:a.body.fit d)(hs:HS):CallOk ρ Tryz.prog 87 [enc a] hs (enc (!zR a.body)) hs:=by
 refine fn hρ hE hcon Tryz.func87 zG2 rfl (by simp) ?_ hs;cases hv:zR a.body<;>simp [hE,hS,zdX,h,hv]
theorem zfa{d:Nat}(hS:E.con 39=fnS (zae (zdX d))){a:Xp}(h:a.fit d)(hs:HS):CallOk ρ Tryz.prog 90 [enc a] hs (enc (!zR a)) hs:=by
 refine fn hρ hE hcon Tryz.func90 zGz rfl (by simp) ?_ hs;cases hv:zR a<;>simp [hE,hS,zdX,h,hv]
theorem zf4{d:Nat}(hS:E.con 39=fnS (zae (zdX d)))(hA:E.con 86=fnS (z2O 87 (z4h d)))(hX:E.con 89=fnS (z2N 90 (z4g d)))(hP:E.con 88=fnS (zae zlx))
 {e:Xp} (he:e.fit (d+1)) (hs:HS):CallOk ρ Tryz.prog 39 [enc e] hs (enc (zR e)) hs:=by
 refine fn hρ hE hcon Tryz.func39 zDa rfl (by simp) ?_ hs;rw[zcp];obtain⟨w1,w2,_,_⟩:=Xp.wide_parts he.2.2;by_cases k1:e.kind=1
 . rw[if_pos (.inl k1)];simp [hE,eq_true k1]
 by_cases k2:e.kind=2
 . rw[if_pos (.inr k2)];simp [hE,eq_false k1,eq_true k2]
 rw[if_neg (by omega)];by_cases k4:e.kind=4
 . rw[if_pos k4];by_cases hl:e.kids.length=1
   . have hk:=Xp.one_kid hl;have hf:e.fn.fit d:=he.kid (by rw[hk];simp);have hl2:((e.kids.length:Int)=1)=True:=eq_true (by omega);simp [hE,eq_false k1,eq_false k2,eq_true k4,hk,hS,zdX,hf]
   . have hl2:((e.kids.length:Int)=1)=False:=eq_false (by omega);simp [hE,eq_false k1,eq_false k2,eq_true k4,hl,hl2]
 rw[if_neg k4];by_cases k8:e.kind=8
 . rw[if_pos k8]
   have hct:z2O 87 (z4h d) [(enc e.arms:V),.func 87 []]=some (enc (!e.arms.all fun a=>zR a.body)):=by
    have hF:∀ a∈e.arms,z4h d a=some (!zR a.body):=fun a ha=>if_pos (he.arm ha)
    unfold z2O;show gd (Nat.beq _ _) (ob (Enc.dec (enc e.arms:V):Option (List Am)) _)=_;rw[Enc.dec_enc,J.beq_true.2 rfl];show (if _ then _ else _)=_;rw[if_pos ⟨w2,fun x hx=>by rw[hF x hx];rfl⟩,zhS (g:=fun a=>!zR a.body) fun x hx=>by rw[hF x hx];rfl,zrq]
   generalize (e.arms.all fun a=>zR a.body)=b at hct ⊢;simp at hct;by_cases hl:e.kids.length=1
   . have hk:=Xp.one_kid hl;by_cases hf:e.fn.kind=1
     . cases b<;>simp [hE,eq_false k1,eq_false k2,eq_false k4,eq_true k8,hk,eq_true hf,hA,hct]
     . simp [hE,eq_false k1,eq_false k2,eq_false k4,eq_true k8,hk,eq_false hf]
   . have hl2:((e.kids.length:Int)=1)=False:=eq_false (by omega);simp [hE,eq_false k1,eq_false k2,eq_false k4,eq_true k8,hl,hl2]
 rw[if_neg k8];by_cases k5:e.kind=5
 . rw[if_pos k5];have hsp:zlx e=some (z8 e):=if_pos he.2.1
   have hct:z2N 90 (z4g d) [(enc (z8 e).2:V),.func 90 []]=some (enc (!(z8 e).2.all zR)):=by
    have hF:∀ a∈(z8 e).2,z4g d a=some (!zR a):=fun a ha=>if_pos (he.arg ha)
    unfold z2N;show gd (Nat.beq _ _) (ob (Enc.dec (enc (z8 e).2:V):Option (List Xp)) _)=_;rw[Enc.dec_enc,J.beq_true.2 rfl];show (if _ then _ else _)=_;rw[if_pos ⟨by have:=(zbq e).2.2;have:=he.2.1;omega,fun x hx=>by rw[hF x hx];rfl⟩,zhS (g:=fun a=>!zR a) fun x hx=>by rw[hF x hx];rfl,zrq]
   generalize z8 e=R at hsp hct ⊢;obtain⟨h,A⟩:=R;simp only at hct ⊢;generalize A.all zR=b at hct ⊢;simp at hct;by_cases h1:h.kind=1
   . cases b<;>simp [hE,eq_false k1,eq_false k2,eq_false k4,eq_false k8,eq_true k5,hP,hsp,eq_true h1,hX,hct]
   . by_cases h2:h.kind=2
     . cases b<;>simp [hE,eq_false k1,eq_false k2,eq_false k4,eq_false k8,eq_true k5,hP,hsp,eq_false h1,eq_true h2,hX,hct]
     . simp [hE,eq_false k1,eq_false k2,eq_false k4,eq_false k8,eq_true k5,hP,hsp,eq_false h1,eq_false h2]
 rw[if_neg k5];simp [hE,eq_false k1,eq_false k2,eq_false k4,eq_false k8,eq_false k5]
end
end
end Go.Proofs.YtpcmebclpindjaaGreat
/- The reference's Shape: walked. -/
namespace Go.Proofs.YtpcmebclpindjaaGreat
open Go.J
open Go.J.Enc (enc)
set_option maxRecDepth 100000
set_option maxHeartbeats 1000000
def zeS(d:Nat)(e:Xp):Option Bool:=if e.fit d/\e.wf=true then some (zR e)else none
section
variable {ρ:Nat->Value}(hρ:J.Good ρ)
include hρ
section
variable {E:Env}(hE:E.P=Tryz.prog)(hcon:ConsOk ρ E)
include hE hcon
theorem zfZ {d:Nat} (hS:E.con 40=fnS (zae (zeS d))) (hP:E.con 35=fnS (zae zia)) {e:Xp} (he:e.fit (d+1)) (hw:e.wf=true) (hs:HS) :
 CallOk ρ Tryz.prog 40 [enc e] hs (enc (zR e)) hs:=by
 refine fn hρ hE hcon Tryz.func40 zCZ rfl (by simp) ?_ hs;obtain⟨w1,w2,_,_⟩:=Xp.wide_parts he.2.2;obtain⟨v1,v2,v3,v4⟩:=Xp.wf_parts hw;by_cases k4:e.kind=4
 . rw[zcp,if_neg (by omega),if_pos k4];have hl:=v2 (.inl k4);have hk:=Xp.one_kid hl;have hm:e.fn∈e.kids:=by rw[hk];simp
   have hf:e.fn.fit d:=he.kid hm;simp [hE,eq_true k4,hk,hS,zeS,hf,v3 _ hm]
 by_cases k8:e.kind=8
 . rw [zcp,if_neg (by omega),if_neg k4,if_pos k8];have hl:=v2 (.inr k8);have hk:=Xp.one_kid hl;by_cases hf:e.fn.kind=1
   . simp [hE,eq_false k4,eq_true k8,hk,eq_true hf];have hfa:∀ a∈e.arms,zeS d a.body=some (zR a.body):=fun a ha=>if_pos ⟨he.arm ha,v4 a ha⟩
     refine lpi hρ hE hcon e.arms.length (nn:=1) (fun i (_:Unit)=>[(1,.ptr 0 0 0),(3,.int .i64 (i:Int))]) (fun _ _=>[(0,.arr 11 0 [[.int .i64 e.kind,.int .i64 e.pos,.str e.name,.int .i64 e.num,.sl [zI e.fn] false,.sl (e.arms.map zb6) false,.int .i64 e.type.kind,.str e.type.name,.int .i64 e.type.id,.int .i64 e.type.home,.sl (e.type.args.map zl) false]] true false false)]) (fun i _=>((e.arms.drop i).all fun a=>zR a.body)=e.arms.all fun a=>zR a.body) () (Less.auto (by simp) (by simp) (by simp) rfl) (by simp) ?_ ?_
     . intro _ hI K;rw[List.drop_length,List.all_nil]at hI;rw[<- hI];simp [zlO,hE];refine LessQ.mk (Less.auto (TL:=[]) (HL:=[]) (n:=0) (by simp) (by simp) rfl rfl) ?_;simp [hE,hl,hf]
     . intro i _ hi hI K hK;have hi':(i:Int)<e.arms.length:=by omega
       have hw2:IntKind.i64.wrap ((i:Int)+1)=((i+1:Nat):Int):=zC (by omega);have m1:i*14 / 14=i:=by omega
       have m2:i*14 % 14=0:=by omega
       have hF:=hfa e.arms[i] (List.getElem_mem hi);rw[List.drop_eq_getElem_cons hi,List.all_cons]at hI
       cases hb:zR e.arms[i].body with
       | true =>
         rw[hb]at hF hI;have hnew:=hK () (by simpa using hI);simp [zlO,hE,hi,hi',m1,m2,hS,hF,hw2,-Int.natCast_add];exact hnew _ _ (Less.auto (by simp[-Int.natCast_add]) (by simp) (by simp) rfl)
       | false =>
         rw[hb]at hF hI;rw[<- hI];simp [zlO,hE,hi,hi',m1,m2,hS,hF];refine LessQ.mk (Less.auto (TL:=[(2,.bool false)]) (HL:=[]) (n:=0) (by simp) (by simp) rfl rfl) ?_;simp [hE]
   . simp [hE,eq_false k4,eq_true k8,hk,eq_false hf]
 have hsp:zia e=some (z8 e):=if_pos ⟨he.2.1,hw⟩;have hfit:∀ a∈(z8 e).2,zeS d a=some (zR a):=fun a ha=>if_pos ⟨he.arg ha,(znz hw).2.1 a ha⟩
 have hlen:(z8 e).2.length<=1000:=by have:=(zbq e).2.2;have:=he.2.1;omega
 have hres:zR e=(decide ((z8 e).1.kind=1\/(z8 e).1.kind=2)&&(z8 e).2.all zR):=by
  rw[zcp];by_cases k12:e.kind=1\/e.kind=2
  . rw[if_pos k12,zbp (fun h=>by have:=(Xp.isApp_iff.1 h).1;omega)];simp[k12]
  . rw[if_neg k12,if_neg k4,if_neg k8];by_cases k5:e.kind=5
    . rw[if_pos k5]
    . rw[if_neg k5,zbp (fun h=>k5 (Xp.isApp_iff.1 h).1)];simp[k12]
 rw[hres];clear hres;generalize z8 e=R at hsp hfit hlen ⊢;obtain⟨h,A⟩:=R;simp only at hfit hlen ⊢;by_cases h1:h.kind=1
 . simp [hE,eq_false k4,eq_false k8,hP,hsp,eq_true h1];refine lpi hρ hE hcon A.length (nn:=0) (fun i (_:Unit)=>[(5,.sl (A.map zI) false),(6,.int .i64 (i:Int))]) (fun _ _=>[]) (fun i _=>(A.drop i).all zR=A.all zR) () (Less.auto (by simp) (by simp) rfl rfl) (by simp) ?_ ?_
   . intro _ hI K;rw[List.drop_length,List.all_nil]at hI;rw[<- hI];simp [zgx,hE];refine LessQ.mk (Less.auto (TL:=[]) (HL:=[]) (n:=0) (by simp) (by simp) rfl rfl) ?_;simp [hE,h1]
   . intro i _ hi hI K hK;have hi':(i:Int)<A.length:=by omega
     have hw2:IntKind.i64.wrap ((i:Int)+1)=((i+1:Nat):Int):=zC (by omega);have m1:i*11 / 11=i:=by omega
     have m2:i*11 % 11=0:=by omega
     have hF:=hfit A[i] (List.getElem_mem hi);rw[List.drop_eq_getElem_cons hi,List.all_cons]at hI
     cases hb:zR A[i]with
     | true =>
       rw[hb]at hF hI;have hnew:=hK () (by simpa using hI);simp [zgx,hE,hi,hi',m1,m2,hS,hF,hw2,-Int.natCast_add];exact hnew _ _ (Less.auto (by simp[-Int.natCast_add]) (by simp) rfl rfl)
     | false =>
       rw[hb]at hF hI;rw[<- hI];simp [zgx,hE,hi,hi',m1,m2,hS,hF];refine LessQ.mk (Less.auto (TL:=[(2,.bool false)]) (HL:=[]) (n:=0) (by simp) (by simp) rfl rfl) ?_;simp [hE]
 . by_cases h2:h.kind=2
   . simp [hE,eq_false k4,eq_false k8,hP,hsp,eq_false h1,eq_true h2];refine lpi hρ hE hcon A.length (nn:=0) (fun i (_:Unit)=>[(5,.sl (A.map zI) false),(6,.int .i64 (i:Int))]) (fun _ _=>[]) (fun i _=>(A.drop i).all zR=A.all zR) () (Less.auto (by simp) (by simp) rfl rfl) (by simp) ?_ ?_
     . intro _ hI K;rw[List.drop_length,List.all_nil]at hI;rw[<- hI];simp [zgx,hE];refine LessQ.mk (Less.auto (TL:=[]) (HL:=[]) (n:=0) (by simp) (by simp) rfl rfl) ?_;simp [hE,h2]
     . intro i _ hi hI K hK;have hi':(i:Int)<A.length:=by omega
       have hw2:IntKind.i64.wrap ((i:Int)+1)=((i+1:Nat):Int):=zC (by omega);have m1:i*11 / 11=i:=by omega
       have m2:i*11 % 11=0:=by omega
       have hF:=hfit A[i] (List.getElem_mem hi);rw[List.drop_eq_getElem_cons hi,List.all_cons]at hI
       cases hb:zR A[i]with
       | true =>
         rw[hb]at hF hI;have hnew:=hK () (by simpa using hI);simp [zgx,hE,hi,hi',m1,m2,hS,hF,hw2,-Int.natCast_add];exact hnew _ _ (Less.auto (by simp[-Int.natCast_add]) (by simp) rfl rfl)
       | false =>
         rw[hb]at hF hI;rw[<- hI];simp [zgx,hE,hi,hi',m1,m2,hS,hF];refine LessQ.mk (Less.auto (TL:=[(2,.bool false)]) (HL:=[]) (n:=0) (by simp) (by simp) rfl rfl) ?_;simp [hE]
   . simp [hE,eq_false k4,eq_false k8,hP,hsp,eq_false h1,eq_false h2]
end
theorem Xp.fit.pos{e:Xp}(h:e.fit 0):False:=by have:=Xp.depth_eq e;have:=h.1;omega
theorem zyE (d:Nat):Valid ρ Tryz.prog 39 (fnS (zae (zdX d))):=by
 induction d with
 |zero=>exact v1 (fo Tryz.func39 zDa) fun a r h hs=>by obtain⟨h1,rfl⟩:=zJ h;exact(Xp.fit.pos hρ h1).elim
 | succ d ih =>
   have hA:=zHA hρ (F:=z4h d) (v1 (fo Tryz.func87 zG2) fun a r h hs=>by obtain⟨h1,rfl⟩:=zJ h;exact zfb hρ (E:=EL [(39,fnS (zae (zdX d)))]) rfl (zf (zb ih valid_nil)) rfl h1 hs);have hX:=zH9 hρ (F:=z4g d) (v1 (fo Tryz.func90 zGz) fun a r h hs=>by obtain⟨h1,rfl⟩:=zJ h;exact zfa hρ (E:=EL [(39,fnS (zae (zdX d)))]) rfl (zf (zb ih valid_nil)) rfl h1 hs)
   exact v1 (fo Tryz.func39 zDa) fun a r h hs=>by
    obtain⟨h1,rfl⟩:=zJ h
    exact zf4 hρ (E:=EL [(39,fnS (zae (zdX d))),(86,fnS (z2O 87 (z4h d))),(89,fnS (z2N 90 (z4g d))),(88,fnS (zae zlx))]) rfl
     (zf (zb ih (zb hA (zb hX (zb (z3F hρ) valid_nil))))) rfl rfl rfl rfl h1 hs
def zl1:J.Spec:=fnS (zae fun e:Xp=>if e.fit 1000 then some (zR e)else none)
theorem z3G:Valid ρ Tryz.prog 39 zl1:=zyE hρ 1000
theorem zrR(d:Nat):Valid ρ Tryz.prog 40 (fnS (zae (zeS d))):=by
 induction d with
 |zero=>exact v1 (fo Tryz.func40 zCZ) fun a r h hs=>by obtain⟨h1,rfl⟩:=zJ h;exact(Xp.fit.pos hρ h1.1).elim
 | succ d ih =>
   exact v1 (fo Tryz.func40 zCZ) fun a r h hs=>by
    obtain⟨⟨h1,h2⟩,rfl⟩:=zJ h;exact zfZ hρ (E:=EL [(40,fnS (zae (zeS d))),(35,fnS (zae zia))]) rfl (zf (zb ih (zb (zyF hρ) valid_nil))) rfl rfl h1 h2 hs
def zib:J.Spec:=fnS (zae fun e:Xp=>if e.fit 1000/\e.wf=true then some (zR e)else none)
theorem zyG:Valid ρ Tryz.prog 40 zib:=zrR hρ 1000
end
end Go.Proofs.YtpcmebclpindjaaGreat
/- law28.made: walked. -/
namespace Go.Proofs.YtpcmebclpindjaaGreat
open Go.J
open Go.J.Enc (enc)
set_option maxRecDepth 100000
set_option maxHeartbeats 1000000
def zbG(bits:Int)(codes:List Int):EmbD where
 k:=0
 k':=1
 π:=fun i=>i
 OL:=[]
 OL':=[(0,box (Cel.cells (zdx codes (zO bits)).2.2.2))]
 vs0:=[enc bits,enc codes]
 v0:=.tuple [enc (zO bits),enc (zdx codes (zO bits)).1,enc (zdx codes (zO bits)).2.1,enc (zdx codes (zO bits)).2.2.1,.ptr 0 0 0]
def zgk(vs:List V)(hs:HS):Option EmbD:=match vs with
 | [bv,cv]=>ob (Enc.dec bv:Option Int) fun bits=>ob (Enc.dec cv:Option (List Int)) fun codes=>gd (et (Nat.ble (zG codes) 60) (zaP hs hs.n)) (some (zbG bits codes))
 |_=>none
@[simp] theorem z5p {bv cv:V} {hs:HS}:zgk [bv,cv] hs=ob (Enc.dec bv:Option Int) fun bits=>ob (Enc.dec cv:Option (List Int)) fun codes=>gd (et (Nat.ble (zG codes) 60) (zaP hs hs.n)) (some (zbG bits codes)):=(rfl)
theorem zkN{bits:Int}{codes:List Int}{hs:HS}{l:List Entry}{g:Ty}{e:Xp}{t:Tp}(h:zdx codes (zO bits)=(l,g,e,t)):(zbG bits codes).val hs=.tuple [enc (zO bits),enc l,enc g,enc e,.ptr hs.n 0 0]:=by
 have e0:(zbG bits codes).v0=.tuple [enc (zO bits),enc l,enc g,enc e,.ptr 0 0 0]:=by show V.tuple _=_;rw[h]
 show (zbG bits codes).v0.ren _=_;rw[e0];have hv:∀ (π:Nat->Nat) (t:Ty),(enc t:V).ren2 π=enc t:=fun π t=>V.ren2_none (V.in3_pure (zjJ t))
 have hx:∀ (π:Nat->Nat),(enc e:V).ren2 π=enc e:=fun π=>V.ren2_none (V.in3_pure (show (enc e:V).pure=true by simp))
 show V.tuple [(enc (zO bits):V).ren2 _,(enc l:V).ren2 _,(enc g:V).ren2 _,(enc e:V).ren2 _,(V.ptr 0 0 0).ren2 _]=_;rw[hv,hx];rfl
theorem zjt{bits:Int}{codes:List Int}{hs:HS}{l:List Entry}{g:Ty}{e:Xp}{t:Tp}(h:zdx codes (zO bits)=(l,g,e,t)):(zbG bits codes).heap hs={ H:=hs.H.set hs.n (box (Cel.cells t)),n:=hs.n+1,log:=hs.n::hs.log }:=by
 have e:(zbG bits codes).OL'=[(0,box (Cel.cells t))]:=by show [(0,_)]=_;rw[h]
 show zg6 hs 0 1 _ (zbG bits codes).OL'=_;rw[e];rfl
section
variable {ρ:Nat->Value}(hρ:J.Good ρ)
include hρ
section
variable {E:Env}(hE:E.P=Tryz.prog)(hcon:ConsOk ρ E)
include hE hcon
theorem zhl(h3:E.con 16=fnS (zae fun bits:Int=>some (zO bits)))(h4:E.con 32=stS (zht zAn))(h5:E.con 46=fnS (zae fun l:List Entry=>if l.length<=10000 then some (l.map (·.name))else none))(h6:E.con 45=stS (zhs (zcS 3)))
 {bits:Int} {codes:List Int} (hl:codes.length<=60) {hs:HS} (hvac:hs.H.get hs.n=none) :
 CallOk ρ Tryz.prog 37 [enc bits,enc codes] hs ((zbG bits codes).v0.ren (news hs.n 0 fun i=>i)) (zg6 hs 0 1 (fun i=>i) (zbG bits codes).OL'):=by
 have htp:(⟨codes,0⟩:Tp).ok:=⟨Int.le_refl _,by show codes.length<=100000;omega⟩;have hDk:=zgH bits;have hD3:=zgG bits;rcases hm:zdx codes (zO bits)with⟨rl,rg,re,rt⟩;have hv0:(zbG bits codes).v0=.tuple [enc (zO bits),enc rl,enc rg,enc re,.ptr 0 0 0]:=by show V.tuple _=_;rw[hm]
 have hOL:(zbG bits codes).OL'=[(0,box (Cel.cells rt))]:=by show [(0,_)]=_;rw[hm]
 refine em hρ hE hcon (D:=zbG bits codes) Tryz.func37 zGG rfl ⟨rfl,rfl,Nat.zero_le _,fun p hp=>(by cases hp),fun p hp=>?_,?_,fun v hv=>?_⟩ ?_ ⟨rfl,fun i j hi=>absurd hi (Nat.not_lt_zero _),fun p hp=>(by cases hp),fun i hi=>?_,fun i hi=>absurd hi (Nat.not_lt_zero _)⟩
 . obtain rfl:=List.mem_singleton.1 hp;exact⟨rfl,rfl⟩
 . rw[hv0,hOL];show ([enc (zO bits),enc rl,enc rg,enc re,V.ptr 0 0 0].all (V.in2 _))=true;have hp:∀ t:Ty,(enc t:V).in2 (dom [(0,box (Cel.cells rt))])=true:=fun t=>V.in3_pure (zjJ t)
   have hp2:(enc re:V).in2 (dom [(0,box (Cel.cells rt))])=true:=V.in3_pure (show (enc re:V).pure=true by simp);simp only[List.all_cons,List.all_nil,Bool.and_true,hp,hp2,Bool.true_and];rfl
 . have hv:v∈[(enc bits:V),enc codes]:=hv;simp only[List.mem_cons,List.not_mem_nil,or_false]at hv;rcases hv with rfl|rfl<;>rfl
 . rw[hv0,hOL];show Wp ρ E 0 _ _ _ { H:=mkP [],n:=0,log:=[] } (J.Leaves _ _ (GivesL 0 _ _));rw[show Tryz.f37.ntmps=33 from rfl];have f1:zAn ⟨codes,0⟩ (zO bits)=some (zb7 ⟨codes,0⟩ (zO bits)):=if_pos ⟨htp,hDk.1,zqX hD3⟩;obtain⟨c1,c2⟩:=zla (D:=zO bits) htp;unfold zdx at hm;generalize hDq:zO bits=D at hm hDk f1 c1 c2 ⊢;generalize zb7 ⟨codes,0⟩ D=c at hm f1 c1 c2;obtain⟨t1,ctx,goal⟩:=c;simp only at hm c1 c2
   have f2:zcS 3 t1 D (ctx.map (·.name)) 3=some (zau 3 t1 D (ctx.map (·.name))):=by
    unfold zcS;rw[if_pos ⟨c1,hDk,by simp;omega,by omega,by omega⟩];rfl
   have f3:ctx.length<=10000:=by omega
   rcases hq:zau 3 t1 D (ctx.map (·.name))with⟨t2,x⟩;rw[hq]at hm f2;cases hm;generalize hN:rl.map (·.name)=N at f2;simp [hE,h3,hDq,h4,f1,h5,f3,hN,h6,f2];exact GivesL.litX (fun k=>if k=0 then 7 else k) rfl rfl ⟨rfl,rfl⟩ (by simp)
 . obtain rfl:i=0:=Nat.lt_one_iff.1 hi;exact hvac
end
theorem zyI:Valid ρ Tryz.prog 37 (zrE zgk):=Valid.emb (fo Tryz.func37 zGG) fun vs hs D h=>by
 unfold zgk at h;split at h
 . simp only[za,zk,et_true,ble_true,vacant_eq,zz]at h;obtain⟨bits,hb,codes,hc,⟨h1,h2⟩,h⟩:=h;cases h;rw[Enc.enc_dec _ _ hb,Enc.enc_dec _ _ hc]
   exact zhl hρ (E:=EL [(16,fnS (zae fun bits:Int=>some (zO bits))),(32,stS (zht zAn)),(46,fnS (zae fun l:List Entry=>if l.length<=10000 then some (l.map (·.name))else none)),(45,stS (zhs (zcS 3)))]) rfl
    (zf (zb (z3K hρ) (zb (zrT hρ) (zb (z3I hρ) (zb (zBb hρ 3) valid_nil))))) rfl rfl rfl rfl h1 h2
 . cases h
end
end Go.Proofs.YtpcmebclpindjaaGreat
/- Tape.Raw: its loops of arms. -/
namespace Go.Proofs.YtpcmebclpindjaaGreat
open Go.J
open Go.J.Enc (enc)
set_option maxRecDepth 100000
set_option maxHeartbeats 1000000
def zmx(d:Nat)(t:Tp)(D:List Decl)(n:Int):Option (Tp×Xp):=open Classical in if t.ok/\zrx D/\z1a D/\0<=n/\n<=d then some (zby n.toNat t D)else none
section
variable {ρ:Nat->Value}(hρ:J.Good ρ)
include hρ
section
variable {E:Env}(hE:E.P=Tryz.prog)(hcon:ConsOk ρ E)
include hE hcon
theorem zsv{d:Nat}(hVn:E.con 65=zak){t:Tp}{D:List Decl}{dd:Decl}{k:List V}{A:List (List V)}{con:List Nat}{i:Nat}(ht:t.ok)(hi:i<dd.ctors.length)(hA:(A.all fun r=>r.all V.pure2)=true)(hnf:dd.ctors[i].fields.length<=100)
 {T:PT V} {hs:HS} {Q:Ex->PT V->HS->Prop}
 (h0:Less 1 T hs (mkP [(0,.ptr 0 0 0),(1,.sl (D.map zg) false),(2,.int .i64 ((d+1:Nat):Int)),(6,.ptr 1 0 0),(13,.ptr 2 0 0),(14,.ptr 3 0 0),(15,.int .i64 (i:Int)),(16,.ptr 5 0 0),(17,.int .i64 ((0:Nat):Int))]) { H:=mkP ([(0,box (Cel.cells t)),(1,.arr 11 0 [zt] true false false),(2,box (zg dd)),(3,.arr 11 0 [[.int .i64 8,.int .i64 0,.str [],.int .i64 0,.sl [k] true,oV 4 A,.int .i64 0,.str [],.int .i64 0,.int .i64 0,.snil]] true false false),(5,.arr 14 0 [[.int .i64 0,.str con,oV 6 (([]:List (List Nat)).map encS),.int .i64 0,.int .i64 0,.str [],.int .i64 0,.snil,.snil,.int .i64 0,.str [],.int .i64 0,.int .i64 0,.snil]] true false false)]++oH 4 14 A++oH 6 1 (([]:List (List Nat)).map encS)),n:=7,log:=[] })
 (hQ:Q (.exit 3) (mkP [(0,.ptr 0 0 0),(1,.sl (D.map zg) false),(2,.int .i64 ((d+1:Nat):Int)),(6,.ptr 1 0 0),(13,.ptr 2 0 0),(14,.ptr 3 0 0),(15,.int .i64 (i:Int)),(16,.ptr 5 0 0)]) { H:=mkP ([(0,box (Cel.cells (zaV t dd.ctors[i].fields.length).1)),(1,.arr 11 0 [zt] true false false),(2,box (zg dd)),(3,.arr 11 0 [[.int .i64 8,.int .i64 0,.str [],.int .i64 0,.sl [k] true,oV 4 A,.int .i64 0,.str [],.int .i64 0,.int .i64 0,.snil]] true false false),(5,.arr 14 0 [[.int .i64 0,.str con,oV 6 ((zaV t dd.ctors[i].fields.length).2.map encS),.int .i64 0,.int .i64 0,.str [],.int .i64 0,.snil,.snil,.int .i64 0,.str [],.int .i64 0,.int .i64 0,.snil]] true false false)]++oH 4 14 A++oH 6 1 ((zaV t dd.ctors[i].fields.length).2.map encS)),n:=7,log:=[] }) :
 Ls ρ E 1 202 (.loop zjC) T hs Q:=by
 have hi':(i:Int)<dd.ctors.length:=by omega
 have hd3:i*3 / 3=i:=by omega
 have hr3:i*3 % 3=0:=by omega
 have hA':∀ a B,A=a::B->(a.all V.pure2)=true/\(B.all fun r=>r.all V.pure2)=true:=by rintro a B rfl;simpa using hA
 refine lpi hρ hE hcon dd.ctors[i].fields.length (nn:=7) (fun j (S:Tp×List (List Nat))=>[(0,.ptr 0 0 0),(1,.sl (D.map zg) false),(2,.int .i64 ((d+1:Nat):Int)),(6,.ptr 1 0 0),(13,.ptr 2 0 0),(14,.ptr 3 0 0),(15,.int .i64 (i:Int)),(16,.ptr 5 0 0),(17,.int .i64 (j:Int))])
  (fun j S=>[(0,box (Cel.cells S.1)),(1,.arr 11 0 [zt] true false false),(2,box (zg dd)),(3,.arr 11 0 [[.int .i64 8,.int .i64 0,.str [],.int .i64 0,.sl [k] true,oV 4 A,.int .i64 0,.str [],.int .i64 0,.int .i64 0,.snil]] true false false),(5,.arr 14 0 [[.int .i64 0,.str con,oV 6 (S.2.map encS),.int .i64 0,.int .i64 0,.str [],.int .i64 0,.snil,.snil,.int .i64 0,.str [],.int .i64 0,.int .i64 0,.snil]] true false false)]++oH 4 14 A++oH 6 1 (S.2.map encS)) (fun j S=>S=zaV t j) (t,[]) (by simpa using h0) rfl ?_ ?_
 . intro S hS K;have hq:=hQ;rw[<- hS]at hq;obtain⟨u,W⟩:=S;simp only at hq;generalize hf:dd.ctors[i].fields.length=nf at hnf ⊢;rcases A with _|⟨a,A⟩<;>rcases W with _|⟨w,W⟩<;>simp [zjC,hE,hi,hi',hd3,hr3,hf,zab]
   all_goals exact LessQ.mk (Less.auto (by simp[zt]) (by first|(simp[zt,zg];done)|simp[zt,zg,zc7 (hA' _ _ rfl).1,zaj (hA' _ _ rfl).2,(hA' _ _ rfl).1,(hA' _ _ rfl).2]) (by simp[zt]) rfl) hq
 . intro j S hj hS K hK;have hj':(j:Int)<dd.ctors[i].fields.length:=by omega
   have hw2:IntKind.i64.wrap ((j:Int)+1)=((j+1:Nat):Int):=zC (by omega);obtain⟨hu,hWl⟩:=zeV ht j;rw[<- hS]at hu hWl;have hnew:=hK ((S.1.next 8).1,S.2++[zbS S.1]) (by rw[hS];rfl);obtain⟨u,W⟩:=S;simp only at hu hWl hnew;clear hS h0 hQ hK;generalize hu8:(u.next 8).1=u2 at hnew;generalize hvn:zbS u=vn at hnew;generalize hf:dd.ctors[i].fields=fs at hj hj' hnf;have k1:∀ w B,W=w::B->(B.length+1+1)*16<=1048576:=by rintro w B rfl;simp at hWl;omega
   rcases A with _|⟨a,A⟩<;>rcases W with _|⟨w,W⟩
   all_goals first
    |simp [zjC,hE,hi,hi',hd3,hr3,hf,zab,hj',hVn,zak,hu,hu8,hvn,hw2,k1 _ _ rfl,Nat.not_succ_le_self,-Int.natCast_add]
    |simp [zjC,hE,hi,hi',hd3,hr3,hf,zab,hj',hVn,zak,hu,hu8,hvn,hw2,-Int.natCast_add]
   all_goals exact hnew _ _ (Less.auto (by simp[zt,-Int.natCast_add]) (by first|(simp[zt,zg];done)|simp[zt,zg,zc7 (hA' _ _ rfl).1,zaj (hA' _ _ rfl).2,(hA' _ _ rfl).1,(hA' _ _ rfl).2]) (by simp[zt]) rfl)
end
end
end Go.Proofs.YtpcmebclpindjaaGreat
