import Derived.Test.YtpcmebclpindjaaGreatZX2
import Derived.Test.YtpcmebclpindjaaGreatJN
import Derived.Test.YtpcmebclpindjaaGreatJS
set_option linter.all false
noncomputable section
/- law28.term: its loop of arguments. -/
namespace Go.Proofs.YtpcmebclpindjaaGreat
open Go.J
open Go.J.Enc (enc)
set_option maxRecDepth 100000
set_option maxHeartbeats 4000000
theorem eleven{l:List V}(h:l.length=11):∃ x0 x1 x2 x3 x4 x5 x6 x7 x8 x9 x10,l=[x0,x1,x2,x3,x4,x5,x6,x7,x8,x9,x10]:=by
 match l,h with
 | [x0,x1,x2,x3,x4,x5,x6,x7,x8,x9,x10],_=>exact⟨_,_,_,_,_,_,_,_,_,_,_,rfl⟩
def zD7(c:List V)(e:Xp):Prop:=c.length=11/\(∀ v∈c,v.pure2=true)/\zT c=zb0 e
open Classical in
def zdp(d:Nat)(t:Tp)(D:List Decl)(N:List (List Nat))(n:Int):Option (Tp×Xp) :=
 if t.ok/\z94 D/\N.length+200*n.toNat<=10000/\0<=n/\n<=d then some (zaQ n.toNat t D N)else none
def zV:List V:=[.int .i64 0,.int .i64 0,.str [],.int .i64 0,.snil,.snil,.int .i64 0,.str [],.int .i64 0,.int .i64 0,.snil]
section
variable {ρ:Nat->Value}(hρ:J.Good ρ)
include hρ
section
variable {E:Env}(hE:E.P=Tryz.prog)(hcon:ConsOk ρ E)
include hE hcon
theorem zqh{d:Nat}(hT:E.con 45=stS (zjj (zdp d))){t:Tp}{D:List Decl}{N:List (List Nat)}{c:List V}{e:Xp}(ht:t.ok)(hD:z94 D)(hN:N.length+200*d<=10000)(hc:zD7 c e){m:Nat}(hm:m<=2)
 {T:PT V} {hs:HS} {Q:Ex->PT V->HS->Prop}
 (h0:Less 1 T hs (mkP [(0,.ptr 0 0 0),(1,.sl (D.map zq) false),(2,.sl (N.map encS) false),(3,.int .i64 ((d+1:Nat):Int)),(8,.ptr 1 0 0),(15,.ptr 2 0 0),(17,.int .i64 (m:Int))])
   { H:=mkP [(0,box (Cel.cells t)),(1,.arr 11 0 [zV] true false false),(2,.arr 11 0 [c] true false false)],n:=3,log:=[] })
 (hQ:∀ c',zD7 c' (zez d t D N e m).2->Q (.exit 5) (mkP [(8,.ptr 1 0 0),(15,.ptr 2 0 0)]) { H:=mkP [(0,box (Cel.cells (zez d t D N e m).1)),(1,.arr 11 0 [zV] true false false),(2,.arr 11 0 [c'] true false false)],n:=3,log:=[] }) :
 Ls ρ E 1 177 (.loop ziL) T hs Q:=by
 have hm0:(m:Int)=(m:Int)-(0:Nat):=by omega
 rw[hm0]at h0
 refine lpi hρ hE hcon m (nn:=3) (fun i (S:Tp×List V)=>[(0,.ptr 0 0 0),(1,.sl (D.map zq) false),(2,.sl (N.map encS) false),(3,.int .i64 ((d+1:Nat):Int)),(8,.ptr 1 0 0),(15,.ptr 2 0 0),(17,.int .i64 ((m:Int)-(i:Int)))])
  (fun i S=>[(0,box (Cel.cells S.1)),(1,.arr 11 0 [zV] true false false),(2,.arr 11 0 [S.2] true false false)]) (fun i S=>S.1=(zez d t D N e i).1/\zD7 S.2 (zez d t D N e i).2) (t,c) h0 ⟨by rw[zez],by rw[zez];exact hc⟩ ?_ ?_
 . rintro ⟨u,c'⟩ ⟨h1,h2⟩ K;simp only at h1 h2;have:=hQ c' h2;rw[<- h1]at this;obtain⟨hl,hp,hn⟩:=h2;obtain⟨x0,x1,x2,x3,x4,x5,x6,x7,x8,x9,x10,rfl⟩:=eleven hl;simp at hp;obtain⟨p0,p1,p2,p3,p4,p5,p6,p7,p8,p9,p10⟩:=hp;simp [ziL,hE];exact LessQ.mk (Less.auto (by simp) (by simp[zV,V.in2_pure2,V.ren2_pure,p0,p1,p2,p3,p4,p5,p6,p7,p8,p9,p10]) (by simp) rfl) this
 . rintro i ⟨u,c'⟩ hi ⟨h1,h2⟩ K hK;simp only at h1 h2;have hi':(i:Int)<m:=by omega
   have hw2:IntKind.i64.wrap ((m:Int)-(i:Int)-1)=(m:Int)-((i+1:Nat):Int):=by rw[wrap_i64 (by omega) (by omega)];omega
   have hw3:IntKind.i64.wrap (((d+1:Nat):Int)-1)=(d:Int):=by rw[wrap_i64 (by omega) (by omega)];omega
   have hu:u.ok:=by rw[h1];exact zoz (fun t N h=>zji d t N h) ht N e i
   have hF:zdp d u D N (d:Int)=some (zaQ d u D N):=by
    unfold zdp;rw[if_pos ⟨hu,hD,by omega,by omega,by omega⟩];rfl
   obtain⟨hl,hp,hn⟩:=h2;have hap:zez d t D N e (i+1)=((zaQ d u D N).1,zGE (zez d t D N e i).2 (zaQ d u D N).2):=by rw[h1,zez]
   generalize (zez d t D N e i).2=e1 at hn hap;rcases hq:zaQ d u D N with⟨u2,y⟩;rw[hq]at hF hap;obtain⟨x0,x1,x2,x3,x4,x5,x6,x7,x8,x9,x10,rfl⟩:=eleven hl;simp at hp;obtain⟨p0,p1,p2,p3,p4,p5,p6,p7,p8,p9,p10⟩:=hp
   have hnew:=hK (u2,[.int .i64 5,.int .i64 0,.str [],.int .i64 0,.sl [[x0,x1,x2,x3,x4,x5,x6,x7,x8,x9,x10],zb0 y] true,.snil,.int .i64 0,.str [],.int .i64 0,.int .i64 0,.snil]) (by
    rw[hap];refine⟨rfl,rfl,by simp,?_⟩;have hny:=zfJ y;simp[hny,zGE,zam (.mk 5 _ _ _ _ _ _),ty0]
    simpa [zam e1]using hn)
   simp [ziL,hE,hi',hw3,hT,hF,p0,p1,p2,p3,p4,p5,p6,p7,p8,p9,p10,hw2,-Int.natCast_add];exact hnew _ _ (Less.auto (by simp[-Int.natCast_add]) (by simp[zV]) (by simp) rfl)
end
end
end Go.Proofs.YtpcmebclpindjaaGreat
/- law28.term: its loops of arms. -/
namespace Go.Proofs.YtpcmebclpindjaaGreat
open Go.J
open Go.J.Enc (enc)
set_option maxRecDepth 100000
set_option maxHeartbeats 1000000
theorem zgI{π:Nat->Nat}{e:List V}(h:(e.all V.pure2)=true):e.map (V.ren2 π)=e:=by
 have:=zbT (π:=π) (es:=[e]) (by simpa using h);simpa using this
section
variable {ρ:Nat->Value}(hρ:J.Good ρ)
include hρ
section
variable {E:Env}(hE:E.P=Tryz.prog)(hcon:ConsOk ρ E)
include hE hcon
theorem zqf{d:Nat}{t:Tp}{D:List Decl}{N:List (List Nat)}{dd:Decl}{k:List V}{A:List (List V)}{con:List Nat}{i:Nat}(hi:i<dd.ctors.length)(hA:(A.all fun r=>r.all V.pure2)=true)(hnf:dd.ctors[i].fields.length<=100)
 {T:PT V} {hs:HS} {Q:Ex->PT V->HS->Prop}
 (h0:Less 1 T hs (mkP [(0,.ptr 0 0 0),(1,.sl (D.map zq) false),(2,.sl (N.map encS) false),(3,.int .i64 ((d+1:Nat):Int)),(8,.ptr 1 0 0),(10,.ptr 2 0 0),(11,.ptr 3 0 0),(12,.int .i64 (i:Int)),(13,.ptr 5 0 0),(14,.int .i64 ((0:Nat):Int))])
   { H:=mkP ([(0,box (Cel.cells t)),(1,.arr 11 0 [zV] true false false),(2,box (zq dd)),(3,.arr 11 0 [[.int .i64 8,.int .i64 0,.str [],.int .i64 0,.sl [k] true,oV 4 A,.int .i64 0,.str [],.int .i64 0,.int .i64 0,.snil]] true false false),(5,.arr 14 0 [[.int .i64 0,.str con,.snil,.int .i64 0,.int .i64 0,.str [],.int .i64 0,.snil,.snil,.int .i64 0,.str [],.int .i64 0,.int .i64 0,.snil]] true false false)]++oH 4 14 A),n:=7,log:=[] })
 (hQ:Q (.exit 3) (mkP [(0,.ptr 0 0 0),(1,.sl (D.map zq) false),(2,.sl (N.map encS) false),(3,.int .i64 ((d+1:Nat):Int)),(8,.ptr 1 0 0),(10,.ptr 2 0 0),(11,.ptr 3 0 0),(12,.int .i64 (i:Int)),(13,.ptr 5 0 0)])
   { H:=mkP ([(0,box (Cel.cells t)),(1,.arr 11 0 [zV] true false false),(2,box (zq dd)),(3,.arr 11 0 [[.int .i64 8,.int .i64 0,.str [],.int .i64 0,.sl [k] true,oV 4 A,.int .i64 0,.str [],.int .i64 0,.int .i64 0,.snil]] true false false),(5,.arr 14 0 [[.int .i64 0,.str con,oV 6 ((zaR dd.ctors[i].fields.length).map encS),.int .i64 0,.int .i64 0,.str [],.int .i64 0,.snil,.snil,.int .i64 0,.str [],.int .i64 0,.int .i64 0,.snil]] true false false)]++oH 4 14 A++oH 6 1 ((zaR dd.ctors[i].fields.length).map encS)),n:=7,log:=[] }) :
 Ls ρ E 1 177 (.loop zkZ) T hs Q:=by
 have hi':(i:Int)<dd.ctors.length:=by omega
 have hd3:i*3 / 3=i:=by omega
 have hr3:i*3 % 3=0:=by omega
 refine lpi hρ hE hcon dd.ctors[i].fields.length (nn:=7) (fun j (W:List (List Nat))=>[(0,.ptr 0 0 0),(1,.sl (D.map zq) false),(2,.sl (N.map encS) false),(3,.int .i64 ((d+1:Nat):Int)),(8,.ptr 1 0 0),(10,.ptr 2 0 0),(11,.ptr 3 0 0),(12,.int .i64 (i:Int)),(13,.ptr 5 0 0),(14,.int .i64 (j:Int))])
  (fun j W=>[(0,box (Cel.cells t)),(1,.arr 11 0 [zV] true false false),(2,box (zq dd)),(3,.arr 11 0 [[.int .i64 8,.int .i64 0,.str [],.int .i64 0,.sl [k] true,oV 4 A,.int .i64 0,.str [],.int .i64 0,.int .i64 0,.snil]] true false false),(5,.arr 14 0 [[.int .i64 0,.str con,oV 6 (W.map encS),.int .i64 0,.int .i64 0,.str [],.int .i64 0,.snil,.snil,.int .i64 0,.str [],.int .i64 0,.int .i64 0,.snil]] true false false)]++oH 4 14 A++oH 6 1 (W.map encS)) (fun j W=>W=zaR j) [] (by simpa using h0) rfl ?_ ?_
 . intro W hW K;subst hW;have hq:=hQ;generalize hf:dd.ctors[i].fields.length=nf at hq hnf ⊢;generalize zaR nf=W at hq ⊢;have hA':∀ a B,A=a::B->(a.all V.pure2)=true/\(B.all fun r=>r.all V.pure2)=true:=by rintro a B rfl;simpa using hA
   rcases A with _|⟨a,A⟩<;>rcases W with _|⟨w,W⟩<;>simp [zkZ,hE,hi,hi',hd3,hr3,hf,zay]
   all_goals exact LessQ.mk (Less.auto (by simp[zV]) (by first|(simp[zV,zq];done)|simp[zV,zq,zgI (hA' _ _ rfl).1,zbT (hA' _ _ rfl).2,(hA' _ _ rfl).1,(hA' _ _ rfl).2]) (by simp[zV]) rfl) hq
 . intro j W hj hW K hK;have hj':(j:Int)<dd.ctors[i].fields.length:=by omega
   have hw2:IntKind.i64.wrap ((j:Int)+1)=((j+1:Nat):Int):=zw (by omega);have hnew:=hK (W++[zjO j]) (by rw[hW,zlC]);have hWl:W.length=j:=by rw[hW,zhT]
   clear hW h0 hQ hK;have hA':∀ a B,A=a::B->(a.all V.pure2)=true/\(B.all fun r=>r.all V.pure2)=true:=by rintro a B rfl;simpa using hA
   have hmod:(j:Int).tmod 4=((j % 4:Nat):Int):=by rw[Int.ofNat_tmod];rfl
   generalize hf:dd.ctors[i].fields=fs at hj hj' hnf;have k1:∀ w B,W=w::B->(B.length+1+1)*16<=1048576:=by rintro w B rfl;simp at hWl;omega
   unfold zjO at hnew;have h4:j % 4=0\/j % 4=1\/j % 4=2\/j % 4=3:=by omega
   rcases h4 with h4|h4|h4|h4<;>rw[h4]at hmod hnew<;>rcases A with _|⟨a,A⟩<;>rcases W with _|⟨w,W⟩
   all_goals first
    |simp [zkZ,hE,hi,hi',hd3,hr3,hf,zay,hj',hmod,hw2,k1 _ _ rfl,Nat.not_succ_le_self,-Int.natCast_add]
    |simp [zkZ,hE,hi,hi',hd3,hr3,hf,zay,hj',hmod,hw2,-Int.natCast_add]
   all_goals exact hnew _ _ (Less.auto (by simp[zV,-Int.natCast_add]) (by first|(simp[zV,zq];done)|simp[zV,zq,zgI (hA' _ _ rfl).1,zbT (hA' _ _ rfl).2,(hA' _ _ rfl).1,(hA' _ _ rfl).2]) (by simp[zV]) rfl)
end
end
end Go.Proofs.YtpcmebclpindjaaGreat
/- law28.term: its loop of arms. -/
namespace Go.Proofs.YtpcmebclpindjaaGreat
open Go.J
open Go.J.Enc (enc)
set_option maxRecDepth 100000
set_option maxHeartbeats 1000000
def z4M:List (List Nat)->V
 | []=>.snil
 |v::l=>.sl ((v::l).map encS) false
theorem zoT{α:Type}(l:List α)(n:Nat):zaI l n []=l:=by
 apply List.ext_getElem?;intro i;by_cases h:i<l.length
 . rw[zdO _ _ _ _ h,if_neg (by simp)]
 . rw[zqH _ _ _ _ (by omega),List.getElem?_eq_none (by omega)]
section
variable {ρ:Nat->Value}(hρ:J.Good ρ)
include hρ
section
variable {E:Env}(hE:E.P=Tryz.prog)(hcon:ConsOk ρ E)
include hE hcon
theorem zqg{d:Nat}(hT:E.con 45=stS (zjj (zdp d))){t:Tp}{D:List Decl}{N:List (List Nat)}{dd:Decl}{k:List V}(ht:t.ok)(hD:z94 D)(hN:N.length+200*(d+1)<=10000)(hN0:N≠[])(hc1:dd.ctors.length<=100)(hc2:∀ c∈dd.ctors,c.fields.length<=100)
 {T:PT V} {hs:HS} {Q:Ex->PT V->HS->Prop}
 (h0:Less 1 T hs (mkP [(0,.ptr 0 0 0),(1,.sl (D.map zq) false),(2,.sl (N.map encS) false),(3,.int .i64 ((d+1:Nat):Int)),(8,.ptr 1 0 0),(10,.ptr 2 0 0),(11,.ptr 3 0 0),(12,.int .i64 ((0:Nat):Int))]) { H:=mkP ([(0,box (Cel.cells t)),(1,.arr 11 0 [zV] true false false),(2,box (zq dd)),(3,.arr 11 0 [[.int .i64 8,.int .i64 0,.str [],.int .i64 0,.sl [k] true,oV 4 [],.int .i64 0,.str [],.int .i64 0,.int .i64 0,.snil]] true false false)]++oH 4 14 []),n:=5,log:=[] })
 (hQ:∀ A,(A.all fun r=>r.all V.pure2)=true->zG A=((zd1 d t D N dd.ctors dd.ctors.length).2.map zck)->Q (.exit 1) (mkP [(8,.ptr 1 0 0),(11,.ptr 3 0 0)]) { H:=mkP ([(0,box (Cel.cells (zd1 d t D N dd.ctors dd.ctors.length).1)),(1,.arr 11 0 [zV] true false false),(3,.arr 11 0 [[.int .i64 8,.int .i64 0,.str [],.int .i64 0,.sl [k] true,oV 4 A,.int .i64 0,.str [],.int .i64 0,.int .i64 0,.snil]] true false false)]++oH 4 14 A),n:=5,log:=[] }) :
 Ls ρ E 1 177 (.loop zgg) T hs Q:=by
 refine lpi hρ hE hcon dd.ctors.length (nn:=5) (fun i (S:Tp×List (List V))=>[(0,.ptr 0 0 0),(1,.sl (D.map zq) false),(2,.sl (N.map encS) false),(3,.int .i64 ((d+1:Nat):Int)),(8,.ptr 1 0 0),(10,.ptr 2 0 0),(11,.ptr 3 0 0),(12,.int .i64 (i:Int))])
  (fun i S=>[(0,box (Cel.cells S.1)),(1,.arr 11 0 [zV] true false false),(2,box (zq dd)),(3,.arr 11 0 [[.int .i64 8,.int .i64 0,.str [],.int .i64 0,.sl [k] true,oV 4 S.2,.int .i64 0,.str [],.int .i64 0,.int .i64 0,.snil]] true false false)]++oH 4 14 S.2) (fun i S=>S.1=(zd1 d t D N dd.ctors i).1/\(S.2.all fun r=>r.all V.pure2)=true/\zG S.2=((zd1 d t D N dd.ctors i).2.map zck)) (t,[]) (by simpa using h0) ⟨by rw[zd1],rfl,by rw[zd1];rfl⟩ ?_ ?_
 . rintro ⟨u,A⟩ ⟨h1,h2,h3⟩ K;simp only at h1 h2 h3;have hq:=hQ A h2 h3;rw[<- h1]at hq;have hA':∀ a B,A=a::B->(a.all V.pure2)=true/\(B.all fun r=>r.all V.pure2)=true:=by rintro a B rfl;simpa using h2
   rcases A with _|⟨a,A⟩<;>simp [zgg,hE]
   all_goals exact LessQ.mk (Less.auto (by simp[zV]) (by first|(simp[zV,zq];done)|simp[zV,zq,zgI (hA' _ _ rfl).1,zbT (hA' _ _ rfl).2,(hA' _ _ rfl).1,(hA' _ _ rfl).2]) (by simp[zV]) rfl) hq
 . rintro i ⟨u,A⟩ hi ⟨h1,h2,h3⟩ K hK;simp only at h1 h2 h3;have hi':(i:Int)<dd.ctors.length:=by omega
   have hw2:IntKind.i64.wrap ((i:Int)+1)=((i+1:Nat):Int):=zw (by omega);have hw3:IntKind.i64.wrap (((d+1:Nat):Int)-1)=(d:Int):=by rw[wrap_i64 (by omega) (by omega)];omega
   have hd3:i*3 / 3=i:=by omega
   have hr3:i*3 % 3=0:=by omega
   have hnf:=hc2 _ (List.getElem_mem hi);have hu:u.ok:=by rw[h1];exact(zjN (fun t N h=>zji d t N h) ht N _ i).1
   have hF:zdp d u D (N++zaR dd.ctors[i].fields.length) (d:Int)=some (zaQ d u D (N++zaR dd.ctors[i].fields.length)):=by
    unfold zdp;rw[if_pos ⟨hu,hD,by simp;omega,by omega,by omega⟩];rfl
   have hap:zd1 d t D N dd.ctors (i+1)=((zaQ d u D (N++zaR dd.ctors[i].fields.length)).1,(zd1 d t D N dd.ctors i).2++[.mk 0 dd.ctors[i].name (zaR dd.ctors[i].fields.length) (zaQ d u D (N++zaR dd.ctors[i].fields.length)).2]):=by
    rw[h1,zd1,List.getElem?_eq_getElem hi];rfl
   have hlA:A.length<=100:=by
    have e1:=congrArg List.length h3;rw[List.length_map,(zjN (fun t N h=>zji d t N h) ht N _ i).2,zdd,List.length_map]at e1;omega
   generalize (zd1 d t D N dd.ctors i).2=B at h3 hap;rcases hq:zaQ d u D (N++zaR dd.ctors[i].fields.length)with⟨u2,y⟩;rw[hq]at hF hap;have hA':∀ a B,A=a::B->(a.all V.pure2)=true/\(B.all fun r=>r.all V.pure2)=true:=by rintro a B rfl;simpa using h2
   obtain⟨n0,N',rfl⟩:=List.exists_cons_of_ne_nil hN0;generalize hvs:zaR dd.ctors[i].fields.length=vs at hF hap;have hvl:vs.length<=100:=by rw[<- hvs,zhT];exact hnf
   have g1:(N'.length+1)*16<=1048576:=by simp at hN;omega
   have k1:∀ a B,A=a::B->(B.length+1+1)*200<=1048576:=by rintro a B rfl;simp at hlA;omega
   have hnew:=hK (u2,A++[.int .i64 0::.str dd.ctors[i].name::z4M vs::zb0 y]) (by
    refine⟨by rw[hap],?_,?_⟩
    . rw[List.all_append,h2];cases vs<;>simp[zam,z4M]
    . rw[hap,List.map_append,<- h3,zdd,zdd,List.map_append];cases vs<;>simp[z4M,zjG,zam y])
   have hF0:vs=[]->zdp d u D (n0::N') (d:Int)=some (u2,y):=by rintro rfl;simpa using hF
   have hF1:∀ v B,vs=v::B->zdp d u D (n0::(N'++v::B)) (d:Int)=some (u2,y):=by rintro v B rfl;simpa using hF
   have g2:∀ v B,vs=v::B->(N'.length+1+(B.length+1))*16<=1048576/\¬ N'.length+1+(B.length+1)<=N'.length+1:=by rintro v B rfl;simp at hN hvl;omega
   have e1:zN (zG (List.take N'.length (zaI (N'.map encS) N'.length [])))=some N':=by rw[zoT,List.take_of_length_le (by simp)];simp
   have e2:∀ v B,vs=v::B->zN (zG (List.take (N'.length+1+(B.length+1)) (encS n0::(N'.map encS++encS v::B.map encS))))=some (n0::(N'++v::B)):=by(rintro v B rfl;rw[List.take_of_length_le (by simp;omega),show encS n0::(N'.map encS++encS v::B.map encS)=(n0::(N'++v::B)).map encS by simp];simp only[zns,zor])
   have g3:∀ v B,vs=v::B->N'.length+1+(B.length+1)<=N'.length+(B.length+1)+1:=by intros;omega
   clear h0 hQ hK hap hF h3;rcases A with _|⟨a,A⟩
   all_goals simp [zgg,hE,hi,hi',hd3,hr3,zay,-Int.natCast_add]
   all_goals refine zqf hρ hE hcon (d:=d) (t:=u) (D:=D) (N:=n0::N') (k:=k) (con:=dd.ctors[i].name) hi h2 hnf (Less.auto (by simp[zV,-Int.natCast_add]) (by first|(simp[zV,zq];done)|simp[zV,zq,zgI (hA' _ _ rfl).1,zbT (hA' _ _ rfl).2,(hA' _ _ rfl).1,(hA' _ _ rfl).2]) (by simp[zV]) rfl) ?_
   all_goals rw[hvs]
   all_goals clear hvs
   all_goals rcases vs with _|⟨v,vs⟩
   all_goals first
    |simp [zgg,hE,hi,hi',hd3,hr3,hw3,hw2,hT,g1,(g2 _ _ rfl).1,(g2 _ _ rfl).2,e2 _ _ rfl,g3 _ _ rfl,hF1 _ _ rfl,k1 _ _ rfl,Nat.not_succ_le_self,-Int.natCast_add]
    |simp [zgg,hE,hi,hi',hd3,hr3,hw3,hw2,hT,g1,e1,hF0 rfl,k1 _ _ rfl,Nat.not_succ_le_self,-Int.natCast_add]
    |simp [zgg,hE,hi,hi',hd3,hr3,hw3,hw2,hT,g1,(g2 _ _ rfl).1,(g2 _ _ rfl).2,e2 _ _ rfl,g3 _ _ rfl,hF1 _ _ rfl,-Int.natCast_add]
    |simp [zgg,hE,hi,hi',hd3,hr3,hw3,hw2,hT,g1,e1,hF0 rfl,-Int.natCast_add]
   all_goals exact hnew _ _ (Less.auto (by simp[zV,z4M,zam,-Int.natCast_add]) (by first|(simp[zV,zq,z4M,zam];done)|simp[zV,zq,z4M,zam,zgI (hA' _ _ rfl).1,zbT (hA' _ _ rfl).2,(hA' _ _ rfl).1,(hA' _ _ rfl).2]) (by simp[zV,z4M,zam]) rfl)
end
end
end Go.Proofs.YtpcmebclpindjaaGreat
/- law28.term: walked. -/
namespace Go.Proofs.YtpcmebclpindjaaGreat
open Go.J
open Go.J.Enc (enc)
set_option maxRecDepth 100000
set_option maxHeartbeats 1000000
theorem zQ{v:V}(h:v.pure2=true):v.isCell=true:=by cases v<;>first|rfl|cases h
theorem zbs{A:Nat->Bool}{v:V}(h:v.pure2=true):v.in1 A=true:=by cases v<;>first|exact h|cases h
def zuS(e:Nat)(t:Tp)(D:List Decl)(N:List (List Nat))(x:Xp)(m:Nat):Tp×Xp :=
 match e with
 | 0=>(t,x)
 |d+1=>zez d t D N x m
def zdN (t:Tp) (D:List Decl) (N:List (List Nat)):Tp×Bool×List Nat :=
 let p:=if N≠[]then ((t.next N.length).1,zgT [] N (t.next N.length).2)else (t,[120])
 if D≠[]then
  (if (p.1.next 2).2=0 then
    let a:=(p.1.next 2).1.next D.length
    let dd:=zgT zx1 D a.2
    let b:=a.1.next dd.ctors.length
    (b.1,true,(zgT zx5 dd.ctors b.2).name)
  else ((p.1.next 2).1,false,p.2))
 else (p.1,false,p.2)
def zgi(b:Bool)(n:List Nat):Xp:=if b then zDM n else zv6 n
theorem zc2(e:Nat)(t:Tp)(D:List Decl)(N:List (List Nat)):headM e t D N=zuS e ((zdN t D N).1.next 3).1 D N (zgi (zdN t D N).2.1 (zdN t D N).2.2) ((zdN t D N).1.next 3).2.toNat:=by
 rw[headM.eq_def];unfold zdN zuS zgi;cases e<;>by_cases hN:N=[]<;>by_cases hD:D=[]<;>simp only[hN,hD,ne_eq,not_true_eq_false,not_false_eq_true,if_true,if_false]<;>first|rfl|(split<;>rfl)
theorem zdu{α:Type}{z:α}{l:List α}{i:Nat}(h:i<l.length):zgT z l (i:Int)=l[i]:=by
 unfold zgT;rw[Int.toNat_natCast,List.getElem?_eq_getElem h];rfl
def zfE(k:Int)(n:List Nat):List V:=[.int .i64 k,.int .i64 0,.str n,.int .i64 0,.snil,.snil,.int .i64 0,.str [],.int .i64 0,.int .i64 0,.snil]
theorem zq2(b:Bool)(n:List Nat):zD7 (zfE (if b then 2 else 1) n) (zgi b n):=by
 refine⟨rfl,by simp[zfE],?_⟩;cases b<;>simp[zfE,zgi,zDM,zv6,zam,ty0]
section
variable {ρ:Nat->Value}(hρ:J.Good ρ)
include hρ
section
variable {E:Env}(hE:E.P=Tryz.prog)(hcon:ConsOk ρ E)
include hE hcon
theorem zes{e:Nat}(hT:∀ d,e=d+1->E.con 45=stS (zjj (zdp d))){t:Tp}{D:List Decl}{N:List (List Nat)}{b:Bool}{n:List Nat}(ht:t.ok)(hD:z94 D)(hN:N.length+200*e<=10000){m:Nat}(hm:m<=2)
 {T:PT V} {hs:HS} {Q:Ex->PT V->HS->Prop}
 (h0:Less 1 T hs (mkP [(0,.ptr 0 0 0),(1,.sl (D.map zq) false),(2,.sl (N.map encS) false),(3,.int .i64 (e:Int)),(8,.ptr 1 0 0),(15,.ptr 2 0 0),(17,.int .i64 (m:Int))])
   { H:=mkP [(0,box (Cel.cells t)),(1,.arr 11 0 [zV] true false false),(2,.arr 11 0 [zfE (if b then 2 else 1) n] true false false)],n:=3,log:=[] })
 (hQ:∀ c',zD7 c' (zuS e t D N (zgi b n) m).2->Q (.exit 5) (mkP [(8,.ptr 1 0 0),(15,.ptr 2 0 0)]) { H:=mkP [(0,box (Cel.cells (zuS e t D N (zgi b n) m).1)),(1,.arr 11 0 [zV] true false false),(2,.arr 11 0 [c'] true false false)],n:=3,log:=[] }) :
 Ls ρ E 1 177 (.loop ziL) T hs Q:=by
 cases e with
 |succ d=>exact zqh hρ hE hcon (hT d rfl) ht hD (by omega) (zq2 b n) hm h0 hQ
 | zero =>
   have hq:=hQ _ (zq2 b n)
   refine lpi hρ hE hcon 0 (nn:=3) (fun _ (_:Unit)=>[(0,.ptr 0 0 0),(1,.sl (D.map zq) false),(2,.sl (N.map encS) false),(3,.int .i64 ((0:Nat):Int)),(8,.ptr 1 0 0),(15,.ptr 2 0 0),(17,.int .i64 (m:Int))])
    (fun _ _=>[(0,box (Cel.cells t)),(1,.arr 11 0 [zV] true false false),(2,.arr 11 0 [zfE (if b then 2 else 1) n] true false false)]) (fun _ _=>True) () h0 trivial ?_ (fun i _ h=>by omega)
   intro _ _ K;by_cases hm0:0<m<;>simp [ziL,hE,hm0]
   all_goals exact LessQ.mk (Less.auto (by simp[zV,zfE]) (by simp[zV,zfE,zuS]) (by simp[zV,zfE]) rfl) hq
end
end
end Go.Proofs.YtpcmebclpindjaaGreat
