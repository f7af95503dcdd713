import Derived.Test.YtpcmebclpindjaaGreatZX6
import Derived.Test.YtpcmebclpindjaaGreatJK
import Derived.Test.YtpcmebclpindjaaGreatJN
import Derived.Test.YtpcmebclpindjaaGreatJS
import Derived.Test.YtpcmebclpindjaaGreatJHb
set_option linter.all false
noncomputable section
/- Valid types. -/
namespace Go.Proofs.YtpcmebclpindjaaGreat
open Go.J
open Go.J.Enc (enc)
set_option maxRecDepth 100000
set_option maxHeartbeats 4000000
theorem z6N(l:List Ty):(l.any fun t=>!t.valid)=!Ty.valids l:=by
 induction l with
 |nil=>rfl
 |cons t l ih=>simp only[List.any_cons,ih,Ty.valids,Bool.not_and]
theorem zoF{l:List Ty}(h:Ty.shorts l=true){t:Ty}(ht:t∈l):t.short=true:=Ty.shorts_iff.1 h t ht
def zci(d:Nat):J.Spec:=fnS (zy fun t:Ty=>if t.size<=d/\t.short=true then some t.valid else none)
def zF1(d:Nat)(t:Ty):Option Bool:=if t.size<=d/\t.short=true then some (!t.valid)else none
def zpg(g d:Nat)(vs:List V):Option V:=match vs with
 | [a,.func g' []]=>gd (Nat.beq g' g) (ob (Enc.dec a:Option (List Ty)) fun l=>if l.length<=100000/\Ty.sizes l<=d/\Ty.shorts l=true then some (enc (zeP (fun t:Ty=>!t.valid) l 0))else none)
 |_=>none
def zj7(g d:Nat)(vs:List V):Option V:=match vs with
 | [a,.func g' []]=>gd (Nat.beq g' g) (ob (Enc.dec a:Option (List Ty)) fun l=>if l.length<=100000/\Ty.sizes l<=d/\Ty.shorts l=true then some (enc (!Ty.valids l))else none)
 |_=>none
theorem zrd{g d:Nat}{vs:List V}{v:V}(h:zpg g d vs=some v):∃ l:List Ty,vs=[enc l,.func g []]/\l.length<=100000/\Ty.sizes l<=d/\Ty.shorts l=true/\v=enc (zeP (fun t:Ty=>!t.valid) l 0):=by
 unfold zpg at h;split at h
 . simp only[zl,zb,J.beq_true]at h;obtain⟨rfl,l,hl,h⟩:=h;obtain⟨⟨h1,h2,h3⟩,rfl⟩:=zo h;exact⟨l,by rw[Enc.enc_dec _ _ hl],h1,h2,h3,rfl⟩
 . cases h
theorem zre{g d:Nat}{vs:List V}{v:V}(h:zj7 g d vs=some v):∃ l:List Ty,vs=[enc l,.func g []]/\l.length<=100000/\Ty.sizes l<=d/\Ty.shorts l=true/\v=enc (!Ty.valids l):=by
 unfold zj7 at h;split at h
 . simp only[zl,zb,J.beq_true]at h;obtain⟨rfl,l,hl,h⟩:=h;obtain⟨⟨h1,h2,h3⟩,rfl⟩:=zo h;exact⟨l,by rw[Enc.enc_dec _ _ hl],h1,h2,h3,rfl⟩
 . cases h
section
variable {ρ:Nat->Value}(hρ:J.Good ρ)
include hρ
section
variable {E:Env}(hE:E.P=Tryz.prog)(hcon:ConsOk ρ E)
include hE hcon
theorem zf7{d:Nat}(hc:E.con 92=zci d){t:Ty}(h1:t.size<=d)(h2:t.short=true)(hs:HS):CallOk ρ Tryz.prog 162 [enc t] hs (enc (!t.valid)) hs:=by
 refine fn hρ hE hcon Tryz.func162 zCp rfl (by simp) ?_ hs;cases hv:t.valid<;>simp [hE,hc,zci,h1,h2,hv]
theorem zkK{d:Nat}(hc:E.con 162=fnS (zy (zF1 d))){l:List Ty}(hl:l.length<=100000)(hd:Ty.sizes l<=d)(hsh:Ty.shorts l=true)(hs:HS) :
 CallOk ρ Tryz.prog 249 [enc l,.func 162 []] hs (enc (zeP (fun t:Ty=>!t.valid) l 0)) hs:=by
 refine fn hρ hE hcon Tryz.func249 zxy rfl (by simp) ?_ hs;generalize hr:zeP (fun t:Ty=>!t.valid) l 0=r;simp [hE]
 refine lpi hρ hE hcon l.length (nn:=0) (fun i (_:Unit)=>[(0,.sl (l.map zg) false),(1,.func 162 []),(7,.int .i64 (l.length:Int)),(8,.int .i64 (i:Int))]) (fun i _=>[]) (fun i _=>zeP (fun t:Ty=>!t.valid) (l.drop i) (i:Int)=r) ()
  (Less.auto (by simp) (by simp) (by simp) (by simp)) (by simpa using hr) ?_ ?_
 . intro _ h K;rw[List.drop_length,zeP]at h;simp [zcB,hE];refine LessQ.mk (Less.auto (TL:=[]) (HL:=[]) (n:=0) (by simp) (by simp) (by simp) (by simp)) ?_;simp [hE,<- h]
 . intro i _ hi h K hK;have hi':(i:Int)<l.length:=by omega
   have hw2:IntKind.i64.wrap ((i:Int)+1)=((i+1:Nat):Int):=zw (by omega);have hmem:=List.getElem_mem hi;have hm5:(i*5) / 5=i:=by omega
   have hm6:(i*5) % 5=0:=by omega
   have hF:zF1 d l[i]=some (!l[i].valid):=if_pos ⟨by have:=Ty.size_mem hmem;omega,zoF hsh hmem⟩;rw[List.drop_eq_getElem_cons hi,zeP]at h
   cases hv:l[i].valid with
   | false =>
     simp only[hv,Bool.not_false,↓reduceIte]at h hF;simp [zcB,hE,hi,hi',hm5,hm6,hc,hF];refine LessQ.mk (Less.auto (TL:=[(4,.int .i64 (i:Int))]) (HL:=[]) (n:=0) (by simp) (by simp) (by simp) (by simp)) ?_;simp [hE,<- h]
   | true =>
     simp only[hv,Bool.not_true,Bool.false_eq_true,↓reduceIte]at h hF;have hnew:=hK () h;simp [zcB,hE,hi,hi',hm5,hm6,hc,hF,hw2,-Int.natCast_add];exact hnew _ _ (Less.auto (by simp[-Int.natCast_add]) (by simp) (by simp) (by simp))
theorem zhl{d:Nat}(hc:E.con 249=fnS (zpg 162 d)){l:List Ty}(hl:l.length<=100000)(hd:Ty.sizes l<=d)(hsh:Ty.shorts l=true)(hs:HS) :
 CallOk ρ Tryz.prog 161 [enc l,.func 162 []] hs (enc (!Ty.valids l)) hs:=by
 refine fn hρ hE hcon Tryz.func161 zxz rfl (by simp) ?_ hs;have hge:=zmx (fun t:Ty=>!t.valid) l 0 (Int.le_refl _);rw[z6N]at hge;generalize hx:zeP (fun t:Ty=>!t.valid) l 0=x at hge;rw[<- hge];simp [hE,hc,zpg,hl,hd,hsh,hx]
theorem zg7 {d:Nat} (hN:E.con 159=zqS) (hK:E.con 160=zx6) (hC:E.con 161=fnS (zj7 162 d))
 {t:Ty} (ht:t.size<=d+1) (hll:t.args.length<=100000) (hsh:t.short=true) (hs:HS):CallOk ρ Tryz.prog 92 [enc t] hs (enc t.valid) hs:=by
 refine fn hρ hE hcon Tryz.func92 zJg rfl (by simp) ?_ hs;have hts:=Ty.size_eq t;obtain⟨hnm,hshs⟩:=Ty.short_iff.1 hsh;obtain⟨k,nm,i,h,l⟩:=t;simp only[Ty.name_mk,Ty.args_mk]at hnm hll hshs hts;have hd:Ty.sizes l<=d:=by omega
 clear hts ht hsh;have d1:(Enc.dec (V.int .u8 97):Option Byte)=some ⟨97⟩:=rfl;have d2:(Enc.dec (V.int .u8 122):Option Byte)=some ⟨122⟩:=rfl;have hlow:=zmp nm
 have hl0:((l.length:Int)=0)↔l=[]:=by
  rw[<- List.length_eq_zero_iff];omega
 simp only[zqS,zx6,show (2:Nat)^63=9223372036854775808 from rfl]at hN hK hnm;by_cases h1:k=1
 . subst h1;by_cases hn:nm=[]<;>by_cases hlz:l=[]<;>by_cases hi1:0<=i<;>by_cases hi2:i<=1000000<;>by_cases hh:h=0<;>simp [hE,Ty.valid,hl0,hn,hlz,hi1,hi2,hh]
 by_cases h2:k=2
 . subst h2;by_cases hn:nm=[]<;>by_cases hlz:l=[]<;>by_cases hi1:0<=i<;>by_cases hi2:i<=1000000<;>by_cases hh:h=0<;>simp [hE,Ty.valid,hl0,hn,hlz,hi1,hi2,hh]
 by_cases h3:k=3
 . subst h3;by_cases hn:nm=[]<;>by_cases hlz:l=[]<;>by_cases hi1:0<=i<;>by_cases hi2:i<=1000000<;>by_cases hh:-1<=h<;>by_cases hh2:h<=1000000<;>simp [hE,Ty.valid,hl0,hn,hlz,hi1,hi2,hh,hh2]
 by_cases h5:k=5
 . subst h5
   have hv:Ty.valid (.mk 5 nm i h l)=(decide (l=[])&&decide (i=0)&&decide (h=0)&&zdh nm):=by
    have hlz:decide (l.length=0)=decide (l=[]):=by rw[Bool.eq_iff_iff];simp
    simp only[Ty.valid,show ¬ ((5:Int)=1\/(5:Int)=2) by decide,show ¬ (5:Int)=3 by decide,↓reduceIte,hlz];cases decide (l=[])<;>cases decide (i=0)<;>cases decide (h=0)<;>rfl
   rw[hv];by_cases hi0:i=0
   . subst hi0;by_cases hn:nm=[]
     . subst hn;have hlw:zdh []=false:=rfl;rw[hlw]at hlow;by_cases hlz:l=[]<;>by_cases hh:h=0<;>simp [hE,hl0,hlz,hh,hN,hnm,d1,d2,hlow,hlw]
     . cases hlw:zdh nm<;>rw[hlw]at hlow<;>by_cases hlz:l=[]<;>by_cases hh:h=0<;>simp [hE,hl0,hn,hlz,hh,hN,hnm,d1,d2,hlow]
   . by_cases hn:nm=[]<;>by_cases hlz:l=[]<;>by_cases hi1:0<=i<;>by_cases hi2:i<=1000000<;>simp [hE,hl0,hn,hlz,hi1,hi2,hi0]
 by_cases h4:k=4
 . subst h4
   have hv:Ty.valid (.mk 4 nm i h l)=(decide (i=0)&&decide (h=0)&&zx7 nm (l.length:Int)&&Ty.valids l):=by
    have q2:((l.length:Int)=2)↔l.length=2:=by omega
    have q0:((l.length:Int)=0)↔l.length=0:=by omega
    have q4:((l.length:Int)<=4)↔l.length<=4:=by omega
    simp only[Ty.valid,zx7,show ¬ ((4:Int)=1\/(4:Int)=2) by decide,show ¬ (4:Int)=3 by decide,show ¬ (4:Int)=5 by decide,↓reduceIte,q2,q0,q4];cases decide (i=0)<;>cases decide (h=0)<;>cases Ty.valids l<;>split<;>(try split)<;>simp
   rw[hv];clear hlow d1 d2;by_cases hi0:i=0
   . subst hi0;by_cases hh:h=0
     . subst hh;generalize hcn:zx7 nm (l.length:Int)=c;generalize hvl:Ty.valids l=v;by_cases hlz:l=[]
       . subst hlz;have hcn':zx7 nm 0=c:=hcn;have hv0:v=true:=hvl.symm;subst hv0;have hd0:Ty.sizes []<=d:=hd;by_cases hn:nm=[]
         . subst hn;cases c<;>simp [hE,hK,hnm,hcn',hC,zj7,hd0,hshs,hvl]
         . cases c<;>simp [hE,hn,hK,hnm,hcn',hC,zj7,hd0,hshs,hvl]
       . by_cases hn:nm=[]
         . subst hn;cases c<;>cases v<;>simp [hE,hl0,hlz,hK,hnm,hcn,hC,zj7,hll,hd,hshs,hvl]
         . cases c<;>cases v<;>simp [hE,hl0,hn,hlz,hK,hnm,hcn,hC,zj7,hll,hd,hshs,hvl]
     . by_cases hn:nm=[]<;>by_cases hlz:l=[]<;>simp [hE,hl0,hn,hlz,hh]
   . by_cases hn:nm=[]<;>by_cases hlz:l=[]<;>by_cases hi1:0<=i<;>by_cases hi2:i<=1000000<;>simp [hE,hl0,hn,hlz,hi1,hi2,hi0]
 have hv:Ty.valid (.mk k nm i h l)=false:=by simp[Ty.valid,h1,h2,h3,h4,h5]
 rw[hv];by_cases hn:nm=[]<;>by_cases hlz:l=[]<;>by_cases hi1:0<=i<;>by_cases hi2:i<=1000000<;>simp [hE,hl0,hn,hlz,hi1,hi2,h1,h2,h3,h4,h5]
end
theorem zpO(d:Nat)(hd:d<=100000):Valid ρ Tryz.prog 92 (zci d):=by
 induction d with
 | zero =>
   refine v1 (fo Tryz.func92 zJg) fun a r h hs=>?_
   obtain⟨⟨h1,h2⟩,rfl⟩:=zo h;have:=Ty.size_eq a;omega
 | succ d ih =>
   refine v1 (fo Tryz.func92 zJg) fun a r h hs=>?_
   obtain⟨⟨h1,h2⟩,rfl⟩:=zo h
   have hI:Valid ρ Tryz.prog 162 (fnS (zy (zF1 d))):=v1 (fo Tryz.func162 zCp) fun a r h hs=>by
    obtain⟨⟨g1,g2⟩,rfl⟩:=zo h;exact zf7 hρ (E:=EL [(92,zci d)]) rfl (zf (za (ih (by omega)) valid_nil)) rfl g1 g2 hs
   have hX:Valid ρ Tryz.prog 249 (fnS (zpg 162 d)):=Valid.fnS (fo Tryz.func249 zxy) fun vs v hv hs=>by
    obtain⟨l,rfl,g1,g2,g3,rfl⟩:=zrd hv;exact zkK hρ (E:=EL [(162,fnS (zy (zF1 d)))]) rfl (zf (za hI valid_nil)) rfl g1 g2 g3 hs
   have hC:Valid ρ Tryz.prog 161 (fnS (zj7 162 d)):=Valid.fnS (fo Tryz.func161 zxz) fun vs v hv hs=>by
    obtain⟨l,rfl,g1,g2,g3,rfl⟩:=zre hv;exact zhl hρ (E:=EL [(249,fnS (zpg 162 d))]) rfl (zf (za hX valid_nil)) rfl g1 g2 g3 hs
   refine zg7 hρ (E:=EL [(159,zqS),(160,zx6),(161,fnS (zj7 162 d))]) rfl
    (zf (za (z9L hρ) (za (zka hρ) (za hC valid_nil)))) rfl rfl rfl h1 ?_ h2 hs
   have:=Ty.size_eq a;have:=zmO a.args;omega
end
def zrf:List Int->Int->Int->Int
 | [],_,_=>-1
 |y::l,x,i=>if x=y then i else zrf l x (i+1)
theorem z5z:∀ (l:List Int) (x i:Int),0<=i->(decide (zrf l x i ≥ 0))=decide (x∈l):=by
 intro l
 induction l with
 |nil=>intro x i h;simp[zrf]
 | cons y l ih =>
   intro x i h;rw[zrf];split
   . rename_i e;simp[e,h]
   . rename_i e;rw[ih x (i+1) (by omega)];simp[e]
section
variable {ρ:Nat->Value}(hρ:J.Good ρ)
include hρ
section
variable {E:Env}(hE:E.P=Tryz.prog)(hcon:ConsOk ρ E)
include hE hcon
theorem zgk{l:List Int}{x:Int}(hl:l.length<=1000000)(hs:HS):CallOk ρ Tryz.prog 219 [enc l,enc x] hs (enc (zrf l x 0)) hs:=by
 refine fn hρ hE hcon Tryz.func219 zCk rfl (by simp) ?_ hs;generalize hr:zrf l x 0=r;simp [hE]
 refine lpi hρ hE hcon l.length (nn:=0) (fun i (_:Unit)=>[(0,.sl (l.map encI) false),(1,.int .i64 x),(7,.int .i64 (l.length:Int)),(8,.int .i64 (i:Int))]) (fun i _=>[]) (fun i _=>zrf (l.drop i) x i=r) ()
  (Less.auto (by simp) (by simp) (by simp) (by simp)) (by simpa using hr) ?_ ?_
 . intro _ h K;rw[List.drop_length,zrf]at h;simp [zj9,hE];refine LessQ.mk (Less.auto (TL:=[]) (HL:=[]) (n:=0) (by simp) (by simp) (by simp) (by simp)) ?_;simp [h]
 . intro i _ hi h K hK;have hi':(i:Int)<l.length:=by omega
   have hw2:IntKind.i64.wrap ((i:Int)+1)=((i+1:Nat):Int):=zw (by omega);rw[List.drop_eq_getElem_cons hi,zrf]at h;by_cases he:x=l[i]
   . rw[if_pos he]at h;simp [zj9,hE,hi,hi',<- he];refine LessQ.mk (Less.auto (TL:=[(4,.int .i64 (i:Int))]) (HL:=[]) (n:=0) (by simp) (by simp) (by simp) (by simp)) ?_;simp [h]
   . rw[if_neg he]at h;have hnew:=hK () (by simpa using h);simp [zj9,hE,hi,hi',he,hw2,-Int.natCast_add];exact hnew _ _ (Less.auto (by simp[-Int.natCast_add]) (by simp) (by simp) (by simp))
theorem zeH(hI:E.con 219=fnC (zH fun (l:List Int) (x:Int)=>if l.length<=1000000 then some (zrf l x 0)else none)){l:List Int}{x:Int}(hl:l.length<=1000000)(hs:HS):CallOk ρ Tryz.prog 122 [enc l,enc x] hs (enc (decide (x∈l))) hs:=by
 refine fn hρ hE hcon Tryz.func122 zCt rfl (by simp) ?_ hs;rw[<- z5z l x 0 (by omega)];simp [hE,hI,hl]
end
def zyS:J.Spec:=fnC (zH fun (l:List Int) (x:Int)=>if l.length<=1000000 then some (zrf l x 0)else none)
theorem z9M:Valid ρ Tryz.prog 219 zyS:=c2 (fo Tryz.func219 zCk) fun a b r h hs=>by
 obtain⟨h1,rfl⟩:=zo h;exact zgk hρ (E:=EL []) rfl (zf valid_nil) h1 hs
theorem zpY:Valid ρ Tryz.prog 122 zmy:=c2 (fo Tryz.func122 zCt) fun a b r h hs=>by
 obtain⟨h1,rfl⟩:=zo h;exact zeH hρ (E:=EL [(219,zyS)]) rfl (zf (za (z9M hρ) valid_nil)) rfl h1 hs
end
end Go.Proofs.YtpcmebclpindjaaGreat
/- normal.closed: its closure,the functions that it is handed to,itself. -/
namespace Go.Proofs.YtpcmebclpindjaaGreat
open Go.J
open Go.J.Enc (enc)
set_option maxRecDepth 100000
set_option maxHeartbeats 1000000
def zjJ(d:Nat)(t:Ty)(b:Bool):Option Bool:=if t.size<=d/\t.ok=true then some (!t.closed b)else none
def clF(d:Nat)(t:Ty)(b:Bool):Option Bool:=if t.size<=d/\t.ok=true then some (t.closed b)else none
section
variable {ρ:Nat->Value}(hρ:J.Good ρ)
include hρ
theorem zNL{d:Nat}(hv:Valid ρ Tryz.prog 93 (fnS (zH (clF d)))):Valid ρ Tryz.prog 163 (rdS 5 none (zlG (zjJ d))):=Valid.rd (fo Tryz.func163 zCo) fun X cs r h hp x X0 RL hX hs q hq hc hnd hx=>by
 obtain⟨a,p,b,rfl,rfl,hF,rfl⟩:=zjr h;obtain⟨⟨g1,g2⟩,rfl⟩:=zo hF;have hEE:(EL [(93,fnS (zH (clF d)))]).P=Tryz.prog:=rfl;have hcn:ConsOk ρ (EL [(93,fnS (zH (clF d)))]):=zf (za hv valid_nil);have hcc:(EL [(93,fnS (zH (clF d)))]).con 93=fnS (zH (clF d)):=rfl;have hcl:clF d a p=some (a.closed p):=if_pos ⟨g1,g2⟩;generalize a.closed p=w at hcl hp ⊢;rcases hx with⟨rfl,rfl,hpx,hri⟩|⟨es,i,rfl,hne,rfl,rfl,h5,h6,h7⟩
 . rcases hX with⟨rfl,_,_⟩|⟨es,e1,_⟩
   . refine zqy (sz:=5) (g:=none) (RL:=[]) (cs:=[[.bool p]]) hρ hcn follows named Tryz.func163 zCo rfl hp ?_ hq hc hnd (.inl ⟨rfl,rfl,hpx,hri⟩);rw[show Tryz.f163.ntmps=8 from rfl];simp [hEE,hcc,hcl];exact GivesL.keep rfl rfl (by simp) (by simp) (by simp)
   . cases e1
 . rcases hX with⟨e1,e2,_⟩|⟨es2,e1,_⟩
   . rw[zav hne]at e2;cases e2
   . cases e1
end
def z8h(d:Nat)(l:List Ty)(c0:Bool):Option Int:=if l.length<=100000/\∀ x∈l,((zjJ d) x c0).isSome=true then some (zeP (fun x=>((zjJ d) x c0).getD false) l 0)else none
def zpf(d:Nat)(l:List Ty)(c0:Bool):Option Bool:=if l.length<=100000/\∀ x∈l,((zjJ d) x c0).isSome=true then some (l.any fun x=>((zjJ d) x c0).getD false)else none
section
variable {ρ:Nat->Value}(hρ:J.Good ρ)
include hρ
section
variable {E:Env}(hE:E.P=Tryz.prog)(hcon:ConsOk ρ E)
include hE hcon
theorem zba{d:Nat}(hc:E.con 163=rdS 5 none (zlG (zjJ d))){l:List Ty}{c0:Bool}(hl:l.length<=100000)(hall:∀ x∈l,((zjJ d) x c0).isSome=true)  {r:Int}(hr:zeP (fun x=>((zjJ d) x c0).getD false) l 0=r) :
 Wp ρ E 1 Tryz.f249.ntmps zs1 ((PT.leaf.set 0 (.sl (l.map zg) false)).set 1 (.func 163 [.ptr 0 0 0])) { H:=mkP [(0,box ([.bool c0]))],n:=1,log:=[] } (J.Leaves E.P Tryz.f249 (GivesL 1 (enc r) [(0,box ([.bool c0]))])):=by
 rw[show Tryz.f249.ntmps=19 from rfl];simp [hE]
 refine lpi hρ hE hcon l.length (nn:=1) (fun i (_:Unit)=>[(0,.sl (l.map zg) false),(1,.func 163 [.ptr 0 0 0]),(7,.int .i64 (l.length:Int)),(8,.int .i64 (i:Int))])
  (fun i _=>[(0,box ([.bool c0]))]) (fun i _=>zeP (fun x=>((zjJ d) x c0).getD false) (l.drop i) (i:Int)=r) ()
  (Less.auto (by simp) (by simp) rfl rfl) (by simpa using hr) ?_ ?_
 . intro _ h K;rw[List.drop_length,zeP]at h;simp [zcB,hE];refine LessQ.mk (Less.auto (TL:=[]) (HL:=[(0,box ([.bool c0]))]) (n:=1) (by simp) (by simp) rfl rfl) ?_;simp [hE,<- h];exact GivesL.keep rfl rfl (by simp) (by simp) (by simp)
 . intro i _ hi h K hK;have hi':(i:Int)<l.length:=by omega
   have hw2:IntKind.i64.wrap ((i:Int)+1)=((i+1:Nat):Int):=zw (by omega);have hm5:(i*5) / 5=i:=by omega
   have hm6:(i*5) % 5=0:=by omega
   obtain⟨q,hq⟩:=Option.isSome_iff_exists.1 (hall l[i] (List.getElem_mem hi));rw[List.drop_eq_getElem_cons hi,zeP,hq]at h;simp only[Option.getD_some]at h
   cases q with
   | true =>
     rw[if_pos rfl]at h;simp [zcB,hE,hi,hi',hm5,hm6,hc,hq];refine LessQ.mk (Less.auto (TL:=[(4,.int .i64 (i:Int))]) (HL:=[(0,box ([.bool c0]))]) (n:=1) (by simp) (by simp) rfl rfl) ?_;simp [hE,<- h];exact GivesL.keep rfl rfl (by simp) (by simp) (by simp)
   | false =>
     rw[if_neg (by decide)]at h;have hnew:=hK () h;simp [zcB,hE,hi,hi',hm5,hm6,hc,hq,hw2,-Int.natCast_add];exact hnew _ _ (Less.auto (by simp[-Int.natCast_add]) (by simp) rfl rfl)
theorem zaY{d:Nat}(hc:E.con 163=rdS 5 none (zlG (zjJ d))){l:List Ty}{c0:Bool}(hl:l.length<=100000)(hall:∀ x∈l,((zjJ d) x c0).isSome=true)(hne:l≠[]){r:Int}(hr:zeP (fun x=>((zjJ d) x c0).getD false) l 0=r) :
 Wp ρ E 2 Tryz.f249.ntmps zs1 ((PT.leaf.set 0 (.own 1 (l.length-1) 0 l.length none)).set 1 (.func 163 [.ptr 0 0 0])) { H:=mkP [(0,box ([.bool c0])),(1,.arr 5 (l.length-1) (l.map zg) false false true)],n:=2,log:=[] } (J.Leaves E.P Tryz.f249 (GivesL 2 (enc r) [(0,box ([.bool c0])),(1,.arr 5 (l.length-1) (l.map zg) false false true)])):=by
 rw[show Tryz.f249.ntmps=19 from rfl];have hpos:0<l.length:=List.length_pos_iff.2 hne;simp [hE]
 refine lpi hρ hE hcon l.length (nn:=2) (fun i (_:Unit)=>[(0,.own 1 (l.length-1) 0 l.length none),(1,.func 163 [.ptr 0 0 0]),(7,.int .i64 (l.length:Int)),(8,.int .i64 (i:Int))])
  (fun i _=>[(0,box ([.bool c0])),(1,.arr 5 (l.length-1) (l.map zg) false false true)]) (fun i _=>zeP (fun x=>((zjJ d) x c0).getD false) (l.drop i) (i:Int)=r) ()
  (Less.auto (by simp) (by simp) rfl rfl) (by simpa using hr) ?_ ?_
 . intro _ h K;rw[List.drop_length,zeP]at h;simp [zcB,hE];refine LessQ.mk (Less.auto (TL:=[]) (HL:=[(0,box ([.bool c0])),(1,.arr 5 (l.length-1) (l.map zg) false false true)]) (n:=2) (by simp) (by simp) rfl rfl) ?_;simp [hE,<- h];exact GivesL.keep rfl rfl (by simp) (by simp) (by simp)
 . intro i _ hi h K hK;have hi':(i:Int)<l.length:=by omega
   have hw2:IntKind.i64.wrap ((i:Int)+1)=((i+1:Nat):Int):=zw (by omega);have hm5:(i*5) / 5=i:=by omega
   have hm6:(i*5) % 5=0:=by omega
   obtain⟨q,hq⟩:=Option.isSome_iff_exists.1 (hall l[i] (List.getElem_mem hi));rw[List.drop_eq_getElem_cons hi,zeP,hq]at h;simp only[Option.getD_some]at h
   cases q with
   | true =>
     rw[if_pos rfl]at h;simp [zcB,hE,hi,hi',hm5,hm6,hc,hq];refine LessQ.mk (Less.auto (TL:=[(4,.int .i64 (i:Int))]) (HL:=[(0,box ([.bool c0])),(1,.arr 5 (l.length-1) (l.map zg) false false true)]) (n:=2) (by simp) (by simp) rfl rfl) ?_;simp [hE,<- h];exact GivesL.keep rfl rfl (by simp) (by simp) (by simp)
   | false =>
     rw[if_neg (by decide)]at h;have hnew:=hK () h;simp [zcB,hE,hi,hi',hm5,hm6,hc,hq,hw2,-Int.natCast_add];exact hnew _ _ (Less.auto (by simp[-Int.natCast_add]) (by simp) rfl rfl)
theorem zaZ{c0:Bool} :
 Wp ρ E 1 Tryz.f249.ntmps zs1 ((PT.leaf.set 0 .snil).set 1 (.func 163 [.ptr 0 0 0])) { H:=mkP [(0,box ([.bool c0]))],n:=1,log:=[] } (J.Leaves E.P Tryz.f249 (GivesL 1 (enc (-1:Int)) [(0,box ([.bool c0]))])):=by
 rw[show Tryz.f249.ntmps=19 from rfl];simp [hE]
 refine lpi hρ hE hcon 0 (nn:=1) (fun i (_:Unit)=>[(7,.int .i64 0),(8,.int .i64 0)]) (fun i _=>[(0,box ([.bool c0]))]) (fun i _=>True) ()
  (Less.auto (by simp) (by simp) rfl rfl) trivial ?_ ?_
 . intro _ h K;simp [zcB,hE];refine LessQ.mk (Less.auto (TL:=[]) (HL:=[(0,box ([.bool c0]))]) (n:=1) (by simp) (by simp) rfl rfl) ?_;simp [hE];exact GivesL.keep rfl rfl (by simp) (by simp) (by simp)
 . intro i _ hi;omega
end
theorem zbq {d:Nat} (hv:Valid ρ Tryz.prog 93 (fnS (zH (clF d)))):Valid ρ Tryz.prog 249 (rdS 5 (some 163) (zlG (z8h d))):=Valid.rd (fo Tryz.func249 zxy) fun X cs r h hp x X0 RL hX hs q hq hc hnd hx=>by
 obtain⟨l,c0,b,rfl,rfl,hF,rfl⟩:=zjr h;obtain⟨⟨h1,h2⟩,rfl⟩:=zo hF;have hEE:(EL [(163,rdS 5 none (zlG (zjJ d)))]).P=Tryz.prog:=rfl;have hcn:ConsOk ρ (EL [(163,rdS 5 none (zlG (zjJ d)))]):=zf (za (zNL hρ hv) valid_nil);have hfin:=fun (k:V) (RL:List (Nat×J.Obj)) (T:PT V) (he) (hw) (hx)=>zqy (sz:=5) (g:=some 163) (X0:=k) (RL:=RL) (T:=T) (cs:=[[.bool c0]]) (x:=x) (hs:=hs) (q:=q) hρ hcn follows named Tryz.func249 zxy he hp hw hq hc hnd hx
 rcases hx with⟨rfl,rfl,hpx,hri⟩|⟨es,i,rfl,hne,rfl,rfl,h5,h6,h7⟩
 . rcases hX with⟨rfl,_,_⟩|⟨es,e1,e2,e3,_⟩
   . exact hfin _ [] _ rfl (zba hρ hEE hcn rfl h1 h2 rfl) (.inl ⟨rfl,rfl,hpx,hri⟩)
   . cases es with
     | nil =>
       have e0:l=[]:=by
        have e4:l.map zg=[]:=by injection e1
        exact List.map_eq_nil_iff.1 e4
       subst e0;have e5:X0=V.snil:=e2;subst e5;exact hfin _ [] _ rfl (zaZ hρ hEE hcn) (.inl ⟨rfl,rfl,hpx,hri⟩)
     |cons e es=>rw[zjx]at e3;cases e3
 . have hne2:∃ e l,es=e::l:=List.exists_cons_of_ne_nil hne;rcases hX with⟨e1,e2,_⟩|⟨es2,e1,e2,e3,_⟩
   . rw[zav hne]at e2;cases e2
   . have e4:es=l.map zg:=by
      have e6:l.map zg=es2:=by injection e1
      rw[zav hne]at e3
      cases es2 with
      |nil=>cases e3
      | cons y m =>
        rw[zav (by simp)]at e3;have e7:(J.oO 5 es)=J.oO 5 (y::m):=by injection e3 with e8;injection e8
        have e9:es=y::m:=by unfold oO at e7;injection e7
        rw[e9,<- e6]
     have hl0:l≠[]:=fun e=>hne (by rw[e4,e];rfl)
     have hV:∀ i,oV i (l.map zg)=.own i (l.length-1) 0 l.length none:=fun i=>by rw[zbX (by rw[<- e4];exact hne)];simp
     have hO:oH 1 5 (l.map zg)=[(1,.arr 5 (l.length-1) (l.map zg) false false true)]:=by rw[zav (by rw[<- e4];exact hne)];simp[J.oO]
     have hw:=zaY hρ hEE hcn rfl h1 h2 hl0 rfl;refine hfin (oV 1 es) (oH 1 5 es) _ rfl ?_ (.inr ⟨es,i,rfl,hne,rfl,rfl,h5,h6,h7⟩);subst e4;rw[hV];show Wp ρ _ ((1)+(oH 1 5 (l.map zg)).length) _ _ _ { H:=mkP ([(0,box ([.bool c0]))]++oH 1 5 (l.map zg)),n:=1+(oH 1 5 (l.map zg)).length,log:=[] } (J.Leaves _ _ (GivesL (1+(oH 1 5 (l.map zg)).length) _ ([(0,box ([.bool c0]))]++oH 1 5 (l.map zg))));rw[hO];exact hw
end
section
variable {ρ:Nat->Value}(hρ:J.Good ρ)
include hρ
theorem zaW {d:Nat} (hv:Valid ρ Tryz.prog 93 (fnS (zH (clF d)))):Valid ρ Tryz.prog 161 (rdS 5 (some 163) (zlG (zpf d))):=Valid.rd (fo Tryz.func161 zxz) fun X cs r h hp x X0 RL hX hs q hq hc hnd hx=>by
 obtain⟨l,c0,b,rfl,rfl,hF,rfl⟩:=zjr h;obtain⟨⟨h1,h2⟩,rfl⟩:=zo hF;have hEE:(EL [(249,rdS 5 (some 163) (zlG (z8h d)))]).P=Tryz.prog:=rfl;have hcn:ConsOk ρ (EL [(249,rdS 5 (some 163) (zlG (z8h d)))]):=zf (za (zbq hρ hv) valid_nil);have hix:z8h d l c0=some (zeP (fun x=>((zjJ d) x c0).getD false) l 0):=if_pos ⟨h1,h2⟩;have hge:=zmx (fun x=>((zjJ d) x c0).getD false) l 0 (Int.le_refl _);generalize zeP (fun x=>((zjJ d) x c0).getD false) l 0=ix at hix hge;rw[<- hge]at hp ⊢;have hcon:(EL [(249,rdS 5 (some 163) (zlG (z8h d)))]).con 249=rdS 5 (some 163) (zlG (z8h d)):=rfl;have hfin:=fun (k:V) (RL:List (Nat×J.Obj)) (T:PT V) (he) (hw) (hx)=>zqy (sz:=5) (g:=some 163) (X0:=k) (RL:=RL) (T:=T) (cs:=[[.bool c0]]) (x:=x) (hs:=hs) (q:=q) hρ hcn follows named Tryz.func161 zxz he hp hw hq hc hnd hx
 rcases hx with⟨rfl,rfl,hpx,hri⟩|⟨es,i,rfl,hne,rfl,rfl,h5,h6,h7⟩
 . rcases hX with⟨rfl,_,_⟩|⟨es,e1,e2,e3,_⟩
   . refine hfin _ [] _ rfl ?_ (.inl ⟨rfl,rfl,hpx,hri⟩);rw[show Tryz.f161.ntmps=9 from rfl];simp [hEE,hcon,hix];exact GivesL.keep rfl rfl (by simp) (by simp) (by simp)
   . cases es with
     | nil =>
       have e0:l=[]:=by
        have e4:l.map zg=[]:=by injection e1
        exact List.map_eq_nil_iff.1 e4
       subst e0;have e5:X0=V.snil:=e2;subst e5;refine hfin _ [] _ rfl ?_ (.inl ⟨rfl,rfl,hpx,hri⟩);rw[show Tryz.f161.ntmps=9 from rfl];simp [hEE,hcon,hix];exact GivesL.keep rfl rfl (by simp) (by simp) (by simp)
     |cons e es=>rw[zjx]at e3;cases e3
 . rcases hX with⟨e1,e2,_⟩|⟨es2,e1,e2,e3,_⟩
   . rw[zav hne]at e2;cases e2
   . have e4:es=l.map zg:=by
      have e6:l.map zg=es2:=by injection e1
      rw[zav hne]at e3
      cases es2 with
      |nil=>cases e3
      | cons y m =>
        rw[zav (by simp)]at e3;have e7:(J.oO 5 es)=J.oO 5 (y::m):=by injection e3 with e8;injection e8
        have e9:es=y::m:=by unfold oO at e7;injection e7
        rw[e9,<- e6]
     obtain⟨y,m,rfl⟩:=List.exists_cons_of_ne_nil (fun e=>hne (by rw[e4,e];rfl):l≠[]);refine hfin (oV 1 es) (oH 1 5 es) _ rfl ?_ (.inr ⟨es,i,rfl,hne,rfl,rfl,h5,h6,h7⟩);subst e4;rw[show Tryz.f161.ntmps=9 from rfl];simp [hEE,hcon,hix];exact GivesL.keep rfl rfl (by simp) (by simp) (by simp)
end
theorem zxi{d:Nat}{l:List Ty}{b:Bool}(hl:l.length<=100000)(hs:Ty.sizes l<=d)(ho:∀ t∈l,t.ok=true):zpf d l b=some (!Ty.closeds b l):=by
 have hm:∀ x∈l,zjJ d x b=some (!x.closed b):=fun x hx=>if_pos ⟨Nat.le_trans (Ty.size_mem hx) hs,ho x hx⟩
 unfold zpf;rw[if_pos ⟨hl,fun x hx=>by rw[hm x hx];rfl⟩,Ty.closeds_all]
 congr 1
 clear hl hs ho
 induction l with
 |nil=>rfl
 |cons a l ih=>rw[List.any_cons,List.all_cons,ih fun x hx=>hm x (List.mem_cons_of_mem _ hx),hm a List.mem_cons_self,Option.getD_some,Bool.not_and]
section
variable {ρ:Nat->Value}(hρ:J.Good ρ)
include hρ
theorem zfH{E:Env}(hE:E.P=Tryz.prog)(hcon:ConsOk ρ E){d:Nat}(hC:E.con 161=rdS 5 (some 163) (zlG (zpf d))){t:Ty}{b:Bool}(ht:t.size<=d+1)(hok:t.ok=true)(hs:HS) :
 CallOk ρ Tryz.prog 93 [enc t,enc b] hs (enc (t.closed b)) hs:=by
 refine fn hρ hE hcon Tryz.func93 zJf rfl (by simp) ?_ hs;have hsz:=Ty.size_eq t;have hlen:=Ty.ok_len hok;have hargs:=(Ty.ok_iff.1 hok).2;obtain⟨tk,tn,ti,th,tl⟩:=t;simp only[Ty.args_mk]at hlen hsz hargs;have hal:=zmO tl;have hF:zpf d tl b=some (!Ty.closeds b tl):=zxi (by omega) (by omega) hargs;rw[Ty.closed];generalize Ty.closeds b tl=w at hF;by_cases k4:tk=4
 . subst k4;cases b<;>cases w<;>simp [hE,hC,hF]
 by_cases k3:tk=3
 . subst k3;cases b<;>cases w<;>simp [hE,hC,hF]
 by_cases k2:tk=2
 . subst k2;cases b<;>cases w<;>simp [hE,hC,hF]
 cases b<;>simp [hE,k2,k3,k4]
theorem zmX(d:Nat):Valid ρ Tryz.prog 93 (fnS (zH (clF d))):=by
 induction d with
 | zero =>
   refine v2 (fo Tryz.func93 zJf) fun a b r h hs=>?_
   obtain⟨⟨h1,h2⟩,rfl⟩:=zo h;have:=Ty.size_pos a;omega
 | succ d ih =>
   refine v2 (fo Tryz.func93 zJf) fun a b r h hs=>?_
   obtain⟨⟨h1,h2⟩,rfl⟩:=zo h;exact zfH hρ (E:=EL [(161,rdS 5 (some 163) (zlG (zpf d)))]) rfl (zf (za (zaW hρ ih) valid_nil)) rfl h1 h2 hs
end
end Go.Proofs.YtpcmebclpindjaaGreat
