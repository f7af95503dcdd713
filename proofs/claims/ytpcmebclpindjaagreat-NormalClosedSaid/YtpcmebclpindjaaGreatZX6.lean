import Derived.Test.YtpcmebclpindjaaGreatZX5
import Derived.Test.YtpcmebclpindjaaGreatJHb
import Derived.Test.YtpcmebclpindjaaGreatJL
set_option linter.all false
noncomputable section
/- Numbers of nodes,nodes of a kind,written names,leaves. -/
namespace Go.Proofs.YtpcmebclpindjaaGreat
open Go.J
open Go.J.Enc (enc)
set_option maxRecDepth 100000
set_option maxHeartbeats 4000000
def zcg(d:Nat)(t:Ty):Option Int:=if t.ok=true/\t.size<=d/\d<=4000000000000000000 then some (t.size:Int)else none
def ziw(d:Nat)(t:Ty)(k:Int):Option Bool:=if t.ok=true/\t.size<=d then some (t.hasK k)else none
def leavesTs:List Ty:=[za0 0,za0 1,za0 2,za0 3,zaq 0 0,zaq 1 0,zaq (-1) 2,zaU 0]
def zcQ:List Ty:=[zeZ [97],zeZ [98],zeZ [99]]
def zK1(f:FuncId):Nat:=bi (Nat.beq f 25) 1 (pol f)
theorem zqQ:((zw6 (z3i Tryz.prog zK1 []) 200 41 []).map zac)=some (enc zcQ):=by kernel_rfl
section
variable {ρ:Nat->Value}(hρ:J.Good ρ)
include hρ
theorem zwe:Valid ρ Tryz.prog 41 (fnS (zex zcQ)):=v0 (zB3 Tryz.func41 (by kernel_rfl)) fun hs=>by
 obtain⟨v,h1,h2⟩:=Option.map_eq_some_iff.1 zqQ;exact zl3 (zdt hρ (E:=z3i Tryz.prog zK1 []) (zf valid_nil) follows named h1 rfl) h2
section
variable {E:Env}(hE:E.P=Tryz.prog)(hcon:ConsOk ρ E)
include hE hcon
theorem zic{d:Nat}(hc:E.con 169=fnS (zy (zcg d)))(hd2:d+1<=4000000000000000000){t:Ty}(ht:t.ok=true)(hd:t.size<=d+1)(hs:HS):CallOk ρ Tryz.prog 169 [enc t] hs (enc (t.size:Int)) hs:=by
 refine fn hρ hE hcon Tryz.func169 z5P rfl (by simp) ?_ hs;have hlen:=Ty.ok_len ht;have hsz:=Ty.size_eq t;have hargs:=(Ty.ok_iff.1 ht).2;obtain⟨tk,tn,ti,th,tl⟩:=t;simp only[Ty.args_mk]at hlen hsz hargs;generalize (Ty.mk tk tn ti th tl).size=Z at hsz hd;simp
 refine lpi hρ hE hcon tl.length (nn:=1) (fun i (r:Nat)=>[(1,.ptr 0 0 0),(3,.int .i64 (r:Int)),(4,.int .i64 (i:Int))]) (fun _ _=>[(0,box (zg (.mk tk tn ti th tl)))]) (fun i r=>r+Ty.sizes (tl.drop i)=Z) 1
  (Less.auto (by simp) (by simp) (by first|rfl|simp) (by first|rfl|simp)) (by simp;omega) ?_ ?_
 . intro r h K;rw[List.drop_length,Ty.sizes]at h;have e:r=Z:=by omega
   subst e;simp [zm0,hE];refine LessQ.mk (Less.auto (TL:=[(3,.int .i64 (r:Int))]) (HL:=[]) (n:=0) (by simp) (by simp) (by first|rfl|simp) (by first|rfl|simp)) ?_;simp [hE]
 . intro i r hi h K hK;have hi':(i:Int)<tl.length:=by omega
   have hw2:IntKind.i64.wrap ((i:Int)+1)=((i+1:Nat):Int):=zw (by omega);rw[List.drop_eq_getElem_cons hi,Ty.sizes]at h;have hxo:=hargs _ (List.getElem_mem hi);obtain⟨x,hx⟩:∃ x,tl[i]=x:=⟨_,rfl⟩;rw[hx]at h hxo;have hxs:x.size<=d:=by have:=Ty.size_mem (hx ▸ List.getElem_mem hi:x∈tl);omega
   have hF:zcg d x=some (x.size:Int):=if_pos ⟨hxo,hxs,by omega⟩;have hnew:=hK (r+x.size) (by omega);have hadd:IntKind.i64.wrap ((r:Int)+(x.size:Int))=((r+x.size:Nat):Int):=by rw[wrap_i64 (by omega) (by omega)];omega
   clear hK;generalize x.size=z at hF hnew hadd;obtain⟨xk,xn,xi,xh,xl⟩:=x;simp [zm0,hE,hi,hi',hx,hc,hF,hadd,hw2,-Int.natCast_add];exact hnew _ _ (Less.auto (by simp[-Int.natCast_add]) (by simp) (by first|rfl|simp) (by first|rfl|simp))
theorem zg8{d:Nat}(hc:E.con 94=fnS (zy (zcg d)))(hd2:d+1<=4000000000000000000){t:Ty}(ht:t.ok=true)(hd:t.size<=d+1)(hs:HS):CallOk ρ Tryz.prog 94 [enc t] hs (enc (t.size:Int)) hs:=by
 refine fn hρ hE hcon Tryz.func94 zJe rfl (by simp) ?_ hs;have hlen:=Ty.ok_len ht;have hsz:=Ty.size_eq t;have hargs:=(Ty.ok_iff.1 ht).2;obtain⟨tk,tn,ti,th,tl⟩:=t;simp only[Ty.args_mk]at hlen hsz hargs;generalize (Ty.mk tk tn ti th tl).size=Z at hsz hd;simp [hE]
 refine lpi hρ hE hcon tl.length (nn:=0) (fun i (r:Nat)=>[(3,.int .i64 (r:Int)),(7,.sl (tl.map zg) false),(8,.int .i64 (tl.length:Int)),(9,.int .i64 (i:Int))]) (fun _ _=>[]) (fun i r=>r+Ty.sizes (tl.drop i)=Z) 1
  (Less.auto (by simp) (by simp) (by first|rfl|simp) (by first|rfl|simp)) (by simp;omega) ?_ ?_
 . intro r h K;rw[List.drop_length,Ty.sizes]at h;have e:r=Z:=by omega
   subst e;simp [zro,hE];refine LessQ.mk (Less.auto (TL:=[(3,.int .i64 (r:Int))]) (HL:=[]) (n:=0) (by simp) (by simp) (by first|rfl|simp) (by first|rfl|simp)) ?_;simp [hE]
 . intro i r hi h K hK;have hi':(i:Int)<tl.length:=by omega
   have hw2:IntKind.i64.wrap ((i:Int)+1)=((i+1:Nat):Int):=zw (by omega);rw[List.drop_eq_getElem_cons hi,Ty.sizes]at h;have hxo:=hargs _ (List.getElem_mem hi);obtain⟨x,hx⟩:∃ x,tl[i]=x:=⟨_,rfl⟩;rw[hx]at h hxo;have hxs:x.size<=d:=by have:=Ty.size_mem (hx ▸ List.getElem_mem hi:x∈tl);omega
   have hF:zcg d x=some (x.size:Int):=if_pos ⟨hxo,hxs,by omega⟩;have hnew:=hK (r+x.size) (by omega);have hadd:IntKind.i64.wrap ((r:Int)+(x.size:Int))=((r+x.size:Nat):Int):=by rw[wrap_i64 (by omega) (by omega)];omega
   clear hK;generalize x.size=z at hF hnew hadd;obtain⟨xk,xn,xi,xh,xl⟩:=x;simp [zro,hE,hi,hi',hx,hc,hF,hadd,hw2,-Int.natCast_add];exact hnew _ _ (Less.auto (by simp[-Int.natCast_add]) (by simp) (by first|rfl|simp) (by first|rfl|simp))
theorem zfC{d:Nat}(hc:E.con 167=fnS (zH (ziw d))){t:Ty}{k:Int}(ht:t.ok=true)(hd:t.size<=d+1)(hs:HS):CallOk ρ Tryz.prog 167 [enc t,enc k] hs (enc (t.hasK k)) hs:=by
 refine fn hρ hE hcon Tryz.func167 z5R rfl (by simp) ?_ hs;have hlen:=Ty.ok_len ht;have hsz:=Ty.size_eq t;have hargs:=(Ty.ok_iff.1 ht).2;obtain⟨tk,tn,ti,th,tl⟩:=t;simp only[Ty.args_mk]at hlen hsz hargs;rw[Ty.hasK];by_cases hk:tk=k
 . subst hk;simp [hE]
 rw[decide_eq_false hk,Bool.false_or];generalize hr:Ty.hasKs k tl=r;simp [hE,hk]
 refine lpi hρ hE hcon tl.length (nn:=1) (fun i (_:Unit)=>[(1,.int .i64 k),(2,.ptr 0 0 0),(5,.int .i64 (i:Int))]) (fun _ _=>[(0,box (zg (.mk tk tn ti th tl)))]) (fun i _=>Ty.hasKs k (tl.drop i)=r) ()
  (Less.auto (by simp) (by simp) (by first|rfl|simp) (by first|rfl|simp)) (by simpa using hr) ?_ ?_
 . intro _ h K;rw[List.drop_length,Ty.hasKs]at h;simp [zjA,hE];refine LessQ.mk (Less.auto (TL:=[]) (HL:=[]) (n:=0) (by simp) (by simp) (by first|rfl|simp) (by first|rfl|simp)) ?_;simp [hE,<- h]
 . intro i _ hi h K hK;have hi':(i:Int)<tl.length:=by omega
   have hw2:IntKind.i64.wrap ((i:Int)+1)=((i+1:Nat):Int):=zw (by omega);rw[List.drop_eq_getElem_cons hi,Ty.hasKs]at h;have hxo:=hargs _ (List.getElem_mem hi);obtain⟨x,hx⟩:∃ x,tl[i]=x:=⟨_,rfl⟩;rw[hx]at h hxo;have hxs:x.size<=d:=by have:=Ty.size_mem (hx ▸ List.getElem_mem hi:x∈tl);omega
   have hF:ziw d x k=some (x.hasK k):=if_pos ⟨hxo,hxs⟩;have hnew:=fun e=>hK () e
   clear hK;generalize x.hasK k=b at hF h;obtain⟨xk,xn,xi,xh,xl⟩:=x
   cases b with
   | true =>
     rw[Bool.true_or]at h;simp [zjA,hE,hi,hi',hx,hc,hF];refine LessQ.mk (Less.auto (TL:=[(4,.bool true)]) (HL:=[]) (n:=0) (by simp) (by simp) (by first|rfl|simp) (by first|rfl|simp)) ?_;simp [hE,<- h]
   | false =>
     rw[Bool.false_or]at h;simp [zjA,hE,hi,hi',hx,hc,hF,hw2,-Int.natCast_add];exact hnew h _ _ (Less.auto (by simp[-Int.natCast_add]) (by simp) (by first|rfl|simp) (by first|rfl|simp))
end
theorem z9J(d:Nat):Valid ρ Tryz.prog 169 (fnS (zy (zcg d))):=by
 induction d with
 | zero =>
   refine v1 (fo Tryz.func169 z5P) fun a r h hs=>?_
   obtain⟨⟨h1,h2,h3⟩,rfl⟩:=zo h;have:=Ty.size_pos a;omega
 | succ d ih =>
   refine v1 (fo Tryz.func169 z5P) fun a r h hs=>?_
   obtain⟨⟨h1,h2,h3⟩,rfl⟩:=zo h;exact zic hρ (E:=EL [(169,fnS (zy (zcg d)))]) rfl (zf (za ih valid_nil)) rfl h3 h1 h2 hs
theorem zpP(d:Nat):Valid ρ Tryz.prog 94 (fnS (zy (zcg d))):=by
 induction d with
 | zero =>
   refine v1 (fo Tryz.func94 zJe) fun a r h hs=>?_
   obtain⟨⟨h1,h2,h3⟩,rfl⟩:=zo h;have:=Ty.size_pos a;omega
 | succ d ih =>
   refine v1 (fo Tryz.func94 zJe) fun a r h hs=>?_
   obtain⟨⟨h1,h2,h3⟩,rfl⟩:=zo h;exact zg8 hρ (E:=EL [(94,fnS (zy (zcg d)))]) rfl (zf (za ih valid_nil)) rfl h3 h1 h2 hs
theorem zi2(d:Nat):Valid ρ Tryz.prog 167 (fnS (zH (ziw d))):=by
 induction d with
 | zero =>
   refine v2 (fo Tryz.func167 z5R) fun a b r h hs=>?_
   obtain⟨⟨h1,h2⟩,rfl⟩:=zo h;have:=Ty.size_pos a;omega
 | succ d ih =>
   refine v2 (fo Tryz.func167 z5R) fun a b r h hs=>?_
   obtain⟨⟨h1,h2⟩,rfl⟩:=zo h;exact zfC hρ (E:=EL [(167,fnS (zH (ziw d)))]) rfl (zf (za ih valid_nil)) rfl h1 h2 hs
end
section
variable {ρ:Nat->Value}(hρ:J.Good ρ){E:Env}(hE:E.P=Tryz.prog)(hcon:ConsOk ρ E)
include hρ hE hcon
theorem zii{c:Byte}(hs:HS):CallOk ρ Tryz.prog 264 [enc c] hs (enc (lowerB c.n)) hs:=by
 refine fn hρ hE hcon Tryz.func264 zCi rfl (by simp) ?_ hs;obtain⟨c⟩:=c;by_cases h1:97<=c<;>by_cases h2:c<=122<;>simp [hE,lowerB,h1,h2,show (97<=(c:Int))↔97<=c by omega,show ((c:Int)<=122)↔c<=122 by omega]
theorem zih{c:Byte}(hs:HS):CallOk ρ Tryz.prog 266 [enc c] hs (enc (upperB c.n)) hs:=by
 refine fn hρ hE hcon Tryz.func266 zCg rfl (by simp) ?_ hs;obtain⟨c⟩:=c;by_cases h1:65<=c<;>by_cases h2:c<=90<;>simp [hE,upperB,h1,h2,show (65<=(c:Int))↔65<=c by omega,show ((c:Int)<=90)↔c<=90 by omega]
theorem zik{c:Byte}(hs:HS):CallOk ρ Tryz.prog 308 [enc c] hs (enc (zeB c.n)) hs:=by
 refine fn hρ hE hcon Tryz.func308 zCe rfl (by simp) ?_ hs;obtain⟨c⟩:=c;by_cases h1:48<=c<;>by_cases h2:c<=57<;>simp [hE,zeB,h1,h2,show (48<=(c:Int))↔48<=c by omega,show ((c:Int)<=57)↔c<=57 by omega]
theorem zij(h1:E.con 264=fnS (zy fun c:Byte=>some (lowerB c.n)))(h2:E.con 266=fnS (zy fun c:Byte=>some (upperB c.n)))(h3:E.con 308=fnS (zy fun c:Byte=>some (zeB c.n)))
 {c:Byte} (hs:HS):CallOk ρ Tryz.prog 276 [enc c] hs (enc (zbd c.n)) hs:=by
 refine fn hρ hE hcon Tryz.func276 zCf rfl (by simp) ?_ hs;obtain⟨c⟩:=c;by_cases e4:c=95
 . subst e4;have hd:(Enc.dec (V.int .u8 95):Option Byte)=some ⟨95⟩:=rfl;simp [hE,h1,h2,h3,zbd,hd,show lowerB 95=false from rfl,show upperB 95=false from rfl,show zeB 95=false from rfl]
 . have h95:¬ (c:Int)=95:=by omega
   cases e1:lowerB c<;>cases e2:upperB c<;>cases e3:zeB c<;>simp [hE,h1,h2,h3,zbd,e1,e2,e3,e4,h95]
theorem zif (hc:E.con 276=fnS (zy fun c:Byte=>some (zbd c.n))) {s:List Nat} (hl:s.length<2^63) {Q:Ex->PT V->HS->Prop}
 (hf:s.all zbd=false->∀ T hs,T.get 2=some (.bool false)->Q .ret T hs) (ht:s.all zbd=true->Q (.exit 0) (mkP [(0,.str s)]) { H:=mkP [],n:=0,log:=[] }) :
 ∀ (n i:Nat),i+n=s.length->(s.take i).all zbd=true->LsN ρ E 0 17 zht (LessQ 0 Q) (n+1) (mkP [(0,.str s),(3,.int .i64 (i:Int))]) { H:=mkP [],n:=0,log:=[] }:=by
 intro n
 induction n with
 | zero =>
   intro i hi he;have hil:¬ (i:Int)<s.length:=by omega
   rw[List.take_of_length_le (by omega)]at he;refine lp hρ hE hcon fun K hK=>?_
   simp [zht,hE,hil];exact LessQ.mk (Less.keep 0 (by simp) (by simp) rfl rfl) (ht he)
 | succ n ih =>
   intro i hi he;have hil:i<s.length:=by omega
   have hil':(i:Int)<s.length:=by omega
   have hw:IntKind.i64.wrap ((i:Int)+1)=((i+1:Nat):Int):=zw (by omega);refine lp hρ hE hcon fun K hK=>?_
   cases hb:zbd s[i]with
   | true =>
     have hnx:(s.take (i+1)).all zbd=true:=by
      rw[List.take_add_one,List.getElem?_eq_getElem hil,List.all_append,he];simp[hb]
     simp [zht,hE,hil',hil,hc,hb,hw,-Int.natCast_add];exact hK _ _ (z8 (Less.keep 0 (by simp[-Int.natCast_add]) (by simp) rfl rfl) (ih (i+1) (by omega) hnx))
   | false =>
     simp [zht,hE,hil',hil,hc,hb];exact LessQ.mk (Less.keep (TL:=[(2,.bool false)]) (HL:=[]) 0 (by simp) (by simp) rfl rfl) (hf (List.all_eq_false.2 ⟨_,List.getElem_mem hil,by simp[hb]⟩) _ _ (by simp))
theorem zjq(hc:E.con 276=fnS (zy fun c:Byte=>some (zbd c.n))){s:List Nat}(hl:s.length<2^63)(hs:HS):CallOk ρ Tryz.prog 263 [enc s] hs (enc (zeE s)) hs:=by
 refine fn hρ hE hcon Tryz.func263 zCj rfl (by simp) ?_ hs;simp;refine zbx (zbH (z8 (Less.keep (TL:=[(0,.str s),(3,.int .i64 ((0:Nat):Int))]) (HL:=[]) 0 (by simp) (by simp) rfl rfl) (zif hρ hE hcon hc hl ?_ ?_ s.length 0 (by omega) (by simp))))
 . intro h T hs hT;simp[hT,zeE,h,hE]
 . intro h;have e:zeE s=!s.isEmpty:=by unfold zeE;rw[h];rfl
   rw[e];rcases s with _|⟨c,s⟩<;>simp [hE]
theorem zgn{s:List Nat}(hs:HS):CallOk ρ Tryz.prog 265 [enc s] hs (enc (decide (s∈keywords))) hs:=by
 refine fn hρ hE hcon Tryz.func265 zCh rfl (by simp) ?_ hs;simp [hE]
 refine lpi hρ hE hcon 7 (nn:=0) (fun i (_:Unit)=>[(0,.str s),(3,.sl (keywords.map encS) true),(4,.int .i64 (i:Int))]) (fun i _=>[]) (fun i _=>s ∉ keywords.take i) ()
  (Less.auto (by simp[keywords]) (by simp) rfl rfl) (by simp) ?_ ?_
 . intro _ he K;have hn:s ∉ keywords:=by rwa [List.take_of_length_le (by decide)]at he
   simp [zj8,hE,show keywords.length=7 from rfl];refine LessQ.mk (Less.auto (TL:=[]) (HL:=[]) (n:=0) (by simp) (by simp) rfl rfl) ?_;simp [hn]
 . intro i _ hil he K hK;have hw:IntKind.i64.wrap ((i:Int)+1)=((i+1:Nat):Int):=zw (by omega);have hil':(i:Int)<7:=by omega
   have hk:i<keywords.length:=hil
   have hnx:keywords[i]≠s->s ∉ keywords.take (i+1):=by
    intro h hm;rw[List.take_add_one,List.getElem?_eq_getElem hk]at hm;rcases List.mem_append.1 hm with hm|hm
    . exact he hm
    . exact h (List.mem_singleton.1 hm).symm
   have hmem:keywords[i]=s->s∈keywords:=fun h=>h ▸ List.getElem_mem hk
   by_cases h:keywords[i]=s
   . have hm:=hmem h;simp [zj8,hE,hil,hil',h,show keywords.length=7 from rfl];refine LessQ.mk (Less.auto (TL:=[(2,.bool true)]) (HL:=[]) (n:=0) (by simp) (by simp) rfl rfl) ?_;simp [hm]
   . have hnew:=hK () (hnx h);simp [zj8,hE,hil,hil',h,hw,show keywords.length=7 from rfl,-Int.natCast_add];exact hnew _ _ (Less.auto (by simp[-Int.natCast_add]) (by simp) rfl rfl)
end
section
variable {ρ:Nat->Value}(hρ:J.Good ρ){E:Env}(hE:E.P=Tryz.prog)(hcon:ConsOk ρ E)
include hρ hE hcon
theorem zim(h1:E.con 263=fnS (zy fun s:List Nat=>if s.length<2^63 then some (zeE s)else none))(h2:E.con 264=fnS (zy fun c:Byte=>some (lowerB c.n)))
 (h3:E.con 265=fnS (zy fun s:List Nat=>some (decide (s∈keywords)))) {s:List Nat} (hl:s.length<2^63) (hs:HS):CallOk ρ Tryz.prog 190 [enc s] hs (enc (zdh s)) hs:=by
 refine fn hρ hE hcon Tryz.func190 zCm rfl (by simp) ?_ hs;simp only[show (2:Nat)^63=9223372036854775808 from rfl]at *
 cases hw:zeE s with
 |false=>simp [hE,h1,hl,hw,zdh]
 | true =>
   rcases s with _|⟨c,s⟩
   . cases hw
   . have hl2:((s.length:Int)+1<=12)↔s.length<=11:=by omega
     simp only[List.length_cons]at hl;cases hc:lowerB c<;>by_cases h12:s.length<=11<;>by_cases hk:(c::s)∈keywords<;>simp [hE,h1,h2,h3,hl,hw,zdh,hc,h12,hk,hl2]
theorem zil(h1:E.con 263=fnS (zy fun s:List Nat=>if s.length<2^63 then some (zeE s)else none))(h2:E.con 266=fnS (zy fun c:Byte=>some (upperB c.n)))
 {s:List Nat} (hl:s.length<2^63) (hs:HS):CallOk ρ Tryz.prog 191 [enc s] hs (enc (zcd s)) hs:=by
 refine fn hρ hE hcon Tryz.func191 zCl rfl (by simp) ?_ hs;simp only[show (2:Nat)^63=9223372036854775808 from rfl]at *
 cases hw:zeE s with
 |false=>simp [hE,h1,hl,hw,zcd]
 | true =>
   rcases s with _|⟨c,s⟩
   . cases hw
   . have hl2:((s.length:Int)+1<=12)↔s.length<=11:=by omega
     simp only[List.length_cons]at hl;cases hc:upperB c<;>by_cases h12:s.length<=11<;>simp [hE,h1,h2,hl,hw,zcd,hc,h12,hl2]
theorem zgN {d:Nat} (hc:E.con 166=fnS (zy fun t:Ty=>if t.size<=d/\t.short=true then some t.valid else none)) {t:Ty} (ht:t.size<=d+1) (hll:t.args.length<=1000000) (hsh:t.short=true) {Q:Ex->PT V->HS->Prop}
 (hf:Ty.valids t.args=false->Q .ret (mkP [(2,.bool false)]) { H:=mkP [],n:=0,log:=[] }) (hq:Ty.valids t.args=true->Q (.exit 1) (mkP [(1,.ptr 0 0 0)]) { H:=mkP [(0,box (zg t))],n:=1,log:=[] }) :
 ∀ (n i:Nat),i+n=t.args.length->Ty.valids (t.args.take i)=true->LsN ρ E 0 132 zhv (LessQ 0 Q) (n+1) (mkP [(1,.ptr 0 0 0),(3,.int .i64 (i:Int))]) { H:=mkP [(0,box (zg t))],n:=1,log:=[] }:=by
 intro n
 induction n with
 | zero =>
   intro i hi he;have hil:¬ (i:Int)<t.args.length:=by omega
   rw[List.take_of_length_le (by omega)]at he;refine lp hρ hE hcon fun K hK=>?_
   simp [zhv,hE,hil];exact LessQ.mk (Less.keep 1 (by simp) (by simp) rfl rfl) (hq he)
 | succ n ih =>
   intro i hi he;have hil:i<t.args.length:=by omega
   have hil':(i:Int)<t.args.length:=by omega
   have hw:IntKind.i64.wrap ((i:Int)+1)=((i+1:Nat):Int):=zw (by omega);have hsz:t.args[i].size<=d:=by have:=Ty.size_arg (List.getElem_mem hil);omega
   have hs2:t.args[i].short=true:=Ty.shorts_iff.1 (Ty.short_iff.1 hsh).2 _ (List.getElem_mem hil);refine lp hρ hE hcon fun K hK=>?_
   cases hb:t.args[i].valid with
   | true =>
     have hnx:Ty.valids (t.args.take (i+1))=true:=by
      rw[Ty.valids_iff]at he ⊢;intro u hu;rw[List.take_add_one,List.getElem?_eq_getElem hil]at hu;rcases List.mem_append.1 hu with hu|hu
      . exact he u hu
      . rw[List.mem_singleton.1 hu];exact hb
     simp [zhv,hE,hil',hil,hc,hsz,hs2,hb,hw,-Int.natCast_add];exact hK _ _ (z8 (Less.keep 1 (by simp[-Int.natCast_add]) (by simp) rfl rfl) (ih (i+1) (by omega) hnx))
   | false =>
     have hnv:Ty.valids t.args=false:=by
      rw[Bool.eq_false_iff,Ne,Ty.valids_iff];intro h;rw[h _ (List.getElem_mem hil)]at hb;cases hb
     simp [zhv,hE,hil',hil,hc,hsz,hs2,hb];exact LessQ.mk (Less.keep 0 (by simp) (by simp) rfl rfl) (hf hnv)
theorem zia {d:Nat} (hc:E.con 166=fnS (zy fun t:Ty=>if t.size<=d/\t.short=true then some t.valid else none)) (hL:E.con 190=fnS (zy fun s:List Nat=>if s.length<2^63 then some (zdh s)else none))
 (hU:E.con 191=fnS (zy fun s:List Nat=>if s.length<2^63 then some (zcd s)else none))
 {t:Ty} (ht:t.size<=d+1) (hll:t.args.length<=1000000) (hsh:t.short=true) (hs:HS):CallOk ρ Tryz.prog 166 [enc t] hs (enc t.valid) hs:=by
 refine fn hρ hE hcon Tryz.func166 z5S rfl (by simp) ?_ hs;have lo:=fun Q=>zgN hρ hE hcon hc ht hll hsh (Q:=Q)
 obtain⟨k,nm,i,h,l⟩:=t;have hnm:=(Ty.short_iff.1 hsh).1;simp only[Ty.name_mk,Ty.args_mk]at hnm hll lo;simp only[show (2:Nat)^63=9223372036854775808 from rfl]at hL hU hnm;by_cases h1:k=1
 . subst h1;simp [hE]
   repeat' (refine zdB (fun h=>?_) (fun h=>?_)<;>simp [h,hE])
   all_goals clear lo
   all_goals simp_all [Ty.valid]
   all_goals (intros;first|omega|simp_all|(exfalso;omega))
 by_cases h2:k=2
 . subst h2;simp [hE]
   repeat' (refine zdB (fun h=>?_) (fun h=>?_)<;>simp [h,hE])
   all_goals clear lo
   all_goals simp_all [Ty.valid]
   all_goals (intros;first|omega|simp_all|(exfalso;omega))
 by_cases h3:k=3
 . subst h3;simp [hE]
   repeat' (refine zdB (fun h=>?_) (fun h=>?_)<;>simp [h,hE])
   all_goals clear lo
   all_goals simp_all [Ty.valid]
   all_goals (intros;first|omega|simp_all|(exfalso;omega))
 by_cases h5:k=5
 . subst h5;simp [hE]
   repeat' (refine zdB (fun h=>?_) (fun h=>?_)<;>simp [h,hE,hL,hnm])
   all_goals clear lo
   all_goals simp_all [Ty.valid]
   all_goals (intros;first|omega|simp_all|(exfalso;omega))
 by_cases h4:k=4
 . subst h4;by_cases hi0:i=0
   . by_cases hh0:h=0
     . subst hi0 hh0;simp [hE];refine zbx (zbH (z8 (Less.keep (TL:=[(1,.ptr 0 0 0),(3,.int .i64 ((0:Nat):Int))]) (HL:=[(0,box (zg (.mk 4 nm 0 0 l)))]) 1 (by simp) (by simp) rfl rfl) (lo _ ?_ ?_ l.length 0 (by omega) (by simp[Ty.valids]))))
       . intro hv;simp [hE,hv,Ty.valid]
       . intro hv;clear lo;by_cases ha:nm=[45,62]
         . subst ha;have hl2:((l.length:Int)=2)↔l.length=2:=by omega
           simp [hE,hv,Ty.valid,hl2]
         by_cases hb:nm=[73,110,116]
         . subst hb;simp [hE,hv,Ty.valid]
         have hl4:((l.length:Int)<=4)↔l.length<=4:=by omega
         cases hu:zcd nm<;>simp [hE,hv,Ty.valid,ha,hb,hU,hnm,hu,hl4]
     . simp [hE,hi0,hh0,Ty.valid]
   . simp [hE,hi0,Ty.valid]
 simp [hE,h1,h2,h3,h4,h5,Ty.valid]
end
end Go.Proofs.YtpcmebclpindjaaGreat
/- The contracts of the functions on stores,joined. -/
namespace Go.Proofs.YtpcmebclpindjaaGreat
open Go.J
open Go.J.Enc (enc)
set_option maxRecDepth 100000
set_option maxHeartbeats 1000000
theorem zmO(l:List Ty):l.length<=Ty.sizes l:=by
 induction l with
 |nil=>exact Nat.le_refl _
 |cons t l ih=>have:=Ty.size_pos t;simp only[Ty.sizes,List.length_cons];omega
section
variable {ρ:Nat->Value}(hρ:J.Good ρ)
include hρ
theorem zpS:Valid ρ Tryz.prog 264 (fnS (zy fun c:Byte=>some (lowerB c.n))):=v1 (fo Tryz.func264 zCi) fun a r h hs=>by
 cases h;exact zii hρ (E:=EL []) rfl (zf valid_nil) hs
theorem zpR:Valid ρ Tryz.prog 266 (fnS (zy fun c:Byte=>some (upperB c.n))):=v1 (fo Tryz.func266 zCg) fun a r h hs=>by
 cases h;exact zih hρ (E:=EL []) rfl (zf valid_nil) hs
theorem z3P:Valid ρ Tryz.prog 308 (fnS (zy fun c:Byte=>some (zeB c.n))):=v1 (fo Tryz.func308 zCe) fun a r h hs=>by
 cases h;exact zik hρ (E:=EL []) rfl (zf valid_nil) hs
theorem z3O:Valid ρ Tryz.prog 276 (fnS (zy fun c:Byte=>some (zbd c.n))):=v1 (fo Tryz.func276 zCf) fun a r h hs=>by
 cases h
 exact zij hρ (E:=EL [(264,fnS (zy fun c:Byte=>some (lowerB c.n))),(266,fnS (zy fun c:Byte=>some (upperB c.n))),(308,fnS (zy fun c:Byte=>some (zeB c.n)))]) rfl
  (zf (za (zpS hρ) (za (zpR hρ) (za (z3P hρ) valid_nil)))) rfl rfl rfl hs
def z3I:J.Spec:=fnS (zy fun s:List Nat=>if s.length<2^63 then some (zeE s)else none)
theorem zyq:Valid ρ Tryz.prog 263 z3I:=v1 (fo Tryz.func263 zCj) fun a r h hs=>by
 obtain⟨h1,rfl⟩:=zo h;exact zjq hρ (E:=EL [(276,fnS (zy fun c:Byte=>some (zbd c.n)))]) rfl (zf (za (z3O hρ) valid_nil)) rfl h1 hs
theorem zpT:Valid ρ Tryz.prog 265 (fnS (zy fun s:List Nat=>some (decide (s∈keywords)))):=v1 (fo Tryz.func265 zCh) fun a r h hs=>by
 cases h;exact zgn hρ (E:=EL []) rfl (zf valid_nil) hs
def zyN:J.Spec:=fnS (zy fun s:List Nat=>if s.length<2^63 then some (zdh s)else none)
theorem zwb:Valid ρ Tryz.prog 190 zyN:=v1 (fo Tryz.func190 zCm) fun a r h hs=>by
 obtain⟨h1,rfl⟩:=zo h
 exact zim hρ (E:=EL [(263,z3I),(264,fnS (zy fun c:Byte=>some (lowerB c.n))),(265,fnS (zy fun s:List Nat=>some (decide (s∈keywords))))]) rfl
  (zf (za (zyq hρ) (za (zpS hρ) (za (zpT hρ) valid_nil)))) rfl rfl rfl h1 hs
def zyu:J.Spec:=fnS (zy fun s:List Nat=>if s.length<2^63 then some (zcd s)else none)
theorem zvZ:Valid ρ Tryz.prog 191 zyu:=v1 (fo Tryz.func191 zCl) fun a r h hs=>by
 obtain⟨h1,rfl⟩:=zo h;exact zil hρ (E:=EL [(263,z3I),(266,fnS (zy fun c:Byte=>some (upperB c.n)))]) rfl (zf (za (zyq hρ) (za (zpR hρ) valid_nil))) rfl rfl h1 hs
def zbJ(d:Nat):J.Spec:=fnS (zy fun t:Ty=>if t.size<=d/\t.short=true then some t.valid else none)
theorem zpQ(d:Nat)(hd:d<=1000000):Valid ρ Tryz.prog 166 (zbJ d):=by
 induction d with
 | zero =>
   refine v1 (fo Tryz.func166 z5S) fun a r h hs=>?_
   obtain⟨⟨h1,h2⟩,rfl⟩:=zo h;have:=Ty.size_eq a;omega
 | succ d ih =>
   refine v1 (fo Tryz.func166 z5S) fun a r h hs=>?_
   obtain⟨⟨h1,h2⟩,rfl⟩:=zo h;refine zia hρ (E:=EL [(166,zbJ d),(190,zyN),(191,zyu)]) rfl (zf (za (ih (by omega)) (za (zwb hρ) (za (zvZ hρ) valid_nil)))) rfl rfl rfl h1 ?_ h2 hs;have:=Ty.size_eq a;have:=zmO a.args;omega
end
end Go.Proofs.YtpcmebclpindjaaGreat
/- Names,constructors,valid types. -/
namespace Go.Proofs.YtpcmebclpindjaaGreat
open Go.J
open Go.J.Enc (enc)
set_option maxRecDepth 100000
set_option maxHeartbeats 1000000
def zde(f l:Nat)(s:List Nat):Bool:=decide (1<=s.length)&&decide (s.length<=12)&&decide (f<=s.headD 0)&&decide (s.headD 0<=l)&&s.all zbd&&decide (s ∉ keywords)
theorem zmp(s:List Nat):zde 97 122 s=zdh s:=by
 rw[Bool.eq_iff_iff];rcases s with _|⟨c,s⟩
 . simp[zde,zdh,zeE]
 . simp only[zde,zdh,zeE,lowerB,Bool.and_eq_true,decide_eq_true_eq,List.headD_cons,List.isEmpty_cons,Bool.not_false];constructor
   . rintro ⟨⟨⟨⟨⟨a,b⟩,c⟩,d⟩,e⟩,f⟩;exact⟨⟨⟨⟨e,trivial⟩,c,d⟩,b⟩,f⟩
   . rintro ⟨⟨⟨⟨e,_⟩,c,d⟩,b⟩,f⟩;exact⟨⟨⟨⟨⟨by simp,b⟩,c⟩,d⟩,e⟩,f⟩
theorem zmo (s:List Nat):zde 65 90 s=zcd s:=by
 rw[Bool.eq_iff_iff];rcases s with _|⟨c,s⟩
 . simp[zde,zcd,zeE]
 . by_cases hk:(c::s)∈keywords
   . have h1:zcd (c::s)=false:=by
      simp only[keywords,List.mem_cons,List.not_mem_nil,or_false]at hk;rcases hk with e|e|e|e|e|e|e<;>rw[e]<;>rfl
     have h2:zde 65 90 (c::s)=false:=by unfold zde;rw[decide_eq_false (by simpa using hk:¬ (c::s) ∉ keywords)];simp
     rw[h1,h2]
   . simp only[zde,zcd,zeE,upperB,Bool.and_eq_true,decide_eq_true_eq,List.headD_cons,List.isEmpty_cons,Bool.not_false];constructor
     . rintro ⟨⟨⟨⟨⟨a,b⟩,c⟩,d⟩,e⟩,f⟩;exact⟨⟨⟨e,trivial⟩,c,d⟩,b⟩
     . rintro ⟨⟨⟨e,_⟩,c,d⟩,b⟩;exact⟨⟨⟨⟨⟨by simp,b⟩,c⟩,d⟩,e⟩,hk⟩
def zx7(s:List Nat)(n:Int):Bool:=if s=[45,62]then decide (n=2)else if s=[73,110,116]then decide (n=0)else zcd s&&decide (n<=4)
section
variable {ρ:Nat->Value}(hρ:J.Good ρ)
include hρ
section
variable {E:Env}(hE:E.P=Tryz.prog)(hcon:ConsOk ρ E)
include hE hcon
theorem zhZ{s:List Nat}{f l:Byte}(hl:s.length<2^63)(hs:HS):CallOk ρ Tryz.prog 159 [enc s,enc f,enc l] hs (enc (zde f.n l.n s)) hs:=by
 refine fn hρ hE hcon Tryz.func159 zCr rfl (by simp) ?_ hs;obtain⟨f⟩:=f;obtain⟨l⟩:=l;by_cases h0:s=[]
 . subst h0;simp [hE,zde]
 have hpos:0<s.length:=List.length_pos_iff.2 h0;have hpos1:1<=s.length:=hpos;have hn1:¬ (s.length:Int)<1:=by omega
 by_cases h12:s.length<=12
 case neg =>
  have h12':(12:Int)<s.length:=by omega
  simp [hE,zde,hn1,h12,h12']
 have h12':¬ (12:Int)<s.length:=by omega
 have hhd:s.headD 0=s[0]:=by
  rcases s with _|⟨c,s⟩
  . exact absurd rfl h0
  . rfl
 by_cases hf:f<=s[0]
 case neg =>
  have hf':(s[0]:Int)<f:=by omega
  have hz:zde f l s=false:=by unfold zde;rw[hhd,decide_eq_false hf];simp
  simp [hE,hz,hn1,h12,h12',hpos,hpos1,hf,hf']
 have hf':¬ (s[0]:Int)<f:=by omega
 by_cases hg:s[0]<=l
 case neg =>
  have hg':(l:Int)<s[0]:=by omega
  have hz:zde f l s=false:=by unfold zde;rw[hhd,decide_eq_false hg];simp
  simp [hE,hz,hn1,h12,h12',hpos,hpos1,hf,hf',hg,hg']
 have hg':¬ (l:Int)<s[0]:=by omega
 have hres:zde f l s=(s.all zbd&&decide (s ∉ keywords)):=by
  unfold zde;rw[hhd,decide_eq_true hpos1,decide_eq_true h12,decide_eq_true hf,decide_eq_true hg];rfl
 generalize hr:zde f l s=r at hres;simp [hE,hn1,h12',hpos,hf',hg']
 refine lpi hρ hE hcon s.length (nn:=0) (fun i (_:Unit)=>[(0,.str s),(31,.int .i64 (s.length:Int)),(32,.int .i64 (i:Int))]) (fun i _=>[]) (fun i _=>(s.take i).all zbd=true) ()
  (Less.auto (by simp) (by simp) rfl rfl) (by simp) ?_ ?_
 . intro _ he K;rw[List.take_length]at he;rw[he,Bool.true_and]at hres;subst hres;simp [zjC,hE];refine LessQ.mk (Less.auto (TL:=[(0,.str s)]) (HL:=[]) (n:=0) (by simp) (by simp) rfl rfl) ?_;clear hr hhd hf hf' hg hg' he h12 h12' hpos hpos1 hn1 hl;by_cases k1:s=[100,97,116,97]
   . subst k1;simp [hE,keywords]
   by_cases k2:s=[108,101,116]
   . subst k2;simp [hE,keywords]
   by_cases k3:s=[114,101,99]
   . subst k3;simp [hE,keywords]
   by_cases k4:s=[105,110]
   . subst k4;simp [hE,keywords]
   by_cases k5:s=[99,97,115,101]
   . subst k5;simp [hE,keywords]
   by_cases k6:s=[111,102]
   . subst k6;simp [hE,keywords]
   by_cases k7:s=[101,110,100]
   . subst k7;simp [hE,keywords]
   simp [hE,keywords,k1,k2,k3,k4,k5,k6,k7]
 . intro i _ hi he K hK;have hi':(i:Int)<s.length:=by omega
   have hw2:IntKind.i64.wrap ((i:Int)+1)=((i+1:Nat):Int):=zw (by omega)
   have hnx:zbd s[i]=true->(s.take (i+1)).all zbd=true:=fun hb=>by
    rw[List.take_add_one,List.getElem?_eq_getElem hi,List.all_append,he];simp[hb]
   have hbad:zbd s[i]=false->r=false:=fun hb=>by
    rw[hres,List.all_eq_false.2 ⟨_,List.getElem_mem hi,by simp[hb]⟩,Bool.false_and]
   clear hr hres hhd hf hf' hg hg' he h12 h12' hn1;have q1:((97:Int)<=(s[i]:Int))↔97<=s[i]:=by omega
   have q2:((s[i]:Int)<=122)↔s[i]<=122:=by omega
   have q3:((65:Int)<=(s[i]:Int))↔65<=s[i]:=by omega
   have q4:((s[i]:Int)<=90)↔s[i]<=90:=by omega
   have q5:((s[i]:Int)<48)↔¬ 48<=s[i]:=by omega
   have q6:((57:Int)<(s[i]:Int))↔¬ s[i]<=57:=by omega
   have q7:((s[i]:Int)=95)↔s[i]=95:=by omega
   have hnew:=fun h=>hK () (hnx h)
   clear hK hnx;by_cases a1:97<=s[i]<;>by_cases a2:s[i]<=122<;>by_cases a3:65<=s[i]<;>by_cases a4:s[i]<=90<;>try omega
   all_goals by_cases a5:48<=s[i]<;>by_cases a6:s[i]<=57<;>by_cases a7:s[i]=95<;>try omega
   all_goals
    first
    | (have hb:zbd s[i]=true:=by simp[zbd,lowerB,upperB,zeB,a1,a2,a3,a4,a5,a6,a7]
       have hnew:=hnew hb;clear hbad hb;simp [zjC,hE,hi,hi',hw2,q1,q2,q3,q4,q5,q6,q7,a1,a2,a3,a4,a5,a6,a7,-Int.natCast_add]
       exact hnew _ _ (Less.auto (by simp[-Int.natCast_add]) (by simp) rfl rfl))
    | (have hb:zbd s[i]=false:=by simp[zbd,lowerB,upperB,zeB,a1,a2,a3,a4,a5,a6,a7]
       have hbad:=hbad hb;subst hbad;clear hnew hb;simp [zjC,hE,hi,hi',hw2,q1,q2,q3,q4,q5,q6,q7,a1,a2,a3,a4,a5,a6,a7,-Int.natCast_add];refine LessQ.mk (Less.auto (TL:=[(6,.bool false)]) (HL:=[]) (n:=0) (by simp) (by simp) rfl rfl) ?_
       simp [hE])
theorem zdH(hN:E.con 159=fnS (zjk fun (s:List Nat) (f l:Byte)=>if s.length<2^63 then some (zde f.n l.n s)else none)){s:List Nat}{n:Int}(hl:s.length<2^63)(hs:HS):CallOk ρ Tryz.prog 160 [enc s,enc n] hs (enc (zx7 s n)) hs:=by
 refine fn hρ hE hcon Tryz.func160 zCq rfl (by simp) ?_ hs;simp only[show (2:Nat)^63=9223372036854775808 from rfl]at hN hl;have d1:(Enc.dec (V.int .u8 65):Option Byte)=some ⟨65⟩:=rfl;have d2:(Enc.dec (V.int .u8 90):Option Byte)=some ⟨90⟩:=rfl;by_cases ha:s=[45,62]
 . subst ha;simp [hE,zx7]
 by_cases hb:s=[73,110,116]
 . subst hb;simp [hE,zx7]
 have hu:=zmo s;cases hc:zcd s<;>rw[hc]at hu<;>simp [hE,zx7,ha,hb,hN,hl,d1,d2,hu,hc]
end
def zqS:J.Spec:=fnS (zjk fun (s:List Nat) (f l:Byte)=>if s.length<2^63 then some (zde f.n l.n s)else none)
theorem z9L:Valid ρ Tryz.prog 159 zqS:=v3 (fo Tryz.func159 zCr) fun a b c r h hs=>by
 obtain⟨h1,rfl⟩:=zo h;exact zhZ hρ (E:=EL []) rfl (zf valid_nil) h1 hs
def zx6:J.Spec:=fnS (zH fun (s:List Nat) (n:Int)=>if s.length<2^63 then some (zx7 s n)else none)
theorem zka:Valid ρ Tryz.prog 160 zx6:=v2 (fo Tryz.func160 zCq) fun a b r h hs=>by
 obtain⟨h1,rfl⟩:=zo h;exact zdH hρ (E:=EL [(159,zqS)]) rfl (zf (za (z9L hρ) valid_nil)) rfl h1 hs
end
end Go.Proofs.YtpcmebclpindjaaGreat
