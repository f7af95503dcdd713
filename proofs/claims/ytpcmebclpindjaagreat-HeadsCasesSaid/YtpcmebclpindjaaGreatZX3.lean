import Derived.Test.YtpcmebclpindjaaGreatZX2
import Derived.Test.YtpcmebclpindjaaGreatJS
import Derived.Test.YtpcmebclpindjaaGreatJH1
set_option linter.all false
noncomputable section
/- The closures of environ.Seen and heads.Cases,and the functions that they are handed to. -/
namespace Go.Proofs.YtpcmebclpindjaaGreat
open Go.J
open Go.J.Enc (enc)
set_option maxRecDepth 100000
set_option maxHeartbeats 4000000
def zeT{α:Type}(f:α->Bool):List α->Int->Int
 | [],_=>-1
 |x::l,i=>if f x=true then i else zeT f l (i+1)
theorem zmZ{α:Type}(f:α->Bool):∀ (l:List α) (i:Int),0<=i->decide (0<=zeT f l i)=l.any f:=by
 intro l
 induction l with
 |nil=>intro i h;simp[zeT]
 | cons y l ih =>
   intro i h;rw[zeT];split
   . rename_i e;simp[e,h]
   . rename_i e;rw[ih (i+1) (by omega)];simp[e]
def zbw(x e:Entry):Option Bool:=some (decide (x.name=e.name))
def zaF(d:Decl)(t:Ty):Option Bool:=some (decide (t.kind=4)&&decide (d.name=t.name)&&decide (d.params.length=t.args.length)||decide (t.kind=1))
section
variable {ρ:Nat->Value}(hρ:J.Good ρ)
include hρ
theorem z0l:Valid ρ Tryz.prog 127 (rdS 7 none (zeb zbw)):=Valid.rd (fo Tryz.func127 z2j) fun X cs r h hp x X0 RL hX hs q hq hc hnd hx=>by
 obtain⟨a,p,b,rfl,rfl,hF,rfl⟩:=zd3 h;cases hF;have hEE:(EL []).P=Tryz.prog:=rfl;have hcn:ConsOk ρ (EL []):=zg valid_nil;rcases hx with⟨rfl,rfl,hpx,hri⟩|⟨es,i,rfl,hne,rfl,rfl,h5,h6,h7⟩
 . rcases hX with⟨rfl,_,_⟩|⟨es,e1,_⟩
   . refine zgN (sz:=7) (g:=none) (RL:=[]) (cs:=[zb p]) hρ hcn follows named Tryz.func127 z2j rfl hp ?_ hq hc hnd (.inl ⟨rfl,rfl,hpx,hri⟩);rw[show Tryz.f127.ntmps=9 from rfl];simp [hEE]
     all_goals exact GivesL.keep rfl rfl (by simp) (by simp) (by simp)
   . cases e1
 . rcases hX with⟨e1,e2,_⟩|⟨es2,e1,_⟩
   . rw[zH hne]at e2;cases e2
   . cases e1
theorem zvP:Valid ρ Tryz.prog 68 (rdS 4 none (zeb zaF)):=Valid.rd (fo Tryz.func68 zCA) fun X cs r h hp x X0 RL hX hs q hq hc hnd hx=>by
 obtain⟨a,p,b,rfl,rfl,hF,rfl⟩:=zd3 h;cases hF;have hEE:(EL []).P=Tryz.prog:=rfl;have hcn:ConsOk ρ (EL []):=zg valid_nil;rcases hx with⟨rfl,rfl,hpx,hri⟩|⟨es,i,rfl,hne,rfl,rfl,h5,h6,h7⟩
 . rcases hX with⟨rfl,_,_⟩|⟨es,e1,_⟩
   . refine zgN (sz:=4) (g:=none) (RL:=[]) (cs:=[zh p]) hρ hcn follows named Tryz.func68 zCA rfl hp ?_ hq hc hnd (.inl ⟨rfl,rfl,hpx,hri⟩);rw[show Tryz.f68.ntmps=28 from rfl];by_cases k4:p.kind=4<;>by_cases kn:a.name=p.name<;>by_cases kl:a.params.length=p.args.length<;>have kl2:(((a.params.length:Int)=(p.args.length:Int))=(a.params.length=p.args.length)):=by simp[Int.ofNat_inj]
     all_goals simp [hEE,k4,kn,kl2,kl]
     all_goals exact GivesL.keep rfl rfl (by simp) (by simp) (by simp)
   . cases e1
 . rcases hX with⟨e1,e2,_⟩|⟨es2,e1,_⟩
   . rw[zH hne]at e2;cases e2
   . cases e1
end
def zyQ(l:List Entry)(c0:Entry):Option Int:=if l.length<=100000/\∀ x∈l,(zbw x c0).isSome=true then some (zeT (fun x=>(zbw x c0).getD false) l 0)else none
def zqq(l:List Entry)(c0:Entry):Option Bool:=if l.length<=100000/\∀ x∈l,(zbw x c0).isSome=true then some (l.any fun x=>(zbw x c0).getD false)else none
section
variable {ρ:Nat->Value}(hρ:J.Good ρ)
include hρ
section
variable {E:Env}(hE:E.P=Tryz.prog)(hcon:ConsOk ρ E)
include hE hcon
theorem zaB(hc:E.con 127=rdS 7 none (zeb zbw)){l:List Entry}{c0:Entry}(hl:l.length<=100000)(hall:∀ x∈l,(zbw x c0).isSome=true)  {r:Int}(hr:zeT (fun x=>(zbw x c0).getD false) l 0=r) :
 Wp ρ E 1 Tryz.f164.ntmps zn8 ((PT.leaf.set 0 (.sl (l.map zb) false)).set 1 (.func 127 [.ptr 0 0 0])) { H:=mkP [(0,box (zb c0))],n:=1,log:=[] } (J.Leaves E.P Tryz.f164 (GivesL 1 (enc r) [(0,box (zb c0))])):=by
 rw[show Tryz.f164.ntmps=19 from rfl];simp [hE]
 refine lpi hρ hE hcon l.length (nn:=1) (fun i (_:Unit)=>[(0,.sl (l.map zb) false),(1,.func 127 [.ptr 0 0 0]),(7,.int .i64 (l.length:Int)),(8,.int .i64 (i:Int))])
  (fun i _=>[(0,box (zb c0))]) (fun i _=>zeT (fun x=>(zbw x c0).getD false) (l.drop i) (i:Int)=r) ()
  (Less.auto (by simp) (by simp) rfl rfl) (by simpa using hr) ?_ ?_
 . intro _ h K;rw[List.drop_length,zeT]at h;simp [zdj,hE];refine LessQ.mk (Less.auto (TL:=[]) (HL:=[(0,box (zb c0))]) (n:=1) (by simp) (by simp) rfl rfl) ?_;simp [hE,<- h];exact GivesL.keep rfl rfl (by simp) (by simp) (by simp)
 . intro i _ hi h K hK;have hi':(i:Int)<l.length:=by omega
   have hw2:IntKind.i64.wrap ((i:Int)+1)=((i+1:Nat):Int):=zA (by omega);have hm5:(i*7) / 7=i:=by omega
   have hm6:(i*7) % 7=0:=by omega
   obtain⟨q,hq⟩:=Option.isSome_iff_exists.1 (hall l[i] (List.getElem_mem hi));rw[List.drop_eq_getElem_cons hi,zeT,hq]at h;simp only[Option.getD_some]at h
   cases q with
   | true =>
     rw[if_pos rfl]at h;simp [zdj,hE,hi,hi',hm5,hm6,hc,hq];refine LessQ.mk (Less.auto (TL:=[(4,.int .i64 (i:Int))]) (HL:=[(0,box (zb c0))]) (n:=1) (by simp) (by simp) rfl rfl) ?_;simp [hE,<- h];exact GivesL.keep rfl rfl (by simp) (by simp) (by simp)
   | false =>
     rw[if_neg (by decide)]at h;have hnew:=hK () h;simp [zdj,hE,hi,hi',hm5,hm6,hc,hq,hw2,-Int.natCast_add];exact hnew _ _ (Less.auto (by simp[-Int.natCast_add]) (by simp) rfl rfl)
theorem za8(hc:E.con 127=rdS 7 none (zeb zbw)){l:List Entry}{c0:Entry}(hl:l.length<=100000)(hall:∀ x∈l,(zbw x c0).isSome=true)(hne:l≠[]){r:Int}(hr:zeT (fun x=>(zbw x c0).getD false) l 0=r) :
 Wp ρ E 2 Tryz.f164.ntmps zn8 ((PT.leaf.set 0 (.own 1 (l.length-1) 0 l.length none)).set 1 (.func 127 [.ptr 0 0 0])) { H:=mkP [(0,box (zb c0)),(1,.arr 7 (l.length-1) (l.map zb) false false true)],n:=2,log:=[] } (J.Leaves E.P Tryz.f164 (GivesL 2 (enc r) [(0,box (zb c0)),(1,.arr 7 (l.length-1) (l.map zb) false false true)])):=by
 rw[show Tryz.f164.ntmps=19 from rfl];have hpos:0<l.length:=List.length_pos_iff.2 hne;simp [hE]
 refine lpi hρ hE hcon l.length (nn:=2) (fun i (_:Unit)=>[(0,.own 1 (l.length-1) 0 l.length none),(1,.func 127 [.ptr 0 0 0]),(7,.int .i64 (l.length:Int)),(8,.int .i64 (i:Int))])
  (fun i _=>[(0,box (zb c0)),(1,.arr 7 (l.length-1) (l.map zb) false false true)]) (fun i _=>zeT (fun x=>(zbw x c0).getD false) (l.drop i) (i:Int)=r) ()
  (Less.auto (by simp) (by simp) rfl rfl) (by simpa using hr) ?_ ?_
 . intro _ h K;rw[List.drop_length,zeT]at h;simp [zdj,hE];refine LessQ.mk (Less.auto (TL:=[]) (HL:=[(0,box (zb c0)),(1,.arr 7 (l.length-1) (l.map zb) false false true)]) (n:=2) (by simp) (by simp) rfl rfl) ?_;simp [hE,<- h];exact GivesL.keep rfl rfl (by simp) (by simp) (by simp)
 . intro i _ hi h K hK;have hi':(i:Int)<l.length:=by omega
   have hw2:IntKind.i64.wrap ((i:Int)+1)=((i+1:Nat):Int):=zA (by omega);have hm5:(i*7) / 7=i:=by omega
   have hm6:(i*7) % 7=0:=by omega
   obtain⟨q,hq⟩:=Option.isSome_iff_exists.1 (hall l[i] (List.getElem_mem hi));rw[List.drop_eq_getElem_cons hi,zeT,hq]at h;simp only[Option.getD_some]at h
   cases q with
   | true =>
     rw[if_pos rfl]at h;simp [zdj,hE,hi,hi',hm5,hm6,hc,hq];refine LessQ.mk (Less.auto (TL:=[(4,.int .i64 (i:Int))]) (HL:=[(0,box (zb c0)),(1,.arr 7 (l.length-1) (l.map zb) false false true)]) (n:=2) (by simp) (by simp) rfl rfl) ?_;simp [hE,<- h];exact GivesL.keep rfl rfl (by simp) (by simp) (by simp)
   | false =>
     rw[if_neg (by decide)]at h;have hnew:=hK () h;simp [zdj,hE,hi,hi',hm5,hm6,hc,hq,hw2,-Int.natCast_add];exact hnew _ _ (Less.auto (by simp[-Int.natCast_add]) (by simp) rfl rfl)
theorem zaA{c0:Entry} :
 Wp ρ E 1 Tryz.f164.ntmps zn8 ((PT.leaf.set 0 .snil).set 1 (.func 127 [.ptr 0 0 0])) { H:=mkP [(0,box (zb c0))],n:=1,log:=[] } (J.Leaves E.P Tryz.f164 (GivesL 1 (enc (-1:Int)) [(0,box (zb c0))])):=by
 rw[show Tryz.f164.ntmps=19 from rfl];simp [hE]
 refine lpi hρ hE hcon 0 (nn:=1) (fun i (_:Unit)=>[(7,.int .i64 0),(8,.int .i64 0)]) (fun i _=>[(0,box (zb c0))]) (fun i _=>True) ()
  (Less.auto (by simp) (by simp) rfl rfl) trivial ?_ ?_
 . intro _ h K;simp [zdj,hE];refine LessQ.mk (Less.auto (TL:=[]) (HL:=[(0,box (zb c0))]) (n:=1) (by simp) (by simp) rfl rfl) ?_;simp [hE];exact GivesL.keep rfl rfl (by simp) (by simp) (by simp)
 . intro i _ hi;omega
end
theorem zaK:Valid ρ Tryz.prog 164 (rdS 7 (some 127) (zeb zyQ)):=Valid.rd (fo Tryz.func164 z2h) fun X cs r h hp x X0 RL hX hs q hq hc hnd hx=>by
 obtain⟨l,c0,b,rfl,rfl,hF,rfl⟩:=zd3 h;obtain⟨⟨h1,h2⟩,rfl⟩:=zT hF;have hEE:(EL [(127,rdS 7 none (zeb zbw))]).P=Tryz.prog:=rfl;have hcn:ConsOk ρ (EL [(127,rdS 7 none (zeb zbw))]):=zg (zf (z0l hρ) valid_nil);have hfin:=fun (k:V) (RL:List (Nat×J.Obj)) (T:PT V) (he) (hw) (hx)=>zgN (sz:=7) (g:=some 127) (X0:=k) (RL:=RL) (T:=T) (cs:=[zb c0]) (x:=x) (hs:=hs) (q:=q) hρ hcn follows named Tryz.func164 z2h he hp hw hq hc hnd hx
 rcases hx with⟨rfl,rfl,hpx,hri⟩|⟨es,i,rfl,hne,rfl,rfl,h5,h6,h7⟩
 . rcases hX with⟨rfl,_,_⟩|⟨es,e1,e2,e3,_⟩
   . exact hfin _ [] _ rfl (zaB hρ hEE hcn rfl h1 h2 rfl) (.inl ⟨rfl,rfl,hpx,hri⟩)
   . cases es with
     | nil =>
       have e0:l=[]:=by
        have e4:l.map zb=[]:=by injection e1
        exact List.map_eq_nil_iff.1 e4
       subst e0;have e5:X0=V.snil:=e2;subst e5;exact hfin _ [] _ rfl (zaA hρ hEE hcn) (.inl ⟨rfl,rfl,hpx,hri⟩)
     |cons e es=>rw[zeA]at e3;cases e3
 . have hne2:∃ e l,es=e::l:=List.exists_cons_of_ne_nil hne;rcases hX with⟨e1,e2,_⟩|⟨es2,e1,e2,e3,_⟩
   . rw[zH hne]at e2;cases e2
   . have e4:es=l.map zb:=by
      have e6:l.map zb=es2:=by injection e1
      rw[zH hne]at e3
      cases es2 with
      |nil=>cases e3
      | cons y m =>
        rw[zH (by simp)]at e3;have e7:(J.oO 7 es)=J.oO 7 (y::m):=by injection e3 with e8;injection e8
        have e9:es=y::m:=by unfold oO at e7;injection e7
        rw[e9,<- e6]
     have hl0:l≠[]:=fun e=>hne (by rw[e4,e];rfl)
     have hV:∀ i,oV i (l.map zb)=.own i (l.length-1) 0 l.length none:=fun i=>by rw[zbs (by rw[<- e4];exact hne)];simp
     have hO:oH 1 7 (l.map zb)=[(1,.arr 7 (l.length-1) (l.map zb) false false true)]:=by rw[zH (by rw[<- e4];exact hne)];simp[J.oO]
     have hw:=za8 hρ hEE hcn rfl h1 h2 hl0 rfl;refine hfin (oV 1 es) (oH 1 7 es) _ rfl ?_ (.inr ⟨es,i,rfl,hne,rfl,rfl,h5,h6,h7⟩);subst e4;rw[hV];show Wp ρ _ ((1)+(oH 1 7 (l.map zb)).length) _ _ _ { H:=mkP ([(0,box (zb c0))]++oH 1 7 (l.map zb)),n:=1+(oH 1 7 (l.map zb)).length,log:=[] } (J.Leaves _ _ (GivesL (1+(oH 1 7 (l.map zb)).length) _ ([(0,box (zb c0))]++oH 1 7 (l.map zb))));rw[hO];exact hw
end
section
variable {ρ:Nat->Value}(hρ:J.Good ρ)
include hρ
theorem za6:Valid ρ Tryz.prog 95 (rdS 7 (some 127) (zeb zqq)):=Valid.rd (fo Tryz.func95 zC8) fun X cs r h hp x X0 RL hX hs q hq hc hnd hx=>by
 obtain⟨l,c0,b,rfl,rfl,hF,rfl⟩:=zd3 h;obtain⟨⟨h1,h2⟩,rfl⟩:=zT hF;have hEE:(EL [(164,rdS 7 (some 127) (zeb zyQ))]).P=Tryz.prog:=rfl;have hcn:ConsOk ρ (EL [(164,rdS 7 (some 127) (zeb zyQ))]):=zg (zf (zaK hρ) valid_nil);have hix:zyQ l c0=some (zeT (fun x=>(zbw x c0).getD false) l 0):=if_pos ⟨h1,h2⟩;have hge:=zmZ (fun x=>(zbw x c0).getD false) l 0 (Int.le_refl _);generalize zeT (fun x=>(zbw x c0).getD false) l 0=ix at hix hge;rw[<- hge]at hp ⊢;have hcon:(EL [(164,rdS 7 (some 127) (zeb zyQ))]).con 164=rdS 7 (some 127) (zeb zyQ):=rfl;have hfin:=fun (k:V) (RL:List (Nat×J.Obj)) (T:PT V) (he) (hw) (hx)=>zgN (sz:=7) (g:=some 127) (X0:=k) (RL:=RL) (T:=T) (cs:=[zb c0]) (x:=x) (hs:=hs) (q:=q) hρ hcn follows named Tryz.func95 zC8 he hp hw hq hc hnd hx
 rcases hx with⟨rfl,rfl,hpx,hri⟩|⟨es,i,rfl,hne,rfl,rfl,h5,h6,h7⟩
 . rcases hX with⟨rfl,_,_⟩|⟨es,e1,e2,e3,_⟩
   . refine hfin _ [] _ rfl ?_ (.inl ⟨rfl,rfl,hpx,hri⟩);rw[show Tryz.f95.ntmps=9 from rfl];simp [hEE,hcon,hix];exact GivesL.keep rfl rfl (by simp) (by simp) (by simp)
   . cases es with
     | nil =>
       have e0:l=[]:=by
        have e4:l.map zb=[]:=by injection e1
        exact List.map_eq_nil_iff.1 e4
       subst e0;have e5:X0=V.snil:=e2;subst e5;refine hfin _ [] _ rfl ?_ (.inl ⟨rfl,rfl,hpx,hri⟩);rw[show Tryz.f95.ntmps=9 from rfl];simp [hEE,hcon,hix];exact GivesL.keep rfl rfl (by simp) (by simp) (by simp)
     |cons e es=>rw[zeA]at e3;cases e3
 . rcases hX with⟨e1,e2,_⟩|⟨es2,e1,e2,e3,_⟩
   . rw[zH hne]at e2;cases e2
   . have e4:es=l.map zb:=by
      have e6:l.map zb=es2:=by injection e1
      rw[zH hne]at e3
      cases es2 with
      |nil=>cases e3
      | cons y m =>
        rw[zH (by simp)]at e3;have e7:(J.oO 7 es)=J.oO 7 (y::m):=by injection e3 with e8;injection e8
        have e9:es=y::m:=by unfold oO at e7;injection e7
        rw[e9,<- e6]
     obtain⟨y,m,rfl⟩:=List.exists_cons_of_ne_nil (fun e=>hne (by rw[e4,e];rfl):l≠[]);refine hfin (oV 1 es) (oH 1 7 es) _ rfl ?_ (.inr ⟨es,i,rfl,hne,rfl,rfl,h5,h6,h7⟩);subst e4;rw[show Tryz.f95.ntmps=9 from rfl];simp [hEE,hcon,hix];exact GivesL.keep rfl rfl (by simp) (by simp) (by simp)
end
def zyR(l:List Decl)(c0:Ty):Option Int:=if l.length<=100000/\∀ x∈l,(zaF x c0).isSome=true then some (zeT (fun x=>(zaF x c0).getD false) l 0)else none
def zqr(l:List Decl)(c0:Ty):Option Bool:=if l.length<=100000/\∀ x∈l,(zaF x c0).isSome=true then some (l.any fun x=>(zaF x c0).getD false)else none
section
variable {ρ:Nat->Value}(hρ:J.Good ρ)
include hρ
section
variable {E:Env}(hE:E.P=Tryz.prog)(hcon:ConsOk ρ E)
include hE hcon
theorem zaO(hc:E.con 68=rdS 4 none (zeb zaF)){l:List Decl}{c0:Ty}(hl:l.length<=100000)(hall:∀ x∈l,(zaF x c0).isSome=true)  {r:Int}(hr:zeT (fun x=>(zaF x c0).getD false) l 0=r) :
 Wp ρ E 1 Tryz.f128.ntmps znQ ((PT.leaf.set 0 (.sl (l.map zn) false)).set 1 (.func 68 [.ptr 0 0 0])) { H:=mkP [(0,box (zh c0))],n:=1,log:=[] } (J.Leaves E.P Tryz.f128 (GivesL 1 (enc r) [(0,box (zh c0))])):=by
 rw[show Tryz.f128.ntmps=19 from rfl];simp [hE]
 refine lpi hρ hE hcon l.length (nn:=1) (fun i (_:Unit)=>[(0,.sl (l.map zn) false),(1,.func 68 [.ptr 0 0 0]),(7,.int .i64 (l.length:Int)),(8,.int .i64 (i:Int))])
  (fun i _=>[(0,box (zh c0))]) (fun i _=>zeT (fun x=>(zaF x c0).getD false) (l.drop i) (i:Int)=r) ()
  (Less.auto (by simp) (by simp) rfl rfl) (by simpa using hr) ?_ ?_
 . intro _ h K;rw[List.drop_length,zeT]at h;simp [zdk,hE];refine LessQ.mk (Less.auto (TL:=[]) (HL:=[(0,box (zh c0))]) (n:=1) (by simp) (by simp) rfl rfl) ?_;simp [hE,<- h];exact GivesL.keep rfl rfl (by simp) (by simp) (by simp)
 . intro i _ hi h K hK;have hi':(i:Int)<l.length:=by omega
   have hw2:IntKind.i64.wrap ((i:Int)+1)=((i+1:Nat):Int):=zA (by omega);have hm5:(i*4) / 4=i:=by omega
   have hm6:(i*4) % 4=0:=by omega
   obtain⟨q,hq⟩:=Option.isSome_iff_exists.1 (hall l[i] (List.getElem_mem hi));rw[List.drop_eq_getElem_cons hi,zeT,hq]at h;simp only[Option.getD_some]at h
   cases q with
   | true =>
     rw[if_pos rfl]at h;simp [zdk,hE,hi,hi',hm5,hm6,hc,hq];refine LessQ.mk (Less.auto (TL:=[(4,.int .i64 (i:Int))]) (HL:=[(0,box (zh c0))]) (n:=1) (by simp) (by simp) rfl rfl) ?_;simp [hE,<- h];exact GivesL.keep rfl rfl (by simp) (by simp) (by simp)
   | false =>
     rw[if_neg (by decide)]at h;have hnew:=hK () h;simp [zdk,hE,hi,hi',hm5,hm6,hc,hq,hw2,-Int.natCast_add];exact hnew _ _ (Less.auto (by simp[-Int.natCast_add]) (by simp) rfl rfl)
theorem zaM(hc:E.con 68=rdS 4 none (zeb zaF)){l:List Decl}{c0:Ty}(hl:l.length<=100000)(hall:∀ x∈l,(zaF x c0).isSome=true)(hne:l≠[]){r:Int}(hr:zeT (fun x=>(zaF x c0).getD false) l 0=r) :
 Wp ρ E 2 Tryz.f128.ntmps znQ ((PT.leaf.set 0 (.own 1 (l.length-1) 0 l.length none)).set 1 (.func 68 [.ptr 0 0 0])) { H:=mkP [(0,box (zh c0)),(1,.arr 4 (l.length-1) (l.map zn) false false true)],n:=2,log:=[] } (J.Leaves E.P Tryz.f128 (GivesL 2 (enc r) [(0,box (zh c0)),(1,.arr 4 (l.length-1) (l.map zn) false false true)])):=by
 rw[show Tryz.f128.ntmps=19 from rfl];have hpos:0<l.length:=List.length_pos_iff.2 hne;simp [hE]
 refine lpi hρ hE hcon l.length (nn:=2) (fun i (_:Unit)=>[(0,.own 1 (l.length-1) 0 l.length none),(1,.func 68 [.ptr 0 0 0]),(7,.int .i64 (l.length:Int)),(8,.int .i64 (i:Int))])
  (fun i _=>[(0,box (zh c0)),(1,.arr 4 (l.length-1) (l.map zn) false false true)]) (fun i _=>zeT (fun x=>(zaF x c0).getD false) (l.drop i) (i:Int)=r) ()
  (Less.auto (by simp) (by simp) rfl rfl) (by simpa using hr) ?_ ?_
 . intro _ h K;rw[List.drop_length,zeT]at h;simp [zdk,hE];refine LessQ.mk (Less.auto (TL:=[]) (HL:=[(0,box (zh c0)),(1,.arr 4 (l.length-1) (l.map zn) false false true)]) (n:=2) (by simp) (by simp) rfl rfl) ?_;simp [hE,<- h];exact GivesL.keep rfl rfl (by simp) (by simp) (by simp)
 . intro i _ hi h K hK;have hi':(i:Int)<l.length:=by omega
   have hw2:IntKind.i64.wrap ((i:Int)+1)=((i+1:Nat):Int):=zA (by omega);have hm5:(i*4) / 4=i:=by omega
   have hm6:(i*4) % 4=0:=by omega
   obtain⟨q,hq⟩:=Option.isSome_iff_exists.1 (hall l[i] (List.getElem_mem hi));rw[List.drop_eq_getElem_cons hi,zeT,hq]at h;simp only[Option.getD_some]at h
   cases q with
   | true =>
     rw[if_pos rfl]at h;simp [zdk,hE,hi,hi',hm5,hm6,hc,hq];refine LessQ.mk (Less.auto (TL:=[(4,.int .i64 (i:Int))]) (HL:=[(0,box (zh c0)),(1,.arr 4 (l.length-1) (l.map zn) false false true)]) (n:=2) (by simp) (by simp) rfl rfl) ?_;simp [hE,<- h];exact GivesL.keep rfl rfl (by simp) (by simp) (by simp)
   | false =>
     rw[if_neg (by decide)]at h;have hnew:=hK () h;simp [zdk,hE,hi,hi',hm5,hm6,hc,hq,hw2,-Int.natCast_add];exact hnew _ _ (Less.auto (by simp[-Int.natCast_add]) (by simp) rfl rfl)
theorem zaN{c0:Ty} :
 Wp ρ E 1 Tryz.f128.ntmps znQ ((PT.leaf.set 0 .snil).set 1 (.func 68 [.ptr 0 0 0])) { H:=mkP [(0,box (zh c0))],n:=1,log:=[] } (J.Leaves E.P Tryz.f128 (GivesL 1 (enc (-1:Int)) [(0,box (zh c0))])):=by
 rw[show Tryz.f128.ntmps=19 from rfl];simp [hE]
 refine lpi hρ hE hcon 0 (nn:=1) (fun i (_:Unit)=>[(7,.int .i64 0),(8,.int .i64 0)]) (fun i _=>[(0,box (zh c0))]) (fun i _=>True) ()
  (Less.auto (by simp) (by simp) rfl rfl) trivial ?_ ?_
 . intro _ h K;simp [zdk,hE];refine LessQ.mk (Less.auto (TL:=[]) (HL:=[(0,box (zh c0))]) (n:=1) (by simp) (by simp) rfl rfl) ?_;simp [hE];exact GivesL.keep rfl rfl (by simp) (by simp) (by simp)
 . intro i _ hi;omega
end
theorem zbb:Valid ρ Tryz.prog 128 (rdS 4 (some 68) (zeb zyR)):=Valid.rd (fo Tryz.func128 z2i) fun X cs r h hp x X0 RL hX hs q hq hc hnd hx=>by
 obtain⟨l,c0,b,rfl,rfl,hF,rfl⟩:=zd3 h;obtain⟨⟨h1,h2⟩,rfl⟩:=zT hF;have hEE:(EL [(68,rdS 4 none (zeb zaF))]).P=Tryz.prog:=rfl;have hcn:ConsOk ρ (EL [(68,rdS 4 none (zeb zaF))]):=zg (zf (zvP hρ) valid_nil);have hfin:=fun (k:V) (RL:List (Nat×J.Obj)) (T:PT V) (he) (hw) (hx)=>zgN (sz:=4) (g:=some 68) (X0:=k) (RL:=RL) (T:=T) (cs:=[zh c0]) (x:=x) (hs:=hs) (q:=q) hρ hcn follows named Tryz.func128 z2i he hp hw hq hc hnd hx
 rcases hx with⟨rfl,rfl,hpx,hri⟩|⟨es,i,rfl,hne,rfl,rfl,h5,h6,h7⟩
 . rcases hX with⟨rfl,_,_⟩|⟨es,e1,e2,e3,_⟩
   . exact hfin _ [] _ rfl (zaO hρ hEE hcn rfl h1 h2 rfl) (.inl ⟨rfl,rfl,hpx,hri⟩)
   . cases es with
     | nil =>
       have e0:l=[]:=by
        have e4:l.map zn=[]:=by injection e1
        exact List.map_eq_nil_iff.1 e4
       subst e0;have e5:X0=V.snil:=e2;subst e5;exact hfin _ [] _ rfl (zaN hρ hEE hcn) (.inl ⟨rfl,rfl,hpx,hri⟩)
     |cons e es=>rw[zeA]at e3;cases e3
 . have hne2:∃ e l,es=e::l:=List.exists_cons_of_ne_nil hne;rcases hX with⟨e1,e2,_⟩|⟨es2,e1,e2,e3,_⟩
   . rw[zH hne]at e2;cases e2
   . have e4:es=l.map zn:=by
      have e6:l.map zn=es2:=by injection e1
      rw[zH hne]at e3
      cases es2 with
      |nil=>cases e3
      | cons y m =>
        rw[zH (by simp)]at e3;have e7:(J.oO 4 es)=J.oO 4 (y::m):=by injection e3 with e8;injection e8
        have e9:es=y::m:=by unfold oO at e7;injection e7
        rw[e9,<- e6]
     have hl0:l≠[]:=fun e=>hne (by rw[e4,e];rfl)
     have hV:∀ i,oV i (l.map zn)=.own i (l.length-1) 0 l.length none:=fun i=>by rw[zbs (by rw[<- e4];exact hne)];simp
     have hO:oH 1 4 (l.map zn)=[(1,.arr 4 (l.length-1) (l.map zn) false false true)]:=by rw[zH (by rw[<- e4];exact hne)];simp[J.oO]
     have hw:=zaM hρ hEE hcn rfl h1 h2 hl0 rfl;refine hfin (oV 1 es) (oH 1 4 es) _ rfl ?_ (.inr ⟨es,i,rfl,hne,rfl,rfl,h5,h6,h7⟩);subst e4;rw[hV];show Wp ρ _ ((1)+(oH 1 4 (l.map zn)).length) _ _ _ { H:=mkP ([(0,box (zh c0))]++oH 1 4 (l.map zn)),n:=1+(oH 1 4 (l.map zn)).length,log:=[] } (J.Leaves _ _ (GivesL (1+(oH 1 4 (l.map zn)).length) _ ([(0,box (zh c0))]++oH 1 4 (l.map zn))));rw[hO];exact hw
end
section
variable {ρ:Nat->Value}(hρ:J.Good ρ)
include hρ
theorem zaH:Valid ρ Tryz.prog 67 (rdS 4 (some 68) (zeb zqr)):=Valid.rd (fo Tryz.func67 zCB) fun X cs r h hp x X0 RL hX hs q hq hc hnd hx=>by
 obtain⟨l,c0,b,rfl,rfl,hF,rfl⟩:=zd3 h;obtain⟨⟨h1,h2⟩,rfl⟩:=zT hF;have hEE:(EL [(128,rdS 4 (some 68) (zeb zyR))]).P=Tryz.prog:=rfl;have hcn:ConsOk ρ (EL [(128,rdS 4 (some 68) (zeb zyR))]):=zg (zf (zbb hρ) valid_nil);have hix:zyR l c0=some (zeT (fun x=>(zaF x c0).getD false) l 0):=if_pos ⟨h1,h2⟩;have hge:=zmZ (fun x=>(zaF x c0).getD false) l 0 (Int.le_refl _);generalize zeT (fun x=>(zaF x c0).getD false) l 0=ix at hix hge;rw[<- hge]at hp ⊢;have hcon:(EL [(128,rdS 4 (some 68) (zeb zyR))]).con 128=rdS 4 (some 68) (zeb zyR):=rfl;have hfin:=fun (k:V) (RL:List (Nat×J.Obj)) (T:PT V) (he) (hw) (hx)=>zgN (sz:=4) (g:=some 68) (X0:=k) (RL:=RL) (T:=T) (cs:=[zh c0]) (x:=x) (hs:=hs) (q:=q) hρ hcn follows named Tryz.func67 zCB he hp hw hq hc hnd hx
 rcases hx with⟨rfl,rfl,hpx,hri⟩|⟨es,i,rfl,hne,rfl,rfl,h5,h6,h7⟩
 . rcases hX with⟨rfl,_,_⟩|⟨es,e1,e2,e3,_⟩
   . refine hfin _ [] _ rfl ?_ (.inl ⟨rfl,rfl,hpx,hri⟩);rw[show Tryz.f67.ntmps=9 from rfl];simp [hEE,hcon,hix];exact GivesL.keep rfl rfl (by simp) (by simp) (by simp)
   . cases es with
     | nil =>
       have e0:l=[]:=by
        have e4:l.map zn=[]:=by injection e1
        exact List.map_eq_nil_iff.1 e4
       subst e0;have e5:X0=V.snil:=e2;subst e5;refine hfin _ [] _ rfl ?_ (.inl ⟨rfl,rfl,hpx,hri⟩);rw[show Tryz.f67.ntmps=9 from rfl];simp [hEE,hcon,hix];exact GivesL.keep rfl rfl (by simp) (by simp) (by simp)
     |cons e es=>rw[zeA]at e3;cases e3
 . rcases hX with⟨e1,e2,_⟩|⟨es2,e1,e2,e3,_⟩
   . rw[zH hne]at e2;cases e2
   . have e4:es=l.map zn:=by
      have e6:l.map zn=es2:=by injection e1
      rw[zH hne]at e3
      cases es2 with
      |nil=>cases e3
      | cons y m =>
        rw[zH (by simp)]at e3;have e7:(J.oO 4 es)=J.oO 4 (y::m):=by injection e3 with e8;injection e8
        have e9:es=y::m:=by unfold oO at e7;injection e7
        rw[e9,<- e6]
     obtain⟨y,m,rfl⟩:=List.exists_cons_of_ne_nil (fun e=>hne (by rw[e4,e];rfl):l≠[]);refine hfin (oV 1 es) (oH 1 4 es) _ rfl ?_ (.inr ⟨es,i,rfl,hne,rfl,rfl,h5,h6,h7⟩);subst e4;rw[show Tryz.f67.ntmps=9 from rfl];simp [hEE,hcon,hix];exact GivesL.keep rfl rfl (by simp) (by simp) (by simp)
end
end Go.Proofs.YtpcmebclpindjaaGreat
/- environ.Seen,ref19.Lookup,ref19.Seen: walked. -/
namespace Go.Proofs.YtpcmebclpindjaaGreat
open Go.J
open Go.J.Enc (enc)
set_option maxRecDepth 100000
set_option maxHeartbeats 1000000
section
variable {ρ:Nat->Value}(hρ:J.Good ρ)
include hρ
section
variable {E:Env}(hE:E.P=Tryz.prog)(hcon:ConsOk ρ E)
include hE hcon
theorem zfc (hC:E.con 95=rdS 7 (some 127) (zeb zqq)) {l:List Entry} (hl:l.length<=1000) (hs:HS):CallOk ρ Tryz.prog 66 [enc l] hs (enc (zcw l)) hs:=by
 refine fn hρ hE hcon Tryz.func66 zCC rfl (by simp) ?_ hs;simp [hE]
 refine lpi hρ hE hcon l.length (nn:=1) (fun i (A:List Entry)=>[(0,.sl (l.map zb) false),(3,oV 0 (A.map zb)),(6,.sl (l.map zb) false),(7,.int .i64 (l.length:Int)),(8,.int .i64 (i:Int))]) (fun i A=>oH 0 7 (A.map zb))
  (fun i A=>A++zcw (l.drop i)=zcw l/\A.length<=i) [] (Less.auto (by simp) (by simp) rfl rfl) ⟨by simp,Nat.le_refl _⟩ ?_ ?_
 . intro A hA K;have hA2:=hA.1;rw[List.drop_length,zcw,List.append_nil]at hA2;rw[<- hA2];rcases A with _|⟨x,A⟩<;>simp [ziR,hE]
   . refine LessQ.mk (Less.auto (TL:=[(3,.snil)]) (HL:=[]) (n:=1) (by simp) (by simp) rfl rfl) ?_;simp [hE]
   . refine LessQ.mk (Less.auto (TL:=[(3,oV 0 ((x::A).map zb))]) (HL:=oH 0 7 ((x::A).map zb)) (n:=1) (by simp) (by simp) rfl rfl) ?_;simp [hE]
 . intro i A hi hA K hK;have hi':(i:Int)<l.length:=by omega
   have hw2:IntKind.i64.wrap ((i:Int)+1)=((i+1:Nat):Int):=zA (by omega);have hi1:i+1<=l.length:=hi;have hi1':((i+1:Nat):Int)<=l.length:=by omega
   obtain⟨hA1,hAl⟩:=hA;rw[List.drop_eq_getElem_cons hi]at hA1;have hcn:zqq (l.drop (i+1)) l[i]=some (z1J l[i].name (l.drop (i+1))):=if_pos ⟨by simp;omega,fun x _=>rfl⟩;have htk:((l.drop (i+1)).map zb).take (l.length-(i+1))=(l.drop (i+1)).map zb:=List.take_of_length_le (by simp);rw[zgI]at hA1
   cases hh:z1J l[i].name (l.drop (i+1))with
   | true =>
     rw[hh,if_pos rfl]at hA1;rw[hh]at hcn;have hnew:=hK A ⟨hA1,by omega⟩;rcases A with _|⟨x,A⟩<;>simp [ziR,hE,hi,hi',hw2,hi1,hi1',hC,hcn,htk,<- List.map_drop,zdc,zdb,bounds,zoY,zz,zc7,-Int.natCast_add]<;>exact hnew _ _ (Less.auto (by simp[-Int.natCast_add]) (by simp) rfl rfl)
   | false =>
     rw[hh,if_neg (by decide)]at hA1;rw[hh]at hcn;have hnew:=hK (A++[l[i]]) ⟨by simpa using hA1,by simp;omega⟩;rcases A with _|⟨x,A⟩
     . simp [ziR,hE,hi,hi',hw2,hi1,hi1',hC,hcn,htk,<- List.map_drop,zdc,zdb,bounds,zoY,zz,zc7,-Int.natCast_add];exact hnew _ _ (Less.auto (by simp[-Int.natCast_add]) (by simp) rfl rfl)
     . have k1:(A.length+1+1)*88<=1048576:=Nat.le_trans (Nat.mul_le_mul_right 88 (show A.length+1+1<=1001 by simp at hAl;omega)) (by decide);simp [ziR,hE,hi,hi',hw2,hi1,hi1',hC,hcn,htk,<- List.map_drop,zdc,zdb,bounds,zoY,zz,zc7,k1,Nat.not_succ_le_self,-Int.natCast_add];exact hnew _ _ (Less.auto (by simp[-Int.natCast_add]) (by simp) rfl rfl)
theorem zeZ{l:List Entry}{n:List Nat}(hl:l.length<=1000)(hs:HS):CallOk ρ Tryz.prog 80 [enc l,enc n] hs (enc (ziD l n)) hs:=by
 refine fn hρ hE hcon Tryz.func80 zC9 rfl (by simp) ?_ hs;simp [hE];have hw0:IntKind.i64.wrap ((l.length:Int)-1)=(l.length:Int)-1-(0:Nat):=by rw[wrap_i64 (by omega) (by omega)];omega
 rw[hw0]
 refine lpi hρ hE hcon l.length (nn:=1) (fun i (_:Unit)=>[(0,.sl (l.map zb) false),(1,.str n),(4,.ptr 0 0 0),(5,.bool false),(6,.int .i64 ((l.length:Int)-1-(i:Int)))]) (fun i _=>[(0,box [.int .i64 0,.int .i64 0,.str [],.int .i64 0,.int .i64 0,.snil])])
  (fun i _=>zg9 (l.take (l.length-i)) n=zg9 l n) () (Less.auto (by simp) (by simp) (by simp) rfl) (by simp) ?_ ?_
 . intro _ h K;rw[Nat.sub_self,List.take_zero]at h;have hP:ziD l n=(z7S,false):=by unfold ziD;rw[<- h];rfl
   have hneg:¬ (l.length:Int)<=(l.length:Int)-1:=by omega
   rw[hP];simp [zkQ,hE,hneg];refine LessQ.mk (Less.auto (TL:=[(4,.ptr 0 0 0),(5,.bool false)]) (HL:=[(0,box [.int .i64 0,.int .i64 0,.str [],.int .i64 0,.int .i64 0,.snil])]) (n:=1) (by simp) (by simp) (by simp) rfl) ?_;simp [hE,z7S,ty0]
 . intro i _ hi h K hK;obtain⟨j,hj⟩:∃ j,l.length=i+1+j:=⟨l.length-(i+1),by omega⟩;have hjl:j<l.length:=by omega
   have e1:l.length-i=j+1:=by omega
   have e2:l.length-(i+1)=j:=by omega
   have e3:(l.length:Int)-1-(i:Int)=(j:Int):=by omega
   have hw2:IntKind.i64.wrap ((j:Int)-1)=(l.length:Int)-1-((i+1:Nat):Int):=by rw[wrap_i64 (by omega) (by omega)];omega
   rw[e1,List.take_add_one,List.getElem?_eq_getElem hjl,Option.toList_some,zl9]at h;rw[e3];by_cases hn:l[j].name=n
   . rw[if_pos hn]at h;have hP:ziD l n=(l[j].scheme,true):=by unfold ziD;rw[<- h];rfl
     rw[hP];simp [zkQ,hE,hjl,hn];refine LessQ.mk (Less.auto (TL:=[(4,.ptr 0 0 0),(5,.bool true)]) (HL:=[(0,box (zao l[j].scheme))]) (n:=1) (by simp) (by simp) (by simp) rfl) ?_;simp [hE]
   . rw[if_neg hn]at h;have hnew:=hK () (by rw[e2];exact h);simp [zkQ,hE,hjl,hn,hw2,-Int.natCast_add];exact hnew _ _ (Less.auto (by simp[-Int.natCast_add]) (by simp) (by simp) rfl)
theorem zg3 (hC:E.con 80=fnS (zal fun (l:List Entry) (n:List Nat)=>if l.length<=1000 then some (ziD l n)else none)) {l:List Entry} (hl:l.length<=1000) (hs:HS):CallOk ρ Tryz.prog 33 [enc l] hs (enc (zcw l)) hs:=by
 refine fn hρ hE hcon Tryz.func33 zCL rfl (by simp) ?_ hs;simp [hE]
 refine lpi hρ hE hcon l.length (nn:=1) (fun i (A:List Entry)=>[(0,.sl (l.map zb) false),(3,oV 0 (A.map zb)),(4,.int .i64 (i:Int))]) (fun i A=>oH 0 7 (A.map zb))
  (fun i A=>A++zcw (l.drop i)=zcw l/\A.length<=i) [] (Less.auto (by simp) (by simp) rfl rfl) ⟨by simp,Nat.le_refl _⟩ ?_ ?_
 . intro A hA K;have hA2:=hA.1;rw[List.drop_length,zcw,List.append_nil]at hA2;rw[<- hA2];rcases A with _|⟨x,A⟩<;>simp [ziV,hE]
   . refine LessQ.mk (Less.auto (TL:=[(3,.snil)]) (HL:=[]) (n:=1) (by simp) (by simp) rfl rfl) ?_;simp [hE]
   . refine LessQ.mk (Less.auto (TL:=[(3,oV 0 ((x::A).map zb))]) (HL:=oH 0 7 ((x::A).map zb)) (n:=1) (by simp) (by simp) rfl rfl) ?_;simp [hE]
 . intro i A hi hA K hK;have hi':(i:Int)<l.length:=by omega
   have hw2:IntKind.i64.wrap ((i:Int)+1)=((i+1:Nat):Int):=zA (by omega);have hi1:i+1<=l.length:=hi;have hi1':((i+1:Nat):Int)<=l.length:=by omega
   obtain⟨hA1,hAl⟩:=hA;rw[List.drop_eq_getElem_cons hi]at hA1;have hdl:(l.drop (i+1)).length<=1000:=by simp;omega
   have htk:((l.drop (i+1)).map zb).take (l.length-(i+1))=(l.drop (i+1)).map zb:=List.take_of_length_le (by simp);have hlk:=zmT l[i].name (l.drop (i+1));rw[zgI,<- hlk]at hA1;generalize hP:ziD (l.drop (i+1)) l[i].name=P;have hP2:P.2=(zg9 (l.drop (i+1)) l[i].name).isSome:=by rw[<- hP];rfl
   rw[<- hP2]at hA1;obtain⟨sc,b⟩:=P;have hdl':l.length-(i+1)<=1000:=by omega
   cases b with
   | true =>
     rw[if_pos rfl]at hA1;have hnew:=hK A ⟨hA1,by omega⟩;rcases A with _|⟨x,A⟩<;>simp [ziV,hE,hi,hi',hw2,hi1,hi1',hC,hdl',hP,htk,<- List.map_drop,zdc,zdb,bounds,zoY,zz,zc7,-Int.natCast_add]<;>exact hnew _ _ (Less.auto (by simp[-Int.natCast_add]) (by simp) rfl rfl)
   | false =>
     rw[if_neg (by simp)]at hA1;have hnew:=hK (A++[l[i]]) ⟨by simpa using hA1,by simp;omega⟩;rcases A with _|⟨x,A⟩
     . simp [ziV,hE,hi,hi',hw2,hi1,hi1',hC,hdl',hP,htk,<- List.map_drop,zdc,zdb,bounds,zoY,zz,zc7,-Int.natCast_add];exact hnew _ _ (Less.auto (by simp[-Int.natCast_add]) (by simp) rfl rfl)
     . have k1:(A.length+1+1)*88<=1048576:=Nat.le_trans (Nat.mul_le_mul_right 88 (show A.length+1+1<=1001 by simp at hAl;omega)) (by decide);simp [ziV,hE,hi,hi',hw2,hi1,hi1',hC,hdl',hP,htk,<- List.map_drop,zdc,zdb,bounds,zoY,zz,zc7,k1,Nat.not_succ_le_self,-Int.natCast_add];exact hnew _ _ (Less.auto (by simp[-Int.natCast_add]) (by simp) rfl rfl)
end
end
end Go.Proofs.YtpcmebclpindjaaGreat
