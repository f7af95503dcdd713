import Derived.Test.YtpcmebclpindjaaGreatJHa
import Derived.Test.YtpcmebclpindjaaGreatJL
import Derived.Test.YtpcmebclpindjaaGreatJW
import Derived.Test.YtpcmebclpindjaaGreatJY
set_option linter.all false
noncomputable section
/- Closed types and contexts,valid schemes. -/
namespace Go.J
open Enc (enc)
def zcH:List Int->List Int->List Int
 |out,[]=>out
 |out,i::l=>zcH (if i∈out then out else out++[i]) l
theorem zpZ(o a:List Int)(i:Int):zcH o (a++[i])=if i∈zcH o a then zcH o a else zcH o a++[i]:=by
 induction a generalizing o with
 |nil=>rfl
 |cons x a ih=>exact ih _
theorem mem_uniI {o a:List Int} {i:Int}:i∈zcH o a↔i∈o\/i∈a:=by
 induction a generalizing o with
 |nil=>simp[zcH]
 | cons x a ih =>
   rw[zcH,ih];split
   . rename_i h;constructor
     . rintro (h1|h1)
       . exact .inl h1
       . exact .inr (List.mem_cons_of_mem _ h1)
     . rintro (h1|h1)
       . exact .inl h1
       . rcases List.mem_cons.1 h1 with rfl|h1
         . exact .inl h
         . exact .inr h1
   . simp[or_assoc]
theorem zf6(o a b:List Int):zcH o (zcH a b)=zcH (zcH o a) b:=by
 induction b generalizing a with
 |nil=>rfl
 | cons i b ih =>
   rw[zcH,zcH,ih]
   congr 1
   by_cases h:i∈a
   . rw[if_pos h,if_pos (mem_uniI.2 (.inr h))]
   . rw[if_neg h,zpZ]
theorem zo6{o a:List Int}(h:o.Nodup):(zcH o a).Nodup:=by
 induction a generalizing o with
 |nil=>exact h
 | cons i a ih =>
   rw[zcH];split
   . exact ih h
   . rename_i hi;exact ih (List.nodup_append.2 ⟨h,by simp,fun x hx y hy=>by rw[List.mem_singleton]at hy;subst hy;exact fun e=>hi (e ▸ hx)⟩)
theorem zwi{a:List Int}(h:a.Nodup):zcH [] a=a:=by
 have key:∀ (a o:List Int),(o++a).Nodup->zcH o a=o++a:=by
  intro a
  induction a with
  |nil=>intro o _;simp[zcH]
  | cons i a ih =>
    intro o hn;have hi:i ∉ o:=fun hi=>(List.nodup_append.1 hn).2.2 i hi i List.mem_cons_self rfl
    rw[zcH,if_neg hi,ih _ (by simpa using hn)];simp
 simpa using key a [] (by simpa using h)
theorem zmZ(o a:List Int):(zcH o a).length<=o.length+a.length:=by
 induction a generalizing o with
 |nil=>simp[zcH]
 | cons i a ih =>
   rw[zcH];by_cases h:i∈o
   . rw[if_pos h];have:=ih o;simp;omega
   . rw[if_neg h];have:=ih (o++[i]);simp at this ⊢;omega
mutual
def Ty.bnds:Ty->Option (List Int)
 |.mk k _ i _ l=>if k=2 then some [i]else if k=5 then none else Ty.bndsL l []
def Ty.bndsL:List Ty->List Int->Option (List Int)
 | [],out=>some out
 | t::l,out=>match t.bnds with
   |none=>none
   |some b=>Ty.bndsL l (zcH out b)
end
mutual
def Ty.rbnd:Ty->List Int->List Int
 |.mk k _ i _ l,out=>Ty.rbnds l (if k=2/\i ∉ out then out++[i]else out)
def Ty.rbnds:List Ty->List Int->List Int
 | [],out=>out
 |t::l,out=>Ty.rbnds l (t.rbnd out)
end
mutual
def Ty.hasK(q:Int):Ty->Bool
 |.mk k _ _ _ l=>decide (k=q)||Ty.hasKs q l
def Ty.hasKs(q:Int):List Ty->Bool
 | []=>false
 |t::l=>t.hasK q||Ty.hasKs q l
end
mutual
def Ty.closed(b:Bool):Ty->Bool
 |.mk k _ _ _ l=>(decide (k=4)||decide (k=3)||b&&decide (k=2))&&Ty.closeds b l
def Ty.closeds(b:Bool):List Ty->Bool
 | []=>true
 |t::l=>t.closed b&&Ty.closeds b l
end
theorem Ty.bnds_eq(t:Ty):t.bnds=if t.kind=2 then some [t.id]else if t.kind=5 then none else Ty.bndsL t.args []:=by cases t;rw[Ty.bnds];rfl
theorem Ty.rbnd_eq(t:Ty)(out:List Int):t.rbnd out=Ty.rbnds t.args (if t.kind=2/\t.id ∉ out then out++[t.id]else out):=by cases t;rw[Ty.rbnd];rfl
theorem Ty.hasK_eq(q:Int)(t:Ty):t.hasK q=(decide (t.kind=q)||Ty.hasKs q t.args):=by cases t;rw[Ty.hasK];rfl
theorem Ty.closeds_all(b:Bool)(l:List Ty):Ty.closeds b l=l.all fun t=>t.closed b:=by
 induction l with
 |nil=>rfl
 |cons a l ih=>rw[Ty.closeds,ih];rfl
theorem Ty.hasKs_any(q:Int)(l:List Ty):Ty.hasKs q l=l.any fun t=>t.hasK q:=by
 induction l with
 |nil=>rfl
 |cons a l ih=>rw[Ty.hasKs,ih];rfl
theorem Ty.valid_cases {k i h:Int} {n:List Nat} {l:List Ty} (hv:(Ty.mk k n i h l).valid=true):(k=1\/k=2\/k=3\/k=4\/k=5)/\(k≠4->l=[])/\Ty.valids l=true:=by
 unfold Ty.valid at hv;by_cases h12:k=1\/k=2
 . rw[if_pos h12]at hv;simp at hv;obtain⟨_,rfl⟩:=hv;exact⟨by omega,fun _=>rfl,rfl⟩
 . rw [if_neg h12]at hv;by_cases h3:k=3
   . rw[if_pos h3]at hv;simp at hv;obtain⟨_,rfl⟩:=hv;exact⟨by omega,fun _=>rfl,rfl⟩
   . rw [if_neg h3]at hv;by_cases h5:k=5
     . rw[if_pos h5]at hv;simp at hv;obtain⟨⟨_,rfl⟩,_⟩:=hv;exact⟨by omega,fun _=>rfl,rfl⟩
     . rw[if_neg h5]at hv;by_cases h4:k=4
       . rw[if_pos h4]at hv;simp at hv;exact⟨by omega,fun h=>absurd h4 h,hv.1.2⟩
       . rw[if_neg h4]at hv;cases hv
mutual
theorem Ty.bnds_same:∀ t:Ty,t.valid=true->(t.hasK 5=true->t.bnds=none)/\(t.hasK 5=false->∃ b,t.bnds=some b/\∀ out,t.rbnd out=zcH out b)
 | .mk k n i h l=>fun hv=>by
   obtain⟨hk,h4,hl⟩:=Ty.valid_cases hv;obtain⟨i1,i2⟩:=Ty.bndsL_same l hl;by_cases k4:k=4
   . subst k4;refine⟨fun hh=>?_,fun hh=>?_⟩
     . rw[Ty.bnds,if_neg (by decide),if_neg (by decide)];refine i1 ?_ [];rw[Ty.hasK_eq]at hh;simpa using hh
     . have hh2:Ty.hasKs 5 l=false:=by rw[Ty.hasK_eq]at hh;simpa using hh
       obtain⟨b,h1,h2⟩:=i2 hh2;refine⟨zcH [] b,?_,fun out=>?_⟩
       . rw[Ty.bnds,if_neg (by decide),if_neg (by decide),h1]
       . rw[Ty.rbnd,if_neg (by simp),h2,zf6];rfl
   . obtain rfl:=h4 k4;by_cases k5:k=5
     . subst k5;exact⟨fun _=>by rw[Ty.bnds];rfl,fun hh=>by rw[Ty.hasK]at hh;simp at hh⟩
     . refine⟨fun hh=>by rw[Ty.hasK,Ty.hasKs]at hh;simp[k5]at hh,fun _=>?_⟩;by_cases k2:k=2
       . subst k2;refine⟨[i],by rw[Ty.bnds];rfl,fun out=>?_⟩;rw[Ty.rbnd,Ty.rbnds,zcH,zcH];by_cases hi:i∈out<;>simp[hi]
       . refine⟨[],by rw[Ty.bnds,if_neg k2,if_neg k5,Ty.bndsL],fun out=>?_⟩;rw[Ty.rbnd,Ty.rbnds,zcH,if_neg (fun h=>k2 h.1)]
theorem Ty.bndsL_same:∀ l:List Ty,Ty.valids l=true->(Ty.hasKs 5 l=true->∀ out,Ty.bndsL l out=none)/\(Ty.hasKs 5 l=false->∃ b,(∀ out,Ty.bndsL l out=some (zcH out b))/\∀ out,Ty.rbnds l out=zcH out b)
 | []=>fun _=>⟨fun h=>(by rw[Ty.hasKs]at h;cases h),fun _=>⟨[],fun out=>rfl,fun out=>rfl⟩⟩
 | t :: l=>fun hv=>by
   rw[Ty.valids,Bool.and_eq_true]at hv;obtain⟨t1,t2⟩:=Ty.bnds_same t hv.1;obtain⟨l1,l2⟩:=Ty.bndsL_same l hv.2;refine⟨fun hh out=>?_,fun hh=>?_⟩
   . rw[Ty.bndsL]
     cases h5:t.hasK 5 with
     |true=>rw[t1 h5]
     | false =>
       obtain⟨b,hb,_⟩:=t2 h5;rw[hb];exact l1 (by rw[Ty.hasKs,h5]at hh;simpa using hh) _
   . rw[Ty.hasKs,Bool.or_eq_false_iff]at hh;obtain⟨b,hb,hb2⟩:=t2 hh.1;obtain⟨c,hc,hc2⟩:=l2 hh.2;refine⟨zcH b c,fun out=>?_,fun out=>?_⟩
     . rw[Ty.bndsL,hb];show Ty.bndsL l (zcH out b)=_;rw[hc,zf6]
     . rw[Ty.rbnds,hb2,hc2,zf6]
end
mutual
theorem Ty.closed_has(b:Bool):∀ t:Ty,t.valid=true->t.closed b=(!t.hasK 1&&!t.hasK 5&&(b||!t.hasK 2))
 | .mk k n i h l=>fun hv=>by
   obtain⟨hk,_,hl⟩:=Ty.valid_cases hv;rw[Ty.closed,Ty.hasK,Ty.hasK,Ty.hasK,Ty.closeds_has b l hl];rcases hk with rfl|rfl|rfl|rfl|rfl<;>cases b<;>simp
theorem Ty.closeds_has(b:Bool):∀ l:List Ty,Ty.valids l=true->Ty.closeds b l=(!Ty.hasKs 1 l&&!Ty.hasKs 5 l&&(b||!Ty.hasKs 2 l))
 | []=>fun _=>by cases b<;>rfl
 | t::l=>fun hv=>by
   rw[Ty.valids,Bool.and_eq_true]at hv;rw[Ty.closeds,Ty.hasKs,Ty.hasKs,Ty.hasKs,Ty.closed_has b t hv.1,Ty.closeds_has b l hv.2];cases t.hasK 1<;>cases t.hasK 5<;>cases t.hasK 2<;>cases Ty.hasKs 1 l<;>cases Ty.hasKs 5 l<;>cases Ty.hasKs 2 l<;>cases b<;>rfl
end
def zeO:List Int->Int->Bool
 | [],_=>true
 |x::l,i=>decide (x=i)&&zeO l (i+1)
def zaa(c:Scheme):Bool:=c.type.valid&&!c.type.hasK 5&&zeO (c.type.rbnd []) 0&&decide (((c.type.rbnd []).length:Int)=c.count)
def zlX(c:Scheme):Bool:=match c.type.bnds with
 |none=>false
 |some b=>c.type.valid&&decide ((b.length:Int)=c.count)&&zeO b 0
theorem zi0:∀ (l:List Ty) (o r:List Int),o.Nodup->Ty.bndsL l o=some r->r.Nodup:=by
 intro l
 induction l with
 |nil=>intro o r h hr;rw[Ty.bndsL]at hr;cases hr;exact h
 | cons t l ih =>
   intro o r h hr;rw[Ty.bndsL]at hr;split at hr
   . cases hr
   . exact ih _ _ (zo6 h) hr
theorem Ty.bnds_nodup{t:Ty}{b:List Int}(h:t.bnds=some b):b.Nodup:=by
 rw[Ty.bnds_eq]at h;split at h
 . cases h;simp
 . split at h
   . cases h
   . exact zi0 _ _ _ List.nodup_nil h
theorem zlW(c:Scheme):zlX c=zaa c:=by
 unfold zlX zaa
 cases hv:c.type.valid with
 |false=>cases c.type.bnds<;>simp
 | true =>
   obtain⟨h1,h2⟩:=Ty.bnds_same c.type hv
   cases h5:c.type.hasK 5 with
   |true=>rw[h1 h5];simp
   | false =>
     obtain⟨b,hb,hr⟩:=h2 h5;have e:=hr [];rw[zwi (Ty.bnds_nodup hb)]at e;rw[hb,e];simp[Bool.and_comm]
def zcD(l:List Entry)(g:Ty):Bool:=g.valid&&g.closed false&&decide (g.size<=200)&&l.all fun e=>zaa e.scheme&&e.scheme.type.closed true&&decide (e.scheme.type.size<=200)
end Go.J
/- The contexts and goals that a tape makes are closed. -/
namespace Go.J
open Enc (enc)
section
variable {s:List Assign}{pos:Int->Int}{S:Int->Prop}
theorem zqz{l:List Ty}(h:∀ t∈l,∀ out:List Int,(∀ j∈out,S j)->(t.repl s).rbnd (out.map pos)=(zhL t out).map pos/\∀ j∈zhL t out,S j) :
 ∀ out:List Int,(∀ j∈out,S j)->Ty.rbnds (l.map (Ty.repl s)) (out.map pos)=(zcw l out).map pos/\∀ j∈zcw l out,S j:=by
 induction l with
 |nil=>intro out ho;exact⟨rfl,ho⟩
 | cons t l ih =>
   intro out ho;obtain⟨h1,h2⟩:=h t List.mem_cons_self out ho;obtain⟨h3,h4⟩:=ih (fun u hu=>h u (List.mem_cons_of_mem _ hu)) _ h2;rw[List.map_cons,Ty.rbnds,h1,h3,zcw];exact⟨rfl,h4⟩
theorem zvr (hinj:∀ i j,S i->S j->pos i=pos j->i=j) (hs:∀ j,S j->zP s j=some (zaU (pos j))) (hb:∀ j,S j->0<=pos j/\pos j<=1000000) (t:Ty) :
 t.valid=true->t.hasK 2=false->t.hasK 5=false->(∀ j,t.occ j=true->S j) ->
  (∀ out:List Int,(∀ j∈out,S j)->(t.repl s).rbnd (out.map pos)=(zhL t out).map pos/\∀ j∈zhL t out,S j)/\(t.repl s).valid=true/\(t.repl s).closed true=true/\(t.repl s).size=t.size:=by
 induction t using Ty.ind with
 | h t ih =>
   intro hv h2 h5 ho;obtain⟨k,n,i,h,l⟩:=t;obtain⟨hk,h4,hl⟩:=Ty.valid_cases hv;rw[Ty.hasK]at h2 h5;rw[Bool.or_eq_false_iff,decide_eq_false_iff_not]at h2 h5;by_cases k1:k=1
   . subst k1;obtain rfl:=h4 (by decide);have hSi:S i:=ho i (by rw[Ty.occ];simp);have e:(Ty.mk 1 n i h []).repl s=zaU (pos i):=by rw[zeI];show (zP s i).getD _=_;rw[hs i hSi];rfl
     obtain⟨b1,b2⟩:=hb i hSi;rw[e];refine⟨fun out hout=>⟨?_,fun j hj=>?_⟩,by simp[zaU,Ty.valid,b1,b2],by simp[zaU,Ty.closed,Ty.closeds],rfl⟩
     . rw[zhL,zcw];unfold zaU zbr;rw[Ty.rbnd,Ty.rbnds];simp only[Ty.kind_mk,Ty.id_mk,true_and];by_cases hi:i∈out
       . rw[if_neg (fun h=>h (List.mem_map.2 ⟨i,hi,rfl⟩)),if_neg (fun h=>h hi)]
       . rw[if_pos (fun h=>by obtain⟨j,hj,hjp⟩:=List.mem_map.1 h;exact hi (hinj j i (hout j hj) hSi hjp ▸ hj)),if_pos hi,List.map_append];rfl
     . rw[zhL,zcw]at hj;unfold zbr at hj;split at hj
       . rcases List.mem_append.1 hj with hj|hj
         . exact hout j hj
         . rw[List.mem_singleton]at hj;subst hj;exact hSi
       . exact hout j hj
   . have hkids:∀ u∈l,(∀ out:List Int,(∀ j∈out,S j)->(u.repl s).rbnd (out.map pos)=(zhL u out).map pos/\∀ j∈zhL u out,S j)/\(u.repl s).valid=true/\(u.repl s).closed true=true/\(u.repl s).size=u.size:=fun u hu=>by
      refine ih u hu (Ty.valids_iff.1 hl u hu) ?_ ?_ fun j hj=>ho j ?_
      . have:=h2.2;rw[Ty.hasKs_any,List.any_eq_false]at this;simpa using this u hu
      . have:=h5.2;rw[Ty.hasKs_any,List.any_eq_false]at this;simpa using this u hu
      . rw[Ty.occ,if_neg k1,zmm,List.any_eq_true];exact⟨u,hu,hj⟩
     have e:(Ty.mk k n i h l).repl s=.mk k n i h (l.map (Ty.repl s)):=by rw[zeI];exact if_neg k1
     rw[e];refine⟨fun out hout=>?_,?_,?_,?_⟩
     . rw[Ty.rbnd,if_neg (fun h=>h2.1 h.1),zhL];have:zbr out (.mk k n i h l)=out:=by unfold zbr;rw[if_neg (fun h=>k1 h.1)]
       rw[this];exact zqz (fun u hu=>(hkids u hu).1) out hout
     . have hvs:Ty.valids (l.map (Ty.repl s))=true:=Ty.valids_iff.2 fun u hu=>by
        obtain⟨w,hw,rfl⟩:=List.mem_map.1 hu;exact(hkids w hw).2.1
       unfold Ty.valid at hv ⊢;rw[List.length_map,hvs];rw[hl]at hv;exact hv
     . rw[Ty.closed,Ty.closeds_all,Bool.and_eq_true];refine⟨by rcases hk with h|h|h|h|h<;>first|exact absurd h k1|exact absurd h h2.1|exact absurd h h5.1|simp[h],List.all_eq_true.2 fun u hu=>?_⟩;obtain⟨w,hw,rfl⟩:=List.mem_map.1 hu;exact(hkids w hw).2.2.1
     . rw[Ty.size_eq,Ty.size_eq (.mk k n i h l)];simp only[Ty.args_mk]
       congr 1
       have:∀ l:List Ty,(∀ u∈l,(u.repl s).size=u.size)->Ty.sizes (l.map (Ty.repl s))=Ty.sizes l:=by
        intro l
        induction l with
        |nil=>intro _;rfl
        |cons a l ihl=>intro hh;rw[List.map_cons,Ty.sizes,Ty.sizes,hh a List.mem_cons_self,ihl fun u hu=>hh u (List.mem_cons_of_mem _ hu)]
       exact this l fun u hu=>(hkids u hu).2.2.2
end
theorem zqd{vs:List Int}(hn:vs.Nodup)(hm:∀ j∈vs,j=0\/j=1):vs=[]\/vs=[0]\/vs=[1]\/vs=[0,1]\/vs=[1,0]:=by
 match vs,hn,hm with
 | [],_,_=>exact .inl rfl
 | [a],_,hm =>
   rcases hm a (by simp)with rfl|rfl
   . exact .inr (.inl rfl)
   . exact .inr (.inr (.inl rfl))
 | [a,b],hn,hm =>
   have hab:a≠b:=by simpa using hn
   rcases hm a (by simp)with rfl|rfl<;>rcases hm b (by simp)with rfl|rfl
   . exact absurd rfl hab
   . exact .inr (.inr (.inr (.inl rfl)))
   . exact .inr (.inr (.inr (.inr rfl)))
   . exact absurd rfl hab
 | a::b::c::l,hn,hm =>
   exfalso;have h1:=hm a (by simp);have h2:=hm b (by simp);have h3:=hm c (by simp);simp at hn;omega
theorem zvg{x:Ty}(hv:x.valid=true)(hp:x.vplain=true)(h2:x.hasK 2=false)(h5:x.hasK 5=false)(ho:∀ j,x.occ j=true->j=0\/j=1) :
 zaa (zdl x [0,1])=true/\(zdl x [0,1]).type.closed true=true/\(zdl x [0,1]).type.size=x.size:=by
 have hcol:zcb [x]=zhL x []:=by rw[<- zl0 hv,zcw,zcw]
 have hmem:∀ j,j∈zcb [x]↔x.occ j=true:=fun j=>by rw[hcol,zxa x hp];simp
 have hnd:(zcb [x]).Nodup:=by rw[<- zl0 hv];exact zeS [x] List.nodup_nil
 have key:∀ (s:List Assign) (pos:Int->Int),(∀ i j,i∈zcb [x]->j∈zcb [x]->pos i=pos j->i=j)->(∀ j,j∈zcb [x]->zP s j=some (zaU (pos j)))->(∀ j,j∈zcb [x]->0<=pos j/\pos j<=1000000)->zcp (zcb [x]) [0,1] []=s->zeO ((zcb [x]).map pos) 0=true->s.length=(zcb [x]).length ->
  zaa (zdl x [0,1])=true/\(zdl x [0,1]).type.closed true=true/\(zdl x [0,1]).type.size=x.size:=by
  intro s pos k1 k2 k3 k4 k5 k6;obtain⟨r1,r2,r3,r4⟩:=zvr (S:=fun j=>j∈zcb [x]) k1 k2 k3 x hv h2 h5 (fun j hj=>(hmem j).2 hj);have r5:=(r1 [] (fun j hj=>by cases hj)).1;have hc:(zdl x [0,1])=⟨s.length,x.repl s⟩:=by unfold zdl;rw[k4]
  have h5':(x.repl s).hasK 5=false:=by
   have:=Ty.closed_has true (x.repl s) r2;rw[r3]at this
   cases hh:(x.repl s).hasK 5 with
   |false=>rfl
   |true=>rw[hh]at this;simp at this
  rw[hc];refine⟨?_,r3,r4⟩;unfold zaa;rw[List.map_nil]at r5;simp only[r2,h5',r5,<- hcol,k5,List.length_map,k6];simp
 generalize hvs:zcb [x]=vs at hnd hmem key;rcases zqd hnd (fun j hj=>ho j ((hmem j).1 hj))with rfl|rfl|rfl|rfl|rfl
 . exact key [] (fun j=>j) (by simp) (by simp) (by simp) rfl rfl rfl
 . exact key [⟨0,zaU 0⟩] (fun j=>j) (by simp) (by simp[zP]) (by simp) rfl rfl rfl
 . exact key [⟨1,zaU 0⟩] (fun j=>j-1) (by simp) (by simp[zP]) (by simp) rfl rfl rfl
 . exact key [⟨0,zaU 0⟩,⟨1,zaU 1⟩] (fun j=>j) (by simp) (by simp[zP]) (by simp) rfl rfl rfl
 . exact key [⟨1,zaU 0⟩,⟨0,zaU 1⟩] (fun j=>1-j) (by simp) (by simp[zP]) (by simp) rfl rfl rfl
theorem zbe{D:List Decl}{Lv:List Ty}{q:Int}(hq:q≠4)(hl:∀ l∈Lv,l.hasK q=false)(d:Nat)(t:Tp):(typeM d t D Lv).2.hasK q=false:=by
 have hcon:∀ (n:List Nat) (l:List Ty),(∀ x∈l,x.hasK q=false)->(zeU n l).hasK q=false:=fun n l hl=>by
  rw[zeU,Ty.hasK,Ty.hasKs_any,Bool.or_eq_false_iff,List.any_eq_false];exact⟨by simp;omega,fun x hx=>by rw[hl x hx];simp⟩
 exact zdI (P:=fun t=>t.hasK q=false) hl (hcon _ _ (fun x hx=>by cases hx)) (fun dd _ l _ hx=>hcon _ _ hx) (fun a b ha hb=>hcon _ _ (fun x hx=>by
  simp at hx;rcases hx with rfl|rfl
  . exact ha
  . exact hb)) d t
theorem zqc{D:List Decl}{Lv:List Ty}{S:Int->Prop}(hl:∀ l∈Lv,∀ j,l.occ j=true->S j)(d:Nat)(t:Tp):∀ j,(typeM d t D Lv).2.occ j=true->S j:=by
 have hcon:∀ (n:List Nat) (l:List Ty),(∀ x∈l,∀ j,x.occ j=true->S j)->∀ j,(zeU n l).occ j=true->S j:=fun n l hl j hj=>by
  rw[zeU,Ty.occ,if_neg (by decide),zmm,List.any_eq_true]at hj;obtain⟨x,hx,hj⟩:=hj;exact hl x hx j hj
 exact zdI (P:=fun t=>∀ j,t.occ j=true->S j) hl (hcon _ _ (fun x hx=>by cases hx)) (fun dd _ l _ hx=>hcon _ _ hx) (fun a b ha hb=>hcon _ _ (fun x hx=>by
  simp at hx;rcases hx with rfl|rfl
  . exact ha
  . exact hb)) d t
theorem zke{D:List Decl}(hD:z92 D)(d:Nat)(t:Tp):(typeM d t D za7).2.closed false=true:=by
 have hv:∀ l∈za7,l.valid=true:=by decide
 have hk:∀ q:Int,q=1\/q=2\/q=5->∀ l∈za7,l.hasK q=false:=by
  rintro q (rfl|rfl|rfl)<;>decide
 rw[Ty.closed_has false _ (zc4 hD hv d t),zbe (by decide) (hk 1 (.inl rfl)),zbe (by decide) (hk 5 (.inr (.inr rfl))),zbe (by decide) (hk 2 (.inr (.inl rfl)))];rfl
theorem zq1:∀ (t:Ty),t.hasK 2=false->∀ out,t.rbnd out=out:=by
 intro t
 induction t using Ty.ind with
 | h t ih =>
   intro h out;rw[Ty.hasK_eq,Bool.or_eq_false_iff,decide_eq_false_iff_not]at h;rw[Ty.rbnd_eq,if_neg (fun hh=>h.1 hh.1)]
   have key:∀ l:List Ty,(∀ u∈l,∀ out,u.rbnd out=out)->Ty.rbnds l out=out:=by
    intro l
    induction l with
    |nil=>intro _;rfl
    |cons a l ihl=>intro hh;rw[Ty.rbnds,hh a List.mem_cons_self,ihl fun u hu=>hh u (List.mem_cons_of_mem _ hu)]
   refine key _ fun u hu=>ih u hu ?_
   have:=h.2;rw[Ty.hasKs_any,List.any_eq_false]at this;simpa using this u hu
theorem z4S{x:Ty}(hv:x.valid=true)(h2:x.hasK 2=false)(h5:x.hasK 5=false):zaa (mono x)=true:=by
 unfold zaa mono;simp[hv,h5,zq1 x h2,zeO]
def zjE(e:Entry):Bool:=zaa e.scheme&&e.scheme.type.closed true&&decide (e.scheme.type.size<=200)
theorem zm8 {D:List Decl} (hD:z92 D) (hD3:z7g D) (t:Tp) (n:Nat):∀ e∈(zlI D t n).2,zjE e=true:=by
 have hcv:∀ l∈za7,l.valid=true:=by decide
 have hk:∀ q:Int,q=1\/q=2\/q=5->∀ l∈za7,l.hasK q=false:=by
  rintro q (rfl|rfl|rfl)<;>decide
 have hs1:∀ l∈za7,l.size<=1:=by decide
 have hv2:zcc 2=[za0 0,za0 1]:=rfl
 induction n with
 |zero=>intro e he;cases he
 | succ n ih =>
   intro e he;rw[zlI]at he;unfold zhI at he;dsimp only at he;split at he
   . rcases List.mem_append.1 he with he|he
     . exact ih e he
     . rw[List.mem_singleton]at he;subst he;generalize (((zlI D t n).1.next 8).1.next 4).1=u;have hw:∀ l∈zcc 2,l.valid=true:=by rw[hv2];decide
       have hp:∀ l∈zcc 2,l.vplain=true:=by rw[hv2];decide
       have h2:∀ l∈zcc 2,l.hasK 2=false:=by rw[hv2];decide
       have h5:∀ l∈zcc 2,l.hasK 5=false:=by rw[hv2];decide
       have hsz:∀ l∈zcc 2,l.size<=1:=by rw[hv2];decide
       obtain⟨c1,c2,c3⟩:=zvg (zc4 hD hw 2 u) (zkd hp 2 u) (zbe (by decide) h2 2 u) (zbe (by decide) h5 2 u) (zqc (S:=fun j=>j=0\/j=1) (by
        rw[hv2];intro l hl j hj;simp at hl
        rcases hl with rfl|rfl<;>simp[za0,Ty.occ]at hj<;>omega) 2 u)
       have:=zcU hD3 hsz 2 u;unfold zjE;rw[c1,c2,c3];simp;omega
   . rcases List.mem_append.1 he with he|he
     . exact ih e he
     . rw[List.mem_singleton]at he;subst he;generalize (((zlI D t n).1.next 8).1.next 4).1=u;have hxv:=zc4 hD hcv 2 u;have:=zcU hD3 hs1 2 u
       have hcl:(typeM 2 u D za7).2.closed true=true:=by
        rw[Ty.closed_has true _ hxv,zbe (by decide) (hk 1 (.inl rfl)),zbe (by decide) (hk 5 (.inr (.inr rfl)))];rfl
       unfold zjE;rw[z4S hxv (zbe (by decide) (hk 2 (.inr (.inl rfl))) 2 u) (zbe (by decide) (hk 5 (.inr (.inr rfl))) 2 u)];unfold mono;rw[hcl];simp;omega
theorem ziu{D:List Decl}(hD:z92 D)(hD3:z7g D)(t:Tp)(n:Nat):zcD (zlI D t n).2 (typeM 2 (zlI D t n).1 D za7).2=true:=by
 have hcv:∀ l∈za7,l.valid=true:=by decide
 have hs1:∀ l∈za7,l.size<=1:=by decide
 have h1:=zm8 hD hD3 t n;have h2:=zcU hD3 hs1 2 (zlI D t n).1;unfold zcD;rw[zc4 hD hcv 2 (zlI D t n).1,zke hD 2 (zlI D t n).1,List.all_eq_true.2 (fun e he=>by have:=h1 e he;unfold zjE at this;exact this)];simp;omega
theorem zj4{D:List Decl}(hD:z92 D)(hD3:z7g D)(codes:List Int):zcD (zdg codes D).1 (zdg codes D).2.1=true :=
 ziu hD hD3 _ _
end Go.J
