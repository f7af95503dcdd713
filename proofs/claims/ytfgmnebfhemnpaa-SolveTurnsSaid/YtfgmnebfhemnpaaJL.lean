import Derived.Test.YtfgmnebfhemnpaaJK
import Derived.Test.YtfgmnebfhemnpaaJI
set_option linter.all false
noncomputable section
/- Schemes,contexts,declarations. -/
namespace Go.J
open Enc (enc)
structure Scheme where
 count:Int
 type:Ty
 deriving DecidableEq
def encScheme(a:Scheme):List V:=[.int .i64 a.count,.int .i64 a.type.kind,.str a.type.name,.int .i64 a.type.id,.int .i64 a.type.home,.sl (a.type.args.map encTy) false]
def decScheme(c:List V):Option Scheme :=
 match c with
 | [.int .i64 x0,.int .i64 x1,.str x2,.int .i64 x3,.int .i64 x4,.sl x5 false]=>ob (decL x5) fun y5=>some ⟨x0,(Ty.mk x1 x2 x3 x4 y5)⟩
 |_=>none
theorem decScheme_n{x0:Int}{x1:Int}{x2:List Nat}{x3:Int}{x4:Int}{x5:List (List V)}:decScheme [.int .i64 x0,.int .i64 x1,.str x2,.int .i64 x3,.int .i64 x4,.sl x5 false]=ob (decL x5) fun y5=>some ⟨x0,(Ty.mk x1 x2 x3 x4 y5)⟩:=(rfl)
instance:Cel Scheme where
 cells:=encScheme
 dec:=decScheme
 dec_enc a:=by simp only[encScheme,decScheme_n,decL_Ty,ob_some,Ty.eta]
 enc_dec c a h:=by
  unfold decScheme at h
  split at h
  · simp only[ob_eq]at h
    obtain⟨y5,hy5,h⟩:=h
    cases h
    have hy5:=decL_inv hy5
    subst_vars
    rfl
  · cases h
 pure2 a:=rfl
 norm a:=by simp only[encScheme,normL,normV,norm_Ty]
instance:Enc Scheme:=aggEnc
@[simp] theorem cells_Scheme:@Cel.cells Scheme _=encScheme:=(rfl)
@[simp] theorem celdec_Scheme:@Cel.dec Scheme _=decScheme:=(rfl)
@[simp] theorem enc_Scheme (a:Scheme):enc a=.agg (encScheme a):=(rfl)
@[simp] theorem dec_Scheme {c:List V}:Enc.dec (α:=Scheme) (.agg c)=decScheme c:=(rfl)
@[simp] theorem decL_Scheme (l:List Scheme):decL (l.map encScheme)=some l:=decL_map l
@[simp] theorem norm_Scheme (l:List Scheme):normLL (l.map encScheme)=l.map encScheme:=norm_cells l
@[simp] theorem pureL_Scheme (l:List Scheme):((l.map encScheme).all fun e=>e.all V.pure2)=true:=pure_cells l
@[simp] theorem enc_LScheme (l:List Scheme):enc l=.sl (l.map encScheme) false:=(rfl)
@[simp] theorem dec_LScheme {es:List (List V)}:Enc.dec (α:=List Scheme) (.sl es false)=decL es:=(rfl)
@[simp] theorem sz_Scheme (l:List Scheme):sizes 6 (l.map encScheme)=true:=by rw[sizes_eq];intro e he;obtain⟨a,_,rfl⟩:=List.mem_map.1 he;rfl
@[simp] theorem ac_Scheme (l:List Scheme):allCells (l.map encScheme)=true:=allCells_map pureL_Scheme
@[simp] theorem eta_Scheme (a:Scheme):Scheme.mk a.count a.type=a:=(rfl)
attribute [simp] decScheme_n encScheme
structure Entry where
 name:List Nat
 scheme:Scheme
 deriving DecidableEq
def encEntry(a:Entry):List V:=[.str a.name,.int .i64 a.scheme.count,.int .i64 a.scheme.type.kind,.str a.scheme.type.name,.int .i64 a.scheme.type.id,.int .i64 a.scheme.type.home,.sl (a.scheme.type.args.map encTy) false]
def decEntry(c:List V):Option Entry :=
 match c with
 | [.str x0,.int .i64 x1,.int .i64 x2,.str x3,.int .i64 x4,.int .i64 x5,.sl x6 false]=>ob (decL x6) fun y6=>some ⟨x0,⟨x1,(Ty.mk x2 x3 x4 x5 y6)⟩⟩
 |_=>none
theorem decEntry_n{x0:List Nat}{x1:Int}{x2:Int}{x3:List Nat}{x4:Int}{x5:Int}{x6:List (List V)}:decEntry [.str x0,.int .i64 x1,.int .i64 x2,.str x3,.int .i64 x4,.int .i64 x5,.sl x6 false]=ob (decL x6) fun y6=>some ⟨x0,⟨x1,(Ty.mk x2 x3 x4 x5 y6)⟩⟩:=(rfl)
instance:Cel Entry where
 cells:=encEntry
 dec:=decEntry
 dec_enc a:=by simp only[encEntry,decEntry_n,decL_Ty,ob_some,Ty.eta]
 enc_dec c a h:=by
  unfold decEntry at h
  split at h
  · simp only[ob_eq]at h
    obtain⟨y6,hy6,h⟩:=h
    cases h
    have hy6:=decL_inv hy6
    subst_vars
    rfl
  · cases h
 pure2 a:=rfl
 norm a:=by simp only[encEntry,normL,normV,norm_Ty]
instance:Enc Entry:=aggEnc
@[simp] theorem cells_Entry:@Cel.cells Entry _=encEntry:=(rfl)
@[simp] theorem celdec_Entry:@Cel.dec Entry _=decEntry:=(rfl)
@[simp] theorem enc_Entry (a:Entry):enc a=.agg (encEntry a):=(rfl)
@[simp] theorem dec_Entry {c:List V}:Enc.dec (α:=Entry) (.agg c)=decEntry c:=(rfl)
@[simp] theorem decL_Entry (l:List Entry):decL (l.map encEntry)=some l:=decL_map l
@[simp] theorem norm_Entry (l:List Entry):normLL (l.map encEntry)=l.map encEntry:=norm_cells l
@[simp] theorem pureL_Entry (l:List Entry):((l.map encEntry).all fun e=>e.all V.pure2)=true:=pure_cells l
@[simp] theorem enc_LEntry (l:List Entry):enc l=.sl (l.map encEntry) false:=(rfl)
@[simp] theorem dec_LEntry {es:List (List V)}:Enc.dec (α:=List Entry) (.sl es false)=decL es:=(rfl)
@[simp] theorem sz_Entry (l:List Entry):sizes 7 (l.map encEntry)=true:=by rw[sizes_eq];intro e he;obtain⟨a,_,rfl⟩:=List.mem_map.1 he;rfl
@[simp] theorem ac_Entry (l:List Entry):allCells (l.map encEntry)=true:=allCells_map pureL_Entry
@[simp] theorem eta_Entry (a:Entry):Entry.mk a.name a.scheme=a:=(rfl)
attribute [simp] decEntry_n encEntry
structure Ctor where
 pos:Int
 name:List Nat
 fields:List Ty
 deriving DecidableEq
def encCtor(a:Ctor):List V:=[.int .i64 a.pos,.str a.name,.sl (a.fields.map encTy) false]
def decCtor(c:List V):Option Ctor :=
 match c with
 | [.int .i64 x0,.str x1,.sl x2 false]=>ob (decL x2) fun y2=>some ⟨x0,x1,y2⟩
 |_=>none
theorem decCtor_n{x0:Int}{x1:List Nat}{x2:List (List V)}:decCtor [.int .i64 x0,.str x1,.sl x2 false]=ob (decL x2) fun y2=>some ⟨x0,x1,y2⟩:=(rfl)
instance:Cel Ctor where
 cells:=encCtor
 dec:=decCtor
 dec_enc a:=by simp only[encCtor,decCtor_n,decL_Ty,ob_some,Ty.eta]
 enc_dec c a h:=by
  unfold decCtor at h
  split at h
  · simp only[ob_eq]at h
    obtain⟨y2,hy2,h⟩:=h
    cases h
    have hy2:=decL_inv hy2
    subst_vars
    rfl
  · cases h
 pure2 a:=rfl
 norm a:=by simp only[encCtor,normL,normV,norm_Ty]
instance:Enc Ctor:=aggEnc
@[simp] theorem cells_Ctor:@Cel.cells Ctor _=encCtor:=(rfl)
@[simp] theorem celdec_Ctor:@Cel.dec Ctor _=decCtor:=(rfl)
@[simp] theorem enc_Ctor (a:Ctor):enc a=.agg (encCtor a):=(rfl)
@[simp] theorem dec_Ctor {c:List V}:Enc.dec (α:=Ctor) (.agg c)=decCtor c:=(rfl)
@[simp] theorem decL_Ctor (l:List Ctor):decL (l.map encCtor)=some l:=decL_map l
@[simp] theorem norm_Ctor (l:List Ctor):normLL (l.map encCtor)=l.map encCtor:=norm_cells l
@[simp] theorem pureL_Ctor (l:List Ctor):((l.map encCtor).all fun e=>e.all V.pure2)=true:=pure_cells l
@[simp] theorem enc_LCtor (l:List Ctor):enc l=.sl (l.map encCtor) false:=(rfl)
@[simp] theorem dec_LCtor {es:List (List V)}:Enc.dec (α:=List Ctor) (.sl es false)=decL es:=(rfl)
@[simp] theorem sz_Ctor (l:List Ctor):sizes 3 (l.map encCtor)=true:=by rw[sizes_eq];intro e he;obtain⟨a,_,rfl⟩:=List.mem_map.1 he;rfl
@[simp] theorem ac_Ctor (l:List Ctor):allCells (l.map encCtor)=true:=allCells_map pureL_Ctor
@[simp] theorem eta_Ctor (a:Ctor):Ctor.mk a.pos a.name a.fields=a:=(rfl)
attribute [simp] decCtor_n encCtor
structure Decl where
 pos:Int
 name:List Nat
 params:List (List Nat)
 ctors:List Ctor
 deriving DecidableEq
def encDecl(a:Decl):List V:=[.int .i64 a.pos,.str a.name,.sl (a.params.map (encS)) false,.sl (a.ctors.map encCtor) false]
def decDecl(c:List V):Option Decl :=
 match c with
 | [.int .i64 x0,.str x1,.sl x2 false,.sl x3 false]=>ob (decL x2) fun y2=>ob (decL x3) fun y3=>some ⟨x0,x1,y2,y3⟩
 |_=>none
theorem decDecl_n{x0:Int}{x1:List Nat}{x2:List (List V)}{x3:List (List V)}:decDecl [.int .i64 x0,.str x1,.sl x2 false,.sl x3 false]=ob (decL x2) fun y2=>ob (decL x3) fun y3=>some ⟨x0,x1,y2,y3⟩:=(rfl)
instance:Cel Decl where
 cells:=encDecl
 dec:=decDecl
 dec_enc a:=by simp only[encDecl,decDecl_n,decL_Ctor,decL_Str,ob_some,Ty.eta]
 enc_dec c a h:=by
  unfold decDecl at h
  split at h
  · simp only[ob_eq]at h
    obtain⟨y2,hy2,y3,hy3,h⟩:=h
    cases h
    have hy2:=decL_inv hy2
    have hy3:=decL_inv hy3
    subst_vars
    rfl
  · cases h
 pure2 a:=rfl
 norm a:=by simp only[encDecl,normL,normV,norm_Ctor,norm_Str]
instance:Enc Decl:=aggEnc
@[simp] theorem cells_Decl:@Cel.cells Decl _=encDecl:=(rfl)
@[simp] theorem celdec_Decl:@Cel.dec Decl _=decDecl:=(rfl)
@[simp] theorem enc_Decl (a:Decl):enc a=.agg (encDecl a):=(rfl)
@[simp] theorem dec_Decl {c:List V}:Enc.dec (α:=Decl) (.agg c)=decDecl c:=(rfl)
@[simp] theorem decL_Decl (l:List Decl):decL (l.map encDecl)=some l:=decL_map l
@[simp] theorem norm_Decl (l:List Decl):normLL (l.map encDecl)=l.map encDecl:=norm_cells l
@[simp] theorem pureL_Decl (l:List Decl):((l.map encDecl).all fun e=>e.all V.pure2)=true:=pure_cells l
@[simp] theorem enc_LDecl (l:List Decl):enc l=.sl (l.map encDecl) false:=(rfl)
@[simp] theorem dec_LDecl {es:List (List V)}:Enc.dec (α:=List Decl) (.sl es false)=decL es:=(rfl)
@[simp] theorem sz_Decl (l:List Decl):sizes 4 (l.map encDecl)=true:=by rw[sizes_eq];intro e he;obtain⟨a,_,rfl⟩:=List.mem_map.1 he;rfl
@[simp] theorem ac_Decl (l:List Decl):allCells (l.map encDecl)=true:=allCells_map pureL_Decl
@[simp] theorem eta_Decl (a:Decl):Decl.mk a.pos a.name a.params a.ctors=a:=(rfl)
attribute [simp] decDecl_n encDecl
end Go.J
/- What small functions of types compute. -/
namespace Go.J
open Enc (enc)
def modI(n m:Int):Int:=if m<1 then 0 else n % m
theorem modI_nonneg(n m:Int):0≤modI n m:=by
 unfold modI;split
 · exact Int.le_refl _
 · exact Int.emod_nonneg _ (by omega)
theorem modI_lt{n m:Int}(h:1≤m):modI n m<m:=by
 unfold modI;rw[if_neg (by omega)];exact Int.emod_lt_of_pos _ (by omega)
def tCon(n:List Nat)(l:List Ty):Ty:=.mk 4 n 0 0 l
def tVar(i:Int):Ty:=.mk 1 [] i 0 []
def tRigid(h i:Int):Ty:=.mk 3 [] i h []
def tInt:Ty:=tCon [73,110,116] []
def tArrow(a b:Ty):Ty:=tCon [45,62] [a,b]
theorem tmod_mod(n m:Int):n % m=n.tmod m % m:=by
 have h:=Int.mul_tdiv_add_tmod n m
 calc n % m=(m*n.tdiv m+n.tmod m) % m:=by rw[h]
  _=n.tmod m % m:=by rw[Int.add_comm,Int.add_mul_emod_self_left]
theorem tmod_neg{n m:Int}(hm:1≤m)(h:n.tmod m<0):n % m=n.tmod m+m:=by
 have h1:=Int.lt_tmod_of_pos n (show 0<m by omega)
 rw[tmod_mod,← Int.add_emod_right,Int.emod_eq_of_lt (by omega) (by omega)]
theorem tmod_pos{n m:Int}(hm:1≤m)(h:0≤n.tmod m):n % m=n.tmod m:=by
 rw[tmod_mod,Int.emod_eq_of_lt h (Int.tmod_lt_of_pos n (by omega))]
def Tp.next(t:Tp)(n:Int):Tp×Int :=
 if t.l.length≤t.i then (t,0)else ({ t with i:=t.i+1 },modI (t.l.getD t.i.toNat 0) n)
end Go.J
namespace Go.J
open Enc (enc)
def varTs(n:Nat):List Ty:=(List.range n).map fun i=>tVar (i:Nat)
theorem varTs_succ(n:Nat):varTs (n+1)=varTs n++[tVar (n:Nat)]:=by simp[varTs,List.range_succ]
@[simp] theorem varTs_len (n:Nat):(varTs n).length=n:=by simp[varTs]
end Go.J
/- The data declarations that programs are made of;what a tape makes. -/
namespace Go.J
open Enc (enc)
def allD:List Decl:=[⟨0,[66,111,111,108],[],[⟨12,[84,114,117,101],[]⟩,⟨19,[70,97,108,115,101],[]⟩]⟩,
 ⟨26,[79,112,116,105,111,110],[[97]],[⟨42,[78,111,110,101],[]⟩,⟨49,[83,111,109,101],[.mk 5 [97] 0 0 []]⟩]⟩,
 ⟨57,[76,105,115,116],[[97]],[⟨71,[78,105,108],[]⟩,⟨77,[67,111,110,115],[.mk 5 [97] 0 0 [],.mk 4 [76,105,115,116] 0 0 [.mk 5 [97] 0 0 []]]⟩]⟩,
 ⟨93,[80,97,105,114],[[97],[98]],[⟨109,[80,97,105,114],[.mk 5 [97] 0 0 [],.mk 5 [98] 0 0 []]⟩]⟩,
 ⟨119,[78,97,116],[],[⟨130,[90,101,114,111],[]⟩,⟨137,[83,117,99,99],[.mk 4 [78,97,116] 0 0 []]⟩]⟩,
 ⟨147,[70,117,110],[[97],[98]],[⟨162,[70,117,110],[.mk 4 [45,62] 0 0 [.mk 5 [97] 0 0 [],.mk 5 [98] 0 0 []]]⟩]⟩,
 ⟨176,[84,119,111],[[97]],[⟨189,[66,111,116,104],[.mk 5 [97] 0 0 [],.mk 5 [97] 0 0 []]⟩,⟨200,[79,110,101],[.mk 4 [79,112,116,105,111,110] 0 0 [.mk 5 [97] 0 0 []]]⟩]⟩]
def allV:V:=.sl [[.int .i64 0,.str [66,111,111,108],.snil,.sl [[.int .i64 12,.str [84,114,117,101],.snil],[.int .i64 19,.str [70,97,108,115,101],.snil]] false],[.int .i64 26,.str [79,112,116,105,111,110],.sl [[.str [97]]] false,.sl [[.int .i64 42,.str [78,111,110,101],.snil],[.int .i64 49,.str [83,111,109,101],.sl [[.int .i64 5,.str [97],.int .i64 0,.int .i64 0,.snil]] false]] false],[.int .i64 57,.str [76,105,115,116],.sl [[.str [97]]] false,.sl [[.int .i64 71,.str [78,105,108],.snil],[.int .i64 77,.str [67,111,110,115],.sl [[.int .i64 5,.str [97],.int .i64 0,.int .i64 0,.snil],[.int .i64 4,.str [76,105,115,116],.int .i64 0,.int .i64 0,.sl [[.int .i64 5,.str [97],.int .i64 0,.int .i64 0,.snil]] false]] false]] false],[.int .i64 93,.str [80,97,105,114],.sl [[.str [97]],[.str [98]]] false,.sl [[.int .i64 109,.str [80,97,105,114],.sl [[.int .i64 5,.str [97],.int .i64 0,.int .i64 0,.snil],[.int .i64 5,.str [98],.int .i64 0,.int .i64 0,.snil]] false]] false],[.int .i64 119,.str [78,97,116],.snil,.sl [[.int .i64 130,.str [90,101,114,111],.snil],[.int .i64 137,.str [83,117,99,99],.sl [[.int .i64 4,.str [78,97,116],.int .i64 0,.int .i64 0,.snil]] false]] false],[.int .i64 147,.str [70,117,110],.sl [[.str [97]],[.str [98]]] false,.sl [[.int .i64 162,.str [70,117,110],.sl [[.int .i64 4,.str [45,62],.int .i64 0,.int .i64 0,.sl [[.int .i64 5,.str [97],.int .i64 0,.int .i64 0,.snil],[.int .i64 5,.str [98],.int .i64 0,.int .i64 0,.snil]] false]] false]] false],[.int .i64 176,.str [84,119,111],.sl [[.str [97]]] false,.sl [[.int .i64 189,.str [66,111,116,104],.sl [[.int .i64 5,.str [97],.int .i64 0,.int .i64 0,.snil],[.int .i64 5,.str [97],.int .i64 0,.int .i64 0,.snil]] false],[.int .i64 200,.str [79,110,101],.sl [[.int .i64 4,.str [79,112,116,105,111,110],.int .i64 0,.int .i64 0,.sl [[.int .i64 5,.str [97],.int .i64 0,.int .i64 0,.snil]] false]] false]] false]] false
def selD(bits:Int):List Decl→Nat→List Decl
 | [],_=>[]
 |d::l,i=>if i≠1∧andI .i64 (bits.fdiv (2 ^ i)) 1=1 then d::selD bits l (i+1)else selD bits l (i+1)
def selD1(bits:Int)(l:List Decl):List Decl:=if andI .i64 bits 2≠0∨andI .i64 bits 64≠0 then (l[1]?).toList else []
def datasOf(bits:Int):List Decl:=selD1 bits allD++selD bits allD 0
theorem selD_app(bits:Int):∀ (l m:List Decl) (i:Nat),selD bits (l++m) i=selD bits l i++selD bits m (i+l.length):=by
 intro l
 induction l with
 |nil=>intro m i;simp[selD]
 | cons d l ih =>
   intro m i
   have e:i+1+l.length=i+(d::l).length:=by simp;omega
   simp only[List.cons_append,selD,ih,e]
   split<;>rfl
theorem selD_mem{bits:Int}{d:Decl}:∀ {l:List Decl} {i:Nat},d∈selD bits l i→d∈l:=by
 intro l
 induction l with
 |nil=>intro i h;cases h
 | cons x l ih =>
   intro i h
   unfold selD at h
   split at h
   · rcases List.mem_cons.1 h with rfl|h
     · exact List.mem_cons_self ..
     · exact List.mem_cons_of_mem _ (ih h)
   · exact List.mem_cons_of_mem _ (ih h)
theorem selD_len(bits:Int):∀ (l:List Decl) (i:Nat),(selD bits l i).length≤l.length:=by
 intro l
 induction l with
 |nil=>intro i;exact Nat.le_refl _
 | cons x l ih =>
   intro i
   have:=ih (i+1)
   unfold selD
   split<;>simp only[List.length_cons]<;>omega
theorem datasOf_mem{bits:Int}{d:Decl}(h:d∈datasOf bits):d∈allD:=by
 unfold datasOf at h
 rcases List.mem_append.1 h with h|h
 · unfold selD1 at h
   split at h
   · rw[Option.mem_toList]at h;exact List.mem_of_getElem? h
   · cases h
 · exact selD_mem h
theorem datasOf_len(bits:Int):(datasOf bits).length≤8:=by
 unfold datasOf
 rw[List.length_append]
 have h1:=selD_len bits allD 0
 have h2:(selD1 bits allD).length≤1:=by unfold selD1;split<;>simp[allD]
 have h3:allD.length=7:=rfl
 omega
end Go.J
/- Types that a tape makes. -/
namespace Go.J
open Enc (enc)
theorem next_l(t:Tp)(n:Int):(t.next n).1.l=t.l:=by unfold Tp.next;split<;>rfl
theorem next_i{t:Tp}(h:0≤t.i)(n:Int):0≤(t.next n).1.i:=by
 unfold Tp.next;split
 · exact h
 · show 0≤t.i+1;omega
theorem next_nn(t:Tp)(n:Int):0≤(t.next n).2:=by
 unfold Tp.next;split
 · exact Int.le_refl _
 · exact modI_nonneg _ _
theorem next_lt(t:Tp){n:Int}(h:1≤n):(t.next n).2<n:=by
 unfold Tp.next;split
 · show (0:Int)<n;omega
 · exact modI_lt h
def Tp.ok(t:Tp):Prop:=0≤t.i∧t.l.length≤100000
theorem next_ok{t:Tp}(h:t.ok)(n:Int):(t.next n).1.ok:=⟨next_i h.1 n,by rw[next_l];exact h.2⟩
theorem next_get{α:Type}(t:Tp){l:List α}(h:l≠[]):∃ (j:Nat) (hj:j<l.length),(t.next (l.length:Int)).2=(j:Int)∧l[(t.next (l.length:Int)).2.toNat]?=some l[j]:=by
 have h1:=next_nn t (l.length:Int)
 have h0:0<l.length:=List.length_pos_iff.2 h
 have h2:=next_lt t (n:=(l.length:Int)) (by omega)
 obtain⟨j,hj⟩:=Int.eq_ofNat_of_zero_le h1
 refine⟨j,by omega,hj,?_⟩
 rw[hj]
 simp only[Int.toNat_natCast]
 exact List.getElem?_eq_getElem (by omega)
mutual
def typeM : Nat→Tp→List Decl→List Ty→Tp×Ty
 | d, t, D,Lv =>
   let k:=(t.next 7).2
   let t1:=(t.next 7).1
   if k<3∧Lv≠[]then ((t1.next Lv.length).1,(Lv[(t1.next Lv.length).2.toNat]?).getD tInt)
   else if k<4 then (t1,tInt)
   else match d with
    | 0=>(t1,tInt)
    | d + 1 =>
      if (k=4∨k=5)∧D≠[]then
       let dd:=(D[(t1.next D.length).2.toNat]?).getD ⟨0,[],[],[]⟩
       let r:=argsM d (t1.next D.length).1 D Lv dd.params.length
       (r.1,tCon dd.name r.2)
      else
       let a:=typeM d t1 D Lv
       let b:=typeM d a.1 D Lv
       (b.1,tArrow a.2 b.2)
 termination_by d=>(d,0)
def argsM(d:Nat)(t:Tp)(D:List Decl)(Lv:List Ty):Nat→Tp×List Ty
 | 0=>(t,[])
 |n+1=>((typeM d (argsM d t D Lv n).1 D Lv).1,(argsM d t D Lv n).2++[(typeM d (argsM d t D Lv n).1 D Lv).2])
 termination_by n=>(d,n+1)
end
theorem argsM_len(d:Nat)(t:Tp)(D:List Decl)(Lv:List Ty)(n:Nat):(argsM d t D Lv n).2.length=n:=by
 induction n with
 |zero=>rw[argsM];rfl
 |succ n ih=>rw[argsM];simp[ih]
theorem typeM_ind {P:Ty→Prop} {D:List Decl} {Lv:List Ty} (hl:∀ l∈Lv,P l) (hi:P tInt) (hc:∀ dd∈D,∀ l:List Ty,l.length=dd.params.length→(∀ x∈l,P x)→P (tCon dd.name l)) (ha:∀ a b,P a→P b→P (tArrow a b)) :
 ∀ (d:Nat) (t:Tp),P (typeM d t D Lv).2:=by
 intro d
 induction d with
 | zero =>
   intro t
   rw[typeM]
   try dsimp only
   split
   · rename_i h
     obtain⟨j,hj,_,h2⟩:=next_get (t.next 7).1 h.2
     rw[h2];exact hl _ (List.getElem_mem hj)
   · split<;>exact hi
 | succ d ih =>
   intro t
   rw[typeM]
   try dsimp only
   split
   · rename_i h
     obtain⟨j,hj,_,h2⟩:=next_get (t.next 7).1 h.2
     rw[h2];exact hl _ (List.getElem_mem hj)
   · split
     · exact hi
     · split
       · rename_i h
         obtain⟨j,hj,_,h2⟩:=next_get (t.next 7).1 h.2
         rw[h2]
         refine hc _ (List.getElem_mem hj) _ (argsM_len ..) ?_
         generalize hn:(((some D[j]).getD _:Decl).params.length)=n
         clear hn
         induction n with
         |zero=>intro x hx;rw[argsM]at hx;cases hx
         | succ n ihn =>
           intro x hx
           rw[argsM]at hx
           rcases List.mem_append.1 hx with hx|hx
           · exact ihn x hx
           · rw[List.mem_singleton.1 hx];exact ih _
       · exact ha _ _ (ih _) (ih _)
theorem typeM_ok {D:List Decl} {Lv:List Ty}:∀ (d:Nat) (t:Tp),t.ok→(typeM d t D Lv).1.ok∧(typeM d t D Lv).1.l=t.l:=by
 intro d
 induction d with
 | zero =>
   intro t h
   rw[typeM]
   try dsimp only
   split
   · exact⟨next_ok (next_ok h 7) _,by rw[next_l,next_l]⟩
   · split<;>exact⟨next_ok h 7,next_l t 7⟩
 | succ d ih =>
   intro t h
   rw[typeM]
   try dsimp only
   split
   · exact⟨next_ok (next_ok h 7) _,by rw[next_l,next_l]⟩
   · split
     · exact⟨next_ok h 7,next_l t 7⟩
     · split
       · have h1:=next_ok (next_ok h 7) (D.length:Int)
         have h2:((t.next 7).1.next (D.length:Int)).1.l=t.l:=by rw[next_l,next_l]
         generalize (t.next 7).1.next (D.length:Int)=q at h1 h2
         generalize (((D[q.2.toNat]?).getD _:Decl).params.length)=n
         induction n with
         |zero=>rw[argsM];exact⟨h1,h2⟩
         | succ n ihn =>
           rw[argsM]
           have:=ih _ ihn.1
           exact⟨this.1,this.2.trans ihn.2⟩
       · have h1:=ih _ (next_ok h 7)
         have h2:=ih _ h1.1
         exact⟨h2.1,h2.2.trans (h1.2.trans (next_l t 7))⟩
theorem argsM_ok{D:List Decl}{Lv:List Ty}(d:Nat){t:Tp}(h:t.ok)(n:Nat):(argsM d t D Lv n).1.ok:=by
 induction n with
 |zero=>rw[argsM];exact h
 |succ n ih=>rw[argsM];exact(typeM_ok d _ ih).1
def DOk(D:List Decl):Prop:=D.length≤1000∧∀ d∈D,d.params.length≤100
theorem datasOf_ok(bits:Int):DOk (datasOf bits):=by
 refine⟨by have:=datasOf_len bits;omega,fun d hd=>?_⟩
 have:=datasOf_mem hd
 have key:∀ d∈allD,d.params.length≤100:=by decide
 exact key d this
end Go.J
/- Substitutions. -/
namespace Go.J
open Enc (enc)
def lookA:List Assign→Int→Option Ty
 | [],_=>none
 |a::s,i=>if a.id=i then some a.type else lookA s i
theorem lookA_app(s u:List Assign)(i:Int):lookA (s++u) i=(lookA s i).or (lookA u i):=by
 induction s with
 |nil=>rfl
 | cons a s ih =>
   simp only[List.cons_append,lookA,ih]
   split<;>rfl
mutual
def Ty.repl(s:List Assign):Ty→Ty
 |.mk k n i h l=>if k=1 then (lookA s i).getD (.mk k n i h l)else .mk k n i h (Ty.repls s l)
def Ty.repls(s:List Assign):List Ty→List Ty
 | []=>[]
 |t::l=>Ty.repl s t::Ty.repls s l
end
theorem repls_eq(s:List Assign)(l:List Ty):Ty.repls s l=l.map (Ty.repl s):=by
 induction l with
 |nil=>simp[Ty.repls]
 |cons t l ih=>simp[Ty.repls,ih]
theorem repl_eq(s:List Assign)(t:Ty):t.repl s=if t.kind=1 then (lookA s t.id).getD t else .mk t.kind t.name t.id t.home (t.args.map (Ty.repl s)):=by
 cases t;simp only[Ty.repl,Ty.kind_mk,Ty.name_mk,Ty.id_mk,Ty.home_mk,Ty.args_mk,repls_eq]
def substM (t:Tp) (D:List Decl) (n:Nat):Nat→Tp×List Assign
 | 0=>(t,[])
 | i + 1 =>
   let p:=substM t D n i
   let c:=p.1.next 3
   if c.2>0 then
    let r:=typeM 1 c.1 D (varTs (n+1)++[tRigid (-1) 0])
    (r.1,p.2++[⟨i,r.2⟩])
   else (c.1,p.2)
end Go.J
/- Stores of type variables: what the small functions compute. -/
namespace Go.J
open Enc (enc)
def ty0:Ty:=.mk 0 [] 0 0 []
def slotZ:Slot:=⟨false,ty0,0,false⟩
namespace Store
def slot? (s:Store)(id:Int):Option Slot:=if 0≤id then s.slots[id.toNat]? else none
def fresh(s:Store)(home:Int)(base:Bool):Store×Ty :=
 (⟨s.slots++[⟨false,ty0,home,base⟩],s.trail++[⟨s.slots.length,slotZ,true⟩]⟩,tVar s.slots.length)
def set(s:Store)(id:Int)(x:Slot):Store×Bool :=
 match s.slot? id with
 |some old=>(⟨s.slots.set id.toNat x,s.trail++[⟨id,old,false⟩]⟩,true)
 |none=>(s,false)
def bound(s:Store)(t:Ty):Bool :=
 match decide (t.kind=1),s.slot? t.id with
 |true,some x=>x.bound
 |_,_=>false
def to(s:Store)(t:Ty):Ty :=
 match s.slot? t.id with
 |some x=>x.type
 |none=>ty0
def walkN(s:Store):Nat→Ty→Ty
 | 0,t=>t
 |n+1,t=>if s.bound t then walkN s n (s.to t)else t
def small(s:Store):Prop:=s.slots.length≤1000∧s.trail.length≤1000
instance (s:Store):Decidable s.small:=inferInstanceAs (Decidable (_∧_))
theorem slot?_nat (s:Store)(i:Nat):s.slot? (i:Int)=s.slots[i]?:=by simp[slot?]
theorem slot?_some {s:Store}{id:Int}{x:Slot}(h:s.slot? id=some x):∃ i:Nat,id=i∧i<s.slots.length∧s.slots[i]?=some x:=by
 unfold slot? at h
 split at h
 · rename_i h0
   obtain⟨i,rfl⟩:=Int.eq_ofNat_of_zero_le h0
   simp only[Int.toNat_natCast]at h
   exact⟨i,rfl,(List.getElem?_eq_some_iff.1 h).1,h⟩
 · cases h
theorem bound_true{s:Store}{t:Ty}(h:s.bound t=true):t.kind=1∧∃ x,s.slot? t.id=some x∧x.bound=true:=by
 unfold bound at h
 split at h
 · rename_i x h1 h2;exact⟨of_decide_eq_true h1,x,h2,h⟩
 · cases h
theorem bound_eq{s:Store}{t:Ty}{x:Slot}(h1:t.kind=1)(h2:s.slot? t.id=some x):s.bound t=x.bound:=by
 unfold bound;rw[h2,decide_eq_true h1]
end Store
def isArrow (t:Ty):T3 Ty Ty Bool :=
 if t.kind=4∧t.name=[45,62]then (match t.args with
  | [a,b]=>⟨a,b,true⟩
  |_=>⟨ty0,ty0,false⟩)else ⟨ty0,ty0,false⟩
end Go.J
/- Leaves of types. -/
namespace Go.J
open Enc (enc)
mutual
def leavesM(kind:Int):Ty→List Ty→List Ty
 |.mk k n i h l,out=>if k=kind∧l=[]then (if Ty.mk k n i h l∈out then out else out++[Ty.mk k n i h l])else leavesL kind l out
def leavesL(kind:Int):List Ty→List Ty→List Ty
 | [],out=>out
 |t::l,out=>leavesL kind l (leavesM kind t out)
end
theorem leavesM_eq(kind:Int)(t:Ty)(out:List Ty):leavesM kind t out=if t.kind=kind∧t.args=[]then (if t∈out then out else out++[t])else leavesL kind t.args out:=by
 cases t;simp[leavesM]
theorem leavesL_len'{kind:Int}{l:List Ty}(h:∀ t∈l,∀ out,out.length≤(leavesM kind t out).length∧(leavesM kind t out).length≤out.length+t.size):∀ out,out.length≤(leavesL kind l out).length∧(leavesL kind l out).length≤out.length+Ty.sizes l:=by
 induction l with
 |nil=>intro out;simp[leavesL,Ty.sizes]
 | cons a l ih =>
   intro out
   have h1:=h a (List.mem_cons_self ..) out
   have h2:=ih (fun t ht=>h t (List.mem_cons_of_mem _ ht)) (leavesM kind a out)
   simp only[leavesL,Ty.sizes]
   omega
theorem leavesM_len(kind:Int)(t:Ty):∀ out,out.length≤(leavesM kind t out).length∧(leavesM kind t out).length≤out.length+t.size:=by
 induction t using Ty.ind with
 | h t ih =>
   intro out
   rw[leavesM_eq]
   have hp:=Ty.size_pos t
   split
   · split<;>simp<;>omega
   · have:=leavesL_len' (kind:=kind) ih out
     have:=Ty.size_eq t
     omega
theorem leavesL_len(kind:Int)(l:List Ty):∀ out,out.length≤(leavesL kind l out).length∧(leavesL kind l out).length≤out.length+Ty.sizes l:=leavesL_len' fun t _=>leavesM_len kind t
theorem sizes_app(l m:List Ty):Ty.sizes (l++m)=Ty.sizes l+Ty.sizes m:=by
 induction l with
 |nil=>simp[Ty.sizes]
 |cons a l ih=>simp[Ty.sizes,ih,Nat.add_assoc]
theorem sizes_take_le(l:List Ty)(i:Nat):Ty.sizes (l.take i)≤Ty.sizes l:=by
 have:=sizes_app (l.take i) (l.drop i)
 rw[List.take_append_drop]at this
 omega
section
variable {σ α β:Type} [Cel σ] [Enc α] [Enc β]
def ioF1(F:List σ→α→Option (List σ))(es:List (List V))(vs:List V):Option (List (List V)×List V):=match vs with
 | [x]=>ob (decL es) fun l=>ob (Enc.dec x) fun a=>ob (F l a) fun r=>some (r.map Cel.cells,[])
 |_=>none
def ioF2(F:List σ→α→β→Option (List σ))(es:List (List V))(vs:List V):Option (List (List V)×List V):=match vs with
 | [x,y]=>ob (decL es) fun l=>ob (Enc.dec x) fun a=>ob (Enc.dec y) fun b=>ob (F l a b) fun r=>some (r.map Cel.cells,[])
 |_=>none
@[simp] theorem ioF1_n {F:List σ→α→Option (List σ)} {es:List (List V)} {x:V}:ioF1 F es [x]=ob (decL es) fun l=>ob (Enc.dec x) fun a=>ob (F l a) fun r=>some (r.map Cel.cells,[]):=(rfl)
@[simp] theorem ioF2_n {F:List σ→α→β→Option (List σ)} {es:List (List V)} {x y:V}:ioF2 F es [x,y]=ob (decL es) fun l=>ob (Enc.dec x) fun a=>ob (Enc.dec y) fun b=>ob (F l a b) fun r=>some (r.map Cel.cells,[]):=(rfl)
end
end Go.J
namespace Go.J
open Enc (enc)
def addId(out:List Int)(t:Ty):List Int:=if t.id∈out then out else out++[t.id]
def idsOf(l:List Ty):List Int:=l.foldl addId []
def varsM(l:List Ty):List Int:=idsOf (leavesL 1 l [])
def rigidsM(l:List Ty):List Ty:=leavesL 3 l []
theorem idsOf_snoc(l:List Ty)(t:Ty):idsOf (l++[t])=addId (idsOf l) t:=by simp[idsOf]
theorem addId_len(out:List Int)(t:Ty):out.length≤(addId out t).length∧(addId out t).length≤out.length+1:=by
 unfold addId;split<;>simp
theorem idsOf_len(l:List Ty):(idsOf l).length≤l.length:=by
 have:∀ (l:List Ty) (o:List Int),(l.foldl addId o).length≤o.length+l.length:=by
  intro l
  induction l with
  |nil=>intro o;simp
  |cons a l ih=>intro o;have:=ih (addId o a);have:=addId_len o a;simp;omega
 simpa [idsOf]using this l []
end Go.J
/- Bytes,words. -/
namespace Go.J
open Enc (enc)
structure Byte where
 n:Nat
instance:Enc Byte where
 enc b:=.int .u8 (Int.ofNat b.n)
 dec v:=match v with
  |.int .u8 (.ofNat n)=>some ⟨n⟩
  |_=>none
 dec_enc _:=rfl
 enc_dec v a h:=by
  split at h
  · cases h;rfl
  · cases h
 norm _:=rfl
@[simp] theorem encByte {b:Byte}:(enc b:V)=.int .u8 (b.n:Int):=(rfl)
@[simp] theorem decByte {n:Nat}:(Enc.dec (V.int .u8 (n:Int)):Option Byte)=some ⟨n⟩:=(rfl)
def lowerB(n:Nat):Bool:=decide (97≤n)&&decide (n≤122)
def upperB(n:Nat):Bool:=decide (65≤n)&&decide (n≤90)
def digitB(n:Nat):Bool:=decide (48≤n)&&decide (n≤57)
def innerB(n:Nat):Bool:=lowerB n||upperB n||digitB n||decide (n=95)
def wordN(s:List Nat):Bool:=s.all innerB&&!s.isEmpty
def keywords:List (List Nat):=[[100,97,116,97],[108,101,116],[114,101,99],[105,110],[99,97,115,101],[111,102],[101,110,100]]
def upperN(s:List Nat):Bool:=wordN s&&upperB (s.headD 0)&&decide (s.length≤12)
def lowerN(s:List Nat):Bool:=wordN s&&lowerB (s.headD 0)&&decide (s.length≤12)&&decide (s ∉ keywords)
@[simp] theorem isStr_string:isStr TypeDesc.string=true:=(rfl)
mutual
def Ty.short:Ty→Bool
 |.mk _ n _ _ l=>decide (n.length<2^63)&&Ty.shorts l
def Ty.shorts:List Ty→Bool
 | []=>true
 |t::l=>t.short&&Ty.shorts l
end
mutual
def Ty.valid:Ty→Bool
 | .mk k n i h l =>
   if k=1∨k=2 then decide (0≤i)&&decide (i≤1000000)&&decide (n=[])&&decide (h=0)&&decide (l.length=0)
   else if k=3 then decide (0≤i)&&decide (i≤1000000)&&decide (-1≤h)&&decide (h≤1000000)&&decide (n=[])&&decide (l.length=0)
   else if k=5 then decide (i=0)&&decide (h=0)&&decide (l.length=0)&&lowerN n
   else if k=4 then decide (i=0)&&decide (h=0)&&Ty.valids l&&(if n=[45,62]then decide (l.length=2)else if n=[73,110,116]then decide (l.length=0)else upperN n&&decide (l.length≤4))
   else false
def Ty.valids:List Ty→Bool
 | []=>true
 |t::l=>t.valid&&Ty.valids l
end
theorem Ty.valids_iff{l:List Ty}:Ty.valids l=true↔∀ t∈l,t.valid=true:=by
 induction l with
 |nil=>simp[Ty.valids]
 |cons a l ih=>simp[Ty.valids,ih]
def Store.few(s:Store):Prop:=s.slots.length≤6∧s.trail.length≤6∧(∀ x∈s.slots,x.type.size≤20)∧∀ x∈s.trail,x.old.type.size≤20
instance:DecidablePred Store.few:=fun s=>by unfold Store.few;infer_instance
end Go.J
/- Cycles. -/
namespace Go.J
open Enc (enc)
def cycL(rec:Int→List Int→List Int×Bool)(fr:Int):List Int→List Int→List Int×Bool
 | [],S=>(S,false)
 |v::l,S=>if v=fr then (S,true)else if S[v.toNat]?=some 0 then (if (rec v (S.set v.toNat 1)).2=true then ((rec v (S.set v.toNat 1)).1,true)else cycL rec fr l (rec v (S.set v.toNat 1)).1)else cycL rec fr l S
def cycM (s:Store) (fr:Int):Nat→Int→List Int→List Int×Bool
 | 0,_,S=>(S,false)
 | f+1,i,S=>match s.slots[i.toNat]? with
   |some x=>if x.bound=true then cycL (cycM s fr f) fr (varsM [x.type]) S else (S,false)
   |none=>(S,false)
def Store.closed(s:Store):Prop:=s.slots.length≤1000∧∀ x∈s.slots,x.bound=true→x.type.ok=true∧x.type.size≤10000∧∀ v∈varsM [x.type],0≤v∧v<s.slots.length
end Go.J
namespace Go.J
open Enc (enc)
theorem Ty.valid_args {t:Ty} (h:t.valid=true):∀ u∈t.args,u.valid=true:=by
 obtain⟨k,n,i,hh,l⟩:=t
 intro u hu
 simp only[Ty.args_mk]at hu
 unfold Ty.valid at h
 by_cases hl:l.length=0
 · rw[List.length_eq_zero_iff.1 hl]at hu;cases hu
 · split at h
   · simp[hl]at h
   · split at h
     · simp[hl]at h
     · split at h
       · simp[hl]at h
       · split at h
         · simp only[Bool.and_eq_true]at h
           exact Ty.valids_iff.1 h.1.2 u hu
         · cases h
theorem Ty.valid_var{t:Ty}(h:t.valid=true)(hk:t.kind=1):0≤t.id∧t.id≤1000000:=by
 obtain⟨k,n,i,hh,l⟩:=t
 simp only[Ty.kind_mk]at hk
 subst hk
 unfold Ty.valid at h
 simp at h
 simp only[Ty.id_mk]
 omega
def Store.slotOk(s:Store)(x:Slot):Prop:=if x.bound=true then x.type.valid=true∧∀ v∈varsM [x.type],v<s.slots.length else x.type=ty0
instance (s:Store)(x:Slot):Decidable (s.slotOk x):=by unfold Store.slotOk;infer_instance
def Store.cyc(s:Store)(i:Nat):Bool:=(cycM s i (s.slots.length+1) i (List.replicate s.slots.length 0)).2
def Store.valid(s:Store):Bool:=decide (∀ c∈s.trail,0≤c.id∧c.id<s.slots.length)&&decide (∀ x∈s.slots,s.slotOk x)&&decide (∀ i∈List.range s.slots.length,s.cyc i=false)
def Store.fine(s:Store):Prop:=s.slots.length≤1000∧s.trail.length≤1000∧∀ x∈s.slots,x.type.ok=true∧x.type.short=true∧x.type.size≤10000
instance (s:Store):Decidable s.fine:=by unfold Store.fine;infer_instance
end Go.J
/- Ranges over the function that slices.Backward makes. -/
namespace Go.J
open Enc (enc)
def SC.plain:SC→Bool
 |.loop _=>false
 |.range _ _ _ _=>false
 |.seq a b=>a.plain&&b.plain
 |.cond _ a b=>a.plain&&b.plain
 |.block _ a=>a.plain
 |_=>true
section
variable {ρ:Nat→Value}{E:Env}{k sz:Nat}{rd:Bool}
end
section
variable {E:Env}{sz:Nat}{T:PT V}{ps:Array Tmp}{a b:Code}
end
end Go.J
/- The contract of slices.Backward: it makes a closure on a box of its argument. -/
namespace Go.J
open Enc (enc)
def backD(g:Nat)(es:List (List V))(tg:Bool):EmbD where
 k:=0
 k':=1
 π:=fun i=>i
 OL:=[]
 OL':=[(0,capB (.sl es tg))]
 vs0:=[.sl es tg]
 v0:=.func g [.ptr 0 0 0]
def backM(g:Nat)(vs:List V)(hs:HS):Option EmbD:=match vs with
 | [.sl es tg]=>gd (vacant hs hs.n) (some (backD g es tg))
 |_=>none
section
variable {g:Nat}{es:List (List V)}{tg:Bool}{hs:HS}
@[simp] theorem backD_val:(backD g es tg).val hs=.func g [.ptr hs.n 0 0]:=(rfl)
@[simp] theorem backD_heap:(backD g es tg).heap hs={ H:=hs.H.set hs.n (capB (.sl es tg)),n:=hs.n+1,log:=hs.n::hs.log }:=(rfl)
@[simp] theorem backM_n:backM g [.sl es tg] hs=gd (vacant hs hs.n) (some (backD g es tg)):=(rfl)
end
end Go.J
