import Derived.Test.YtfgmnebfhemnpaaGreatLXD
import Derived.Test.YtfgmnebfhemnpaaGreatJPy
set_option linter.all false
noncomputable section
/- The law UnifyHomes: what its function computes. -/
namespace Go.Proofs.YtfgmnebfhemnpaaGreat
open Go.J
open Go.J.Enc (enc)
set_option maxRecDepth 100000
set_option maxHeartbeats 4000000
section
variable {ρ:Nat→Value}(hρ:J.Good ρ){E:Env}(hE:E.P=Tryz.prog)(hcon:ConsOk ρ E)
include hρ hE hcon
theorem zaG {s x:Store} {y y':Slot} {i:Nat} (hi:i<s.slots.length) (hx:i<x.slots.length) (hy:s.slots[i]=y) (hy':x.slots[i]=y') {l:List Ty} (hl:l.length≤1000000) {ok:Bool} (hall:ok=true→y.bound=false→y'.bound=true→∀ z∈l,z.home≤y.home)
 {T:PT V} {hs:HS} {Q:Ex→PT V→HS→Prop} (hT:Less 0 T hs (mkP [(5,.ptr 0 0 0),(9,.ptr 1 0 0),(11,.int .i64 (i:Int)),(13,.bool ok),(17,.sl (l.map zw) false),(18,.int .i64 ((0:Nat):Int))]) { H:=mkP [(0,box (zD s)),(1,box (zD x))],n:=2,log:=[] })
 (hQ:Q (.exit 2) (mkP [(5,.ptr 0 0 0),(9,.ptr 1 0 0),(11,.int .i64 (i:Int))]) { H:=mkP [(0,box (zD s)),(1,box (zD x))],n:=2,log:=[] }) :
 Ls ρ E 0 175 (.loop zmX) T hs Q:=by
 refine lpi hρ hE hcon l.length (nn:=2) (fun k (_:Unit)=>[(5,.ptr 0 0 0),(9,.ptr 1 0 0),(11,.int .i64 (i:Int)),(13,.bool ok),(17,.sl (l.map zw) false),(18,.int .i64 (k:Int))])
  (fun _ _=>[(0,box (zD s)),(1,box (zD x))]) (fun _ _=>True) () hT trivial ?_ ?_
 · intro _ _ K
   simp [zmX,hE]
   exact LessQ.mk (Less.auto (by simp) (by simp) (by simp) (by simp<;>(intro x hx;first|omega|exact⟨.inl hx,by omega⟩))) hQ
 · intro k _ hk _ K hK
   have hk':(k:Int)<l.length:=by omega
   have hi':(i:Int)<s.slots.length:=by omega
   have hx':(i:Int)<x.slots.length:=by omega
   have hd1:i*8 / 8=i:=by omega
   have hd2:i*8 % 8=0:=by omega
   have hd3:k*5 / 5=k:=by omega
   have hd4:k*5 % 5=0:=by omega
   have hw:IntKind.i64.wrap ((k:Int)+1)=((k+1:Nat):Int):=zN (by omega)
   obtain⟨z,hz⟩:∃ z,l[k]=z:=⟨_,rfl⟩
   have hmem:z∈l:=hz ▸ List.getElem_mem hk
   have hnew:=hK () trivial
   obtain⟨yb,⟨yk,yn,yi,yh,yl⟩,ym,yg⟩:=y
   obtain⟨vb,⟨vk,vn,vi,vh,vl⟩,vm,vg⟩:=y'
   simp only at hall
   obtain⟨zk,zn,zi,zh,zl⟩:=z
   cases ok with
   | false =>
     simp [zmX,hE,hk,hk',hz,hd3,hd4]
     exact LessQ.mk (Less.auto (by simp) (by simp) (by simp) (by simp<;>(intro x hx;first|omega|exact⟨.inl hx,by omega⟩))) hQ
   | true =>
     cases yb with
     | true =>
       simp [zmX,hE,hk,hk',hz,hd1,hd2,hd3,hd4,hi,hi',hx,hx',hy,hy']
       exact LessQ.mk (Less.auto (by simp) (by simp) (by simp) (by simp<;>(intro x hx;first|omega|exact⟨.inl hx,by omega⟩))) hQ
     | false =>
       cases vb with
       | false =>
         simp [zmX,hE,hk,hk',hz,hd1,hd2,hd3,hd4,hi,hi',hx,hx',hy,hy']
         exact LessQ.mk (Less.auto (by simp) (by simp) (by simp) (by simp<;>(intro x hx;first|omega|exact⟨.inl hx,by omega⟩))) hQ
       | true =>
         have hle:¬ ym<zh:=by have:=hall rfl rfl rfl _ hmem;simp only[Ty.home_mk]at this;omega
         simp [zmX,hE,hk,hk',hz,hd1,hd2,hd3,hd4,hi,hi',hx,hx',hy,hy',hle,hw,-Int.natCast_add]
         exact hnew _ _ (Less.auto (by simp[-Int.natCast_add]) (by simp) (by simp) (by simp<;>(intro x hx;first|omega|exact⟨.inl hx,by omega⟩)))
theorem zi9 (h1:E.con 8=zAQ) (h2:E.con 9=zDp) (h3:E.con 10=zaS zh2) (h4:E.con 11=fnS (zaT Store.uniF)) (h5:E.con 29=fnS (zaU fun i:Int=>some (zX i))) (h6:E.con 18=zat)
 (h7:E.con 30=fnS (zaU fun t:Ty=>some (zac t))) (h8:E.con 31=zbG) {bits:Int} {codes:List Int} (hs:HS):CallOk ρ Tryz.prog 7 [enc bits,enc codes] hs (.bool true) hs:=by
 refine fn hρ hE hcon Tryz.func7 fB7 rfl (by simp) ?_ hs
 by_cases c1:codes.length≤60
 case neg=>simp [hE,h1,h2,zAQ,zDp,c1]
 have htp:(⟨codes,0⟩:Tp).ok:=⟨Int.le_refl _,by show codes.length≤100000;omega⟩
 rcases hm:Store.made17 ⟨codes,0⟩ (zaH bits)with⟨s,a,b,t⟩
 obtain⟨n,hM⟩:=Store.made17_ok htp (zhQ bits) (znc bits) hm
 obtain⟨x,hu,hsl,hids,hxo,hho⟩:=hM.uni
 have hval:=fun hs=>zmL (hs:=hs) hm
 have hheap:=fun hs=>zlg (hs:=hs) hm
 generalize (Store.topM s a b).2=e at hu
 have hsn:s.slots.length≤5:=by rw[hM.stay.tame.len];exact hM.high
 have hlen:=hho.len
 clear hm hids hsl
 obtain⟨ak,an,ai,ah,al⟩:=a
 obtain⟨bk,bn,bi',bh,bl⟩:=b
 simp [hE,h1,h2,h3,h4,zAQ,zDp,c1,hval,hheap,hu,hlen,vacant_eq]
 refine lpi hρ hE hcon s.slots.length (nn:=2) (fun i (_:Unit)=>[(5,.ptr 0 0 0),(9,.ptr 1 0 0),(11,.int .i64 (i:Int))])
  (fun _ _=>[(0,box (zD s)),(1,box (zD x))]) (fun _ _=>True) () (Less.auto (by simp) (by simp) (by simp) (by simp<;>(intro x hx;first|omega|exact⟨.inl hx,by omega⟩))) trivial ?_ ?_
 · intro _ _ K
   simp [zfZ,hE]
   refine LessQ.mk (Less.auto (TL:=[]) (HL:=[]) (n:=0) (by simp) (by simp) (by simp) (by simp)) ?_
   simp [hE]
 · intro i _ hi _ K hK
   have hnew:=hK () trivial
   have hi':(i:Int)<s.slots.length:=by omega
   have hxi:i<x.slots.length:=by rw[hlen];exact hi
   have hx':(i:Int)<x.slots.length:=by omega
   have hd1:i*8 / 8=i:=by omega
   have hd2:i*8 % 8=0:=by omega
   have hw:IntKind.i64.wrap ((i:Int)+1)=((i+1:Nat):Int):=zN (by omega)
   obtain⟨y,hy⟩:∃ y,s.slots[i]=y:=⟨_,rfl⟩
   have hy2:s.slots[i]?=some y:=by rw[List.getElem?_eq_getElem hi,hy]
   obtain⟨y',hy'2,q1,q2,q3⟩:=hho.slot i y hy2
   have hy':x.slots[i]=y':=(List.getElem?_eq_some_iff.1 hy'2).2
   have q4:=hho.base i y hy2
   have q5:=hho.rigid i y hy2
   have hro:=Store.resolve_ok hxo (t:=zX (i:Int)) rfl
   obtain⟨R,hR⟩:∃ R,zT x.w16 (zX (i:Int))=R:=⟨_,rfl⟩
   rw[hR]at q4 q5 hro
   obtain⟨r,ok⟩:=R
   simp only at q4 q5 hro
   obtain⟨ar,har⟩:∃ ar,zac r=ar:=⟨_,rfl⟩
   rw[har]at q4
   obtain⟨aa,ab,ac⟩:=ar
   simp only at q4
   have hk1:Ty.oks [r]=true:=by simp[Ty.oks,hro.1]
   have hk2:Ty.sizes [r]≤10000:=by simp[Ty.sizes,hro.2]
   have htv:(zX (i:Int)).ok=true:=rfl
   obtain⟨l,hl⟩:∃ l,zaE [r]=l:=⟨_,rfl⟩
   rw[hl]at q5
   have hll:l.length≤1000000:=by
    have h1:=(zbI 3 [r] []).2
    have h2:(zaE [r]).length≤Ty.sizes [r]:=by simpa [zaE]using h1
    rw[← hl];omega
   have q5:ok=true→y.bound=false→y'.bound=true→∀ z∈l,z.home≤y.home:=fun h1 h2 _=>q5 h2 h1
   obtain⟨yb,⟨yk,yn,yi,yh,yl⟩,ym,yg⟩:=y
   obtain⟨vb,⟨vk,vn,vi,vh,vl⟩,vm,vg⟩:=y'
   simp only at q1 q2 q3 q4
   have hq1:¬ ym<vm:=by omega
   obtain⟨rk,rn,ri,rh,ra⟩:=r
   clear hro hy2 hy'2 hho
   cases yg with
   | false =>
     cases yb with
     | false =>
       cases ok with
       | false =>
         simp [zfZ,hE,h5,h6,h7,h8,zat,zbG,hi,hi',hxi,hx',hd1,hd2,hy,hy',hq1,hxo,htv,hR,har,hk1,hk2,hl,-Int.natCast_add]
         refine zaG hρ hE hcon hi hxi hy hy' hll q5 (Less.auto (by simp) (by simp) (by simp) (by simp<;>(intro x hx;first|omega|exact⟨.inl hx,by omega⟩))) ?_
         simp [hE,hw,-Int.natCast_add]
         exact hnew _ _ (Less.auto (by simp[-Int.natCast_add]) (by simp) (by simp) (by simp<;>(intro x hx;first|omega|exact⟨.inl hx,by omega⟩)))
       | true =>
         cases ac with
         | false =>
           simp [zfZ,hE,h5,h6,h7,h8,zat,zbG,hi,hi',hxi,hx',hd1,hd2,hy,hy',hq1,hxo,htv,hR,har,hk1,hk2,hl,-Int.natCast_add]
           refine zaG hρ hE hcon hi hxi hy hy' hll q5 (Less.auto (by simp) (by simp) (by simp) (by simp<;>(intro x hx;first|omega|exact⟨.inl hx,by omega⟩))) ?_
           simp [hE,hw,-Int.natCast_add]
           exact hnew _ _ (Less.auto (by simp[-Int.natCast_add]) (by simp) (by simp) (by simp<;>(intro x hx;first|omega|exact⟨.inl hx,by omega⟩)))
         | true =>
           simp [zfZ,hE,h5,h6,h7,h8,zat,zbG,hi,hi',hxi,hx',hd1,hd2,hy,hy',hq1,hxo,htv,hR,har,hk1,hk2,hl,-Int.natCast_add]
           refine zaG hρ hE hcon hi hxi hy hy' hll q5 (Less.auto (by simp) (by simp) (by simp) (by simp<;>(intro x hx;first|omega|exact⟨.inl hx,by omega⟩))) ?_
           simp [hE,hw,-Int.natCast_add]
           exact hnew _ _ (Less.auto (by simp[-Int.natCast_add]) (by simp) (by simp) (by simp<;>(intro x hx;first|omega|exact⟨.inl hx,by omega⟩)))
     | true =>
       obtain rfl:=q3 rfl
       cases ok with
       | false =>
         simp [zfZ,hE,h5,h6,h7,h8,zat,zbG,hi,hi',hxi,hx',hd1,hd2,hy,hy',hq1,hxo,htv,hR,har,hk1,hk2,hl,-Int.natCast_add]
         refine zaG hρ hE hcon hi hxi hy hy' hll q5 (Less.auto (by simp) (by simp) (by simp) (by simp<;>(intro x hx;first|omega|exact⟨.inl hx,by omega⟩))) ?_
         simp [hE,hw,-Int.natCast_add]
         exact hnew _ _ (Less.auto (by simp[-Int.natCast_add]) (by simp) (by simp) (by simp<;>(intro x hx;first|omega|exact⟨.inl hx,by omega⟩)))
       | true =>
         cases ac with
         | false =>
           simp [zfZ,hE,h5,h6,h7,h8,zat,zbG,hi,hi',hxi,hx',hd1,hd2,hy,hy',hq1,hxo,htv,hR,har,hk1,hk2,hl,-Int.natCast_add]
           refine zaG hρ hE hcon hi hxi hy hy' hll q5 (Less.auto (by simp) (by simp) (by simp) (by simp<;>(intro x hx;first|omega|exact⟨.inl hx,by omega⟩))) ?_
           simp [hE,hw,-Int.natCast_add]
           exact hnew _ _ (Less.auto (by simp[-Int.natCast_add]) (by simp) (by simp) (by simp<;>(intro x hx;first|omega|exact⟨.inl hx,by omega⟩)))
         | true =>
           simp [zfZ,hE,h5,h6,h7,h8,zat,zbG,hi,hi',hxi,hx',hd1,hd2,hy,hy',hq1,hxo,htv,hR,har,hk1,hk2,hl,-Int.natCast_add]
           refine zaG hρ hE hcon hi hxi hy hy' hll q5 (Less.auto (by simp) (by simp) (by simp) (by simp<;>(intro x hx;first|omega|exact⟨.inl hx,by omega⟩))) ?_
           simp [hE,hw,-Int.natCast_add]
           exact hnew _ _ (Less.auto (by simp[-Int.natCast_add]) (by simp) (by simp) (by simp<;>(intro x hx;first|omega|exact⟨.inl hx,by omega⟩)))
   | true =>
     obtain rfl:=q2 rfl
     cases yb with
     | false =>
       cases ok with
       | false =>
         simp [zfZ,hE,h5,h6,h7,h8,zat,zbG,hi,hi',hxi,hx',hd1,hd2,hy,hy',hq1,hxo,htv,hR,har,hk1,hk2,hl,-Int.natCast_add]
         refine zaG hρ hE hcon hi hxi hy hy' hll q5 (Less.auto (by simp) (by simp) (by simp) (by simp<;>(intro x hx;first|omega|exact⟨.inl hx,by omega⟩))) ?_
         simp [hE,hw,-Int.natCast_add]
         exact hnew _ _ (Less.auto (by simp[-Int.natCast_add]) (by simp) (by simp) (by simp<;>(intro x hx;first|omega|exact⟨.inl hx,by omega⟩)))
       | true =>
         cases ac with
         | false =>
           simp [zfZ,hE,h5,h6,h7,h8,zat,zbG,hi,hi',hxi,hx',hd1,hd2,hy,hy',hq1,hxo,htv,hR,har,hk1,hk2,hl,-Int.natCast_add]
           refine zaG hρ hE hcon hi hxi hy hy' hll q5 (Less.auto (by simp) (by simp) (by simp) (by simp<;>(intro x hx;first|omega|exact⟨.inl hx,by omega⟩))) ?_
           simp [hE,hw,-Int.natCast_add]
           exact hnew _ _ (Less.auto (by simp[-Int.natCast_add]) (by simp) (by simp) (by simp<;>(intro x hx;first|omega|exact⟨.inl hx,by omega⟩)))
         | true =>
           exact absurd (q4 rfl rfl rfl) (by decide)
     | true =>
       obtain rfl:=q3 rfl
       cases ok with
       | false =>
         simp [zfZ,hE,h5,h6,h7,h8,zat,zbG,hi,hi',hxi,hx',hd1,hd2,hy,hy',hq1,hxo,htv,hR,har,hk1,hk2,hl,-Int.natCast_add]
         refine zaG hρ hE hcon hi hxi hy hy' hll q5 (Less.auto (by simp) (by simp) (by simp) (by simp<;>(intro x hx;first|omega|exact⟨.inl hx,by omega⟩))) ?_
         simp [hE,hw,-Int.natCast_add]
         exact hnew _ _ (Less.auto (by simp[-Int.natCast_add]) (by simp) (by simp) (by simp<;>(intro x hx;first|omega|exact⟨.inl hx,by omega⟩)))
       | true =>
         cases ac with
         | false =>
           simp [zfZ,hE,h5,h6,h7,h8,zat,zbG,hi,hi',hxi,hx',hd1,hd2,hy,hy',hq1,hxo,htv,hR,har,hk1,hk2,hl,-Int.natCast_add]
           refine zaG hρ hE hcon hi hxi hy hy' hll q5 (Less.auto (by simp) (by simp) (by simp) (by simp<;>(intro x hx;first|omega|exact⟨.inl hx,by omega⟩))) ?_
           simp [hE,hw,-Int.natCast_add]
           exact hnew _ _ (Less.auto (by simp[-Int.natCast_add]) (by simp) (by simp) (by simp<;>(intro x hx;first|omega|exact⟨.inl hx,by omega⟩)))
         | true =>
           simp [zfZ,hE,h5,h6,h7,h8,zat,zbG,hi,hi',hxi,hx',hd1,hd2,hy,hy',hq1,hxo,htv,hR,har,hk1,hk2,hl,-Int.natCast_add]
           refine zaG hρ hE hcon hi hxi hy hy' hll q5 (Less.auto (by simp) (by simp) (by simp) (by simp<;>(intro x hx;first|omega|exact⟨.inl hx,by omega⟩))) ?_
           simp [hE,hw,-Int.natCast_add]
           exact hnew _ _ (Less.auto (by simp[-Int.natCast_add]) (by simp) (by simp) (by simp<;>(intro x hx;first|omega|exact⟨.inl hx,by omega⟩)))
end
end Go.Proofs.YtfgmnebfhemnpaaGreat
