/- Texts of the proof, one behind the other: Tail, StW, StX, StY. No condition but those that each names. -/
import Derived.Test.YtlholdllibghbaaGreatG09
import Derived.Test.YtlholdllibghbaaGreatG10
import Derived.Test.YtlholdllibghbaaGreatG21
import Derived.Test.YtlholdllibghbaaGreatG17
import Derived.Test.YtlholdllibghbaaGreatG18
import Derived.Test.YtlholdllibghbaaGreatG20
import Derived.Test.YtlholdllibghbaaGreatKit
set_option maxRecDepth 100000
set_option maxHeartbeats 8000000
namespace Go.Cit
open Go Go.RowKit
section
variable {P:Program} {o:Oper} {ρ:Operand→Value} {w:World}
theorem Aa {post:Value→World→Prop} {T E:TypeId} {b k n:Nat} {C D:Array Value} (hi:(P.info? T).map (·.size)=some n) (x y:Operand) (ho:o.op= .store T x y) (hx:ρ x= .pointer (some ⟨b,k,none⟩)) (hy:ρ y= .agg D) (hn:D.size=n) (hb:w.heap[b]? =some (.cells C E (0,0)))
 (hl:k+n≤C.size) (h1:D.all (·.oneCell')=true) (hp:∀w',w'.heap[b]? =some (.cells (xU C k D.toList) E (0,0))→Save (· ≠b) w w'→post undef w'):bK P post ((execOp ρ o).run P w):=
 uo (wQ hi x y ho hx hy hn hb hl h1) (hp _ (jB hb) (jI _ _ _))
end
end Go.Cit
namespace Go.Proofs.YtlholdllibghbaaGreat
end Go.Proofs.YtlholdllibghbaaGreat
namespace Go.Cit
open Go Go.RowKit
section
variable {α:Type} {f:α→List Value} {n E:Nat}
theorem Cb {C:Array Value} {o:Nat} {D:List Value} (h:o+D.length≤C.size) (j:Nat):(xU C o D)[j]? =if o≤j∧j<o+D.length then D[j-o]? else C[j]? :=by
 have hl:C.toList.length=C.size:=by simp
 unfold xU
 rw[List.getElem?_toArray]
 simp only[List.getElem?_append,List.length_append,List.length_take,List.getElem?_take,List.getElem?_drop,hl]
 have e1:min o C.size=o:=by omega
 rw[e1]
 by_cases h1:j<o
 ·simp[h1,show j<o+D.length by omega,show ¬o≤j by omega]
 ·by_cases h2:j<o+D.length
  ·simp[h1,h2,show o≤j by omega]
  ·simp only[h1,h2,if_false,show ¬(o≤j∧j<o+D.length) by omega]
   rw[show o+D.length+(j-(o+D.length))=j by omega]
   simp
theorem Held.room {w:World} {g:Nat} {l:List α} {cap:Nat} (h:Held f n E w g l cap) (hf:∀x,(f x).length=n) {k:Nat} (hk:k<l.length) {cs:Array Value} (h2:w.heap[g]? =some (.cells cs E (0,0))):k*n+n≤cs.size:=by
 rcases Nat.eq_zero_or_pos n with h0 |h0
 ·subst h0
  rcases Nat.eq_zero_or_pos cs.size with _ |_<;>simp
 ·have hkc:=h.vec.cell k hk (n-1) AL
  rw[iG,cell_of_row _ g (k*n+(n-1)) _ E (0,0) h2] at hkc
  have hj':n-1<(f l[k]).length:=by rw[hf];omega
  rw[List.getElem?_eq_getElem hj'] at hkc
  have:=(Array.getElem?_eq_some_iff.1 hkc).1
  omega
theorem Held.Iq {w w':World} {g:Nat} {l:List α} {cap:Nat} (h:Held f n E w g l cap) (hf:∀x,(f x).length=n) {k:Nat} (hk:k<l.length) {x:α} {cs:Array Value} (h2:w.heap[g]? =some (.cells cs E (0,0))) (h':w'.heap[g]? =some (.cells (xU cs (k*n) (f x)) E (0,0))):Held f n E w' g (l.set k x) cap:=by
 have hr:=h.room hf hk h2
 have h1:=h.vec
 refine⟨⟨by rw[List.length_set];exact h1.le,h1.top,h1.nil,fun _=>⟨g,0,rfl⟩,fun i hi q hq=> ?_⟩,_,h'⟩
 rw[List.length_set] at hi
 rw[iG,cell_of_row _ g (i*n+q) _ E (0,0) h',Cb (by rw[hf];exact hr)]
 have hc:=h1.cell i hi q hq
 rw[iG,cell_of_row _ g (i*n+q) _ E (0,0) h2] at hc
 rw[List.getElem_set,hf]
 by_cases hik:k=i
 ·subst hik
  rw[if_pos rfl,if_pos AL,show k*n+q-k*n=q by omega]
 ·rw[if_neg hik,if_neg,hc]
  rintro⟨h3,h4⟩
  rcases Nat.lt_or_gt_of_ne hik with h5 |h5
  ·have:=Nat.mul_le_mul_right n (show k+1≤i by omega)
   rw[Nat.add_mul] at this;omega
  ·have:=Nat.mul_le_mul_right n (show i+1≤k by omega)
   rw[Nat.add_mul] at this;omega
end
end Go.Cit
namespace Go.Proofs.YtlholdllibghbaaGreat
open Go Go.RowKit Go.Cit
structure Gf (N:Nat) (w:World) (u:bU):Prop where
 pts:Vec bG 14 w u.pa u.ps u.pc
 pb:∀g,blk u.pa=some g→N≤g∧∃cs,w.heap[g]? =some (.cells cs 42 (0,0))
 mem:∀x∈u.ps,Cit.Own 5 N w x.a x.mem x.c
 wJ:u.qs=[]
 qv:Vec bZ 6 w u.qa [] u.qc
theorem Gf.at {N:Nat} {w:World} {u:bU} (h:Gf N w u):u.At w:=⟨h.pts,fun x hx=>(h.mem x hx).isRow,by rw[h.wJ];exact h.qv,fun x hx=>by rw[h.wJ] at hx;simp at hx⟩
theorem Gf.off {N k:Nat} {w w':World} {u:bU} {C:Array Value} {fr:Nat×Nat} (h:Gf N w u) (hs:Save (· ≠k) w w') (hk:w.heap[k]? =some (.cells C 32 fr)):Gf N w' u:=by
 have e:∀g,blk u.pa=some g→g≠k:=fun g hg he=>by
  obtain⟨_,cs,hc⟩:=h.pb g hg
  rw[he,hk] at hc
  injection hc with hc;injection hc with _ h2
  exact absurd h2 AP
 exact⟨h.pts.save aH hs fun _ g hg=>e g hg,fun g hg=>⟨(h.pb g hg).1,let⟨cs,hc⟩:=(h.pb g hg).2;⟨cs,(hs.block g (Array.getElem?_eq_some_iff.1 hc).1 (e g hg)).trans hc⟩⟩,fun x hx=>(h.mem x hx).save hs fun g hg he=>own_ne (h.mem x hx) hk AP (he▸hg),h.wJ,h.qv.save aT hs fun h0=>absurd rfl h0⟩
def IW (wb:World) (N g k:Nat) (L:List aK) (k3:Nat) (x:aK):List Value→World→Prop
 | [],wx=>Below wb.heap.size wb wx
 | [v],wx=>Below wb.heap.size wb wx∧∃a c,v= .agg (cP (x.new a c))∧Cit.Own 5 N wx a x.mem c
 | [_,_],wx=>∃a c,Held bG 14 42 wx g (L.set k (x.new a c)) k3∧Cit.Own 5 N wx a x.mem c∧Save (· ≠g) wb wx
 | _,_=>False
theorem zu {wb wx:World} {N g k:Nat} {L:List aK} {k3:Nat} {x:aK} {vs:List Value} (h:IW wb N g k L k3 x vs wx) (hl:vs.length≤1):Below wb.heap.size wb wx:=by
 match vs,h,hl with
 | [],h,_=>exact h
 | [_],h,_=>exact h.1
theorem F8:(Tryz.prog.info? 42).map (·.size)=some 14:=by kernel_rfl
def Ja (x:aK) (L:List aK) (B _ g k k3:Nat) (_:Nat→Value):Nat→Value
 | 21=>(.pointer (some ⟨B,1,none⟩))
 | 22=>(.slice (some ⟨g,0,none⟩) L.length k3)
 | 23=>(.int .i64 (k:Int))
 | 24=>(.agg (cP x))
 | 26=>(.pointer (some ⟨g,k*14,none⟩))
 | _=>undef
def Ip:Nat→Nat
 | _=>0
def Il (_:aK) (_:List aK) (B b4 _ k _:Nat):Nat→Value
 | 1=>(.pointer (some ⟨B,0,none⟩))
 | 3=>(.int .i64 (k:Int))
 | 4=>(.pointer (some ⟨b4,0,none⟩))
 | _=>undef
theorem uK (w:World) (s:bU) (hs:s.At w) (hq:s.qs=[]) (hl:s.ps.length≤1000) (hm:∀x∈s.ps,x.mem.length≤1000000000):Calls Tryz.prog 98 #[.agg (dO s).toArray] w fun e w'=>∃u:bU,e= .returned (.agg (dO u).toArray)∧u.fG=s.fG∧Gf w.heap.size w' u∧Below w.heap.size w w':=by
 obtain⟨B,hB⟩:=AV (w.heap.size)
 obtain⟨w0,hw0⟩:=AV ((w.alloc (.cells (dO s).toArray 32)).alloc (.cells #[.int .i64 0, .slice none 0 0, .slice none 0 0] 32))
 have B0:Below w.heap.size w w0:=by rw[hw0];exact((Below.refl _ w).alloc (Nat.le_refl _) _).alloc AO _
 have hx1:w0.heap[B]? =some (.cells #[.int .i64 s.fr.1, .slice s.pa s.ps.length s.pc, .slice s.qa s.qs.length s.qc] 32 (0,0)):=by rw[hw0,hB];exact(Below.heap_alloc _ _ _ AO).trans (heap_alloc_new w _)
 have hx2:w0.heap[B+1]? =some (.cells #[.int .i64 0, .slice none 0 0, .slice none 0 0] 32 (0,0)):=by
  have:=heap_alloc_new (w.alloc (.cells (dO s).toArray 32)) (.cells #[.int .i64 0, .slice none 0 0, .slice none 0 0] 32)
  rw[World.size_alloc] at this
  rw[hw0,hB];exact this
 have HS0:=AQ (hs.stay B0)
 have HK:=AQ (tZ w0 s.pa s.ps s.pc (hs.stay B0).pts hl)
 have H0:=AQ (And.intro hx1 (And.intro hx2 B0))
 have c1:=ak hx1 1 rfl
 have hl1:=hs.pts.aI
 have HQ:=AQ hq
 have HS:=AQ hs
 clear hs hx1 hx2 B0 hq
 go_enter Tryz.func98,Tryz.ntmps98
 go_upto_region 1 with fail
 rw[←hw0,←hB]
 have HBB:=AQ hB
 clear hw0 hB
 go_wp2_with fail
 refine(HK.o).mono ?_
 rintro e w1 ⟨a1,k1,rfl,hO1,hb1⟩
 have hxB:=ay H0.o.1 hb1
 have c1:=ak hxB 1 rfl
 have f1:=cu hxB 1
 obtain⟨w2,hw2⟩:=AV (w1.setCell ⟨B,1,none⟩ (.slice a1 s.ps.length k1))
 have hs2:Save (· ≠B) w1 w2:=by rw[hw2];exact Save.set
 have hB2:w2.heap[B]? =some (.cells #[.int .i64 s.fr.1, .slice a1 s.ps.length k1, .slice s.qa s.qs.length s.qc] 32 (0,0)):=by rw[hw2];exact bT _ hxB
 have hBlt:=(Array.getElem?_eq_some_iff.1 hxB).1
 have hR2:=(hs2.block (B+1) (Array.getElem?_eq_some_iff.1 (ay H0.o.2.1 hb1)).1 AL).trans (ay H0.o.2.1 hb1)
 have hO2:=(hO1.low H0.o.2.2.size).save hs2 (fun g hg=>iJ hO1 hxB DU g hg)
 have hb02:Save (· ≠B) w0 w2:=(Save.of hb1).trans hs2
 have H2:=AQ (And.intro hB2 (And.intro hR2 (And.intro hO2 hb02)))
 clear hxB hs2 hB2 hR2 hO2 hb02 hO1 hb1 HK
 go_upto_region 2 with fail
 rw[←hw2]
 clear hw2 c1 f1
 have c1:=ak H2.o.1 1 rfl
 have HB2:Hid (Below w.heap.size w w2):=H0.o.2.2.trans (H2.o.2.2.2.below H0.o.2.2.size fun j hj=>by have:=HBB.o;show j≠B;omega)
 have HOLD:Hid (∀ {wx:World},Save (fun j=>some j≠blk a1) w2 wx→Below w.heap.size w wx):=fun {wx} hsv=>HB2.o.trans (hsv.below HB2.o.size fun j hj e=>by have:=(H2.o.2.2.1.aQ e.symm).1;omega)
 have HAB:Hid (blk a1≠some B∧blk a1≠some (B+1)):=⟨fun e=>iJ H2.o.2.2.1 H2.o.1 DU B e rfl,fun e=>iJ H2.o.2.2.1 H2.o.2.1 DU (B+1) e rfl⟩
 go_wp2_with fail
 go_loopw [16] (fun i wr=>∃(k:Nat) (L:List aK),i= .int .i64 (k:Int)∧k≤s.ps.length∧Hid (L.length=s.ps.length)∧Hid (L.map aK.prt=s.ps.map aK.prt)∧Hid (∀j (hj:j<L.length),j<k→Cit.Own 5 w.heap.size wr L[j].a L[j].mem L[j].c)∧Hid (∀j (hj:j<L.length) (hv:j<s.ps.length),k≤j→L[j]=s.ps[j])∧Vec bG 14 wr a1 L k1∧(∀g,blk a1=some g→∃cs,wr.heap[g]? =some (.cells cs 42 (0,0)))∧Save (fun j=>some j≠blk a1) w2 wr) (fun i _=>s.ps.length-(intOf i).toNat)
 case atStart=>exact⟨0,s.ps,rfl,Nat.zero_le _,rfl,rfl,fun j hj h=>by omega,fun j hj hv h=>rfl,H2.o.2.2.1.vec aH,fun g hg=>pO H2.o.2.2.1 hg,Save.refl _ _⟩
 case round=>
  obtain⟨k,L,rfl,hk,HLl,HLM,HLO,HLV,hV,hBk,hSv⟩:=hrel
  by_cases hlt:k<s.ps.length
  ·have hltL:k<L.length:=by rw[HLl.o];exact hlt
   obtain⟨g,hag,hgB,_⟩:=Dn H2.o.2.2.1 (by intro h0;rw[h0] at hlt;simp at hlt)
   have hblk:∀j,(some j≠blk a1)=(j≠g):=fun j=>by rw[hag];simp[blk]
   have hH:Held bG 14 42 wr g L k1:=⟨by rw[←hag];exact hV,hBk g (by rw[hag];rfl)⟩
   obtain⟨x,hx⟩:∃x,Hid (x=L[k]):=⟨L[k],rfl⟩
   have hxs:x=s.ps[k]:=by rw[hx.o];exact HLV.o k hltL hlt (Nat.le_refl _)
   obtain⟨b4,hb4⟩:=AV (wr.heap.size)
   obtain⟨wb,hwb⟩:=AV (wr.alloc (.cells (cP x) 42))
   have hbb:Below wr.heap.size wr wb:=by rw[hwb];exact(Below.refl _ _).alloc (Nat.le_refl _) _
   have hBw:=HOLD.o hSv
   have HX4:Hid (wb.heap[b4]? =some (.cells (cP x) 42 (0,0))):=by rw[Hid,hwb,hb4];exact heap_alloc_new _ _
   have HRX:Hid (Row wb x.a x.mem x.c):=by rw[Hid,hxs];exact((HS.o.mem _ (List.getElem_mem hlt)).stay hBw).stay hbb
   have HML:Hid (x.mem.length≤1000000000):=by rw[Hid,hxs];exact hm _ (List.getElem_mem hlt)
   have HNB:Hid (w.heap.size≤wb.heap.size):=Nat.le_trans hBw.size hbb.size
   have HH:=AQ (hH.stay aH hbb)
   have HLT:=AQ hltL
   have hcB:=(hSv.block B (Array.getElem?_eq_some_iff.1 H2.o.1).1 (fun e=>HAB.o.1 e.symm)).trans H2.o.1
   have HC1:Hid (wb.cell? ⟨B,1,none⟩=some (.slice (some ⟨g,0,none⟩) L.length k1)):=by rw[Hid,HLl.o,←hag];exact keep hbb (ak hcB 1 rfl)
   have hi:∀w,(Instr.indexAt 29 (.slice (some ⟨g,0,none⟩) L.length k1) (.int .i64 (k:Int))).run Tryz.prog w= .ok (.pointer (some ⟨g,k*14,none⟩)) w:=by
    have:=hH.vec.index dD k hltL
    rwa[iG] at this
   have HI0:=AQ hi
   have i0:∀w,(Instr.indexAt 29 (.slice a1 s.ps.length k1) (.int .i64 (k:Int))).run Tryz.prog w= .ok (.pointer (some ⟨g,k*14,none⟩)) w:=by rw[hag,←HLl.o];exact hi
   have L1:Hid ((Instr.loadAt 42 (.pointer (some ⟨g,k*14,none⟩))).run Tryz.prog wr= .ok (.agg (cP x)) wr):=by
    have:=hH.vec.gV dD jo aH (Below.refl _ wr) k hltL
    rw[iG] at this
    rw[Hid,hx.o];exact this
   have HP:=AQ (And.intro hag (And.intro hblk (And.intro hBk (And.intro hSv (And.intro hbb hgB)))))
   have HLTs:=AQ hlt
   have HLOb:Hid (∀j (hj:j<L.length),j<k→Cit.Own 5 w.heap.size wb L[j].a L[j].mem L[j].c):=fun j hj h=>(HLO.o j hj h).stay hbb
   clear hag hgB hblk hH hxs hBw hcB hi hV hBk hSv hbb
   go_upto_region 5 with (first
    | (with_reducible refine ku (o:=⟨some 20, .load _ (.tmp 19),_,_,_,_⟩) L1.o ?_)
    | (with_reducible refine yD (d:=4) (X:=cP x) dR oh (dZ _) (jO _) ?_))
   rw[←hwb,←hb4]
   clear hwb hb4 L1 i0
   refine jl (Ja x L B b4 g k k1) Ip (Il x L B b4 g k k1) [1,3,4] [4,6] (IW wb w.heap.size g k L k1 x) AB AB AB AB ⟨rfl,rfl,rfl,trivial⟩ (fun _ _ _ _=>rfl) (fun w' ha=>ha.1) ?_ ?_
   ·refine ah ?_ (ah ?_ (ah ?_ (ah ?_ (ah ?_ (ah ?_ (ah ?_ dL))))))
    all_goals intro ac vs hk
    ·exact⟨aj rfl, .inr ⟨by decide,fun s1 s2 hle wx hst=>dh (.tmp 1) rfl (show ac.eval (.tmp 1)=(.pointer (some ⟨B,0,none⟩)) from hk.old 1 AB) (v:=(.pointer (some ⟨B,1,none⟩))) (fun w=>AB) ⟨hst,rfl⟩⟩⟩
    ·exact⟨aj rfl, .inr ⟨by decide,fun s1 s2 hle wx hst=>bP (.tmp 21) rfl (show ac.eval (.tmp 21)=(.pointer (some ⟨B,1,none⟩)) from hk.slot 21 AB AB) (v:= .slice (some ⟨g,0,none⟩) L.length k1) (bg (fun w=>AB) (keep (zu hst (s2 1 6 rfl AB)) HC1.o)) ⟨hst,rfl⟩⟩⟩
    ·exact⟨aj rfl, .inr ⟨by decide,fun s1 s2 hle wx hst=>kF (.tmp 3) rfl ⟨hst,(show ac.eval (.tmp 3)=(.int .i64 (k:Int)) from hk.old 3 AB)⟩⟩⟩
    ·exact⟨aj rfl, .inr ⟨by decide,fun s1 s2 hle wx hst=>bP (.tmp 4) rfl (show ac.eval (.tmp 4)=(.pointer (some ⟨b4,0,none⟩)) from hk.old 4 AB) (v:= .agg (cP x)) (sF (ay HX4.o (zu hst (Nat.le_trans (s2 0 4 rfl AB) AP)))) ⟨hst,rfl⟩⟩⟩
    ·refine⟨aj rfl, .inl ⟨0,rfl,fun hvs wx hst=> ?_⟩⟩
     obtain rfl:vs=[]:=List.length_eq_zero_iff.1 hvs
     refine dw rfl (hk.fn _) #[.agg (cP x)] (fun w=>AB) (by simp only[List.map_toArray,List.map_cons,List.map_nil,(show ac.eval (.tmp 24)=(.agg (cP x)) from hk.slot 24 AB AB)]) ((nV wx x (HRX.o.stay hst) HML.o).mono ?_)
     rintro e w' ⟨a,c,rfl,hO,hb⟩
     exact⟨_,rfl,Below.trans hst (hb.mono (Below.size hst)),a,c,rfl,hO.low (Nat.le_trans HNB.o (Below.size hst))⟩
    ·exact⟨aj rfl, .inr ⟨by decide,fun s1 s2 hle wx hst=>Ci (.tmp 22) (.tmp 23) rfl (show ac.eval (.tmp 22)=(.slice (some ⟨g,0,none⟩) L.length k1) from hk.slot 22 AB AB) (show ac.eval (.tmp 23)=(.int .i64 (k:Int)) from hk.slot 23 AB AB) (v:= .pointer (some ⟨g,k*14,none⟩)) (HI0.o wx) ⟨hst,rfl⟩⟩⟩
    ·refine⟨aj rfl, .inl ⟨1,rfl,fun hvs wx hst=> ?_⟩⟩
     have e26:=(show ac.eval (.tmp 26)=(.pointer (some ⟨g,k*14,none⟩)) from hk.slot 26 AB AB)
     have e25:=(show ac.eval (.tmp 25)=wZ vs 0 from(hk.line 0 25 AB AB).2)
     obtain⟨v,rfl⟩:∃v,vs=[v]:=List.length_eq_one_iff.1 hvs
     obtain⟨hb,a,c,rfl,hO⟩:=hst
     have hH:=HH.o.stay aH hb
     obtain⟨cs,hcs⟩:=hH.blk
     refine Aa F8 (.tmp 26) (.tmp 25) rfl e26 e25 (dZ _) hcs (hH.room aH HLT.o hcs) (jO _) fun w' h1 h2=>⟨a,c,hH.Iq aH HLT.o hcs h1,hO.save h2 fun j hj e=>own_ne hO hcs AP (e▸hj),(Save.of hb).trans h2⟩
   intro ac vs wz hlen9 hfin hsame hall hline
   have he:=fB hsame [21,22,23,24,25,26] AB
   simp only[List.foldl_cons,List.foldl_nil] at he
   generalize ac.eval (.tmp 21)=y21 at he
   generalize ac.eval (.tmp 22)=y22 at he
   generalize ac.eval (.tmp 23)=y23 at he
   generalize ac.eval (.tmp 24)=y24 at he
   generalize ac.eval (.tmp 25)=y25 at he
   generalize ac.eval (.tmp 26)=y26 at he
   simp only[iK] at he
   dsimp only[List.set_cons_zero,List.set_cons_succ] at he
   subst he
   clear hsame hall hline
   obtain⟨u,v,rfl⟩:∃u v,vs=[u,v]:=by
    match vs,hlen9 with
    | [u,v],_=>exact⟨u,v,rfl⟩
   obtain⟨a,c,hHz,hOz,hSz⟩:=hfin
   have HZ:=AQ (And.intro hHz (And.intro hOz hSz))
   clear hHz hOz hSz hlen9
   go_wp2_with fail
   go_roundw
   case rel=>
    obtain⟨hag,hblk,hBk,hSv,hbb,hgB⟩:=HP.o
    have hlt:=HLTs.o
    have hz:=HZ.o
    refine⟨k+1,L.set k (x.new a c),by go_num,hlt,by rw[Hid,List.length_set];exact HLl.o, ?_,fun j hj h=> ?_,fun j hj hv h=> ?_,by rw[hag];exact hz.1.vec,fun g' hg'=> ?_, ?_⟩
    ·rw[Hid,EW aK.prt L k (x.new a c) HLT.o (by rw[←hx.o];rfl),HLM.o]
    ·rw[List.length_set] at hj
     rw[List.getElem_set]
     by_cases he:k=j
     ·subst he
      rw[if_pos rfl];exact hz.2.1
     ·rw[if_neg he]
      obtain⟨cs,hcs⟩:=HH.o.blk
      exact(HLOb.o j hj AL).save hz.2.2 fun j' hj' e=>own_ne (HLOb.o j hj AL) hcs AP (e▸hj')
    ·rw[List.length_set] at hj
     rw[List.getElem_set,if_neg AL]
     exact HLV.o j hj hv AL
    ·obtain rfl:g'=g:=by rw[hag] at hg';simpa[blk] using hg'.symm
     exact hz.1.blk
    ·have h1:Save (fun j=>some j≠blk a1) wb wz:=hz.2.2.less fun j _ h=>by rw[hblk] at h;exact h
     exact hSv.trans ((Save.of hbb).trans h1)
   case measure=>have:=HLTs.o;simp[intOf];omega
  ·have hk2:k=s.ps.length:=by omega
   have hcB:=(hSv.block B (Array.getElem?_eq_some_iff.1 H2.o.1).1 (fun e=>HAB.o.1 e.symm)).trans H2.o.1
   have hcR:=(hSv.block (B+1) (Array.getElem?_eq_some_iff.1 H2.o.2.1).1 (fun e=>HAB.o.2 e.symm)).trans H2.o.2.1
   have hq0:s.qs.length=0:=by rw[HQ.o];rfl
   rw[hq0] at hcB
   have hqv:Vec bZ 6 wr s.qa [] s.qc:=by have:=HS.o.wJ.stay aT (HOLD.o hSv);rwa[HQ.o] at this
   have HK:=AQ (sS wr s.qa [] s.qc hqv AP)
   have HF:=AQ (And.intro hV (And.intro hBk (And.intro hSv (And.intro hcB hcR))))
   have HLO2:Hid (∀x∈L,Cit.Own 5 w.heap.size wr x.a x.mem x.c):=fun x hx=>by
    obtain⟨j,hj,rfl⟩:=List.mem_iff_getElem.1 hx
    exact HLO.o j hj (by have:=HLl.o;omega)
   have c2:=ak hcB 2 rfl
   clear hV hBk hSv hcB hcR hq0 hqv hk2 c1
   go_upto_region 7 with fail
   go_wp2_with fail
   refine(HK.o).mono ?_
   rintro e w5 ⟨a2,k2,rfl,hO2,hb5⟩
   have hcB:=ay HF.o.2.2.2.1 hb5
   have hcR:=ay HF.o.2.2.2.2 hb5
   have c2:=ak hcB 2 rfl
   have f2:=cu hcB 2
   obtain⟨w6,hw6⟩:=AV (w5.setCell ⟨B,2,none⟩ (.slice a2 0 k2))
   have hs6:Save (· ≠B) w5 w6:=by rw[hw6];exact Save.set
   have hB6:w6.heap[B]? =some (.cells #[.int .i64 s.fr.1, .slice a1 s.ps.length k1, .slice a2 0 k2] 32 (0,0)):=by rw[hw6];exact bT _ hcB
   have hR6:=(hs6.block (B+1) (Array.getElem?_eq_some_iff.1 hcR).1 (by show B+1≠B;omega)).trans hcR
   have hO6:=hO2.save hs6 (fun g hg=>iJ hO2 hcB Gh g hg)
   have hV6:=(HF.o.1.stay aH hb5).save aH hs6 (fun _ g hg e=>HAB.o.1 (by rw[hg];exact congrArg some e))
   have hM6:∀x∈L,Cit.Own 5 w.heap.size w6 x.a x.mem x.c:=fun x hx=>by
    have h1:=(HLO2.o x hx).stay hb5
    exact h1.save hs6 fun g hg e=>own_ne h1 hcB AP (e▸hg)
   have hP6:∀g,blk a1=some g→∃cs,w6.heap[g]? =some (.cells cs 42 (0,0)):=fun g hg=>by
    obtain⟨cs,hc⟩:=HF.o.2.1 g hg
    exact⟨cs,(hs6.block g (Array.getElem?_eq_some_iff.1 (ay hc hb5)).1 (fun e=>HAB.o.1 (by rw[hg];exact congrArg some e))).trans (ay hc hb5)⟩
   have hbw6:Below w.heap.size w w6:=by
    have h1:=HOLD.o HF.o.2.2.1
    have h2:=h1.trans (hb5.mono h1.size)
    exact h2.trans (hs6.below h2.size fun j hj=>by have:=HBB.o;show j≠B;omega)
   have H6:=AQ (And.intro hB6 (And.intro hR6 (And.intro hO6 (And.intro hV6 (And.intro hM6 (And.intro hbw6 hP6))))))
   have L9:=AQ (show(Instr.loadAt 32 (.pointer (some ⟨B,0,none⟩))).run Tryz.prog w6= .ok (.agg #[.int .i64 s.fr.1, .slice a1 s.ps.length k1, .slice a2 0 k2]) w6 from jG (fun w=>AB) (fun w=>AB) (ak hB6 0 rfl) (ak hB6 1 rfl) (ak hB6 2 rfl))
   clear hcB hcR hs6 hB6 hR6 hO6 hV6 hM6 hbw6 hP6 hO2 hb5 HK
   go_upto_region 8 with fail
   rw[←hw6]
   clear hw6 c2 f2
   have c2:=ak H6.o.1 2 rfl
   go_wp2_with fail
   go_loopw [35] (fun i wr=>i= .int .i64 0∧wr=w6) (fun i _=>0)
   case atStart=>exact⟨rfl,rfl⟩
   case round=>
    obtain⟨rfl,rfl⟩:=hrel
    go_wp2_with (first
     | (with_reducible refine ku (o:=⟨some 68, .load _ (.tmp 1),_,_,_,_⟩) L9.o ?_)
     | ((with_reducible refine aV (o:=⟨none, .store _ (.tmp 2) _,_,_,_,_⟩) dF (.tmp 2) (.tmp 68) AA AA AA AA AA H6.o.2.1 AA AA AA ?_);intro w9 hg9 hs9))
    obtain⟨hB6,hR6,hO6,hV6,hM6,hbw6,hP6⟩:=H6.o
    have hfr:Gf w.heap.size _ ⟨s.fr,a1,L,k1,a2,[],k2⟩:=⟨hV6,fun g hg=>⟨(H2.o.2.2.1.aQ hg).1,hP6 g hg⟩,hM6,rfl,hO6.vec aT⟩
    refine bodyPost_ret (uV dF rfl (by rfl) hg9 AA) rfl ⟨⟨s.fr,a1,L,k1,a2,[],k2⟩, ?_, ?_,hfr.off hs9 hR6,hbw6.trans (hs9.below hbw6.size fun j hj=>by have:=HBB.o;show j≠B+1;omega)⟩
    ·show Ending.returned (.agg #[.int .i64 s.fr.1, .slice a1 s.ps.length k1, .slice a2 0 k2])= .returned (.agg #[.int .i64 s.fr.1, .slice a1 L.length k1, .slice a2 0 k2])
     rw[HLl.o]
    ·unfold bU.fG
     dsimp only
     rw[HLM.o,HQ.o]
open Go Go.RowKit Go.Cit
def GK (l:List UInt8):Rs:=⟨St.new l,false⟩
def Ig (l:List UInt8):List qg×Rs:=mQ bW 6 (GK l).int.2
def FC (l:List UInt8):List yP×Rs:=mQ dB 8 (Ig l).2
def FD (l:List UInt8):Ah:=⟨(GK l).int.1,(Ig l).1,(FC l).1⟩
def ny (l:List UInt8):Bool:=decide ((FC l).2.s.fin=0) && (!(FC l).2.k && jR (FD l))
theorem kR (w:World) {a:Option Addr} {l:List UInt8} {c:Nat} (h:Row w a l c) (hq:ny l=true→(FC l).1=[]):Calls Tryz.prog 33 #[.slice a l.length c] w fun e w'=>∃u:bU,e= .returned (.tuple #[.agg (dO u).toArray, .int .i64 (if ny l then 0 else 210)])∧u.fG=(if ny l then FD l else jL.fG)∧u.At w'∧Below w.heap.size w w':=by
 obtain⟨w0,hw0⟩:=AV (w.alloc (.cells #[.int .i64 0, .slice none 0 0, .slice none 0 0] 32))
 obtain⟨pr,hpr⟩:=AV (w.heap.size)
 have B0:Below w.heap.size w w0:=by rw[hw0];exact(Below.refl _ w).alloc (Nat.le_refl _) _
 have hxR:w0.heap[pr]? =some (.cells #[.int .i64 0, .slice none 0 0, .slice none 0 0] 32 (0,0)):=by rw[hw0,hpr];exact heap_alloc_new _ _
 have HN:=AQ (oI w0 (h.stay B0))
 have H0:=AQ (And.intro hxR B0)
 have HQ:=AQ hq
 obtain⟨PE,hPE⟩:=AU (ny l)
 obtain⟨PN,hPN⟩:∃x:Int,Hid (x=if ny l then 0 else 210):=⟨_,rfl⟩
 obtain⟨PK,hPK⟩:=AU (if ny l then FD l else jL.fG)
 rw[←hPN.o,←hPK.o]
 rw[←hPE.o] at hPN hPK
 have hl9:=h.aI
 clear h hxR B0 hq
 go_enter Tryz.func33,Tryz.ntmps33
 go_upto_region 1 with fail
 rw[←hw0,←hpr]
 have HPR:=AQ hpr
 clear hw0 hpr
 go_wp2_with fail
 refine(HN.o).mono ?_
 rintro e w1 ⟨rfl,hRd,hb1⟩
 obtain⟨b,hb⟩:=AV (w0.heap.size)
 obtain⟨R,hR⟩:=AV (w1.heap.size)
 obtain⟨w2,hw2⟩:=AV (w1.alloc (.cells #[.pointer (some ⟨b,0,none⟩), .bool false] 137))
 have hb2:Below w1.heap.size w1 w2:=by rw[hw2];exact(Below.refl _ _).alloc (Nat.le_refl _) _
 have hc2:w2.heap[R]? =some (.cells #[.pointer (some ⟨b,0,none⟩), .bool false] 137 (0,0)):=by rw[hw2,hR];exact heap_alloc_new _ _
 rw[←hb,←hR] at hRd
 have hq2:fH b R w2 R b (GK l):=⟨hRd.stay hb2,hc2,Nat.le_refl _⟩
 have hord:pr<b∧b<R∧R<w2.heap.size:=⟨by have:=(Array.getElem?_eq_some_iff.1 H0.o.1).1;omega,by have:=hRd.lt;omega,hq2.lt⟩
 have hp2:=ay (ay H0.o.1 hb1) hb2
 have hB2:Below w.heap.size w w2:=(H0.o.2.trans (hb1.mono H0.o.2.size)).trans (hb2.mono (Nat.le_trans H0.o.2.size hb1.size))
 obtain⟨v0,hv0⟩:=AU ((GK l).int.1)
 obtain⟨q1,hq1⟩:=AU ((GK l).int.2)
 have hk:=dS hq2
 rw[←hv0.o,←hq1.o] at hk
 have HK:=AQ hk
 have c0:=hq2.c0
 have H2:=AQ (And.intro hord (And.intro hp2 hB2))
 clear hRd hb1 hb2 hc2 hq2 hord hp2 hB2 hk HN
 go_upto_region 2 with fail
 rw[←hb,←hw2,←hR]
 have HBR:=AQ (And.intro hb hR)
 clear hb hw2 hR
 go_wp2_with fail
 refine(HK.o).mono ?_
 rintro e w3 ⟨rfl,hR3,hS3⟩
 have hp3:=(hS3.block pr (Array.getElem?_eq_some_iff.1 H2.o.2.1).1 ⟨by have:=H2.o.1;omega,by have:=H2.o.1;omega⟩).trans H2.o.2.1
 obtain⟨S,hS⟩:=AV (w3.heap.size)
 obtain⟨w4,hw4⟩:=AV (w3.alloc (.cells #[.int .i64 v0.1, .slice none 0 0, .slice none 0 0] 32))
 have hb4:Below w3.heap.size w3 w4:=by rw[hw4];exact(Below.refl _ _).alloc (Nat.le_refl _) _
 have hc4:w4.heap[S]? =some (.cells #[.int .i64 v0.1, .slice none 0 0, .slice none 0 0] 32 (0,0)):=by rw[hw4,hS];exact heap_alloc_new _ _
 have hord:pr<b∧b<R∧R<S∧S<w4.heap.size:=⟨H2.o.1.1,H2.o.1.2.1,by have:=H2.o.1.2.2;have:=hS3.size;omega,(Array.getElem?_eq_some_iff.1 hc4).1⟩
 have hR4:=hR3.stay hb4
 have hB4:Below w.heap.size w w4:=by
  have h1:=H2.o.2.2.trans (hS3.below H2.o.2.2.size fun j hj=>by have:=HPR.o;have:=H2.o.1;exact⟨by omega,by omega⟩)
  exact h1.trans (hb4.mono h1.size)
 obtain⟨q2,hq2⟩:=AU ((Ig l).2)
 have hk:Calls Tryz.prog 94 _ w4 fun e w'=>∃a c,∃L:List aK,e= .returned (.slice a L.length c)∧L.map aK.prt=(mQ bW 6 q1).1∧aW bG 14 42 w4.heap.size w' a L c∧(∀x∈L,Ei w' x∧∀g,Ew x g→w4.heap.size≤g∧blk a≠some g)∧fH b R w' R b (mQ bW 6 q1).2∧Save (iw b R) w4 w':=qL hR4 6 AP
 rw[show mQ bW 6 q1=Ig l by rw[hq1.o];rfl,←hq2.o] at hk
 have HK:=AQ hk
 have H4:=AQ (And.intro hord (And.intro hc4 (And.intro (ay hp3 hb4) hB4)))
 clear hR3 hS3 hp3 hb4 hc4 hord hR4 hB4 hk c0
 go_upto_region 3 with fail
 rw[←hw4,←hS]
 have HSS:=AQ hS
 clear hw4 hS
 go_wp2_with fail
 refine(HK.o).mono ?_
 rintro e w5 ⟨a1,k1,L1,rfl,hL1,hO1,hI1,hR5,hS5⟩
 have ho:=H4.o.1
 have hc5:=(hS5.block S ho.2.2.2 ⟨by omega,by omega⟩).trans H4.o.2.1
 have hp5:=(hS5.block pr AL ⟨by omega,by omega⟩).trans H4.o.2.2.1
 have c1:=ak hc5 1 rfl
 have f1:=cu hc5 1
 obtain⟨w6,hw6⟩:=AV (w5.setCell ⟨S,1,none⟩ (.slice a1 L1.length k1))
 have hs6:Save (· ≠S) w5 w6:=by rw[hw6];exact Save.set
 have hc6:w6.heap[S]? =some (.cells #[.int .i64 v0.1, .slice a1 L1.length k1, .slice none 0 0] 32 (0,0)):=by rw[hw6];exact bT _ hc5
 have hp6:=(hs6.block pr (Array.getElem?_eq_some_iff.1 hp5).1 (by show pr≠S;omega)).trans hp5
 have hR6:=hR5.newer hs6 AL AL AL
 have hV6:=(hO1.vec aH).save aH hs6 (fun _ g hg=>by have:=(hO1.aQ hg).1;show g≠S;omega)
 have hI6:∀x∈L1,Ei w6 x∧∀g,Ew x g→w4.heap.size≤g:=fun x hx=>⟨jD (hI1 x hx).1 hs6 fun g hg=>by have:=((hI1 x hx).2 g hg).1;show g≠S;omega,fun g hg=>((hI1 x hx).2 g hg).1⟩
 have hB6:Below w.heap.size w w6:=by
  have h1:=H4.o.2.2.2.trans (hS5.below H4.o.2.2.2.size fun j hj=>by have:=HPR.o;exact⟨by omega,by omega⟩)
  exact h1.trans (hs6.below h1.size fun j hj=>by have:=HPR.o;show j≠S;omega)
 have hz6:w4.heap.size≤w6.heap.size:=Nat.le_trans hS5.size hs6.size
 have hbl:∀g,blk a1=some g→w4.heap.size≤g:=fun g hg=>(hO1.aQ hg).1
 obtain⟨q3,hq3⟩:=AU ((FC l).2)
 have hk:Calls Tryz.prog 96 _ w6 fun e w'=>∃a c,∃L:List bF,e= .returned (.slice a L.length c)∧L.map bF.kC=(mQ dB 8 q2).1∧aW bZ 6 51 w6.heap.size w' a L c∧(∀x∈L,Es w' x∧∀g,Fz x g→w6.heap.size≤g∧blk a≠some g)∧fH b R w' R b (mQ dB 8 q2).2∧Save (iw b R) w6 w':=pF hR6 8 AP
 rw[show mQ dB 8 q2=FC l by rw[hq2.o];rfl,←hq3.o] at hk
 have HK:=AQ hk
 have H6:=AQ (And.intro hL1 (And.intro hV6 (And.intro hI6 (And.intro hc6 (And.intro hp6 (And.intro hB6 (And.intro hz6 hbl)))))))
 clear hL1 hO1 hI1 hR5 hS5 ho hc5 hp5 hs6 hc6 hp6 hR6 hV6 hI6 hB6 hz6 hbl hk
 go_upto_region 4 with fail
 rw[←hw6]
 clear hw6 c1 f1
 go_wp2_with fail
 refine(HK.o).mono ?_
 rintro e w7 ⟨a2,k2,L2,rfl,hL2,hO2,hI2,hR7,hS7⟩
 have ho:=H4.o.1
 have hz:=H6.o.2.2.2.2.2.2.1
 have hc7:=(hS7.block S AL ⟨by omega,by omega⟩).trans H6.o.2.2.2.1
 have hp7:=(hS7.block pr AL ⟨by omega,by omega⟩).trans H6.o.2.2.2.2.1
 have c2:=ak hc7 2 rfl
 have f2:=cu hc7 2
 obtain⟨w8,hw8⟩:=AV (w7.setCell ⟨S,2,none⟩ (.slice a2 L2.length k2))
 have hs8:Save (· ≠S) w7 w8:=by rw[hw8];exact Save.set
 have hc8:w8.heap[S]? =some (.cells #[.int .i64 v0.1, .slice a1 L1.length k1, .slice a2 L2.length k2] 32 (0,0)):=by rw[hw8];exact bT _ hc7
 have hp8:=(hs8.block pr (Array.getElem?_eq_some_iff.1 hp7).1 (by show pr≠S;omega)).trans hp7
 have hR8:=hR7.newer hs8 AL AL AL
 obtain⟨V,hV⟩:∃V:bU,Hid (V=⟨v0,a1,L1,k1,a2,L2,k2⟩):=⟨_,rfl⟩
 have HVA:Hid (V.At w8):=by
  rw[hV.o]
  refine⟨?_,fun x hx=> ?_, ?_,fun x hx=> ?_⟩
  ·exact(H6.o.2.1.save aH hS7 fun _ g hg=>by have:=H6.o.2.2.2.2.2.2.2 g hg;exact⟨by omega,by omega⟩).save aH hs8 fun _ g hg=>by have:=H6.o.2.2.2.2.2.2.2 g hg;show g≠S;omega
  ·have hx6:=H6.o.2.2.1 x hx
   exact jD (jD hx6.1 hS7 fun g hg=>by have:=hx6.2 g hg;exact⟨by omega,by omega⟩) hs8 fun g hg=>by have:=hx6.2 g hg;show g≠S;omega
  ·exact(hO2.vec aT).save aT hs8 fun _ g hg=>by have:=(hO2.aQ hg).1;show g≠S;omega
  ·exact oO (hI2 x hx).1 hs8 fun g hg=>by have:=((hI2 x hx).2 g hg).1;show g≠S;omega
 have HVS:Hid (V.fG=FD l):=by
  rw[Hid,hV.o];unfold bU.fG FD
  dsimp only
  rw[H6.o.1,hL2,hv0.o]
 have HB8:Hid (Below w.heap.size w w8):=by
  have h1:=H6.o.2.2.2.2.2.1.trans (hS7.below H6.o.2.2.2.2.2.1.size fun j hj=>by have:=HPR.o;exact⟨by omega,by omega⟩)
  exact h1.trans (hs8.below h1.size fun j hj=>by have:=HPR.o;show j≠S;omega)
 have HL2:Hid (L2.map bF.kC=(FC l).1):=hL2
 have H8:=AQ (And.intro hc8 (And.intro hp8 hR8))
 obtain⟨fi,hfi⟩:=AU q3.s.fin
 obtain⟨kk,hkk⟩:=AU q3.k
 obtain⟨m,hm⟩:=AU (jR V.fG)
 have HE:=AQ (wP hR8.rd)
 rw[←hfi.o] at HE
 have hk:=jF w8 V HVA.o
 rw[←hm.o,hV.o] at hk
 have HK:=AQ hk
 have HPE:Hid (PE=(decide (fi=0) && (!kk && m))):=by rw[Hid,hPE.o,ny,hfi.o,hkk.o,hm.o,hq3.o,HVS.o]
 have c0:=hR8.c0
 have d1:w8.cell? ⟨R,1,none⟩=some (.bool kk):=by rw[hkk.o];exact hR8.c1
 have LS:=AQ (show(Instr.loadAt 32 (.pointer (some ⟨S,0,none⟩))).run Tryz.prog w8= .ok (.agg #[.int .i64 v0.1, .slice a1 L1.length k1, .slice a2 L2.length k2]) w8 from jG (fun w=>AB) (fun w=>AB) (ak hc8 0 rfl) (ak hc8 1 rfl) (ak hc8 2 rfl))
 clear hL2 hO2 hI2 hR7 hS7 ho hz hc7 hp7 hs8 hc8 hp8 hR8 hk
 go_upto_region 5 with fail
 rw[←hw8]
 clear hw8 c2 f2
 have HNO:Hid (PE=false→∀wx w9,Below w8.heap.size w8 wx→w9.heap[pr]? =some (.cells #[.int .i64 0, .slice none 0 0, .slice none 0 0] 32 (0,0))→Save (· ≠pr) wx w9→∃u:bU,Ending.returned (.tuple #[.agg #[.int .i64 0, .slice none 0 0, .slice none 0 0], .int .i64 210])= .returned (.tuple #[.agg (dO u).toArray, .int .i64 PN])∧u.fG=PK∧u.At w9∧Below w.heap.size w w9):=fun h wx w9 hb _ hs=>by
  rw[hPN.o,hPK.o,h]
  have h1:=HB8.o.trans (hb.mono HB8.o.size)
  exact⟨jL,rfl,rfl,⟨Vec.nil_ _,fun x hx=>by simp at hx,Vec.nil_ _,fun x hx=>by simp at hx⟩,h1.trans (hs.below h1.size fun j hj=>by have:=HPR.o;show j≠pr;omega)⟩
 by_cases hf0:fi=0
 ·subst hf0
  go_wp2_with fail
  refine(HE.o).mono ?_
  rintro e w9 ⟨rfl,rfl⟩
  cases kk with
  |
   true=>
   go_wp2_with ((with_reducible refine aV (o:=⟨none, .store _ (.tmp 2) _,_,_,_,_⟩) dF (.tmp 2) (.tmp 43) AA AA AA AA AA H8.o.2.1 AA AA AA ?_);intro w12 hg12 hs12)
   refine bodyPost_ret (lN dF rfl (by rfl) hg12 rfl) rfl (HNO.o ?_ w8 w12 (Below.refl _ _) hg12 hs12)
   rw[HPE.o];rfl
  |
   false=>
   go_wp2_with (with_reducible refine oz (o:=⟨some 39, .load _ (.tmp 5),_,_,_,_⟩) LS.o ?_)
   refine(HK.o).mono ?_
   rintro e w10 ⟨rfl,hb10⟩
   have hc10:=ay H8.o.1 hb10
   have H10:=AQ (And.intro hc10 (And.intro (ay H8.o.2.1 hb10) hb10))
   have L10:=AQ (show(Instr.loadAt 32 (.pointer (some ⟨S,0,none⟩))).run Tryz.prog w10= .ok (.agg #[.int .i64 v0.1, .slice a1 L1.length k1, .slice a2 L2.length k2]) w10 from jG (fun w=>AB) (fun w=>AB) (ak hc10 0 rfl) (ak hc10 1 rfl) (ak hc10 2 rfl))
   clear hb10 hc10 HK LS c0 d1
   cases m with
   |
    false=>
    go_wp2_with ((with_reducible refine aV (o:=⟨none, .store _ (.tmp 2) _,_,_,_,_⟩) dF (.tmp 2) (.tmp 43) AA AA AA AA AA H10.o.2.1 AA AA AA ?_);intro w12 hg12 hs12)
    refine bodyPost_ret (lN dF rfl (by rfl) hg12 rfl) rfl (HNO.o ?_ w10 w12 H10.o.2.2 hg12 hs12)
    rw[HPE.o];rfl
   |
    true=>
    have HT:Hid (PE=true):=HPE.o
    have hmay:=qy.1 hm.o.symm
    have hq0:V.qs=[]:=by
     have h1:=HQ.o (by rw[←hPE.o];exact HT.o)
     rw[←HL2.o] at h1
     rw[hV.o]
     exact List.map_eq_nil_iff.1 h1
    have hpl:V.ps.length≤6:=by have:=hmay.2.1;unfold bU.fG at this;simpa using this
    have hpm:∀x∈V.ps,x.mem.length≤1000000000:=fun x hx=>by
     have h5:=nN hmay.2.2.2.1 x.prt (List.mem_map_of_mem hx)
     unfold mF at h5
     simp only[Bool.and_eq_true,decide_eq_true_eq] at h5
     have h6:=of_decide_eq_true h5.2.1
     have h7:(x.mem.length:Int)=x.size.1:=h5.2.2.1
     have h8:x.size.1≤512:=h6.2.2.2.2.1
     omega
    have hk:=uK w10 V (HVA.o.stay H10.o.2.2) hq0 AL hpm
    rw[HVS.o,hV.o] at hk
    have HC:=AQ hk
    clear hmay hq0 hpl hpm hk
    go_wp2_with (with_reducible refine ku (o:=⟨some 44, .load _ (.tmp 5),_,_,_,_⟩) L10.o ?_)
    refine(HC.o).mono ?_
    rintro e w11 ⟨u,rfl,hu,huA,hb11⟩
    obtain⟨Y,hY⟩:=AU ((dO u).toArray)
    rw[←hY.o]
    have hY3:Y.size=3∧Y.all (·.oneCell')=true:=by rw[hY.o];exact⟨rfl,by simp[Value.oneCell']⟩
    have HY3:=AQ hY3
    have H11:=AQ (And.intro hu (And.intro huA hb11))
    have HP11:=AQ (ay H10.o.2.1 hb11)
    clear hu huA hb11 hY3 HC L10
    go_wp2_with ((with_reducible refine aV (o:=⟨none, .store _ (.tmp 2) _,_,_,_,_⟩) dF (.tmp 2) (.tmp 45) AA AA AA AA AA HP11.o AA HY3.o.1 HY3.o.2 ?_);intro w12 hg12 hs12)
    have hB11:Below w.heap.size w w11:=by
     have h1:=HB8.o.trans (H10.o.2.2.mono HB8.o.size)
     exact h1.trans (H11.o.2.2.mono h1.size)
    refine bodyPost_ret (lN dF rfl (by rfl) hg12 HY3.o.1) rfl ⟨u, ?_, ?_, ?_,hB11.trans (hs12.below hB11.size fun j hj=>by have:=HPR.o;show j≠pr;omega)⟩
    ·rw[hPN.o,HT.o,hY.o];rfl
    ·rw[hPK.o,HT.o];exact H11.o.1
    ·exact(H11.o.2.1.off hs12 HP11.o).at
 ·have t1:((fi:Int) !=0)=true:=by simpa using hf0
  have HF0:=AQ hf0
  clear hf0
  go_wp2_with fail
  refine(HE.o).mono ?_
  rintro e w9 ⟨rfl,rfl⟩
  go_wp2_with ((with_reducible refine aV (o:=⟨none, .store _ (.tmp 2) _,_,_,_,_⟩) dF (.tmp 2) (.tmp 43) AA AA AA AA AA H8.o.2.1 AA AA AA ?_);intro w12 hg12 hs12)
  refine bodyPost_ret (lN dF rfl (by rfl) hg12 rfl) rfl (HNO.o ?_ w8 w12 (Below.refl _ _) hg12 hs12)
  rw[HPE.o];rw[decide_eq_false HF0.o];rfl
open Go Go.RowKit Go.Cit
theorem sQ (w:World) (g:Nat) (n:I64) (hg:w.cell? ⟨g,0,none⟩=some (.int .i64 n.1)) (x:aK):Calls Tryz.prog 100 (#[.agg (bG x).toArray]++ #[.pointer (some ⟨g,0,none⟩)]) w fun e w'=>e= .returned (.bool (decide (x.id.1=n.1)))∧Below w.heap.size w w':=by
 show Calls Tryz.prog 100 #[.agg (cP x), .pointer (some ⟨g,0,none⟩)] w _
 obtain⟨w0,hw0⟩:=AV (w.alloc (.cells (cP x) 42))
 have B0:Below w.heap.size w w0:=by rw[hw0];exact(Below.refl _ w).alloc (Nat.le_refl _) _
 have c0:w0.cell? ⟨w.heap.size,0,none⟩=some (.int .i64 x.id.1):=by rw[hw0];exact zi w x 0 rfl
 have hg:=keep B0 hg
 have HB0:=AQ B0
 clear B0
 go_enter Tryz.func100,Tryz.ntmps100
 go_upto_region 1 with fail
 rw[←hw0]
 clear hw0
 go_wp2_with fail
 go_ret
 exact⟨rfl,HB0.o⟩
theorem vP {α:Type} (p:α→Bool) (x:α) (l:List α) (h:p x=true):bQ p (x::l)=0:=by
 have:=gY p (x::l) 0 AO (fun j hj h=>by omega) (by simpa using h)
 simpa using this
theorem vN (w:World) (s:bU) (hs:s.At w) (x:aK) (l:List aK) (hp:s.ps=x::l) (n:I64) (hn:x.id.1=n.1) (hm:x.mem.length≤1000000000):Calls Tryz.prog 34 #[.agg (dO s).toArray, .int .i64 n.1] w fun e w'=>∃a c,e= .returned (.tuple #[.agg (cP (x.new a c)), .bool true])∧Below w.heap.size w w':=by
 obtain⟨p,hpe⟩:=AV (w.heap.size)
 obtain⟨Z,hZ⟩:∃Z:Array Value,Hid (Z= #[.int .i64 0, .int .i64 0, .bool false, .int .u32 0, .int .u32 0, .int .u32 0, .int .u32 0, .int .u32 0, .int .u32 0, .int .u32 0, .int .u32 0, .int .u32 0, .int .u8 0, .slice none 0 0]):=⟨_,rfl⟩
 obtain⟨wa,hwa⟩:=AV ((w.alloc (.cells (dO s).toArray 32)).alloc (.cells #[.int .i64 n.1] 3))
 have Ba:Below w.heap.size w wa:=by rw[hwa];exact((Below.refl _ w).alloc (Nat.le_refl _) _).alloc AO _
 have hsz:wa.heap.size=w.heap.size+2:=by rw[hwa];simp
 have ha1:wa.heap[p]? =some (.cells (dO s).toArray 32 (0,0)):=by rw[hwa,hpe];exact(Below.heap_alloc _ _ _ AO).trans (heap_alloc_new w _)
 have ha2:wa.heap[p+1]? =some (.cells #[.int .i64 n.1] 3 (0,0)):=by
  have:=heap_alloc_new (w.alloc (.cells (dO s).toArray 32)) (.cells #[.int .i64 n.1] 3)
  rw[World.size_alloc] at this
  rw[hwa,hpe];exact this
 obtain⟨w0,hw0⟩:=AV (wa.alloc (.cells Z 42))
 have B0:Below wa.heap.size wa w0:=by rw[hw0];exact(Below.refl _ wa).alloc (Nat.le_refl _) _
 have h3:w0.heap[p+2]? =some (.cells Z 42 (0,0)):=by
  have:=heap_alloc_new wa (.cells Z 42)
  rw[hsz] at this
  rw[hw0,hpe];exact this
 have B1:Below w.heap.size w w0:=Ba.trans (B0.mono Ba.size)
 have c1:w0.cell? ⟨p,1,none⟩=some (.slice s.pa s.ps.length s.pc):=ak (ay ha1 B0) 1 rfl
 have cn:w0.cell? ⟨p+1,0,none⟩=some (.int .i64 n.1):=ak (ay ha2 B0) 0 rfl
 have hk:=BK (p:=fun x:aK=>decide (x.id.1=n.1)) 100 #[.pointer (some ⟨p+1,0,none⟩)] (enters_of Tryz.func100 AB rfl) w0 s.pa s.ps s.pc (hs.stay B1).pts fun W hW y _=>(sQ W (p+1) n (keep hW cn) y).mono fun e w' ⟨he,hw⟩=>⟨he,hW.trans (hw.mono hW.size)⟩
 rw[show bQ (fun x:aK=>decide (x.id.1=n.1)) s.ps=0 by rw[hp];exact vP _ _ _ (by simpa using hn)] at hk
 have HK:=AQ hk
 have H0:=AQ (And.intro (ay ha1 B0) (And.intro h3 B1))
 have HS:=AQ (hs.stay B1)
 have HPS:=AQ hp
 have hlen:0<s.ps.length:=by rw[hp];simp
 have i0:∀W:World,(Instr.indexAt 29 (.slice s.pa s.ps.length s.pc) (.int .i64 0)).run Tryz.prog W= .ok (.pointer (some (ad s.pa 0))) W:=fun W=>by
  have:=HS.o.pts.index dD 0 hlen W
  rw[Nat.zero_mul] at this
  exact this
 clear hs hp hk ha1 ha2 h3 Ba hsz cn
 go_enter Tryz.func34,Tryz.ntmps34
 go_upto_region 1 with fail
 rw[←hZ.o,←hwa,←hw0,←hpe]
 have HPE:=AQ hpe
 clear hwa hw0 hpe
 go_wp2_with fail
 refine(HK.o).mono ?_
 rintro e w1 ⟨rfl,hb1⟩
 have c1:=keep hb1 c1
 have L1:Hid ((Instr.loadAt 42 (.pointer (some (ad s.pa 0)))).run Tryz.prog w1= .ok (.agg (cP x)) w1):=by
  have:=HS.o.pts.gV dD jo aH hb1 0 hlen
  rw[Nat.zero_mul] at this
  rw[Hid,this]
  have e:s.ps[0]=x:=by simp[HPS.o]
  rw[e];rfl
 have H1:=AQ (And.intro (ay H0.o.2.1 hb1) (H0.o.2.2.trans (hb1.mono H0.o.2.2.size)))
 have HR1:Hid (Row w1 x.a x.mem x.c):=(HS.o.mem x (by rw[HPS.o];simp)).stay hb1
 have HK2:=AQ (nV w1 x HR1.o hm)
 clear hb1 HK
 go_wp2_with (with_reducible refine ku (o:=⟨some 18, .load _ (.tmp 17),_,_,_,_⟩) L1.o ?_)
 refine(HK2.o).mono ?_
 rintro e w2 ⟨a,c,rfl,hO,hb2⟩
 have H2:=AQ (And.intro (ay H1.o.1 hb2) (H1.o.2.trans (hb2.mono H1.o.2.size)))
 have hcz:Hid (Z.size=14):=by rw[Hid,hZ.o];rfl
 clear hb2 hO HK2 c1 L1 i0
 go_wp2_with ((with_reducible refine aV (o:=⟨none, .store _ (.tmp 4) _,_,_,_,_⟩) dR (.tmp 4) (.tmp 19) AA AA AA AA AA H2.o.1 hcz.o (dZ _) (jO _) ?_);intro w4 hg4 hs4)
 exact bodyPost_ret (lN dR rfl (by rfl) hg4 (dZ _)) rfl ⟨a,c,rfl,H2.o.2.trans (hs4.below H2.o.2.size fun k hk=>by have:=HPE.o;show k≠p+2;omega)⟩
def C0:GV:=⟨[⟨⟨1,by decide⟩,⟨1,by decide⟩⟩],[⟨⟨1,by decide⟩,⟨⟨0,by decide⟩,⟨16,by decide⟩⟩,true,[]⟩],[]⟩
def S0:Ah:=fU C0
def B0:List UInt8:=rC S0
theorem dn:(jR jL.fG=true∧(rC jL.fG).length=24)∧jR S0=true∧B0.length=134∧ny B0=true∧FD B0=S0∧ny (B0.set 32 2)=false∧ny (B0.set 100 1)=false∧ny (B0.take 133)=false:=by decide+kernel
end Go.Proofs.YtlholdllibghbaaGreat
