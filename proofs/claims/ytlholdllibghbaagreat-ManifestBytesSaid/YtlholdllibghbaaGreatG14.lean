/- Texts of the proof, one behind the other: Same11, Boxes. No condition but those that each names. -/
import Derived.Test.YtlholdllibghbaaGreatG13
import Derived.Test.YtlholdllibghbaaGreatG10
import Derived.Test.YtlholdllibghbaaGreatG07
import Derived.Test.YtlholdllibghbaaGreatKit
set_option maxRecDepth 100000
set_option maxHeartbeats 8000000
namespace Go.Proofs.YtlholdllibghbaaGreat
open Go Go.RowKit Go.Cit
theorem xu {α:Type} (l m:List α) (k:Nat) (hl:k<l.length) (hm:k<m.length) (h:l.take k=m.take k) (he:l[k]=m[k]):l.take (k+1)=m.take (k+1):=by
 rw[List.take_succ_eq_append_getElem hl,List.take_succ_eq_append_getElem hm,h,he]
theorem tH (x y:qm):x=y↔x.len.1=y.len.1∧x.part.1=y.part.1:=by
 obtain⟨a,b⟩:=x;obtain⟨c,d⟩:=y
 simp only[qm.mk.injEq,Subtype.ext_iff]
theorem mM (x y:Ch):x=y↔x.id.1=y.id.1∧x.src.1=y.src.1∧x.dst.1=y.dst.1∧x.cap.1=y.cap.1∧x.size.1=y.size.1:=by
 obtain⟨a,b,c,d,e⟩:=x;obtain⟨a',b',c',d',e'⟩:=y
 simp only[Ch.mk.injEq,Subtype.ext_iff]
theorem gI (V U:aO):V.cfg=U.cfg↔V.ws=U.ws∧V.ps.map dL.pt=U.ps.map dL.pt∧V.cs=U.cs:=by
 simp only[aO.cfg,Bq.mk.injEq]
theorem Je (w:World) (V:aO) (C:Array Value) (T:TypeId):gU ((w.alloc (.cells C T)).alloc (.cells #[.slice V.wa V.ws.length V.wc, .slice V.pa V.ps.length V.pc, .slice V.ca V.cs.length V.cc] T)) (w.heap.size+1) V:=by
 have:=dK (w.alloc (.cells C T)) V T
 rwa[World.size_alloc] at this
theorem En (w:World) (V U:aO) (h:V.At w) (h':U.At w):Calls Tryz.prog 68 #[.agg #[.slice V.wa V.ws.length V.wc, .slice V.pa V.ps.length V.pc, .slice V.ca V.cs.length V.cc], .agg #[.slice U.wa U.ws.length U.wc, .slice U.pa U.ps.length U.pc, .slice U.ca U.cs.length U.cc]] w fun e w'=>e= .returned (.bool (decide (V.cfg=U.cfg)))∧Below w.heap.size w w':=by
 obtain⟨R,HR⟩:=AU (decide (V.cfg=U.cfg))
 rw[←HR.o]
 obtain⟨w0,hw0⟩:=AV ((w.alloc (.cells #[.slice V.wa V.ws.length V.wc, .slice V.pa V.ps.length V.pc, .slice V.ca V.cs.length V.cc] 26)).alloc (.cells #[.slice U.wa U.ws.length U.wc, .slice U.pa U.ps.length U.pc, .slice U.ca U.cs.length U.cc] 26))
 have B0:Below w.heap.size w w0:=by rw[hw0];exact((Below.refl _ w).alloc (Nat.le_refl _) _).alloc AO _
 have hI:gU w0 w.heap.size V:=by rw[hw0];exact(dK w V _).keep ((Below.refl _ _).alloc (Nat.le_refl _) _)
 have hJ:gU w0 (w.heap.size+1) U:=by rw[hw0];exact Je w U _ _
 have hl1:=h.win.bK
 have hl2:=h.pts.bK
 have hl3:=h.kL.bK
 have hl4:=h'.win.bK
 have hl5:=h'.pts.bK
 have hl6:=h'.kL.bK
 have HV:=AQ (h.stay B0)
 have HU:=AQ (h'.stay B0)
 have HI:=AQ (And.intro hI hJ)
 obtain⟨c0,c1,c2⟩:=hI
 obtain⟨d0,d1,d2⟩:=hJ
 have HB0:=AQ B0
 clear h h' B0
 have HBA:Hid (∀C D,Below w.heap.size w ((w.alloc (.cells C 26)).alloc (.cells D 26))):=fun C D=>((Below.refl _ w).alloc (Nat.le_refl _) _).alloc AO _
 by_cases hg:¬(V.ws.length=U.ws.length∧V.ps.length=U.ps.length∧V.cs.length=U.cs.length)
 ·have HF:Hid (R=false):=by
   rw[Hid,HR.o,decide_eq_false_iff_not,gI]
   intro hh
   apply hg
   have h2:=congrArg List.length hh.2.1
   rw[List.length_map,List.length_map] at h2
   exact⟨by rw[hh.1],h2,by rw[hh.2.2]⟩
  have HG:=AQ hg
  clear hg
  go_enter Tryz.func68,Tryz.ntmps68
  go_wp2_with fail
  all_goals first
   | (go_ret;exact⟨aJ HF.o.symm,HBA.o _ _⟩)
   | (exfalso;have:=HG.o;omega)
   | (exfalso;have:=HG.o;simp only[bne_eq_false_iff_eq] at *;omega)
 have hg:=Classical.not_not.1 hg
 obtain⟨g1,g2,g3⟩:=hg
 have t1:((V.ws.length:Int) !=(U.ws.length:Int))=false:=by rw[g1];simp
 have t2:((V.ps.length:Int) !=(U.ps.length:Int))=false:=by rw[g2];simp
 have t3:((V.cs.length:Int) !=(U.cs.length:Int))=false:=by rw[g3];simp
 have HG:=AQ (And.intro g1 (And.intro g2 g3))
 clear g1 g2 g3
 go_enter Tryz.func68,Tryz.ntmps68
 go_wp2_with fail
 rw[←hw0]
 clear hw0
 go_loopw [5] (fun s wr=>∃k:Nat,s= .int .i64 k∧k≤V.ws.length∧Hid (V.ws.take k=U.ws.take k)∧Below w0.heap.size w0 wr) (fun s _=>V.ws.length-(intOf s).toNat)
 case atStart=>exact⟨0,rfl,Nat.zero_le _,rfl,Below.refl _ _⟩
 case round=>
  obtain⟨k,rfl,hk,HE,B⟩:=hrel
  have hIk:=HI.o.1.keep B
  have hJk:=HI.o.2.keep B
  by_cases hlt:k<V.ws.length
  ·have hlt':k<U.ws.length:=by have:=HG.o;omega
   have i0:=HV.o.win.index JR k hlt
   have i1:=HU.o.win.index JR k hlt'
   obtain⟨x,hx⟩:∃x:qm,Hid (x=V.ws[k]):=⟨V.ws[k],rfl⟩
   obtain⟨y,hy⟩:∃y:qm,Hid (y=U.ws[k]):=⟨U.ws[k],rfl⟩
   have qx0:∀q:After wr,q.to.cell? (ad V.wa (k*2))=some (.int .i64 x.len.1):=fun q=>by rw[hx.o];exact(jQ HV.o.win (B.trans (q.bel.mono B.size)) k hlt).1
   have qx1:∀q:After wr,q.to.cell? ⟨(ad V.wa (k*2)).block,(ad V.wa (k*2)).off+1,none⟩=some (.int .i64 x.part.1):=fun q=>by rw[hx.o];exact(jQ HV.o.win (B.trans (q.bel.mono B.size)) k hlt).2
   have qy0:∀q:After wr,q.to.cell? (ad U.wa (k*2))=some (.int .i64 y.len.1):=fun q=>by rw[hy.o];exact(jQ HU.o.win (B.trans (q.bel.mono B.size)) k hlt').1
   have qy1:∀q:After wr,q.to.cell? ⟨(ad U.wa (k*2)).block,(ad U.wa (k*2)).off+1,none⟩=some (.int .i64 y.part.1):=fun q=>by rw[hy.o];exact(jQ HU.o.win (B.trans (q.bel.mono B.size)) k hlt').2
   have c0:=hIk.c0
   have cq0:∀q:After wr,_:=fun q=>keep q.bel hIk.c0
   have c1:=hIk.c1
   have cq1:∀q:After wr,_:=fun q=>keep q.bel hIk.c1
   have c2:=hIk.c2
   have cq2:∀q:After wr,_:=fun q=>keep q.bel hIk.c2
   have d0:=hJk.c0
   have dq0:∀q:After wr,_:=fun q=>keep q.bel hJk.c0
   have d1:=hJk.c1
   have dq1:∀q:After wr,_:=fun q=>keep q.bel hJk.c1
   have d2:=hJk.c2
   have dq2:∀q:After wr,_:=fun q=>keep q.bel hJk.c2
   have HB:=AQ (HB0.o.trans (B.mono HB0.o.size))
   have HBk:=AQ B
   clear B hIk hJk
   by_cases e0:¬(x.len.1=y.len.1)
   ·have HF:Hid (R=false):=by
     rw[Hid,HR.o,decide_eq_false_iff_not,gI]
     intro hh0
     apply e0
     rw[hx.o,hy.o]
     have hh:=(tH _ _).1 (List.getElem_of_eq hh0.1 (i:=k) hlt)
     exact hh.1
    go_wp2_with fail
    refine aQ AB AB ?_
    iterate 11
     refine gQ (fun K hK=> ?_)
     go_simp
     refine hK _ ?_
     clear hK K
    refine iY ?_
    intro _ hw'
    obtain⟨⟨w3,hb3⟩,hw'⟩:=hw'
    subst hw'
    go_wp2_with fail
    go_ret
    exact⟨aJ HF.o.symm,HB.o.trans (hb3.mono HB.o.size)⟩
   have e0:=Classical.not_not.1 e0
   by_cases e1:¬(x.part.1=y.part.1)
   ·have HF:Hid (R=false):=by
     rw[Hid,HR.o,decide_eq_false_iff_not,gI]
     intro hh0
     apply e1
     rw[hx.o,hy.o]
     have hh:=(tH _ _).1 (List.getElem_of_eq hh0.1 (i:=k) hlt)
     exact hh.2
    go_wp2_with fail
    refine aQ AB AB ?_
    iterate 11
     refine gQ (fun K hK=> ?_)
     go_simp
     refine hK _ ?_
     clear hK K
    refine iY ?_
    intro _ hw'
    obtain⟨⟨w3,hb3⟩,hw'⟩:=hw'
    subst hw'
    go_wp2_with fail
    go_ret
    exact⟨aJ HF.o.symm,HB.o.trans (hb3.mono HB.o.size)⟩
   have e1:=Classical.not_not.1 e1
   have HN:Hid (V.ws.take (k+1)=U.ws.take (k+1)):=xu _ _ k hlt hlt' HE.o (by rw[←hx.o,←hy.o];exact(tH x y).2 ⟨e0,e1⟩)
   go_wp2_with fail
   refine aQ AB AB ?_
   iterate 11
    refine gQ (fun K hK=> ?_)
    go_simp
    refine hK _ ?_
    clear hK K
   refine iY ?_
   intro _ hw'
   obtain⟨⟨w3,hb3⟩,hw'⟩:=hw'
   subst hw'
   go_wp2_with fail
   go_roundw
   case rel=>exact⟨k+1,by go_num,by omega,HN.o,HBk.o.trans (hb3.mono HBk.o.size)⟩
   case measure=>simp[intOf];omega
  ·have hk2:k=V.ws.length:=by omega
   have HX0:Hid (V.ws=U.ws):=by
    have:=HE.o
    rw[hk2] at this
    rwa[List.take_length,HG.o.1,List.take_length] at this
   clear hk2
   obtain⟨c0,c1,c2⟩:=hIk
   obtain⟨d0,d1,d2⟩:=hJk
   go_wp2_with fail
   go_loopw [6] (fun s wr=>∃k:Nat,s= .int .i64 k∧k≤V.ps.length∧Hid ((V.ps.map dL.pt).take k=(U.ps.map dL.pt).take k)∧Below w0.heap.size w0 wr) (fun s _=>V.ps.length-(intOf s).toNat)
   case atStart=>exact⟨0,rfl,Nat.zero_le _,rfl,B⟩
   case round=>
    obtain⟨k,rfl,hk,HE,B⟩:=hrel
    have hIk:=HI.o.1.keep B
    have hJk:=HI.o.2.keep B
    by_cases hlt:k<V.ps.length
    ·have hlt':k<U.ps.length:=by have:=HG.o;omega
     have i0:=HV.o.pts.index Di k hlt
     have i1:=HU.o.pts.index Di k hlt'
     obtain⟨x,hx⟩:∃x:dL,Hid (x=V.ps[k]):=⟨V.ps[k],rfl⟩
     obtain⟨y,hy⟩:∃y:dL,Hid (y=U.ps[k]):=⟨U.ps[k],rfl⟩
     have qx0:∀q:After wr,q.to.cell? (ad V.pa (k*5))=some (.int .i64 x.id.1):=fun q=>by rw[hx.o];exact(dh HV.o.pts (B.trans (q.bel.mono B.size)) k hlt).1
     have qx1:∀q:After wr,q.to.cell? ⟨(ad V.pa (k*5)).block,(ad V.pa (k*5)).off+1,none⟩=some (.int .i64 x.reg.base.1):=fun q=>by rw[hx.o];exact(dh HV.o.pts (B.trans (q.bel.mono B.size)) k hlt).2.1
     have qx2:∀q:After wr,q.to.cell? ⟨(ad V.pa (k*5)).block,(ad V.pa (k*5)).off+2,none⟩=some (.int .i64 x.reg.size.1):=fun q=>by rw[hx.o];exact(dh HV.o.pts (B.trans (q.bel.mono B.size)) k hlt).2.2.1
     have qx3:∀q:After wr,q.to.cell? ⟨(ad V.pa (k*5)).block,(ad V.pa (k*5)).off+3,none⟩=some (.bool x.keep):=fun q=>by rw[hx.o];exact(dh HV.o.pts (B.trans (q.bel.mono B.size)) k hlt).2.2.2.1
     have qx4:∀q:After wr,q.to.cell? ⟨(ad V.pa (k*5)).block,(ad V.pa (k*5)).off+4,none⟩=some (.slice x.a x.img.length x.c):=fun q=>by rw[hx.o];exact(dh HV.o.pts (B.trans (q.bel.mono B.size)) k hlt).2.2.2.2
     have qy0:∀q:After wr,q.to.cell? (ad U.pa (k*5))=some (.int .i64 y.id.1):=fun q=>by rw[hy.o];exact(dh HU.o.pts (B.trans (q.bel.mono B.size)) k hlt').1
     have qy1:∀q:After wr,q.to.cell? ⟨(ad U.pa (k*5)).block,(ad U.pa (k*5)).off+1,none⟩=some (.int .i64 y.reg.base.1):=fun q=>by rw[hy.o];exact(dh HU.o.pts (B.trans (q.bel.mono B.size)) k hlt').2.1
     have qy2:∀q:After wr,q.to.cell? ⟨(ad U.pa (k*5)).block,(ad U.pa (k*5)).off+2,none⟩=some (.int .i64 y.reg.size.1):=fun q=>by rw[hy.o];exact(dh HU.o.pts (B.trans (q.bel.mono B.size)) k hlt').2.2.1
     have qy3:∀q:After wr,q.to.cell? ⟨(ad U.pa (k*5)).block,(ad U.pa (k*5)).off+3,none⟩=some (.bool y.keep):=fun q=>by rw[hy.o];exact(dh HU.o.pts (B.trans (q.bel.mono B.size)) k hlt').2.2.2.1
     have qy4:∀q:After wr,q.to.cell? ⟨(ad U.pa (k*5)).block,(ad U.pa (k*5)).off+4,none⟩=some (.slice y.a y.img.length y.c):=fun q=>by rw[hy.o];exact(dh HU.o.pts (B.trans (q.bel.mono B.size)) k hlt').2.2.2.2
     have c0:=hIk.c0
     have cq0:∀q:After wr,_:=fun q=>keep q.bel hIk.c0
     have c1:=hIk.c1
     have cq1:∀q:After wr,_:=fun q=>keep q.bel hIk.c1
     have c2:=hIk.c2
     have cq2:∀q:After wr,_:=fun q=>keep q.bel hIk.c2
     have d0:=hJk.c0
     have dq0:∀q:After wr,_:=fun q=>keep q.bel hJk.c0
     have d1:=hJk.c1
     have dq1:∀q:After wr,_:=fun q=>keep q.bel hJk.c1
     have d2:=hJk.c2
     have dq2:∀q:After wr,_:=fun q=>keep q.bel hJk.c2
     have HB:=AQ (HB0.o.trans (B.mono HB0.o.size))
     have HBk:=AQ B
     have HS:=AQ (fun q:After wr=>Ar q.to x y (by rw[hx.o];exact(HV.o.img _ (List.getElem_mem hlt)).stay (B.trans (q.bel.mono B.size))) (by rw[hy.o];exact(HU.o.img _ (List.getElem_mem hlt')).stay (B.trans (q.bel.mono B.size))))
     clear B hIk hJk
     by_cases hq:x.pt=y.pt
     ·rw[decide_eq_true hq] at HS
      have HN:Hid ((V.ps.map dL.pt).take (k+1)=(U.ps.map dL.pt).take (k+1)):=by rw[hx.o,hy.o] at hq;exact xu _ _ k (by simpa using hlt) (by simpa using hlt') HE.o (by simpa using hq)
      clear hq
      go_wp2_with fail
      refine aQ AB AB ?_
      iterate 12
       refine gQ (fun K hK=> ?_)
       go_simp
       first
        | (refine hK _ ?_;clear hK K)
        | (
         apply Exists.intro
         refine⟨fun _=> ?_,hK _ ?_⟩
         first |with_reducible exact aZ (HS.o _)
         clear hK K)
      refine iY ?_
      intro _ hw'
      obtain⟨⟨w3,hb3⟩,hw'⟩:=hw'
      subst hw'
      go_wp2_with fail
      go_roundw
      case rel=>exact⟨k+1,by go_num,by omega,HN.o,HBk.o.trans (hb3.mono HBk.o.size)⟩
      case measure=>simp[intOf];omega
     ·rw[decide_eq_false hq] at HS
      have HF:Hid (R=false):=by
       rw[Hid,HR.o,decide_eq_false_iff_not,gI]
       intro hh
       apply hq
       rw[hx.o,hy.o]
       have:=List.getElem_of_eq hh.2.1 (i:=k) (by simpa using hlt)
       simpa using this
      clear hq
      go_wp2_with fail
      refine aQ AB AB ?_
      iterate 12
       refine gQ (fun K hK=> ?_)
       go_simp
       first
        | (refine hK _ ?_;clear hK K)
        | (
         apply Exists.intro
         refine⟨fun _=> ?_,hK _ ?_⟩
         first |with_reducible exact aZ (HS.o _)
         clear hK K)
      refine iY ?_
      intro _ hw'
      obtain⟨⟨w3,hb3⟩,hw'⟩:=hw'
      subst hw'
      go_wp2_with fail
      go_ret
      exact⟨aJ HF.o.symm,HB.o.trans (hb3.mono HB.o.size)⟩
    ·have hk2:k=V.ps.length:=by omega
     have HX1:Hid (V.ps.map dL.pt=U.ps.map dL.pt):=by
      have:=HE.o
      rw[hk2] at this
      rw[List.take_of_length_le AO,List.take_of_length_le (by have:=HG.o;simp;omega)] at this;exact this
     clear hk2
     obtain⟨c0,c1,c2⟩:=hIk
     obtain⟨d0,d1,d2⟩:=hJk
     go_wp2_with fail
     go_loopw [7] (fun s wr=>∃k:Nat,s= .int .i64 k∧k≤V.cs.length∧Hid (V.cs.take k=U.cs.take k)∧Below w0.heap.size w0 wr) (fun s _=>V.cs.length-(intOf s).toNat)
     case atStart=>exact⟨0,rfl,Nat.zero_le _,rfl,B⟩
     case round=>
      obtain⟨k,rfl,hk,HE,B⟩:=hrel
      have hIk:=HI.o.1.keep B
      have hJk:=HI.o.2.keep B
      by_cases hlt:k<V.cs.length
      ·have hlt':k<U.cs.length:=by have:=HG.o;omega
       have i0:=HV.o.kL.index Kv k hlt
       have i1:=HU.o.kL.index Kv k hlt'
       obtain⟨x,hx⟩:∃x:Ch,Hid (x=V.cs[k]):=⟨V.cs[k],rfl⟩
       obtain⟨y,hy⟩:∃y:Ch,Hid (y=U.cs[k]):=⟨U.cs[k],rfl⟩
       have qx0:∀q:After wr,q.to.cell? (ad V.ca (k*5))=some (.int .i64 x.id.1):=fun q=>by rw[hx.o];exact(eu HV.o.kL (B.trans (q.bel.mono B.size)) k hlt).1
       have qx1:∀q:After wr,q.to.cell? ⟨(ad V.ca (k*5)).block,(ad V.ca (k*5)).off+1,none⟩=some (.int .i64 x.src.1):=fun q=>by rw[hx.o];exact(eu HV.o.kL (B.trans (q.bel.mono B.size)) k hlt).2.1
       have qx2:∀q:After wr,q.to.cell? ⟨(ad V.ca (k*5)).block,(ad V.ca (k*5)).off+2,none⟩=some (.int .i64 x.dst.1):=fun q=>by rw[hx.o];exact(eu HV.o.kL (B.trans (q.bel.mono B.size)) k hlt).2.2.1
       have qx3:∀q:After wr,q.to.cell? ⟨(ad V.ca (k*5)).block,(ad V.ca (k*5)).off+3,none⟩=some (.int .i64 x.cap.1):=fun q=>by rw[hx.o];exact(eu HV.o.kL (B.trans (q.bel.mono B.size)) k hlt).2.2.2.1
       have qx4:∀q:After wr,q.to.cell? ⟨(ad V.ca (k*5)).block,(ad V.ca (k*5)).off+4,none⟩=some (.int .i64 x.size.1):=fun q=>by rw[hx.o];exact(eu HV.o.kL (B.trans (q.bel.mono B.size)) k hlt).2.2.2.2
       have qy0:∀q:After wr,q.to.cell? (ad U.ca (k*5))=some (.int .i64 y.id.1):=fun q=>by rw[hy.o];exact(eu HU.o.kL (B.trans (q.bel.mono B.size)) k hlt').1
       have qy1:∀q:After wr,q.to.cell? ⟨(ad U.ca (k*5)).block,(ad U.ca (k*5)).off+1,none⟩=some (.int .i64 y.src.1):=fun q=>by rw[hy.o];exact(eu HU.o.kL (B.trans (q.bel.mono B.size)) k hlt').2.1
       have qy2:∀q:After wr,q.to.cell? ⟨(ad U.ca (k*5)).block,(ad U.ca (k*5)).off+2,none⟩=some (.int .i64 y.dst.1):=fun q=>by rw[hy.o];exact(eu HU.o.kL (B.trans (q.bel.mono B.size)) k hlt').2.2.1
       have qy3:∀q:After wr,q.to.cell? ⟨(ad U.ca (k*5)).block,(ad U.ca (k*5)).off+3,none⟩=some (.int .i64 y.cap.1):=fun q=>by rw[hy.o];exact(eu HU.o.kL (B.trans (q.bel.mono B.size)) k hlt').2.2.2.1
       have qy4:∀q:After wr,q.to.cell? ⟨(ad U.ca (k*5)).block,(ad U.ca (k*5)).off+4,none⟩=some (.int .i64 y.size.1):=fun q=>by rw[hy.o];exact(eu HU.o.kL (B.trans (q.bel.mono B.size)) k hlt').2.2.2.2
       have c0:=hIk.c0
       have cq0:∀q:After wr,_:=fun q=>keep q.bel hIk.c0
       have c1:=hIk.c1
       have cq1:∀q:After wr,_:=fun q=>keep q.bel hIk.c1
       have c2:=hIk.c2
       have cq2:∀q:After wr,_:=fun q=>keep q.bel hIk.c2
       have d0:=hJk.c0
       have dq0:∀q:After wr,_:=fun q=>keep q.bel hJk.c0
       have d1:=hJk.c1
       have dq1:∀q:After wr,_:=fun q=>keep q.bel hJk.c1
       have d2:=hJk.c2
       have dq2:∀q:After wr,_:=fun q=>keep q.bel hJk.c2
       have HB:=AQ (HB0.o.trans (B.mono HB0.o.size))
       have HBk:=AQ B
       clear B hIk hJk
       by_cases e0:¬(x.id.1=y.id.1)
       ·have HF:Hid (R=false):=by
         rw[Hid,HR.o,decide_eq_false_iff_not,gI]
         intro hh0
         apply e0
         rw[hx.o,hy.o]
         have hh:=(mM _ _).1 (List.getElem_of_eq hh0.2.2 (i:=k) hlt)
         exact hh.1
        go_wp2_with fail
        refine aQ AB AB ?_
        iterate 11
         refine gQ (fun K hK=> ?_)
         go_simp
         refine hK _ ?_
         clear hK K
        refine iY ?_
        intro _ hw'
        obtain⟨⟨w3,hb3⟩,hw'⟩:=hw'
        subst hw'
        go_wp2_with fail
        go_ret
        exact⟨aJ HF.o.symm,HB.o.trans (hb3.mono HB.o.size)⟩
       have e0:=Classical.not_not.1 e0
       by_cases e1:¬(x.src.1=y.src.1)
       ·have HF:Hid (R=false):=by
         rw[Hid,HR.o,decide_eq_false_iff_not,gI]
         intro hh0
         apply e1
         rw[hx.o,hy.o]
         have hh:=(mM _ _).1 (List.getElem_of_eq hh0.2.2 (i:=k) hlt)
         exact hh.2.1
        go_wp2_with fail
        refine aQ AB AB ?_
        iterate 11
         refine gQ (fun K hK=> ?_)
         go_simp
         refine hK _ ?_
         clear hK K
        refine iY ?_
        intro _ hw'
        obtain⟨⟨w3,hb3⟩,hw'⟩:=hw'
        subst hw'
        go_wp2_with fail
        go_ret
        exact⟨aJ HF.o.symm,HB.o.trans (hb3.mono HB.o.size)⟩
       have e1:=Classical.not_not.1 e1
       by_cases e2:¬(x.dst.1=y.dst.1)
       ·have HF:Hid (R=false):=by
         rw[Hid,HR.o,decide_eq_false_iff_not,gI]
         intro hh0
         apply e2
         rw[hx.o,hy.o]
         have hh:=(mM _ _).1 (List.getElem_of_eq hh0.2.2 (i:=k) hlt)
         exact hh.2.2.1
        go_wp2_with fail
        refine aQ AB AB ?_
        iterate 11
         refine gQ (fun K hK=> ?_)
         go_simp
         refine hK _ ?_
         clear hK K
        refine iY ?_
        intro _ hw'
        obtain⟨⟨w3,hb3⟩,hw'⟩:=hw'
        subst hw'
        go_wp2_with fail
        go_ret
        exact⟨aJ HF.o.symm,HB.o.trans (hb3.mono HB.o.size)⟩
       have e2:=Classical.not_not.1 e2
       by_cases e3:¬(x.cap.1=y.cap.1)
       ·have HF:Hid (R=false):=by
         rw[Hid,HR.o,decide_eq_false_iff_not,gI]
         intro hh0
         apply e3
         rw[hx.o,hy.o]
         have hh:=(mM _ _).1 (List.getElem_of_eq hh0.2.2 (i:=k) hlt)
         exact hh.2.2.2.1
        go_wp2_with fail
        refine aQ AB AB ?_
        iterate 11
         refine gQ (fun K hK=> ?_)
         go_simp
         refine hK _ ?_
         clear hK K
        refine iY ?_
        intro _ hw'
        obtain⟨⟨w3,hb3⟩,hw'⟩:=hw'
        subst hw'
        go_wp2_with fail
        go_ret
        exact⟨aJ HF.o.symm,HB.o.trans (hb3.mono HB.o.size)⟩
       have e3:=Classical.not_not.1 e3
       by_cases e4:¬(x.size.1=y.size.1)
       ·have HF:Hid (R=false):=by
         rw[Hid,HR.o,decide_eq_false_iff_not,gI]
         intro hh0
         apply e4
         rw[hx.o,hy.o]
         have hh:=(mM _ _).1 (List.getElem_of_eq hh0.2.2 (i:=k) hlt)
         exact hh.2.2.2.2
        go_wp2_with fail
        refine aQ AB AB ?_
        iterate 11
         refine gQ (fun K hK=> ?_)
         go_simp
         refine hK _ ?_
         clear hK K
        refine iY ?_
        intro _ hw'
        obtain⟨⟨w3,hb3⟩,hw'⟩:=hw'
        subst hw'
        go_wp2_with fail
        go_ret
        exact⟨aJ HF.o.symm,HB.o.trans (hb3.mono HB.o.size)⟩
       have e4:=Classical.not_not.1 e4
       have HN:Hid (V.cs.take (k+1)=U.cs.take (k+1)):=xu _ _ k hlt hlt' HE.o (by rw[←hx.o,←hy.o];exact(mM x y).2 ⟨e0,e1,e2,e3,e4⟩)
       go_wp2_with fail
       refine aQ AB AB ?_
       iterate 11
        refine gQ (fun K hK=> ?_)
        go_simp
        refine hK _ ?_
        clear hK K
       refine iY ?_
       intro _ hw'
       obtain⟨⟨w3,hb3⟩,hw'⟩:=hw'
       subst hw'
       go_wp2_with fail
       go_roundw
       case rel=>exact⟨k+1,by go_num,by omega,HN.o,HBk.o.trans (hb3.mono HBk.o.size)⟩
       case measure=>simp[intOf];omega
      ·have hk2:k=V.cs.length:=by omega
       have HX2:Hid (V.cs=U.cs):=by
        have:=HE.o
        rw[hk2] at this
        rwa[List.take_length,HG.o.2.2,List.take_length] at this
       clear hk2
       obtain⟨c0,c1,c2⟩:=hIk
       obtain⟨d0,d1,d2⟩:=hJk
       go_wp2_with fail
       go_ret
       exact⟨aJ (by rw[HR.o,eq_comm,decide_eq_true_iff,gI];exact⟨HX0.o,HX1.o,HX2.o⟩),HB0.o.trans (B.mono HB0.o.size)⟩
end Go.Proofs.YtlholdllibghbaaGreat
namespace Go.Cit
open Go Go.RowKit
structure kH where
 nb:Nat
 ia:Nat→Nat
 IU:Nat→Nat
 d:Nat→Nat
 ty:Nat→TypeId
 z:Nat→Array Value
def kH.wf (b:kH) (ops:Array Oper) (n:Nat):Bool:=(List.range b.nb).all fun j=>iq ops ops.size (b.IU j) (b.ia j) && decide (b.d j<n) &&
 ((List.range b.nb).all fun i=>decide (b.ia j≠b.IU i) && (decide (i=j) || (decide (b.d i≠b.d j) && decide (b.ia i≠b.ia j) && decide (b.IU i≠b.IU j))))
theorem kH.spec {b:kH} {ops:Array Oper} {n:Nat} (h:b.wf ops n=true) {j:Nat} (hj:j<b.nb):iq ops ops.size (b.IU j) (b.ia j)=true∧b.d j<n∧(∀i,i<b.nb→b.ia j≠b.IU i∧(i≠j→b.d i≠b.d j∧b.ia i≠b.ia j∧b.IU i≠b.IU j)):=by
 have h1:=List.all_eq_true.1 h j (List.mem_range.2 hj)
 simp only[Bool.and_eq_true,decide_eq_true_eq] at h1
 refine⟨h1.1.1,h1.1.2,fun i hi=> ?_⟩
 have h2:=List.all_eq_true.1 h1.2 i (List.mem_range.2 hi)
 simp only[Bool.and_eq_true,Bool.or_eq_true,decide_eq_true_eq] at h2
 refine⟨h2.1,fun hne=> ?_⟩
 rcases h2.2 with e |e
 ·exact absurd e hne
 ·exact⟨e.1.1,e.1.2,e.2⟩
def Pm (b:kH) (W w w':World):Prop:=Below w.heap.size w w'∨∃g j C,j<b.nb∧W.heap.size≤g∧w.heap[g]? =some (.cells C (b.ty j) (0,0))∧Save (· ≠g) w w'
def Ve (b:kH) (Bx:Nat→Array Value→World→Prop) (W:World) (δ:Nat→Bool) (a:Act) (wx:World):Prop:=Below W.heap.size W wx∧∀j,j<b.nb→δ (b.ia j)=true→
 ∃g C,a.tmps.getD (b.d j) undef= .pointer (some ⟨g,0,none⟩)∧W.heap.size≤g∧wx.heap[g]? =some (.cells C (b.ty j) (0,0))∧C.size=(b.z j).size∧(δ (b.IU j)=true→Bx j C wx)∧
  ∀i,i<b.nb→i≠j→δ (b.ia i)=true→a.tmps.getD (b.d i) undef≠ .pointer (some ⟨g,0,none⟩)
section
variable {P:Program} {ops:Array Oper} {Q:Exit→Act→World→Prop}
def UK (P:Program) (b:kH) (Bx:Nat→Array Value→World→Prop) (T:Nat→Value→World→Prop) (ops:Array Oper) (n:Nat) (o:Oper) (a:Act) (wx:World):Prop:=
 (Wanted ops o a∧(∀j,j<b.nb→n≠b.ia j∧n≠b.IU j∧o.dst≠some (b.d j))∧bQ P (fun v w'=>Below wx.heap.size wx w'∧tyP T o v w') ((execOp a.eval o).run P wx))∨
 (∃j,j<b.nb∧n=b.ia j∧o.dst=some (b.d j)∧o.guard=none∧(execOp a.eval o).run P wx= .ok (.value (.pointer (some ⟨wx.heap.size,0,none⟩))) (wx.alloc (.cells (b.z j) (b.ty j)))∧∀v w,T (b.d j) v w)∨
 (∃j C',j<b.nb∧n=b.IU j∧o.dst=none∧o.guard=none∧Bx j C' wx∧C'.size=(b.z j).size∧
  ∀g C,a.eval (.tmp (b.d j))= .pointer (some ⟨g,0,none⟩)→wx.heap[g]? =some (.cells C (b.ty j) (0,0))→C.size=C'.size→∃w',(execOp a.eval o).run P wx= .ok .skip w'∧w'.heap[g]? =some (.cells C' (b.ty j) (0,0))∧Save (· ≠g) wx w')
theorem dB.imp {p q:Nat→Oper→Prop} (h:∀n o,True→p n o→q n o):∀(os:List Oper) (n:Nat),dB p os n→dB q os n
 | [],_,_=>trivial
 | _::os,n,hs=>⟨h n _ trivial hs.1,dB.imp h os (n+1) hs.2⟩
theorem MI {p q:Value→World→Prop} {r:Result Next} (h:∀v w,p v w→q v w) (hr:bQ P p r):bQ P q r:=by
 match r,hr with
 | .ok (.value v) w',hr=>exact h _ _ hr
 | .ok .skip w',hr=>exact h _ _ hr
 | .ok (.enter f args) w',hr=>exact Calls.mono hr fun e w'' ⟨v,he,hp⟩=>⟨v,he,h _ _ hp⟩
theorem Bj {b:kH} {W w w':World} (h:Pm b W w w') (hW:Below W.heap.size W w):Below W.heap.size W w':=by
 rcases h with h |⟨g,j,C,_,hg,hc,hs⟩
 ·exact hW.trans (h.mono hW.size)
 ·exact hW.trans (hs.below hW.size (fun k hk=>by omega))
theorem ql {id:Nat} {a0:Act} {w:World} (b:kH) (Bx:Nat→Array Value→World→Prop) (T:Nat→Value→World→Prop)
 (hm:P.follows .mixedOrders=true) (hs:jg ops a0.tmps.size=true) (hwf:b.wf ops a0.tmps.size=true)
 (hT:∀d v w1 w2,Pm b w w1 w2→T d v w1→T d v w2) (hX:∀j C w1 w2,Pm b w w1 w2→Bx j C w1→Bx j C w2)
 (hop:dB (fun n o=>∀δ a wx,oQ ops (Ve b Bx w) T a0 n o δ a wx→UK P b Bx T ops n o a wx) ops.toList 0)
 (hend:∀a wx,Below w.heap.size w wx→fF ops a0 a→(∀d,jc ops d=false→T d (a.eval (.tmp d)) wx)→
  (∀j,j<b.nb→∃g C,a.eval (.tmp (b.d j))= .pointer (some ⟨g,0,none⟩)∧w.heap.size≤g∧wx.heap[g]? =some (.cells C (b.ty j) (0,0))∧Bx j C wx∧∀i,i<b.nb→i≠j→a.eval (.tmp (b.d i))≠ .pointer (some ⟨g,0,none⟩))→Q .normal a wx)
 (hin:∀j,j<b.nb→b.ia j<ops.size∧b.IU j<ops.size):
 (Code.region id ops true).wp P Q a0 w:=by
 refine mJ (Ve b Bx w) (fun _ w1 w2=>Pm b w w1 w2) T hm hs (fun w' hb hh=>⟨hb,fun j _ h=>absurd h Bool.false_ne_true⟩) ?_ ?_ ?_
 ·intro δ i j o v a w1 w2 _ _ _ _ _ _ hG h
  rcases hd:o.dst with _ |d
  ·exact eU hd _ _
  ·rw[fZ hd] at h ⊢
   exact hT _ _ _ _ hG h
 ·refine dB.imp (fun n o ho hall=> ?_) ops.toList 0 hop
  intro δ a wx hk
  obtain⟨hW,hB⟩:=hk.inv
  have hsz:a.tmps.size=a0.tmps.size:=hk.same.2.1
  rcases hall δ a wx hk with⟨hw,hne,hg⟩ |⟨j,hj,rfl,hd,hgd,hrun,hTd⟩ |⟨j,C',hj,rfl,hd,hgd,hBx,hsz',hst⟩
  ·refine⟨hw,MI (fun v w' hv=>⟨.inl hv.1,⟨Bj (b:=b) (.inl hv.1) hW,fun i hi hδ=> ?_⟩,hv.2⟩) hg⟩
   have hb:=hv.1
   have hn:=hne i hi
   rw[aA δ hn.1] at hδ
   obtain⟨g,C,e1,e2,e3,e4,e5,e6⟩:=hB i hi hδ
   refine⟨g,C, ?_,e2,(hb.block g (Array.getElem?_eq_some_iff.1 e3).1).trans e3,e4,fun h=> ?_,fun k hk' hki hδk=> ?_⟩
   ·rw[bH _ _ _ _ hn.2.2];exact e1
   ·rw[aA δ hn.2.1] at h
    exact hX _ _ _ _ (.inl hb) (e5 h)
   ·have hnk:=hne k hk'
    rw[aA δ hnk.1] at hδk
    rw[bH _ _ _ _ hnk.2.2]
    exact e6 k hk' hki hδk
  ·have hsp:=kH.spec hwf hj
   have hb:Below wx.heap.size wx (wx.alloc (.cells (b.z j) (b.ty j))):=(Below.refl _ wx).alloc (Nat.le_refl _) _
   have hyet:δ (b.IU j)=false:=hk.closed.yet ops.size _ _ hsp.1 hk.yet
   refine⟨ah hgd, ?_⟩
   rw[hrun]
   refine⟨.inl hb,⟨Bj (b:=b) (.inl hb) hW,fun i hi hδ=> ?_⟩,by rw[fZ hd];exact hTd _ _⟩
   by_cases hij:i=j
   ·subst hij
    refine⟨wx.heap.size,b.z i,by rw[hd];exact dM _ _ _ (by rw[hsz];exact hsp.2.1),hW.size,heap_alloc_new _ _,rfl,fun h=> ?_,fun k hk' hki hδk=> ?_⟩
    ·rw[aA δ (hsp.2.2 i hi).1,hyet] at h;exact absurd h AP
    ·have hq:=(hsp.2.2 k hk').2 hki
     rw[aA δ (Ne.symm hq.2.1)] at hδk
     obtain⟨g,C,e1,e2,e3,_⟩:=hB k hk' hδk
     rw[hd,bH _ _ _ _ (fun e=>hq.1 (Option.some.inj e).symm),e1]
     intro e
     simp only[Value.pointer.injEq,Option.some.injEq,Addr.mk.injEq,and_true] at e
     have:=(Array.getElem?_eq_some_iff.1 e3).1
     omega
   ·have hq:=(hsp.2.2 i hi).2 hij
    rw[aA δ (Ne.symm hq.2.1)] at hδ
    obtain⟨g,C,e1,e2,e3,e4,e5,e6⟩:=hB i hi hδ
    refine⟨g,C, ?_,e2,(hb.block g (Array.getElem?_eq_some_iff.1 e3).1).trans e3,e4,fun h=> ?_,fun k hk' hki hδk=> ?_⟩
    ·rw[hd,bH _ _ _ _ (fun e=>hq.1 (Option.some.inj e).symm)];exact e1
    ·rw[aA δ (hsp.2.2 i hi).1] at h
     exact hX _ _ _ _ (.inl hb) (e5 h)
    ·by_cases hkj:k=j
     ·subst hkj
      rw[hd,dM _ _ _ (by rw[hsz];exact hsp.2.1)]
      intro e
      simp only[Value.pointer.injEq,Option.some.injEq,Addr.mk.injEq,and_true] at e
      have:=(Array.getElem?_eq_some_iff.1 e3).1
      omega
     ·have hq2:=(hsp.2.2 k hk').2 hkj
      rw[aA δ (Ne.symm hq2.2.1)] at hδk
      rw[hd,bH _ _ _ _ (fun e=>hq2.1 (Option.some.inj e).symm)]
      exact e6 k hk' hki hδk
  ·have hsp:=kH.spec hwf hj
   have hia:δ (b.ia j)=true:=by
    have h1:=hk.next.needs ops.size _ _ hsp.1 (upd_same _ _)
    rwa[aA δ (Ne.symm (hsp.2.2 j hj).1)] at h1
   obtain⟨g,C,e1,e2,e3,e4,e5,e6⟩:=hB j hj hia
   obtain⟨w',hrun,hc',hsv⟩:=hst g C (by simpa[Act.eval] using e1) e3 (by rw[e4,hsz'])
   have hG:Pm b w wx w':= .inr ⟨g,j,C,hj,e2,e3,hsv⟩
   refine⟨ah hgd, ?_⟩
   rw[hrun]
   refine⟨hG,⟨Bj hG hW,fun i hi hδ=> ?_⟩,eU hd _ _⟩
   have hne:b.IU j≠b.ia i:=Ne.symm ((kH.spec hwf hi).2.2 j hj).1
   rw[aA δ hne] at hδ
   by_cases hij:i=j
   ·subst hij
    refine⟨g,C',by rw[hd];exact e1,e2,hc',hsz',fun _=>hX _ _ _ _ hG hBx,fun k hk' hki hδk=> ?_⟩
    rw[aA δ (Ne.symm ((kH.spec hwf hk').2.2 i hj).1)] at hδk
    rw[hd];exact e6 k hk' hki hδk
   ·obtain⟨g',D,f1,f2,f3,f4,f5,f6⟩:=hB i hi hδ
    have hgg:g'≠g:=by
     intro e;subst e
     exact e6 i hi hij hδ f1
    refine⟨g',D,by rw[hd];exact f1,f2,(hsv.block g' (Array.getElem?_eq_some_iff.1 f3).1 hgg).trans f3,f4,fun h=> ?_,fun k hk' hki hδk=> ?_⟩
    ·rw[aA δ (Ne.symm ((hsp.2.2 i hi).2 hij).2.2)] at h
     exact hX _ _ _ _ hG (f5 h)
    ·rw[aA δ (Ne.symm ((kH.spec hwf hk').2.2 j hj).1)] at hδk
     rw[hd];exact f6 k hk' hki hδk
 ·intro δ a wx hall hC hsame hTall
  obtain⟨hW,hB⟩:=hC
  refine hend a wx hW hsame hTall fun j hj=> ?_
  obtain⟨g,C,e1,e2,e3,e4,e5,e6⟩:=hB j hj (hall _ (hin j hj).1)
  exact⟨g,C,by simpa[Act.eval] using e1,e2,e3,e5 (hall _ (hin j hj).2),fun i hi hij=>by simpa[Act.eval] using e6 i hi hij (hall _ (hin i hi).1)⟩
end
end Go.Cit
