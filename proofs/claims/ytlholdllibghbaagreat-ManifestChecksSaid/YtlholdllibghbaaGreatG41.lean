/- Texts of the proof, one behind the other: RefAll3, RefAll2. No condition but those that each names. -/
import Derived.Test.YtlholdllibghbaaGreatG40
import Derived.Test.YtlholdllibghbaaGreatKit
set_option maxRecDepth 100000
set_option maxHeartbeats 8000000
namespace Go.Proofs.YtlholdllibghbaaGreat
open Go Go.RowKit Go.Cit
def XF (V:aS) (B k:Nat) (x:dD) (b g1 g2:Bool):Nat→Value
 | 116=>(.bool b)
 | 117=>(.bool b)
 | 118=>(bif (!b) then (.pointer (some ⟨B,1,none⟩)) else undef)
 | 119=>(bif (!b) then (.slice V.pa V.ps.length V.pc) else undef)
 | 120=>(bif (!b) then (.int .i64 (k:Int)) else undef)
 | 121=>(bif (!b) then (.pointer (some (ad V.pa (k*5)))) else undef)
 | 122=>(bif (!b) then (.pointer (some ⟨(ad V.pa (k*5)).block,(ad V.pa (k*5)).off+1,none⟩)) else undef)
 | 123=>(bif (!b) then (.agg #[.int .i64 x.reg.base.1, .int .i64 x.reg.size.1]) else undef)
 | 124=>(bif (!b) then (.bool g1) else undef)
 | 125=>(bif (!b) then (.bool (!g1)) else undef)
 | 126=>(.bool (b || (!g1)))
 | 127=>(.bool (b || (!g1)))
 | 128=>(bif (!(b || (!g1))) then (.pointer (some ⟨B,1,none⟩)) else undef)
 | 129=>(bif (!(b || (!g1))) then (.slice V.pa V.ps.length V.pc) else undef)
 | 130=>(bif (!(b || (!g1))) then (.int .i64 (k:Int)) else undef)
 | 131=>(bif (!(b || (!g1))) then (.pointer (some (ad V.pa (k*5)))) else undef)
 | 132=>(bif (!(b || (!g1))) then (.pointer (some ⟨(ad V.pa (k*5)).block,(ad V.pa (k*5)).off+4,none⟩)) else undef)
 | 133=>(bif (!(b || (!g1))) then (.slice x.a x.img.length x.c) else undef)
 | 134=>(bif (!(b || (!g1))) then (.int .i64 (x.img.length:Int)) else undef)
 | 135=>(bif (!(b || (!g1))) then (.pointer (some ⟨B,1,none⟩)) else undef)
 | 136=>(bif (!(b || (!g1))) then (.slice V.pa V.ps.length V.pc) else undef)
 | 137=>(bif (!(b || (!g1))) then (.int .i64 (k:Int)) else undef)
 | 138=>(bif (!(b || (!g1))) then (.pointer (some (ad V.pa (k*5)))) else undef)
 | 139=>(bif (!(b || (!g1))) then (.pointer (some ⟨(ad V.pa (k*5)).block,(ad V.pa (k*5)).off+1,none⟩)) else undef)
 | 140=>(bif (!(b || (!g1))) then (.pointer (some ⟨(ad V.pa (k*5)).block,(ad V.pa (k*5)).off+2,none⟩)) else undef)
 | 141=>(bif (!(b || (!g1))) then (.int .i64 x.reg.size.1) else undef)
 | 142=>(bif (!(b || (!g1))) then (.bool g2) else undef)
 | 143=>(.bool ((b || (!g1)) || g2))
 | 4=>(.bool ((b || (!g1)) || g2))
 | _=>undef
def Vz (_:aS) (B k:Nat) (_:dD) (b _ _:Bool):Nat→Value
 | 1=>(.pointer (some ⟨B,0,none⟩))
 | 4=>(.bool b)
 | 7=>(.int .i64 (k:Int))
 | _=>undef
theorem XB (w w0 wc:World) (V:aS) (R:List Int) (HR:Hid (R=errs V)) (HV:Hid (V.At w0)) (HI:Hid (fP w0 w.heap.size V)) (HB0:Hid (Below w.heap.size w w0)) (hl1:V.ws.length≤9223372036854775807) (hl2:V.ps.length≤9223372036854775807) (hl3:V.cs.length≤9223372036854775807)
 (a:Option Addr) (L:List Int) (c:Nat) (HL:Hid (L=dh V 2)) (HLL:Hid (L.length≤2)) (hO:aZ cZ 1 3 w0.heap.size wc a L c) (hB:Below w0.heap.size w0 wc) (x0 x2 x4 x5 x6 x7 x8 x9 x10 x11 x12 x13 x14 x15 x16 x17 x18 x19 x20 x21 x22 x23 x24 x25 x26 x27 x28 x29 x30 x31 x32 x33 x34 x35 x36 x37 x38 x39 x40 x41 x42 x43 x44 x45 x46 x47 x48 x49 x50 x51 x52 x53 x54 x55 x56 x57 x58 x59 x60 x61 x62 x63 x64 x65 x66 x67 x68 x69 x70 x71 x72 x73 x74 x75 x76 x77 x78 x79 x80 x81 x82 x83 x84 x85 x86 x87 x88 x89 x90 x91 x92 x93 x94 x95 x96 x97 x98 x99 x100 x101 x102 x103 x104 x105 x106 x107 x108 x109 x110 x111 x112 x113 x114 x115 x116 x117 x118 x119 x120 x121 x122 x123 x124 x125 x126 x127 x128 x129 x130 x131 x132 x133 x134 x135 x136 x137 x138 x139 x140 x141 x142 x143 x144 x145 x146 x147 x148 x149 x150 x151 x152 x153 x154 x155 x156 x157 x158 x159 x160 x161 x162 x163 x164 x165 x166 x167 x168 x169 x170 x171 x172 x173 x174 x175 x176 x177 x178 x179 x180 x181 x182 x183 x184 x185 x186 x187 x188 x189 x190 x191 x192 x193 x194 x195 x196 x197 x198 x199 x200 x201 x202 x203 x204 x205 x206 x207 x208 x209 x210 x211 x212 x213 x214 x215 x216 x217 x218 x219 x220 x221 x222 x223 x224 x225 x226 x227 x228 x229 x230 x231 x232 x233 x234 x235:Value):
 Code.wp Tryz.prog (uo 8 (bodyC Tryz.f157)) (bodyPost Tryz.prog Tryz.f157 (fun e w'=>∃a c,e= .returned (.slice a R.length c)∧aZ cZ 1 3 w.heap.size w' a R c∧Below w.heap.size w w')) ⟨#[x0, .pointer (some ⟨w.heap.size,0,none⟩),x2, .slice a L.length c,x4,x5,x6,x7,x8,x9,x10,x11,x12,x13,x14,x15,x16,x17,x18,x19,x20,x21,x22,x23,x24,x25,x26,x27,x28,x29,x30,x31,x32,x33,x34,x35,x36,x37,x38,x39,x40,x41,x42,x43,x44,x45,x46,x47,x48,x49,x50,x51,x52,x53,x54,x55,x56,x57,x58,x59,x60,x61,x62,x63,x64,x65,x66,x67,x68,x69,x70,x71,x72,x73,x74,x75,x76,x77,x78,x79,x80,x81,x82,x83,x84,x85,x86,x87,x88,x89,x90,x91,x92,x93,x94,x95,x96,x97,x98,x99,x100,x101,x102,x103,x104,x105,x106,x107,x108,x109,x110,x111,x112,x113,x114,x115,x116,x117,x118,x119,x120,x121,x122,x123,x124,x125,x126,x127,x128,x129,x130,x131,x132,x133,x134,x135,x136,x137,x138,x139,x140,x141,x142,x143,x144,x145,x146,x147,x148,x149,x150,x151,x152,x153,x154,x155,x156,x157,x158,x159,x160,x161,x162,x163,x164,x165,x166,x167,x168,x169,x170,x171,x172,x173,x174,x175,x176,x177,x178,x179,x180,x181,x182,x183,x184,x185,x186,x187,x188,x189,x190,x191,x192,x193,x194,x195,x196,x197,x198,x199,x200,x201,x202,x203,x204,x205,x206,x207,x208,x209,x210,x211,x212,x213,x214,x215,x216,x217,x218,x219,x220,x221,x222,x223,x224,x225,x226,x227,x228,x229,x230,x231,x232,x233,x234,x235],[]⟩ wc:=by
 conv in uo _ _=>whnf
 have HO:=AQ hO
 have HBB:=AQ hB
 obtain⟨c0,c1,c2⟩:=HI.o.keep hB
 clear hO hB
 go_wp2_with fail
 go_loopw [4,7] (fun b s wr=>∃(k:Nat) (q:Bool),b= .bool q∧s= .int .i64 k∧k≤V.ps.length∧Hid (q=(V.ps.take k).any nP)∧Below wc.heap.size wc wr) (fun _ s _=>V.ps.length-(intOf s).toNat)
 case atStart=>exact⟨0,false,rfl,rfl,Nat.zero_le _,by rw[Hid];simp,Below.refl _ _⟩
 case round=>
  obtain⟨k,b,rfl,rfl,hk,Hb,B⟩:=hrel
  have HBw:=AQ (HBB.o.trans (B.mono HBB.o.size))
  obtain⟨c0,c1,c2⟩:=HI.o.keep HBw.o
  by_cases hlt:k<V.ps.length
  ·skip
   have i0:=HV.o.pts.index yH k hlt
   have u:∀q:After wr,_:=fun q=>bK HV.o.pts (HBw.o.trans (q.bel.mono HBw.o.size)) k hlt
   have HBk:=AQ B
   have HS:=AQ (tq nP V.ps k hlt)
   clear B
   obtain⟨x,hx⟩:∃x:dD,Hid (x=V.ps[k]):=⟨V.ps[k],rfl⟩
   rw[←hx.o] at u HS
   obtain⟨g1,hg1⟩:∃g,Hid (ig x.reg=g):=⟨_,rfl⟩
   obtain⟨g2,hg2⟩:∃g,Hid (decide ((x.reg.size.1:Int)<(x.img.length:Int))=g):=⟨_,rfl⟩
   have HC1:Hid (∀q:After wr,Calls Tryz.prog 215 #[.agg #[.int .i64 x.reg.base.1, .int .i64 x.reg.size.1]] q.to fun e w'=>e= .returned (.bool g1)∧Below q.to.heap.size q.to w'):=fun q=>by
    have:=jC q.to x.reg
    rwa[hg1.o] at this
   obtain⟨R,hR⟩:=AU (((b || (!g1)) || g2))
   have HN:Hid (R=(V.ps.take (k+1)).any nP):=by
    have e:nP x=((!g1) || g2):=by
     unfold nP
     rw[hg1.o,←hg2.o]
    rw[Hid,HS.o,hR.o,Hb.o,e]
    cases (V.ps.take k).any nP<;>cases g1<;>cases g2<;>rfl
   go_wp2_with fail
   refine eu (XF V w.heap.size k x b g1 g2) (Vz V w.heap.size k x b g1 g2) [1,4,7] AB AB AB ⟨rfl,rfl,rfl,trivial⟩ ?_ ?_
   ·repeat' (first |exact aQ |refine aB ?_ ?_)
    all_goals intro a hk
    ·
     exact .inl ⟨ah rfl,aO (.tmp 4) rfl (hk.o 4)⟩
    ·
     exact .inl ⟨ah rfl,aO (.tmp 116) rfl (hk.s 116)⟩
    ·
     cases b<;>first |exact hk.no 117 false |skip
     exact .inl ⟨hk.yes 117 false,aX (.tmp 1) rfl (hk.o 1) (v:=(.pointer (some ⟨w.heap.size,1,none⟩))) (fun w=>AB) rfl⟩
    ·
     cases b<;>first |exact hk.no 117 false |skip
     exact .inl ⟨hk.yes 117 false,aV (.tmp 118) rfl (hk.s 118) (v:=(.slice V.pa V.ps.length V.pc)) (fun q=>aT (fun w=>AB) (keep q.bel c1)) rfl⟩
    ·
     cases b<;>first |exact hk.no 117 false |skip
     exact .inl ⟨hk.yes 117 false,aO (.tmp 7) rfl (hk.o 7)⟩
    ·
     cases b<;>first |exact hk.no 117 false |skip
     exact .inl ⟨hk.yes 117 false,jR (.tmp 119) (.tmp 120) rfl (hk.s 119) (hk.s 120) (v:=(.pointer (some (ad V.pa (k*5))))) (fun w=>i0 w) rfl⟩
    ·
     cases b<;>first |exact hk.no 117 false |skip
     exact .inl ⟨hk.yes 117 false,aX (.tmp 121) rfl (hk.s 121) (v:=(.pointer (some ⟨(ad V.pa (k*5)).block,(ad V.pa (k*5)).off+1,none⟩))) (fun w=>AB) rfl⟩
    ·
     cases b<;>first |exact hk.no 117 false |skip
     exact .inl ⟨hk.yes 117 false,aV (.tmp 122) rfl (hk.s 122) (v:=(.agg #[.int .i64 x.reg.base.1, .int .i64 x.reg.size.1])) (fun q=>BM (fun w=>AB) (fun w=>AB) (u q).2.1 (u q).2.2.1) rfl⟩
    ·
     cases b<;>first |exact hk.no 117 false |skip
     exact .inl ⟨hk.yes 117 false,dV rfl rfl #[(.agg #[.int .i64 x.reg.base.1, .int .i64 x.reg.size.1])] (fun w=>AB) (by simp only[List.map_toArray,List.map_cons,List.map_nil,(show a.eval (.tmp 123)=(.agg #[.int .i64 x.reg.base.1, .int .i64 x.reg.size.1]) from hk.s 123)]) (v:=(.bool g1)) (fun q=>HC1.o q) rfl⟩
    ·
     cases b<;>first |exact hk.no 117 false |skip
     exact .inl ⟨hk.yes 117 false,qN rfl _ (hk.s 124) rfl⟩
    ·
     cases b with
     |
      true=>
      exact .inl ⟨ah rfl,aI rfl true (hk.s 117) rfl⟩
     |
      false=>
      exact .inl ⟨ah rfl,aI rfl false (hk.s 117) (hk.s 125)⟩
    ·
     exact .inl ⟨ah rfl,aO (.tmp 126) rfl (hk.s 126)⟩
    ·
     cases b<;>cases g1<;>first |exact hk.no 127 false |skip
     exact .inl ⟨hk.yes 127 false,aX (.tmp 1) rfl (hk.o 1) (v:=(.pointer (some ⟨w.heap.size,1,none⟩))) (fun w=>AB) rfl⟩
    ·
     cases b<;>cases g1<;>first |exact hk.no 127 false |skip
     exact .inl ⟨hk.yes 127 false,aV (.tmp 128) rfl (hk.s 128) (v:=(.slice V.pa V.ps.length V.pc)) (fun q=>aT (fun w=>AB) (keep q.bel c1)) rfl⟩
    ·
     cases b<;>cases g1<;>first |exact hk.no 127 false |skip
     exact .inl ⟨hk.yes 127 false,aO (.tmp 7) rfl (hk.o 7)⟩
    ·
     cases b<;>cases g1<;>first |exact hk.no 127 false |skip
     exact .inl ⟨hk.yes 127 false,jR (.tmp 129) (.tmp 130) rfl (hk.s 129) (hk.s 130) (v:=(.pointer (some (ad V.pa (k*5))))) (fun w=>i0 w) rfl⟩
    ·
     cases b<;>cases g1<;>first |exact hk.no 127 false |skip
     exact .inl ⟨hk.yes 127 false,aX (.tmp 131) rfl (hk.s 131) (v:=(.pointer (some ⟨(ad V.pa (k*5)).block,(ad V.pa (k*5)).off+4,none⟩))) (fun w=>AB) rfl⟩
    ·
     cases b<;>cases g1<;>first |exact hk.no 127 false |skip
     exact .inl ⟨hk.yes 127 false,aV (.tmp 132) rfl (hk.s 132) (v:=(.slice x.a x.img.length x.c)) (fun q=>aT (fun w=>AB) (u q).2.2.2.2) rfl⟩
    ·
     cases b<;>cases g1<;>first |exact hk.no 127 false |skip
     exact .inl ⟨hk.yes 127 false,q_len rfl AB (hk.s 133) rfl⟩
    ·
     cases b<;>cases g1<;>first |exact hk.no 127 false |skip
     exact .inl ⟨hk.yes 127 false,aX (.tmp 1) rfl (hk.o 1) (v:=(.pointer (some ⟨w.heap.size,1,none⟩))) (fun w=>AB) rfl⟩
    ·
     cases b<;>cases g1<;>first |exact hk.no 127 false |skip
     exact .inl ⟨hk.yes 127 false,aV (.tmp 135) rfl (hk.s 135) (v:=(.slice V.pa V.ps.length V.pc)) (fun q=>aT (fun w=>AB) (keep q.bel c1)) rfl⟩
    ·
     cases b<;>cases g1<;>first |exact hk.no 127 false |skip
     exact .inl ⟨hk.yes 127 false,aO (.tmp 7) rfl (hk.o 7)⟩
    ·
     cases b<;>cases g1<;>first |exact hk.no 127 false |skip
     exact .inl ⟨hk.yes 127 false,jR (.tmp 136) (.tmp 137) rfl (hk.s 136) (hk.s 137) (v:=(.pointer (some (ad V.pa (k*5))))) (fun w=>i0 w) rfl⟩
    ·
     cases b<;>cases g1<;>first |exact hk.no 127 false |skip
     exact .inl ⟨hk.yes 127 false,aX (.tmp 138) rfl (hk.s 138) (v:=(.pointer (some ⟨(ad V.pa (k*5)).block,(ad V.pa (k*5)).off+1,none⟩))) (fun w=>AB) rfl⟩
    ·
     cases b<;>cases g1<;>first |exact hk.no 127 false |skip
     exact .inl ⟨hk.yes 127 false,aX (.tmp 139) rfl (hk.s 139) (v:=(.pointer (some ⟨(ad V.pa (k*5)).block,(ad V.pa (k*5)).off+2,none⟩))) (fun w=>AB) rfl⟩
    ·
     cases b<;>cases g1<;>first |exact hk.no 127 false |skip
     exact .inl ⟨hk.yes 127 false,aV (.tmp 140) rfl (hk.s 140) (v:=(.int .i64 x.reg.size.1)) (fun q=>aT (fun w=>AB) (u q).2.2.1) rfl⟩
    ·
     cases b<;>cases g1<;>first |exact hk.no 127 false |skip
     exact .inl ⟨hk.yes 127 false,eP rfl (hk.s 134) (hk.s 141) (v:= .bool (decide ((x.reg.size.1:Int)<(x.img.length:Int)))) (fun w=>AB) (congrArg Value.bool (hg2.o))⟩
    ·
     cases b with
     |
      true=>
      exact .inl ⟨ah rfl,aI rfl true (hk.s 127) rfl⟩
     |
      false=>
      cases g1 with
      |
       true=>
       exact .inl ⟨ah rfl,aI rfl false (hk.s 127) (hk.s 142)⟩
      |
       false=>
       exact .inl ⟨ah rfl,aI rfl true (hk.s 127) rfl⟩
    ·
     exact .inl ⟨ah rfl,gU (.tmp 143) rfl (hk.s 143)⟩
   intro a ⟨w3,hb3⟩ hsame hall
   have he:=bn hsame [116,117,118,119,120,121,122,123,124,125,126,127,128,129,130,131,132,133,134,135,136,137,138,139,140,141,142,143,4] AB
   simp only[List.foldl_cons,List.foldl_nil] at he
   rw[show a.eval (.tmp 4)=(.bool R) from(hall 4 AB).trans (congrArg Value.bool hR.o.symm)] at he
   generalize a.eval (.tmp 116)=x116 at he
   generalize a.eval (.tmp 117)=x117 at he
   generalize a.eval (.tmp 118)=x118 at he
   generalize a.eval (.tmp 119)=x119 at he
   generalize a.eval (.tmp 120)=x120 at he
   generalize a.eval (.tmp 121)=x121 at he
   generalize a.eval (.tmp 122)=x122 at he
   generalize a.eval (.tmp 123)=x123 at he
   generalize a.eval (.tmp 124)=x124 at he
   generalize a.eval (.tmp 125)=x125 at he
   generalize a.eval (.tmp 126)=x126 at he
   generalize a.eval (.tmp 127)=x127 at he
   generalize a.eval (.tmp 128)=x128 at he
   generalize a.eval (.tmp 129)=x129 at he
   generalize a.eval (.tmp 130)=x130 at he
   generalize a.eval (.tmp 131)=x131 at he
   generalize a.eval (.tmp 132)=x132 at he
   generalize a.eval (.tmp 133)=x133 at he
   generalize a.eval (.tmp 134)=x134 at he
   generalize a.eval (.tmp 135)=x135 at he
   generalize a.eval (.tmp 136)=x136 at he
   generalize a.eval (.tmp 137)=x137 at he
   generalize a.eval (.tmp 138)=x138 at he
   generalize a.eval (.tmp 139)=x139 at he
   generalize a.eval (.tmp 140)=x140 at he
   generalize a.eval (.tmp 141)=x141 at he
   generalize a.eval (.tmp 142)=x142 at he
   generalize a.eval (.tmp 143)=x143 at he
   simp only[cu] at he
   dsimp only[List.set_cons_zero,List.set_cons_succ] at he
   subst he
   clear hsame hall
   go_wp2_with fail
   go_roundw
   case rel=>exact⟨k+1,R,rfl,by go_num,by omega,HN.o,HBk.o.trans (hb3.mono HBk.o.size)⟩
   case measure=>simp[intOf];omega
  ·have hk2:k=V.ps.length:=by omega
   have Hb:Hid (b=fB V.ps):=by rw[Hid,Hb.o,hk2,List.take_length];rfl
   have HO:=AQ (HO.o.stay B)
   have HBB:=AQ HBw.o
   clear hk2
   go_upto_if 144 with fail
   go_cut [3] (fun s3 wx=>∃(a:Option Addr) (L:List Int) (c:Nat),s3= .slice a L.length c∧Hid (L=dh V 3)∧Hid (L.length≤3)∧aZ cZ 1 3 w0.heap.size wx a L c∧Below w0.heap.size w0 wx)
   case first=>
    have HT:=AQ (iy V 2 (show 2<5 by decide))
    cases b with
    |
     true=>
     have HL2:Hid (L++ [(80:Int)]=dh V 3):=by rw[Hid,HT.o,←HL.o];simp[lC,←Hb.o]
     go_wp2_with ((with_reducible refine bW (o:=⟨some 147, .call _,_,_,_,_⟩) UE lD ql (y:=80) (.tmp 145) (.tmp 146) AA AA HO.o AA (by have:=HLL.o;omega) HBB.o.size AA AA ?_);intro a4 c4 w4 hO4 hg4 hn4;have HO4:=AQ hO4;have HB4:=AQ (HBB.o.trans (HO.o.grown hg4 HBB.o.size));clear hO4 hg4 hn4)
     go_meet
     exact⟨a4,L++ [80],c4,by simp,HL2.o,by have:=HLL.o;rw[Hid,List.length_append,List.length_singleton];omega,HO4.o,HB4.o⟩
    |
     false=>
     have HL2:Hid (L=dh V 3):=by rw[Hid,HT.o,←HL.o];simp[lC,←Hb.o]
     go_wp2_with fail
     go_meet
     exact⟨a,L,c,rfl,HL2.o,by have:=HLL.o;rw[Hid];omega,HO.o,HBB.o⟩
   case rest=>
    obtain⟨a,L,c,rfl,HL,HLL,hO,hB⟩:=hcut
    clear Hb
    go_step
    exact WV w w0 wc V R HR HV HI HB0 hl1 hl2 hl3 a L c HL HLL hO hB _ _ _ _ _ _ _ _ _ _ _ _ _ _ _ _ _ _ _ _ _ _ _ _ _ _ _ _ _ _ _ _ _ _ _ _ _ _ _ _ _ _ _ _ _ _ _ _ _ _ _ _ _ _ _ _ _ _ _ _ _ _ _ _ _ _ _ _ _ _ _ _ _ _ _ _ _ _ _ _ _ _ _ _ _ _ _ _ _ _ _ _ _ _ _ _ _ _ _ _ _ _ _ _ _ _ _ _ _ _ _ _ _ _ _ _ _ _ _ _ _ _ _ _ _ _ _ _ _ _ _ _ _ _ _ _ _ _ _ _ _ _ _ _ _ _ _ _ _ _ _ _ _ _ _ _ _ _ _ _ _ _ _ _ _ _ _ _ _ _ _ _ _ _ _ _ _ _ _ _ _ _ _ _ _ _ _ _ _ _ _ _ _ _ _ _ _ _ _ _ _ _ _ _ _ _ _ _ _ _ _ _ _ _ _ _ _ _ _ _ _ _ _ _ _ _ _ _ _ _ _ _ _ _
open Go Go.RowKit Go.Cit
def YA (V:aS) (B:Nat) (g1 g2:Bool):Nat→Value
 | 49=>(.pointer (some ⟨B,1,none⟩))
 | 50=>(.slice V.pa V.ps.length V.pc)
 | 51=>(.int .i64 (V.ps.length:Int))
 | 52=>(.bool g1)
 | 53=>(.bool g1)
 | 54=>(bif (!g1) then (.pointer (some ⟨B,1,none⟩)) else undef)
 | 55=>(bif (!g1) then (.slice V.pa V.ps.length V.pc) else undef)
 | 56=>(bif (!g1) then (.int .i64 (V.ps.length:Int)) else undef)
 | 57=>(bif (!g1) then (.bool g2) else undef)
 | 58=>(.bool (g1 || g2))
 | 4=>(.bool (g1 || g2))
 | _=>undef
def XG (_:aS) (B:Nat) (_ _:Bool):Nat→Value
 | 1=>(.pointer (some ⟨B,0,none⟩))
 | _=>undef
def Xc (V:aS) (B k:Nat) (x y:Int) (b g1 g2 g3 g4:Bool):Nat→Value
 | 66=>(.bool b)
 | 67=>(.bool b)
 | 68=>(bif (!b) then (.pointer (some ⟨B,1,none⟩)) else undef)
 | 69=>(bif (!b) then (.slice V.pa V.ps.length V.pc) else undef)
 | 70=>(bif (!b) then (.int .i64 (k:Int)) else undef)
 | 71=>(bif (!b) then (.pointer (some (ad V.pa (k*5)))) else undef)
 | 72=>(bif (!b) then (.pointer (some (ad V.pa (k*5)))) else undef)
 | 73=>(bif (!b) then (.int .i64 x) else undef)
 | 74=>(bif (!b) then (.bool g1) else undef)
 | 75=>(.bool (b || g1))
 | 76=>(.bool (b || g1))
 | 77=>(bif (!(b || g1)) then (.pointer (some ⟨B,1,none⟩)) else undef)
 | 78=>(bif (!(b || g1)) then (.slice V.pa V.ps.length V.pc) else undef)
 | 79=>(bif (!(b || g1)) then (.int .i64 (k:Int)) else undef)
 | 80=>(bif (!(b || g1)) then (.pointer (some (ad V.pa (k*5)))) else undef)
 | 81=>(bif (!(b || g1)) then (.pointer (some (ad V.pa (k*5)))) else undef)
 | 82=>(bif (!(b || g1)) then (.int .i64 x) else undef)
 | 83=>(bif (!(b || g1)) then (.bool g2) else undef)
 | 84=>(.bool ((b || g1) || g2))
 | 85=>(.bool ((b || g1) || g2))
 | 86=>(bif (!((b || g1) || g2)) then (.int .i64 (k:Int)) else undef)
 | 87=>(bif (!((b || g1) || g2)) then (.bool g3) else undef)
 | 88=>(bif (!((b || g1) || g2)) then (.bool g3) else undef)
 | 89=>(bif ((!((b || g1) || g2)) && g3) then (.pointer (some ⟨B,1,none⟩)) else undef)
 | 90=>(bif ((!((b || g1) || g2)) && g3) then (.slice V.pa V.ps.length V.pc) else undef)
 | 91=>(bif ((!((b || g1) || g2)) && g3) then (.int .i64 (k:Int)) else undef)
 | 92=>(bif ((!((b || g1) || g2)) && g3) then (.pointer (some (ad V.pa (k*5)))) else undef)
 | 93=>(bif ((!((b || g1) || g2)) && g3) then (.pointer (some (ad V.pa (k*5)))) else undef)
 | 94=>(bif ((!((b || g1) || g2)) && g3) then (.int .i64 x) else undef)
 | 95=>(bif ((!((b || g1) || g2)) && g3) then (.pointer (some ⟨B,1,none⟩)) else undef)
 | 96=>(bif ((!((b || g1) || g2)) && g3) then (.slice V.pa V.ps.length V.pc) else undef)
 | 97=>(bif ((!((b || g1) || g2)) && g3) then (.int .i64 (k:Int)) else undef)
 | 98=>(bif ((!((b || g1) || g2)) && g3) then (.int .i64 ((k-1:Nat):Int)) else undef)
 | 99=>(bif ((!((b || g1) || g2)) && g3) then (.pointer (some (ad V.pa ((k-1)*5)))) else undef)
 | 100=>(bif ((!((b || g1) || g2)) && g3) then (.pointer (some (ad V.pa ((k-1)*5)))) else undef)
 | 101=>(bif ((!((b || g1) || g2)) && g3) then (.int .i64 y) else undef)
 | 102=>(bif ((!((b || g1) || g2)) && g3) then (.bool g4) else undef)
 | 103=>(bif (!((b || g1) || g2)) then (.bool (g3 && g4)) else undef)
 | 104=>(.bool (((b || g1) || g2) || (g3 && g4)))
 | 4=>(.bool (((b || g1) || g2) || (g3 && g4)))
 | _=>undef
def VD (_:aS) (B k:Nat) (_ _:Int) (b _ _ _ _:Bool):Nat→Value
 | 1=>(.pointer (some ⟨B,0,none⟩))
 | 4=>(.bool b)
 | 6=>(.int .i64 (k:Int))
 | _=>undef
theorem Xz (w w0 wc:World) (V:aS) (R:List Int) (HR:Hid (R=errs V)) (HV:Hid (V.At w0)) (HI:Hid (fP w0 w.heap.size V)) (HB0:Hid (Below w.heap.size w w0)) (hl1:V.ws.length≤9223372036854775807) (hl2:V.ps.length≤9223372036854775807) (hl3:V.cs.length≤9223372036854775807)
 (a:Option Addr) (L:List Int) (c:Nat) (HL:Hid (L=dh V 1)) (HLL:Hid (L.length≤1)) (hO:aZ cZ 1 3 w0.heap.size wc a L c) (hB:Below w0.heap.size w0 wc) (x0 x2 x4 x5 x6 x7 x8 x9 x10 x11 x12 x13 x14 x15 x16 x17 x18 x19 x20 x21 x22 x23 x24 x25 x26 x27 x28 x29 x30 x31 x32 x33 x34 x35 x36 x37 x38 x39 x40 x41 x42 x43 x44 x45 x46 x47 x48 x49 x50 x51 x52 x53 x54 x55 x56 x57 x58 x59 x60 x61 x62 x63 x64 x65 x66 x67 x68 x69 x70 x71 x72 x73 x74 x75 x76 x77 x78 x79 x80 x81 x82 x83 x84 x85 x86 x87 x88 x89 x90 x91 x92 x93 x94 x95 x96 x97 x98 x99 x100 x101 x102 x103 x104 x105 x106 x107 x108 x109 x110 x111 x112 x113 x114 x115 x116 x117 x118 x119 x120 x121 x122 x123 x124 x125 x126 x127 x128 x129 x130 x131 x132 x133 x134 x135 x136 x137 x138 x139 x140 x141 x142 x143 x144 x145 x146 x147 x148 x149 x150 x151 x152 x153 x154 x155 x156 x157 x158 x159 x160 x161 x162 x163 x164 x165 x166 x167 x168 x169 x170 x171 x172 x173 x174 x175 x176 x177 x178 x179 x180 x181 x182 x183 x184 x185 x186 x187 x188 x189 x190 x191 x192 x193 x194 x195 x196 x197 x198 x199 x200 x201 x202 x203 x204 x205 x206 x207 x208 x209 x210 x211 x212 x213 x214 x215 x216 x217 x218 x219 x220 x221 x222 x223 x224 x225 x226 x227 x228 x229 x230 x231 x232 x233 x234 x235:Value):
 Code.wp Tryz.prog (uo 5 (bodyC Tryz.f157)) (bodyPost Tryz.prog Tryz.f157 (fun e w'=>∃a c,e= .returned (.slice a R.length c)∧aZ cZ 1 3 w.heap.size w' a R c∧Below w.heap.size w w')) ⟨#[x0, .pointer (some ⟨w.heap.size,0,none⟩),x2, .slice a L.length c,x4,x5,x6,x7,x8,x9,x10,x11,x12,x13,x14,x15,x16,x17,x18,x19,x20,x21,x22,x23,x24,x25,x26,x27,x28,x29,x30,x31,x32,x33,x34,x35,x36,x37,x38,x39,x40,x41,x42,x43,x44,x45,x46,x47,x48,x49,x50,x51,x52,x53,x54,x55,x56,x57,x58,x59,x60,x61,x62,x63,x64,x65,x66,x67,x68,x69,x70,x71,x72,x73,x74,x75,x76,x77,x78,x79,x80,x81,x82,x83,x84,x85,x86,x87,x88,x89,x90,x91,x92,x93,x94,x95,x96,x97,x98,x99,x100,x101,x102,x103,x104,x105,x106,x107,x108,x109,x110,x111,x112,x113,x114,x115,x116,x117,x118,x119,x120,x121,x122,x123,x124,x125,x126,x127,x128,x129,x130,x131,x132,x133,x134,x135,x136,x137,x138,x139,x140,x141,x142,x143,x144,x145,x146,x147,x148,x149,x150,x151,x152,x153,x154,x155,x156,x157,x158,x159,x160,x161,x162,x163,x164,x165,x166,x167,x168,x169,x170,x171,x172,x173,x174,x175,x176,x177,x178,x179,x180,x181,x182,x183,x184,x185,x186,x187,x188,x189,x190,x191,x192,x193,x194,x195,x196,x197,x198,x199,x200,x201,x202,x203,x204,x205,x206,x207,x208,x209,x210,x211,x212,x213,x214,x215,x216,x217,x218,x219,x220,x221,x222,x223,x224,x225,x226,x227,x228,x229,x230,x231,x232,x233,x234,x235],[]⟩ wc:=by
 conv in uo _ _=>whnf
 have HO:=AQ hO
 have HBB:=AQ hB
 obtain⟨c0,c1,c2⟩:=HI.o.keep hB
 clear hO hB
 obtain⟨bl,hbl⟩:=AU (decide (V.ps.length<1∨6<V.ps.length))
 obtain⟨g1,hg1⟩:∃g,Hid (((V.ps.length:Int)==0)=g):=⟨_,rfl⟩
 obtain⟨g2,hg2⟩:∃g,Hid (decide ((6:Int)<(V.ps.length:Int))=g):=⟨_,rfl⟩
 have hR:Hid (bl=(g1 || g2)):=by
  rw[Hid,hbl.o,←hg1.o,←hg2.o,Bool.eq_iff_iff]
  simp only[decide_eq_true_eq,Bool.or_eq_true,beq_iff_eq]
  omega
 go_upto_region 9 with fail
 refine bJ (YA V w.heap.size g1 g2) (XG V w.heap.size g1 g2) [1] AB ⟨rfl,trivial⟩ ?_ ?_
 ·repeat' (first |exact aQ |refine aB ?_ ?_)
  all_goals intro a hk
  ·
   exact .inl ⟨ah rfl,aX (.tmp 1) rfl (hk.o 1) (v:=(.pointer (some ⟨w.heap.size,1,none⟩))) (fun w=>AB) rfl⟩
  ·
   exact .inl ⟨ah rfl,aV (.tmp 49) rfl (hk.s 49) (v:=(.slice V.pa V.ps.length V.pc)) (fun q=>aT (fun w=>AB) (keep q.bel c1)) rfl⟩
  ·
   exact .inl ⟨ah rfl,q_len rfl AB (hk.s 50) rfl⟩
  ·
   exact .inl ⟨ah rfl,eP rfl (hk.s 51) rfl (v:= .bool ((((V.ps.length:Int):Int)==0))) (fun w=>AB) (congrArg Value.bool (hg1.o))⟩
  ·
   exact .inl ⟨ah rfl,aO (.tmp 52) rfl (hk.s 52)⟩
  ·
   cases g1<;>first |exact hk.no 53 false |skip
   exact .inl ⟨hk.yes 53 false,aX (.tmp 1) rfl (hk.o 1) (v:=(.pointer (some ⟨w.heap.size,1,none⟩))) (fun w=>AB) rfl⟩
  ·
   cases g1<;>first |exact hk.no 53 false |skip
   exact .inl ⟨hk.yes 53 false,aV (.tmp 54) rfl (hk.s 54) (v:=(.slice V.pa V.ps.length V.pc)) (fun q=>aT (fun w=>AB) (keep q.bel c1)) rfl⟩
  ·
   cases g1<;>first |exact hk.no 53 false |skip
   exact .inl ⟨hk.yes 53 false,q_len rfl AB (hk.s 55) rfl⟩
  ·
   cases g1<;>first |exact hk.no 53 false |skip
   exact .inl ⟨hk.yes 53 false,eP rfl (hk.s 56) rfl (v:= .bool (decide ((6:Int)<(V.ps.length:Int)))) (fun w=>AB) (congrArg Value.bool (hg2.o))⟩
  ·
   cases g1 with
   |
    true=>
    exact .inl ⟨ah rfl,aI rfl true (hk.s 53) rfl⟩
   |
    false=>
    exact .inl ⟨ah rfl,aI rfl false (hk.s 53) (hk.s 57)⟩
  ·
   exact .inl ⟨ah rfl,gU (.tmp 58) rfl (hk.s 58)⟩
 intro a ⟨wd,hbd⟩ hsame hall
 have he:=bn hsame [49,50,51,52,53,54,55,56,57,58,4] AB
 simp only[List.foldl_cons,List.foldl_nil] at he
 rw[show a.eval (.tmp 4)=(.bool bl) from(hall 4 AB).trans (congrArg Value.bool hR.o.symm)] at he
 generalize a.eval (.tmp 49)=x49 at he
 generalize a.eval (.tmp 50)=x50 at he
 generalize a.eval (.tmp 51)=x51 at he
 generalize a.eval (.tmp 52)=x52 at he
 generalize a.eval (.tmp 53)=x53 at he
 generalize a.eval (.tmp 54)=x54 at he
 generalize a.eval (.tmp 55)=x55 at he
 generalize a.eval (.tmp 56)=x56 at he
 generalize a.eval (.tmp 57)=x57 at he
 generalize a.eval (.tmp 58)=x58 at he
 simp only[cu] at he
 dsimp only[List.set_cons_zero,List.set_cons_succ] at he
 subst he
 clear hsame hall
 go_wp2_with fail
 have HBB:=AQ (HBB.o.trans (hbd.mono HBB.o.size))
 have HO:=AQ (HO.o.stay hbd)
 obtain⟨c0,c1,c2⟩:=HI.o.keep HBB.o
 clear hbd
 go_loopw [4,6] (fun b s wr=>∃(k:Nat) (q:Bool),b= .bool q∧s= .int .i64 k∧k≤V.ps.length∧Hid (q=(bl || !Gf V.ps k))∧Below wd.heap.size wd wr) (fun _ s _=>V.ps.length-(intOf s).toNat)
 case atStart=>exact⟨0,bl,rfl,rfl,Nat.zero_le _,by rw[Hid];simp[Gf],Below.refl _ _⟩
 case round=>
  obtain⟨k,b,rfl,rfl,hk,Hb,B⟩:=hrel
  have HBw:=AQ (HBB.o.trans (B.mono HBB.o.size))
  obtain⟨c0,c1,c2⟩:=HI.o.keep HBw.o
  by_cases hlt:k<V.ps.length
  ·skip
   have i0:=HV.o.pts.index yH k hlt
   have i1:=HV.o.pts.index yH (k-1) AL
   have u0:∀q:After wr,_:=fun q=>(bK HV.o.pts (HBw.o.trans (q.bel.mono HBw.o.size)) k hlt).1
   have u1:∀q:After wr,_:=fun q=>(bK HV.o.pts (HBw.o.trans (q.bel.mono HBw.o.size)) (k-1) AL).1
   have HBk:=AQ B
   have HS:=AQ (Pv V.ps k)
   clear B
   obtain⟨x,hx⟩:∃x:Int,Hid (x=lQ V.ps k):=⟨_,rfl⟩
   obtain⟨y,hy⟩:∃y:Int,Hid (y=lQ V.ps (k-1)):=⟨_,rfl⟩
   simp only[←EY V.ps k hlt,←hx.o] at u0
   simp only[←EY V.ps (k-1) AL,←hy.o] at u1
   obtain⟨g1,hg1⟩:∃g,Hid (decide ((x:Int)<1)=g):=⟨_,rfl⟩
   obtain⟨g2,hg2⟩:∃g,Hid (decide ((6:Int)<x)=g):=⟨_,rfl⟩
   obtain⟨g3,hg3⟩:∃g,Hid (decide ((0:Int)<(k:Int))=g):=⟨_,rfl⟩
   obtain⟨g4,hg4⟩:∃g,Hid (decide ((x:Int)≤y)=g):=⟨_,rfl⟩
   obtain⟨R,hR⟩:=AU ((((b || g1) || g2) || (g3 && g4)))
   have HN:Hid (R=(bl || !Gf V.ps (k+1))):=by
    have e:Ox V.ps k= !((g1 || g2) || (g3 && g4)):=by
     rw[←hg1.o,←hg2.o,←hg3.o,←hg4.o]
     unfold Ox
     rw[←hx.o,←hy.o,Bool.eq_iff_iff]
     simp only[decide_eq_true_eq,Bool.not_eq_true',Bool.or_eq_false_iff,Bool.and_eq_false_iff,decide_eq_false_iff_not]
     omega
    rw[Hid,HS.o,hR.o,Hb.o,e]
    cases bl<;>cases Gf V.ps k<;>cases g1<;>cases g2<;>cases g3<;>cases g4<;>rfl
   go_wp2_with fail
   refine eu (Xc V w.heap.size k x y b g1 g2 g3 g4) (VD V w.heap.size k x y b g1 g2 g3 g4) [1,4,6] AB AB AB ⟨rfl,rfl,rfl,trivial⟩ ?_ ?_
   ·repeat' (first |exact aQ |refine aB ?_ ?_)
    all_goals intro a hk
    ·
     exact .inl ⟨ah rfl,aO (.tmp 4) rfl (hk.o 4)⟩
    ·
     exact .inl ⟨ah rfl,aO (.tmp 66) rfl (hk.s 66)⟩
    ·
     cases b<;>first |exact hk.no 67 false |skip
     exact .inl ⟨hk.yes 67 false,aX (.tmp 1) rfl (hk.o 1) (v:=(.pointer (some ⟨w.heap.size,1,none⟩))) (fun w=>AB) rfl⟩
    ·
     cases b<;>first |exact hk.no 67 false |skip
     exact .inl ⟨hk.yes 67 false,aV (.tmp 68) rfl (hk.s 68) (v:=(.slice V.pa V.ps.length V.pc)) (fun q=>aT (fun w=>AB) (keep q.bel c1)) rfl⟩
    ·
     cases b<;>first |exact hk.no 67 false |skip
     exact .inl ⟨hk.yes 67 false,aO (.tmp 6) rfl (hk.o 6)⟩
    ·
     cases b<;>first |exact hk.no 67 false |skip
     exact .inl ⟨hk.yes 67 false,jR (.tmp 69) (.tmp 70) rfl (hk.s 69) (hk.s 70) (v:=(.pointer (some (ad V.pa (k*5))))) (fun w=>i0 w) rfl⟩
    ·
     cases b<;>first |exact hk.no 67 false |skip
     exact .inl ⟨hk.yes 67 false,aX (.tmp 71) rfl (hk.s 71) (v:=(.pointer (some (ad V.pa (k*5))))) (fun w=>AB) rfl⟩
    ·
     cases b<;>first |exact hk.no 67 false |skip
     exact .inl ⟨hk.yes 67 false,aV (.tmp 72) rfl (hk.s 72) (v:=(.int .i64 x)) (fun q=>aT (fun w=>AB) (u0 q)) rfl⟩
    ·
     cases b<;>first |exact hk.no 67 false |skip
     exact .inl ⟨hk.yes 67 false,eP rfl (hk.s 73) rfl (v:= .bool (decide ((x:Int)<1))) (fun w=>AB) (congrArg Value.bool (hg1.o))⟩
    ·
     cases b with
     |
      true=>
      exact .inl ⟨ah rfl,aI rfl true (hk.s 67) rfl⟩
     |
      false=>
      exact .inl ⟨ah rfl,aI rfl false (hk.s 67) (hk.s 74)⟩
    ·
     exact .inl ⟨ah rfl,aO (.tmp 75) rfl (hk.s 75)⟩
    ·
     cases b<;>cases g1<;>first |exact hk.no 76 false |skip
     exact .inl ⟨hk.yes 76 false,aX (.tmp 1) rfl (hk.o 1) (v:=(.pointer (some ⟨w.heap.size,1,none⟩))) (fun w=>AB) rfl⟩
    ·
     cases b<;>cases g1<;>first |exact hk.no 76 false |skip
     exact .inl ⟨hk.yes 76 false,aV (.tmp 77) rfl (hk.s 77) (v:=(.slice V.pa V.ps.length V.pc)) (fun q=>aT (fun w=>AB) (keep q.bel c1)) rfl⟩
    ·
     cases b<;>cases g1<;>first |exact hk.no 76 false |skip
     exact .inl ⟨hk.yes 76 false,aO (.tmp 6) rfl (hk.o 6)⟩
    ·
     cases b<;>cases g1<;>first |exact hk.no 76 false |skip
     exact .inl ⟨hk.yes 76 false,jR (.tmp 78) (.tmp 79) rfl (hk.s 78) (hk.s 79) (v:=(.pointer (some (ad V.pa (k*5))))) (fun w=>i0 w) rfl⟩
    ·
     cases b<;>cases g1<;>first |exact hk.no 76 false |skip
     exact .inl ⟨hk.yes 76 false,aX (.tmp 80) rfl (hk.s 80) (v:=(.pointer (some (ad V.pa (k*5))))) (fun w=>AB) rfl⟩
    ·
     cases b<;>cases g1<;>first |exact hk.no 76 false |skip
     exact .inl ⟨hk.yes 76 false,aV (.tmp 81) rfl (hk.s 81) (v:=(.int .i64 x)) (fun q=>aT (fun w=>AB) (u0 q)) rfl⟩
    ·
     cases b<;>cases g1<;>first |exact hk.no 76 false |skip
     exact .inl ⟨hk.yes 76 false,eP rfl (hk.s 82) rfl (v:= .bool (decide ((6:Int)<x))) (fun w=>AB) (congrArg Value.bool (hg2.o))⟩
    ·
     cases b with
     |
      true=>
      exact .inl ⟨ah rfl,aI rfl true (hk.s 76) rfl⟩
     |
      false=>
      cases g1 with
      |
       true=>
       exact .inl ⟨ah rfl,aI rfl true (hk.s 76) rfl⟩
      |
       false=>
       exact .inl ⟨ah rfl,aI rfl false (hk.s 76) (hk.s 83)⟩
    ·
     exact .inl ⟨ah rfl,aO (.tmp 84) rfl (hk.s 84)⟩
    ·
     cases b<;>cases g1<;>cases g2<;>first |exact hk.no 85 false |skip
     exact .inl ⟨hk.yes 85 false,aO (.tmp 6) rfl (hk.o 6)⟩
    ·
     cases b<;>cases g1<;>cases g2<;>first |exact hk.no 85 false |skip
     exact .inl ⟨hk.yes 85 false,eP rfl (hk.s 86) rfl (v:= .bool (decide ((0:Int)<(k:Int)))) (fun w=>AB) (congrArg Value.bool (hg3.o))⟩
    ·
     cases b<;>cases g1<;>cases g2<;>first |exact hk.no 85 false |skip
     exact .inl ⟨hk.yes 85 false,aO (.tmp 87) rfl (hk.s 87)⟩
    ·
     cases b<;>cases g1<;>cases g2<;>cases g3<;>first |exact hk.no 88 true |exact hk.nu 88 true |skip
     exact .inl ⟨hk.yes 88 true,aX (.tmp 1) rfl (hk.o 1) (v:=(.pointer (some ⟨w.heap.size,1,none⟩))) (fun w=>AB) rfl⟩
    ·
     cases b<;>cases g1<;>cases g2<;>cases g3<;>first |exact hk.no 88 true |exact hk.nu 88 true |skip
     exact .inl ⟨hk.yes 88 true,aV (.tmp 89) rfl (hk.s 89) (v:=(.slice V.pa V.ps.length V.pc)) (fun q=>aT (fun w=>AB) (keep q.bel c1)) rfl⟩
    ·
     cases b<;>cases g1<;>cases g2<;>cases g3<;>first |exact hk.no 88 true |exact hk.nu 88 true |skip
     exact .inl ⟨hk.yes 88 true,aO (.tmp 6) rfl (hk.o 6)⟩
    ·
     cases b<;>cases g1<;>cases g2<;>cases g3<;>first |exact hk.no 88 true |exact hk.nu 88 true |skip
     exact .inl ⟨hk.yes 88 true,jR (.tmp 90) (.tmp 91) rfl (hk.s 90) (hk.s 91) (v:=(.pointer (some (ad V.pa (k*5))))) (fun w=>i0 w) rfl⟩
    ·
     cases b<;>cases g1<;>cases g2<;>cases g3<;>first |exact hk.no 88 true |exact hk.nu 88 true |skip
     exact .inl ⟨hk.yes 88 true,aX (.tmp 92) rfl (hk.s 92) (v:=(.pointer (some (ad V.pa (k*5))))) (fun w=>AB) rfl⟩
    ·
     cases b<;>cases g1<;>cases g2<;>cases g3<;>first |exact hk.no 88 true |exact hk.nu 88 true |skip
     exact .inl ⟨hk.yes 88 true,aV (.tmp 93) rfl (hk.s 93) (v:=(.int .i64 x)) (fun q=>aT (fun w=>AB) (u0 q)) rfl⟩
    ·
     cases b<;>cases g1<;>cases g2<;>cases g3<;>first |exact hk.no 88 true |exact hk.nu 88 true |skip
     exact .inl ⟨hk.yes 88 true,aX (.tmp 1) rfl (hk.o 1) (v:=(.pointer (some ⟨w.heap.size,1,none⟩))) (fun w=>AB) rfl⟩
    ·
     cases b<;>cases g1<;>cases g2<;>cases g3<;>first |exact hk.no 88 true |exact hk.nu 88 true |skip
     exact .inl ⟨hk.yes 88 true,aV (.tmp 95) rfl (hk.s 95) (v:=(.slice V.pa V.ps.length V.pc)) (fun q=>aT (fun w=>AB) (keep q.bel c1)) rfl⟩
    ·
     cases b<;>cases g1<;>cases g2<;>cases g3<;>first |exact hk.no 88 true |exact hk.nu 88 true |skip
     exact .inl ⟨hk.yes 88 true,aO (.tmp 6) rfl (hk.o 6)⟩
    ·
     cases b<;>cases g1<;>cases g2<;>cases g3<;>first |exact hk.no 88 true |exact hk.nu 88 true |skip
     exact .inl ⟨hk.yes 88 true,eP rfl (show a.eval (.tmp 97)=(.int .i64 (k:Int)) from hk.s 97) rfl (v:=(.int .i64 ((k-1:Nat):Int))) (fun w=>by have:=of_decide_eq_true hg3.o;go_simp;exact(IntWalk.i64_in _ AL).trans AL) rfl⟩
    ·
     cases b<;>cases g1<;>cases g2<;>cases g3<;>first |exact hk.no 88 true |exact hk.nu 88 true |skip
     exact .inl ⟨hk.yes 88 true,jR (.tmp 96) (.tmp 98) rfl (hk.s 96) (hk.s 98) (v:=(.pointer (some (ad V.pa ((k-1)*5))))) (fun w=>i1 w) rfl⟩
    ·
     cases b<;>cases g1<;>cases g2<;>cases g3<;>first |exact hk.no 88 true |exact hk.nu 88 true |skip
     exact .inl ⟨hk.yes 88 true,aX (.tmp 99) rfl (hk.s 99) (v:=(.pointer (some (ad V.pa ((k-1)*5))))) (fun w=>AB) rfl⟩
    ·
     cases b<;>cases g1<;>cases g2<;>cases g3<;>first |exact hk.no 88 true |exact hk.nu 88 true |skip
     exact .inl ⟨hk.yes 88 true,aV (.tmp 100) rfl (hk.s 100) (v:=(.int .i64 y)) (fun q=>aT (fun w=>AB) (u1 q)) rfl⟩
    ·
     cases b<;>cases g1<;>cases g2<;>cases g3<;>first |exact hk.no 88 true |exact hk.nu 88 true |skip
     exact .inl ⟨hk.yes 88 true,eP rfl (hk.s 94) (hk.s 101) (v:= .bool (decide ((x:Int)≤y))) (fun w=>AB) (congrArg Value.bool (hg4.o))⟩
    ·
     cases b with
     |
      true=>
      exact hk.no 85 false
     |
      false=>
      cases g1 with
      |
       true=>
       exact hk.no 85 false
      |
       false=>
       cases g2 with
       |
        true=>
        exact hk.no 85 false
       |
        false=>
        cases g3 with
        |
         true=>
         exact .inl ⟨hk.yes 85 false,aI rfl true (hk.s 88) (hk.s 102)⟩
        |
         false=>
         exact .inl ⟨hk.yes 85 false,aI rfl false (hk.s 88) rfl⟩
    ·
     cases b with
     |
      true=>
      exact .inl ⟨ah rfl,aI rfl true (hk.s 85) rfl⟩
     |
      false=>
      cases g1 with
      |
       true=>
       exact .inl ⟨ah rfl,aI rfl true (hk.s 85) rfl⟩
      |
       false=>
       cases g2 with
       |
        true=>
        exact .inl ⟨ah rfl,aI rfl true (hk.s 85) rfl⟩
       |
        false=>
        exact .inl ⟨ah rfl,aI rfl false (hk.s 85) (hk.s 103)⟩
    ·
     exact .inl ⟨ah rfl,gU (.tmp 104) rfl (hk.s 104)⟩
   intro a ⟨w3,hb3⟩ hsame hall
   have he:=bn hsame [66,67,68,69,70,71,72,73,74,75,76,77,78,79,80,81,82,83,84,85,86,87,88,89,90,91,92,93,94,95,96,97,98,99,100,101,102,103,104,4] AB
   simp only[List.foldl_cons,List.foldl_nil] at he
   rw[show a.eval (.tmp 4)=(.bool R) from(hall 4 AB).trans (congrArg Value.bool hR.o.symm)] at he
   generalize a.eval (.tmp 66)=x66 at he
   generalize a.eval (.tmp 67)=x67 at he
   generalize a.eval (.tmp 68)=x68 at he
   generalize a.eval (.tmp 69)=x69 at he
   generalize a.eval (.tmp 70)=x70 at he
   generalize a.eval (.tmp 71)=x71 at he
   generalize a.eval (.tmp 72)=x72 at he
   generalize a.eval (.tmp 73)=x73 at he
   generalize a.eval (.tmp 74)=x74 at he
   generalize a.eval (.tmp 75)=x75 at he
   generalize a.eval (.tmp 76)=x76 at he
   generalize a.eval (.tmp 77)=x77 at he
   generalize a.eval (.tmp 78)=x78 at he
   generalize a.eval (.tmp 79)=x79 at he
   generalize a.eval (.tmp 80)=x80 at he
   generalize a.eval (.tmp 81)=x81 at he
   generalize a.eval (.tmp 82)=x82 at he
   generalize a.eval (.tmp 83)=x83 at he
   generalize a.eval (.tmp 84)=x84 at he
   generalize a.eval (.tmp 85)=x85 at he
   generalize a.eval (.tmp 86)=x86 at he
   generalize a.eval (.tmp 87)=x87 at he
   generalize a.eval (.tmp 88)=x88 at he
   generalize a.eval (.tmp 89)=x89 at he
   generalize a.eval (.tmp 90)=x90 at he
   generalize a.eval (.tmp 91)=x91 at he
   generalize a.eval (.tmp 92)=x92 at he
   generalize a.eval (.tmp 93)=x93 at he
   generalize a.eval (.tmp 94)=x94 at he
   generalize a.eval (.tmp 95)=x95 at he
   generalize a.eval (.tmp 96)=x96 at he
   generalize a.eval (.tmp 97)=x97 at he
   generalize a.eval (.tmp 98)=x98 at he
   generalize a.eval (.tmp 99)=x99 at he
   generalize a.eval (.tmp 100)=x100 at he
   generalize a.eval (.tmp 101)=x101 at he
   generalize a.eval (.tmp 102)=x102 at he
   generalize a.eval (.tmp 103)=x103 at he
   generalize a.eval (.tmp 104)=x104 at he
   simp only[cu] at he
   dsimp only[List.set_cons_zero,List.set_cons_succ] at he
   subst he
   clear hsame hall
   go_wp2_with fail
   go_roundw
   case rel=>exact⟨k+1,R,rfl,by go_num,by omega,HN.o,HBk.o.trans (hb3.mono HBk.o.size)⟩
   case measure=>simp[intOf];omega
  ·have hk2:k=V.ps.length:=by omega
   have Hb:Hid (b=gZ V.ps):=by rw[Hid,Hb.o,hk2,RZ,hbl.o];rfl
   have HO:=AQ (HO.o.stay B)
   have HBB:=AQ HBw.o
   clear hk2
   go_upto_if 105 with fail
   go_cut [3] (fun s3 wx=>∃(a:Option Addr) (L:List Int) (c:Nat),s3= .slice a L.length c∧Hid (L=dh V 2)∧Hid (L.length≤2)∧aZ cZ 1 3 w0.heap.size wx a L c∧Below w0.heap.size w0 wx)
   case first=>
    have HT:=AQ (iy V 1 (show 1<5 by decide))
    cases b with
    |
     true=>
     have HL2:Hid (L++ [(120:Int)]=dh V 2):=by rw[Hid,HT.o,←HL.o];simp[lC,←Hb.o]
     go_wp2_with ((with_reducible refine bW (o:=⟨some 108, .call _,_,_,_,_⟩) UE lD ql (y:=120) (.tmp 106) (.tmp 107) AA AA HO.o AA (by have:=HLL.o;omega) HBB.o.size AA AA ?_);intro a4 c4 w4 hO4 hg4 hn4;have HO4:=AQ hO4;have HB4:=AQ (HBB.o.trans (HO.o.grown hg4 HBB.o.size));clear hO4 hg4 hn4)
     go_meet
     exact⟨a4,L++ [120],c4,by simp,HL2.o,by have:=HLL.o;rw[Hid,List.length_append,List.length_singleton];omega,HO4.o,HB4.o⟩
    |
     false=>
     have HL2:Hid (L=dh V 2):=by rw[Hid,HT.o,←HL.o];simp[lC,←Hb.o]
     go_wp2_with fail
     go_meet
     exact⟨a,L,c,rfl,HL2.o,by have:=HLL.o;rw[Hid];omega,HO.o,HBB.o⟩
   case rest=>
    obtain⟨a,L,c,rfl,HL,HLL,hO,hB⟩:=hcut
    clear Hb
    go_step
    exact XB w w0 wc V R HR HV HI HB0 hl1 hl2 hl3 a L c HL HLL hO hB _ _ _ _ _ _ _ _ _ _ _ _ _ _ _ _ _ _ _ _ _ _ _ _ _ _ _ _ _ _ _ _ _ _ _ _ _ _ _ _ _ _ _ _ _ _ _ _ _ _ _ _ _ _ _ _ _ _ _ _ _ _ _ _ _ _ _ _ _ _ _ _ _ _ _ _ _ _ _ _ _ _ _ _ _ _ _ _ _ _ _ _ _ _ _ _ _ _ _ _ _ _ _ _ _ _ _ _ _ _ _ _ _ _ _ _ _ _ _ _ _ _ _ _ _ _ _ _ _ _ _ _ _ _ _ _ _ _ _ _ _ _ _ _ _ _ _ _ _ _ _ _ _ _ _ _ _ _ _ _ _ _ _ _ _ _ _ _ _ _ _ _ _ _ _ _ _ _ _ _ _ _ _ _ _ _ _ _ _ _ _ _ _ _ _ _ _ _ _ _ _ _ _ _ _ _ _ _ _ _ _ _ _ _ _ _ _ _ _ _ _ _ _ _ _ _ _ _ _ _ _ _ _ _
end Go.Proofs.YtlholdllibghbaaGreat
