/- Texts of the proof, one behind the other: RefAll6, RefAll5, RefAll4. No condition but those that each names. -/
import Derived.Test.YtlholdllibghbaaGreatG39
import Derived.Test.YtlholdllibghbaaGreatKit
set_option maxRecDepth 100000
set_option maxHeartbeats 8000000
namespace Go.Proofs.YtlholdllibghbaaGreat
open Go Go.RowKit Go.Cit
theorem WZ (w w0 wc:World) (V:aS) (R:List Int) (HR:Hid (R=errs V)) (HV:Hid (V.At w0)) (HI:Hid (fP w0 w.heap.size V)) (HB0:Hid (Below w.heap.size w w0)) (hl1:V.ws.length≤9223372036854775807) (hl2:V.ps.length≤9223372036854775807) (hl3:V.cs.length≤9223372036854775807)
 (a:Option Addr) (L:List Int) (c:Nat) (HL:Hid (L=dh V 5)) (HLL:Hid (L.length≤5)) (hO:aZ cZ 1 3 w0.heap.size wc a L c) (hB:Below w0.heap.size w0 wc) (x0 x2 x4 x5 x6 x7 x8 x9 x10 x11 x12 x13 x14 x15 x16 x17 x18 x19 x20 x21 x22 x23 x24 x25 x26 x27 x28 x29 x30 x31 x32 x33 x34 x35 x36 x37 x38 x39 x40 x41 x42 x43 x44 x45 x46 x47 x48 x49 x50 x51 x52 x53 x54 x55 x56 x57 x58 x59 x60 x61 x62 x63 x64 x65 x66 x67 x68 x69 x70 x71 x72 x73 x74 x75 x76 x77 x78 x79 x80 x81 x82 x83 x84 x85 x86 x87 x88 x89 x90 x91 x92 x93 x94 x95 x96 x97 x98 x99 x100 x101 x102 x103 x104 x105 x106 x107 x108 x109 x110 x111 x112 x113 x114 x115 x116 x117 x118 x119 x120 x121 x122 x123 x124 x125 x126 x127 x128 x129 x130 x131 x132 x133 x134 x135 x136 x137 x138 x139 x140 x141 x142 x143 x144 x145 x146 x147 x148 x149 x150 x151 x152 x153 x154 x155 x156 x157 x158 x159 x160 x161 x162 x163 x164 x165 x166 x167 x168 x169 x170 x171 x172 x173 x174 x175 x176 x177 x178 x179 x180 x181 x182 x183 x184 x185 x186 x187 x188 x189 x190 x191 x192 x193 x194 x195 x196 x197 x198 x199 x200 x201 x202 x203 x204 x205 x206 x207 x208 x209 x210 x211 x212 x213 x214 x215 x216 x217 x218 x219 x220 x221 x222 x223 x224 x225 x226 x227 x228 x229 x230 x231 x232 x233 x234 x235:Value):
 Code.wp Tryz.prog (uo 17 (bodyC Tryz.f157)) (bodyPost Tryz.prog Tryz.f157 (fun e w'=>∃a c,e= .returned (.slice a R.length c)∧aZ cZ 1 3 w.heap.size w' a R c∧Below w.heap.size w w')) ⟨#[x0, .pointer (some ⟨w.heap.size,0,none⟩),x2, .slice a L.length c,x4,x5,x6,x7,x8,x9,x10,x11,x12,x13,x14,x15,x16,x17,x18,x19,x20,x21,x22,x23,x24,x25,x26,x27,x28,x29,x30,x31,x32,x33,x34,x35,x36,x37,x38,x39,x40,x41,x42,x43,x44,x45,x46,x47,x48,x49,x50,x51,x52,x53,x54,x55,x56,x57,x58,x59,x60,x61,x62,x63,x64,x65,x66,x67,x68,x69,x70,x71,x72,x73,x74,x75,x76,x77,x78,x79,x80,x81,x82,x83,x84,x85,x86,x87,x88,x89,x90,x91,x92,x93,x94,x95,x96,x97,x98,x99,x100,x101,x102,x103,x104,x105,x106,x107,x108,x109,x110,x111,x112,x113,x114,x115,x116,x117,x118,x119,x120,x121,x122,x123,x124,x125,x126,x127,x128,x129,x130,x131,x132,x133,x134,x135,x136,x137,x138,x139,x140,x141,x142,x143,x144,x145,x146,x147,x148,x149,x150,x151,x152,x153,x154,x155,x156,x157,x158,x159,x160,x161,x162,x163,x164,x165,x166,x167,x168,x169,x170,x171,x172,x173,x174,x175,x176,x177,x178,x179,x180,x181,x182,x183,x184,x185,x186,x187,x188,x189,x190,x191,x192,x193,x194,x195,x196,x197,x198,x199,x200,x201,x202,x203,x204,x205,x206,x207,x208,x209,x210,x211,x212,x213,x214,x215,x216,x217,x218,x219,x220,x221,x222,x223,x224,x225,x226,x227,x228,x229,x230,x231,x232,x233,x234,x235],[]⟩ wc:=by
 conv in uo _ _=>whnf
 have HF:=AQ (And.intro (HR.o.trans HL.o.symm) (And.intro hO hB))
 clear hO hB
 go_wp2_with fail
 go_ret
 exact VY HF.o.1 HF.o.2.1 (HB0.o.trans (HF.o.2.2.mono HB0.o.size)) (HB0.o.size)
open Go Go.RowKit Go.Cit
def ra34 (V:aS) (B:Nat) (z:Int) (g1 g2:Bool):Nat→Value
 | 191=>(.pointer (some ⟨B,2,none⟩))
 | 192=>(.slice V.ca V.cs.length V.cc)
 | 193=>(.int .i64 (V.cs.length:Int))
 | 194=>(.bool g1)
 | 195=>(.bool g1)
 | 196=>(bif (!g1) then (.pointer (some ⟨B,2,none⟩)) else undef)
 | 197=>(bif (!g1) then (.slice V.ca V.cs.length V.cc) else undef)
 | 198=>(bif (!g1) then (.int .i64 z) else undef)
 | 199=>(bif (!g1) then (.bool g2) else undef)
 | 200=>(.bool (g1 || g2))
 | 4=>(.bool (g1 || g2))
 | _=>undef
def VQ (_:aS) (B:Nat) (_:Int) (_ _:Bool):Nat→Value
 | 1=>(.pointer (some ⟨B,0,none⟩))
 | _=>undef
def ra38 (V:aS) (B k:Nat) (x:Ch) (b h1 h2:Bool):Nat→Value
 | 208=>(.bool b)
 | 209=>(.bool b)
 | 210=>(bif (!b) then (.agg #[.slice V.wa V.ws.length V.wc, .slice V.pa V.ps.length V.pc, .slice V.ca V.cs.length V.cc]) else undef)
 | 211=>(bif (!b) then (.pointer (some ⟨B,2,none⟩)) else undef)
 | 212=>(bif (!b) then (.slice V.ca V.cs.length V.cc) else undef)
 | 213=>(bif (!b) then (.int .i64 (k:Int)) else undef)
 | 214=>(bif (!b) then (.pointer (some (ad V.ca (k*5)))) else undef)
 | 215=>(bif (!b) then (.pointer (some ⟨(ad V.ca (k*5)).block,(ad V.ca (k*5)).off+1,none⟩)) else undef)
 | 216=>(bif (!b) then (.int .i64 x.src.1) else undef)
 | 217=>(bif (!b) then (.bool h1) else undef)
 | 218=>(bif (!b) then (.bool (!h1)) else undef)
 | 219=>(.bool (b || (!h1)))
 | 220=>(.bool (b || (!h1)))
 | 221=>(bif (!(b || (!h1))) then (.agg #[.slice V.wa V.ws.length V.wc, .slice V.pa V.ps.length V.pc, .slice V.ca V.cs.length V.cc]) else undef)
 | 222=>(bif (!(b || (!h1))) then (.pointer (some ⟨B,2,none⟩)) else undef)
 | 223=>(bif (!(b || (!h1))) then (.slice V.ca V.cs.length V.cc) else undef)
 | 224=>(bif (!(b || (!h1))) then (.int .i64 (k:Int)) else undef)
 | 225=>(bif (!(b || (!h1))) then (.pointer (some (ad V.ca (k*5)))) else undef)
 | 226=>(bif (!(b || (!h1))) then (.pointer (some ⟨(ad V.ca (k*5)).block,(ad V.ca (k*5)).off+2,none⟩)) else undef)
 | 227=>(bif (!(b || (!h1))) then (.int .i64 x.dst.1) else undef)
 | 228=>(bif (!(b || (!h1))) then (.bool h2) else undef)
 | 229=>(bif (!(b || (!h1))) then (.bool (!h2)) else undef)
 | 230=>(.bool ((b || (!h1)) || (!h2)))
 | 4=>(.bool ((b || (!h1)) || (!h2)))
 | _=>undef
def Vw (_:aS) (B k:Nat) (_:Ch) (b _ _:Bool):Nat→Value
 | 1=>(.pointer (some ⟨B,0,none⟩))
 | 4=>(.bool b)
 | 12=>(.int .i64 (k:Int))
 | _=>undef
theorem WX (w w0 wc:World) (V:aS) (R:List Int) (HR:Hid (R=errs V)) (HV:Hid (V.At w0)) (HI:Hid (fP w0 w.heap.size V)) (HB0:Hid (Below w.heap.size w w0)) (hl1:V.ws.length≤9223372036854775807) (hl2:V.ps.length≤9223372036854775807) (hl3:V.cs.length≤9223372036854775807)
 (a:Option Addr) (L:List Int) (c:Nat) (HL:Hid (L=dh V 4)) (HLL:Hid (L.length≤4)) (hO:aZ cZ 1 3 w0.heap.size wc a L c) (hB:Below w0.heap.size w0 wc) (x0 x2 x4 x5 x6 x7 x8 x9 x10 x11 x12 x13 x14 x15 x16 x17 x18 x19 x20 x21 x22 x23 x24 x25 x26 x27 x28 x29 x30 x31 x32 x33 x34 x35 x36 x37 x38 x39 x40 x41 x42 x43 x44 x45 x46 x47 x48 x49 x50 x51 x52 x53 x54 x55 x56 x57 x58 x59 x60 x61 x62 x63 x64 x65 x66 x67 x68 x69 x70 x71 x72 x73 x74 x75 x76 x77 x78 x79 x80 x81 x82 x83 x84 x85 x86 x87 x88 x89 x90 x91 x92 x93 x94 x95 x96 x97 x98 x99 x100 x101 x102 x103 x104 x105 x106 x107 x108 x109 x110 x111 x112 x113 x114 x115 x116 x117 x118 x119 x120 x121 x122 x123 x124 x125 x126 x127 x128 x129 x130 x131 x132 x133 x134 x135 x136 x137 x138 x139 x140 x141 x142 x143 x144 x145 x146 x147 x148 x149 x150 x151 x152 x153 x154 x155 x156 x157 x158 x159 x160 x161 x162 x163 x164 x165 x166 x167 x168 x169 x170 x171 x172 x173 x174 x175 x176 x177 x178 x179 x180 x181 x182 x183 x184 x185 x186 x187 x188 x189 x190 x191 x192 x193 x194 x195 x196 x197 x198 x199 x200 x201 x202 x203 x204 x205 x206 x207 x208 x209 x210 x211 x212 x213 x214 x215 x216 x217 x218 x219 x220 x221 x222 x223 x224 x225 x226 x227 x228 x229 x230 x231 x232 x233 x234 x235:Value):
 Code.wp Tryz.prog (uo 14 (bodyC Tryz.f157)) (bodyPost Tryz.prog Tryz.f157 (fun e w'=>∃a c,e= .returned (.slice a R.length c)∧aZ cZ 1 3 w.heap.size w' a R c∧Below w.heap.size w w')) ⟨#[x0, .pointer (some ⟨w.heap.size,0,none⟩),x2, .slice a L.length c,x4,x5,x6,x7,x8,x9,x10,x11,x12,x13,x14,x15,x16,x17,x18,x19,x20,x21,x22,x23,x24,x25,x26,x27,x28,x29,x30,x31,x32,x33,x34,x35,x36,x37,x38,x39,x40,x41,x42,x43,x44,x45,x46,x47,x48,x49,x50,x51,x52,x53,x54,x55,x56,x57,x58,x59,x60,x61,x62,x63,x64,x65,x66,x67,x68,x69,x70,x71,x72,x73,x74,x75,x76,x77,x78,x79,x80,x81,x82,x83,x84,x85,x86,x87,x88,x89,x90,x91,x92,x93,x94,x95,x96,x97,x98,x99,x100,x101,x102,x103,x104,x105,x106,x107,x108,x109,x110,x111,x112,x113,x114,x115,x116,x117,x118,x119,x120,x121,x122,x123,x124,x125,x126,x127,x128,x129,x130,x131,x132,x133,x134,x135,x136,x137,x138,x139,x140,x141,x142,x143,x144,x145,x146,x147,x148,x149,x150,x151,x152,x153,x154,x155,x156,x157,x158,x159,x160,x161,x162,x163,x164,x165,x166,x167,x168,x169,x170,x171,x172,x173,x174,x175,x176,x177,x178,x179,x180,x181,x182,x183,x184,x185,x186,x187,x188,x189,x190,x191,x192,x193,x194,x195,x196,x197,x198,x199,x200,x201,x202,x203,x204,x205,x206,x207,x208,x209,x210,x211,x212,x213,x214,x215,x216,x217,x218,x219,x220,x221,x222,x223,x224,x225,x226,x227,x228,x229,x230,x231,x232,x233,x234,x235],[]⟩ wc:=by
 conv in uo _ _=>whnf
 have HO:=AQ hO
 have HBB:=AQ hB
 obtain⟨c0,c1,c2⟩:=HI.o.keep hB
 clear hO hB
 obtain⟨g1,hg1⟩:∃g,Hid (decide ((8:Int)<(V.cs.length:Int))=g):=⟨_,rfl⟩
 obtain⟨z,hz⟩:∃z,Hid (mY V.cs=z):=⟨_,rfl⟩
 obtain⟨g2,hg2⟩:∃g,Hid (((z:Int) !=0)=g):=⟨_,rfl⟩
 obtain⟨bl,hR⟩:=AU ((g1 || g2))
 have HC3:Hid (∀q:After wc,Calls Tryz.prog 217 #[.slice V.ca V.cs.length V.cc] q.to fun e w'=>e= .returned (.int .i64 z)∧Below q.to.heap.size q.to w'):=fun q=>by
  have:=BN q.to V.ca V.cs V.cc (HV.o.kX.stay gI (HBB.o.trans (q.bel.mono HBB.o.size)))
  rwa[hz.o] at this
 go_upto_region 34 with fail
 refine bJ (ra34 V w.heap.size z g1 g2) (VQ V w.heap.size z g1 g2) [1] AB ⟨rfl,trivial⟩ ?_ ?_
 ·repeat' (first |exact aQ |refine aB ?_ ?_)
  all_goals intro a hk
  ·
   exact .inl ⟨ah rfl,aX (.tmp 1) rfl (hk.o 1) (v:=(.pointer (some ⟨w.heap.size,2,none⟩))) (fun w=>AB) rfl⟩
  ·
   exact .inl ⟨ah rfl,aV (.tmp 191) rfl (hk.s 191) (v:=(.slice V.ca V.cs.length V.cc)) (fun q=>aT (fun w=>AB) (keep q.bel c2)) rfl⟩
  ·
   exact .inl ⟨ah rfl,q_len rfl AB (hk.s 192) rfl⟩
  ·
   exact .inl ⟨ah rfl,eP rfl (hk.s 193) rfl (v:= .bool (decide ((8:Int)<(V.cs.length:Int)))) (fun w=>AB) (congrArg Value.bool (hg1.o))⟩
  ·
   exact .inl ⟨ah rfl,aO (.tmp 194) rfl (hk.s 194)⟩
  ·
   cases g1<;>first |exact hk.no 195 false |skip
   exact .inl ⟨hk.yes 195 false,aX (.tmp 1) rfl (hk.o 1) (v:=(.pointer (some ⟨w.heap.size,2,none⟩))) (fun w=>AB) rfl⟩
  ·
   cases g1<;>first |exact hk.no 195 false |skip
   exact .inl ⟨hk.yes 195 false,aV (.tmp 196) rfl (hk.s 196) (v:=(.slice V.ca V.cs.length V.cc)) (fun q=>aT (fun w=>AB) (keep q.bel c2)) rfl⟩
  ·
   cases g1<;>first |exact hk.no 195 false |skip
   exact .inl ⟨hk.yes 195 false,dV rfl rfl #[(.slice V.ca V.cs.length V.cc)] (fun w=>AB) (by simp only[List.map_toArray,List.map_cons,List.map_nil,(show a.eval (.tmp 197)=(.slice V.ca V.cs.length V.cc) from hk.s 197)]) (v:=(.int .i64 z)) (fun q=>HC3.o q) rfl⟩
  ·
   cases g1<;>first |exact hk.no 195 false |skip
   exact .inl ⟨hk.yes 195 false,eP rfl (hk.s 198) rfl (v:= .bool (((z:Int) !=0))) (fun w=>AB) (congrArg Value.bool (hg2.o))⟩
  ·
   cases g1 with
   |
    true=>
    exact .inl ⟨ah rfl,aI rfl true (hk.s 195) rfl⟩
   |
    false=>
    exact .inl ⟨ah rfl,aI rfl false (hk.s 195) (hk.s 199)⟩
  ·
   exact .inl ⟨ah rfl,gU (.tmp 200) rfl (hk.s 200)⟩
 intro a ⟨wd,hbd⟩ hsame hall
 have he:=bn hsame [191,192,193,194,195,196,197,198,199,200,4] AB
 simp only[List.foldl_cons,List.foldl_nil] at he
 rw[show a.eval (.tmp 4)=(.bool bl) from(hall 4 AB).trans (congrArg Value.bool hR.o.symm)] at he
 generalize a.eval (.tmp 191)=x191 at he
 generalize a.eval (.tmp 192)=x192 at he
 generalize a.eval (.tmp 193)=x193 at he
 generalize a.eval (.tmp 194)=x194 at he
 generalize a.eval (.tmp 195)=x195 at he
 generalize a.eval (.tmp 196)=x196 at he
 generalize a.eval (.tmp 197)=x197 at he
 generalize a.eval (.tmp 198)=x198 at he
 generalize a.eval (.tmp 199)=x199 at he
 generalize a.eval (.tmp 200)=x200 at he
 simp only[cu] at he
 dsimp only[List.set_cons_zero,List.set_cons_succ] at he
 subst he
 clear hsame hall
 go_wp2_with fail
 have HBB:=AQ (HBB.o.trans (hbd.mono HBB.o.size))
 have HO:=AQ (HO.o.stay hbd)
 obtain⟨c0,c1,c2⟩:=HI.o.keep HBB.o
 clear hbd
 go_loopw [4,12] (fun b s wr=>∃(k:Nat) (q:Bool),b= .bool q∧s= .int .i64 k∧k≤V.cs.length∧Hid (q=(bl || (V.cs.take k).any (pR V)))∧Below wd.heap.size wd wr) (fun _ s _=>V.cs.length-(intOf s).toNat)
 case atStart=>exact⟨0,bl,rfl,rfl,Nat.zero_le _,by rw[Hid];simp,Below.refl _ _⟩
 case round=>
  obtain⟨k,b,rfl,rfl,hk,Hb,B⟩:=hrel
  have HBw:=AQ (HBB.o.trans (B.mono HBB.o.size))
  obtain⟨c0,c1,c2⟩:=HI.o.keep HBw.o
  by_cases hlt:k<V.cs.length
  ·skip
   have i0:=HV.o.kX.index Hz k hlt
   have u1:∀q:After wr,_:=fun q=>(HV.o.kX.stay gI (HBw.o.trans (q.bel.mono HBw.o.size))).field k hlt 1 AP rfl
   have u2:∀q:After wr,_:=fun q=>(HV.o.kX.stay gI (HBw.o.trans (q.bel.mono HBw.o.size))).field k hlt 2 AP rfl
   have HBk:=AQ B
   have HS:=AQ (tq (pR V) V.cs k hlt)
   clear B
   obtain⟨x,hx⟩:∃x:Ch,Hid (x=V.cs[k]):=⟨V.cs[k],rfl⟩
   rw[←hx.o] at u1 u2 HS
   obtain⟨h1,hh1⟩:∃g,Hid (iH V.ps x.src.1=g):=⟨_,rfl⟩
   obtain⟨h2,hh2⟩:∃g,Hid (iH V.ps x.dst.1=g):=⟨_,rfl⟩
   have HC1:Hid (∀q:After wr,Calls Tryz.prog 214 #[.agg #[.slice V.wa V.ws.length V.wc, .slice V.pa V.ps.length V.pc, .slice V.ca V.cs.length V.cc], .int .i64 x.src.1] q.to fun e w'=>e= .returned (.bool h1)∧Below q.to.heap.size q.to w'):=fun q=>by
    have:=qX q.to V (HV.o.stay (HBw.o.trans (q.bel.mono HBw.o.size))) x.src.1
    rwa[hh1.o] at this
   have HC2:Hid (∀q:After wr,Calls Tryz.prog 214 #[.agg #[.slice V.wa V.ws.length V.wc, .slice V.pa V.ps.length V.pc, .slice V.ca V.cs.length V.cc], .int .i64 x.dst.1] q.to fun e w'=>e= .returned (.bool h2)∧Below q.to.heap.size q.to w'):=fun q=>by
    have:=qX q.to V (HV.o.stay (HBw.o.trans (q.bel.mono HBw.o.size))) x.dst.1
    rwa[hh2.o] at this
   obtain⟨R,hR⟩:=AU (((b || (!h1)) || (!h2)))
   have HN:Hid (R=(bl || (V.cs.take (k+1)).any (pR V))):=by
    have e:pR V x=((!h1) || (!h2)):=by unfold pR;rw[hh1.o,hh2.o]
    rw[Hid,HS.o,hR.o,Hb.o,e]
    cases bl<;>cases (V.cs.take k).any (pR V)<;>cases h1<;>cases h2<;>rfl
   go_wp2_with fail
   refine eu (ra38 V w.heap.size k x b h1 h2) (Vw V w.heap.size k x b h1 h2) [1,4,12] AB AB AB ⟨rfl,rfl,rfl,trivial⟩ ?_ ?_
   ·repeat' (first |exact aQ |refine aB ?_ ?_)
    all_goals intro a hk
    ·
     exact .inl ⟨ah rfl,aO (.tmp 4) rfl (hk.o 4)⟩
    ·
     exact .inl ⟨ah rfl,aO (.tmp 208) rfl (hk.s 208)⟩
    ·
     cases b<;>first |exact hk.no 209 false |skip
     exact .inl ⟨hk.yes 209 false,aV (.tmp 1) rfl (hk.o 1) (v:=(.agg #[.slice V.wa V.ws.length V.wc, .slice V.pa V.ps.length V.pc, .slice V.ca V.cs.length V.cc])) (fun q=>Io (fun w=>AB) (fun w=>AB) (keep q.bel c0) (keep q.bel c1) (keep q.bel c2)) rfl⟩
    ·
     cases b<;>first |exact hk.no 209 false |skip
     exact .inl ⟨hk.yes 209 false,aX (.tmp 1) rfl (hk.o 1) (v:=(.pointer (some ⟨w.heap.size,2,none⟩))) (fun w=>AB) rfl⟩
    ·
     cases b<;>first |exact hk.no 209 false |skip
     exact .inl ⟨hk.yes 209 false,aV (.tmp 211) rfl (hk.s 211) (v:=(.slice V.ca V.cs.length V.cc)) (fun q=>aT (fun w=>AB) (keep q.bel c2)) rfl⟩
    ·
     cases b<;>first |exact hk.no 209 false |skip
     exact .inl ⟨hk.yes 209 false,aO (.tmp 12) rfl (hk.o 12)⟩
    ·
     cases b<;>first |exact hk.no 209 false |skip
     exact .inl ⟨hk.yes 209 false,jR (.tmp 212) (.tmp 213) rfl (hk.s 212) (hk.s 213) (v:=(.pointer (some (ad V.ca (k*5))))) (fun w=>i0 w) rfl⟩
    ·
     cases b<;>first |exact hk.no 209 false |skip
     exact .inl ⟨hk.yes 209 false,aX (.tmp 214) rfl (hk.s 214) (v:=(.pointer (some ⟨(ad V.ca (k*5)).block,(ad V.ca (k*5)).off+1,none⟩))) (fun w=>AB) rfl⟩
    ·
     cases b<;>first |exact hk.no 209 false |skip
     exact .inl ⟨hk.yes 209 false,aV (.tmp 215) rfl (hk.s 215) (v:=(.int .i64 x.src.1)) (fun q=>aT (fun w=>AB) (u1 q)) rfl⟩
    ·
     cases b<;>first |exact hk.no 209 false |skip
     exact .inl ⟨hk.yes 209 false,dV rfl rfl #[(.agg #[.slice V.wa V.ws.length V.wc, .slice V.pa V.ps.length V.pc, .slice V.ca V.cs.length V.cc]),(.int .i64 x.src.1)] (fun w=>AB) (by simp only[List.map_toArray,List.map_cons,List.map_nil,(show a.eval (.tmp 210)=(.agg #[.slice V.wa V.ws.length V.wc, .slice V.pa V.ps.length V.pc, .slice V.ca V.cs.length V.cc]) from hk.s 210),(show a.eval (.tmp 216)=(.int .i64 x.src.1) from hk.s 216)]) (v:=(.bool h1)) (fun q=>HC1.o q) rfl⟩
    ·
     cases b<;>first |exact hk.no 209 false |skip
     exact .inl ⟨hk.yes 209 false,qN rfl _ (hk.s 217) rfl⟩
    ·
     cases b with
     |
      true=>
      exact .inl ⟨ah rfl,aI rfl true (hk.s 209) rfl⟩
     |
      false=>
      exact .inl ⟨ah rfl,aI rfl false (hk.s 209) (hk.s 218)⟩
    ·
     exact .inl ⟨ah rfl,aO (.tmp 219) rfl (hk.s 219)⟩
    ·
     cases b<;>cases h1<;>first |exact hk.no 220 false |skip
     exact .inl ⟨hk.yes 220 false,aV (.tmp 1) rfl (hk.o 1) (v:=(.agg #[.slice V.wa V.ws.length V.wc, .slice V.pa V.ps.length V.pc, .slice V.ca V.cs.length V.cc])) (fun q=>Io (fun w=>AB) (fun w=>AB) (keep q.bel c0) (keep q.bel c1) (keep q.bel c2)) rfl⟩
    ·
     cases b<;>cases h1<;>first |exact hk.no 220 false |skip
     exact .inl ⟨hk.yes 220 false,aX (.tmp 1) rfl (hk.o 1) (v:=(.pointer (some ⟨w.heap.size,2,none⟩))) (fun w=>AB) rfl⟩
    ·
     cases b<;>cases h1<;>first |exact hk.no 220 false |skip
     exact .inl ⟨hk.yes 220 false,aV (.tmp 222) rfl (hk.s 222) (v:=(.slice V.ca V.cs.length V.cc)) (fun q=>aT (fun w=>AB) (keep q.bel c2)) rfl⟩
    ·
     cases b<;>cases h1<;>first |exact hk.no 220 false |skip
     exact .inl ⟨hk.yes 220 false,aO (.tmp 12) rfl (hk.o 12)⟩
    ·
     cases b<;>cases h1<;>first |exact hk.no 220 false |skip
     exact .inl ⟨hk.yes 220 false,jR (.tmp 223) (.tmp 224) rfl (hk.s 223) (hk.s 224) (v:=(.pointer (some (ad V.ca (k*5))))) (fun w=>i0 w) rfl⟩
    ·
     cases b<;>cases h1<;>first |exact hk.no 220 false |skip
     exact .inl ⟨hk.yes 220 false,aX (.tmp 225) rfl (hk.s 225) (v:=(.pointer (some ⟨(ad V.ca (k*5)).block,(ad V.ca (k*5)).off+2,none⟩))) (fun w=>AB) rfl⟩
    ·
     cases b<;>cases h1<;>first |exact hk.no 220 false |skip
     exact .inl ⟨hk.yes 220 false,aV (.tmp 226) rfl (hk.s 226) (v:=(.int .i64 x.dst.1)) (fun q=>aT (fun w=>AB) (u2 q)) rfl⟩
    ·
     cases b<;>cases h1<;>first |exact hk.no 220 false |skip
     exact .inl ⟨hk.yes 220 false,dV rfl rfl #[(.agg #[.slice V.wa V.ws.length V.wc, .slice V.pa V.ps.length V.pc, .slice V.ca V.cs.length V.cc]),(.int .i64 x.dst.1)] (fun w=>AB) (by simp only[List.map_toArray,List.map_cons,List.map_nil,(show a.eval (.tmp 221)=(.agg #[.slice V.wa V.ws.length V.wc, .slice V.pa V.ps.length V.pc, .slice V.ca V.cs.length V.cc]) from hk.s 221),(show a.eval (.tmp 227)=(.int .i64 x.dst.1) from hk.s 227)]) (v:=(.bool h2)) (fun q=>HC2.o q) rfl⟩
    ·
     cases b<;>cases h1<;>first |exact hk.no 220 false |skip
     exact .inl ⟨hk.yes 220 false,qN rfl _ (hk.s 228) rfl⟩
    ·
     cases b with
     |
      true=>
      exact .inl ⟨ah rfl,aI rfl true (hk.s 220) rfl⟩
     |
      false=>
      cases h1 with
      |
       true=>
       exact .inl ⟨ah rfl,aI rfl false (hk.s 220) (hk.s 229)⟩
      |
       false=>
       exact .inl ⟨ah rfl,aI rfl true (hk.s 220) rfl⟩
    ·
     exact .inl ⟨ah rfl,gU (.tmp 230) rfl (hk.s 230)⟩
   intro a ⟨w3,hb3⟩ hsame hall
   have he:=bn hsame [208,209,210,211,212,213,214,215,216,217,218,219,220,221,222,223,224,225,226,227,228,229,230,4] AB
   simp only[List.foldl_cons,List.foldl_nil] at he
   rw[show a.eval (.tmp 4)=(.bool R) from(hall 4 AB).trans (congrArg Value.bool hR.o.symm)] at he
   generalize a.eval (.tmp 208)=x208 at he
   generalize a.eval (.tmp 209)=x209 at he
   generalize a.eval (.tmp 210)=x210 at he
   generalize a.eval (.tmp 211)=x211 at he
   generalize a.eval (.tmp 212)=x212 at he
   generalize a.eval (.tmp 213)=x213 at he
   generalize a.eval (.tmp 214)=x214 at he
   generalize a.eval (.tmp 215)=x215 at he
   generalize a.eval (.tmp 216)=x216 at he
   generalize a.eval (.tmp 217)=x217 at he
   generalize a.eval (.tmp 218)=x218 at he
   generalize a.eval (.tmp 219)=x219 at he
   generalize a.eval (.tmp 220)=x220 at he
   generalize a.eval (.tmp 221)=x221 at he
   generalize a.eval (.tmp 222)=x222 at he
   generalize a.eval (.tmp 223)=x223 at he
   generalize a.eval (.tmp 224)=x224 at he
   generalize a.eval (.tmp 225)=x225 at he
   generalize a.eval (.tmp 226)=x226 at he
   generalize a.eval (.tmp 227)=x227 at he
   generalize a.eval (.tmp 228)=x228 at he
   generalize a.eval (.tmp 229)=x229 at he
   generalize a.eval (.tmp 230)=x230 at he
   simp only[cu] at he
   dsimp only[List.set_cons_zero,List.set_cons_succ] at he
   subst he
   clear hsame hall
   go_wp2_with fail
   go_roundw
   case rel=>exact⟨k+1,R,rfl,by go_num,by omega,HN.o,HBk.o.trans (hb3.mono HBk.o.size)⟩
   case measure=>simp[intOf];omega
  ·have hk2:k=V.cs.length:=by omega
   have Hb:Hid (b=dX V):=by
    rw[Hid,Hb.o,hk2,List.take_length,hR.o,←hg1.o,←hg2.o,←hz.o]
    unfold dX
    have e1:decide (8<V.cs.length)=decide ((8:Int)<(V.cs.length:Int)):=decide_eq_decide.2 AL
    have e2:decide (mY V.cs≠0)=(mY V.cs !=0):=by rw[Bool.eq_iff_iff];simp
    rw[e1,e2,Bool.or_assoc]
   have HO:=AQ (HO.o.stay B)
   have HBB:=AQ HBw.o
   clear hk2
   go_upto_if 231 with fail
   go_cut [3] (fun s3 wx=>∃(a:Option Addr) (L:List Int) (c:Nat),s3= .slice a L.length c∧Hid (L=dh V 5)∧Hid (L.length≤5)∧aZ cZ 1 3 w0.heap.size wx a L c∧Below w0.heap.size w0 wx)
   case first=>
    have HT:=AQ (iy V 4 (show 4<5 by decide))
    cases b with
    |
     true=>
     have HL2:Hid (L++ [(100:Int)]=dh V 5):=by rw[Hid,HT.o,←HL.o];simp[lC,←Hb.o]
     go_wp2_with ((with_reducible refine bW (o:=⟨some 234, .call _,_,_,_,_⟩) UE lD ql (y:=100) (.tmp 232) (.tmp 233) AA AA HO.o AA (by have:=HLL.o;omega) HBB.o.size AA AA ?_);intro a4 c4 w4 hO4 hg4 hn4;have HO4:=AQ hO4;have HB4:=AQ (HBB.o.trans (HO.o.grown hg4 HBB.o.size));clear hO4 hg4 hn4)
     go_meet
     exact⟨a4,L++ [100],c4,by simp,HL2.o,by have:=HLL.o;rw[Hid,List.length_append,List.length_singleton];omega,HO4.o,HB4.o⟩
    |
     false=>
     have HL2:Hid (L=dh V 5):=by rw[Hid,HT.o,←HL.o];simp[lC,←Hb.o]
     go_wp2_with fail
     go_meet
     exact⟨a,L,c,rfl,HL2.o,by have:=HLL.o;rw[Hid];omega,HO.o,HBB.o⟩
   case rest=>
    obtain⟨a,L,c,rfl,HL,HLL,hO,hB⟩:=hcut
    clear Hb
    go_step
    exact WZ w w0 wc V R HR HV HI HB0 hl1 hl2 hl3 a L c HL HLL hO hB _ _ _ _ _ _ _ _ _ _ _ _ _ _ _ _ _ _ _ _ _ _ _ _ _ _ _ _ _ _ _ _ _ _ _ _ _ _ _ _ _ _ _ _ _ _ _ _ _ _ _ _ _ _ _ _ _ _ _ _ _ _ _ _ _ _ _ _ _ _ _ _ _ _ _ _ _ _ _ _ _ _ _ _ _ _ _ _ _ _ _ _ _ _ _ _ _ _ _ _ _ _ _ _ _ _ _ _ _ _ _ _ _ _ _ _ _ _ _ _ _ _ _ _ _ _ _ _ _ _ _ _ _ _ _ _ _ _ _ _ _ _ _ _ _ _ _ _ _ _ _ _ _ _ _ _ _ _ _ _ _ _ _ _ _ _ _ _ _ _ _ _ _ _ _ _ _ _ _ _ _ _ _ _ _ _ _ _ _ _ _ _ _ _ _ _ _ _ _ _ _ _ _ _ _ _ _ _ _ _ _ _ _ _ _ _ _ _ _ _ _ _ _ _ _ _ _ _ _ _ _ _ _ _
open Go Go.RowKit Go.Cit
def ra31 (x y:Reg) (_ _:Nat) (b g1 g2 g3:Bool):Nat→Value
 | 172=>(.bool b)
 | 173=>(.bool b)
 | 174=>(bif (!b) then (.agg #[.int .i64 x.base.1, .int .i64 x.size.1]) else undef)
 | 175=>(bif (!b) then (.bool g1) else undef)
 | 176=>(bif (!b) then (.bool g1) else undef)
 | 177=>(bif ((!b) && g1) then (.agg #[.int .i64 y.base.1, .int .i64 y.size.1]) else undef)
 | 178=>(bif ((!b) && g1) then (.bool g2) else undef)
 | 179=>(bif (!b) then (.bool (g1 && g2)) else undef)
 | 180=>(bif (!b) then (.bool (g1 && g2)) else undef)
 | 181=>(bif ((!b) && (g1 && g2)) then (.agg #[.int .i64 x.base.1, .int .i64 x.size.1]) else undef)
 | 182=>(bif ((!b) && (g1 && g2)) then (.agg #[.int .i64 y.base.1, .int .i64 y.size.1]) else undef)
 | 183=>(bif ((!b) && (g1 && g2)) then (.bool g3) else undef)
 | 184=>(bif ((!b) && (g1 && g2)) then (.bool (!g3)) else undef)
 | 185=>(bif (!b) then (.bool ((g1 && g2) && (!g3))) else undef)
 | 186=>(.bool (b || ((g1 && g2) && (!g3))))
 | 4=>(.bool (b || ((g1 && g2) && (!g3))))
 | _=>undef
def VL (_ _:Reg) (p1 p2:Nat) (b _ _ _:Bool):Nat→Value
 | 4=>(.bool b)
 | 10=>(.pointer (some ⟨p1,0,none⟩))
 | 11=>(.pointer (some ⟨p2,0,none⟩))
 | _=>undef
theorem WV (w w0 wc:World) (V:aS) (R:List Int) (HR:Hid (R=errs V)) (HV:Hid (V.At w0)) (HI:Hid (fP w0 w.heap.size V)) (HB0:Hid (Below w.heap.size w w0)) (hl1:V.ws.length≤9223372036854775807) (hl2:V.ps.length≤9223372036854775807) (hl3:V.cs.length≤9223372036854775807)
 (a:Option Addr) (L:List Int) (c:Nat) (HL:Hid (L=dh V 3)) (HLL:Hid (L.length≤3)) (hO:aZ cZ 1 3 w0.heap.size wc a L c) (hB:Below w0.heap.size w0 wc) (x0 x2 x4 x5 x6 x7 x8 x9 x10 x11 x12 x13 x14 x15 x16 x17 x18 x19 x20 x21 x22 x23 x24 x25 x26 x27 x28 x29 x30 x31 x32 x33 x34 x35 x36 x37 x38 x39 x40 x41 x42 x43 x44 x45 x46 x47 x48 x49 x50 x51 x52 x53 x54 x55 x56 x57 x58 x59 x60 x61 x62 x63 x64 x65 x66 x67 x68 x69 x70 x71 x72 x73 x74 x75 x76 x77 x78 x79 x80 x81 x82 x83 x84 x85 x86 x87 x88 x89 x90 x91 x92 x93 x94 x95 x96 x97 x98 x99 x100 x101 x102 x103 x104 x105 x106 x107 x108 x109 x110 x111 x112 x113 x114 x115 x116 x117 x118 x119 x120 x121 x122 x123 x124 x125 x126 x127 x128 x129 x130 x131 x132 x133 x134 x135 x136 x137 x138 x139 x140 x141 x142 x143 x144 x145 x146 x147 x148 x149 x150 x151 x152 x153 x154 x155 x156 x157 x158 x159 x160 x161 x162 x163 x164 x165 x166 x167 x168 x169 x170 x171 x172 x173 x174 x175 x176 x177 x178 x179 x180 x181 x182 x183 x184 x185 x186 x187 x188 x189 x190 x191 x192 x193 x194 x195 x196 x197 x198 x199 x200 x201 x202 x203 x204 x205 x206 x207 x208 x209 x210 x211 x212 x213 x214 x215 x216 x217 x218 x219 x220 x221 x222 x223 x224 x225 x226 x227 x228 x229 x230 x231 x232 x233 x234 x235:Value):
 Code.wp Tryz.prog (uo 11 (bodyC Tryz.f157)) (bodyPost Tryz.prog Tryz.f157 (fun e w'=>∃a c,e= .returned (.slice a R.length c)∧aZ cZ 1 3 w.heap.size w' a R c∧Below w.heap.size w w')) ⟨#[x0, .pointer (some ⟨w.heap.size,0,none⟩),x2, .slice a L.length c,x4,x5,x6,x7,x8,x9,x10,x11,x12,x13,x14,x15,x16,x17,x18,x19,x20,x21,x22,x23,x24,x25,x26,x27,x28,x29,x30,x31,x32,x33,x34,x35,x36,x37,x38,x39,x40,x41,x42,x43,x44,x45,x46,x47,x48,x49,x50,x51,x52,x53,x54,x55,x56,x57,x58,x59,x60,x61,x62,x63,x64,x65,x66,x67,x68,x69,x70,x71,x72,x73,x74,x75,x76,x77,x78,x79,x80,x81,x82,x83,x84,x85,x86,x87,x88,x89,x90,x91,x92,x93,x94,x95,x96,x97,x98,x99,x100,x101,x102,x103,x104,x105,x106,x107,x108,x109,x110,x111,x112,x113,x114,x115,x116,x117,x118,x119,x120,x121,x122,x123,x124,x125,x126,x127,x128,x129,x130,x131,x132,x133,x134,x135,x136,x137,x138,x139,x140,x141,x142,x143,x144,x145,x146,x147,x148,x149,x150,x151,x152,x153,x154,x155,x156,x157,x158,x159,x160,x161,x162,x163,x164,x165,x166,x167,x168,x169,x170,x171,x172,x173,x174,x175,x176,x177,x178,x179,x180,x181,x182,x183,x184,x185,x186,x187,x188,x189,x190,x191,x192,x193,x194,x195,x196,x197,x198,x199,x200,x201,x202,x203,x204,x205,x206,x207,x208,x209,x210,x211,x212,x213,x214,x215,x216,x217,x218,x219,x220,x221,x222,x223,x224,x225,x226,x227,x228,x229,x230,x231,x232,x233,x234,x235],[]⟩ wc:=by
 conv in uo _ _=>whnf
 have HO:=AQ hO
 have HBB:=AQ hB
 obtain⟨c0,c1,c2⟩:=HI.o.keep hB
 clear hO hB
 go_wp2_with fail
 go_loopw [4,8] (fun b s wr=>∃(k:Nat) (q:Bool),b= .bool q∧s= .int .i64 k∧k≤V.ps.length∧Hid (q=qg V.ps k)∧Below wc.heap.size wc wr) (fun _ s _=>V.ps.length-(intOf s).toNat)
 case atStart=>exact⟨0,false,rfl,rfl,Nat.zero_le _,by rw[Hid];simp[qg],Below.refl _ _⟩
 case round=>
  obtain⟨k,b,rfl,rfl,hk,Hb,B⟩:=hrel
  have HBw:=AQ (HBB.o.trans (B.mono HBB.o.size))
  obtain⟨c0,c1,c2⟩:=HI.o.keep HBw.o
  by_cases hlt:k<V.ps.length
  ·skip
   have HBk:=AQ B
   clear B
   go_wp2_with fail
   go_loopw [4,9] (fun b s wr2=>∃(j:Nat) (q:Bool),b= .bool q∧s= .int .i64 j∧j≤k∧Hid (q=(qg V.ps k || oN V.ps k j))∧Below wc.heap.size wc wr2) (fun _ s _=>k-(intOf s).toNat)
   case atStart=>exact⟨0,b,rfl,rfl,Nat.zero_le _,by rw[Hid,Hb.o];simp[oN],HBk.o⟩
   case round=>
    obtain⟨j,b,rfl,rfl,hj,Hb,B⟩:=hrel
    have HBv:=AQ B
    have HBw:=AQ (HBB.o.trans (B.mono HBB.o.size))
    obtain⟨c0,c1,c2⟩:=HI.o.keep HBw.o
    clear B
    by_cases hjl:j<k
    ·have hjn:j<V.ps.length:=by omega
     have i0:=HV.o.pts.index yH k hlt
     have i1:=HV.o.pts.index yH j hjn
     have u:∀q:After wr,_:=fun q=>bK HV.o.pts (HBw.o.trans (q.bel.mono HBw.o.size)) k hlt
     have v:∀q:After wr,_:=fun q=>bK HV.o.pts (HBw.o.trans (q.bel.mono HBw.o.size)) j hjn
     have HS:=AQ (Il V.ps k j)
     have hbA:Hid (D6 V.ps k j=(ig V.ps[k].reg && (ig V.ps[j].reg && !iK V.ps[k].reg V.ps[j].reg))):=by
      rw[Hid,D6,List.getElem?_eq_getElem hlt,List.getElem?_eq_getElem hjn]
     obtain⟨x,hx⟩:∃x:Reg,Hid (x=V.ps[k].reg):=⟨V.ps[k].reg,rfl⟩
     obtain⟨y,hy⟩:∃y:Reg,Hid (y=V.ps[j].reg):=⟨V.ps[j].reg,rfl⟩
     rw[←hx.o] at u hbA
     rw[←hy.o] at v hbA
     obtain⟨g1,hg1⟩:∃g,Hid (ig x=g):=⟨_,rfl⟩
     obtain⟨g2,hg2⟩:∃g,Hid (ig y=g):=⟨_,rfl⟩
     obtain⟨g3,hg3⟩:∃g,Hid (iK x y=g):=⟨_,rfl⟩
     obtain⟨R,hR⟩:=AU ((b || ((g1 && g2) && (!g3))))
     have HN:Hid (R=(qg V.ps k || oN V.ps k (j+1))):=by
      rw[Hid,HS.o,hR.o,Hb.o,hbA.o,hg1.o,hg2.o,hg3.o]
      cases qg V.ps k<;>cases oN V.ps k j<;>cases g1<;>cases g2<;>cases g3<;>rfl
     go_wp2_with fail
     refine nJ QB (Xq x y) (Xd V w.heap.size k j x y) AB AB AB (fun _ _ _ _ _ h=>h) (fun _ _ _ _ _ h=>h) ?_ ?_ (fun j hj=>by
      rcases (show j=0∨j=1 by have:j<2:=hj;omega) with rfl |rfl<;>exact⟨by decide,by decide⟩)
     ·repeat' (first |exact aQ |refine aB ?_ ?_)
      all_goals intro δ wa wx hk
      ·exact .inl ⟨ah rfl,Ak AP AP AP AP,bG (.tmp 1) rfl (hk.o 1) (v:= .pointer (some ⟨w.heap.size,1,none⟩)) (fun w=>AB) ⟨Below.refl _ _,rfl⟩⟩
      ·exact .inl ⟨ah rfl,Ak AP AP AP AP,bF (.tmp 160) rfl (hk.s 160) (aT (fun w=>AB) (keep hk.inv.1 c1)) ⟨Below.refl _ _,rfl⟩⟩
      ·exact .inl ⟨ah rfl,Ak AP AP AP AP,dN (.tmp 8) rfl ⟨Below.refl _ _,hk.o 8⟩⟩
      ·exact .inl ⟨ah rfl,Ak AP AP AP AP,qM (.tmp 161) (.tmp 162) rfl (hk.s 161) (hk.s 162) (i0 wx) ⟨Below.refl _ _,rfl⟩⟩
      ·exact .inl ⟨ah rfl,Ak AP AP AP AP,bG (.tmp 163) rfl (hk.s 163) (v:= .pointer (some ⟨(ad V.pa (k*5)).block,(ad V.pa (k*5)).off+1,none⟩)) (fun w=>AB) ⟨Below.refl _ _,rfl⟩⟩
      ·exact .inl ⟨ah rfl,Ak AP AP AP AP,bF (.tmp 164) rfl (hk.s 164) (BM (fun w=>AB) (fun w=>AB) (u ⟨wx,hk.inv.1⟩).2.1 (u ⟨wx,hk.inv.1⟩).2.2.1) ⟨Below.refl _ _,rfl⟩⟩
      ·exact .inl ⟨ah rfl,Ak AP AP AP AP,bG (.tmp 1) rfl (hk.o 1) (v:= .pointer (some ⟨w.heap.size,1,none⟩)) (fun w=>AB) ⟨Below.refl _ _,rfl⟩⟩
      ·exact .inl ⟨ah rfl,Ak AP AP AP AP,bF (.tmp 166) rfl (hk.s 166) (aT (fun w=>AB) (keep hk.inv.1 c1)) ⟨Below.refl _ _,rfl⟩⟩
      ·exact .inl ⟨ah rfl,Ak AP AP AP AP,dN (.tmp 9) rfl ⟨Below.refl _ _,hk.o 9⟩⟩
      ·exact .inl ⟨ah rfl,Ak AP AP AP AP,qM (.tmp 167) (.tmp 168) rfl (hk.s 167) (hk.s 168) (i1 wx) ⟨Below.refl _ _,rfl⟩⟩
      ·exact .inl ⟨ah rfl,Ak AP AP AP AP,bG (.tmp 169) rfl (hk.s 169) (v:= .pointer (some ⟨(ad V.pa (j*5)).block,(ad V.pa (j*5)).off+1,none⟩)) (fun w=>AB) ⟨Below.refl _ _,rfl⟩⟩
      ·exact .inl ⟨ah rfl,Ak AP AP AP AP,bF (.tmp 170) rfl (hk.s 170) (BM (fun w=>AB) (fun w=>AB) (v ⟨wx,hk.inv.1⟩).2.1 (v ⟨wx,hk.inv.1⟩).2.2.1) ⟨Below.refl _ _,rfl⟩⟩
      ·exact .inr (.inl ⟨0,by decide,rfl,rfl,rfl,MR _ _ _ rfl,fun _ _=>trivial⟩)
      ·exact .inr (.inl ⟨1,by decide,rfl,rfl,rfl,MR _ _ _ rfl,fun _ _=>trivial⟩)
      ·exact .inr (.inr ⟨0, #[.int .i64 x.base.1, .int .i64 x.size.1],by decide,rfl,rfl,rfl,rfl,rfl,fun g D hg hD hDs=>Nw _ _ _ _ _ rfl hg (hk.s 165) hD hDs⟩)
      ·exact .inr (.inr ⟨1, #[.int .i64 y.base.1, .int .i64 y.size.1],by decide,rfl,rfl,rfl,rfl,rfl,fun g D hg hD hDs=>Nw _ _ _ _ _ rfl hg (hk.s 171) hD hDs⟩)
     intro a wz hbz hsame hall hbox
     obtain⟨p1,C1,e10,_,hC1,hX1,_⟩:=hbox 0 AP
     obtain⟨p2,C2,e11,_,hC2,hX2,_⟩:=hbox 1 AP
     have hX1:C1= #[.int .i64 x.base.1, .int .i64 x.size.1]:=hX1
     have hX2:C2= #[.int .i64 y.base.1, .int .i64 y.size.1]:=hX2
     subst hX1 hX2
     have he:=bn hsame [160,161,162,163,164,165,166,167,168,169,170,171,10,11] AB
     simp only[List.foldl_cons,List.foldl_nil] at he
     rw[show a.eval (.tmp 10)=_ from e10,show a.eval (.tmp 11)=_ from e11] at he
     generalize a.eval (.tmp 160)=x160 at he
     generalize a.eval (.tmp 161)=x161 at he
     generalize a.eval (.tmp 162)=x162 at he
     generalize a.eval (.tmp 163)=x163 at he
     generalize a.eval (.tmp 164)=x164 at he
     generalize a.eval (.tmp 165)=x165 at he
     generalize a.eval (.tmp 166)=x166 at he
     generalize a.eval (.tmp 167)=x167 at he
     generalize a.eval (.tmp 168)=x168 at he
     generalize a.eval (.tmp 169)=x169 at he
     generalize a.eval (.tmp 170)=x170 at he
     generalize a.eval (.tmp 171)=x171 at he
     simp only[cu] at he
     dsimp only[List.set_cons_zero,List.set_cons_succ] at he
     subst he
     have hc1:Hid (wz.heap[p1]? =some (.cells #[.int .i64 x.base.1, .int .i64 x.size.1] 44 (0,0))):=hC1
     have hc2:Hid (wz.heap[p2]? =some (.cells #[.int .i64 y.base.1, .int .i64 y.size.1] 44 (0,0))):=hC2
     have HBZ:=AQ (HBv.o.trans (hbz.mono HBv.o.size))
     clear hsame hall hbox hC1 hC2 e10 e11 hbz
     have d0:∀q:After wz,q.to.cell? ⟨p1,0,none⟩=some (.int .i64 x.base.1):=fun q=>After.cell (by rw[World.cell?,hc1.o];rfl) q
     have d1:∀q:After wz,q.to.cell? ⟨p1,1,none⟩=some (.int .i64 x.size.1):=fun q=>After.cell (by rw[World.cell?,hc1.o];rfl) q
     have d2:∀q:After wz,q.to.cell? ⟨p2,0,none⟩=some (.int .i64 y.base.1):=fun q=>After.cell (by rw[World.cell?,hc2.o];rfl) q
     have d3:∀q:After wz,q.to.cell? ⟨p2,1,none⟩=some (.int .i64 y.size.1):=fun q=>After.cell (by rw[World.cell?,hc2.o];rfl) q
     have HC1:Hid (∀q:After wz,Calls Tryz.prog 215 #[.agg #[.int .i64 x.base.1, .int .i64 x.size.1]] q.to fun e w'=>e= .returned (.bool g1)∧Below q.to.heap.size q.to w'):=fun q=>by
      have:=jC q.to x
      rwa[hg1.o] at this
     have HC2:Hid (∀q:After wz,Calls Tryz.prog 215 #[.agg #[.int .i64 y.base.1, .int .i64 y.size.1]] q.to fun e w'=>e= .returned (.bool g2)∧Below q.to.heap.size q.to w'):=fun q=>by
      have:=jC q.to y
      rwa[hg2.o] at this
     have HC3:Hid (∀q:After wz,Calls Tryz.prog 216 #[.agg #[.int .i64 x.base.1, .int .i64 x.size.1], .agg #[.int .i64 y.base.1, .int .i64 y.size.1]] q.to fun e w'=>e= .returned (.bool g3)∧Below q.to.heap.size q.to w'):=fun q=>by
      have:=Ae q.to x y
      rwa[hg3.o] at this
     go_upto_region 31 with fail
     refine bJ (ra31 x y p1 p2 b g1 g2 g3) (VL x y p1 p2 b g1 g2 g3) [4,10,11] AB ⟨rfl,rfl,rfl,trivial⟩ ?_ ?_
     ·repeat' (first |exact aQ |refine aB ?_ ?_)
      all_goals intro a hk
      ·
       exact .inl ⟨ah rfl,aO (.tmp 4) rfl (hk.o 4)⟩
      ·
       exact .inl ⟨ah rfl,aO (.tmp 172) rfl (hk.s 172)⟩
      ·
       cases b<;>first |exact hk.no 173 false |skip
       exact .inl ⟨hk.yes 173 false,aV (.tmp 10) rfl (hk.o 10) (v:=(.agg #[.int .i64 x.base.1, .int .i64 x.size.1])) (fun q=>BM (fun w=>AB) (fun w=>AB) (d0 q) (d1 q)) rfl⟩
      ·
       cases b<;>first |exact hk.no 173 false |skip
       exact .inl ⟨hk.yes 173 false,dV rfl rfl #[(.agg #[.int .i64 x.base.1, .int .i64 x.size.1])] (fun w=>AB) (by simp only[List.map_toArray,List.map_cons,List.map_nil,(show a.eval (.tmp 174)=(.agg #[.int .i64 x.base.1, .int .i64 x.size.1]) from hk.s 174)]) (v:=(.bool g1)) (fun q=>HC1.o q) rfl⟩
      ·
       cases b<;>first |exact hk.no 173 false |skip
       exact .inl ⟨hk.yes 173 false,aO (.tmp 175) rfl (hk.s 175)⟩
      ·
       cases b<;>cases g1<;>first |exact hk.no 176 true |exact hk.nu 176 true |skip
       exact .inl ⟨hk.yes 176 true,aV (.tmp 11) rfl (hk.o 11) (v:=(.agg #[.int .i64 y.base.1, .int .i64 y.size.1])) (fun q=>BM (fun w=>AB) (fun w=>AB) (d2 q) (d3 q)) rfl⟩
      ·
       cases b<;>cases g1<;>first |exact hk.no 176 true |exact hk.nu 176 true |skip
       exact .inl ⟨hk.yes 176 true,dV rfl rfl #[(.agg #[.int .i64 y.base.1, .int .i64 y.size.1])] (fun w=>AB) (by simp only[List.map_toArray,List.map_cons,List.map_nil,(show a.eval (.tmp 177)=(.agg #[.int .i64 y.base.1, .int .i64 y.size.1]) from hk.s 177)]) (v:=(.bool g2)) (fun q=>HC2.o q) rfl⟩
      ·
       cases b with
       |
        true=>
        exact hk.no 173 false
       |
        false=>
        cases g1 with
        |
         true=>
         exact .inl ⟨hk.yes 173 false,aI rfl true (hk.s 176) (hk.s 178)⟩
        |
         false=>
         exact .inl ⟨hk.yes 173 false,aI rfl false (hk.s 176) rfl⟩
      ·
       cases b<;>first |exact hk.no 173 false |skip
       exact .inl ⟨hk.yes 173 false,aO (.tmp 179) rfl (hk.s 179)⟩
      ·
       cases b<;>cases g1<;>cases g2<;>first |exact hk.no 180 true |exact hk.nu 180 true |skip
       exact .inl ⟨hk.yes 180 true,aV (.tmp 10) rfl (hk.o 10) (v:=(.agg #[.int .i64 x.base.1, .int .i64 x.size.1])) (fun q=>BM (fun w=>AB) (fun w=>AB) (d0 q) (d1 q)) rfl⟩
      ·
       cases b<;>cases g1<;>cases g2<;>first |exact hk.no 180 true |exact hk.nu 180 true |skip
       exact .inl ⟨hk.yes 180 true,aV (.tmp 11) rfl (hk.o 11) (v:=(.agg #[.int .i64 y.base.1, .int .i64 y.size.1])) (fun q=>BM (fun w=>AB) (fun w=>AB) (d2 q) (d3 q)) rfl⟩
      ·
       cases b<;>cases g1<;>cases g2<;>first |exact hk.no 180 true |exact hk.nu 180 true |skip
       exact .inl ⟨hk.yes 180 true,dV rfl rfl #[(.agg #[.int .i64 x.base.1, .int .i64 x.size.1]),(.agg #[.int .i64 y.base.1, .int .i64 y.size.1])] (fun w=>AB) (by simp only[List.map_toArray,List.map_cons,List.map_nil,(show a.eval (.tmp 181)=(.agg #[.int .i64 x.base.1, .int .i64 x.size.1]) from hk.s 181),(show a.eval (.tmp 182)=(.agg #[.int .i64 y.base.1, .int .i64 y.size.1]) from hk.s 182)]) (v:=(.bool g3)) (fun q=>HC3.o q) rfl⟩
      ·
       cases b<;>cases g1<;>cases g2<;>first |exact hk.no 180 true |exact hk.nu 180 true |skip
       exact .inl ⟨hk.yes 180 true,qN rfl _ (hk.s 183) rfl⟩
      ·
       cases b with
       |
        true=>
        exact hk.no 173 false
       |
        false=>
        cases g1 with
        |
         true=>
         cases g2 with
         |
          true=>
          exact .inl ⟨hk.yes 173 false,aI rfl true (hk.s 180) (hk.s 184)⟩
         |
          false=>
          exact .inl ⟨hk.yes 173 false,aI rfl false (hk.s 180) rfl⟩
        |
         false=>
         exact .inl ⟨hk.yes 173 false,aI rfl false (hk.s 180) rfl⟩
      ·
       cases b with
       |
        true=>
        exact .inl ⟨ah rfl,aI rfl true (hk.s 173) rfl⟩
       |
        false=>
        exact .inl ⟨ah rfl,aI rfl false (hk.s 173) (hk.s 185)⟩
      ·
       exact .inl ⟨ah rfl,gU (.tmp 186) rfl (hk.s 186)⟩
     intro a ⟨w3,hb3⟩ hsame hall
     have he:=bn hsame [172,173,174,175,176,177,178,179,180,181,182,183,184,185,186,4] AB
     simp only[List.foldl_cons,List.foldl_nil] at he
     rw[show a.eval (.tmp 4)=(.bool R) from(hall 4 AB).trans (congrArg Value.bool hR.o.symm)] at he
     generalize a.eval (.tmp 172)=x172 at he
     generalize a.eval (.tmp 173)=x173 at he
     generalize a.eval (.tmp 174)=x174 at he
     generalize a.eval (.tmp 175)=x175 at he
     generalize a.eval (.tmp 176)=x176 at he
     generalize a.eval (.tmp 177)=x177 at he
     generalize a.eval (.tmp 178)=x178 at he
     generalize a.eval (.tmp 179)=x179 at he
     generalize a.eval (.tmp 180)=x180 at he
     generalize a.eval (.tmp 181)=x181 at he
     generalize a.eval (.tmp 182)=x182 at he
     generalize a.eval (.tmp 183)=x183 at he
     generalize a.eval (.tmp 184)=x184 at he
     generalize a.eval (.tmp 185)=x185 at he
     generalize a.eval (.tmp 186)=x186 at he
     simp only[cu] at he
     dsimp only[List.set_cons_zero,List.set_cons_succ] at he
     subst he
     clear hsame hall
     go_wp2_with fail
     go_roundw
     case rel=>exact⟨j+1,R,rfl,by go_num,by omega,HN.o,HBZ.o.trans (hb3.mono HBZ.o.size)⟩
     case measure=>simp[intOf];omega
    ·have hj2:j=k:=by omega
     have HN:Hid (b=qg V.ps (k+1)):=by rw[Hid,Hb.o,hj2,Ls]
     go_wp2_with fail
     go_roundw
     case rel=>exact⟨k+1,b,rfl,by go_num,by omega,HN.o,HBv.o⟩
     case measure=>simp[intOf];omega
  ·have hk2:k=V.ps.length:=by omega
   have Hb:Hid (b=dO V.ps):=by rw[Hid,Hb.o,hk2,RY]
   have HO:=AQ (HO.o.stay B)
   have HBB:=AQ HBw.o
   clear hk2
   go_upto_if 187 with fail
   go_cut [3] (fun s3 wx=>∃(a:Option Addr) (L:List Int) (c:Nat),s3= .slice a L.length c∧Hid (L=dh V 4)∧Hid (L.length≤4)∧aZ cZ 1 3 w0.heap.size wx a L c∧Below w0.heap.size w0 wx)
   case first=>
    have HT:=AQ (iy V 3 (show 3<5 by decide))
    cases b with
    |
     true=>
     have HL2:Hid (L++ [(121:Int)]=dh V 4):=by rw[Hid,HT.o,←HL.o];simp[lC,←Hb.o]
     go_wp2_with ((with_reducible refine bW (o:=⟨some 190, .call _,_,_,_,_⟩) UE lD ql (y:=121) (.tmp 188) (.tmp 189) AA AA HO.o AA (by have:=HLL.o;omega) HBB.o.size AA AA ?_);intro a4 c4 w4 hO4 hg4 hn4;have HO4:=AQ hO4;have HB4:=AQ (HBB.o.trans (HO.o.grown hg4 HBB.o.size));clear hO4 hg4 hn4)
     go_meet
     exact⟨a4,L++ [121],c4,by simp,HL2.o,by have:=HLL.o;rw[Hid,List.length_append,List.length_singleton];omega,HO4.o,HB4.o⟩
    |
     false=>
     have HL2:Hid (L=dh V 4):=by rw[Hid,HT.o,←HL.o];simp[lC,←Hb.o]
     go_wp2_with fail
     go_meet
     exact⟨a,L,c,rfl,HL2.o,by have:=HLL.o;rw[Hid];omega,HO.o,HBB.o⟩
   case rest=>
    obtain⟨a,L,c,rfl,HL,HLL,hO,hB⟩:=hcut
    clear Hb
    go_step
    exact WX w w0 wc V R HR HV HI HB0 hl1 hl2 hl3 a L c HL HLL hO hB _ _ _ _ _ _ _ _ _ _ _ _ _ _ _ _ _ _ _ _ _ _ _ _ _ _ _ _ _ _ _ _ _ _ _ _ _ _ _ _ _ _ _ _ _ _ _ _ _ _ _ _ _ _ _ _ _ _ _ _ _ _ _ _ _ _ _ _ _ _ _ _ _ _ _ _ _ _ _ _ _ _ _ _ _ _ _ _ _ _ _ _ _ _ _ _ _ _ _ _ _ _ _ _ _ _ _ _ _ _ _ _ _ _ _ _ _ _ _ _ _ _ _ _ _ _ _ _ _ _ _ _ _ _ _ _ _ _ _ _ _ _ _ _ _ _ _ _ _ _ _ _ _ _ _ _ _ _ _ _ _ _ _ _ _ _ _ _ _ _ _ _ _ _ _ _ _ _ _ _ _ _ _ _ _ _ _ _ _ _ _ _ _ _ _ _ _ _ _ _ _ _ _ _ _ _ _ _ _ _ _ _ _ _ _ _ _ _ _ _ _ _ _ _ _ _ _ _ _ _ _ _ _ _
end Go.Proofs.YtlholdllibghbaaGreat
