/- disk.Disk's fall, operate, Flush, Crash, Arm, Start: walked. -/
import Derived.Test.YtofagofpeedfcaaGreatDisk4
namespace Go.Proofs.YtofagofpeedfcaaGreat
open Go Go.RowKit Go.Cit

def fallD (l : List UInt8) (D : Dk) : Dk := { spillD (bitQ l) D with up := false, left := 0, stay := [] }
theorem fallD_ok (l : List UInt8) (D : Dk) (h : D.Ok) : (fallD l D).Ok := by
  have := spillD_ok (bitQ l) D h
  exact ⟨this.sec, this.cac, this.len, this.few, this.pos, Nat.zero_le _, Nat.zero_le _⟩
theorem setCell_in {w : World} {b i : Nat} {C : Array Value} {T : TypeId} (v : Value) (h : w.heap[b]? = some (.cells C T (0, 0))) : (w.setCell ⟨b, i, none⟩ v).heap[b]? = some (.cells (C.setIfInBounds i v) T (0, 0)) := by
  simp [World.setCell, Array.getElem?_modify, h]
/-- The disk's own words are written over. -/
theorem DiskAt.turn {w w' : World} {p : Pl} {D D' : Dk} (h : DiskAt w p D) (hs : Save (· ≠ p.b) w w') (a : Option Addr) (c : Nat) (hS : D'.S = D.S) (hC : D'.C = D.C) (hok : D'.Ok)
    (hb : w'.heap[p.b]? = some (.cells (dkCells p D' a c) 39 (0, 0))) (hr : Row w' a D'.stay c) (ha : ∀ g, Go.Cit.blk a = some g → p.Off g ∧ ¬ p.x g ∧ g < w'.heap.size) : DiskAt w' p D' := by
  have hl := h.lt
  refine ⟨⟨a, c, hb, hr, ha⟩, ?_, ?_, h.ne1, h.ne2, h.ne3, fun k hk => Nat.lt_of_lt_of_le (h.xlt k hk) hs.size, hok⟩
  · rw [hs.block _ hl.2.1 (Ne.symm h.ne1), h.sec, hS]
  · rw [hC]; exact h.map.save hs (Ne.symm h.ne2)
theorem Dk.Ok.same {D D' : Dk} (h : D.Ok) (hS : D'.S = D.S) (hC : D'.C = D.C) (hl : D'.left ≤ 9223372036854775807) (hs : D'.stay.length ≤ 1000000000) : D'.Ok :=
  ⟨by rw [hS]; exact h.sec, by rw [hC]; exact h.cac, by rw [hS, hC]; exact h.len, by rw [hS]; exact h.few, by rw [hS]; exact h.pos, hl, hs⟩

set_option maxRecDepth 100000 in
set_option maxHeartbeats 1000000 in
theorem fall_calls (w : World) (p : Pl) (D : Dk) (h : DiskAt w p D) (a : Option Addr) (l : List UInt8) (c : Nat) (hr : Row w a l c) (ha : l ≠ [] → ∀ g, Go.Cit.blk a = some g → p.Off g) :
    Calls Tryz.prog 50 #[.pointer (some ⟨p.b, 0, none⟩), .slice a l.length c] w fun e w' => e = .returned (.tuple #[]) ∧ DiskAt w' p (fallD l D) ∧ Save p.Off w w' := by
  obtain ⟨w1, hw1⟩ : ∃ w1, w1 = w.alloc (.cells #[.slice a l.length c] 31) := ⟨_, rfl⟩
  have B1 : Below w.heap.size w w1 := by rw [hw1]; exact (Below.refl _ w).alloc (Nat.le_refl _) _
  have hbx : w1.cell? ⟨w.heap.size, 0, none⟩ = some (.slice a l.length c) := by rw [hw1, World.cell?, heap_alloc_new]; rfl
  have hlt := h.lt
  have hsz : w1.heap.size = w.heap.size + 1 := by rw [hw1]; simp
  have hsp := spill_calls w1 p D (h.stay B1) 71 #[] #[.pointer (some ⟨w.heap.size, 0, none⟩)] (enters_of Tryz.func71 (by kernel_rfl) rfl) (bitQ l) (fun W n hn hs => by
    refine fall1_calls W w.heap.size a l c ?_ ((hr.stay B1).save' hs (fun hne g hg => (ha hne g hg).2.1)) n ?_
    · rw [hs.cell (by show w.heap.size < _; omega) (by show w.heap.size ≠ p.sb; omega)]; exact hbx
    · have := h.ok.few; omega)
  have HB1 := Lib.hid B1
  have HW := Lib.hid h
  have HSP := Lib.hid hsp
  clear h hr ha hsp hbx
  go_enter Tryz.func50, Tryz.ntmps50
  go_wp2_with fail
  rw [← hw1]
  clear hw1
  refine (HSP.out).mono ?_
  rintro e w2 ⟨rfl, hD2, hs2⟩
  obtain ⟨a0, c0, hbox, hr0, ho0⟩ := hD2.box
  have HD2 := Lib.hid hD2
  have HS2 := Lib.hid hs2
  have HBX := Lib.hid hbox
  obtain ⟨f0, _, _, f3, ⟨a9, c9, f4, _⟩, ff⟩ := hD2.cells
  clear hbox hr0 ho0 hD2 hs2 HSP
  go_wp2_with fail
  go_end0
  have hs3 : Save (· ≠ p.b) w2 (((w2.setCell ⟨p.b, 0, none⟩ (.bool false)).setCell ⟨p.b, 3, none⟩ (.int .i64 0)).setCell ⟨p.b, 4, none⟩ (.slice none 0 0)) := (Save.set.trans Save.set).trans Save.set
  refine ⟨rfl, HD2.out.turn hs3 none 0 rfl rfl (fallD_ok l D HW.out.ok) ?_ (Row.nil_ _) (fun g hg => by simp [Go.Cit.blk] at hg), ?_⟩
  · exact setCell_in _ (setCell_in _ (setCell_in _ HBX.out))
  · exact ((Save.of HB1.out).trans (HS2.out.less (fun k _ hk => ⟨hk.2.1, hk.2.2⟩))).trans (hs3.less (fun k _ hk => hk.1))

/-- Behind an operation that isn't the one at which it crashes. -/
def tickD (D : Dk) : Dk := { D with left := D.left - 1 }
set_option maxRecDepth 100000 in
set_option maxHeartbeats 1000000 in
theorem operate_falls (w : World) (p : Pl) (D : Dk) (h : DiskAt w p D) (hl : D.left = 1) (v : Value) :
    Calls Tryz.prog 45 #[.pointer (some ⟨p.b, 0, none⟩), v] w fun e w' => e = .returned (.int .i64 60) ∧ DiskAt w' p (fallD D.stay D) ∧ Save p.Off w w' := by
  obtain ⟨a, c, hbox, hr, ho⟩ := h.box
  have hf := fall_calls w p D h a D.stay c hr (fun _ g hg => (ho g hg).1)
  obtain ⟨_, _, _, c3, _⟩ := h.cells
  have c4 : w.cell? ⟨p.b, 4, none⟩ = some (.slice a D.stay.length c) := by rw [World.cell?, hbox]; rfl
  rw [hl] at c3
  clear hbox hr ho h hl
  go_enter Tryz.func45, Tryz.ntmps45
  go_wp2_with fail
  refine (hf).mono ?_
  rintro e w2 ⟨rfl, hD2, hs2⟩
  go_wp2_with fail
  go_ret
  exact ⟨rfl, hD2, hs2⟩
set_option maxRecDepth 100000 in
set_option maxHeartbeats 1000000 in
theorem operate_does (w : World) (p : Pl) (D D' : Dk) (h : DiskAt w p D) (hl : D.left ≠ 1) (g : Nat) (lb : Array Value) (eg : ∀ args w, (callFunc g args).run Tryz.prog w = .ok (.enter g args) w)
    (hdo : ∀ W, DiskAt W p (tickD D) → Save (· ≠ p.b) w W → Calls Tryz.prog g lb W fun e w' => e = .returned (.tuple #[]) ∧ DiskAt w' p D' ∧ Save p.Off W w') :
    Calls Tryz.prog 45 #[.pointer (some ⟨p.b, 0, none⟩), .func (.func g) #[] lb] w fun e w' => e = .returned (.int .i64 0) ∧ DiskAt w' p D' ∧ Save p.Off w w' := by
  obtain ⟨a, c, hbox, hr, ho⟩ := h.box
  obtain ⟨_, _, _, c3, _, ff⟩ := h.cells
  have hn : ((D.left : Int) == 1) = false := by simp; omega
  have hl9 := h.ok.left
  have ew : wrap64 ((D.left : Int) - 1) = (D.left : Int) - 1 := by unfold wrap64; omega
  have hs1 : Save (· ≠ p.b) w (w.setCell ⟨p.b, 3, none⟩ (.int .i64 ((D.left - 1 : Nat) : Int))) := Save.set
  have hD1 : DiskAt (w.setCell ⟨p.b, 3, none⟩ (.int .i64 ((D.left - 1 : Nat) : Int))) p (tickD D) := h.turn hs1 a c rfl rfl (h.ok.same rfl rfl (by show D.left - 1 ≤ _; omega) h.ok.stay) (setCell_in _ hbox) (hr.save hs1 (fun g hg => (ho g hg).1.1)) (fun g hg => ⟨(ho g hg).1, (ho g hg).2.1, Nat.lt_of_lt_of_le (ho g hg).2.2 hs1.size⟩)
  have HDO := Lib.hid (hdo _ hD1 hs1)
  have HS1 := Lib.hid hs1
  clear hbox hr ho h hdo hD1 hs1
  go_enter Tryz.func45, Tryz.ntmps45
  go_wp2_with fail
  rw [show max ((D.left : Int) - 1) 0 = ((D.left - 1 : Nat) : Int) by omega]
  refine (HDO.out).mono ?_
  rintro e w2 ⟨rfl, hD2, hs2⟩
  go_wp2_with fail
  go_ret
  exact ⟨rfl, hD2, (HS1.out.less (fun _ _ hk => hk.1)).trans hs2⟩

/-- Behind a flush. -/
def flushD (D : Dk) : Dk := spillD (fun _ => true) D
set_option maxRecDepth 100000 in
theorem flush1_calls (w : World) (p : Pl) (D : Dk) (h : DiskAt w p D) (B : Nat) (hB : w.cell? ⟨B, 0, none⟩ = some (.pointer (some ⟨p.b, 0, none⟩))) :
    Calls Tryz.prog 46 #[.pointer (some ⟨B, 0, none⟩)] w fun e w' => e = .returned (.tuple #[]) ∧ DiskAt w' p (flushD D) ∧ Save p.Off w w' := by
  have hsp := spill_calls w p D h 48 #[.pointer (some ⟨p.b, 0, none⟩)] #[] (enters_of Tryz.func48 (by kernel_rfl) rfl) (fun _ => true) (fun W n _ _ => all_calls W _ _)
  clear h
  go_enter Tryz.func46, Tryz.ntmps46
  go_wp2_with fail
  refine (hsp).mono ?_
  rintro e w2 ⟨rfl, hD2, hs2⟩
  go_wp2_with fail
  go_end0
  exact ⟨rfl, hD2, hs2.less (fun k _ hk => ⟨hk.2.1, hk.2.2⟩)⟩
/-- Behind a Flush, its answer. -/
def flushE (D : Dk) : Int := if D.up = false ∨ D.left = 1 then 60 else 0
def flushT (D : Dk) : Dk := if D.up = false then D else if D.left = 1 then fallD D.stay D else flushD (tickD D)
set_option maxRecDepth 100000 in
set_option maxHeartbeats 1000000 in
theorem flush_calls (w : World) (p : Pl) (D : Dk) (h : DiskAt w p D) : Calls Tryz.prog 18 #[.pointer (some ⟨p.b, 0, none⟩)] w fun e w' => e = .returned (.int .i64 (flushE D)) ∧ DiskAt w' p (flushT D) ∧ Save p.Off w w' := by
  obtain ⟨w1, hw1⟩ : ∃ w1, w1 = w.alloc (.cells #[.pointer (some ⟨p.b, 0, none⟩)] 24) := ⟨_, rfl⟩
  have B1 : Below w.heap.size w w1 := by rw [hw1]; exact (Below.refl _ w).alloc (Nat.le_refl _) _
  have hbx : w1.cell? ⟨w.heap.size, 0, none⟩ = some (.pointer (some ⟨p.b, 0, none⟩)) := by rw [hw1, World.cell?, heap_alloc_new]; rfl
  have h1 := h.stay B1
  have hlt := h.lt
  have hsz : w1.heap.size = w.heap.size + 1 := by rw [hw1]; simp
  have hr := ready_calls w1 p D h1
  have HB1 : Hid (Save p.Off w w1) := Save.of B1
  by_cases hu : D.up = true
  · rw [hu] at hr
    have HBC := Lib.hid hbx
    by_cases hl : D.left = 1
    · have e1 : flushE D = 60 := by rw [flushE, if_pos (.inr hl)]
      have e2 : flushT D = fallD D.stay D := by rw [flushT, if_neg (by rw [hu]; simp), if_pos hl]
      rw [e1, e2]
      have HO := Lib.hid (operate_falls w1 p D h1 hl)
      clear h h1 e1 e2 hl B1 hlt
      go_enter Tryz.func18, Tryz.ntmps18
      go_wp2_with fail
      rw [← hw1]
      clear hw1
      refine (hr).mono ?_
      rintro e w2 ⟨rfl, rfl⟩
      go_wp2_with fail
      refine (HO.out _).mono ?_
      rintro e w3 ⟨rfl, hD, hs⟩
      go_wp2_with fail
      go_ret
      exact ⟨rfl, hD, HB1.out.trans hs⟩
    · have e1 : flushE D = 0 := by rw [flushE, if_neg (by rw [hu]; simp [hl])]
      have e2 : flushT D = flushD (tickD D) := by rw [flushT, if_neg (by rw [hu]; simp), if_neg hl]
      rw [e1, e2]
      have HO := Lib.hid (operate_does w1 p D (flushD (tickD D)) h1 hl 46 #[.pointer (some ⟨w.heap.size, 0, none⟩)] (enters_of Tryz.func46 (by kernel_rfl) rfl)
        (fun W hW hs => flush1_calls W p (tickD D) hW w.heap.size (by rw [hs.cell (by show w.heap.size < _; omega) (by show w.heap.size ≠ p.b; omega)]; exact HBC.out)))
      clear h h1 e1 e2 hl B1 hlt
      go_enter Tryz.func18, Tryz.ntmps18
      go_wp2_with fail
      rw [← hw1]
      clear hw1
      refine (hr).mono ?_
      rintro e w2 ⟨rfl, rfl⟩
      go_wp2_with fail
      refine (HO.out).mono ?_
      rintro e w3 ⟨rfl, hD, hs⟩
      go_wp2_with fail
      go_ret
      exact ⟨rfl, hD, HB1.out.trans hs⟩
  · have hu : D.up = false := by simpa using hu
    rw [hu] at hr
    have e1 : flushE D = 60 := by rw [flushE, if_pos (.inl hu)]
    have e2 : flushT D = D := by rw [flushT, if_pos hu]
    rw [e1, e2]
    have H1 := Lib.hid h1
    clear h h1 e1 e2 B1 hlt
    go_enter Tryz.func18, Tryz.ntmps18
    go_wp2_with fail
    rw [← hw1]
    clear hw1
    refine (hr).mono ?_
    rintro e w2 ⟨rfl, rfl⟩
    go_wp2_with fail
    go_ret
    exact ⟨rfl, H1.out, HB1.out⟩
set_option maxRecDepth 100000 in
theorem flush_nil (w : World) (v : Value) (h : NoDisk w v) : Calls Tryz.prog 18 #[v] w fun e w' => e = .returned (.int .i64 1) ∧ Below w.heap.size w w' := by
  obtain ⟨w1, hw1⟩ : ∃ w1, w1 = w.alloc (.cells #[v] 24) := ⟨_, rfl⟩
  have B1 : Below w.heap.size w w1 := by rw [hw1]; exact (Below.refl _ w).alloc (Nat.le_refl _) _
  have hbx : w1.cell? ⟨w.heap.size, 0, none⟩ = some v := by rw [hw1, World.cell?, heap_alloc_new]; rfl
  have hr := ready_nil w1 v (h.stay B1)
  have HB := Lib.hid B1
  clear B1
  rcases h with rfl | ⟨b, rfl, c2⟩
  all_goals
    go_enter Tryz.func18, Tryz.ntmps18
    go_wp2_with fail
    rw [← hw1]
    clear hw1
    refine (hr).mono ?_
    rintro e w2 ⟨rfl, rfl⟩
    go_wp2_with fail
    go_ret
    exact ⟨rfl, HB.out⟩

def crashE (D : Dk) : Int := if D.up = false then 60 else 0
def crashT (l : List UInt8) (D : Dk) : Dk := if D.up = false then D else fallD l D
set_option maxRecDepth 100000 in
theorem crash_calls (w : World) (p : Pl) (D : Dk) (h : DiskAt w p D) (a : Option Addr) (l : List UInt8) (c : Nat) (hr : Row w a l c) (ha : l ≠ [] → ∀ g, Go.Cit.blk a = some g → p.Off g) :
    Calls Tryz.prog 20 #[.pointer (some ⟨p.b, 0, none⟩), .slice a l.length c] w fun e w' => e = .returned (.int .i64 (crashE D)) ∧ DiskAt w' p (crashT l D) ∧ Save p.Off w w' := by
  have hd := ready_calls w p D h
  have hf := fall_calls w p D h a l c hr ha
  by_cases hu : D.up = true
  · rw [hu] at hd
    rw [show crashE D = 0 by rw [crashE, if_neg (by rw [hu]; simp)], show crashT l D = fallD l D by rw [crashT, if_neg (by rw [hu]; simp)]]
    clear h hr ha
    go_enter Tryz.func20, Tryz.ntmps20
    go_wp2_with fail
    refine (hd).mono ?_
    rintro e w2 ⟨rfl, rfl⟩
    go_wp2_with fail
    refine (hf).mono ?_
    rintro e w3 ⟨rfl, hD, hs⟩
    go_wp2_with fail
    go_ret
    exact ⟨rfl, hD, hs⟩
  · have hu : D.up = false := by simpa using hu
    rw [hu] at hd
    rw [show crashE D = 60 by rw [crashE, if_pos hu], show crashT l D = D by rw [crashT, if_pos hu]]
    have H := Lib.hid h
    clear h hr ha hf
    go_enter Tryz.func20, Tryz.ntmps20
    go_wp2_with fail
    refine (hd).mono ?_
    rintro e w2 ⟨rfl, rfl⟩
    go_wp2_with fail
    go_ret
    exact ⟨rfl, H.out, Save.refl _ _⟩
set_option maxRecDepth 100000 in
theorem crash_nil (w : World) (v : Value) (h : NoDisk w v) (x : Value) : Calls Tryz.prog 20 #[v, x] w fun e w' => e = .returned (.int .i64 1) ∧ w' = w := by
  have hd := ready_nil w v h
  clear h
  go_enter Tryz.func20, Tryz.ntmps20
  go_wp2_with fail
  refine (hd).mono ?_
  rintro e w2 ⟨rfl, rfl⟩
  go_wp2_with fail
  go_ret
  exact ⟨rfl, rfl⟩

def startE (D : Dk) : Int := if D.up = true then 2 else 0
def startD (D : Dk) : Dk := { D with up := true }
set_option maxRecDepth 100000 in
theorem start_calls (w : World) (p : Pl) (D : Dk) (h : DiskAt w p D) :
    Calls Tryz.prog 22 #[.pointer (some ⟨p.b, 0, none⟩)] w fun e w' => e = .returned (.int .i64 (startE D)) ∧ DiskAt w' p (startD D) ∧ Save p.Off w w' := by
  have hn := none_calls w p D h
  obtain ⟨c0, _, _, _, _, ff⟩ := h.cells
  have H := Lib.hid h
  clear h
  by_cases hu : D.up = true
  · rw [hu] at c0
    rw [show startE D = 2 by rw [startE, if_pos hu], show startD D = D by rw [startD, ← hu]]
    go_enter Tryz.func22, Tryz.ntmps22
    go_wp2_with fail
    refine (hn).mono ?_
    rintro e w2 ⟨rfl, rfl⟩
    go_wp2_with fail
    go_ret
    exact ⟨rfl, H.out, Save.refl _ _⟩
  · have hu : D.up = false := by simpa using hu
    rw [hu] at c0
    rw [show startE D = 0 by rw [startE, if_neg (by rw [hu]; simp)]]
    go_enter Tryz.func22, Tryz.ntmps22
    go_wp2_with fail
    refine (hn).mono ?_
    rintro e w2 ⟨rfl, rfl⟩
    go_wp2_with fail
    go_ret
    obtain ⟨a, c, hbox, hr, ho⟩ := H.out.box
    exact ⟨rfl, H.out.turn Save.set a c rfl rfl (H.out.ok.same rfl rfl H.out.ok.left H.out.ok.stay) (setCell_in _ hbox) (hr.save Save.set (fun g hg => (ho g hg).1.1)) (fun g hg => ⟨(ho g hg).1, (ho g hg).2.1, by simpa [World.setCell] using (ho g hg).2.2⟩), Save.set.less (fun _ _ hk => hk.1)⟩
set_option maxRecDepth 100000 in
theorem start_nil (w : World) (v : Value) (h : NoDisk w v) : Calls Tryz.prog 22 #[v] w fun e w' => e = .returned (.int .i64 1) ∧ w' = w := by
  have hd := none_nil w v h
  clear h
  go_enter Tryz.func22, Tryz.ntmps22
  go_wp2_with fail
  refine (hd).mono ?_
  rintro e w2 ⟨rfl, rfl⟩
  go_wp2_with fail
  go_ret
  exact ⟨rfl, rfl⟩

def armE (D : Dk) (at_ : Int) : Int := if D.up = false then 60 else if at_ < 1 then 2 else 0
def armD (D : Dk) (at_ : Int) (l : List UInt8) : Dk := if D.up = false ∨ at_ < 1 then D else { D with left := at_.toNat, stay := l }
set_option maxRecDepth 100000 in
theorem arm_calls (w : World) (p : Pl) (D : Dk) (h : DiskAt w p D) (at_ : Int) (h9 : at_ ≤ 9223372036854775807) (a : Option Addr) (l : List UInt8) (c : Nat) (hr : Row w a l c) (hl : l.length ≤ 1000000000) :
    Calls Tryz.prog 24 #[.pointer (some ⟨p.b, 0, none⟩), .int .i64 at_, .slice a l.length c] w fun e w' => e = .returned (.int .i64 (armE D at_)) ∧ DiskAt w' p (armD D at_ l) ∧ Save p.Off w w' := by
  have hd := ready_calls w p D h
  have hc := clone_calls w a l c hr hl
  have H := Lib.hid h
  clear h hr
  by_cases hu : D.up = true
  · rw [hu] at hd
    by_cases hat : at_ < 1
    · rw [show armE D at_ = 2 by rw [armE, if_neg (by rw [hu]; simp), if_pos hat], show armD D at_ l = D by rw [armD, if_pos (.inr hat)]]
      go_enter Tryz.func24, Tryz.ntmps24
      go_wp2_with fail
      refine (hd).mono ?_
      rintro e w2 ⟨rfl, rfl⟩
      go_wp2_with fail
      go_ret
      exact ⟨rfl, H.out, Save.refl _ _⟩
    · rw [show armE D at_ = 0 by rw [armE, if_neg (by rw [hu]; simp), if_neg hat], show armD D at_ l = { D with left := at_.toNat, stay := l } by rw [armD, if_neg (by rw [hu]; simpa using hat)]]
      obtain ⟨n, rfl⟩ : ∃ n : Nat, at_ = (n : Int) := ⟨at_.toNat, by omega⟩
      rw [Int.toNat_natCast]
      go_enter Tryz.func24, Tryz.ntmps24
      go_wp2_with fail
      refine (hd).mono ?_
      rintro e w2 ⟨rfl, rfl⟩
      go_wp2_with fail
      refine (hc).mono ?_
      rintro e w3 ⟨a3, c3, rfl, hO, hb⟩
      have H3 := Lib.hid (H.out.stay hb)
      have HO := Lib.hid hO
      have HB := Lib.hid hb
      obtain ⟨_, _, _, d3, ⟨_, _, d4, _⟩, ff⟩ := H3.out.cells
      clear hO hb hc
      go_wp2_with fail
      go_ret
      obtain ⟨a0, c0, hbox, hr0, ho0⟩ := H3.out.box
      have hlt := H.out.lt
      have hoff : ∀ g, Go.Cit.blk a3 = some g → p.Off g ∧ ¬ p.x g ∧ g < ((w3.setCell ⟨p.b, 3, none⟩ (.int .i64 (n : Int))).setCell ⟨p.b, 4, none⟩ (.slice a3 l.length c3)).heap.size := fun g hg => by
        have h1 := (HO.out.blk_ge hg).1
        have h2 := (HO.out.blk_ge hg).2
        exact ⟨⟨by omega, by omega, by omega⟩, fun hx => by have := H.out.xlt g hx; omega, by simpa [World.setCell] using h2⟩
      have hs : Save (· ≠ p.b) w3 ((w3.setCell ⟨p.b, 3, none⟩ (.int .i64 (n : Int))).setCell ⟨p.b, 4, none⟩ (.slice a3 l.length c3)) := Save.set.trans Save.set
      exact ⟨rfl, H3.out.turn hs a3 c3 rfl rfl (H.out.ok.same rfl rfl (by show n ≤ _; omega) hl) (setCell_in _ (setCell_in _ hbox)) (HO.out.isRow.save hs (fun g hg => (hoff g hg).1.1)) hoff, (Save.of HB.out).trans (hs.less (fun _ _ hk => hk.1))⟩
  · have hu : D.up = false := by simpa using hu
    rw [hu] at hd
    rw [show armE D at_ = 60 by rw [armE, if_pos hu], show armD D at_ l = D by rw [armD, if_pos (.inl hu)]]
    go_enter Tryz.func24, Tryz.ntmps24
    go_wp2_with fail
    refine (hd).mono ?_
    rintro e w2 ⟨rfl, rfl⟩
    go_wp2_with fail
    go_ret
    exact ⟨rfl, H.out, Save.refl _ _⟩
set_option maxRecDepth 100000 in
theorem arm_nil (w : World) (v : Value) (h : NoDisk w v) (x y : Value) : Calls Tryz.prog 24 #[v, x, y] w fun e w' => e = .returned (.int .i64 1) ∧ w' = w := by
  have hd := ready_nil w v h
  clear h
  go_enter Tryz.func24, Tryz.ntmps24
  go_wp2_with fail
  refine (hd).mono ?_
  rintro e w2 ⟨rfl, rfl⟩
  go_wp2_with fail
  go_ret
  exact ⟨rfl, rfl⟩
end Go.Proofs.YtofagofpeedfcaaGreat
