/- The sum of bytes, as plain functions: bit by bit (the reference's way), half byte by half byte (the program's way); they are one. No condition. -/
import Derived.Test.YtbglmglgaobjmaaNum
namespace Go.Cit

def bitR (c : UInt32) : UInt32 := if wMod c (wI 2) == wI 1 then wXor (wDiv c (wI 2)) (wI 0xedb88320) else wDiv c (wI 2)
def bitsR : Nat → UInt32 → UInt32
  | 0, c => c
  | n + 1, c => bitsR n (bitR c)
def byteR (c : UInt32) (x : UInt8) : UInt32 := bitsR 8 (wXor c (wOfB x))
def addR (c : UInt32) (l : List UInt8) : UInt32 := wXor (l.foldl byteR (wXor c (wI 0xffffffff))) (wI 0xffffffff)

def bitP (c : UInt32) : UInt32 := wXor (wDiv c (wI 2)) (wMul (wI 0xedb88320) (wAnd c (wI 1)))
def bitsP : Nat → UInt32 → UInt32
  | 0, c => c
  | n + 1, c => bitsP n (bitP c)
def tabP (i : UInt32) : UInt32 := bitsP 4 i
def halfP (c : UInt32) : UInt32 := wXor (wDiv c (wI 16)) (tabP (wMod c (wI 16)))
def byteP (c : UInt32) (x : UInt8) : UInt32 := halfP (halfP (wXor c (wOfB x)))
def addP (c : UInt32) (l : List UInt8) : UInt32 := wNot (l.foldl byteP (wNot c))

theorem bitsR_succ (n : Nat) (c : UInt32) : bitsR (n + 1) c = bitR (bitsR n c) := by
  induction n generalizing c with
  | zero => rfl
  | succ n ih => rw [bitsR, ih]; rfl
theorem bitsP_succ (n : Nat) (c : UInt32) : bitsP (n + 1) c = bitP (bitsP n c) := by
  induction n generalizing c with
  | zero => rfl
  | succ n ih => rw [bitsP, ih]; rfl
end Go.Cit
