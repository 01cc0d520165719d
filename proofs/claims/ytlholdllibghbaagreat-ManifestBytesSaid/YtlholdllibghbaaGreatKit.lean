/- Small proofs under names. No condition. -/
import Derived.WalkKit
import Derived.KernelRfl
import Derived.Lib.Hide
namespace Go
theorem AA {p:Prop} (h:p:=by with_unfolding_all rfl):p:=h
theorem AB {p:Prop} (h:p:=by kernel_rfl):p:=h
theorem AL {p:Prop} (h:p:=by omega):p:=h
theorem AO {p:Prop} (h:p:=by simp):p:=h
theorem AP {p:Prop} (h:p:=by decide):p:=h
theorem AQ {p:Prop} (h:p):RowKit.Hid p:=h
theorem AU {α:Type} (a:α):∃x,RowKit.Hid (x=a):=⟨_,rfl⟩
theorem AV {α:Type} (a:α):∃x,x=a:=⟨_,rfl⟩
theorem RowKit.Hid.o {p:Prop} (h:RowKit.Hid p):p:=h
end Go
