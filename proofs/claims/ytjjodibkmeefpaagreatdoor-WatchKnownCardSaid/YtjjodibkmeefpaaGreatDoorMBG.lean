import Derived.Test.YtjjodibkmeefpaaGreatDoorMX
import Derived.Test.YtjjodibkmeefpaaGreatDoorMV
set_option linter.unusedVariables false
set_option linter.unusedSimpArgs false

namespace Go.Proofs.YtjjodibkmeefpaaGreatDoor
open Go Go.RowKit
attribute [local irreducible] wpList
def beqHeader (x y:DHeader):Bool:=((x.prev == y.prev) && ((x.root == y.root) && ((x.nonce == y.nonce) && true)))
theorem beqHeader_iff {x y:DHeader}:beqHeader x y=true↔x=y:=by
 cases x;cases y
 simp [beqHeader]
theorem eq_Header {d:Nat} {W W':World} {S S':Nat->Prop} {cx cy:List Value} {x y:DHeader} (hx:RHeader W S cx x) (hy:RHeader W' S' cy y):EqT Tryz.prog (d+3) 73 (.agg cx.toArray) (.agg cy.toArray) (beqHeader x y):=by
 obtain ⟨c0,c1,c2,rfl,e0,e1,e2⟩:=hx
 obtain ⟨b0,b1,b2,rfl,q0,q1,q2⟩:=hy
 have l0:=lens_A _ _ _ _ e0
 have k0:=lens_A _ _ _ _ q0
 have l1:=lens_A _ _ _ _ e1
 have k1:=lens_A _ _ _ _ q1
 have l2:=lens_I _ _ _ _ e2
 have k2:=lens_I _ _ _ _ q2
 refine eq_st (by kernel_rfl) (by unfold Program.fieldsOf;rw [Tryz.underlying73]) (by kernel_rfl) ?_
 have z0:=e0.2
 have y0:=q0.2
 obtain ⟨rfl,_⟩:=e0
 obtain ⟨rfl,_⟩:=q0
 refine eqf_cons rfl (part_Me ta25 ts25 (sub_Header_0 l0)) (part_Me ta25 ts25 (sub_Header_0 k0)) (eq_u8s tu25 tu5 ts5 z0 y0) ?_
 have z1:=e1.2
 have y1:=q1.2
 obtain ⟨rfl,_⟩:=e1
 obtain ⟨rfl,_⟩:=q1
 refine eqf_cons rfl (part_Me ta25 ts25 (sub_Header_1 l0 l1)) (part_Me ta25 ts25 (sub_Header_1 k0 k1)) (eq_u8s tu25 tu5 ts5 z1 y1) ?_
 obtain ⟨rfl,_⟩:=e2
 obtain ⟨rfl,_⟩:=q2
 refine eqf_cons rfl (part_1 ta3 (sub_Header_2 l0 l1 l2)) (part_1 ta3 (sub_Header_2 k0 k1 k2)) (eq_i tu3) ?_
 exact eqf_nil
end Go.Proofs.YtjjodibkmeefpaaGreatDoor
