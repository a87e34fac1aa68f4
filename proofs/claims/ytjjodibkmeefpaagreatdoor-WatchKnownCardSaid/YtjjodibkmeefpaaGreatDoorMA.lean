import Derived.Test.YtjjodibkmeefpaaGreatDoorMV
import Derived.Test.YtjjodibkmeefpaaGreatDoorMT
set_option linter.unusedVariables false
set_option linter.unusedSimpArgs false
set_option maxHeartbeats 4000000

namespace Go.Proofs.YtjjodibkmeefpaaGreatDoor
open Go Go.RowKit
attribute [local irreducible] wpList

def Pk.rEnd (s:RS):Int:=if 0<s.1.length then 5 else s.2

theorem clone {S:Nat->Prop} {v:Value} {l:List UInt8} (w:World) (hB:Bs w S v l) (hl:l.length<=1000000000000):Calls Tryz.prog 34 [v].toArray w (Ret (NewB 5 w l)):=by
 obtain ⟨A,c,rfl,hcc,hcm,hrd⟩:=hB.op
 refine kE (l:=[_]) Tryz.func34 U U ?_
 have H:=St.start nT w
 refine kR (sAs U (ln (kQ (kR (sMs U (sR (d_eqnil U U U tu23) (ln (kC U (fun hc4=>?_) (fun hc4=>?_)))))))))
 ·skip
  refine kR (sAs U (ln (kx ?_)))
  obtain rfl:l=[]:=by
   rcases Nat.eq_zero_or_pos l.length with h|h
   ·exact List.eq_nil_of_length_eq_zero h
   ·obtain ⟨g,o,rfl,_⟩:=hrd.2 h
    simp at hc4
  replace H:=H.nilrow 5 1
  exact qr (v:=.slice _ _ _) U U ⟨_,U,H.newB (l:=[]) (by rfl) (by rfl) (Nat.le_refl _) (by omega)⟩
 ·skip
  refine kS (kR (sf (e_bsl0 (wn U) U U tu23 ts5 H ?_)))
  clear H;intro g3_0 W H
  refine sMs U (sf (eap tu23 tx5 U U U H (H.rd hrd) (all_u8L _) (by omega) U ?_))
  clear H;intro A1 c1 W hc1 hd1 H
  refine sAs U (ln (kx ?_))
  rw [Nat.zero_add] at hc1 H ⊢
  exact qr (v:=.slice _ _ _) U U ⟨_,U,H.newB (l:=l) U U hc1 hd1⟩

def idxF (b:UInt8):Int:=if b=253 then 0 else if b=254 then 1 else if b=255 then 2 else -1

def backL (l:List UInt8) (k:Nat):List (Nat × UInt8):=(List.range k).map fun j=>(l.length - 1 - j,l.getD (l.length - 1 - j) 0)
def acc (xs:List (Nat × UInt8)):Nat:=xs.foldl (fun a x=>a*256+x.2.toNat) 0




end Go.Proofs.YtjjodibkmeefpaaGreatDoor
