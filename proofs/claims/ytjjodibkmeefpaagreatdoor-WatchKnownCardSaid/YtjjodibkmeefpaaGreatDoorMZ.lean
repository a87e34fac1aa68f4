import Derived.Test.YtjjodibkmeefpaaGreatDoorMY
import Derived.Test.YtjjodibkmeefpaaGreatDoorMO
set_option linter.unusedVariables false
set_option linter.unusedSimpArgs false
set_option maxHeartbeats 4000000

namespace Go.Proofs.YtjjodibkmeefpaaGreatDoor
open Go Go.RowKit
attribute [local irreducible] wpList

theorem St.gl {w W:World} {L:List Fact} (H:St nT w W L) (h:Old.Gl w):Old.Gl W:=h.below H.under (Nat.le_refl _)
theorem taggedB {S:Nat->Prop} {v:Value} {b:List UInt8} {s:ByteArray} (w:World) (hG:Old.Gl w) (hb:Bs w S v b) (hs:s.size<=1000000000) (hbl:b.length<=1000000000):Calls Tryz.prog 64 [.string s,v].toArray w (Ret (Is w (.agg ((Old.Bl.tagged s.data.toList b).map u8v).toArray))) :=
 Calls.mono (Old.tagged_any s v b w hb hs hbl hG) (fun e w' h=>by
  obtain ⟨h1,h2⟩:=h
  exact ⟨_,h1,U,h2⟩)
namespace Tx
def dig (s:ByteArray) (t:DTx):List UInt8:=if chk t=0 then Old.Bl.tagged s.data.toList (bareB t) else List.replicate 32 0
theorem len_dig {s:ByteArray} {t:DTx}:(dig s t).length=32:=by
 unfold dig
 split
 ·exact Old.Bl.len_tagged _ _
 ·exact List.length_replicate
def tTx:ByteArray:=⟨#[116,120]⟩
def tSign:ByteArray:=⟨#[115,105,103,110]⟩
end Tx

namespace Tx
theorem len_bare {t:DTx} (ht:Ok t):(bare t).length<=2547:=by
 unfold bare
 split
 ·rename_i h;exact len_bareB h ht
 ·simp
end Tx

theorem taggedT {S:Nat->Prop} {cs:List Value} {t:DTx} {s:ByteArray} (w:World) (ht:RTx w S cs t) (hG:Gat w 2 formsC) (hB:Old.Gl w) (hs:s.size<=1000):Calls Tryz.prog 49 [.string s,.agg cs.toArray].toArray w (Ret (Is w (.agg ((Tx.dig s t).map u8v).toArray))):=by
 obtain ⟨A,c,B,d,rfl,hI,hO,hk⟩:=tx_of ht
 have hok:=tx_ok ht
 refine kE (l:=[_,_]) Tryz.func49 U U ?_
 have H:=St.start nT w
 refine kR (sf (ebx (vs:=(txC A t.ins.length c B t.outs.length d t.lock)) U U H ?_))
 clear H;intro gm W H
 refine sf (eal (List.replicate 32 (u8v 0)) tz25 H ?_)
 clear H;intro go W H
 refine ln (kQ (kR (sR (dM (g:=gm) (off:=0) U H (sa (a:=txC A t.ins.length c B t.outs.length d t.lock) (m:=3) U) U U U U ta47 ts47) (sf (ecl Tryz.func63 U U (bareTP _ (keeps_Tx _ _ _ _ _ ht (fun g hg _=>H.fr.block g hg (fun h=>h))) (H.gat hG)) ?_)))))
 rintro _ W ⟨_,rfl,A1,c1,rfl,hc1,hd1,hn⟩
 replace H:=H.new hn
 clear hn
 refine sMt U (sEx U U (sEx U U (sAs U (sAi U (lkR (sMi U (sEq U U (ln (kC U (fun hc13=>?_) (fun hc13=>?_))))))))))
 ·have hne:Tx.chk t=0:=by simpa using hc13
  have e1:Tx.dig s t=Old.Bl.tagged s.data.toList (Tx.bare t):=by unfold Tx.dig Tx.bare;rw [if_pos hne,if_pos hne]
  have hlb:=Tx.len_bare hok
  refine kR (sR (mv_str U U) (sMs U (sf (eI Tryz.func64 U U (taggedB _ (H.gl hB) (H.rowbs (A:=A1) (l:=Tx.bare t) U) (by omega) (by omega)) H ?_))))
  clear H;intro W H
  refine sf (esk ((Old.Bl.tagged s.data.toList (Tx.bare t)).map u8v) U U U ts25 (by rw [List.length_map];exact Old.Bl.len_tagged _ _) (all_u8L _) H (by decide) (spl_all (by rw [List.length_map,List.length_replicate];exact Old.Bl.len_tagged _ _)) ?_)
  clear H;intro W H
  refine ln (kx ?_)
  rw [e1]
  exact q_retc U (c:=(Old.Bl.tagged s.data.toList (Tx.bare t)).map u8v) (g:=go) H U ta25 (by rw [List.length_map,Old.Bl.len_tagged];exact ts25) ⟨_,U,U,H.under⟩
 ·have hne:¬Tx.chk t=0:=by simpa using hc13
  have e1:Tx.dig s t=List.replicate 32 0:=by unfold Tx.dig;rw [if_neg hne]
  refine kS (kR (sR (dB (vs:=(List.replicate 32 (0:UInt8)).map u8v) U (by kernel_rfl)) ?_))
  refine sf (esk ((List.replicate 32 (0:UInt8)).map u8v) U U U ts25 (by simp) (all_u8L _) H (by decide) (spl_all (by simp)) ?_)
  clear H;intro W H
  refine ln (kx ?_)
  rw [e1]
  exact q_retc U (c:=(List.replicate 32 (0:UInt8)).map u8v) (g:=go) H U ta25 ts25 ⟨_,U,U,H.under⟩

theorem idTP {S:Nat->Prop} {cs:List Value} {t:DTx} (w:World) (ht:RTx w S cs t) (hG:Gat w 2 formsC) (hB:Old.Gl w):Calls Tryz.prog 25 [.agg cs.toArray].toArray w (Ret (Is w (.agg ((Tx.dig Tx.tTx t).map u8v).toArray))):=by
 obtain ⟨A,c,B,d,rfl,hI,hO,hk⟩:=tx_of ht
 have hok:=tx_ok ht
 refine kE (l:=[_]) Tryz.func25 U U ?_
 have H:=St.start nT w
 refine kR (sf (ebx (vs:=(txC A t.ins.length c B t.outs.length d t.lock)) U U H ?_))
 clear H;intro gm W H
 refine sf (eal (List.replicate 32 (u8v 0)) tz25 H ?_)
 clear H;intro go W H
 refine lkR (sR (dM (g:=gm) (off:=0) U H (sa (a:=txC A t.ins.length c B t.outs.length d t.lock) (m:=3) U) U U U U ta47 ts47) (sf (eI Tryz.func49 U U (taggedT (s:=Tx.tTx) _ (keeps_Tx _ _ _ _ _ ht (fun g hg _=>H.fr.block g hg (fun h=>h))) (H.gat hG) (H.gl hB) (by decide)) H ?_)))
 clear H;intro W H
 refine sf (esk ((Tx.dig Tx.tTx t).map u8v) U U U ts25 (by rw [List.length_map];exact Tx.len_dig) (all_u8L _) H (by decide) (spl_all (by rw [List.length_map,List.length_replicate];exact Tx.len_dig)) ?_)
 clear H;intro W H
 refine ln (kx ?_)
 exact q_retc U (c:=(Tx.dig Tx.tTx t).map u8v) (g:=go) H U ta25 (by rw [List.length_map,Tx.len_dig];exact ts25) ⟨_,U,U,H.under⟩

end Go.Proofs.YtjjodibkmeefpaaGreatDoor
