import Derived.Test.YtjjodibkmeefpaaGreatDoorMWE
import Derived.Test.YtjjodibkmeefpaaGreatDoorMY
set_option linter.unusedVariables false
set_option linter.unusedSimpArgs false
set_option maxHeartbeats 4000000

namespace Go.Proofs.YtjjodibkmeefpaaGreatDoor
open Go Go.RowKit
attribute [local irreducible] wpList

def bigL (l:List DTx):Bool:=decide (20<l.length) || l.any (Tx.big 20 2048)
theorem bigL_1 {l:List DTx} (h:20<l.length):bigL l=true:=by unfold bigL;rw [decide_eq_true h];rfl
theorem bigL_2 {l:List DTx} {t:DTx} (h:t∈l) (hb:Tx.big 20 2048 t=true):bigL l=true:=by
 unfold bigL
 rw [List.any_eq_true.2 ⟨t,h,hb⟩,Bool.or_true]
theorem bigL_0 {l:List DTx} (h:¬20<l.length) (hb:∀t∈l,Tx.big 20 2048 t=false):bigL l=false:=by
 unfold bigL
 rw [decide_eq_false h,Bool.false_or]
 exact Bool.eq_false_iff.2 (fun e=>by
  obtain ⟨t,h1,h2⟩:=List.any_eq_true.1 e
  rw [hb t h1] at h2
  cases h2)

theorem bigLP {S:Nat->Prop} {v:Value} {l:List DTx} (w:World) (hl:RL 3 RTx w S [v] l) (hz:∀t∈l,Tx.Szd t):Calls Tryz.prog 29 [v].toArray w (Ret (Is w (.bool (bigL l)))):=by
 have hll:=rl_len hl
 obtain ⟨A,c,xs,hv_,hcA_,hcmA_,hr,hel⟩:=hl
 obtain rfl:v=.slice A l.length c:=by cases hv_;rfl
 refine kE (l:=[_]) Tryz.func29 U U ?_
 have H:=St.start nT w
 refine kR (sAb U (ln (kQ (kR (sMs U (sLn U tu74 (sR (d_gt U U U) (ln (kC U (fun hc6=>?_) (fun hc6=>?_))))))))))
 ·have hbg:20<l.length:=by simp at hc6;omega
  refine kR (sAb U (ln (kx ?_)))
  exact qr (v:=.bool _) U U ⟨_,U,vb ((bigL_1 hbg).symm),H.under⟩
 ·have hbg:¬20<l.length:=by simp at hc6;omega
  refine kS (kQ (kR (sAi U (ln (kb (kL 7 [2,3] (fun mm sl W=>∃i:Nat,l.length - i=mm∧sl=[(3,.int .i64 (i:Int))]∧(i<=l.length)∧(∀t∈l.take i,Tx.big 20 2048 t=false)∧St nT w W []) _ _ ⟨0,U,U,Nat.zero_le _,fun t h=>by simp at h,H⟩ ⟨U,trivial⟩ (fun mm sl ρv W hJ=>?_)))))))
  clear H;obtain ⟨i,rfl,rfl,hi,hs,H⟩:=hJ
  refine ko (kQ (kR (sMi U (sMs U (sLn U tu74 (sLt U U (ln (kC U (fun hc10=>?_) (fun hc10=>?_)))))))))
  ·have hlt:i<l.length:=by simp at hc10;omega
   obtain ⟨g0,o0,rfl,-⟩:=hr.2 (by omega)
   obtain ⟨x,hx⟩:=get_lt hlt
   have hX:=hel i x hx
   obtain ⟨Ai,ci,Bi,di,hL,-,-,-⟩:=tx_of hX
   rw [hL] at hX
   refine kS (kQ (kb (kR (sMs U (sMi U (sR (dG U (H.rd hr) U U (q:=i) U hlt tu74 ts47) (sR (dN (off:=0) U (H.rd hr) hlt hL (sa (a:=txC Ai x.ins.length ci Bi x.outs.length di x.lock) (m:=3) U) U U (by omega) ta47 ts47) (sf (eI Tryz.func50 U U (bigTx (rows:=20) (bytes:=2048) _ (keeps_Tx _ _ _ _ _ hX (fun g hg _=>H.fr.block g hg (fun h=>h))) (hz x (List.mem_of_getElem? hx))) H ?_)))))))))
   clear H;intro W H
   refine ln (kC U (fun hc17=>?_) (fun hc17=>?_))
   ·have hbx:Tx.big 20 2048 x=true:=hc17
    refine kR (sAb U (ln (kx ?_)))
    exact qr (v:=.bool _) U U ⟨_,U,vb ((bigL_2 (List.mem_of_getElem? hx) hbx).symm),H.under⟩
   ·have hbx:Tx.big 20 2048 x=false:=hc17
    refine kS (kn (zE (kI U U U (by omega) U (kn (kY ?_)))))
    refine ⟨_,_,_,?_,U,?_,?_,⟨i+1,U,U,by omega,fun t h=>by
      rw [take_get hx] at h
      rcases List.mem_append.1 h with h|h
      ·exact hs t h
      ·rw [List.mem_singleton.1 h];exact hbx,H⟩⟩
    ·omega
    ·with_reducible repeat first|exact .refl|refine .f ?_ ?_ ?_;kernel_rfl;kernel_rfl|refine .u ?_ ?_;kernel_rfl
    ·refine ⟨?_,trivial⟩
     ·exact vi (by omega)
  ·obtain rfl:i=l.length:=by simp at hc10;omega
   rw [List.take_length] at hs
   refine ke (xQ (xQ ?_))
   refine xH (kR (sAb U (ln (kx ?_))))
   exact qr (v:=.bool _) U U ⟨_,U,vb ((bigL_0 hbg hs).symm),H.under⟩

theorem bigL_f {l:List DTx} (h:bigL l=false):l.length<=20∧∀t∈l,Tx.FitW t:=by
 unfold bigL at h
 rw [Bool.or_eq_false_iff] at h
 refine ⟨by have:=of_decide_eq_false h.1;omega,fun t ht=>?_⟩
 have hs:=Tx.not_big (Bool.eq_false_iff.2 (fun e=>Bool.eq_false_iff.1 h.2 (List.any_eq_true.2 ⟨t,ht,e⟩))) (by decide)
 have h1:=hs.ins;have h2:=hs.outs
 exact ⟨Tx.fits hs (by decide) (by decide),⟨⟨fun x hx=>⟨by have:=(hs.wit x hx).1;omega,fun b hb=>by have:=(hs.wit x hx).2 b hb;omega⟩,fun o ho=>by have:=hs.scr o ho;omega⟩,by omega,by omega⟩⟩
def bigP (l:List DBlock):Bool:=decide (12<l.length) || l.any (fun b=>bigL b.txs)
theorem bigP_1 {l:List DBlock} (h:12<l.length):bigP l=true:=by unfold bigP;rw [decide_eq_true h];rfl
theorem bigP_2 {l:List DBlock} {b:DBlock} (h:b∈l) (hb:bigL b.txs=true):bigP l=true:=by
 unfold bigP
 rw [List.any_eq_true.2 ⟨b,h,hb⟩,Bool.or_true]
theorem bigP_0 {l:List DBlock} (h:¬12<l.length) (hb:∀b∈l,bigL b.txs=false):bigP l=false:=by
 unfold bigP
 rw [decide_eq_false h,Bool.false_or]
 exact Bool.eq_false_iff.2 (fun e=>by
  obtain ⟨t,h1,h2⟩:=List.any_eq_true.1 e
  rw [hb t h1] at h2
  cases h2)
theorem flat_le {N K:Nat}:∀{l:List DBlock} {i:Nat},(∀b∈l,b.txs.length<=K)->(Wt.flat N l i).length<=l.length*K
 | [],_,_=>by simp [Wt.flat]
 | b::l,i,h=>by
  rw [Wt.flat,List.length_append,List.length_map,List.length_cons,Nat.succ_mul]
  have h1:=h b (.head _)
  have h2:=flat_le (N:=N) (K:=K) (l:=l) (i:=i+1) (fun x hx=>h x (.tail _ hx))
  omega
theorem bigP_f {l:List DBlock} (h:bigP l=false):l.length<=12∧(∀b∈l,b.txs.length<=20)∧∀b∈l,∀t∈b.txs,Tx.FitW t:=by
 unfold bigP at h
 rw [Bool.or_eq_false_iff] at h
 have hb:∀b∈l,bigL b.txs=false:=fun b hb=>Bool.eq_false_iff.2 (fun e=>Bool.eq_false_iff.1 h.2 (List.any_eq_true.2 ⟨b,hb,e⟩))
 exact ⟨by have:=of_decide_eq_false h.1;omega,fun b hb'=>(bigL_f (hb b hb')).1,fun b hb'=>(bigL_f (hb b hb')).2⟩

theorem big13 {S:Nat->Prop} {v:Value} {l:List DBlock} (w:World) (hl:RL 66 RBlock w S [v] l) (hz:∀b∈l,∀t∈b.txs,Tx.Szd t):Calls Tryz.prog 5 [v].toArray w (Ret (Is w (.bool (bigP l)))):=by
 have hll:=rl_len hl
 obtain ⟨A,c,xs,hv_,hcA_,hcmA_,hr,hel⟩:=hl
 obtain rfl:v=.slice A l.length c:=by cases hv_;rfl
 refine kE (l:=[_]) Tryz.func5 U U ?_
 have H:=St.start nT w
 refine kR (sAb U (ln (kQ (kR (sMs U (sLn U tu22 (sR (d_gt U U U) (ln (kC U (fun hc6=>?_) (fun hc6=>?_))))))))))
 ·have hbg:12<l.length:=by simp at hc6;omega
  refine kR (sAb U (ln (kx ?_)))
  exact qr (v:=.bool _) U U ⟨_,U,vb ((bigP_1 hbg).symm),H.under⟩
 ·have hbg:¬12<l.length:=by simp at hc6;omega
  refine kS (kQ (kR (sAi U (ln (kb (kL 7 [2,3] (fun mm sl W=>∃i:Nat,l.length - i=mm∧sl=[(3,.int .i64 (i:Int))]∧(i<=l.length)∧(∀b∈l.take i,bigL b.txs=false)∧St nT w W []) _ _ ⟨0,U,U,Nat.zero_le _,fun b h=>by simp at h,H⟩ ⟨U,trivial⟩ (fun mm sl ρv W hJ=>?_)))))))
  clear H;obtain ⟨i,rfl,rfl,hi,hs,H⟩:=hJ
  refine ko (kQ (kR (sMi U (sMs U (sLn U tu22 (sLt U U (ln (kC U (fun hc10=>?_) (fun hc10=>?_)))))))))
  ·have hlt:i<l.length:=by simp at hc10;omega
   obtain ⟨g0,o0,rfl,-⟩:=hr.2 (by omega)
   obtain ⟨b,hib⟩:=get_lt hlt
   obtain ⟨Ab,cb,hLb,hTx,hh⟩:=blk_of (hel i b hib)
   refine kS (kQ (kb (kR (sMs U (sMi U (sR (dG U (H.rd hr) U U (q:=i) U hlt tu22 ts76) (sFa U tf76_1 (sR (dE (off:=65) U (H.rd hr) hlt hLb (sub_b_txs hh) U U (by omega) ta74) (sf (eI Tryz.func29 U U (bigLP _ (keeps_L keeps_Tx _ _ _ _ _ hTx (fun g hg _=>H.fr.block g hg (fun h=>h))) (hz b (List.mem_of_getElem? hib))) H ?_))))))))))
   clear H;intro W H
   refine ln (kC U (fun hc18=>?_) (fun hc18=>?_))
   ·have hbx:bigL b.txs=true:=hc18
    refine kR (sAb U (ln (kx ?_)))
    exact qr (v:=.bool _) U U ⟨_,U,vb ((bigP_2 (List.mem_of_getElem? hib) hbx).symm),H.under⟩
   ·have hbx:bigL b.txs=false:=hc18
    refine kS (kn (zE (kI U U U (by omega) U (kn (kY ?_)))))
    refine ⟨_,_,_,?_,U,?_,?_,⟨i+1,U,U,by omega,fun y h=>by
      rw [take_get hib] at h
      rcases List.mem_append.1 h with h|h
      ·exact hs y h
      ·rw [List.mem_singleton.1 h];exact hbx,H⟩⟩
    ·omega
    ·with_reducible repeat first|exact .refl|refine .f ?_ ?_ ?_;kernel_rfl;kernel_rfl|refine .u ?_ ?_;kernel_rfl
    ·refine ⟨?_,trivial⟩
     ·exact vi (by omega)
  ·obtain rfl:i=l.length:=by simp at hc10;omega
   rw [List.take_length] at hs
   refine ke (xQ (xQ ?_))
   refine xH (kR (sAb U (ln (kx ?_))))
   exact qr (v:=.bool _) U U ⟨_,U,vb ((bigP_0 hbg hs).symm),H.under⟩

end Go.Proofs.YtjjodibkmeefpaaGreatDoor
