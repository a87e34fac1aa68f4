import Derived.Test.YtfhhfhdnhadooaaGreatDoorMBG
set_option linter.unusedVariables false
set_option linter.unusedSimpArgs false
set_option maxHeartbeats 4000000

namespace Go.Proofs.YtfhhfhdnhadooaaGreatDoor
open Go Go.RowKit
attribute [local irreducible] wpList

theorem bs_first {W:World} {S:Nat->Prop} {A:Option Addr} {n c h:Nat} {l:List UInt8} (hb:Bs W S (.slice A n c) l) (hl:l.length=n) (hh:h<=n):Bs W S (.slice A h c) (l.take h):=by
 obtain ⟨A',c',hv,h1,h2,h3⟩:=hb.op
 cases hv
 refine Bs.mk ?_ (by omega) h2
 refine ⟨by simp;omega,fun hn=>?_⟩
 obtain ⟨g,o,e1,e2,e3⟩:=h3.2 (by omega)
 refine ⟨g,o,e1,e2,fun j u hj=>e3 j u ?_⟩
 rw [List.map_take,List.getElem?_take] at hj
 split at hj
 ·exact hj
 ·cases hj
theorem pick_ltB {v:Int} {n:Nat} (hn:0<n):∃k:Nat,pick v (n:Int)=(k:Int)∧k<n:=by
 have h:0<=pick v (n:Int)∧pick v (n:Int)<n:=by
  unfold pick
  rw [if_neg (by omega)]
  exact ⟨Int.emod_nonneg _ (by omega),Int.emod_lt_of_pos _ (by omega)⟩
 exact ⟨(pick v (n:Int)).toNat,by omega,by omega⟩
theorem put_err (b:DBlock):(Bk.put BTG b).2=Bk.chk BTG b:=by
 by_cases h:Bk.chk BTG b=0
 ·rw [put_ok h,h]
 ·rw [put_bad h]
theorem len_putBk {b:DBlock} (hc:Bk.chk BTG b=0) (hb:Bk.Ok b):64<=(Bk.putB b).length∧(Bk.putB b).length<=400000:=by
 obtain ⟨-,hn,hcs,-,-⟩:=Bk.chk_of hc
 have h1:=len_encH hb.1
 have h2:=Bk.len_flat_le (f:=Bk.encT) (m:=16400) b.txs (fun t ht=>len_encT (hcs t ht) (hb.2 t ht))
 have h3:=Pk.len_int b.txs.length
 have h4:64<=(Bk.encH b.header).length:=by
  unfold Bk.encH
  rw [List.length_append,List.length_append,hb.1.1,hb.1.2.1]
  omega
 have h5:b.txs.length*16400<=16*16400:=Nat.mul_le_mul_right _ (by omega)
 unfold Bk.putB encL
 rw [List.length_append,List.length_append]
 omega

theorem blockCutB {S:Nat->Prop} {A:Option Addr} {c:Nat} {b:DBlock} (w:World) (hl:RL 3 RTx w S [.slice A b.txs.length c] b.txs) (hh:Bk.OkH b.header) (hG:Gat w 0 formsC) (hB:Old.Gl w) (hz:∀t∈b.txs,Tx.Szd t) {S1:Nat->Prop} {u:Value} {m:List UInt8} (hm:Bs w S1 u m) {ct:Int}:Calls Tryz.prog 11 [.agg (bC b.header A b.txs.length c).toArray,.int .i64 ct,u].toArray w (Ret (Is w (.bool true))):=by
 have hok:Bk.Ok b:=⟨hh,rl_txs hl⟩
 have hm0:=hm
 obtain ⟨Am,cm,rfl,hcm1,hcm2,hmr⟩:=hm.op
 have hpe:=put_err b
 refine kE (l:=[_,_,_]) Tryz.func11 U U ?_
 have H:=St.start nT w
 refine kR (sf (ebx (vs:=(bC b.header A b.txs.length c)) U U H ?_))
 clear H;intro gb W H
 refine sAb U (ln (kQ (kQ ?_)))
 rcases hbig:bigL b.txs with _|_
 ·skip
  refine kr (sFa U tf28_1 (sR (dX (g:=gb) (off:=65) U H (sub_b_txs hh) U U ta22) (sf (eI Tryz.func15 U U (bigLP _ (keeps_L keeps_Tx _ _ _ _ _ hl (fun g hg _=>H.fr.block g hg (fun h=>h))) hz) H ?_))))
  clear H;intro W H
  refine sBf U (by rw [hbig]) ?_
  refine sr (w_g U U U U) U (mv_s U U) (sr (w_g U U U U) U (d_len U U tu41) (sr (w_g U U U U) U (d_gt U U U) (sPF U U (ln (kC U (fun hc21=>?_) (fun hc21=>?_))))))
  ·skip
   refine kR (sf (eI Tryz.func14 U U (works09 _ (H.gat hG) (H.gl hB)) H ?_))
   clear H;intro W H
   refine sAb U (ln (kx ?_))
   exact qr (v:=.bool _) U U ⟨_,U,U,H.under⟩
  ·have hbl:m.length<=512:=by simp at hc21;omega
   refine kS (kR (sR (dM (g:=gb) (off:=0) U H (sa (a:=bC b.header A b.txs.length c) (lB hh)) (lB hh) U U U ta28 ts28) (sf (ecl Tryz.func12 U U (putBP _ (keeps_L keeps_Tx _ _ _ _ _ hl (fun g hg _=>H.fr.block g hg (fun h=>h))) hh (H.gat hG) (H.gl hB)) ?_))))
   rintro _ W ⟨_,rfl,A1,c1,rfl,hc1,hd1,hn⟩
   replace H:=H.new hn
   clear hn
   refine sMt U (sEx U U (sEx U U (sAs U (sAi U (ln (kQ (kR (sMi U (sNe U U (ln (kC U (fun hc29=>?_) (fun hc29=>?_))))))))))))
   ·skip
    refine kR (sf (eI Tryz.func14 U U (works09 _ (H.gat hG) (H.gl hB)) H ?_))
    clear H;intro W H
    refine sAb U (ln (kx ?_))
    exact qr (v:=.bool _) U U ⟨_,U,U,H.under⟩
   ·have hne:Bk.chk BTG b=0:=by rw [←hpe];simpa using hc29
    have hp1:(Bk.put BTG b).1=Bk.putB b:=by rw [put_ok hne]
    have hpl:=len_putBk hne hok
    rw [hp1] at H hc1 ⊢
    obtain ⟨k,hk1,hk2⟩:=pick_ltB (v:=ct) (show 0<(Bk.putB b).length by omega)
    have hg1:Bk.get BTG ((Bk.putB b).take k)=(Bk.zero,4):=Bk.get_cut hne hok hk2
    have hg2:Bk.get BTG (Bk.putB b++m)=if m=[] then (b,0) else (Bk.zero,5):=Bk.get_more hne hok m
    refine kS (kR (sMs U (sMi U (sMs U (sLn U tu41 (sf (eI Tryz.func34 U U (pick_any ct _ _ (by omega)) H ?_)))))))
    clear H;intro W H
    refine sR (d_cutP U U (h:=k) hk1 (by omega) U tu41 ts5) (sf (ecl Tryz.func29 U U (getBP _ (bs_first (h:=k) (H.rowbs (A:=A1) U) U (by omega)) (by rw [List.length_take];omega) (H.gat hG) (H.gl hB)) ?_))
    rintro _ W ⟨Sb1,Ab1,cb1,rfl,hn⟩
    replace H:=H.add1 hn
    clear hn
    refine sMt U (sEx U U (sEx U U (sf (eal (bC zHd none 0 0) tz28 H ?_))))
    clear H;intro g5 W H
    refine sf (esk (bC (Bk.get BTG ((Bk.putB b).take k)).1.header Ab1 (Bk.get BTG ((Bk.putB b).take k)).1.txs.length cb1) U U U ts28 (lB (Bk.ok_get (TG:=BTG) (b:=((Bk.putB b).take k))).1) blk_one H (by rw [lB zHd_ok];decide) (spl_all ((lB (Bk.ok_get (TG:=BTG) (b:=((Bk.putB b).take k))).1).trans (lB zHd_ok).symm)) ?_)
    clear H;intro W H
    refine sAi U (lkR (sMs U (sf (eN Tryz.func13 U U (copyBytes _ (Bk.putB b) _ (H.rowbs (A:=A1) U) (by omega)) H ?_))))
    clear H;intro A2 c2 W hc2 hd2 H
    refine sMs U (sf (eap tu41 tx5 U U U H (H.rd hmr) (all_u8L _) (by omega) U ?_))
    clear H;intro A3 c3 W hc3 hd3 H
    rw [←List.map_append] at H
    refine sf (ecl Tryz.func29 U U (getBP (b:=(Bk.putB b++m)) _ (bs_row (H.holds _ (.head _)) (by rw [List.length_append])) (by rw [List.length_append];omega) (H.gat hG) (H.gl hB)) ?_)
    rintro _ W ⟨Sb2,Ab2,cb2,rfl,hn⟩
    replace H:=H.add1 hn
    clear hn
    refine sMt U (sEx U U (sEx U U (sf (eal (bC zHd none 0 0) tz28 H ?_))))
    clear H;intro g6 W H
    refine sf (esk (bC (Bk.get BTG (Bk.putB b++m)).1.header Ab2 (Bk.get BTG (Bk.putB b++m)).1.txs.length cb2) U U U ts28 (lB (Bk.ok_get (TG:=BTG) (b:=(Bk.putB b++m))).1) blk_one H (by rw [lB zHd_ok];decide) (spl_all ((lB (Bk.ok_get (TG:=BTG) (b:=(Bk.putB b++m))).1).trans (lB zHd_ok).symm)) ?_)
    clear H;intro W H
    refine sAi U (lkR (sAi U (ln (kQ (kR (sMs U (sLn U tu41 (sEq U U (ln (kC U (fun hc51=>?_) (fun hc51=>?_)))))))))))
    ·have hm1:m=[]:=by simpa using hc51
     refine kr (sAi U (lkR (sMi U (sEq U U (sBt U (by rw [hg1];rfl) ?_)))))
     refine sr (w_g U U U U) U (mv_i U U) (sr (w_g U U U U) U (mv_i U U) (sr (w_g U U U U) U (d_eq U U U) (sPT U U (sBt U (by rw [hg2,if_pos hm1];rfl) ?_))))
     refine sf (e_call (w_g U U U U) U U Tryz.func14 U U U (works09 _ (H.gat hG) (H.gl hB)) ?_)
     rintro _ W ⟨rfl,hb⟩
     replace H:=H.below hb
     clear hb
     refine sPT U U (sAb U (ln (kx ?_)))
     exact qr (v:=.bool _) U U ⟨_,U,U,H.under⟩
    ·have hm1:¬m=[]:=by simpa using hc51
     refine kS (kR (sMi U (sEq U U (sBt U (by rw [hg1];rfl) ?_))))
     refine sr (w_g U U U U) U (mv_i U U) (sr (w_g U U U U) U (mv_i U U) (sr (w_g U U U U) U (d_eq U U U) (sPT U U (sBt U (by rw [hg2,if_neg hm1];rfl) ?_))))
     refine sf (e_call (w_g U U U U) U U Tryz.func14 U U U (works09 _ (H.gat hG) (H.gl hB)) ?_)
     rintro _ W ⟨rfl,hb⟩
     replace H:=H.below hb
     clear hb
     refine sPT U U (sAb U (ln (kx ?_)))
     exact qr (v:=.bool _) U U ⟨_,U,U,H.under⟩
 ·skip
  refine kr (sFa U tf28_1 (sR (dX (g:=gb) (off:=65) U H (sub_b_txs hh) U U ta22) (sf (eI Tryz.func15 U U (bigLP _ (keeps_L keeps_Tx _ _ _ _ _ hl (fun g hg _=>H.fr.block g hg (fun h=>h))) hz) H ?_))))
  clear H;intro W H
  refine sBt U (by rw [hbig]) ?_
  refine sK (wO U U U U U) U (sK (wO U U U U U) U (sK (wO U U U U U) U (sPT U U (ln (kT U U (kR (sf (eI Tryz.func14 U U (works09 _ (H.gat hG) (H.gl hB)) H ?_))))))))
  clear H;intro W H
  refine sAb U (ln (kx ?_))
  exact qr (v:=.bool _) U U ⟨_,U,U,H.under⟩

end Go.Proofs.YtfhhfhdnhadooaaGreatDoor
