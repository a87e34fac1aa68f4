import Derived.Test.YtfhhfhdnhadooaaGreatDoorMBL
import Derived.Test.YtfhhfhdnhadooaaGreatDoorMX
set_option linter.unusedVariables false
set_option linter.unusedSimpArgs false
set_option maxHeartbeats 4000000

namespace Go.Proofs.YtfhhfhdnhadooaaGreatDoor
open Go Go.RowKit
attribute [local irreducible] wpList

section
variable {P:Program} {fn:Func} {R:Ending->World->Prop} {n:Nat} {ρ:Nat->Value} {w0 W:World} {T:Nat->Prop} {L:List Fact} {t t':TypeId} {g:Nat} {p:Tmp} {v:Value}
theorem q_retc1 (hr:fn.results=#[.cell p t]) (H:St T w0 W L) (hx:ev n ρ (.tmp p)=.pointer (some ⟨g,0,none⟩)) (ha:aggB P t=some false) [hb:Blk g L [v] t'] (h:R (.returned v) W):bodyPost P fn R .ret (st n ρ []) W :=
 ⟨rfl,v,run_resc hr (by rw [st_getD];exact hx) (loads1 ha H.blk),h⟩
end
theorem fp_nil {B:Nat}:∀f∈([]:List Fact),∀g,f.fp g->g<B:=fun _ h=>by cases h
theorem fp_cons {B:Nat} {f:Fact} {L:List Fact} (h:∀g,f.fp g->g<B) (k:∀f∈L,∀g,f.fp g->g<B):∀f'∈f::L,∀g,f'.fp g->g<B:=fun f' hf=>by
 rcases List.mem_cons.1 hf with rfl|hf
 ·exact h
 ·exact k f' hf
theorem fp_eq {B a:Nat} (h:a<B):∀g,g=a->g<B:=fun g e=>by subst e;exact h
theorem mp_lt {P:Program} {k:TypeId} {T:Nat->Prop} {w0 W:World} {L:List Fact} {g:Nat} {ks:List Value} (H:St T w0 W L) [h:In (Fact.mp P k g ks) L]:g<W.heap.size:=by
 obtain ⟨es,c,h1,_⟩:=H.get (f:=Fact.mp P k g ks)
 exact obj_lt h1
theorem klawH:Go.WideMaps.KeyLaw Tryz.prog 24:=deep_law (m:=4) (by decide) (by kernel_rfl) (by kernel_rfl) (by rw [Tryz.underlying24])
theorem key_hash {h:List UInt8} (hl:h.length=32):∃l,keyOf Tryz.prog 24 (.agg (h.map u8v).toArray)=some l:=by
 have hf:(Value.agg (h.map u8v).toArray).formed Tryz.prog 24=true:=by
  unfold Value.formed
  rw [Tryz.underlying24]
  show ((h.map u8v).toArray.size == Tryz.prog.cellsOf 24)=true
  rw [ce24,List.size_toArray,List.length_map,hl];rfl
 have hk:Tryz.prog.keyType 24=true:=by kernel_rfl
 obtain ⟨d,hd⟩:∃d,Tryz.prog.types.size=d+2:=⟨Tryz.prog.types.size - 2,by have:2<=Tryz.prog.types.size:=Nat.le_of_ble_eq_true (by kernel_rfl);omega⟩
 obtain ⟨ls,hl2⟩:=key_a (d:=d+1) tu24 tu5 ce5 ce24 hl
 refine ⟨.string (keyBytes ls),?_⟩
 unfold keyOf
 rw [Tryz.underlying24]
 simp only [hk,hf,Bool.and_self,if_true,hd]
 have e:(Value.agg (h.map u8v).toArray).cells.toList=h.map u8v:=rfl
 rw [e,hl2];rfl
theorem zint (u:World):(zeroValue 3).run Tryz.prog u=.ok (.int .i64 0) u:=by
 have h:(Tryz.prog.info? 3).bind (·.zero)=some (.int .i64 0):=by kernel_rfl
 obtain ⟨i,hi,hz⟩:=Option.bind_eq_some_iff.1 h
 simp [zeroValue,typeInfo,hi,hz,go_sem]
def hashV (h:H32):Value:=.agg (h.1.map u8v).toArray
theorem hashV_inj {a b:H32} (h:hashV a=hashV b):a=b:=by
 have e:a.1.map u8v=b.1.map u8v:=by
  unfold hashV at h
  injection h with h
  exact List.toArray_inj h
 exact Subtype.ext (u8v_inj e)
theorem mem_hv {x:H32} {l:List H32}:hashV x∈l.map hashV↔x∈l:=by
 constructor
 ·intro h
  obtain ⟨y,hy,e⟩:=List.mem_map.1 h
  exact hashV_inj e ▸ hy
 ·exact fun h=>List.mem_map_of_mem h
namespace Bk
theorem twice_nodup:∀{l:List (List UInt8)},twice l=false↔l.Nodup
 | []=>by simp [twice]
 | x::l=>by
  rw [twice,Bool.or_eq_false_iff,twice_nodup,List.nodup_cons]
  refine and_congr_left' ?_
  rw [Bool.eq_false_iff,Ne,List.any_eq_true]
  constructor
  ·exact fun h hx=>h ⟨x,hx,by simp⟩
  ·rintro h ⟨y,hy,e⟩
   obtain rfl:y=x:=by simpa using e
   exact h hy
theorem first_at:∀{l:List DTx} {i:Nat} {t:DTx},firstErr (l.take i)=0->l[i]?=some t->Tx.chk t≠0->firstErr l=Tx.chk t
 | [],i,t,_,h,_=>by simp at h
 | x::l,0,t,_,h,ht=>by
  obtain rfl:x=t:=by simpa using h
  rw [firstErr,if_pos ht]
 | x::l,i+1,t,h0,h,ht=>by
  rw [List.take_succ_cons,firstErr] at h0
  rw [firstErr]
  by_cases hx:Tx.chk x≠0
  ·rw [if_pos hx] at h0;exact absurd h0 hx
  ·rw [if_neg hx] at h0 ⊢
   exact first_at h0 (by simpa using h) ht
theorem first_snoc:∀{l:List DTx} {t:DTx},firstErr l=0->Tx.chk t=0->firstErr (l++[t])=0
 | [],t,_,ht=>by simp [firstErr,ht]
 | x::l,t,h,ht=>by
  rw [firstErr] at h
  rw [List.cons_append,firstErr]
  by_cases hx:Tx.chk x≠0
  ·rw [if_pos hx] at h;exact absurd h hx
  ·rw [if_neg hx] at h ⊢
   exact first_snoc h ht
end Bk
abbrev digs (l:List DTx):List H32:=l.map digA
theorem digs_tagged (l:List DTx):(digs l).map (·.1)=l.map (Bk.tagged BTG Bk.tTx):=by
 rw [List.map_map];rfl
theorem rootB_tx (l:List DTx):Bk.rootTx BTG l=rootB l:=by
 unfold Bk.rootTx rootB
 rw [digs_tagged l]
theorem twice_digs {l:List DTx}:Bk.twice (l.map (Bk.tagged BTG Bk.tTx))=false↔(digs l).Nodup:=by
 rw [←digs_tagged,Bk.twice_nodup]
 unfold List.Nodup
 rw [List.pairwise_map]
 exact ⟨fun h=>h.imp (fun hab e=>hab (by rw [e])),fun h=>h.imp (fun hab e=>hab (Subtype.ext e))⟩
theorem chk_1 {b:DBlock} (h:b.header.nonce<0∨1073741824<b.header.nonce):Bk.chk BTG b=1:=by unfold Bk.chk;rw [if_pos h]
section
variable {b:DBlock} (h1:¬(b.header.nonce<0∨1073741824<b.header.nonce))
include h1
theorem chk_3 (h:16<b.txs.length):Bk.chk BTG b=3:=by unfold Bk.chk;rw [if_neg h1,if_pos h]
variable (h2:¬16<b.txs.length)
include h2
theorem chk_e (h:Bk.firstErr b.txs≠0):Bk.chk BTG b=Bk.firstErr b.txs:=by unfold Bk.chk;rw [if_neg h1,if_neg h2,if_pos h]
variable (h3:Bk.firstErr b.txs=0)
include h3
theorem chk_13 (h:¬(digs b.txs).Nodup):Bk.chk BTG b=13:=by
 unfold Bk.chk
 rw [if_neg h1,if_neg h2,if_neg (by rw [h3];exact fun e=>e rfl),if_pos (by rw [←Bool.not_eq_false];exact fun e=>h (twice_digs.1 e))]
variable (h4:(digs b.txs).Nodup)
include h4
theorem chk_6 (h:rootB b.txs≠b.header.root):Bk.chk BTG b=6:=by
 unfold Bk.chk
 rw [if_neg h1,if_neg h2,if_neg (by rw [h3];exact fun e=>e rfl),if_neg (by rw [twice_digs.2 h4];exact fun e=>by cases e),if_pos (by rw [rootB_tx];simpa using h)]
theorem chk_0 (h:rootB b.txs=b.header.root):Bk.chk BTG b=0:=by
 unfold Bk.chk
 rw [if_neg h1,if_neg h2,if_neg (by rw [h3];exact fun e=>e rfl),if_neg (by rw [twice_digs.2 h4];exact fun e=>by cases e),if_neg (by rw [rootB_tx];simpa using h)]
end

theorem checkBP {S:Nat->Prop} {A:Option Addr} {c:Nat} {b:DBlock} (w:World) (hl:RL 3 RTx w S [.slice A b.txs.length c] b.txs) (hh:Bk.OkH b.header) (hG:Gat w 0 formsC) (hB:Old.Gl w):Calls Tryz.prog 18 [.agg (bC b.header A b.txs.length c).toArray].toArray w (Ret (Is w (.int .i64 (Bk.chk BTG b)))):=by
 have hl0:=hl
 obtain ⟨A_,c_,xs,hv_,_,_,hr,hel⟩:=hl0
 cases hv_
 refine k_enterM (l:=[_]) Tryz.func18 U U ?_
 have H:=St.start nT w
 refine kR (sf (ebx (vs:=(bC b.header A b.txs.length c)) U U H ?_))
 clear H;intro gb W H
 refine sf (eal [.int .i64 0] tz42 H ?_)
 clear H;intro ge W H
 refine ln (kQ (kb (kQ ?_)))
 rcases Decidable.em (b.header.nonce<0) with hn0|hn0
 ·skip
  refine kr (sFa U tf28_0 (sFa U tf26_2 (sR (dX (g:=gb) (off:=64) U H (sub_b_nonce hh) U U ta3) (sLt U U (sBt U (by first|exact decide_eq_true hn0|exact decide_eq_false hn0) ?_)))))
  refine sK (wO U U U U U) U (sK (wO U U U U U) U (sK (wO U U U U U) U (sK (wO U U U U U) U (sPT U U (sAb U (ln (kT U U (kR ?_))))))))
  refine sf (e_sto (wn U) U U U U U ts42 U H U ?_)
  clear H;intro W H
  refine ln (kx ?_)
  rw [chk_1 (.inl hn0)]
  exact q_M0 (q_retc1 U H U ta42 ⟨_,U,U,H.under⟩)
 ·skip
  refine kr (sFa U tf28_0 (sFa U tf26_2 (sR (dX (g:=gb) (off:=64) U H (sub_b_nonce hh) U U ta3) (sLt U U (sBf U (by first|exact decide_eq_true hn0|exact decide_eq_false hn0) ?_)))))
  refine sr (w_g U U U U) U (dF U U tf28_0) (sr (w_g U U U U) U (dF U U tf26_2) (sr (w_g U U U U) U (dX (g:=gb) (off:=64) U H (sub_b_nonce hh) U U ta3) (sr (w_g U U U U) U (d_gt U U U) (sPF U U (sAb U (ln (kC U (fun hc8=>?_) (fun hc8=>?_))))))))
  ·replace hc8:1073741824<b.header.nonce:=by simpa using hc8
   refine kR ?_
   refine sf (e_sto (wn U) U U U U U ts42 U H U ?_)
   clear H;intro W H
   refine ln (kx ?_)
   rw [chk_1 (.inr hc8)]
   exact q_M0 (q_retc1 U H U ta42 ⟨_,U,U,H.under⟩)
  ·have h1:¬(b.header.nonce<0∨1073741824<b.header.nonce):=by simp at hc8;omega
   refine kR (sFa U tf28_1 (sR (dX (g:=gb) (off:=65) U H (sub_b_txs hh) U U ta22) (sLn U tu22 (sR (d_gt U U U) (sAb U (ln (kC U (fun hc19=>?_) (fun hc19=>?_))))))))
   ·replace hc19:16<b.txs.length:=by simp at hc19;omega
    refine kR ?_
    refine sf (e_sto (wn U) U U U U U ts42 U H U ?_)
    clear H;intro W H
    refine ln (kx ?_)
    rw [chk_3 h1 hc19]
    exact q_M0 (q_retc1 U H U ta42 ⟨_,U,U,H.under⟩)
   ·have h2:¬16<b.txs.length:=by simp at hc19;omega
    refine kS (kn (zE (kQ (kR (sFa U tf28_1 (sR (dX (g:=gb) (off:=65) U H (sub_b_txs hh) U U ta22) (sLn U tu22 (sMi U (ln (kb (kL 27 [4,5] (fun mm sl W=>∃i:Nat,b.txs.length - i=mm∧sl=[(27,.int .i64 (i:Int))]∧(i<=b.txs.length)∧(Bk.firstErr (b.txs.take i)=0)∧St nT w W [Fact.blk ge [.int .i64 0] 42,Fact.blk gb (bC b.header A b.txs.length c) 28]) _ _ ⟨0,U,U,Nat.zero_le _,U,H⟩ ⟨U,trivial⟩ (fun mm sl ρv W hJ=>?_))))))))))))
    clear H;obtain ⟨i,rfl,rfl,hi,he,H⟩:=hJ
    refine ko (kR (sLt U U (ln (kQ (kC U (fun hc28=>?_) (fun hc28=>?_))))))
    ·have hlt:i<b.txs.length:=by simp at hc28;omega
     obtain ⟨g0,o0,rfl,-⟩:=hr.2 (by omega)
     obtain ⟨t,ht⟩:=get_lt hlt
     have hRt:=hel i t ht
     obtain ⟨Ai,ci,Bi,di,hL,-,-,-⟩:=tx_of hRt
     rw [hL] at hRt
     refine kS (kQ (kb (kR (sR (dG U (H.rd hr) U U (q:=i) U hlt tu22 ts34) (sR (dN (off:=0) U (H.rd hr) hlt hL (sa (a:=txC Ai t.ins.length ci Bi t.outs.length di t.lock) (m:=3) U) U U (by omega) ta34 ts34) (sf (eal [.slice none 0 0,.slice none 0 0,.int .i64 0] tz34 H ?_)))))))
     clear H;intro gx W H
     refine sf (esk (txC Ai t.ins.length ci Bi t.outs.length di t.lock) U U U ts34 U U H (by decide) U ?_)
     clear H;intro W H
     refine lkR (sR (dM (g:=gx) (off:=0) U H (sa (a:=txC Ai t.ins.length ci Bi t.outs.length di t.lock) (m:=3) U) U U U U ta34 ts34) (sf (eI Tryz.func49 U U (checkTP _ (keeps_Tx _ _ _ _ _ hRt (fun g hg _=>H.fr.block g hg (fun h=>h)))) H ?_)))
     clear H;intro W H
     refine sAi U (lkR (sMi U (sNe U U (ln (kC U (fun hc34=>?_) (fun hc34=>?_))))))
     ·have hce:Tx.chk t≠0:=by simpa using hc34
      refine kR (sMi U ?_)
      refine sf (e_sto (wn U) U U U U U ts42 U H U ?_)
      clear H;intro W H
      refine ln (kx ?_)
      rw [chk_e h1 h2 (by rw [Bk.first_at he ht hce];exact hce),Bk.first_at he ht hce]
      exact q_M0 (q_retc1 U H U ta42 ⟨_,U,U,H.under⟩)
     ·have hce:Tx.chk t=0:=by simpa using hc34
      refine kS (kn (zE (kr (sAd U U (by omega) (sMi U (ln (kn (kY ?_))))))))
      refine ⟨_,_,_,?_,U,?_,?_,⟨i+1,U,U,by omega,by rw [take_get ht];exact Bk.first_snoc he hce,H.drop⟩⟩
      ·omega
      ·with_reducible repeat first|exact .refl|refine .f ?_ ?_ ?_;kernel_rfl;kernel_rfl|refine .u ?_ ?_;kernel_rfl
      ·refine ⟨?_,trivial⟩
       ·exact vi (by omega)
    ·obtain rfl:i=b.txs.length:=by simp at hc28;omega
     rw [List.take_length] at he
     refine ke (xt (xt ?_))
     refine xH (kR (sf (e_mkmap (k:=24) (wn U) U U H ?_)))
     clear H;intro gp W H
     refine sf (eal [.map none] (by kernel_rfl) H ?_)
     clear H;intro gm W H
     refine sf (e_sto (wn U) U U U U U ts79 U H U ?_)
     clear H;intro W H
     refine ln (kQ (kR (sFa U tf28_1 (sR (dX (g:=gb) (off:=65) U H (sub_b_txs hh) U U ta22) (sf (ecl Tryz.func50 U U (idsP _) ?_))))))
     rintro _ W ⟨q,rfl,hn1⟩
     replace H:=H.new hn1
     clear hn1
     refine ln (kb ?_)
     have hq:=gatb (H.blk (g:=q))
     have hQ:=blk_lt (H.blk (g:=q))
     have hGm:=blk_lt (H.blk (g:=gm))
     have hGe:=blk_lt (H.blk (g:=ge))
     have hGb:=blk_lt (H.blk (g:=gb))
     have hGp:=mp_lt (P:=Tryz.prog) (k:=24) (g:=gp) (ks:=[]) H
     refine k_rangeB (α:=H32) (β:=Unit) [Fact.blk q [.slice A b.txs.length c] 22] (fun pre _=>[Fact.blk gm [.map (some gp)] 79,Fact.mp Tryz.prog 24 gp (pre.map hashV),Fact.blk ge [.int .i64 0] 42,Fact.blk gb (bC b.header A b.txs.length c) 28]) (fun pre _=>pre.Nodup) (fun _ (_:Unit)=>[Fact.blk ge [.int .i64 13] 42]) (fun pre _=>∃p x,pre=p++[x]∧x∈p) Sn0 (fun x=>x.1.map u8v) 24 (fun ρ x=>upd ρ 41 (.agg (x.1.map u8v).toArray)) (fun ρ x g=>upd (upd ρ 41 (.agg (x.1.map u8v).toArray)) 7 (.pointer (some ⟨g,0,none⟩))) () U Tryz.func101 U U (ids_stops (K0:=(·=q)) w W H.under hq (.inl U) (fun g hg=>by subst hg;exact hQ) hl hG hB) (fun _=>U) (fun _=>ra_one) H List.nodup_nil (fun g hg=>⟨_,.head _,hg⟩) snap0 (fun pre z W1 hC H1=>s1_const (fp_cons (fp_eq hGm) (fp_cons (fp_eq hGp) (fp_cons (fp_eq hGe) (fp_cons (fp_eq hGb) fp_nil))))) (fun pre z W1 hC H1 f hf g hg=>.inl (fp_cons (fp_eq hGe) fp_nil f hf g hg)) ?_ ?_ ?_ ?_
     ·intro l x W1
      clear H
      have H:=St.start nT W1
      refine y_region (r_eff (fun _=>trivial) (fun c h=>by cases h) (e_alloc (wn U) U U (List.replicate 32 (u8v 0)) tz24 H ?_))
      clear H;intro gx W H
      refine r_eff (fun _=>trivial) (fun c h=>by cases h) (e_stoK (x.1.map u8v) (wn U) U U U U U ts24 (by rw [List.length_map];exact x.2) (all_u8L _) H (by decide) (spl_all (by rw [List.length_map,List.length_replicate];exact x.2)) ?_)
      clear H;intro W H
      refine ry_nil (y_nil (round_a ?_))
      exact ⟨gx,U,H.under,(H.own _ (.head _) gx U).1.resolve_left (fun h=>h),H.blk⟩
     ·rintro l_ pre x ⟨⟩ gx W1 T1 hC hlen hpast H
      replace H:St T1 W1 W1 (Fact.blk gx (x.1.map u8v) 24::[Fact.blk gm [.map (some gp)] 79,Fact.mp Tryz.prog 24 gp (pre.map hashV),Fact.blk ge [.int .i64 0] 42,Fact.blk gb (bC b.header A b.txs.length c) 28]):=H
      refine y_block (y_seq (y_seq (y_region (rX (fun _=>trivial) (fun c h=>by cases h) (wn U) U (d_ld U H U ta79 U) ?_))))
      refine rX (fun _=>trivial) (fun c h=>by cases h) (wn U) U (d_ldm0 (g:=gx) U H U ta24 ts24 (by rw [List.length_map];exact x.2)) ?_
      refine rX (fun _=>trivial) (fun c h=>by cases h) (wn U) U (d_mapat (e:=3) (k:=24) (g:=gp) (ks:=pre.map hashV) (key:=hashV x) klawH U (by kernel_rfl) U U zint (key_hash x.2) H) ?_
      refine rX (fun _=>trivial) (fun c h=>by cases h) (wn U) U (d_gt U U U) ?_
      refine ry_nil (y_cond U (fun hc45=>?_) (fun hc45=>?_))
      ·have hin:x∈pre:=by
        refine Decidable.byContradiction (fun hno=>?_)
        unfold atV at hc45
        rw [if_neg (fun h=>hno (mem_hv.1 h))] at hc45
        simp at hc45
       refine y_seq (y_region (r_eff (fun _=>trivial) (fun c h=>by cases h) (e_sto (wn U) U U U U U ts42 U H U ?_)))
       clear H;intro W H
       refine ry_nil (y_ret ?_)
       repeat (first|refine r_then ?_|refine r_blk ?_)
       refine round_r ?_
       exact ⟨(),⟨pre,x,U,hin⟩,H.sub (L':=[_]) (by repeat (first|exact .refl _|exact List.nil_sublist _|refine .cons_cons _ ?_|refine .cons _ ?_))⟩
      ·have hin:x ∉ pre:=fun h=>by
        unfold atV at hc45
        rw [if_pos (mem_hv.2 h)] at hc45
        simp at hc45
       refine y_skip (y_region (rX (fun _=>trivial) (fun c h=>by cases h) (wn U) U (d_ld U H U ta79 U) ?_))
       refine rX (fun _=>trivial) (fun c h=>by cases h) (wn U) U (d_ldm0 (g:=gx) U H U ta24 ts24 (by rw [List.length_map];exact x.2)) ?_
       refine r_eff (fun _=>trivial) (fun c h=>by cases h) (e_mapup (e:=3) (k:=24) (g:=gp) (ks:=pre.map hashV) (key:=hashV x) klawH (wn U) U U (by kernel_rfl) U U U (key_hash x.2) H ?_)
       clear H;intro W H
       refine ry_nil (y_nil (yb_end (y_nil (round_n ?_))))
       refine ⟨(),List.nodup_append.2 ⟨hC,by simp,fun a ha c hc=>by rw [List.mem_singleton.1 hc];exact fun e=>hin (e ▸ ha)⟩,?_⟩
       show St T1 W1 W [Fact.blk gm [.map (some gp)] 79,Fact.mp Tryz.prog 24 gp ((pre++[x]).map hashV),Fact.blk ge [.int .i64 0] 42,Fact.blk gb (bC b.header A b.txs.length c) 28]
       rw [putV_new (fun h=>hin (mem_hv.1 h))] at H
       rw [List.map_append]
       exact H.sub (L':=[_,_,_,_]) (by repeat (first|exact .refl _|exact List.nil_sublist _|refine .cons_cons _ ?_|refine .cons _ ?_))
     ·rintro D xs ⟨⟩ W hS hC H
      subst hS
      replace H:St nT w W (Fact.obj D (.deferred (some []))::[Fact.blk gm [.map (some gp)] 79,Fact.mp Tryz.prog 24 gp ((digs b.txs).map hashV),Fact.blk ge [.int .i64 0] 42,Fact.blk gb (bC b.header A b.txs.length c) 28]):=H
      refine kn (zE (kQ (kQ (k_draw [(0,true),(1,true),(3,true),(4,true),(5,true),(2,false),(6,true)] _ (by kernel_rfl) (by kernel_rfl) H (.refl _) ?_))))
      clear H;intro W H
      refine cFa U U tf28_1 (cR U (fun W H=>dX (g:=gb) (off:=65) U H (sub_b_txs hh) U U ta22) (cFa U U tf28_0 (cFa U U tf26_1 (cR U (fun W H=>dM (g:=gb) (off:=32) U H (sub_b_root hh) (by rw [List.length_map];exact hh.2.1) U U U ta24 ts24) ?_))))
      refine cf U (eI Tryz.func20 U U (rootP _ (keeps_L keeps_Tx _ _ _ _ _ hl (fun g hg _=>H.fr.block g hg (fun h=>h))) (H.gat hG) (H.gl hB) (by omega)) H ?_)
      clear H;intro W H
      refine ⟨H.sb,?_⟩
      refine cR U (fun W H=>d_nearr U U U tu24 tu5 ts5 (len_rootB _) hh.2.1 (by kernel_rfl)) ?_
      refine c_nil (kC U (fun hc54=>?_) (fun hc54=>?_))
      ·have hne:rootB b.txs≠b.header.root:=by simpa using hc54
       refine kR ?_
       refine sf (e_sto (wn U) U U U U U ts42 U H U ?_)
       clear H;intro W H
       refine ln (kx ?_)
       rw [chk_6 h1 h2 he hC hne]
       refine q_M1 H (fun W H=>?_)
       exact q_retc1 U H U ta42 ⟨_,U,U,H.under⟩
      ·have hne:rootB b.txs=b.header.root:=by simpa using hc54
       refine kS (kR ?_)
       refine sf (e_sto (wn U) U U U U U ts42 U H U ?_)
       clear H;intro W H
       refine ln (kx ?_)
       rw [chk_0 h1 h2 he hC hne]
       refine q_M1 H (fun W H=>?_)
       exact q_retc1 U H U ta42 ⟨_,U,U,H.under⟩
     ·rintro D pre z W ⟨k,hk,rfl⟩ ⟨p,x,hpx,hm⟩ H
      have hnd:¬(digs b.txs).Nodup:=fun h=>by
       have h9:=(List.take_sublist k b.txs).map digA |>.nodup h
       rw [hpx] at h9
       exact (List.nodup_append.1 h9).2.2 x hm x (List.mem_singleton.2 U) U
      replace H:St nT w W [Fact.obj D (.deferred (some [])),Fact.blk ge [.int .i64 13] 42]:=H
      rw [chk_13 h1 h2 he hnd]
      refine q_M1 H (fun W H=>?_)
      exact q_retc1 U H U ta42 ⟨_,U,U,H.under⟩

theorem len_encT {t:DTx} (hc:Tx.chk t=0) (ht:Tx.Ok t):(Bk.encT t).length<=16400:=by
 have h1:=Bk.len_put hc ht
 have h2:=Pk.len_int (Tx.putB t).length
 unfold Bk.encT Pk.blob
 rw [List.length_append]
 omega
theorem put_bad {b:DBlock} (h:Bk.chk BTG b≠0):Bk.put BTG b=([],Bk.chk BTG b):=by unfold Bk.put;rw [if_pos h]
theorem put_ok {b:DBlock} (h:Bk.chk BTG b=0):Bk.put BTG b=(Bk.putB b,0):=by unfold Bk.put;rw [if_neg (fun e=>e h)]

theorem putBP {S:Nat->Prop} {A:Option Addr} {c:Nat} {b:DBlock} (w:World) (hl:RL 3 RTx w S [.slice A b.txs.length c] b.txs) (hh:Bk.OkH b.header) (hG:Gat w 0 formsC) (hB:Old.Gl w):Calls Tryz.prog 12 [.agg (bC b.header A b.txs.length c).toArray].toArray w (Ret (fun v' w'=>∃x,v'=.tuple #[x,.int .i64 (Bk.put BTG b).2]∧NewB 5 w (Bk.put BTG b).1 x w')):=by
 have hl0:=hl
 obtain ⟨A_,c_,xs,hv_,_,_,hr,hel⟩:=hl0
 cases hv_
 have htx:=rl_txs hl
 refine kE (l:=[_]) Tryz.func12 U U ?_
 have H:=St.start nT w
 have hlh:=len_encH hh
 refine kR (sf (ebx (vs:=(bC b.header A b.txs.length c)) U U H ?_))
 clear H;intro gb W H
 refine sAs U (sAi U (ln (kQ (kR (sR (dM (g:=gb) (off:=0) U H (sa (lB hh)) (lB hh) U U U ta28 ts28) (sf (eI Tryz.func18 U U (checkBP _ (keeps_L keeps_Tx _ _ _ _ _ hl (fun g hg _=>H.fr.block g hg (fun h=>h))) hh (H.gat hG) (H.gl hB)) H ?_)))))))
 clear H;intro W H
 refine sAi U (lkR (sMi U (sNe U U (ln (kC U (fun hc13=>?_) (fun hc13=>?_))))))
 ·have hne:Bk.chk BTG b≠0:=by simpa using hc13
  rw [put_bad hne]
  refine kR (sMi U (sAs U (sAi U (ln (kx ?_)))))
  replace H:=H.nilrow 5 1
  exact q_ret2 (v:=.slice _ _ _) (x:=.int _ _) U U U ⟨_,U,_,U,H.newB (l:=[]) U U (Nat.le_refl _) (by omega)⟩
 ·have hne:Bk.chk BTG b=0:=by simpa using hc13
  rw [put_ok hne]
  obtain ⟨-,hn16,hcs,-,-⟩:=Bk.chk_of hne
  refine kS (kQ (k_draw [(0,true),(1,true),(3,true),(4,true),(5,true),(2,false),(6,false),(7,true)] [Fact.blk gb (bC b.header A b.txs.length c) 28] (by kernel_rfl) (by kernel_rfl) H (.refl _) ?_))
  clear H;intro W H
  refine cFa U U tf28_0 (cR U (fun W H=>dM (g:=gb) (off:=0) U H (sub_b_hdr hh) (len_hdr hh) U U U ta26 ts26) (cFa U U tf28_1 (cR U (fun W H=>dX (g:=gb) (off:=65) U H (sub_b_txs hh) U U ta22) (cR U (fun W H=>d_len U U tu22) (cf U (eN Tryz.func40 U U (headP _ (H.gat hG) hh) H ?_))))))
  clear H;intro A1 c1 W hc1 hd1 H
  refine ⟨H.sb,?_⟩
  refine cf U (eN Tryz.func37 U U (packInt (b:=Bk.encH b.header) (b.txs.length:Int) _ (H.gat hG) (H.rowbs (A:=A1) U) (by omega) (by omega)) H ?_)
  clear H;intro A2 c2 W hc2 hd2 H
  have e0:Bk.encH b.header++Pk.int (Pk.toU (b.txs.length:Int))=(Bk.encH b.header++Pk.int b.txs.length++((b.txs.take 0).map Bk.encT).flatten):=by rw [toU_cast' (by omega)];simp
  rw [e0] at hc2 H
  refine ⟨H.sb,?_⟩
  refine cAs U U (c_nil (kQ (kR (sFa U tf28_1 (sR (dX (g:=gb) (off:=65) U H (sub_b_txs hh) U U ta22) (sLn U tu22 (sMi U (ln (kb (kL 25 [5,7,8,9] (fun mm sl W=>∃i:Nat,∃A2:Option Addr,∃d2:Nat,b.txs.length - i=mm∧sl=[(25,.int .i64 (i:Int)),(5,.slice A2 (Bk.encH b.header++Pk.int b.txs.length++((b.txs.take i).map Bk.encT).flatten).length d2)]∧(i<=b.txs.length)∧((Bk.encH b.header++Pk.int b.txs.length++((b.txs.take i).map Bk.encT).flatten).length<=d2∧d2<=9223372036854775807)∧St nT w W [Fact.row 5 1 (.slice A2 (Bk.encH b.header++Pk.int b.txs.length++((b.txs.take i).map Bk.encT).flatten).length d2) (Bk.encH b.header++Pk.int b.txs.length++((b.txs.take i).map Bk.encT).flatten).length ((Bk.encH b.header++Pk.int b.txs.length++((b.txs.take i).map Bk.encT).flatten).map u8v)]) _ _ ⟨0,A2,c2,U,U,Nat.zero_le _,⟨hc2,hd2⟩,H.sub (L':=[_]) (by repeat (first|exact .refl _|exact List.nil_sublist _|refine .cons_cons _ ?_|refine .cons _ ?_))⟩ ⟨U,sl_eq (by rw [←e0]),trivial⟩ (fun mm sl ρv W hJ=>?_)))))))))))
  clear H;obtain ⟨i,A2,d2,rfl,rfl,hi,hd,H⟩:=hJ
  refine ko (kR (sLt U U (ln (kQ (kC U (fun hc26=>?_) (fun hc26=>?_))))))
  ·have hlt:i<b.txs.length:=by simp at hc26;omega
   obtain ⟨g0,o0,rfl,-⟩:=hr.2 (by omega)
   obtain ⟨t,ht⟩:=get_lt hlt
   have hRt:=hel i t ht
   obtain ⟨Ai,ci,Bi,di,hL,-,-,-⟩:=tx_of hRt
   rw [hL] at hRt
   have htm:=List.mem_of_getElem? ht
   have hct:=hcs t htm
   have hlp:=Bk.len_put hct (htx t htm)
   have hpt:Tx.put t=Tx.putB t:=by unfold Tx.put;rw [if_pos hct]
   have hfl:=len_take_flat (f:=Bk.encT) (k:=16400) (fun y hy=>len_encT (hcs y hy) (htx y hy)) hi
   have hqi:=Pk.len_int b.txs.length
   have hA:(Bk.encH b.header++Pk.int b.txs.length++((b.txs.take i).map Bk.encT).flatten).length<=1000000:=by rw [List.length_append,List.length_append];omega
   refine kS (kQ (kb (kR (sR (dG U (H.rd hr) U U (q:=i) U hlt tu22 ts34) (sR (dN (off:=0) U (H.rd hr) hlt hL (sa (a:=txC Ai t.ins.length ci Bi t.outs.length di t.lock) (m:=3) U) U U (by omega) ta34 ts34) (sf (eal [.slice none 0 0,.slice none 0 0,.int .i64 0] tz34 H ?_)))))))
   clear H;intro gx W H
   refine sf (esk (txC Ai t.ins.length ci Bi t.outs.length di t.lock) U U U ts34 U U H (by decide) U ?_)
   clear H;intro W H
   refine lkR (sR (dM (g:=gx) (off:=0) U H (sa (a:=txC Ai t.ins.length ci Bi t.outs.length di t.lock) (m:=3) U) U U U U ta34 ts34) (sf (ecl Tryz.func41 U U (putTP _ (keeps_Tx _ _ _ _ _ hRt (fun g hg _=>H.fr.block g hg (fun h=>h))) (H.gat hG)) ?_)))
   rintro _ W ⟨_,rfl,A6,c6,rfl,hc6,hd6,hn⟩
   replace H:=H.new hn
   clear hn
   rw [hpt] at hc6 H ⊢
   skip
   refine sMt U (sEx U U (sEx U U (sAs U (sAi U (ln (kr (sMs U (sMs U (sf (eN Tryz.func42 U U (packBlob (b:=(Bk.encH b.header++Pk.int b.txs.length++((b.txs.take i).map Bk.encT).flatten)) (p:=Tx.putB t) _ (H.gat hG) (H.rowbs (A:=A2) U) (by omega) (H.rowbs (A:=A6) U) (by omega)) H ?_))))))))))
   clear H;intro A7 c7 W hc7 hd7 H
   refine sAs U (ln (kn (zE (kr (sAd U U (by omega) (sMi U (ln (kn (kY ?_)))))))))
   have he:(Bk.encH b.header++Pk.int b.txs.length++((b.txs.take (i+1)).map Bk.encT).flatten)=(Bk.encH b.header++Pk.int b.txs.length++((b.txs.take i).map Bk.encT).flatten)++(Pk.int (Tx.putB t).length++Tx.putB t):=by rw [flat_at ht];simp only [List.append_assoc];rfl
   refine ⟨_,_,_,?_,U,?_,?_,⟨i+1,A7,c7,U,U,by omega,⟨by rw [he];exact hc7,hd7⟩,by rw [he];exact H.sub (L':=[_]) (by repeat (first|exact .refl _|exact List.nil_sublist _|refine .cons_cons _ ?_|refine .cons _ ?_))⟩⟩
   ·omega
   ·with_reducible repeat first|exact .refl|refine .f ?_ ?_ ?_;kernel_rfl;kernel_rfl|refine .u ?_ ?_;kernel_rfl
   ·refine ⟨?_,?_,trivial⟩
    ·exact vi (by omega)
    ·exact sl_eq (by rw [he])
  ·obtain rfl:i=b.txs.length:=by simp at hc26;omega
   refine ke (xt (xt ?_))
   refine xH (kQ ?_)
   have hE:(Bk.encH b.header++Pk.int b.txs.length++((b.txs.take b.txs.length).map Bk.encT).flatten)=Bk.putB b:=by rw [List.take_length,List.append_assoc];rfl
   rw [hE] at hd H ⊢
   refine kr (sMs U (sAs U (sAi U (ln (kx ?_)))))
   exact q_ret2 (v:=.slice _ _ _) (x:=.int _ _) U U U ⟨_,U,_,U,H.newB U U hd.1 hd.2⟩

inductive Two {α β:Type} (R:α->β->Prop):List α->List β->Prop
 | nil:Two R [] []
 | cons {a:α} {b:β} {l:List α} {m:List β} (h:R a b) (t:Two R l m):Two R (a::l) (b::m)
theorem two_at {α β:Type} {R:α->β->Prop} {cs:List α} {l:List β} (h:Two R cs l):∀{i:Nat} {x:β},l[i]?=some x->∃c,cs[i]?=some c∧R c x:=by
 induction h with
 | nil=>intro i x hx;simp at hx
 | cons hr _ ih =>
  intro i x hx
  cases i with
  | zero =>
   simp only [List.getElem?_cons_zero,Option.some.injEq] at hx
   subst hx
   exact ⟨_,U,hr⟩
  | succ i=>exact ih (by simpa using hx)
theorem two_len {α β:Type} {R:α->β->Prop} {cs:List α} {l:List β} (h:Two R cs l):cs.length=l.length:=by
 induction h with
 | nil=>rfl
 | cons _ _ ih=>simp [ih]
theorem rl_flat {W:World} {g:Nat} {t:TypeId} {l:List DTx} (cs:List (List Value)) (h:W.heap[g]?=some (.cells cs.flatten.toArray t (0,0))) (h3:∀c∈cs,c.length=3) (he:Two (fun c x=>RTx W (0<=·) c x) cs l) (hm:l.length<=1000):RL 3 RTx W (0<=·) [.slice (some ⟨g,0,none⟩) l.length l.length] l:=by
 refine ⟨some ⟨g,0,none⟩,l.length,cs.flatten,U,Nat.le_refl _,by omega,(rd_blk (m:=l.length) h ?_).swap (fun _ _ _=>Nat.zero_le _),fun i x hx=>?_⟩
 ·rw [←two_len he]
  clear he h
  induction cs with
  | nil=>rfl
  | cons c cs ih =>
   rw [List.flatten_cons,List.length_append,ih (fun c hc=>h3 c (.tail _ hc)),h3 c (.head _),List.length_cons]
   omega
 ·obtain ⟨c,h1,h2⟩:=two_at he hx
  rw [sub_flat (s:=3) cs i c h3 h1]
  exact h2
def nHd:DHeader:=⟨List.replicate 32 0,List.replicate 32 0,-1⟩
theorem nHd_ok:Bk.OkH nHd:=⟨List.length_replicate,List.length_replicate,by unfold nHd I64;constructor <;> decide⟩
namespace Bz
abbrev zB:DBlock:=⟨zHd,[]⟩
theorem chk:Bk.chk BTG zB=0:=chk_0 (by unfold zB zHd;simp) (by simp) rfl List.nodup_nil rfl
theorem put:Bk.put BTG zB=(List.replicate 66 0,0):=by
 unfold Bk.put
 rw [chk,if_neg (fun e=>e rfl)]
 have:Bk.putB zB=List.replicate 66 0:=by decide
 rw [this]
theorem neg:Bk.chk BTG ⟨nHd,[]⟩=1:=chk_1 (.inl (by unfold nHd;decide))
theorem root0:rootB []=List.replicate 32 0:=rfl
theorem root1 (t:DTx):rootB [t]=Tx.dig Tx.tTx t:=rfl
theorem root3 (a b c:DTx):rootB [a,b,c]=BTG Bk.tNode (BTG Bk.tNode ((digA a).1++(digA b).1)++(digA c).1):=rfl
end Bz

theorem works09 (w:World) (hG:Gat w 0 formsC) (hB:Old.Gl w):Calls Tryz.prog 14 [].toArray w (Ret (Is w (.bool true))):=by
 refine kE (l:=[]) Tryz.func14 U U ?_
 have H:=St.start nT w
 refine kR (sAb U (lkR (sf (ecl Tryz.func8 U U (nthP 0 _ (by decide)) ?_))))
 rintro _ W hs_
 obtain ⟨Sn1,An1,cn1,Bn1,dn1,rfl,H1_⟩:=NewTx.rep hs_ H ⟨by decide,by decide⟩
 clear H hs_
 have H:=H1_
 clear H1_
 refine sf (ecl Tryz.func8 U U (nthP 1 _ (by decide)) ?_)
 rintro _ W hs_
 obtain ⟨Sn2,An2,cn2,Bn2,dn2,rfl,H1_⟩:=NewTx.rep hs_ H ⟨by decide,by decide⟩
 clear H hs_
 have H:=H1_
 clear H1_
 refine sf (ecl Tryz.func8 U U (nthP 2 _ (by decide)) ?_)
 rintro _ W hs_
 obtain ⟨Sn3,An3,cn3,Bn3,dn3,rfl,H1_⟩:=NewTx.rep hs_ H ⟨by decide,by decide⟩
 clear H hs_
 have H:=H1_
 clear H1_
 refine sf (eal [.slice none 0 0,.slice none 0 0,.int .i64 0] tz34 H ?_)
 clear H;intro ga W H
 refine sf (eal [.slice none 0 0,.slice none 0 0,.int .i64 0] tz34 H ?_)
 clear H;intro gb W H
 refine sf (eal [.slice none 0 0,.slice none 0 0,.int .i64 0] tz34 H ?_)
 clear H;intro gc W H
 refine sf (esk (txC An1 (nthT 0).ins.length cn1 Bn1 (nthT 0).outs.length dn1 (nthT 0).lock) U U U ts34 U U H (by decide) U ?_)
 clear H;intro W H
 refine sf (esk (txC An2 (nthT 1).ins.length cn2 Bn2 (nthT 1).outs.length dn2 (nthT 1).lock) U U U ts34 U U H (by decide) U ?_)
 clear H;intro W H
 refine sf (esk (txC An3 (nthT 2).ins.length cn3 Bn3 (nthT 2).outs.length dn3 (nthT 2).lock) U U U ts34 U U H (by decide) U ?_)
 clear H;intro W H
 refine lkR (sR (dB (vs:=bC zHd none 0 0) U (by kernel_rfl)) ?_)
 refine sf (ecl Tryz.func12 U U (putBP (b:=Bz.zB) _ (rl_nil (S:=nT)) zHd_ok (H.gat hG) (H.gl hB)) ?_)
 rintro _ W ⟨_,rfl,A9,c9,rfl,hc9,hd9,hn⟩
 replace H:=H.new hn
 clear hn
 rw [Bz.put] at hc9 H ⊢
 refine sMt U (sEx U U (sEx U U (sAs U (sAi U (ln (kQ (k_draw [(1,true),(0,false),(2,true),(3,true),(4,true),(7,true),(5,false),(6,false),(8,false),(9,true),(10,true),(11,true),(12,true),(13,true),(14,true),(17,true),(19,true),(22,true),(15,false),(16,false),(18,false),(20,false),(21,false),(23,false),(24,false),(25,true),(26,true),(27,true),(28,true),(29,true),(30,true),(31,true),(32,true),(33,false),(34,false),(35,true),(36,true),(37,true),(38,true),(39,false),(40,true),(41,true),(42,true)] _ (by kernel_rfl) (by kernel_rfl) H (.refl _) ?_)))))))
 clear H;intro W H
 refine cR U (fun W H=>dB (vs:=(List.replicate 32 (0:UInt8)).map u8v) U (by kernel_rfl)) ?_
 refine cf U (eI Tryz.func20 U U (rootP (l:=[]) _ (rl_nil (S:=nT)) (H.gat hG) (H.gl hB) (by decide)) H ?_)
 clear H;intro W H
 refine ⟨H.sb,?_⟩
 refine cR U (fun W H=>d_eqarr U U U tu24 tu5 ts5 (len_rootB _) List.length_replicate (by kernel_rfl)) ?_
 refine cR U (fun W H=>mv_bx (c:=true) U U (by rw [Bz.root0];exact beq_self_eq_true _)) ?_
 refine c_run U (w_g U U U U) U (fun W H=>dM (g:=ga) (off:=0) U H (sa (a:=txC An1 (nthT 0).ins.length cn1 Bn1 (nthT 0).outs.length dn1 (nthT 0).lock) (m:=3) U) U U U U ta34 ts34) (c_run U (w_g U U U U) U (fun W H=>dM (g:=ga) (off:=0) U H (sa (a:=txC An1 (nthT 0).ins.length cn1 Bn1 (nthT 0).outs.length dn1 (nthT 0).lock) (m:=3) U) U U U U ta34 ts34) (cf U (e_bsl (xs:=[.tmp 18]) (vals:=[.agg (txC An1 (nthT 0).ins.length cn1 Bn1 (nthT 0).outs.length dn1 (nthT 0).lock).toArray]) (vs:=([txC An1 (nthT 0).ins.length cn1 Bn1 (nthT 0).outs.length dn1 (nthT 0).lock].flatten)) (w_g U U U U) U U U U U U tu22 ts34 ty34 U (by simp [agg_cells,txC]) (by simp [agg_cells]) H ?_)))
 clear H;intro gr W H
 refine ⟨H.sb,?_⟩
 refine cf U (e_call (w_g U U U U) U U Tryz.func20 U U U (rootP (l:=[nthT 0]) _ (rl_flat [txC An1 (nthT 0).ins.length cn1 Bn1 (nthT 0).outs.length dn1 (nthT 0).lock] (H.blk (g:=gr)) (fun c hc=>by rw [List.mem_singleton.1 hc];rfl) (.cons (H.rep1 (R:=RTx) (S:=Sn1) (cs:=txC An1 (nthT 0).ins.length cn1 Bn1 (nthT 0).outs.length dn1 (nthT 0).lock) (a:=nthT 0)) .nil) (by decide)) (H.gat hG) (H.gl hB) (by decide)) ?_)
 rintro _ W ⟨rfl,hb⟩
 replace H:=H.below hb
 clear hb
 refine ⟨H.sb,?_⟩
 refine cf U (e_call (w_g U U U U) U U Tryz.func35 U U U (idTP _ (H.rep1 (R:=RTx) (S:=Sn1) (cs:=txC An1 (nthT 0).ins.length cn1 Bn1 (nthT 0).outs.length dn1 (nthT 0).lock) (a:=nthT 0)) (H.gat hG) (H.gl hB)) ?_)
 rintro _ W ⟨rfl,hb⟩
 replace H:=H.below hb
 clear hb
 refine ⟨H.sb,?_⟩
 refine c_run U (w_g U U U U) U (fun W H=>d_eqarr U U U tu24 tu5 ts5 (len_rootB _) Tx.len_dig (by kernel_rfl)) ?_
 refine cR U (fun W H=>d_pickT U U U) (cR U (fun W H=>mv_bx (c:=true) U U (by rw [Bz.root1];exact beq_self_eq_true _)) ?_)
 refine c_run U (w_g U U U U) U (fun W H=>dM (g:=ga) (off:=0) U H (sa (a:=txC An1 (nthT 0).ins.length cn1 Bn1 (nthT 0).outs.length dn1 (nthT 0).lock) (m:=3) U) U U U U ta34 ts34) (c_run U (w_g U U U U) U (fun W H=>dM (g:=gb) (off:=0) U H (sa (a:=txC An2 (nthT 1).ins.length cn2 Bn2 (nthT 1).outs.length dn2 (nthT 1).lock) (m:=3) U) U U U U ta34 ts34) (c_run U (w_g U U U U) U (fun W H=>dM (g:=gc) (off:=0) U H (sa (a:=txC An3 (nthT 2).ins.length cn3 Bn3 (nthT 2).outs.length dn3 (nthT 2).lock) (m:=3) U) U U U U ta34 ts34) (c_run U (w_g U U U U) U (fun W H=>dM (g:=ga) (off:=0) U H (sa (a:=txC An1 (nthT 0).ins.length cn1 Bn1 (nthT 0).outs.length dn1 (nthT 0).lock) (m:=3) U) U U U U ta34 ts34) (c_run U (w_g U U U U) U (fun W H=>dM (g:=gb) (off:=0) U H (sa (a:=txC An2 (nthT 1).ins.length cn2 Bn2 (nthT 1).outs.length dn2 (nthT 1).lock) (m:=3) U) U U U U ta34 ts34) (c_run U (w_g U U U U) U (fun W H=>dM (g:=gc) (off:=0) U H (sa (a:=txC An3 (nthT 2).ins.length cn3 Bn3 (nthT 2).outs.length dn3 (nthT 2).lock) (m:=3) U) U U U U ta34 ts34) (cf U (e_bsl (xs:=[.tmp 26,.tmp 27,.tmp 28]) (vals:=[.agg (txC An1 (nthT 0).ins.length cn1 Bn1 (nthT 0).outs.length dn1 (nthT 0).lock).toArray,.agg (txC An2 (nthT 1).ins.length cn2 Bn2 (nthT 1).outs.length dn2 (nthT 1).lock).toArray,.agg (txC An3 (nthT 2).ins.length cn3 Bn3 (nthT 2).outs.length dn3 (nthT 2).lock).toArray]) (vs:=([txC An1 (nthT 0).ins.length cn1 Bn1 (nthT 0).outs.length dn1 (nthT 0).lock,txC An2 (nthT 1).ins.length cn2 Bn2 (nthT 1).outs.length dn2 (nthT 1).lock,txC An3 (nthT 2).ins.length cn3 Bn3 (nthT 2).outs.length dn3 (nthT 2).lock].flatten)) (w_g U U U U) U U U U U U tu22 ts34 ty34 U (by simp [agg_cells,txC]) (by simp [agg_cells]) H ?_)))))))
 clear H;intro gs W H
 refine ⟨H.sb,?_⟩
 refine cf rfl (e_call (w_g rfl rfl rfl rfl) rfl rfl Tryz.func20 rfl rfl rfl (rootP (l:=[nthT 0,nthT 1,nthT 2]) _ (rl_flat [txC An1 (nthT 0).ins.length cn1 Bn1 (nthT 0).outs.length dn1 (nthT 0).lock,txC An2 (nthT 1).ins.length cn2 Bn2 (nthT 1).outs.length dn2 (nthT 1).lock,txC An3 (nthT 2).ins.length cn3 Bn3 (nthT 2).outs.length dn3 (nthT 2).lock] (H.blk (g:=gs)) (fun c hc=>by simp at hc;rcases hc with rfl|rfl|rfl <;> rfl) (.cons (H.rep1 (R:=RTx) (S:=Sn1) (cs:=txC An1 (nthT 0).ins.length cn1 Bn1 (nthT 0).outs.length dn1 (nthT 0).lock) (a:=nthT 0)) (.cons (H.rep1 (R:=RTx) (S:=Sn2) (cs:=txC An2 (nthT 1).ins.length cn2 Bn2 (nthT 1).outs.length dn2 (nthT 1).lock) (a:=nthT 1)) (.cons (H.rep1 (R:=RTx) (S:=Sn3) (cs:=txC An3 (nthT 2).ins.length cn3 Bn3 (nthT 2).outs.length dn3 (nthT 2).lock) (a:=nthT 2)) .nil))) (by decide)) (H.gat hG) (H.gl hB) (by decide)) ?_)
 rintro _ W ⟨rfl,hb⟩
 replace H:=H.below hb
 clear hb
 refine ⟨H.sb,?_⟩
 refine cf U (e_call (w_g U U U U) U U Tryz.func35 U U U (idTP _ (H.rep1 (R:=RTx) (S:=Sn1) (cs:=txC An1 (nthT 0).ins.length cn1 Bn1 (nthT 0).outs.length dn1 (nthT 0).lock) (a:=nthT 0)) (H.gat hG) (H.gl hB)) ?_)
 rintro _ W ⟨rfl,hb⟩
 replace H:=H.below hb
 clear hb
 refine ⟨H.sb,?_⟩
 refine cf U (e_call (w_g U U U U) U U Tryz.func35 U U U (idTP _ (H.rep1 (R:=RTx) (S:=Sn2) (cs:=txC An2 (nthT 1).ins.length cn2 Bn2 (nthT 1).outs.length dn2 (nthT 1).lock) (a:=nthT 1)) (H.gat hG) (H.gl hB)) ?_)
 rintro _ W ⟨rfl,hb⟩
 replace H:=H.below hb
 clear hb
 refine ⟨H.sb,?_⟩
 refine cf U (e_call (w_g U U U U) U U Tryz.func36 U U U (nodeP (digA (nthT 0)) (digA (nthT 1)) _ (H.gl hB)) ?_)
 rintro _ W ⟨rfl,hb⟩
 replace H:=H.below hb
 clear hb
 refine ⟨H.sb,?_⟩
 refine cf U (e_call (w_g U U U U) U U Tryz.func35 U U U (idTP _ (H.rep1 (R:=RTx) (S:=Sn3) (cs:=txC An3 (nthT 2).ins.length cn3 Bn3 (nthT 2).outs.length dn3 (nthT 2).lock) (a:=nthT 2)) (H.gat hG) (H.gl hB)) ?_)
 rintro _ W ⟨rfl,hb⟩
 replace H:=H.below hb
 clear hb
 refine ⟨H.sb,?_⟩
 refine cf U (e_call (w_g U U U U) U U Tryz.func36 U U U (nodeP ⟨BTG Bk.tNode ((digA (nthT 0)).1++(digA (nthT 1)).1),Old.Bl.len_tagged _ _⟩ (digA (nthT 2)) _ (H.gl hB)) ?_)
 rintro _ W ⟨rfl,hb⟩
 replace H:=H.below hb
 clear hb
 refine ⟨H.sb,?_⟩
 refine c_run U (w_g U U U U) U (fun W H=>d_eqarr U U U tu24 tu5 ts5 (len_rootB _) (Old.Bl.len_tagged _ _) (by kernel_rfl)) ?_
 refine cR U (fun W H=>d_pickT U U U) (cR U (fun W H=>mv_bx (c:=true) U U (by exact beq_iff_eq.2 (Bz.root3 (nthT 0) (nthT 1) (nthT 2)))) ?_)
 refine c_run U (w_g U U U U) U (fun W H=>mv_i U U) (c_run U (w_g U U U U) U (fun W H=>d_eq U U U) (cR U (fun W H=>d_pickT U U U) (cR U (fun W H=>mv_bx (c:=true) U U (by rfl)) ?_)))
 refine c_run U (w_g U U U U) U (fun W H=>mv_s U U) (cf U (e_mks (w_g U U U U) U U U U (m:=66) U (by decide) tu41 tz5 tx5 H ?_))
 clear H;intro gz W H
 refine ⟨H.sb,?_⟩
 refine cf U (e_call (w_g U U U U) U U Tryz.func19 U U U (sameBytes _ _ (List.replicate 66 0) (List.replicate 66 0) _ (H.rowbs (A:=A9) U) (Bs.mk (rd_blk (m:=66) (H.blk (g:=gz)) (by rw [List.length_map,List.length_replicate])) (by decide) (by decide))) ?_)
 rintro _ W ⟨rfl,hb⟩
 replace H:=H.below hb
 clear hb
 refine ⟨H.sb,?_⟩
 refine cR U (fun W H=>d_pickT U U U) (cR U (fun W H=>mv_bx (c:=true) U U (by exact decide_eq_true U)) ?_)
 refine c_run U (w_g U U U U) U (fun W H=>dB (vs:=hdrC nHd) U (by kernel_rfl)) ?_
 refine c_run U (w_g U U U U) U (fun W H=>dB (vs:=bC nHd none 0 0) U (by kernel_rfl)) ?_
 refine cf U (e_call (w_g U U U U) U U Tryz.func18 U U U (checkBP (b:=⟨nHd,[]⟩) _ (rl_nil (S:=nT)) nHd_ok (H.gat hG) (H.gl hB)) ?_)
 rintro _ W ⟨rfl,hb⟩
 replace H:=H.below hb
 clear hb
 refine ⟨H.sb,?_⟩
 refine c_run U (w_g U U U U) U (fun W H=>d_eq U U U) (cR U (fun W H=>d_pickT U U U) (cR U (fun W H=>as_b U U) (c_nil (kx ?_))))
 exact qr (v:=.bool _) U U ⟨_,U,vb (by rw [Bz.neg];rfl),H.under⟩
end Go.Proofs.YtfhhfhdnhadooaaGreatDoor
