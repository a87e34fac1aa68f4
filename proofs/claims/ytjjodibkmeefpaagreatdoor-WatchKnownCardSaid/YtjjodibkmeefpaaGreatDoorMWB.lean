import Derived.Test.YtjjodibkmeefpaaGreatDoorMBL
import Derived.Test.YtjjodibkmeefpaaGreatDoorMZ
import Derived.Test.YtjjodibkmeefpaaGreatDoorMWA
import Derived.Test.YtjjodibkmeefpaaGreatDoorML
import Derived.Test.YtjjodibkmeefpaaGreatDoorMWN
import Derived.Test.YtjjodibkmeefpaaGreatDoorMA
import Derived.Test.YtjjodibkmeefpaaGreatDoorMY
set_option linter.unusedVariables false
set_option linter.unusedSimpArgs false
set_option maxHeartbeats 4000000

namespace Go.Proofs.YtjjodibkmeefpaaGreatDoor
open Go Go.RowKit
attribute [local irreducible] wpList

structure WX where
 d:Int
 cs:List Value
 t:DTx
def WX.pl (x:WX):Int × DTx:=(x.d,x.t)
abbrev WXs (w0:World) (S:Nat->Prop) (Pt:DTx->Prop):={ x:WX // RTx w0 S x.cs x.t∧Pt x.t }
def wxe (w0:World) (S:Nat->Prop) (Pt:DTx->Prop) (x:WXs w0 S Pt):Array Value:=#[.int .i64 x.1.d,.agg x.1.cs.toArray]
abbrev pls {w0:World} {S:Nat->Prop} {Pt:DTx->Prop} (l:List (WXs w0 S Pt)):List (Int × DTx):=l.map (fun x=>x.1.pl)
theorem pls_snoc {w0:World} {S:Nat->Prop} {Pt:DTx->Prop} {l:List (WXs w0 S Pt)} {x:WXs w0 S Pt}:pls (l++[x])=pls l++[(x.1.d,x.1.t)]:=by
 show List.map _ _=_
 rw [List.map_append];rfl
abbrev flatP (p:List DBlock):List (Int × DTx):=Wt.flat p.length p 0
theorem tz76:((Tryz.prog.info? 76).bind (·.zero)).map (·.cells)=some (bC zHd none 0 0).toArray:=by kernel_rfl
theorem gatb {W:World} {g:Nat} {c:List Value} {t:TypeId} (h:W.heap[g]?=some (.cells c.toArray t (0,0))):Gat W g c:=gat_of h

theorem all_stops {S K0:Nat->Prop} {Pt:DTx->Prop} {q c:Nat} {B:Option Addr} {p:List DBlock} (w0 w:World) (hb:Below w0.heap.size w0 w) (hq:Gat w q [.slice B p.length c]) (hKq:K0 q) (hKlt:∀g,K0 g->g<w.heap.size) (hl:RL 66 RBlock w0 S [.slice B p.length c] p) (hP:∀b∈p,∀t∈b.txs,Pt t) :
  SeqStopsK Fence.wide 2 Tryz.prog 52 [.pointer (some ⟨q,0,none⟩)].toArray (wxe w0 S Pt) (KeepB w0.heap.size K0) (fun xs=>pls xs=flatP p) (fun pre=>∃rest,pls pre++rest=flatP p) (flatP p).length w:=by
 intro ll J Jx W0 hW hJ hJx hY h0
 refine callsIn_wide.2 ?_
 have hll:=rl_len hl
 have hq0:=hq.keep hW
 rw [show (#[Value.func (.yield ll) #[] #[]]++[.pointer (some ⟨q,0,none⟩)].toArray:Array Value)=[Value.func (.yield ll) #[] #[],Value.pointer (some ⟨q,0,none⟩)].toArray from rfl]
 obtain ⟨B_,c_,xs,hv_,hcA_,hcm_,hr,hel⟩:=hl
 cases hv_
 refine kE (l:=[_,_]) Tryz.func52 U U ?_
 have H:=St.start nT W0
 refine kR (sR (d_ldG U (hq0) U ta22 U) (sLn U tu22 (sMi U (ln (kb (kL 9 [3,4,6] (fun mm sl W=>∃i:Nat,∃pre:List (WXs w0 S Pt),p.length - i=mm∧sl=[(9,.int .i64 (i:Int))]∧(i<=p.length)∧(pls pre=Wt.flat p.length (p.take i) 0)∧(J pre W∧KeepB w0.heap.size K0 W0 W)) _ _ ⟨0,[],U,U,Nat.zero_le _,U,⟨h0,KeepB.refl⟩⟩ ⟨U,trivial⟩ (fun mm sl ρv W hJ=>?_)))))))
 clear H;obtain ⟨i,pre,rfl,rfl,hi,hp,H⟩:=hJ
 refine ko (kR (sLt U U (ln (kQ (kC U (fun hc10=>?_) (fun hc10=>?_))))))
 ·have hlt:i<p.length:=by simp at hc10;omega
  refine kS (kQ (kb (kQ ?_)))
  obtain ⟨hJ9,hK9⟩:=H
  have hbel:Below w0.heap.size w0 W:=(hb.trans (hW.mono hb.size)).trans hK9.1
  have hqn:=hq0.same (hK9.2 q hKq)
  have H:=St.start nT W
  obtain ⟨g0,o0,rfl,-⟩:=hr.2 (by omega)
  obtain ⟨b,hib⟩:=get_lt hlt
  obtain ⟨Ab,cb,hLb,hTx,hh⟩:=blk_of (hel i b hib)
  obtain ⟨A2_,c2_,ys,hv2,_,hcb2,hr2,hel2⟩:=hTx
  cases hv2
  have hbl2:b.txs.length<=9223372036854775807:=by omega
  refine kr (sMi U (sR (dG U (hr.keep (fun g hg _=>hbel.block g hg)) U U (q:=i) U hlt tu22 ts76) ?_))
  refine sR (dN (off:=0) U (hr.keep (fun g hg _=>hbel.block g hg)) hlt hLb (sa (lB hh)) U U (by omega) ta76 ts76) ?_
  refine sf (eal (bC zHd none 0 0) tz76 H ?_)
  clear H;intro gb W H
  refine sAi U (sf (esk (bC b.header Ab b.txs.length cb) U U U ts76 (lB hh) blk_one H (by rw [lB zHd_ok];decide) (spl_all ((lB hh).trans (lB zHd_ok).symm)) ?_))
  clear H;intro W H
  refine lkR (sFa U tf76_1 (sR (dX (g:=gb) (off:=65) U H (sub_b_txs hh) U U ta74) (sLn U tu74 (sMi U (ln ?_)))))
  have hH1:J pre W∧KeepB w0.heap.size K0 W0 W:=⟨hJ _ _ _ none hJ9 (below_grown H.under) (fun r e=>by cases e),hK9.trans ⟨H.under.mono hbel.size,fun g hg=>H.under.block g (by have h1:=hKlt g hg;have h2:=hW.size;have h3:=hK9.1.size;omega)⟩⟩
  refine kb (kL 17 [6] (fun mm sl W=>∃k:Nat,∃pre2:List (WXs w0 S Pt),b.txs.length - k=mm∧sl=[(17,.int .i64 (k:Int))]∧(k<=b.txs.length)∧(pls pre2=Wt.flat p.length (p.take i) 0++(b.txs.take k).map (fun t=>((p.length:Int) - (i:Int),t)))∧(J pre2 W∧KeepB w0.heap.size K0 W0 W)) _ _ ⟨0,pre,U,U,Nat.zero_le _,(by rw [hp];simp),hH1⟩ ⟨U,trivial⟩ (fun mm sl ρv W hJ=>?_))
  clear H;obtain ⟨k,pre2,rfl,rfl,hk,hp2,H⟩:=hJ
  refine ko (kR (sLt U U (ln (kQ (kC U (fun hc18=>?_) (fun hc18=>?_))))))
  ·have hlk:k<b.txs.length:=by simp at hc18;omega
   refine kS (kQ (kb (kQ ?_)))
   obtain ⟨hJ9,hK9⟩:=H
   have hbel:Below w0.heap.size w0 W:=(hb.trans (hW.mono hb.size)).trans hK9.1
   have hqn:=hq0.same (hK9.2 q hKq)
   have H:=St.start nT W
   obtain ⟨g1,o1,rfl,-⟩:=hr2.2 (by omega)
   obtain ⟨t,ht⟩:=get_lt hlk
   have hRt:=hel2 k t ht
   obtain ⟨Ai,ci,Bi,di,hL,-,-,-⟩:=tx_of hRt
   rw [hL] at hRt
   have hPt:Pt t:=hP b (List.mem_of_getElem? hib) t (List.mem_of_getElem? ht)
   obtain ⟨rest,hfl⟩:=Wt.flat_at (N:=p.length) hib ht
   have hpx:pls (pre2++[(⟨⟨(p.length:Int) - (i:Int),txC Ai t.ins.length ci Bi t.outs.length di t.lock,t⟩,hRt,hPt⟩:WXs w0 S Pt)])=pls pre2++[((p.length:Int) - (i:Int),t)]:=pls_snoc
   have hNn:pre2.length<(flatP p).length:=by
    have e1:pre2.length=(pls pre2).length:=by rw [List.length_map]
    show _<(Wt.flat p.length p 0).length
    rw [e1,hp2,hfl];simp only [List.length_append,List.length_cons];omega
   refine kr (sR (dG U (hr2.keep (fun g hg _=>hbel.block g hg)) U U (q:=k) U hlk tu74 ts47) ?_)
   refine sR (dN (off:=0) U (hr2.keep (fun g hg _=>hbel.block g hg)) hlk hL (sa (a:=txC Ai t.ins.length ci Bi t.outs.length di t.lock) (m:=3) U) U U (by omega) ta47 ts47) ?_
   refine sf (eal [.slice none 0 0,.slice none 0 0,.int .i64 0] tz47 H ?_)
   clear H;intro gt W H
   refine sf (esk (txC Ai t.ins.length ci Bi t.outs.length di t.lock) U U U ts47 U U H (by decide) U ?_)
   clear H;intro W H
   refine ln (kQ (k_regionY (rX (fun _=>trivial) (fun c h=>by cases h) (wn U) U (mv_f U U) ?_)))
   refine rX (fun _=>trivial) (fun c h=>by cases h) (wn U) U (d_ldG U ((hqn.keep H.under)) U ta22 U) ?_
   refine rX (fun _=>trivial) (fun c h=>by cases h) (wn U) U (d_len U U tu22) ?_
   refine rX (fun _=>trivial) (fun c h=>by cases h) (wn U) U (mv_i U U) ?_
   refine rX (fun _=>trivial) (fun c h=>by cases h) (wn U) U (d_sub U U U (by omega)) ?_
   refine rX (fun _=>trivial) (fun c h=>by cases h) (wn U) U (dM (g:=gt) (off:=0) U H (sa (a:=txC Ai t.ins.length ci Bi t.outs.length di t.lock) (m:=3) U) U U U U ta47 ts47) ?_
   have hKn:KeepB w0.heap.size K0 W0 W:=hK9.trans ⟨H.under.mono hbel.size,fun g hg=>H.under.block g (by have h1:=hKlt g hg;have h2:=hW.size;have h3:=hK9.1.size;omega)⟩
   refine r_yield (la:=[.int .i64 ((p.length:Int) - (i:Int)),.agg (txC Ai t.ins.length ci Bi t.outs.length di t.lock).toArray]) (fun _=>trivial) rfl (wn rfl) rfl rfl rfl rfl (hY pre2 (⟨⟨(p.length:Int) - (i:Int),txC Ai t.ins.length ci Bi t.outs.length di t.lock,t⟩,hRt,hPt⟩:WXs w0 S Pt) W (hJ _ _ _ none hJ9 (below_grown H.under) (fun r e=>by cases e)) hNn) (fun e W' q=>by rcases q with ⟨rfl,_⟩|⟨rfl,_⟩ <;> exact ⟨_,rfl⟩) ?_
   intro bb W hR2
   refine rX (fun _=>trivial) (fun c h=>by cases h) (wn U) U (d_not U U) ?_
   refine r_nil (kC U (fun hc28=>?_) (fun hc28=>?_))
   ·skip
    refine kx ?_
    have h3:=hR2.resolve_left (fun h=>by cases h.1;simp at hc28)
    exact q_ret0 U ⟨⟨_,U⟩,.inr ⟨_,⟨rest,by show _=Wt.flat p.length p 0;rw [hpx,hp2,hfl];simp⟩,h3.2⟩⟩
   ·skip
    refine kS (kn (zE (kr (sAd U U (by omega) (sMi U (ln (kn (kY ?_))))))))
    obtain ⟨_,hJ2,hK2⟩:=hR2.resolve_right (fun h=>by cases h.1;simp at hc28)
    refine ⟨_,_,_,?_,U,?_,?_,⟨k+1,pre2++[(⟨⟨(p.length:Int) - (i:Int),txC Ai t.ins.length ci Bi t.outs.length di t.lock,t⟩,hRt,hPt⟩:WXs w0 S Pt)],U,U,by omega,(by rw [hpx,take_get ht,List.map_append,hp2,List.append_assoc];rfl),⟨hJ2,hKn.trans hK2⟩⟩⟩
    ·omega
    ·with_reducible repeat first|exact .refl|refine .f ?_ ?_ ?_;kernel_rfl;kernel_rfl|refine .u ?_ ?_;kernel_rfl
    ·refine ⟨?_,trivial⟩
     ·exact vi (by omega)
  ·obtain rfl:k=b.txs.length:=by simp at hc18;omega
   refine ke (xQ (xQ ?_))
   refine xH (kn (zE (kr (sAd U U (by omega) (sMi U (ln (kn (kY ?_))))))))
   refine ⟨_,_,_,?_,U,?_,?_,⟨i+1,pre2,U,U,by omega,(by rw [hp2,Wt.flat_step hib,List.take_length]),H⟩⟩
   ·omega
   ·with_reducible repeat first|exact .refl|refine .f ?_ ?_ ?_;kernel_rfl;kernel_rfl|refine .u ?_ ?_;kernel_rfl
   ·refine ⟨?_,trivial⟩
    ·exact vi (by omega)
 ·obtain rfl:i=p.length:=by simp at hc10;omega
  rw [List.take_length] at hp
  refine ke (xQ (xQ ?_))
  exact xH (kn (q_end0 U ⟨⟨_,U⟩,.inl ⟨_,hp,H.1⟩⟩))

theorem allP {A:Option Addr} {m c:Nat} (w:World):Calls Tryz.prog 32 [.slice A m c].toArray w (Ret (fun v' w'=>∃q,v'=.func (.func 52) #[] [.pointer (some ⟨q,0,none⟩)].toArray∧New w w' (Fact.blk q [.slice A m c] 22))):=by
 refine kE (l:=[_]) Tryz.func32 U U ?_
 have H:=St.start nT w
 refine kR (sf (ebx (vs:=[.slice A m c]) U U H ?_))
 clear H;intro g1 W H
 refine sR (d_asg U U) (lkR (sR (d_mkf U U U) (sR (as_f U U) (ln (kx ?_)))))
 exact qr (v:=.func _ _ _) U U ⟨_,U,g1,U,H.give⟩
section
variable {P:Program} {fn:Func} {R:Ending->World->Prop} {n:Nat} {ρ:Nat->Value} {w0 W:World} {T:Nat->Prop} {L:List Fact} {t t':TypeId} {g:Nat} {p:Tmp} {v:Value}
theorem q_retc1 (hr:fn.results=#[.cell p t]) (H:St T w0 W L) (hx:ev n ρ (.tmp p)=.pointer (some ⟨g,0,none⟩)) (ha:aggB P t=some false) [hb:Blk g L [v] t'] (h:R (.returned v) W):bodyPost P fn R .ret (st n ρ []) W :=
 ⟨rfl,v,run_resc hr (by rw [st_getD];exact hx) (loads1 ha H.blk),h⟩
end
theorem fp_nil {B:Nat}:∀f∈([]:List Fact),∀g,f.fp g->g<B:=fun _ h=>by cases h
theorem fp_cons {B:Nat} {f:Fact} {L:List Fact} (h:∀g,f.fp g->g<B) (k:∀f∈L,∀g,f.fp g->g<B):∀f'∈f::L,∀g,f'.fp g->g<B:=fun f' hf=>by
 rcases List.mem_cons.1 hf with rfl|hf
 ·exact h
 ·exact k f' hf
theorem fp_eq {B a:Nat} (h:a<B):∀g,g=a->g<B:=fun g e=>by subst e;exact h
theorem depthP {S:Nat->Prop} {B:Option Addr} {c:Nat} {p:List DBlock} (w:World) (hl:RL 66 RBlock w S [.slice B p.length c] p) (hG:Gat w 2 formsC) (hB:Old.Gl w) {id:List UInt8} (hid:id.length=32):Calls Tryz.prog 19 [.slice B p.length c,.agg (id.map u8v).toArray].toArray w (Ret (Is w (.int .i64 (Wt.depth (Tx.dig Tx.tTx) p id)))):=by
 have hil:(id.map u8v).length=32:=by rw [List.length_map];exact hid
 refine k_enterM (l:=[_,_]) Tryz.func19 U U ?_
 have H:=St.start nT w
 refine kR (sf (ebx (vs:=(id.map u8v)) U U H ?_))
 clear H;intro gi W H
 refine sf (eal [.int .i64 0] tz3 H ?_)
 clear H;intro go W H
 refine ln (kQ (kR (sMs U (sf (ecl Tryz.func32 U U (allP _) ?_)))))
 rintro _ W ⟨q,rfl,hn1⟩
 replace H:=H.new hn1
 clear hn1
 refine ln (kb ?_)
 have hq:=gatb (H.blk (g:=q))
 have hQ:=blk_lt (H.blk (g:=q))
 have hGo:=blk_lt (H.blk (g:=go))
 have hGi:=blk_lt (H.blk (g:=gi))
 refine k_rangeB (α:=WXs w S (fun _=>True)) (β:=Unit) (β':=Int) [Fact.blk q [.slice B p.length c] 22] (fun _ _=>[Fact.blk go [.int .i64 0] 3,Fact.blk gi (id.map u8v) 25]) (fun pre _=>∀y∈pls pre,(Tx.dig Tx.tTx) y.2≠id) (fun _ d=>[Fact.blk go [.int .i64 d] 3]) (fun pre d=>∃p0 x,pls pre=p0++[x]∧(∀y∈p0,(Tx.dig Tx.tTx) y.2≠id)∧(Tx.dig Tx.tTx) x.2=id∧d=x.1) Sn0 (fun x=>x.1.cs) 47 (fun ρ x=>upd (upd ρ 9 (.int .i64 x.1.d)) 10 (.agg x.1.cs.toArray)) (fun ρ x g=>upd (upd (upd (upd ρ 9 (.int .i64 x.1.d)) 10 (.agg x.1.cs.toArray)) 5 (.int .i64 x.1.d)) 6 (.pointer (some ⟨g,0,none⟩))) () U Tryz.func52 U U (all_stops (K0:=(·=q)) w W H.under hq U (fun g hg=>by subst hg;exact hQ) hl (fun _ _ _ _=>trivial)) (fun _=>U) (fun _=>ra_two) H (fun y hy=>by cases hy) (fun g hg=>⟨_,.head _,hg⟩) snap0 (fun pre z W1 hC H1=>s1_const (fp_cons (fp_eq hGo) (fp_cons (fp_eq hGi) fp_nil))) (fun pre z W1 hC H1 f hf g hg=>.inl (fp_cons (fp_eq hGo) fp_nil f hf g hg)) ?_ ?_ ?_ ?_
 ·intro l x W1
  clear H
  have H:=St.start nT W1
  refine y_seq ?_
  obtain ⟨⟨xd,xc,xt⟩,hx0,hP0⟩:=x
  obtain ⟨Ai,ci,Bi,di,hL_,-,-,-⟩:=tx_of hx0
  dsimp only at hL_
  subst hL_
  refine y_region (rX (fun _=>trivial) (fun c h=>by cases h) (wn U) U (as_i U U) ?_)
  refine ry_nil (y_region (r_eff (fun _=>trivial) (fun c h=>by cases h) (e_alloc (wn U) U U [.slice none 0 0,.slice none 0 0,.int .i64 0] tz47 H ?_)))
  clear H;intro gx W H
  refine r_eff (fun _=>trivial) (fun c h=>by cases h) (e_stoK (txC Ai xt.ins.length ci Bi xt.outs.length di xt.lock) (wn U) U U U U U ts47 U U H (by decide) U ?_)
  clear H;intro W H
  refine ry_nil (y_nil (round_a ?_))
  exact ⟨gx,U,H.under,(H.own _ (.head _) gx U).1.resolve_left (fun h=>h),H.blk⟩
 ·rintro l_ pre x ⟨⟩ gx W1 T1 hC hlen hpast H
  have hRx:=x.2.1
  obtain ⟨⟨xd,xc,xt⟩,hx0,hP0⟩:=x
  obtain ⟨Ai,ci,Bi,di,hL_,-,-,-⟩:=tx_of hx0
  dsimp only at hL_
  subst hL_
  replace H:St T1 W1 W1 (Fact.blk gx (txC Ai xt.ins.length ci Bi xt.outs.length di xt.lock) 47::[Fact.blk go [.int .i64 0] 3,Fact.blk gi (id.map u8v) 25]):=H
  refine y_block (y_seq (y_draw [(0,true),(2,true),(1,false),(3,true)] [Fact.blk gx (txC Ai xt.ins.length ci Bi xt.outs.length di xt.lock) 47,Fact.blk gi (id.map u8v) 25] (by kernel_rfl) (by kernel_rfl) (by rfl) (fun ⟨_,_,h⟩=>(h:False)) H (by repeat (first|exact .refl _|exact List.nil_sublist _|refine .cons_cons _ ?_|refine .cons _ ?_)) ?_))
  clear H;intro W H
  refine cR U (fun W H=>dM (g:=gx) (off:=0) U H (sa (a:=txC Ai xt.ins.length ci Bi xt.outs.length di xt.lock) (m:=3) U) U U U U ta47 ts47) (cR U (fun W H=>d_ldm0 (g:=gi) U H U ta25 ts25 hil) (cf U (eI Tryz.func25 U U (idTP _ (keeps_Tx _ _ _ _ _ hRx (fun g hg _=>(hpast _ H.fr).block g hg)) (hG.keep (hpast _ H.fr)) (hB.below (hpast _ H.fr) (Nat.le_refl _))) H ?_)))
  clear H;intro W H
  refine ⟨H.sb,?_⟩
  refine cR U (fun W H=>d_eqarr U U U tu25 tu5 ts5 Tx.len_dig hid (by kernel_rfl)) ?_
  refine c_nil (y_cond U (fun hc14=>?_) (fun hc14=>?_))
  ·have he:Tx.dig Tx.tTx xt=id:=by simpa using hc14
   refine y_seq (y_region (rX (fun _=>trivial) (fun c h=>by cases h) (wn U) U (mv_i U U) ?_))
   refine r_eff (fun _=>trivial) (fun c h=>by cases h) (e_sto (wn U) U U U U U ts3 U H U ?_)
   clear H;intro W H
   refine ry_nil (y_ret ?_)
   repeat (first|refine r_then ?_|refine r_blk ?_)
   refine round_r ?_
   refine ⟨xd,⟨pls pre,(xd,xt),pls_snoc,hC,he,U⟩,H.sub (L':=[_]) (by repeat (first|exact .refl _|exact List.nil_sublist _|refine .cons_cons _ ?_|refine .cons _ ?_))⟩
  ·have he:¬Tx.dig Tx.tTx xt=id:=by simpa using hc14
   refine y_skip (y_nil (yb_end (y_nil (round_n ?_))))
   refine ⟨(),?_,H.sub (L':=[_,_]) (by repeat (first|exact .refl _|exact List.nil_sublist _|refine .cons_cons _ ?_|refine .cons _ ?_))⟩
   intro y hy
   rw [pls_snoc] at hy
   rcases List.mem_append.1 hy with hy|hy
   ·exact hC y hy
   ·rw [List.mem_singleton.1 hy];exact he
 ·rintro D xs ⟨⟩ W hS hC H
  have hv:Wt.depth (Tx.dig Tx.tTx) p id=0:=by unfold Wt.depth;rw [Wt.depth_flat];show Wt.depthF _ _ (flatP p)=0;rw [←hS];exact Wt.depthF_none hC
  replace H:St nT w W (Fact.obj D (.deferred (some []))::[Fact.blk go [.int .i64 0] 3,Fact.blk gi (id.map u8v) 25]):=H
  refine kn (zE (kR ?_))
  refine sf (e_sto (wn U) U U U U U ts3 U H U ?_)
  clear H;intro W H
  refine ln (kx ?_)
  rw [hv]
  refine q_M1 H (fun W H=>?_)
  exact q_retc1 U H U ta3 ⟨_,U,U,H.under⟩
 ·rintro D pre d W ⟨rest,hrest⟩ ⟨p0,x,hpx,h0,hx,rfl⟩ H
  have hv:Wt.depth (Tx.dig Tx.tTx) p id=x.1:=by unfold Wt.depth;rw [Wt.depth_flat];show Wt.depthF _ _ (flatP p)=x.1;rw [←hrest,hpx,List.append_assoc];exact Wt.depthF_hit h0 hx
  replace H:St nT w W [Fact.obj D (.deferred (some [])),Fact.blk go [.int .i64 x.1] 3]:=H
  rw [hv]
  refine q_M1 H (fun W H=>?_)
  exact q_retc1 U H U ta3 ⟨_,U,U,H.under⟩

namespace Wt
theorem inAt_app {p:DPoint}:∀(a b:List DIn) (n:Nat),inAt p (a++b) n=match inAt p a n with
  | some k=>some k
  | none=>inAt p b (n+a.length)
 | [],b,n=>rfl
 | x::a,b,n=>by
  have ih:=inAt_app (p:=p) a b (n+1)
  rw [List.cons_append,inAt,inAt]
  split
  ·rfl
  ·rw [ih,List.length_cons,show n+(a.length+1)=n+1+a.length by omega]
theorem inAt_no {p:DPoint} {l:List DIn} {i:Nat} {x:DIn} (hx:l[i]?=some x) (h:inAt p (l.take i) 0=none) (hb:beqPoint x.point p=false):inAt p (l.take (i+1)) 0=none:=by
 rw [take_get hx,inAt_app,h]
 simp [inAt,hb]
theorem inAt_yes {p:DPoint} {l:List DIn} {i:Nat} {x:DIn} (hx:l[i]?=some x) (h:inAt p (l.take i) 0=none) (hb:beqPoint x.point p=true):inAt p l 0=some i:=by
 have hi:=(List.getElem?_eq_some_iff.1 hx).1
 have e:l=l.take i++x::l.drop (i+1):=by
  have h1:=List.take_append_drop i l
  have h2:l.drop i=x::l.drop (i+1):=by
   rw [List.drop_eq_getElem_cons hi]
   congr 1
   exact (List.getElem?_eq_some_iff.1 hx).2
  rw [h2] at h1
  exact h1.symm
 rw [e,inAt_app,h]
 simp only [inAt,hb,List.length_take,if_true,Nat.zero_add]
 rw [Nat.min_eq_left (by omega)]
def atZ (p:DPoint) (l:List DIn):Int:=match inAt p l 0 with
 | some n=>(n:Int)
 | none => -1
end Wt
theorem spl_in_w2 {p:DPoint} {A A':Option Addr} {m c m' c':Nat} (h:p.tx.length=32):spl (inC p A m c) 33 [.slice A' m' c']=inC p A' m' c':=by
 unfold inC
 rw [spl_cons,spl_nil,List.set_append_right _ _ (by rw [len_point h];exact Nat.le_refl _),len_point h]
 rfl

theorem spF {A:Option Addr} {n c q:Nat} {p pt:DPoint} (w:World) (hx:p.tx.length=32) (hxn:I64 p.n) (hp:pt.tx.length=32) (hn:I64 pt.n) (hq:Gat w q (pointC pt)):Calls Tryz.prog 38 [.agg (inC p A n c).toArray,.pointer (some ⟨q,0,none⟩)].toArray w (Ret (Is w (.bool (beqPoint p pt)))):=by
 refine kE (l:=[_,_]) Tryz.func38 U U ?_
 have H:=St.start nT w
 refine kR (sf (ebx (vs:=(inC p A n c)) U U H ?_))
 clear H;intro gx W H
 refine sAb U (lkR (sFa U tf71_0 (sR (dM (g:=gx) (off:=0) U H (sub_in_p hx) (len_point hx) U U U ta27 ts27) (sR (d_ldGM (off:=0) U (H.gat hq) (sa (len_point hp)) (len_point hp) U U U ta27 ts27) (sR (d_eqst (r:=beqPoint p pt) U U U (eq_Point (d:=9997) (point_rep (W:=w) (S:=nT) hx hxn) (point_rep (W:=w) (S:=nT) hp hn)) (by kernel_rfl)) ?_)))))
 refine sAb U (ln (kx ?_))
 exact qr (v:=.bool _) U U ⟨_,U,vb (U),H.under⟩

theorem idxSp {S:Nat->Prop} {v:Value} {l:List DIn} {q:Nat} {pt:DPoint} (w:World) (hl:RL 34 RIn w S [v] l) (hp_:pt.tx.length=32) (hn:I64 pt.n) (hq:Gat w q (pointC pt)):Calls Tryz.prog 37 [v,.func (.func 38) #[] [.pointer (some ⟨q,0,none⟩)].toArray].toArray w (Ret (Is w (.int .i64 (Wt.atZ pt l)))):=by
 have hll:=rl_len hl
 obtain ⟨A,c,xs,hv_,hcA_,hcmA_,hr,hel⟩:=hl
 obtain rfl:v=.slice A l.length c:=by cases hv_;rfl
 refine kE (l:=[_,_]) Tryz.func37 U U ?_
 have H:=St.start nT w
 refine kR (sAi U (ln (kQ (kR (sMs U (sLn U tu44 (sMi U (ln (kb (kL 8 [4,5] (fun mm sl W=>∃i:Nat,l.length - i=mm∧sl=[(8,.int .i64 (i:Int))]∧(i<=l.length)∧(Wt.inAt pt (l.take i) 0=none)∧St nT w W []) _ _ ⟨0,U,U,Nat.zero_le _,U,H⟩ ⟨U,trivial⟩ (fun mm sl ρv W hJ=>?_)))))))))))
 clear H;obtain ⟨i,rfl,rfl,hi,hno,H⟩:=hJ
 refine ko (kR (sLt U U (ln (kQ (kC U (fun hc9=>?_) (fun hc9=>?_))))))
 ·replace hc9:=of_decide_eq_true hc9
  have hlt:i<l.length:=by omega
  obtain ⟨g0,o0,rfl,-⟩:=hr.2 (by omega)
  obtain ⟨x,hx⟩:=get_lt hlt
  obtain ⟨B2,d2,hL,hW,hp,hn3⟩:=in_of (hel i x hx)
  refine kS (kQ (kb (kR (sMi U (sAi U (lkR (sMf U (sMs U (sMi U (sR (dG U (H.rd hr) U U (q:=i) U hlt tu44 ts71) (sR (dN (off:=0) U (H.rd hr) hlt hL (sa (len_in hp)) U U (by omega) ta71 ts71) (sf (e_callv (wn U) U U U Tryz.func38 U U U (spF _ hp hn3 hp_ hn (H.gat hq)) ?_)))))))))))))
  rintro _ W ⟨rfl,hb⟩
  replace H:=H.below hb
  clear hb
  refine ln (kC U (fun hc16=>?_) (fun hc16=>?_))
  ·skip
   refine kR (sMi U (sAi U (ln (kx ?_))))
   exact qr (v:=.int _ _) U U ⟨_,U,by unfold Wt.atZ;rw [Wt.inAt_yes hx hno hc16],H.under⟩
  ·skip
   refine kS (kn (zE (kr (sAd U U (by omega) (sMi U (ln (kn (kY ?_))))))))
   refine ⟨_,_,_,?_,U,?_,?_,⟨i+1,U,U,by omega,Wt.inAt_no hx hno hc16,H⟩⟩
   ·omega
   ·with_reducible repeat first|exact .refl|refine .f ?_ ?_ ?_;kernel_rfl;kernel_rfl|refine .u ?_ ?_;kernel_rfl
   ·refine ⟨?_,trivial⟩
    ·exact vi (by omega)
 ·replace hc9:=of_decide_eq_false hc9
  refine ke (xQ (xQ ?_))
  refine xH (kQ ?_)
  obtain rfl:i=l.length:=by omega
  rw [List.take_length] at hno
  refine kr (sAi U (ln (kx ?_)))
  exact qr (v:=.int _ _) U U ⟨_,U,by unfold Wt.atZ;rw [hno],H.under⟩

def NewTxO (w:World) (t:DTx) (v:Value) (w':World):Prop:=∃A c B d xs ys S0 S1,v=.agg (txC A t.ins.length c B t.outs.length d t.lock).toArray∧St nT w w' [Fact.row 71 34 (.slice A t.ins.length c) t.ins.length xs,Fact.els RInO 34 S0 xs t.ins,Fact.row 41 2 (.slice B t.outs.length d) t.outs.length ys,Fact.els ROutO 2 S1 ys t.outs]
theorem NewTxO.c {w W W':World} {T:Nat->Prop} {L:List Fact} {t:DTx} {v:Value} (h:NewTxO W t v W') (H:St T w W L) (hk:I64 t.lock):∃S A c B d,v=.agg (txC A t.ins.length c B t.outs.length d t.lock).toArray∧St T w W' (Fact.repc RTx S (txC A t.ins.length c B t.outs.length d t.lock) t::L):=by
 obtain ⟨A,c,B,d,xs,ys,S0,S1,rfl,hn⟩:=h
 obtain ⟨S,H4⟩:=(H.add4 hn).newc hk
 exact ⟨S,A,c,B,d,U,H4⟩

theorem freshW {S:Nat->Prop} {cs:List Value} {t:DTx} (w:World) (ht:RTx w S cs t) (hf:Tx.Fits t):Calls Tryz.prog 39 [.agg cs.toArray].toArray w (Ret (NewTxO w t)):=by
 obtain ⟨A,c,B,d,rfl,hI,hO,hk⟩:=tx_of ht
 have hIl:=rl_len hI
 have hOl:=rl_len hO
 have hI0:=hI
 obtain ⟨A_,c_,xs,hv_,_,_,hr,hel⟩:=hI
 cases hv_
 have hO0:=hO
 obtain ⟨A_,c_,ys,hv_,_,_,hs,hes⟩:=hO
 cases hv_
 have hfi:=hf.ins
 have hfo:=hf.outs
 refine kE (l:=[_]) Tryz.func39 U U ?_
 have H:=St.start nT w
 refine kR (sf (ebx (vs:=(txC A t.ins.length c B t.outs.length d t.lock)) U U H ?_))
 clear H;intro gb W H
 refine sf (eal [.slice none 0 0,.slice none 0 0,.int .i64 0] tz47 H ?_)
 clear H;intro go W H
 refine lkR (sFa U tf47_2 (sR (dX (g:=gb) (off:=2) U H U U U ta3) (sR (dB (vs:=txC none 0 0 none 0 0 t.lock) U (by kernel_rfl)) ?_)))
 refine sf (eal [.slice none 0 0,.slice none 0 0,.int .i64 0] tz47 H ?_)
 clear H;intro g3 W H
 refine sf (esk (txC none 0 0 none 0 0 t.lock) U U U ts47 U U H (by decide) U ?_)
 clear H;intro W H
 refine ln (kQ (kR (sFa U tf47_0 (sR (dX (g:=gb) (off:=0) U H U U U ta44) (sLn U tu44 (sMi U (ln (kb (kL 17 [5,6,8] (fun mm sl W=>∃i:Nat,∃A1:Option Addr,∃c1:Nat,∃xs1:List Value,∃S1:Nat->Prop,t.ins.length - i=mm∧sl=[(17,.int .i64 (i:Int))]∧(i<=t.ins.length)∧(i<=c1∧c1<=9223372036854775807)∧St nT w W [Fact.row 71 34 (.slice A1 i c1) i xs1,Fact.els RInO 34 S1 xs1 (t.ins.take i),Fact.blk g3 (txC A1 i c1 none 0 0 t.lock) 47,Fact.blk gb (txC A t.ins.length c B t.outs.length d t.lock) 47,Fact.blk go (txC none 0 0 none 0 0 0) 47]) _ _ ⟨0,none,0,[],(fun _=>False),U,U,Nat.zero_le _,⟨Nat.le_refl _,by omega⟩,(((H.els0 RInO 34).nilrow 71 34).perm (by repeat (first|exact .refl _|refine .cons _ ?_|refine .trans (.cons _ ?_) (List.perm_middle (l₁:=[_])).symm|refine .trans (.cons _ ?_) (List.perm_middle (l₁:=[_,_])).symm|refine .trans (.cons _ ?_) (List.perm_middle (l₁:=[_,_,_])).symm|refine .trans (.cons _ ?_) (List.perm_middle (l₁:=[_,_,_,_])).symm|refine .trans (.cons _ ?_) (List.perm_middle (l₁:=[_,_,_,_,_])).symm|refine .trans (.cons _ ?_) (List.perm_middle (l₁:=[_,_,_,_,_,_])).symm|refine .trans (.cons _ ?_) (List.perm_middle (l₁:=[_,_,_,_,_,_,_])).symm)))⟩ ⟨U,trivial⟩ (fun mm sl ρv W hJ=>?_))))))))))
 clear H;obtain ⟨i,A1,c1,xs1,S1,rfl,rfl,hi,hd1,H⟩:=hJ
 refine ko (kR (sLt U U (ln (kQ (kC U (fun hc18=>?_) (fun hc18=>?_))))))
 ·have hlt:i<t.ins.length:=by simp at hc18;omega
  obtain ⟨g0,o0,rfl,-⟩:=hr.2 (by omega)
  obtain ⟨x,hx⟩:=get_lt hlt
  obtain ⟨Aw,cw,hL,hW,hp,hn⟩:=in_of (hel i x hx)
  have hfw:=hf.wit x (List.mem_of_getElem? hx)
  have hwl:=rl_len hW
  have hW0:=hW
  obtain ⟨Aw_,cw_,zs,hv2,_,_,hrw,helw⟩:=hW
  cases hv2
  refine kS (kQ (kb (kR (sR (dG U (H.rd hr) U U (q:=i) U hlt tu44 ts71) (sR (dN (off:=0) U (H.rd hr) hlt hL (sa (len_in hp)) U U (by omega) ta71 ts71) (sf (eal (inC zPt none 0 0) tzIn H ?_)))))))
  clear H;intro gy W H
  refine sf (esk (inC x.point Aw x.wit.length cw) U U U ts71 (len_in hp) in_one H (by rw [len_in (p:=zPt) U];decide) (spl_all ((len_in hp).trans (len_in (p:=zPt) U).symm)) ?_)
  clear H;intro W H
  refine lkR (sFa U tf71_0 (sR (dM (g:=gy) (off:=0) U H (sub_in_p hp) (len_point hp) U U U ta27 ts27) (sR (dB (vs:=inC x.point none 0 0) U (built_fields (places:=[(0,33),(33,1)]) tz71 (by kernel_rfl) (by kernel_rfl) (fN (vs:=pointC x.point) (.agg (pointC x.point).toArray) U U U (len_point hp) (Nat.le_of_ble_eq_true U) (fill_end (by rfl))))) ?_)))
  refine sf (eal (inC zPt none 0 0) tzIn H ?_)
  clear H;intro gz W H
  refine sf (esk (inC x.point none 0 0) U U U ts71 (len_in hp) in_one H (by rw [len_in (p:=zPt) U];decide) (spl_all ((len_in hp).trans (len_in (p:=zPt) U).symm)) ?_)
  clear H;intro W H
  refine ln (kQ (kR (sFa U tf71_1 (sR (dX (g:=gy) (off:=33) U H (sub_in_w hp) U U ta66) (sLn U tu66 (sMi U (ln (kb (kL 27 [8] (fun mm sl W=>∃k:Nat,∃A9:Option Addr,∃c9:Nat,∃vs:List Value,∃S9:Nat->Prop,x.wit.length - k=mm∧sl=[(27,.int .i64 (k:Int))]∧(k<=x.wit.length)∧(k<=c9∧c9<=9223372036854775807)∧St nT w W [Fact.row 23 1 (.slice A9 k c9) k vs,Fact.els RBO 1 S9 vs (x.wit.take k),Fact.blk gz (inC x.point A9 k c9) 71,Fact.row 71 34 (.slice A1 i c1) i xs1,Fact.els RInO 34 S1 xs1 (t.ins.take i),Fact.blk g3 (txC A1 i c1 none 0 0 t.lock) 47,Fact.blk gb (txC (some ⟨g0,o0,none⟩) t.ins.length c B t.outs.length d t.lock) 47,Fact.blk go (txC none 0 0 none 0 0 0) 47]) _ _ ⟨0,none,0,[],(fun _=>False),U,U,Nat.zero_le _,⟨Nat.le_refl _,by omega⟩,((H.els0 RBO 1).nilrow 23 1).sub (by repeat (first|exact .refl _|exact List.nil_sublist _|refine .cons_cons _ ?_|refine .cons _ ?_))⟩ ⟨U,trivial⟩ (fun mm sl ρv W hJ=>?_))))))))))
  clear H;obtain ⟨k,A9,c9,vs,S9,rfl,rfl,hk,hd9,H⟩:=hJ
  refine ko (kR (sLt U U (ln (kQ (kC U (fun hc28=>?_) (fun hc28=>?_))))))
  ·have hlk:k<x.wit.length:=by simp at hc28;omega
   obtain ⟨gw0,ow0,rfl,-⟩:=hrw.2 (by omega)
   obtain ⟨y,hy⟩:=get_lt hlk
   obtain ⟨Ay,cy,hLk,hBy⟩:=rb_of (helw k y hy)
   have hfy:=hfw.2 y (List.mem_of_getElem? hy)
   refine kS (kQ (kb (kR (sR (dG U (H.rd hrw) U U (q:=k) U hlk tu66 ts23) (sR (dE (off:=0) U (H.rd hrw) hlk hLk U U U (by omega) ta23) (sAs U (ln (k_cut 31 [] (fun sl W=>∃A8:Option Addr,∃c8:Nat,∃vs8:List Value,∃S8:Nat->Prop,sl=[]∧(k+1<=c8∧c8<=9223372036854775807)∧St nT w W [Fact.row 23 1 (.slice A8 (k+1) c8) (k+1) vs8,Fact.els RBO 1 S8 vs8 (x.wit.take k++[y]),Fact.blk gz (inC x.point A8 (k+1) c8) 71,Fact.row 71 34 (.slice A1 i c1) i xs1,Fact.els RInO 34 S1 xs1 (t.ins.take i),Fact.blk g3 (txC A1 i c1 none 0 0 t.lock) 47,Fact.blk gb (txC (some ⟨g0,o0,none⟩) t.ins.length c B t.outs.length d t.lock) 47,Fact.blk go (txC none 0 0 none 0 0 0) 47]) ?_ (fun sl ρv W hJ=>?_)))))))))
   ·skip
    refine k_drawT (.rd 0 (.rd 2 (.many 5 [1,3] fun j=>(bif Nat.beq j 1 then (.ef 3 (.ef 4 (.ef 5 (.rd 6 (.ef 7 .nil))))) else (.many 4 [1,4] fun j=>(bif Nat.beq j 1 then (.ef 4 (.ef 5 (.rd 6 (.ef 7 .nil)))) else (.ef 1 (.ef 5 (.rd 6 (.ef 7 .nil)))))))))) [] (by kernel_rfl) (by kernel_rfl) H (List.nil_sublist _) ?_
    clear H;intro W H
    refine tR U (fun W H=>dF U U tf71_1) (tR U (fun W H=>mv_s U U) (t_each ?_ ?_))
    ·skip
     refine tf U (e_run (wn U) U (dX (g:=gz) (off:=33) U H (sub_in_w hp) U U ta66) ?_)
     refine ⟨_,fun _ h=>h,H.sb,?_⟩
     refine tf U (eN Tryz.func34 U U (clone _ (H.bs hBy) hfy) H ?_)
     clear H;intro A5 c5 W hc5 hd5 H
     refine ⟨_,fun _ h=>h,H.sb,?_⟩
     refine tf U (ebs (xs:=[.tmp 34]) (vals:=[.slice A5 y.length c5]) (vs:=[.slice A5 y.length c5]) U U U U tu66 ts23 ty23 U U U H ?_)
     clear H;intro g9_4 W H
     refine ⟨_,fun _ h=>h,H.sb,?_⟩
     refine tf U (eap tu66 tx23 U U U H (rd_blk (m:=1) H.blk U) (U) (by omega) U ?_)
     clear H;intro A8 c8 W hc8 hd8 H
     replace H:=H.drop
     refine ⟨_,fun _ h=>h,H.sb,?_⟩
     refine tR U (fun W H=>dF U U tf71_1) (tf U (esk (v:=.slice A8 (k+1) c8) (vs:=[.slice A8 (k+1) c8]) (inC x.point A8 (k+1) c8) U U U ts66 U U H (by rw [len_in hp];decide) (spl_in_w2 hp) ?_))
     clear H;intro W H
     refine ⟨_,fun _ h=>h,H.sb,?_⟩
     refine t_nil (kn (n_then ?_))
     replace H:=H.torbO rfl
     replace H:=(St.elsnoc (H.perm (.cons _ (.swap _ _ _))) rfl).perm (.swap _ _ _)
     refine ⟨_,_,U,?_,?_,⟨A8,c8,_,_,U,⟨hc8,hd8⟩,H⟩⟩
     ·with_reducible repeat first|exact .refl|refine .f ?_ ?_ ?_;kernel_rfl;kernel_rfl|refine .u ?_ ?_;kernel_rfl
     ·exact trivial
    refine t_each ?_ ?_
    ·skip
     refine tf U (eN Tryz.func34 U U (clone _ (H.bs hBy) hfy) H ?_)
     clear H;intro A5 c5 W hc5 hd5 H
     refine ⟨_,fun _ h=>h,H.sb,?_⟩
     refine t_each ?_ ?_
     ·skip
      refine tf U (e_run (wn U) U (dX (g:=gz) (off:=33) U H (sub_in_w hp) U U ta66) ?_)
      refine ⟨_,fun _ h=>h,H.sb,?_⟩
      refine tf U (ebs (xs:=[.tmp 34]) (vals:=[.slice A5 y.length c5]) (vs:=[.slice A5 y.length c5]) U U U U tu66 ts23 ty23 U U U H ?_)
      clear H;intro g9_4 W H
      refine ⟨_,fun _ h=>h,H.sb,?_⟩
      refine tf U (eap tu66 tx23 U U U H (rd_blk (m:=1) H.blk U) (U) (by omega) U ?_)
      clear H;intro A8 c8 W hc8 hd8 H
      replace H:=H.drop
      refine ⟨_,fun _ h=>h,H.sb,?_⟩
      refine tR U (fun W H=>dF U U tf71_1) (tf U (esk (v:=.slice A8 (k+1) c8) (vs:=[.slice A8 (k+1) c8]) (inC x.point A8 (k+1) c8) U U U ts66 U U H (by rw [len_in hp];decide) (spl_in_w2 hp) ?_))
      clear H;intro W H
      refine ⟨_,fun _ h=>h,H.sb,?_⟩
      refine t_nil (kn (n_then ?_))
      replace H:=H.torbO rfl
      replace H:=(St.elsnoc (H.perm (.cons _ (.swap _ _ _))) rfl).perm (.swap _ _ _)
      refine ⟨_,_,U,?_,?_,⟨A8,c8,_,_,U,⟨hc8,hd8⟩,H⟩⟩
      ·with_reducible repeat first|exact .refl|refine .f ?_ ?_ ?_;kernel_rfl;kernel_rfl|refine .u ?_ ?_;kernel_rfl
      ·exact trivial
     refine t_each ?_ ?_
     ·skip
      refine tf U (ebs (xs:=[.tmp 34]) (vals:=[.slice A5 y.length c5]) (vs:=[.slice A5 y.length c5]) U U U U tu66 ts23 ty23 U U U H ?_)
      clear H;intro g9_4 W H
      refine ⟨_,fun _ h=>h,H.sb,?_⟩
      refine tf U (e_run (wn U) U (dX (g:=gz) (off:=33) U H (sub_in_w hp) U U ta66) ?_)
      refine ⟨_,fun _ h=>h,H.sb,?_⟩
      refine tf U (eap tu66 tx23 U U U H (rd_blk (m:=1) H.blk U) (U) (by omega) U ?_)
      clear H;intro A8 c8 W hc8 hd8 H
      replace H:=H.drop
      refine ⟨_,fun _ h=>h,H.sb,?_⟩
      refine tR U (fun W H=>dF U U tf71_1) (tf U (esk (v:=.slice A8 (k+1) c8) (vs:=[.slice A8 (k+1) c8]) (inC x.point A8 (k+1) c8) U U U ts66 U U H (by rw [len_in hp];decide) (spl_in_w2 hp) ?_))
      clear H;intro W H
      refine ⟨_,fun _ h=>h,H.sb,?_⟩
      refine t_nil (kn (n_then ?_))
      replace H:=H.torbO rfl
      replace H:=(St.elsnoc (H.perm (.cons _ (.swap _ _ _))) rfl).perm (.swap _ _ _)
      refine ⟨_,_,U,?_,?_,⟨A8,c8,_,_,U,⟨hc8,hd8⟩,H⟩⟩
      ·with_reducible repeat first|exact .refl|refine .f ?_ ?_ ?_;kernel_rfl;kernel_rfl|refine .u ?_ ?_;kernel_rfl
      ·exact trivial
     exact t_none
    exact t_none
   clear H;obtain ⟨A8,c8,vs8,S8,rfl,hd8,H⟩:=hJ
   refine kn (zE (kr (sAd U U (by omega) (sMi U (ln (kn (kY ?_)))))))
   refine ⟨_,_,_,?_,U,?_,?_,⟨k+1,A8,c8,vs8,S8,U,U,by omega,hd8,(by rw [take_get hy];exact H)⟩⟩
   ·omega
   ·with_reducible repeat first|exact .refl|refine .f ?_ ?_ ?_;kernel_rfl;kernel_rfl|refine .u ?_ ?_;kernel_rfl
   ·refine ⟨?_,trivial⟩
    ·exact vi (by omega)
  ·obtain rfl:k=x.wit.length:=by simp at hc28;omega
   rw [List.take_length] at H
   replace H:=H.tolistO
   replace H:=H.rerep (R':=RInO) (cs':=inC x.point A9 x.wit.length c9) (b:=x) (fun h=>in_repO hp hn h)
   refine ke (xQ (xQ ?_))
   refine xH (kr (sFa U tf47_0 (sR (dX (g:=g3) (off:=0) U H U U U ta44) (sR (dM (g:=gz) (off:=0) U H (sa (len_in hp)) (len_in hp) U U U ta71 ts71) (sf (ebs (xs:=[.tmp 41]) (vals:=[.agg (inC x.point A9 x.wit.length c9).toArray]) (vs:=(inC x.point A9 x.wit.length c9)) U U U U tu44 ts71 ty71 U (by simp [agg_cells,len_in hp]) (by simp [agg_cells]) H ?_))))))
   clear H;intro g11_3 W H
   refine sf (eap tu44 tx71 U U U H (rd_blk (m:=1) H.blk (len_in hp)) (in_one) (by omega) U ?_)
   clear H;intro A7 c7 W hc7 hd7 H
   replace H:=H.drop
   refine sFa U tf47_0 (sf (esk (v:=.slice A7 (i+1) c7) (vs:=[.slice A7 (i+1) c7]) (txC A7 (i+1) c7 none 0 0 t.lock) U U U ts44 U U H (Nat.le_of_ble_eq_true U) U ?_))
   clear H;intro W H
   refine ln ?_
   replace H:=H.sub (L':=[_,Fact.row 71 34 (.slice A7 (i+1) c7) (i+1) (xs1++inC x.point A9 x.wit.length c9),Fact.els RInO 34 S1 xs1 (t.ins.take i),Fact.blk g3 (txC A7 (i+1) c7 none 0 0 t.lock) 47,Fact.blk gb (txC (some ⟨g0,o0,none⟩) t.ins.length c B t.outs.length d t.lock) 47,Fact.blk go (txC none 0 0 none 0 0 0) 47]) (by repeat (first|exact .refl _|exact List.nil_sublist _|refine .cons_cons _ ?_|refine .cons _ ?_))
   replace H:=(St.elsnoc (H.perm (.cons _ (.swap _ _ _))) (len_in hp)).perm (.swap _ _ _)
   refine kn (zE (kr (sAd U U (by omega) (sMi U (ln (kn (kY ?_)))))))
   refine ⟨_,_,_,?_,U,?_,?_,⟨i+1,A7,c7,_,_,U,U,by omega,⟨hc7,hd7⟩,(by rw [take_get hx];exact H)⟩⟩
   ·omega
   ·with_reducible repeat first|exact .refl|refine .f ?_ ?_ ?_;kernel_rfl;kernel_rfl|refine .u ?_ ?_;kernel_rfl
   ·refine ⟨?_,trivial⟩
    ·exact vi (by omega)
 ·obtain rfl:i=t.ins.length:=by simp at hc18;omega
  rw [List.take_length] at H
  refine ke (xQ (xQ ?_))
  refine xH (kQ (kR (sFa U tf47_1 (sR (dX (g:=gb) (off:=1) U H U U U ta45) (sLn U tu45 (sMi U (ln (kb (kL 49 [10] (fun mm sl W=>∃i:Nat,∃B1:Option Addr,∃d1:Nat,∃ys1:List Value,∃S2:Nat->Prop,t.outs.length - i=mm∧sl=[(49,.int .i64 (i:Int))]∧(i<=t.outs.length)∧(i<=d1∧d1<=9223372036854775807)∧St nT w W [Fact.row 41 2 (.slice B1 i d1) i ys1,Fact.els ROutO 2 S2 ys1 (t.outs.take i),Fact.blk g3 (txC A1 t.ins.length c1 B1 i d1 t.lock) 47,Fact.row 71 34 (.slice A1 t.ins.length c1) t.ins.length xs1,Fact.els RInO 34 S1 xs1 t.ins,Fact.blk gb (txC A t.ins.length c B t.outs.length d t.lock) 47,Fact.blk go (txC none 0 0 none 0 0 0) 47]) _ _ ⟨0,none,0,[],(fun _=>False),U,U,Nat.zero_le _,⟨Nat.le_refl _,by omega⟩,(((H.els0 ROutO 2).nilrow 41 2).perm (by repeat (first|exact .refl _|refine .cons _ ?_|refine .trans (.cons _ ?_) (List.perm_middle (l₁:=[_])).symm|refine .trans (.cons _ ?_) (List.perm_middle (l₁:=[_,_])).symm|refine .trans (.cons _ ?_) (List.perm_middle (l₁:=[_,_,_])).symm|refine .trans (.cons _ ?_) (List.perm_middle (l₁:=[_,_,_,_])).symm|refine .trans (.cons _ ?_) (List.perm_middle (l₁:=[_,_,_,_,_])).symm|refine .trans (.cons _ ?_) (List.perm_middle (l₁:=[_,_,_,_,_,_])).symm|refine .trans (.cons _ ?_) (List.perm_middle (l₁:=[_,_,_,_,_,_,_])).symm)))⟩ ⟨U,trivial⟩ (fun mm sl ρv W hJ=>?_))))))))))
  clear H;obtain ⟨i,B1,d1,ys1,S2,rfl,rfl,hi,he1,H⟩:=hJ
  refine ko (kR (sLt U U (ln (kQ (kC U (fun hc50=>?_) (fun hc50=>?_))))))
  ·have hlt:i<t.outs.length:=by simp at hc50;omega
   obtain ⟨g0,o0,rfl,-⟩:=hs.2 (by omega)
   obtain ⟨y,hy⟩:=get_lt hlt
   obtain ⟨Ay,cy,hL,hBy,hny⟩:=out_of (hes i y hy)
   have hfy:=hf.scr y (List.mem_of_getElem? hy)
   refine kS (kQ (kb (kR (sR (dG U (H.rd hs) U U (q:=i) U hlt tu45 ts41) (sR (dN (off:=0) U (H.rd hs) hlt hL U U U (by omega) ta41 ts41) (sf (eal [.int .i64 0,.slice none 0 0] tz41 H ?_)))))))
   clear H;intro gw W H
   refine sf (esk (outC y.value Ay y.script.length cy) U U U ts41 U U H (by decide) U ?_)
   clear H;intro W H
   refine ln (k_cut 53 [] (fun sl W=>∃B8:Option Addr,∃d8:Nat,∃ys8:List Value,∃S8:Nat->Prop,sl=[]∧(i+1<=d8∧d8<=9223372036854775807)∧St nT w W [Fact.row 41 2 (.slice B8 (i+1) d8) (i+1) ys8,Fact.els ROutO 2 S8 ys8 (t.outs.take i++[y]),Fact.blk g3 (txC A1 t.ins.length c1 B8 (i+1) d8 t.lock) 47,Fact.row 71 34 (.slice A1 t.ins.length c1) t.ins.length xs1,Fact.els RInO 34 S1 xs1 t.ins,Fact.blk gb (txC A t.ins.length c (some ⟨g0,o0,none⟩) t.outs.length d t.lock) 47,Fact.blk go (txC none 0 0 none 0 0 0) 47]) ?_ (fun sl ρv W hJ=>?_))
   ·skip
    refine k_drawT (.rd 0 (.rd 2 (.rd 3 (.rd 4 (.rd 5 (.many 6 [1,6] fun j=>(bif Nat.beq j 1 then (.ef 6 (.rd 7 (.ef 8 (.ef 9 (.rd 10 (.ef 11 .nil)))))) else (.rd 7 (.many 4 [1,8] fun j=>(bif Nat.beq j 1 then (.ef 8 (.ef 9 (.rd 10 (.ef 11 .nil)))) else (.ef 1 (.ef 9 (.rd 10 (.ef 11 .nil)))))))))))))) [Fact.blk gw (outC y.value Ay y.script.length cy) 41] (by kernel_rfl) (by kernel_rfl) H (by repeat (first|exact .refl _|exact List.nil_sublist _|refine .cons_cons _ ?_|refine .cons _ ?_)) ?_
    clear H;intro W H
    refine tR U (fun W H=>dF U U tf47_1) (tR U (fun W H=>dF U U tf41_0) (tR U (fun W H=>dX (g:=gw) (off:=0) U H U U U ta3) (tR U (fun W H=>dF U U tf41_1) (tR U (fun W H=>dX (g:=gw) (off:=1) U H U U U ta23) (t_each ?_ ?_)))))
    ·skip
     refine tf U (e_run (wn U) U (dX (g:=g3) (off:=1) U H U U U ta45) ?_)
     refine ⟨_,fun _ h=>h,H.sb,?_⟩
     refine tf U (eN Tryz.func34 U U (clone _ (H.bs hBy) hfy) H ?_)
     clear H;intro A5 c5 W hc5 hd5 H
     refine ⟨_,fun _ h=>h,H.sb,?_⟩
     refine tR U (fun W H=>dB (vs:=outC y.value A5 y.script.length c5) U (built_fields (places:=[(0,1),(1,1)]) tz41 (by kernel_rfl) (by kernel_rfl) (fN (vs:=[.int .i64 y.value]) (.int .i64 y.value) U U U U (Nat.le_of_ble_eq_true U) (fN (vs:=[.slice A5 y.script.length c5]) (.slice A5 y.script.length c5) U (by rfl) U U (Nat.le_of_ble_eq_true U) (fill_end (by rfl)))))) ?_
     refine tf U (ebs (xs:=[.tmp 60]) (vals:=[.agg (outC y.value A5 y.script.length c5).toArray]) (vs:=(outC y.value A5 y.script.length c5)) U U U U tu45 ts41 ty41 U (by simp [agg_cells,outC]) (by simp [agg_cells]) H ?_)
     clear H;intro g16_8 W H
     refine ⟨_,fun _ h=>h,H.sb,?_⟩
     refine tf U (eap tu45 tx41 U U U H (rd_blk (m:=1) H.blk U) (U) (by omega) U ?_)
     clear H;intro A8 c8 W hc8 hd8 H
     replace H:=H.drop
     refine ⟨_,fun _ h=>h,H.sb,?_⟩
     refine tR U (fun W H=>dF U U tf47_1) (tf U (esk (v:=.slice A8 (i+1) c8) (vs:=[.slice A8 (i+1) c8]) (txC A1 t.ins.length c1 A8 (i+1) c8 t.lock) U U U ts45 U U H (Nat.le_of_ble_eq_true U) U ?_))
     clear H;intro W H
     refine ⟨_,fun _ h=>h,H.sb,?_⟩
     refine t_nil (kn (n_then ?_))
     replace H:=H.torbO rfl
     replace H:=H.rerep (R':=ROutO) (cs':=outC y.value A5 y.script.length c5) (b:=y) (fun h=>out_repO hny h)
     replace H:=(H.perm (.swap _ _ _)).drop
     replace H:=(St.elsnoc (H.perm (.cons _ (.swap _ _ _))) rfl).perm (.swap _ _ _)
     refine ⟨_,_,U,?_,?_,⟨A8,c8,_,_,U,⟨hc8,hd8⟩,H⟩⟩
     ·with_reducible repeat first|exact .refl|refine .f ?_ ?_ ?_;kernel_rfl;kernel_rfl|refine .u ?_ ?_;kernel_rfl
     ·exact trivial
    refine t_each ?_ ?_
    ·skip
     refine tf U (eN Tryz.func34 U U (clone _ (H.bs hBy) hfy) H ?_)
     clear H;intro A5 c5 W hc5 hd5 H
     refine ⟨_,fun _ h=>h,H.sb,?_⟩
     refine tR U (fun W H=>dB (vs:=outC y.value A5 y.script.length c5) U (built_fields (places:=[(0,1),(1,1)]) tz41 (by kernel_rfl) (by kernel_rfl) (fN (vs:=[.int .i64 y.value]) (.int .i64 y.value) U U U U (Nat.le_of_ble_eq_true U) (fN (vs:=[.slice A5 y.script.length c5]) (.slice A5 y.script.length c5) U (by rfl) U U (Nat.le_of_ble_eq_true U) (fill_end (by rfl)))))) ?_
     refine t_each ?_ ?_
     ·skip
      refine tf U (e_run (wn U) U (dX (g:=g3) (off:=1) U H U U U ta45) ?_)
      refine ⟨_,fun _ h=>h,H.sb,?_⟩
      refine tf U (ebs (xs:=[.tmp 60]) (vals:=[.agg (outC y.value A5 y.script.length c5).toArray]) (vs:=(outC y.value A5 y.script.length c5)) U U U U tu45 ts41 ty41 U (by simp [agg_cells,outC]) (by simp [agg_cells]) H ?_)
      clear H;intro g16_8 W H
      refine ⟨_,fun _ h=>h,H.sb,?_⟩
      refine tf U (eap tu45 tx41 U U U H (rd_blk (m:=1) H.blk U) (U) (by omega) U ?_)
      clear H;intro A8 c8 W hc8 hd8 H
      replace H:=H.drop
      refine ⟨_,fun _ h=>h,H.sb,?_⟩
      refine tR U (fun W H=>dF U U tf47_1) (tf U (esk (v:=.slice A8 (i+1) c8) (vs:=[.slice A8 (i+1) c8]) (txC A1 t.ins.length c1 A8 (i+1) c8 t.lock) U U U ts45 U U H (Nat.le_of_ble_eq_true U) U ?_))
      clear H;intro W H
      refine ⟨_,fun _ h=>h,H.sb,?_⟩
      refine t_nil (kn (n_then ?_))
      replace H:=H.torbO rfl
      replace H:=H.rerep (R':=ROutO) (cs':=outC y.value A5 y.script.length c5) (b:=y) (fun h=>out_repO hny h)
      replace H:=(H.perm (.swap _ _ _)).drop
      replace H:=(St.elsnoc (H.perm (.cons _ (.swap _ _ _))) rfl).perm (.swap _ _ _)
      refine ⟨_,_,U,?_,?_,⟨A8,c8,_,_,U,⟨hc8,hd8⟩,H⟩⟩
      ·with_reducible repeat first|exact .refl|refine .f ?_ ?_ ?_;kernel_rfl;kernel_rfl|refine .u ?_ ?_;kernel_rfl
      ·exact trivial
     refine t_each ?_ ?_
     ·skip
      refine tf U (ebs (xs:=[.tmp 60]) (vals:=[.agg (outC y.value A5 y.script.length c5).toArray]) (vs:=(outC y.value A5 y.script.length c5)) U U U U tu45 ts41 ty41 U (by simp [agg_cells,outC]) (by simp [agg_cells]) H ?_)
      clear H;intro g16_8 W H
      refine ⟨_,fun _ h=>h,H.sb,?_⟩
      refine tf U (e_run (wn U) U (dX (g:=g3) (off:=1) U H U U U ta45) ?_)
      refine ⟨_,fun _ h=>h,H.sb,?_⟩
      refine tf U (eap tu45 tx41 U U U H (rd_blk (m:=1) H.blk U) (U) (by omega) U ?_)
      clear H;intro A8 c8 W hc8 hd8 H
      replace H:=H.drop
      refine ⟨_,fun _ h=>h,H.sb,?_⟩
      refine tR U (fun W H=>dF U U tf47_1) (tf U (esk (v:=.slice A8 (i+1) c8) (vs:=[.slice A8 (i+1) c8]) (txC A1 t.ins.length c1 A8 (i+1) c8 t.lock) U U U ts45 U U H (Nat.le_of_ble_eq_true U) U ?_))
      clear H;intro W H
      refine ⟨_,fun _ h=>h,H.sb,?_⟩
      refine t_nil (kn (n_then ?_))
      replace H:=H.torbO rfl
      replace H:=H.rerep (R':=ROutO) (cs':=outC y.value A5 y.script.length c5) (b:=y) (fun h=>out_repO hny h)
      replace H:=(H.perm (.swap _ _ _)).drop
      replace H:=(St.elsnoc (H.perm (.cons _ (.swap _ _ _))) rfl).perm (.swap _ _ _)
      refine ⟨_,_,U,?_,?_,⟨A8,c8,_,_,U,⟨hc8,hd8⟩,H⟩⟩
      ·with_reducible repeat first|exact .refl|refine .f ?_ ?_ ?_;kernel_rfl;kernel_rfl|refine .u ?_ ?_;kernel_rfl
      ·exact trivial
     exact t_none
    exact t_none
   clear H;obtain ⟨B8,d8,ys8,S8,rfl,he8,H⟩:=hJ
   refine kn (zE (kr (sAd U U (by omega) (sMi U (ln (kn (kY ?_)))))))
   refine ⟨_,_,_,?_,U,?_,?_,⟨i+1,B8,d8,ys8,S8,U,U,by omega,he8,(by rw [take_get hy];exact H)⟩⟩
   ·omega
   ·with_reducible repeat first|exact .refl|refine .f ?_ ?_ ?_;kernel_rfl;kernel_rfl|refine .u ?_ ?_;kernel_rfl
   ·refine ⟨?_,trivial⟩
    ·exact vi (by omega)
  ·obtain rfl:i=t.outs.length:=by simp at hc50;omega
   rw [List.take_length] at H
   refine ke (xQ (xQ ?_))
   refine xH (kR (sR (dM (g:=g3) (off:=0) U H (sa (a:=txC A1 t.ins.length c1 B1 t.outs.length d1 t.lock) (m:=3) U) U U U U ta47 ts47) (sf (esk (txC A1 t.ins.length c1 B1 t.outs.length d1 t.lock) U U U ts47 U U H (by decide) U ?_))))
   clear H;intro W H
   refine ln (kx ?_)
   refine q_retc U (c:=txC A1 t.ins.length c1 B1 t.outs.length d1 t.lock) (g:=go) H U ta47 ts47 ⟨_,U,A1,c1,B1,d1,xs1,ys1,S1,S2,U,?_⟩
   have H4:St nT w W [Fact.row 41 2 (.slice B1 t.outs.length d1) t.outs.length ys1,Fact.els ROutO 2 S2 ys1 t.outs,Fact.row 71 34 (.slice A1 t.ins.length c1) t.ins.length xs1,Fact.els RInO 34 S1 xs1 t.ins]:=H.sb
   exact H4.perm (List.perm_append_comm (l₁:=[_,_]) (l₂:=[_,_]))

section
variable {P:Program} {fn:Func} {R:Ending->World->Prop} {n:Nat} {ρ:Nat->Value} {w0 W:World} {T:Nat->Prop} {L:List Fact} {t t' t2 t2':TypeId} {g g2:Nat} {p q:Tmp} {v:Value} {c:List Value}
theorem q_cells (hr:fn.results=#[.cell p t,.cell q t2]) (H:St T w0 W L) (hx:ev n ρ (.tmp p)=.pointer (some ⟨g,0,none⟩)) (hy:ev n ρ (.tmp q)=.pointer (some ⟨g2,0,none⟩)) (ha:aggB P t=some true) (ha2:aggB P t2=some false) [hb:Blk g L c t'] [hb2:Blk g2 L [v] t2'] (hs:(P.info? t).map (·.size)=some c.length) (h:R (.returned (.tuple #[.agg c.toArray,v])) W):bodyPost P fn R .ret (st n ρ []) W:=by
 refine ⟨U,.tuple #[.agg c.toArray,v],?_,h⟩
 have hl:(loadVar t ⟨g,0,none⟩).run P W=.ok (.agg c.toArray) W:=loadsM ha hs H.blk
 have hl2:(loadVar t2 ⟨g2,0,none⟩).run P W=.ok v W:=loads1 ha2 (H.blk (g:=g2))
 have hp:(st n ρ []).tmps.getD p undef=.pointer (some ⟨g,0,none⟩):=by rw [st_getD];exact hx
 have hq:(st n ρ []).tmps.getD q undef=.pointer (some ⟨g2,0,none⟩):=by rw [st_getD];exact hy
 have hp2:(st n ρ []).tmps[p]?.getD undef=.pointer (some ⟨g,0,none⟩):=by simpa using hp
 have hq2:(st n ρ []).tmps[q]?.getD undef=.pointer (some ⟨g2,0,none⟩):=by simpa using hq
 simp [results,hr,hp2,hq2,asAddr,hl,hl2]
end
namespace Wt
theorem atZ_ge {p:DPoint} {l:List DIn} (h:0<=atZ p l):∃n:Nat,inAt p l 0=some n∧atZ p l=n:=by
 unfold atZ at h ⊢
 cases e:inAt p l 0 with
 | none=>rw [e] at h;simp at h
 | some n=>exact ⟨n,rfl,rfl⟩
theorem atZ_lt {p:DPoint} {l:List DIn} (h:¬0<=atZ p l):inAt p l 0=none:=by
 unfold atZ at h
 cases e:inAt p l 0 with
 | none=>rfl
 | some n=>rw [e] at h;simp at h
end Wt
def spC (A:Option Addr) (n c:Nat) (B:Option Addr) (m d:Nat) (k a b:Int):List Value:=[.slice A n c,.slice B m d,.int .i64 k,.int .i64 a,.int .i64 b]
structure SpO where
 S:Nat->Prop
 A:Option Addr
 c:Nat
 B:Option Addr
 d:Nat
 t:DTx
 n:Int
 k:Int
def SpO.cs (z:SpO):List Value:=txC z.A z.t.ins.length z.c z.B z.t.outs.length z.d z.t.lock
def SpO.sp (z:SpO):List Value:=spC z.A z.t.ins.length z.c z.B z.t.outs.length z.d z.t.lock z.n z.k
def SpO.Is (p:List DBlock) (pt:DPoint) (z:SpO):Prop:=match Wt.spent p pt with
 | some x=>z.t=x.1∧z.n=(x.2.1:Int)∧z.k=x.2.2
 | none=>z.t=Tx.zero∧z.n=0∧z.k=0
def zSp:SpO:=⟨fun _=>False,none,0,none,0,Tx.zero,0,0⟩
def Tx.FitW (t:DTx):Prop:=Tx.Fits t∧Tx.FitZ t
theorem NewTxO.zc {w W W':World} {T:Nat->Prop} {L:List Fact} {t:DTx} {v:Value} (h:NewTxO W t v W') (H:St T w W L) (hk:I64 t.lock) (hf:Tx.FitZ t):∃S A c B d,v=.agg (txC A t.ins.length c B t.outs.length d t.lock).toArray∧St T w W' (Fact.zc 71 41 S A c B d t::L):=by
 obtain ⟨A,c,B,d,xs,ys,S0,S1,rfl,hn⟩:=h
 obtain ⟨S,H4⟩:=(H.add4 hn).newzc hk hf
 exact ⟨S,A,c,B,d,U,H4⟩

theorem spentP {S:Nat->Prop} {B:Option Addr} {c:Nat} {p:List DBlock} (w:World) (hl:RL 66 RBlock w S [.slice B p.length c] p) (hP:∀b∈p,∀t∈b.txs,Tx.FitW t) {pt:DPoint} (hp:pt.tx.length=32) (hn:I64 pt.n):Calls Tryz.prog 13 [.slice B p.length c,.agg (pointC pt).toArray].toArray w (Ret (fun v' w'=>∃z:SpO,z.Is p pt∧v'=.tuple #[.agg z.sp.toArray,.bool (Wt.spent p pt).isSome]∧St nT w w' [Fact.zc 71 41 z.S z.A z.c z.B z.d z.t])):=by
 refine k_enterM (l:=[_,_]) Tryz.func13 U U ?_
 have H:=St.start nT w
 refine kR (sf (ebx (vs:=(pointC pt)) U U H ?_))
 clear H;intro gp W H
 refine sf (eal (spC none 0 0 none 0 0 0 0 0) tz49 H ?_)
 clear H;intro gs W H
 refine sf (eal [.bool false] tz4 H ?_)
 clear H;intro gk W H
 refine ln (kQ (kR (sMs U (sf (ecl Tryz.func32 U U (allP _) ?_)))))
 rintro _ W ⟨q,rfl,hn1⟩
 replace H:=H.new hn1
 clear hn1
 refine ln (kb ?_)
 have hq:=gatb (H.blk (g:=q))
 have hQ:=blk_lt (H.blk (g:=q))
 have hGs:=blk_lt (H.blk (g:=gs))
 have hGk:=blk_lt (H.blk (g:=gk))
 have hGp:=blk_lt (H.blk (g:=gp))
 refine k_rangeB (α:=WXs w S Tx.FitW) (β:=Unit) (β':=SpO) [Fact.blk q [.slice B p.length c] 22] (fun _ _=>[Fact.blk gk [.bool false] 4,Fact.blk gs (spC none 0 0 none 0 0 0 0 0) 49,Fact.blk gp (pointC pt) 27]) (fun pre _=>Wt.spentF pt (pls pre)=none) (fun _ z=>[Fact.zc 71 41 z.S z.A z.c z.B z.d z.t,Fact.blk gk [.bool true] 4,Fact.blk gs (z.sp) 49]) (fun pre z=>∃p0 x n0,pls pre=p0++[x]∧Wt.spentF pt p0=none∧Wt.inAt pt x.2.ins 0=some n0∧z.n=((n0:Nat):Int)∧z.k=x.1∧z.t=x.2) Sn0 (fun x=>x.1.cs) 47 (fun ρ x=>upd (upd ρ 11 (.int .i64 x.1.d)) 12 (.agg x.1.cs.toArray)) (fun ρ x g=>upd (upd (upd (upd ρ 11 (.int .i64 x.1.d)) 12 (.agg x.1.cs.toArray)) 6 (.int .i64 x.1.d)) 7 (.pointer (some ⟨g,0,none⟩))) () U Tryz.func52 U U (all_stops (K0:=(·=q)) w W H.under hq U (fun g hg=>by subst hg;exact hQ) hl hP) (fun _=>U) (fun _=>ra_two) H U (fun g hg=>⟨_,.head _,hg⟩) snap0 (fun pre z W1 hC H1=>s1_const (fp_cons (fp_eq hGk) (fp_cons (fp_eq hGs) (fp_cons (fp_eq hGp) fp_nil)))) (fun pre z W1 hC H1 f hf g hg=>by
  rcases List.mem_cons.1 hf with rfl|hf
  ·exact .inr ((H1.holds _ (.head _)).2 g hg)
  rcases List.mem_cons.1 hf with rfl|hf
  ·exact .inl (fp_eq hGk g hg)
  obtain rfl:=List.mem_singleton.1 hf
  exact .inl (fp_eq hGs g hg)) ?_ ?_ ?_ ?_
 ·intro l x W1
  clear H
  have H:=St.start nT W1
  refine y_seq ?_
  obtain ⟨⟨xd,xc,xt⟩,hx0,hft⟩:=x
  obtain ⟨Ai,ci,Bi,di,hL_,hIx,-,hkt⟩:=tx_of hx0
  dsimp only at hL_ hft
  subst hL_
  refine y_region (rX (fun _=>trivial) (fun c h=>by cases h) (wn U) U (as_i U U) ?_)
  refine ry_nil (y_region (r_eff (fun _=>trivial) (fun c h=>by cases h) (e_alloc (wn U) U U [.slice none 0 0,.slice none 0 0,.int .i64 0] tz47 H ?_)))
  clear H;intro gx W H
  refine r_eff (fun _=>trivial) (fun c h=>by cases h) (e_stoK (txC Ai xt.ins.length ci Bi xt.outs.length di xt.lock) (wn U) U U U U U ts47 U U H (by decide) U ?_)
  clear H;intro W H
  refine ry_nil (y_nil (round_a ?_))
  exact ⟨gx,U,H.under,(H.own _ (.head _) gx U).1.resolve_left (fun h=>h),H.blk⟩
 ·rintro l_ pre x ⟨⟩ gx W1 T1 hC hlen hpast H
  have hRx:=x.2.1
  obtain ⟨⟨xd,xc,xt⟩,hx0,hft⟩:=x
  obtain ⟨Ai,ci,Bi,di,hL_,hIx,-,hkt⟩:=tx_of hx0
  dsimp only at hL_ hft
  subst hL_
  replace H:St T1 W1 W1 (Fact.blk gx (txC Ai xt.ins.length ci Bi xt.outs.length di xt.lock) 47::[Fact.blk gk [.bool false] 4,Fact.blk gs (spC none 0 0 none 0 0 0 0 0) 49,Fact.blk gp (pointC pt) 27]):=H
  refine y_block (y_seq (y_region (rX (fun _=>trivial) (fun c h=>by cases h) (wn U) U (dF U U tf47_0) ?_)))
  refine rX (fun _=>trivial) (fun c h=>by cases h) (wn U) U (dX (g:=gx) (off:=0) U H U U U ta44) ?_
  refine rX (fun _=>trivial) (fun c h=>by cases h) (wn U) U (d_mkf U U U) ?_
  refine r_eff (fun _=>trivial) (fun c h=>by cases h) (e_call (wn U) U U Tryz.func37 U U U (idxSp _ (keeps_L keeps_In _ _ _ _ _ hIx (fun g hg _=>(hpast _ H.fr).block g hg)) hp hn (gatb (H.blk (g:=gp)))) ?_)
  rintro _ W ⟨rfl,hb⟩
  replace H:=H.below hb
  clear hb
  refine rX (fun _=>trivial) (fun c h=>by cases h) (wn U) U (as_i U U) ?_
  refine ry_nil (y_seq (y_region (rX (fun _=>trivial) (fun c h=>by cases h) (wn U) U (mv_i U U) ?_)))
  refine rX (fun _=>trivial) (fun c h=>by cases h) (wn U) U (d_ge U U U) ?_
  refine ry_nil (y_cond U (fun hc18=>?_) (fun hc18=>?_))
  ·obtain ⟨n0,hat1,hat2⟩:=Wt.atZ_ge (of_decide_eq_true hc18)
   refine y_seq (y_region (rX (fun _=>trivial) (fun c h=>by cases h) (wn U) U (dM (g:=gx) (off:=0) U H (sa (a:=txC Ai xt.ins.length ci Bi xt.outs.length di xt.lock) (m:=3) U) U U U U ta47 ts47) ?_))
   refine r_eff (fun _=>trivial) (fun c h=>by cases h) (e_call (wn U) U U Tryz.func39 U U U (freshW _ (keeps_Tx _ _ _ _ _ hRx (fun g hg _=>(hpast _ H.fr).block g hg)) hft.1) ?_)
   rintro _ W hs_
   obtain ⟨Sn,An,cn,Bn,dn,rfl,H1_⟩:=NewTxO.zc hs_ H hkt hft.2
   clear H hs_
   have H:=H1_
   clear H1_
   refine rX (fun _=>trivial) (fun c h=>by cases h) (wn U) U (mv_i U U) ?_
   refine rX (fun _=>trivial) (fun c h=>by cases h) (wn U) U (mv_i U U) ?_
   refine rX (fun _=>trivial) (fun c h=>by cases h) (wn U) U (dB (vs:=spC An xt.ins.length cn Bn xt.outs.length dn xt.lock (Wt.atZ pt xt.ins) xd) U (built_fields (places:=[(0,3),(3,1),(4,1)]) tz49 (by kernel_rfl) (by kernel_rfl) (fN (vs:=txC An xt.ins.length cn Bn xt.outs.length dn xt.lock) (.agg (txC An xt.ins.length cn Bn xt.outs.length dn xt.lock).toArray) U U U U (Nat.le_of_ble_eq_true U) (fN (vs:=[.int .i64 (Wt.atZ pt xt.ins)]) (.int .i64 (Wt.atZ pt xt.ins)) U (by rfl) U U (Nat.le_of_ble_eq_true U) (fN (vs:=[.int .i64 xd]) (.int .i64 xd) U (by rfl) U U (Nat.le_of_ble_eq_true U) (fill_end (by rfl))))))) ?_
   refine r_eff (fun _=>trivial) (fun c h=>by cases h) (e_stoK (spC An xt.ins.length cn Bn xt.outs.length dn xt.lock (Wt.atZ pt xt.ins) xd) (wn U) U U U U U ts49 U U H (by decide) U ?_)
   clear H;intro W H
   refine r_eff (fun _=>trivial) (fun c h=>by cases h) (e_stoK (v:=.bool true) (vs:=[.bool true]) ([.bool true]) (wn U) U U U U U ts4 U U H (Nat.le_of_ble_eq_true U) U ?_)
   clear H;intro W H
   refine ry_nil (y_ret ?_)
   repeat (first|refine r_then ?_|refine r_blk ?_)
   refine round_r ?_
   refine ⟨⟨Sn,An,cn,Bn,dn,xt,Wt.atZ pt xt.ins,xd⟩,⟨pls pre,(xd,xt),n0,pls_snoc,hC,hat1,hat2,U,U⟩,?_⟩
   exact H.sub (L':=[Fact.zc 71 41 Sn An cn Bn dn xt,Fact.blk gk [.bool true] 4,Fact.blk gs (spC An xt.ins.length cn Bn xt.outs.length dn xt.lock (Wt.atZ pt xt.ins) xd) 49]) (by repeat (first|exact .refl _|exact List.nil_sublist _|refine .cons_cons _ ?_|refine .cons _ ?_))
  ·have hat:=Wt.atZ_lt (of_decide_eq_false hc18)
   refine y_skip (y_nil (yb_end (y_nil (round_n ?_))))
   refine ⟨(),?_,H.sub (L':=[Fact.blk gk [.bool false] 4,Fact.blk gs (spC none 0 0 none 0 0 0 0 0) 49,Fact.blk gp (pointC pt) 27]) (by repeat (first|exact .refl _|exact List.nil_sublist _|refine .cons_cons _ ?_|refine .cons _ ?_))⟩
   rw [pls_snoc]
   exact Wt.spentF_snoc hC hat
 ·rintro D xs ⟨⟩ W hS hC H
  have hv:Wt.spent p pt=none:=by unfold Wt.spent;rw [Wt.spent_flat];show Wt.spentF _ (flatP p)=none;rw [←hS];exact hC
  replace H:St nT w W (Fact.obj D (.deferred (some []))::[Fact.blk gk [.bool false] 4,Fact.blk gs (spC none 0 0 none 0 0 0 0 0) 49,Fact.blk gp (pointC pt) 27]):=H
  refine kn (zE (kR (sR (dB (vs:=spC none 0 0 none 0 0 0 0 0) U (by kernel_rfl)) ?_)))
  refine sf (esk (spC none 0 0 none 0 0 0 0 0) U U U ts49 U U H (by decide) U ?_)
  clear H;intro W H
  refine sf (esk (v:=.bool false) (vs:=[.bool false]) ([.bool false]) U U U ts4 U U H (Nat.le_of_ble_eq_true U) U ?_)
  clear H;intro W H
  refine ln (kx ?_)
  refine q_M1 H (fun W H=>?_)
  refine q_cells (c:=spC none 0 0 none 0 0 0 0 0) (g:=gs) (g2:=gk) (v:=.bool false) U H U U ta49 ta4 ts49 ⟨_,U,zSp,?_,?_,(H.zc0 71 41).sub (L':=[_]) (by repeat (first|exact .refl _|exact List.nil_sublist _|refine .cons_cons _ ?_|refine .cons _ ?_))⟩
  ·unfold SpO.Is;rw [hv];exact ⟨rfl,rfl,rfl⟩
  ·rw [hv];rfl
 ·rintro D pre z W ⟨rest,hrest⟩ ⟨p0,x,n0,hpx,h0,hx,hzn,hzk,hzt⟩ H
  have hv:Wt.spent p pt=some (x.2,n0,x.1):=by unfold Wt.spent;rw [Wt.spent_flat];show Wt.spentF _ (flatP p)=_;rw [←hrest,hpx,List.append_assoc];exact Wt.spentF_hit h0 hx
  replace H:St nT w W [Fact.obj D (.deferred (some [])),Fact.zc 71 41 z.S z.A z.c z.B z.d z.t,Fact.blk gk [.bool true] 4,Fact.blk gs (z.sp) 49]:=H
  refine q_M1 H (fun W H=>?_)
  refine q_cells (c:=z.sp) (g:=gs) (g2:=gk) (v:=.bool true) U H U U ta49 ta4 ts49 ⟨_,U,z,?_,?_,H.sub (L':=[_]) (by repeat (first|exact .refl _|exact List.nil_sublist _|refine .cons_cons _ ?_|refine .cons _ ?_))⟩
  ·unfold SpO.Is;rw [hv];exact ⟨hzt,hzn,hzk⟩
  ·rw [hv];rfl
end Go.Proofs.YtjjodibkmeefpaaGreatDoor
